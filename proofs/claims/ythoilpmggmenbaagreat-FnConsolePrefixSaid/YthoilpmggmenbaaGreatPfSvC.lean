/-
 Cyclotomic polynomials; values at roots of unity.
-/
import Derived.Test.YthoilpmggmenbaaGreatPfPolyB
import Derived.Test.YthoilpmggmenbaaGreatPfSvI
set_option linter.unusedSimpArgs false
set_option linter.unusedVariables false
namespace Go.Cat
set_option maxRecDepth 100000
variable{K:Nat->List D->List D->Prop}
def cyT:List (List Int):=[[],[-1,1],[1,1],[1,1,1],[1,0,1],[1,1,1,1,1],[1,-1,1],[1,1,1,1,1,1,1],[1,0,0,0,1],[1,0,0,1,0,0,1],[1,-1,1,-1,1]]
def C4(d:Nat):List Int:=cyT.getD d []
def dvQ(a b:List Int):List Int:=DM (Ik b (Bj a b) (a,rep (Bj a b:Nat) 0)).2
def E1(d:Nat):Nat->List Int
 |0=>BE (BE (rep ((d:Int)+1) 0) 0 (-1)) d 1
 |i+1=>if d%(i+1)=0 then dvQ (E1 d i) (C4 (i+1))else E1 d i
def cyB(d:Nat):Bool:=decide (E1 d (d-1)=C4 d)&&((List.range d).all (λi=>decide ((E1 d i).length<=20))&&(List.range (d-1)).all λi=>decide (1<=(C4 (i+1)).length/\(C4 (i+1)).length<=20)&&(decide (¬d%(i+1)=0)||match GH (C4 (i+1)) (Bj (E1 d i) (C4 (i+1))) (E1 d i,rep (Bj (E1 d i) (C4 (i+1)):Nat) 0)with
  |some x=>decide (DM x.2=E1 d (i+1))
  |none=>false))
theorem cyB0:BR 10 (λd=>cyB (d+1))=true:=by kernel_rfl
theorem AKO{d:Nat}(h:1<=d/\d<=10):E1 d (d-1)=C4 d/\(∀i,i<d->(E1 d i).length<=20)/\∀i,i+1<d->(1<=(C4 (i+1)).length/\(C4 (i+1)).length<=20)/\(d%(i+1)=0->∃x,GH (C4 (i+1)) (Bj (E1 d i) (C4 (i+1))) (E1 d i,rep (Bj (E1 d i) (C4 (i+1)):Nat) 0)=some x/\DM x.2=E1 d (i+1)):=by
 have:=BY cyB0 (d-1) (by omega);rw[show d-1+1=d by omega]at this;simp only[cyB,AV,Ac]at this;obtain⟨a,b,c⟩:=this;refine⟨a,λi hi=>by simpa using Ao.1 b i (List.mem_range.2 hi),λi hi=>?_⟩;have H:=Ao.1 c i (List.mem_range.2 (by omega));simp only[AV,Ac,Bool.or_eq_true]at H;refine⟨H.1,λhd=>?_⟩;rcases H.2 with q|q;exact absurd hd q;split at q;rename_i x e;exact⟨x,e,by simpa using q⟩
 cases q
theorem AB0{d i:Nat}:E1 d (i+1)=if d%(i+1)=0 then dvQ (E1 d i) (C4 (i+1))else E1 d i:=rfl
theorem Tx{d i:Nat}:((d:Int)%((i:Int)+1)=0)↔d%(i+1)=0:=by rw[show(d:Int)%((i:Int)+1)=((d%(i+1):Nat):Int) by simp[Int.natCast_emod]];omega
theorem AN3{zs:List Int}{x:Int}(h:0<zs.length):Ax [0] (LI zs) (.n x)=some (LI (BE zs 0 x)):=Yi (i:=0) (by omega)
theorem AM0[HA K]:∀(d:Nat),1<=d->d<=10->K 599 [.n d] [LI (C4 d)]
 |d,H,l=>by
  obtain⟨C,c2,f⟩:=AKO ⟨H,l⟩;have I:∀e,1<=e->e<d->K 599 [.n e] [LI (C4 e)]:=λe h o=>AM0 e h (by omega);have R:(rep ((d:Int)+1) (0:Int)).length=d+1:=by simp[rep]
  refine qb I599 ?_;simp(disch:=try exact dV) only[AD,AN3];refine AN (λ_=>True) (λi=>[.n d,.u,LI (E1 d i),.n ((i:Int)+1),.u,.u]) (d-1) trivial rfl (λi hi _=>?_) (λ_=>?_);obtain⟨g,j⟩:=f i (by omega);have G:=c2 i (by omega);have s:=AB0 (d:=d) (i:=i);by_cases q:d%(i+1)=0;obtain⟨x,B,F⟩:=j q;have Q:=Tx.2 q;refine wW ?_;have k:=I (i+1) (by omega) (by omega);rw[show((i+1:Nat):Int)=(i:Int)+1 from rfl]at k;refine cW k ?_;have c:=ZL (K:=K) (a:=E1 d i) (b:=C4 (i+1)) (by omega) (by omega) g.1;rw[B]at c;simp only at c;refine cW c ?_;rw[F];have Q:¬((d:Int)%((i:Int)+1)=0):=λe=>q (Tx.1 e);rw[if_neg q]at s;rw[s];exact wZ;refine wW ?_;rw[C]
termination_by d=>d
theorem ANQ[HA K]:∀(d:Nat),1<=d->d<=10->K 596 [.n d] [LI (C4 d)]
 |d,b,f=>by
  obtain⟨c,c2,C⟩:=AKO ⟨b,f⟩;have I:∀e,1<=e->e<d->K 596 [.n e] [LI (C4 e)]:=λe H g=>ANQ e H (by omega);have R:(rep ((d:Int)+1) (0:Int)).length=d+1:=by simp[rep]
  refine qb I596 ?_;simp(disch:=try exact dV) only[AD,AN3];refine AN (λ_=>True) (λi=>[.n d,.u,LI (E1 d i),.n ((i:Int)+1),.u,.u]) (d-1) trivial rfl (λi hi _=>?_) (λ_=>?_);obtain⟨a,j⟩:=C i (by omega);have l:=c2 i (by omega);have h:=AB0 (d:=d) (i:=i);by_cases q:d%(i+1)=0;have Q:=Tx.2 q;rw[if_pos q]at h;rw[h];refine wW ?_;have k:=I (i+1) (by omega) (by omega);rw[show((i+1:Nat):Int)=(i:Int)+1 from rfl]at k;refine cW k ?_;exact cZ (YB (by omega) (by omega) a.1);have Q:¬((d:Int)%((i:Int)+1)=0):=λe=>q (Tx.1 e);rw[if_neg q]at h;rw[h];exact wZ;refine wW ?_;rw[c]
termination_by d=>d
def Pv(r:List Int):Int×Bool:=if r.length=0 then(0,true)else if r.length=1 then(AB r 0,true)else(0,false)
def vrR(n d:Nat):List Int:=DM (Ik (C4 d) (Bj (BZ n) (C4 d)) (BZ n,rep (Bj (BZ n) (C4 d):Nat) 0)).1
def HF(n d:Nat):Int×Bool:=Pv (vrR n d)
def G2(p:List Int)(d:Nat):Nat->List Int
 |0=>rep d 0
 |i+1=>BE (G2 p d i) (i%d:Nat) (AB (G2 p d i) (i%d:Nat)+AB p i)
theorem Xk{p:List Int}{d:Nat}:∀i,(G2 p d i).length=d
 |0=>by simp[G2,rep]
 |i+1=>by simp only[G2,DN,Xk i]
def PH(n d:Nat):Bool:=Ji (BZ n)&&(decide ((BZ n).length<=30)&&(decide (1<=(C4 d).length/\(C4 d).length<=20)&&((BZ n).all (AR 0 100)&&((List.range (BZ n).length).all (λi=>(G2 (BZ n) d i).all (AR 0 1000))&&match GH (C4 d) (Bj (G2 (BZ n) d (BZ n).length) (C4 d)) (G2 (BZ n) d (BZ n).length,rep (Bj (G2 (BZ n) d (BZ n).length) (C4 d):Nat) 0)with
  |some x=>decide (Pv (DM x.1)=HF n d)
  |none=>false))))
theorem vrB0:BR 5 (λn=>BR 10 λd=>PH (n+1) (d+1))=true:=by kernel_rfl
theorem Xt{n d:Nat}(h:1<=n/\n<=5)(hd:1<=d/\d<=10):PH n d=true:=by have:=BY (BY vrB0 (n-1) (by omega)) (d-1) (by omega);rwa [show n-1+1=n by omega,show d-1+1=d by omega]at this
theorem AS5{a b:Int}{l:List Int}(h:l.all (AR a b)=true){j:Nat}(H:j<l.length):a<=AB l j/\AB l j<=b:=by
 have:=Ao.1 h l[j] (List.getElem_mem H);have e:AB l (j:Nat)=l[j]:=by simp[AB,H]
 rw[e];exact A7.1 this
theorem AhS[HA K]{n d:Nat}(s:1<=n/\n<=5)(hd:1<=d/\d<=10):K 588 [LI (BZ n),.n d] [.n (HF n d).1,.b (HF n d).2]:=by
 have h:=Xt s hd;simp only[PH,AV,Ac]at h;obtain⟨b1,b2,e,f,g,B⟩:=h;obtain⟨x,F,G⟩:∃x,GH (C4 d) (Bj (G2 (BZ n) d (BZ n).length) (C4 d)) (G2 (BZ n) d (BZ n).length,rep (Bj (G2 (BZ n) d (BZ n).length) (C4 d):Nat) 0)=some x/\Pv (DM x.1)=HF n d:=by
  split at B;rename_i x C;exact⟨x,C,by simpa using B⟩
  cases B
 have H:AR 1 16 (d:Int)=true:=A7.2 (by omega);rw[<-G];refine qw I588 ?_;refine cB (ATJ (by omega)) ?_;rw[b1];refine wW ?_;refine cB Br ?_;rw[H];refine wW ?_;refine AN (λ_=>True) (λi=>[.u,.n d,.u,.u,LI (G2 (BZ n) d i),.u,.u,.u,.u,LI (BZ n),.n (BZ n).length,.n i,.u,.u,.u,.u]) (BZ n).length trivial rfl (λi hi _=>?_) (λ_=>?_);have l:=Xk (p:=BZ n) (d:=d) i;have q:i%d<d:=Nat.mod_lt _ (by omega);have o:(i:Int)%(d:Int)=((i%d:Nat):Int):=by simp[Int.natCast_emod]
 have v1:=AS5 f (j:=i) hi;have v2:=AS5 (Ao.1 g i (List.mem_range.2 hi)) (j:=i%d) (by rw[l];exact q);simp(disch:=try exact dV) only[AD,o];rfl;have l:=Xk (p:=BZ n) (d:=d) (BZ n).length;refine wW ?_;refine cW (AM0 d hd.1 hd.2) ?_;have k:=ZL (K:=K) (a:=G2 (BZ n) d (BZ n).length) (b:=C4 d) (by omega) (by omega) e.1;rw[F]at k;simp only at k;refine cB k ?_;generalize DM x.1=r;unfold Pv;by_cases h0:r.length=0;rw[if_pos h0];exact wZ;rw[if_neg h0];by_cases c:r.length=1;rw[if_pos c];exact wZ;rw[if_neg c];exact wZ
theorem Ab2[HA K]{n d:Nat}(c:1<=n/\n<=5)(hd:1<=d/\d<=10):K 585 [LI (BZ n),.n d] [.n (HF n d).1,.b (HF n d).2]:=by have h:=Xt c hd;simp only[PH,AV,Ac]at h;obtain⟨b1,b2,B,_,_,_⟩:=h;have H:AR 1 16 (d:Int)=true:=A7.2 (by omega);refine qw I585 ?_;refine cB (AUQ (by omega)) ?_;rw[b1];refine wW ?_;refine cB Bt ?_;rw[H];refine wW ?_;refine cW (ANQ d hd.1 hd.2) ?_;refine cB (YB (by omega) (by omega) B.1) ?_;rw[HF,vrR];generalize DM (Ik (C4 d) (Bj (BZ n) (C4 d)) (BZ n,rep (Bj (BZ n) (C4 d):Nat) 0)).1=r;unfold Pv;by_cases h0:r.length=0;rw[if_pos h0];exact wZ;rw[if_neg h0];by_cases a:r.length=1;rw[if_pos a];exact wZ;rw[if_neg a];exact wZ
end Go.Cat
namespace Go.Cat
set_option maxRecDepth 100000
variable{K:Nat->List D->List D->Prop}
abbrev tvg:List (Nat×IF):=[(589,I589.v)]
abbrev tvo:List (Nat×IF):=[(586,I586.v)]
def Tn(x:Option (List D))(v:Nat):Bool:=match x with
 |some [.i .i64 z]=>decide (z=v)
 |_=>false
theorem AL6{x:Option (List D)}{v:Nat}(h:Tn x v=true):x=some [.n v]:=by
 unfold Tn at h;split at h;rw[Ac]at h;rw[h]
 cases h
theorem gc0:BR 10 (λo=>BR (o+1) λk=>Tn (Ec (E8 tvg) 100 20 589 [.n ((o+1:Nat):Int),.n (k:Nat)]) (Nat.gcd (o+1) k))=true:=by kernel_rfl
theorem od0:BR 10 (λo=>BR (o+1) λk=>Tn (Ec (E8 tvo) 100 20 586 [.n ((o+1:Nat):Int),.n (k:Nat)]) ((o+1)/Nat.gcd (o+1) k))=true:=by kernel_rfl
theorem AgQ[HA K]{o k:Nat}(H:1<=o/\o<=10)(h:k<o):K 589 [.n o,.n k] [.n (Nat.gcd o k)]:=by have:=AL6 (BY (BY gc0 (o-1) (by omega)) k (by omega));rw[show o-1+1=o by omega]at this;exact run tvg 100 20 589 this
theorem AU7[HA K]{o k:Nat}(H:1<=o/\o<=10)(h:k<o):K 586 [.n o,.n k] [.n (o/Nat.gcd o k:Nat)]:=by have:=AL6 (BY (BY od0 (o-1) (by omega)) k (by omega));rw[show o-1+1=o by omega]at this;exact run tvo 100 20 586 this
theorem AAC{o k:Nat}(a:1<=o/\o<=10):1<=o/Nat.gcd o k/\o/Nat.gcd o k<=10:=by have h:0<Nat.gcd o k:=Nat.gcd_pos_of_pos_left _ (by omega);have H:Nat.gcd o k<=o:=Nat.gcd_le_left _ (by omega);exact⟨Nat.div_pos H h,Nat.le_trans (Nat.div_le_self _ _) a.2⟩
theorem Yd{f n:Nat}(h:f<3)(H:1<=n/\n<=5):1<=Bf f n/\Bf f n<=10:=by rcases f3 h with rfl|rfl|rfl<;>simp only[Bf]<;>omega
noncomputable def Hw(f n k:Nat):Bool:=(HF n (Bf f n/Nat.gcd (Bf f n) k)).2&&decide ((HF n (Bf f n/Nat.gcd (Bf f n) k)).1=IE f n k)
noncomputable def LO(f n:Nat):Bool:=(List.range (Bf f n)).all (Hw f n)
theorem AKT{f n:Nat}(h:∀k,k<Bf f n->Hw f n k=true):LO f n=true:=Ao.2 λk H=>h k (List.mem_range.1 H)
theorem Tz{f n k:Nat}(H:k<Bf f n)(h:Hw f n k=false):LO f n=false:=by rw[Bool.eq_false_iff];intro q;have:=Ao.1 q k (List.mem_range.2 H);rw[h]at this;cases this
theorem Af5[HA K]{f n:Nat}(H:f<3)(h:1<=n/\n<=5):K 570 [.s (BU f),.n n] [.b (LO f n)]:=by
 have o:=Yd H h;refine qw I570 ?_;refine cW (Qi H h) ?_;refine cB AII ?_;rw[show AR 0 7 (n:Int)=true from A7.2 (by omega)];refine wW ?_;refine AN (λi=>∀j,j<i->Hw f n j=true) (λi=>[.s (BU f),.n n,.u,.n (Bf f n),LI (BZ n),.b true,.n i,.u,.u,.u,.u]) (Bf f n) (by omega) rfl (λi hi P=>?_) (λP=>?_);have hd:=AAC (k:=i) o;refine wW ?_;refine cW (AU7 o hi) ?_;refine cB (Ab2 h hd) ?_
 cases q1:(HF n (Bf f n/Nat.gcd (Bf f n) i)).2;refine wW ?_;rw[Tz hi (by simp[Hw,q1])];refine wW ?_;refine cB (AEA H h hi) ?_;by_cases q:(HF n (Bf f n/Nat.gcd (Bf f n) i)).1=IE f n i;refine wW ?_;exact Bg P (by simp[Hw,q1,q]);refine wW ?_;rw[Tz hi (by simp[Hw,q])];refine wW ?_;rw[AKT P]
theorem AkF{a b c d e f:List Nat}:DK [.s a,.s b,.s c,.s d,.s e,.s f]=some (LS [a,b,c,d,e,f]):=rfl
theorem AhT{a b:List Nat}:DK [.s a,.s b]=some (LS [a,b]):=rfl
theorem AfZ{p:List Int}(h:p.length<=30):(Fg p).length<=1000:=by
 unfold Fg;split;simp;rename_i q;have H:DX p=true:=by
  cases hq:DX p with
  |true=>rfl
  |false=>exact absurd (.inr hq) q
 have:=IN (sep:=[44]) (UW H) (Ek p).length;rw[glue];rw[WX]at this|-;simp only[AP,A5]at this;have a:p.length*(20+(0+1))<=30*21:=Nat.mul_le_mul h (by omega);omega
theorem AdY[HA K]{f n:Nat}(H:f<3)(h:1<=n/\n<=5):K 574 [.s (BU f),.n n] [.b (LO f n)]:=by
 have o:=Yd H h;refine qw I574 ?_;refine cW (SN H h) ?_;refine cB Za ?_;rw[show AR 0 7 (n:Int)=true from A7.2 (by omega)];refine wW ?_;refine AN (λi=>∀j,j<i->Hw f n j=true) (λi=>[.s (BU f),.n n,.u,.n (Bf f n),LI (BZ n),.n i,.u,.u,.u,.u,.u]) (Bf f n) (by omega) rfl (λi hi P=>?_) (λP=>?_);have hd:=AAC (k:=i) o;have g:0<Nat.gcd (Bf f n) i:=Nat.gcd_pos_of_pos_left _ (by omega);have e:(Bf f n:Int)/(Nat.gcd (Bf f n) i:Int)=((Bf f n/Nat.gcd (Bf f n) i:Nat):Int):=by simp
 refine wW ?_;refine cB (AgQ o hi) ?_;simp(disch:=try exact dV) only[AD,e];refine cB (AhS h hd) ?_
 cases q1:(HF n (Bf f n/Nat.gcd (Bf f n) i)).2;refine wW ?_;rw[Tz hi (by simp[Hw,q1])];refine wW ?_;refine cB (AP9 H h hi) ?_;by_cases q:(HF n (Bf f n/Nat.gcd (Bf f n) i)).1=IE f n i;refine wW ?_;exact Bg P (by simp[Hw,q1,q]);refine wW ?_;rw[Tz hi (by simp[Hw,q])];refine wW ?_;rw[AKT P]
def H5(f n k:Nat):List Int:=(List.range k).map λk=>(IE f n k:Int)
theorem X8{f n k:Nat}:(H5 f n k).length=k:=by simp[H5]
theorem ASP{f n k:Nat}:H5 f n (k+1)=H5 f n k++[(IE f n k:Int)]:=by simp[H5,List.range_succ]
theorem AhD{f n k:Nat}(a:n<=5):IE f n k<=132:=by have h:=L8 (n:=n) (by omega);have H:=List.countP_le_length (p:=λw=>decide (t15 f n k w=w)) (l:=AI n);simp only[IE];omega
theorem AlL{f n k:Nat}(H:n<=5):HQ (H5 f n k):=λy h=>by
 simp only[H5,List.mem_map]at h
 obtain⟨j,_,rfl⟩:=h
 have:=AhD (f:=f) (n:=n) (k:=j) H
 omega
theorem Zc{L:List Int}(hL:L.length<=132):∀i,(iter (D1 L) i ([],List.replicate L.length false)).1.length<=i/\HQ (iter (D1 L) i ([],List.replicate L.length false)).1
 |0=>⟨by simp[iter],λy h=>by simp[iter]at h⟩
 |i+1=>by obtain⟨b,H⟩:=Zc hL i;have hi:=(TG (L:=L) (f:=L.length) (a:=i) (s:=0) (B:=(iter (D1 L) i ([],List.replicate L.length false)).2)).2.2;simp only[iter,D1];split;refine⟨by simp only[AW,AP,A5];omega,λy h=>?_⟩;rcases A9.1 h with q|q;exact H y q;rw[List.mem_singleton.1 q];omega;exact⟨by omega,H⟩
theorem AcZ{p:List Int}:10∉Fg p:=by unfold Fg;split;decide;exact KU (by decide) (NW λ_=>Fh) _
theorem V9[HA K]{f n:Nat}(a:f<3)(h:1<=n/\n<=5):∃v,(v≠[]/\Nw v)/\K 558 [.s (BU f),.n n] [.s v]/\K 557 [.s (BU f),.n n] [.s v]:=by
 have I:=Yd a h;have J:=L8 (n:=n) (by omega);have hL:=Mg (f:=f) (n:=n);have g:(BZ n).length<=30:=by have:=Xt h (d:=1) (by omega);simp only[PH,AV,Ac]at this;exact this.2.1
 have b:=AlL (f:=f) (n:=n) (k:=Bf f n) h.2;have x:=X8 (f:=f) (n:=n) (k:=Bf f n);obtain⟨O,F⟩:=Zc (L:=Av f n) (by omega) (Av f n).length;have c:HQ (JU (Av f n)):=F;have B:(JU (Av f n)).length<=(Av f n).length:=O;have N:=JN b;have M:=JN c;have P:=AfZ (p:=BZ n) g;have q:AR 0 7 (n:Int)=true:=A7.2 (by omega);obtain⟨s1,H⟩:∃s,s=[115,105,101,118,101,32]++Fg (BZ n)++[32,102,105,120,101,100,32]++EP (H5 f n (Bf f n))++[32,111,114,98,105,116,115,32]++EP (JU (Av f n)):=⟨_,rfl⟩;have C:s1.length<=50000:=by rw[H];simp;omega
 have N:s1≠[]/\10∉s1:=by rw[H];exact⟨by simp,by simp[AcZ,Su]⟩
 have G:glue [32] [[115,105,101,118,101],Fg (BZ n),[102,105,120,101,100],EP (H5 f n (Bf f n)),[111,114,98,105,116,115],EP (JU (Av f n))]=s1:=by rw[H];simp[glue,BH,AF]
 have l:=IM (K:=K) (ws:=[[115,105,101,118,101],Fg (BZ n),[102,105,120,101,100],EP (H5 f n (Bf f n)),[111,114,98,105,116,115],EP (JU (Av f n))]) (by simp) (by simp;omega);rw[G]at l;have o:glue [32] [s1,[104,111,108,100,115]]=s1++[32,104,111,108,100,115]:=by simp[glue,BH,AF]
 have e:=IM (K:=K) (ws:=[s1,[104,111,108,100,115]]) (by simp) (by simp;omega);rw[o]at e;refine⟨if LO f n=true then s1++[32,104,111,108,100,115]else s1,by split<;>first|exact⟨N.1,by omega,N.2⟩|exact⟨by simp,by simp;omega,by simp[N.2]⟩,?_,?_⟩;refine qw AAS ?_;refine cW (SN a h) ?_;refine cW Za ?_;refine AN (λ_=>True) (λi=>[.s (BU f),.n n,.u,.u,LI (BZ n),LI (H5 f n i),.u,.u,.u,.u,.n (Bf f n),.n i,.u,.u]) (Bf f n) trivial rfl (λi hi _=>?_) (λ_=>?_);have j:=X8 (f:=f) (n:=n) (k:=i);refine wW ?_;refine cW (AP9 a h hi) ?_;rw[ASP];refine wW ?_;refine cW (AkK a h) ?_;refine cW (AXM (by omega)) ?_;refine cW (PY (by omega) b) ?_;refine cB (PY (by omega) c) ?_;simp(disch:=try exact dV) only[AD,AkF];refine cW l ?_;refine cB (AdY a h) ?_
 cases hd:LO f n;refine wW ?_;rw[if_neg (by simp)];simp(disch:=try exact dV) only[AD,AhT];exact cZ e;refine qw APZ ?_;refine cW (Qi a h) ?_;refine cW AII ?_;refine AN (λ_=>True) (λi=>[.s (BU f),.n n,.u,.n (Bf f n),LI (BZ n),LI (H5 f n i),.n i,.u,.u,.u,.u,.u]) (Bf f n) trivial rfl (λi hi _=>?_) (λ_=>?_);have j:=X8 (f:=f) (n:=n) (k:=i);refine wW ?_;refine cW (AEA a h hi) ?_;rw[ASP];refine wW ?_;refine cW (AfP a h) ?_;refine cW (AjE (by omega)) ?_;refine cW (QU (by omega) b) ?_;refine cW (QU (by omega) c) ?_;refine cB (Af5 a h) ?_
 cases hd:LO f n;refine wW ?_;rw[if_neg (by simp),H];simp;refine wW ?_;rw[H];simp
theorem AWV[HA K](s:List Nat)(a:Int):∃v,Nw v/\K 558 [.s s,.n a] [.s v]/\K 557 [.s s,.n a] [.s v]:=by
 have o:AR 1 5 a=false\/(s≠BU 0/\s≠BU 1/\s≠BU 2)->∃v,Nw v/\K 558 [.s s,.n a] [.s v]/\K 557 [.s s,.n a] [.s v]:=λh=>by
  refine⟨[],⟨by simp,by simp⟩,?_,?_⟩
  .refine qw AAS ?_;exact cZ (Ac9 h)
  .refine qw APZ ?_;exact cZ (Af4 h)
 cases hin:AR 1 5 a with
 |false=>exact o (.inl hin)
 |true=>
  have h:=A7.1 hin
  obtain⟨n,rfl⟩:=CJ (by omega:0<=a)
  by_cases h0:s=BU 0
  .rw[h0]
   obtain⟨v,H,k⟩:=V9 (K:=K) (f:=0) (n:=n) (by omega) (by omega)
   exact⟨v,H.2,k⟩
  .by_cases b:s=BU 1
   .rw[b]
    obtain⟨v,H,k⟩:=V9 (K:=K) (f:=1) (n:=n) (by omega) (by omega)
    exact⟨v,H.2,k⟩
   .by_cases c:s=BU 2
    .rw[c]
     obtain⟨v,H,k⟩:=V9 (K:=K) (f:=2) (n:=n) (by omega) (by omega)
     exact⟨v,H.2,k⟩
    .exact o (.inr ⟨h0,b,c⟩)
end Go.Cat
namespace Go.Cat
variable{K:Nat->List D->List D->Prop}
def Oe(x y:BT):Option BT:=(CO BB x x.n).find? λz=>Cy z y
theorem ACP{x z:BT}(h:z∈CO BB x x.n):∃v:Nat,v<x.n/\BB x (v:Nat)=some z:=by simp only[CO,List.mem_filterMap,List.mem_range]at h;exact h
theorem AB6{x y:BT}(h:Gy x y)(a:x≠y):∃z,Oe x y=some z/\Gy z y/\x.w.sum<z.w.sum/\z.n=x.n:=by
 obtain⟨v,z,g,i,l⟩:=AGD h (λe=>a (Ty e));have s:(Oe x y).isSome=true:=by simp only[Oe,List.find?_isSome];exact⟨z,by simp only[CO,List.mem_filterMap,List.mem_range];exact⟨v,g,i⟩,Jm.2 l⟩
 obtain⟨u,b⟩:=Option.isSome_iff_exists.1 s;have c:=List.find?_some b;obtain⟨k,f,H⟩:=ACP (List.mem_of_find?_eq_some b);exact⟨u,b,Jm.1 c,AOC f H,Fx H⟩
def FF(y:BT):Nat->BT->List BT
 |0,_=>[]
 |k+1,x=>if x.t=y.t then []else match Oe x y with
  |none=>[]
  |some z=>z::FF y k z
theorem AOI{y:BT}:∀{k:Nat}{x:BT},(FF y k x).length<=k
 |0,x=>by simp[FF]
 |k+1,x=>by simp only[FF];split;simp;split;simp;rename_i z _;have:=AOI (y:=y) (k:=k) (x:=z);simp only[AP];omega
theorem ADZ{y z:BT}{k:Nat}(h:z.t=y.t):FF y k z=[]:=by
 cases k with
 |zero=>rfl
 |succ k=>simp only[FF,if_pos h]
theorem Aa1{l:List BT}{i:Nat}(h:i<l.length):AF (l.map BT.t) (i:Nat)=(l[i]).t:=by simp[AF,h]
abbrev ocC(x y:BT):D:=.g [.n 1,.s x.t,.s y.t,LS (x.t::(FF y 64 x).map BT.t),.l [],.l [],.l []]
abbrev UE:D:=.g [.n 0,.s [],.s [],.l [],.l [],.l [],.l []]
theorem AGL{x:List (List Nat)}:CK 1 (LS x,1)=true:=by simp[CK,LS,D.one,C0,D.flat]
theorem AJ2:CK 1 (.l [],1)=true:=by simp[CK,D.one,C0,D.flat]
theorem AkZ[HA K][Da K]{x y:BT}(J:x.n<=8)(B:y.n<=8)(h:Gy x y):K 340 [.s x.t,.s y.t] [ocC x y,.b true]:=by
 have M:=N5 (K:=K) J B;rw[Jm.2 h]at M;have wx:=RE J;have wy:=RE B;refine qw AKS ?_;refine cW M ?_;refine Bd (λ(s:Nat×BT×List (List Nat))=>Gy s.2.1 y/\s.2.1.n=x.n/\y.w.sum-s.2.1.w.sum<=s.1/\s.2.2.length+s.1<=65/\s.2.2++(FF y s.1 s.2.1).map BT.t=x.t::(FF y 64 x).map BT.t) (λs=>[.u,.s y.t,UE,.u,.g [.n 1,.s x.t,.s y.t,LS s.2.2,.l [],.l [],.l []],.s s.2.1.t,.u,.u,.u,.u,.u,.u,.u,.u]) (λs=>s.1) (64,x,[x.t]) ⟨h,rfl,by show y.w.sum-x.w.sum<=64;omega,by simp,rfl⟩ rfl ?_;rintro⟨k,z,acc⟩ ⟨I,O,P,Q,G⟩;simp only at I O P Q G|-;by_cases q:z.t=y.t;rw[ADZ q,List.map_nil,List.append_nil]at G;have j:(z.t==y.t)=true:=by rw[beq_iff_eq];exact q
 simp(disch:=try exact dV) only[AD,Dx,Dq,F2,EJ,AGL,AJ2,j];rw[G];obtain⟨w,C,F,Y,Z⟩:=AB6 I (λe=>q (by rw[e]));have e5:=XG F;have j:(z.t==y.t)=false:=by rw[beq_eq_false_iff_ne];exact q
 cases k with
 |zero=>omega
 |succ k=>
  have N:FF y (k+1) z=w::FF y k w:=by simp only[FF,if_neg q,C]
  rw[N]at G
  obtain⟨pw,L,U,o,H⟩:=List.find?_eq_some_iff_getElem.1 C
  have hl:=Fl (f:=BB) (x:=z) (k:=z.n)
  simp(disch:=try exact dV) only[AD,j]
  refine cW (AFZ (by omega)) ?_
  refine AN (λi=>i<=L) (λi=>[.u,.s y.t,UE,.u,.g [.n 1,.s x.t,.s y.t,LS acc,.l [],.l [],.l []],.s z.t,.u,.u,.u,D9 (CO BB z z.n),.n (CO BB z z.n).length,.n i,.u,.u]) (CO BB z z.n).length (Nat.zero_le _) (by simp) (λi hi R=>?_) (λR=>by omega)
  have c:=Aa1 hi
  obtain⟨v,hv,V⟩:=ACP (List.getElem_mem hi)
  have en:=Fx V
  have a:=N5 (K:=K) (x:=(CO BB z z.n)[i]) (y:=y) (by omega) B
  by_cases W:i=L
  .subst W
   rw[o]at c a
   rw[pw]at a
   simp(disch:=try exact dV) only[AD,c]
   refine cB a ?_
   simp(disch:=try exact dV) only[AD,Dx,Dq,F2,EJ,AeZ,U3,VM,Option.map_some,List.set]
   exact⟨(k,w,acc++[w.t]),by simp,⟨F,by simp only;omega,by simp only;omega,by simp;omega,by simp only;rw[<-G];simp⟩,rfl⟩
  .have:=H i (by omega)
   have T:Cy (CO BB z z.n)[i] y=false:=by simpa using this
   rw[T]at a
   simp(disch:=try exact dV) only[AD,c]
   refine cW a ?_
   omega
def NT(x:BT)(i:Nat):List BT:=(List.range' (x.n-i) i).filterMap λj:Nat=>BB x j
theorem AcF{x:BT}:NT x x.n=CO BB x x.n:=by simp only[NT,CO,Nat.sub_self,List.range_eq_range']
theorem AUJ{x:BT}{i:Nat}(h:i<x.n):NT x (i+1)=(BB x ((x.n-1-i:Nat):Int)).toList++NT x i:=by
 simp only[NT];rw[show x.n-(i+1)=x.n-1-i by omega,List.range'_succ,show x.n-1-i+1=x.n-i by omega,List.filterMap_cons]
 cases BB x ((x.n-1-i:Nat):Int)<;>simp
theorem AWA[HA K]{x y:BT}(B:x.n<=8)(j:y.n<=8)(h:Gy x y):K 339 [.s x.t,.s y.t] [ocC x y,.b true]:=by
 have C:=NA (K:=K) B j;rw[Jm.2 h]at C;have W:=RE B;have T:=RE j;refine qw ABX ?_;refine cW C ?_;refine Bd (λ(s:Nat×BT×List (List Nat))=>Gy s.2.1 y/\s.2.1.n=x.n/\y.w.sum-s.2.1.w.sum<=s.1/\s.2.2.length+s.1<=65/\s.2.2++(FF y s.1 s.2.1).map BT.t=x.t::(FF y 64 x).map BT.t) (λs=>[.s x.t,.s y.t,UE,.u,LS s.2.2,.s s.2.1.t,.u,.u,.u,.u,.u,.u,.u,.u]) (λs=>s.1) (64,x,[x.t]) ⟨h,rfl,by show y.w.sum-x.w.sum<=64;omega,by simp,rfl⟩ rfl ?_;rintro⟨k,z,acc⟩ ⟨G,L,M,N,g⟩;simp only at G L M N g|-;by_cases q:z.t=y.t;rw[ADZ q,List.map_nil,List.append_nil]at g;have c:(z.t==y.t)=true:=by rw[beq_iff_eq];exact q
 simp(disch:=try exact dV) only[AD,Dx,Dq,F2,EJ,AGL,AJ2,c];rw[g];obtain⟨w,l,o,O,Q⟩:=AB6 G (λe=>q (by rw[e]));have R:=XG o;have c:(z.t==y.t)=false:=by rw[beq_eq_false_iff_ne];exact q
 cases k with
 |zero=>omega
 |succ k=>
  have I:FF y (k+1) z=w::FF y k w:=by simp only[FF,if_neg q,l]
  rw[I]at g
  simp(disch:=try exact dV) only[AD,c]
  refine cW (Ee (by omega)) ?_
  refine Ah (λi (r:List Nat)=>r=(((NT z i).find? λu=>Cy u y).map BT.t).getD []) (λi r=>[.s x.t,.s y.t,UE,.u,LS acc,.s z.t,.s r,.n ((z.n:Int)-1-i),.u,.u,.u,.u,.u,.u]) z.n [] rfl (by simp) (λi r hi P=>?_) (λr P=>?_)
  .have ev:(z.n:Int)-1-i=((z.n-1-i:Nat):Int):=by omega
   have H:=AUJ hi
   refine wW ?_
   have F:=VO (K:=K) (x:=z) (v:=(z.n:Int)-1-i) (by omega) (by omega)
   have J:BB z ((z.n:Int)-1-i)=BB z ((z.n-1-i:Nat):Int):=by rw[ev]
   rw[Em,J]at F
   refine cB F ?_
   cases f:BB z ((z.n-1-i:Nat):Int)with
   |none=>
    rw[f]at H
    simp only[Option.isSome_none,Option.elim_none]
    refine wW ?_
    refine⟨r,?_,by simp;omega⟩
    rw[P,H];simp
   |some u=>
    rw[f]at H
    have un:=Fx f
    simp only[Option.isSome_some,Option.elim_some]
    refine wW ?_
    refine cB (NA (by omega) j) ?_
    cases hb:Cy u y with
    |false=>
     refine wW ?_
     refine⟨r,?_,by simp;omega⟩
     rw[P,H];simp[hb]
    |true=>
     refine wW ?_
     refine⟨u.t,?_,by simp;omega⟩
     rw[H];simp[hb]
  .rw[AcF]at P
   have a:=l
   simp only[Oe]at a
   rw[a]at P
   simp only[Option.map_some,Option.getD_some]at P
   subst P
   simp(disch:=try exact dV) only[AD,EJ]
   exact⟨(k,w,acc++[w.t]),by simp,⟨o,by simp only;omega,by simp only;omega,by simp;omega,by simp only;rw[<-g];simp⟩,rfl⟩
end Go.Cat
namespace Go.Cat
variable{K:Nat->List D->List D->Prop}
theorem AbN[HA K](a b:List Nat):∃r,K 350 [.s a,.s b] [.b r]/\K 349 [.s a,.s b] [.b r]/\(r=true->∃x y:BT,a=x.t/\b=y.t/\x.n<=8/\y.n<=8/\Gy x y):=by
 cases ha:Az a with
 |false=>
  refine⟨false,?_,?_,by simp⟩
  .refine qw YU ?_
   exact cZ (AEH ha)
  .refine qw Wj ?_
   exact cZ (US ha)
 |true=>
  obtain⟨x,rfl,H⟩:=FX ha
  cases hb:Az b with
  |false=>
   refine⟨false,?_,?_,by simp⟩
   .refine qw YU ?_
    exact cZ (AB3 H hb)
   .refine qw Wj ?_
    exact cZ (YA H hb)
  |true=>
   obtain⟨y,rfl,c⟩:=FX hb
   exact⟨Cy x y,N5 H c,NA H c,λh=>⟨x,y,rfl,rfl,H,c,Jm.1 h⟩⟩
theorem Ak6[HA K][Da K](a b:List Nat):∃(k:Int)(f s:List Nat)(t:List (List Nat))(r:Bool),t.length<=100/\f.length<=a.length/\K 340 [.s a,.s b] [CL k f s t [] [] [],.b r]/\K 339 [.s a,.s b] [CL k f s t [] [] [],.b r]:=by
 obtain⟨r,e,g,i⟩:=AbN (K:=K) a b
 cases r with
 |true=>
  obtain⟨x,y,rfl,rfl,H,c,h⟩:=i rfl
  have l:=AOI (y:=y) (k:=64) (x:=x)
  exact⟨1,x.t,y.t,x.t::(FF y 64 x).map BT.t,true,by simp;omega,Nat.le_refl _,AkZ H c h,AWA H c h⟩
 |false=>
  refine⟨0,[],[],[],false,by simp,by simp,?_,?_⟩
  .refine qw AKS ?_
   exact cZ e
  .refine qw ABX ?_
   exact cZ g
end Go.Cat
namespace Go.Cat
variable{K:Nat->List D->List D->Prop}
theorem Tt{x:List (List Nat)}:CK 1 (LS x,1)=true:=by simp[CK,LS,D.one,C0,D.flat]
theorem D0:CK 1 (.l [],1)=true:=by simp[CK,D.one,C0,D.flat]
theorem cd_t[HA K]{a b:List Nat}{t:List (List Nat)}(h:t.length<=43)(H:0<t.length)(k:K 348 [.s a,.s b] [LS t,.b true])(ks:K 347 [.s a,.s b] [LS t,.b true]):K 338 [.s a,.s b] [CL 2 a b t [] [] [],.b true]/\K 337 [.s a,.s b] [CL 2 a b t [] [] [],.b true]:=by constructor;refine qw AGJ ?_;refine cB k ?_;simp(disch:=try exact dV) only[AD,Tt,D0];rfl;refine qw AEJ ?_;refine cB ks ?_;simp(disch:=try exact dV) only[AD,Tt,D0];rfl
theorem AbL[HA K][Da K](a b:List Nat):∃(k:Int)(f s:List Nat)(t:List (List Nat))(r:Bool),t.length<=100/\f.length<=a.length/\K 338 [.s a,.s b] [CL k f s t [] [] [],.b r]/\K 337 [.s a,.s b] [CL k f s t [] [] [],.b r]:=by
 obtain⟨t,r,h,H,i,ks⟩:=Pm (K:=K) a b
 cases r with
 |true=>
  exact⟨2,a,b,t,true,by omega,Nat.le_refl _,cd_t h (H rfl) i ks⟩
 |false=>
  refine⟨0,[],[],[],false,by simp,by simp,?_,?_⟩
  .refine qw AGJ ?_
   refine cB i ?_
   simp(disch:=try exact dV) only[AD,Tt,D0]
   rfl
  .refine qw AEJ ?_
   refine cB ks ?_
   simp(disch:=try exact dV) only[AD,Tt,D0]
   rfl
end Go.Cat
namespace Go.Cat
variable{K:Nat->List D->List D->Prop}
theorem Mr{x:List Int}:CK 1 (LI x,1)=true:=by simp[CK,LI,D.one,C0,D.flat]
theorem M9:CK 1 (.l [],1)=true:=by simp[CK,D.one,C0,D.flat]
theorem AIR{p:List Int}(h:p.length<=1048576):EG true (.l []) (LI p)=some (LI p):=RP (zs:=[]) (by simp;omega)
noncomputable def KJ(p:List Int):Int:=if DH p=true then 3 else if Cb p=true then 4 else 0
noncomputable def Hu(p:List Int):List Int:=if Cb p=true then p else []
noncomputable def IH(p:List Int):List Int:=if DH p=true then []else if Cb p=true then IJ p else []
noncomputable abbrev KP(p:List Int):D:=CL (KJ p) (DT p) [] [] (Hu p) (IH p) []
theorem AhY[HA K]{p:List Int}(h:p.length<=1048576):K 121 [LI p] [KP p,.b (Cb p)]:=by
 refine qw I121 ?_;refine cB (Pc (by omega)) ?_
 cases H:Cb p;have e:DH p=false:=by simp[DH,H]
 have a:DT p=[]:=by simp[DT,e]
 simp only[KP,KJ,Hu,IH,e,a,H];simp(disch:=omega) only[AD,Mr,M9];rfl;have c:=(Qb H).1;refine wW ?_;refine cB (AiY (by omega)) ?_
 cases o:DH p;have a:DT p=[]:=by simp[DT,o]
 simp only[KP,KJ,Hu,IH,o,a,H];refine wW ?_;refine cW (Ai2 (by omega)) ?_;refine cB (Px (by omega)) ?_;simp(disch:=omega) only[AD,Mr,M9];rfl;simp only[KP,KJ,Hu,IH,o,H];refine wW ?_;refine cB (Px (by omega)) ?_;simp(disch:=omega) only[AD,Mr,M9];rfl
theorem AiT[HA K]{p:List Int}(h:p.length<=1048576)(H:Cb p=false):K 156 [LI p] [.s [],.b false]:=by refine qw AP0 ?_;repeat(refine cB (Mh (by omega)) ?_;try simp(disch:=omega) only[AD,H])
theorem AVF[HA K]{p:List Int}(h:p.length<=1048576)(c:Cb p=false):K 49 [LI p] [LI [],.b false]:=by have H:=ASB (K:=K) (p:=p) h;obtain⟨e,a⟩:=SM c;rw[e,a]at H;exact H
theorem AgJ[HA K]{p:List Int}(h:p.length<=1048576):K 120 [LI p] [KP p,.b (Cb p)]:=by
 refine qb I120 ?_
 cases H:Cb p;have e:DH p=false:=by simp[DH,H]
 have a:DT p=[]:=by simp[DT,e]
 simp only[KP,KJ,Hu,IH,e,a,H];refine wW ?_;refine cW (AiT h H) ?_;refine cB (AVF h H) ?_;simp(disch:=omega) only[AD,Mr,M9];rfl;have f:=(Qb H).1;refine wW ?_;refine cB (AJW (by omega)) ?_
 cases o:DH p;have a:DT p=[]:=by simp[DT,o]
 have c:IG p=true:=by rw[AW2];simpa[DH,FH,H]using o
 simp only[KP,KJ,Hu,IH,o,a,H];refine wW ?_;refine cB (ASB (by omega)) ?_;simp(disch:=omega) only[AD,Mr,M9,AIR,c];rfl;simp only[KP,KJ,Hu,IH,o,H];simp(disch:=omega) only[AD,Mr,M9,AIR];rfl
theorem AYS(p:List Int)(h:p.length<=1048576):CLs [] (Hu p) (IH p) []:=by
 have a:=AkC (p:=p);refine⟨by simp,?_,?_,by simp,by simp⟩;unfold Hu;split;rename_i H;have:=(Qb H).1;omega;simp;unfold IH;repeat' split
 all_goals first|omega|simp
end Go.Cat
