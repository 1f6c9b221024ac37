/-
 Cyclotomic polynomials; values at roots of unity.
-/
import Derived.Test.YthoilpmggmenbaaGreatPfPolyB
import Derived.Test.YthoilpmggmenbaaGreatPfSvI
set_option linter.unusedSimpArgs false
set_option linter.unusedVariables false
namespace Go.Cat
set_option maxRecDepth 100000
variable{K:Nat->List D->List D->Prop}
def cyT:List (List Int):=[[],[-1,1],[1,1],[1,1,1],[1,0,1],[1,1,1,1,1],[1,-1,1],[1,1,1,1,1,1,1],[1,0,0,0,1],[1,0,0,1,0,0,1],[1,-1,1,-1,1]]
def CW(d:Nat):List Int:=cyT.getD d []
def dvQ(a b:List Int):List Int:=Cu (H8 b (B8 a b) (a,rep (B8 a b:Nat) 0)).2
def EH(d:Nat):Nat->List Int
 |0=>B9 (B9 (rep ((d:Int)+1) 0) 0 (-1)) d 1
 |i+1=>if d%(i+1)=0 then dvQ (EH d i) (CW (i+1))else EH d i
def cyB(d:Nat):Bool:=decide (EH d (d-1)=CW d)&&((List.range d).all (λi=>decide ((EH d i).length<=20))&&(List.range (d-1)).all λi=>decide (1<=(CW (i+1)).length/\(CW (i+1)).length<=20)&&(decide (¬d%(i+1)=0)||match F0 (CW (i+1)) (B8 (EH d i) (CW (i+1))) (EH d i,rep (B8 (EH d i) (CW (i+1)):Nat) 0)with
  |some x=>decide (Cu x.2=EH d (i+1))
  |none=>false))
theorem cyB0:BH 10 (λd=>cyB (d+1))=true:=by kernel_rfl
theorem ANS{d:Nat}(h:1<=d/\d<=10):EH d (d-1)=CW d/\(∀i,i<d->(EH d i).length<=20)/\∀i,i+1<d->(1<=(CW (i+1)).length/\(CW (i+1)).length<=20)/\(d%(i+1)=0->∃x,F0 (CW (i+1)) (B8 (EH d i) (CW (i+1))) (EH d i,rep (B8 (EH d i) (CW (i+1)):Nat) 0)=some x/\Cu x.2=EH d (i+1)):=by
 have:=BQ cyB0 (d-1) (by omega);rw[show d-1+1=d by omega]at this;simp only[cyB,AU,Ad]at this;obtain⟨a,b,c⟩:=this;refine⟨a,λi hi=>by simpa using Aj.1 b i (List.mem_range.2 hi),λi hi=>?_⟩;have H:=Aj.1 c i (List.mem_range.2 (by omega));simp only[AU,Ad,Bool.or_eq_true]at H;refine⟨H.1,λhd=>?_⟩;rcases H.2 with q|q;exact absurd hd q;split at q;rename_i x e;exact⟨x,e,by simpa using q⟩
 cases q
theorem AL7{d i:Nat}:EH d (i+1)=if d%(i+1)=0 then dvQ (EH d i) (CW (i+1))else EH d i:=rfl
theorem O4{d i:Nat}:((d:Int)%((i:Int)+1)=0)↔d%(i+1)=0:=by rw[show(d:Int)%((i:Int)+1)=((d%(i+1):Nat):Int) by simp[Int.natCast_emod]];omega
theorem AMV{s:List Int}{x:Int}(h:0<s.length):An [0] (LI s) (.n x)=some (LI (B9 s 0 x)):=Sy (i:=0) (by omega)
theorem ABH[HA K]:∀(d:Nat),1<=d->d<=10->K 599 [.n d] [LI (CW d)]
 |d,H,l=>by
  obtain⟨C,c2,f⟩:=ANS ⟨H,l⟩;have I:∀e,1<=e->e<d->K 599 [.n e] [LI (CW e)]:=λe h o=>ABH e h (by omega);have R:(rep ((d:Int)+1) (0:Int)).length=d+1:=by simp[rep]
  refine qb I599 ?_;simp(disch:=try exact dV) only[AD,AMV];refine AR (λ_=>True) (λi=>[.n d,.u,LI (EH d i),.n ((i:Int)+1),.u,.u]) (d-1) trivial rfl (λi hi _=>?_) (λ_=>?_);obtain⟨g,j⟩:=f i (by omega);have G:=c2 i (by omega);have s:=AL7 (d:=d) (i:=i);by_cases q:d%(i+1)=0;obtain⟨x,B,F⟩:=j q;have Q:=O4.2 q;refine wW ?_;have k:=I (i+1) (by omega) (by omega);rw[show((i+1:Nat):Int)=(i:Int)+1 from rfl]at k;refine cW k ?_;have c:=TS (K:=K) (a:=EH d i) (b:=CW (i+1)) (by omega) (by omega) g.1;rw[B]at c;simp only at c;refine cW c ?_;rw[F];have Q:¬((d:Int)%((i:Int)+1)=0):=λe=>q (O4.1 e);rw[if_neg q]at s;rw[s];exact wZ;refine wW ?_;rw[C]
termination_by d=>d
theorem AC0[HA K]:∀(d:Nat),1<=d->d<=10->K 596 [.n d] [LI (CW d)]
 |d,b,f=>by
  obtain⟨c,c2,C⟩:=ANS ⟨b,f⟩;have I:∀e,1<=e->e<d->K 596 [.n e] [LI (CW e)]:=λe H g=>AC0 e H (by omega);have R:(rep ((d:Int)+1) (0:Int)).length=d+1:=by simp[rep]
  refine qb I596 ?_;simp(disch:=try exact dV) only[AD,AMV];refine AR (λ_=>True) (λi=>[.n d,.u,LI (EH d i),.n ((i:Int)+1),.u,.u]) (d-1) trivial rfl (λi hi _=>?_) (λ_=>?_);obtain⟨a,j⟩:=C i (by omega);have l:=c2 i (by omega);have h:=AL7 (d:=d) (i:=i);by_cases q:d%(i+1)=0;have Q:=O4.2 q;rw[if_pos q]at h;rw[h];refine wW ?_;have k:=I (i+1) (by omega) (by omega);rw[show((i+1:Nat):Int)=(i:Int)+1 from rfl]at k;refine cW k ?_;exact cZ (Te (by omega) (by omega) a.1);have Q:¬((d:Int)%((i:Int)+1)=0):=λe=>q (O4.1 e);rw[if_neg q]at h;rw[h];exact wZ;refine wW ?_;rw[c]
termination_by d=>d
def OG(r:List Int):Int×Bool:=if r.length=0 then(0,true)else if r.length=1 then(AB r 0,true)else(0,false)
def vrR(n d:Nat):List Int:=Cu (H8 (CW d) (B8 (BR n) (CW d)) (BR n,rep (B8 (BR n) (CW d):Nat) 0)).1
def GG(n d:Nat):Int×Bool:=OG (vrR n d)
def Fb(p:List Int)(d:Nat):Nat->List Int
 |0=>rep d 0
 |i+1=>B9 (Fb p d i) (i%d:Nat) (AB (Fb p d i) (i%d:Nat)+AB p i)
theorem Ty{p:List Int}{d:Nat}:∀i,(Fb p d i).length=d
 |0=>by simp[Fb,rep]
 |i+1=>by simp only[Fb,DD,Ty i]
def Nc(n d:Nat):Bool:=IJ (BR n)&&(decide ((BR n).length<=30)&&(decide (1<=(CW d).length/\(CW d).length<=20)&&((BR n).all (A4 0 100)&&((List.range (BR n).length).all (λi=>(Fb (BR n) d i).all (A4 0 1000))&&match F0 (CW d) (B8 (Fb (BR n) d (BR n).length) (CW d)) (Fb (BR n) d (BR n).length,rep (B8 (Fb (BR n) d (BR n).length) (CW d):Nat) 0)with
  |some x=>decide (OG (Cu x.1)=GG n d)
  |none=>false))))
theorem vrB0:BH 5 (λn=>BH 10 λd=>Nc (n+1) (d+1))=true:=by kernel_rfl
theorem VQ{n d:Nat}(h:1<=n/\n<=5)(hd:1<=d/\d<=10):Nc n d=true:=by have:=BQ (BQ vrB0 (n-1) (by omega)) (d-1) (by omega);rwa [show n-1+1=n by omega,show d-1+1=d by omega]at this
theorem ACZ{a b:Int}{l:List Int}(h:l.all (A4 a b)=true){j:Nat}(H:j<l.length):a<=AB l j/\AB l j<=b:=by
 have:=Aj.1 h l[j] (List.getElem_mem H);have e:AB l (j:Nat)=l[j]:=by simp[AB,H]
 rw[e];exact Af.1 this
theorem AY7[HA K]{n d:Nat}(s:1<=n/\n<=5)(hd:1<=d/\d<=10):K 588 [LI (BR n),.n d] [.n (GG n d).1,.b (GG n d).2]:=by
 have h:=VQ s hd;simp only[Nc,AU,Ad]at h;obtain⟨b1,b2,e,f,g,B⟩:=h;obtain⟨x,F,G⟩:∃x,F0 (CW d) (B8 (Fb (BR n) d (BR n).length) (CW d)) (Fb (BR n) d (BR n).length,rep (B8 (Fb (BR n) d (BR n).length) (CW d):Nat) 0)=some x/\OG (Cu x.1)=GG n d:=by
  split at B;rename_i x C;exact⟨x,C,by simpa using B⟩
  cases B
 have H:A4 1 16 (d:Int)=true:=Af.2 (by omega);rw[<-G];refine qw I588 ?_;refine cB (XC (by omega)) ?_;rw[b1];refine wW ?_;refine cB CN ?_;rw[H];refine wW ?_;refine AR (λ_=>True) (λi=>[.u,.n d,.u,.u,LI (Fb (BR n) d i),.u,.u,.u,.u,LI (BR n),.n (BR n).length,.n i,.u,.u,.u,.u]) (BR n).length trivial rfl (λi hi _=>?_) (λ_=>?_);have l:=Ty (p:=BR n) (d:=d) i;have q:i%d<d:=Nat.mod_lt _ (by omega);have o:(i:Int)%(d:Int)=((i%d:Nat):Int):=by simp[Int.natCast_emod]
 have v1:=ACZ f (j:=i) hi;have v2:=ACZ (Aj.1 g i (List.mem_range.2 hi)) (j:=i%d) (by rw[l];exact q);simp(disch:=try exact dV) only[AD,o];rfl;have l:=Ty (p:=BR n) (d:=d) (BR n).length;refine wW ?_;refine cW (ABH d hd.1 hd.2) ?_;have k:=TS (K:=K) (a:=Fb (BR n) d (BR n).length) (b:=CW d) (by omega) (by omega) e.1;rw[F]at k;simp only at k;refine cB k ?_;generalize Cu x.1=r;unfold OG;by_cases h0:r.length=0;rw[if_pos h0];exact wZ;rw[if_neg h0];by_cases c:r.length=1;rw[if_pos c];exact wZ;rw[if_neg c];exact wZ
theorem AVO[HA K]{n d:Nat}(c:1<=n/\n<=5)(hd:1<=d/\d<=10):K 585 [LI (BR n),.n d] [.n (GG n d).1,.b (GG n d).2]:=by have h:=VQ c hd;simp only[Nc,AU,Ad]at h;obtain⟨b1,b2,B,_,_,_⟩:=h;have H:A4 1 16 (d:Int)=true:=Af.2 (by omega);refine qw I585 ?_;refine cB (ARH (by omega)) ?_;rw[b1];refine wW ?_;refine cB Cl ?_;rw[H];refine wW ?_;refine cW (AC0 d hd.1 hd.2) ?_;refine cB (Te (by omega) (by omega) B.1) ?_;rw[GG,vrR];generalize Cu (H8 (CW d) (B8 (BR n) (CW d)) (BR n,rep (B8 (BR n) (CW d):Nat) 0)).1=r;unfold OG;by_cases h0:r.length=0;rw[if_pos h0];exact wZ;rw[if_neg h0];by_cases a:r.length=1;rw[if_pos a];exact wZ;rw[if_neg a];exact wZ
end Go.Cat
namespace Go.Cat
set_option maxRecDepth 100000
variable{K:Nat->List D->List D->Prop}
abbrev tvg:List (Nat×IF):=[(589,I589.v)]
abbrev tvo:List (Nat×IF):=[(586,I586.v)]
def Rb(x:Option (List D))(v:Nat):Bool:=match x with
 |some [.i .i64 z]=>decide (z=v)
 |_=>false
theorem ALB{x:Option (List D)}{v:Nat}(h:Rb x v=true):x=some [.n v]:=by
 unfold Rb at h;split at h;rw[Ad]at h;rw[h]
 cases h
theorem gc0:BH 10 (λo=>BH (o+1) λk=>Rb (EC (Dx tvg) 100 20 589 [.n ((o+1:Nat):Int),.n (k:Nat)]) (Nat.gcd (o+1) k))=true:=by kernel_rfl
theorem od0:BH 10 (λo=>BH (o+1) λk=>Rb (EC (Dx tvo) 100 20 586 [.n ((o+1:Nat):Int),.n (k:Nat)]) ((o+1)/Nat.gcd (o+1) k))=true:=by kernel_rfl
theorem AUV[HA K]{o k:Nat}(H:1<=o/\o<=10)(h:k<o):K 589 [.n o,.n k] [.n (Nat.gcd o k)]:=by have:=ALB (BQ (BQ gc0 (o-1) (by omega)) k (by omega));rw[show o-1+1=o by omega]at this;exact run tvg 100 20 589 this
theorem AV5[HA K]{o k:Nat}(H:1<=o/\o<=10)(h:k<o):K 586 [.n o,.n k] [.n (o/Nat.gcd o k:Nat)]:=by have:=ALB (BQ (BQ od0 (o-1) (by omega)) k (by omega));rw[show o-1+1=o by omega]at this;exact run tvo 100 20 586 this
theorem AA6{o k:Nat}(a:1<=o/\o<=10):1<=o/Nat.gcd o k/\o/Nat.gcd o k<=10:=by have h:0<Nat.gcd o k:=Nat.gcd_pos_of_pos_left _ (by omega);have H:Nat.gcd o k<=o:=Nat.gcd_le_left _ (by omega);exact⟨Nat.div_pos H h,Nat.le_trans (Nat.div_le_self _ _) a.2⟩
theorem V2{f n:Nat}(h:f<3)(H:1<=n/\n<=5):1<=BZ f n/\BZ f n<=10:=by rcases f3 h with rfl|rfl|rfl<;>simp only[BZ]<;>omega
noncomputable def Gy(f n k:Nat):Bool:=(GG n (BZ f n/Nat.gcd (BZ f n) k)).2&&decide ((GG n (BZ f n/Nat.gcd (BZ f n) k)).1=HH f n k)
noncomputable def KD(f n:Nat):Bool:=(List.range (BZ f n)).all (Gy f n)
theorem Zw{f n:Nat}(h:∀k,k<BZ f n->Gy f n k=true):KD f n=true:=Aj.2 λk H=>h k (List.mem_range.1 H)
theorem OY{f n k:Nat}(H:k<BZ f n)(h:Gy f n k=false):KD f n=false:=by rw[Bool.eq_false_iff];intro q;have:=Aj.1 q k (List.mem_range.2 H);rw[h]at this;cases this
theorem ASP[HA K]{f n:Nat}(H:f<3)(h:1<=n/\n<=5):K 570 [.s (Bg f),.n n] [.b (KD f n)]:=by
 have o:=V2 H h;refine qw I570 ?_;refine cW (QT H h) ?_;refine cB ABN ?_;rw[show A4 0 7 (n:Int)=true from Af.2 (by omega)];refine wW ?_;refine AR (λi=>∀j,j<i->Gy f n j=true) (λi=>[.s (Bg f),.n n,.u,.n (BZ f n),LI (BR n),.b true,.n i,.u,.u,.u,.u]) (BZ f n) (by omega) rfl (λi hi P=>?_) (λP=>?_);have hd:=AA6 (k:=i) o;refine wW ?_;refine cW (AV5 o hi) ?_;refine cB (AVO h hd) ?_
 cases q1:(GG n (BZ f n/Nat.gcd (BZ f n) i)).2;refine wW ?_;rw[OY hi (by simp[Gy,q1])];refine wW ?_;refine cB (AKL H h hi) ?_;by_cases q:(GG n (BZ f n/Nat.gcd (BZ f n) i)).1=HH f n i;refine wW ?_;exact Cw P (by simp[Gy,q1,q]);refine wW ?_;rw[OY hi (by simp[Gy,q])];refine wW ?_;rw[Zw P]
theorem AZ7{a b c d e f:List Nat}:EK [.s a,.s b,.s c,.s d,.s e,.s f]=some (LS [a,b,c,d,e,f]):=rfl
theorem ASQ{a b:List Nat}:EK [.s a,.s b]=some (LS [a,b]):=rfl
theorem AdS{p:List Int}(h:p.length<=30):(FK p).length<=1000:=by
 unfold FK;split;simp;rename_i q;have H:DC p=true:=by
  cases hq:DC p with
  |true=>rfl
  |false=>exact absurd (.inr hq) q
 have:=Gu (sep:=[44]) (Us H) (EO p).length;rw[glue];rw[Ro]at this|-;simp only[AO,Aa]at this;have a:p.length*(20+(0+1))<=30*21:=Nat.mul_le_mul h (by omega);omega
theorem ARA[HA K]{f n:Nat}(H:f<3)(h:1<=n/\n<=5):K 574 [.s (Bg f),.n n] [.b (KD f n)]:=by
 have o:=V2 H h;refine qw I574 ?_;refine cW (QD H h) ?_;refine cB Zz ?_;rw[show A4 0 7 (n:Int)=true from Af.2 (by omega)];refine wW ?_;refine AR (λi=>∀j,j<i->Gy f n j=true) (λi=>[.s (Bg f),.n n,.u,.n (BZ f n),LI (BR n),.n i,.u,.u,.u,.u,.u]) (BZ f n) (by omega) rfl (λi hi P=>?_) (λP=>?_);have hd:=AA6 (k:=i) o;have g:0<Nat.gcd (BZ f n) i:=Nat.gcd_pos_of_pos_left _ (by omega);have e:(BZ f n:Int)/(Nat.gcd (BZ f n) i:Int)=((BZ f n/Nat.gcd (BZ f n) i:Nat):Int):=by simp
 refine wW ?_;refine cB (AUV o hi) ?_;simp(disch:=try exact dV) only[AD,e];refine cB (AY7 h hd) ?_
 cases q1:(GG n (BZ f n/Nat.gcd (BZ f n) i)).2;refine wW ?_;rw[OY hi (by simp[Gy,q1])];refine wW ?_;refine cB (Xf H h hi) ?_;by_cases q:(GG n (BZ f n/Nat.gcd (BZ f n) i)).1=HH f n i;refine wW ?_;exact Cw P (by simp[Gy,q1,q]);refine wW ?_;rw[OY hi (by simp[Gy,q])];refine wW ?_;rw[Zw P]
def GR(f n k:Nat):List Int:=(List.range k).map λk=>(HH f n k:Int)
theorem VK{f n k:Nat}:(GR f n k).length=k:=by simp[GR]
theorem AK3{f n k:Nat}:GR f n (k+1)=GR f n k++[(HH f n k:Int)]:=by simp[GR,List.range_succ]
theorem AQD{f n k:Nat}(a:n<=5):HH f n k<=132:=by have h:=KM (n:=n) (by omega);have H:=List.countP_le_length (p:=λw=>decide (t15 f n k w=w)) (l:=AG n);simp only[HH];omega
theorem AWV{f n k:Nat}(H:n<=5):Gz (GR f n k):=λy h=>by
 simp only[GR,List.mem_map]at h
 obtain⟨j,_,rfl⟩:=h
 have:=AQD (f:=f) (n:=n) (k:=j) H
 omega
theorem AAL{L:List Int}(hL:L.length<=132):∀i,(iter (DH L) i ([],List.replicate L.length false)).1.length<=i/\Gz (iter (DH L) i ([],List.replicate L.length false)).1
 |0=>⟨by simp[iter],λy h=>by simp[iter]at h⟩
 |i+1=>by obtain⟨b,H⟩:=AAL hL i;have hi:=(O6 (L:=L) (f:=L.length) (a:=i) (s:=0) (B:=(iter (DH L) i ([],List.replicate L.length false)).2)).2.2;simp only[iter,DH];split;refine⟨by simp only[AZ,AO,Aa];omega,λy h=>?_⟩;rcases Ac.1 h with q|q;exact H y q;rw[List.mem_singleton.1 q];omega;exact⟨by omega,H⟩
theorem APZ{p:List Int}:10∉FK p:=by unfold FK;split;decide;exact N6 (by decide) (Qr λ_=>JA) _
theorem AS8[HA K]{f n:Nat}(a:f<3)(h:1<=n/\n<=5):∃v,(v≠[]/\Nw v)/\K 558 [.s (Bg f),.n n] [.s v]/\K 557 [.s (Bg f),.n n] [.s v]:=by
 have I:=V2 a h;have J:=KM (n:=n) (by omega);have hL:=MN (f:=f) (n:=n);have g:(BR n).length<=30:=by have:=VQ h (d:=1) (by omega);simp only[Nc,AU,Ad]at this;exact this.2.1
 have b:=AWV (f:=f) (n:=n) (k:=BZ f n) h.2;have x:=VK (f:=f) (n:=n) (k:=BZ f n);obtain⟨O,F⟩:=AAL (L:=Al f n) (by omega) (Al f n).length;have c:Gz (IY (Al f n)):=F;have B:(IY (Al f n)).length<=(Al f n).length:=O;have N:=Lo b;have M:=Lo c;have P:=AdS (p:=BR n) g;have q:A4 0 7 (n:Int)=true:=Af.2 (by omega);obtain⟨s1,H⟩:∃s,s=[115,105,101,118,101,32]++FK (BR n)++[32,102,105,120,101,100,32]++EP (GR f n (BZ f n))++[32,111,114,98,105,116,115,32]++EP (IY (Al f n)):=⟨_,rfl⟩;have C:s1.length<=50000:=by rw[H];simp;omega
 have N:s1≠[]/\10∉s1:=by rw[H];exact⟨by simp,by simp[APZ,Sb]⟩
 have G:glue [32] [[115,105,101,118,101],FK (BR n),[102,105,120,101,100],EP (GR f n (BZ f n)),[111,114,98,105,116,115],EP (IY (Al f n))]=s1:=by rw[H];simp[glue,BC,AH]
 have l:=IP (K:=K) (ws:=[[115,105,101,118,101],FK (BR n),[102,105,120,101,100],EP (GR f n (BZ f n)),[111,114,98,105,116,115],EP (IY (Al f n))]) (by simp) (by simp;omega);rw[G]at l;have o:glue [32] [s1,[104,111,108,100,115]]=s1++[32,104,111,108,100,115]:=by simp[glue,BC,AH]
 have e:=IP (K:=K) (ws:=[s1,[104,111,108,100,115]]) (by simp) (by simp;omega);rw[o]at e;refine⟨if KD f n=true then s1++[32,104,111,108,100,115]else s1,by split<;>first|exact⟨N.1,by omega,N.2⟩|exact⟨by simp,by simp;omega,by simp[N.2]⟩,?_,?_⟩;refine qw I558 ?_;refine cW (QD a h) ?_;refine cW Zz ?_;refine AR (λ_=>True) (λi=>[.s (Bg f),.n n,.u,.u,LI (BR n),LI (GR f n i),.u,.u,.u,.u,.n (BZ f n),.n i,.u,.u]) (BZ f n) trivial rfl (λi hi _=>?_) (λ_=>?_);have j:=VK (f:=f) (n:=n) (k:=i);refine wW ?_;refine cW (Xf a h hi) ?_;rw[AK3];refine wW ?_;refine cW (ATC a h) ?_;refine cW (AdM (by omega)) ?_;refine cW (P9 (by omega) b) ?_;refine cB (P9 (by omega) c) ?_;simp(disch:=try exact dV) only[AD,AZ7];refine cW l ?_;refine cB (ARA a h) ?_
 cases hd:KD f n;refine wW ?_;rw[if_neg (by simp)];simp(disch:=try exact dV) only[AD,ASQ];exact cZ e;refine qw I557 ?_;refine cW (QT a h) ?_;refine cW ABN ?_;refine AR (λ_=>True) (λi=>[.s (Bg f),.n n,.u,.n (BZ f n),LI (BR n),LI (GR f n i),.n i,.u,.u,.u,.u,.u]) (BZ f n) trivial rfl (λi hi _=>?_) (λ_=>?_);have j:=VK (f:=f) (n:=n) (k:=i);refine wW ?_;refine cW (AKL a h hi) ?_;rw[AK3];refine wW ?_;refine cW (AW1 a h) ?_;refine cW (APG (by omega)) ?_;refine cW (Q6 (by omega) b) ?_;refine cW (Q6 (by omega) c) ?_;refine cB (ASP a h) ?_
 cases hd:KD f n;refine wW ?_;rw[if_neg (by simp),H];simp;refine wW ?_;rw[H];simp
end Go.Cat
namespace Go.Cat
variable{K:Nat->List D->List D->Prop}
def Nm(x y:BT):Option BT:=(Bt Av x x.n).find? λz=>Ch z y
theorem Y3{x z:BT}(h:z∈Bt Av x x.n):∃v:Nat,v<x.n/\Av x (v:Nat)=some z:=by simp only[Bt,List.mem_filterMap,List.mem_range]at h;exact h
theorem AI5{x y:BT}(h:GA x y)(a:x≠y):∃z,Nm x y=some z/\GA z y/\x.w.sum<z.w.sum/\z.n=x.n:=by
 obtain⟨v,z,g,i,l⟩:=AK2 h (λe=>a (Pc e));have s:(Nm x y).isSome=true:=by simp only[Nm,List.find?_isSome];exact⟨z,by simp only[Bt,List.mem_filterMap,List.mem_range];exact⟨v,g,i⟩,IQ.2 l⟩
 obtain⟨u,b⟩:=Option.isSome_iff_exists.1 s;have c:=List.find?_some b;obtain⟨k,f,H⟩:=Y3 (List.mem_of_find?_eq_some b);exact⟨u,b,IQ.1 c,AAJ f H,FU H⟩
def Eb(y:BT):Nat->BT->List BT
 |0,_=>[]
 |k+1,x=>if x.t=y.t then []else match Nm x y with
  |none=>[]
  |some z=>z::Eb y k z
theorem YM{y:BT}:∀{k:Nat}{x:BT},(Eb y k x).length<=k
 |0,x=>by simp[Eb]
 |k+1,x=>by simp only[Eb];split;simp;split;simp;rename_i z _;have:=YM (y:=y) (k:=k) (x:=z);simp only[AO];omega
theorem Zu{y z:BT}{k:Nat}(h:z.t=y.t):Eb y k z=[]:=by
 cases k with
 |zero=>rfl
 |succ k=>simp only[Eb,if_pos h]
theorem ARM{l:List BT}{i:Nat}(h:i<l.length):AH (l.map BT.t) (i:Nat)=(l[i]).t:=by simp[AH,h]
abbrev ocC(x y:BT):D:=.g [.n 1,.s x.t,.s y.t,LS (x.t::(Eb y 64 x).map BT.t),.l [],.l [],.l []]
abbrev Qw:D:=.g [.n 0,.s [],.s [],.l [],.l [],.l [],.l []]
theorem ZP{x:List (List Nat)}:CI 1 (LS x,1)=true:=by simp[CI,LS,D.one,C3,D.flat]
theorem YE:CI 1 (.l [],1)=true:=by simp[CI,D.one,C3,D.flat]
theorem AWA[HA K][E3 K]{x y:BT}(J:x.n<=8)(B:y.n<=8)(h:GA x y):K 340 [.s x.t,.s y.t] [ocC x y,.b true]:=by
 have M:=MR (K:=K) J B;rw[IQ.2 h]at M;have wx:=Pk J;have wy:=Pk B;refine qw ALI ?_;refine cW M ?_;refine Bd (λ(s:Nat×BT×List (List Nat))=>GA s.2.1 y/\s.2.1.n=x.n/\y.w.sum-s.2.1.w.sum<=s.1/\s.2.2.length+s.1<=65/\s.2.2++(Eb y s.1 s.2.1).map BT.t=x.t::(Eb y 64 x).map BT.t) (λs=>[.u,.s y.t,Qw,.u,.g [.n 1,.s x.t,.s y.t,LS s.2.2,.l [],.l [],.l []],.s s.2.1.t,.u,.u,.u,.u,.u,.u,.u,.u]) (λs=>s.1) (64,x,[x.t]) ⟨h,rfl,by show y.w.sum-x.w.sum<=64;omega,by simp,rfl⟩ rfl ?_;rintro⟨k,z,acc⟩ ⟨I,O,P,Q,G⟩;simp only at I O P Q G|-;by_cases q:z.t=y.t;rw[Zu q,List.map_nil,List.append_nil]at G;have j:(z.t==y.t)=true:=by rw[beq_iff_eq];exact q
 simp(disch:=try exact dV) only[AD,Dc,D0,Ei,Bv,ZP,YE,j];rw[G];obtain⟨w,C,F,Y,Z⟩:=AI5 I (λe=>q (by rw[e]));have e5:=Ub F;have j:(z.t==y.t)=false:=by rw[beq_eq_false_iff_ne];exact q
 cases k with
 |zero=>omega
 |succ k=>
  have N:Eb y (k+1) z=w::Eb y k w:=by simp only[Eb,if_neg q,C]
  rw[N]at G
  obtain⟨pw,L,U,o,H⟩:=List.find?_eq_some_iff_getElem.1 C
  have hl:=FD (f:=Av) (x:=z) (k:=z.n)
  simp(disch:=try exact dV) only[AD,j]
  refine cW (ACP (by omega)) ?_
  refine AR (λi=>i<=L) (λi=>[.u,.s y.t,Qw,.u,.g [.n 1,.s x.t,.s y.t,LS acc,.l [],.l [],.l []],.s z.t,.u,.u,.u,DN (Bt Av z z.n),.n (Bt Av z z.n).length,.n i,.u,.u]) (Bt Av z z.n).length (Nat.zero_le _) (by simp) (λi hi R=>?_) (λR=>by omega)
  have c:=ARM hi
  obtain⟨v,hv,V⟩:=Y3 (List.getElem_mem hi)
  have en:=FU V
  have a:=MR (K:=K) (x:=(Bt Av z z.n)[i]) (y:=y) (by omega) B
  by_cases W:i=L
  .subst W
   rw[o]at c a
   rw[pw]at a
   simp(disch:=try exact dV) only[AD,c]
   refine cB a ?_
   simp(disch:=try exact dV) only[AD,Dc,D0,Ei,Bv,AcP,TQ,Vd,Option.map_some,List.set]
   exact⟨(k,w,acc++[w.t]),by simp,⟨F,by simp only;omega,by simp only;omega,by simp;omega,by simp only;rw[<-G];simp⟩,rfl⟩
  .have:=H i (by omega)
   have T:Ch (Bt Av z z.n)[i] y=false:=by simpa using this
   rw[T]at a
   simp(disch:=try exact dV) only[AD,c]
   refine cW a ?_
   omega
def LP(x:BT)(i:Nat):List BT:=(List.range' (x.n-i) i).filterMap λj:Nat=>Av x j
theorem ASD{x:BT}:LP x x.n=Bt Av x x.n:=by simp only[LP,Bt,Nat.sub_self,List.range_eq_range']
theorem AP8{x:BT}{i:Nat}(h:i<x.n):LP x (i+1)=(Av x ((x.n-1-i:Nat):Int)).toList++LP x i:=by
 simp only[LP];rw[show x.n-(i+1)=x.n-1-i by omega,List.range'_succ,show x.n-1-i+1=x.n-i by omega,List.filterMap_cons]
 cases Av x ((x.n-1-i:Nat):Int)<;>simp
theorem APF[HA K]{x y:BT}(B:x.n<=8)(j:y.n<=8)(h:GA x y):K 339 [.s x.t,.s y.t] [ocC x y,.b true]:=by
 have C:=Kw (K:=K) B j;rw[IQ.2 h]at C;have W:=Pk B;have T:=Pk j;refine qw AJM ?_;refine cW C ?_;refine Bd (λ(s:Nat×BT×List (List Nat))=>GA s.2.1 y/\s.2.1.n=x.n/\y.w.sum-s.2.1.w.sum<=s.1/\s.2.2.length+s.1<=65/\s.2.2++(Eb y s.1 s.2.1).map BT.t=x.t::(Eb y 64 x).map BT.t) (λs=>[.s x.t,.s y.t,Qw,.u,LS s.2.2,.s s.2.1.t,.u,.u,.u,.u,.u,.u,.u,.u]) (λs=>s.1) (64,x,[x.t]) ⟨h,rfl,by show y.w.sum-x.w.sum<=64;omega,by simp,rfl⟩ rfl ?_;rintro⟨k,z,acc⟩ ⟨G,L,M,N,g⟩;simp only at G L M N g|-;by_cases q:z.t=y.t;rw[Zu q,List.map_nil,List.append_nil]at g;have c:(z.t==y.t)=true:=by rw[beq_iff_eq];exact q
 simp(disch:=try exact dV) only[AD,Dc,D0,Ei,Bv,ZP,YE,c];rw[g];obtain⟨w,l,o,O,Q⟩:=AI5 G (λe=>q (by rw[e]));have R:=Ub o;have c:(z.t==y.t)=false:=by rw[beq_eq_false_iff_ne];exact q
 cases k with
 |zero=>omega
 |succ k=>
  have I:Eb y (k+1) z=w::Eb y k w:=by simp only[Eb,if_neg q,l]
  rw[I]at g
  simp(disch:=try exact dV) only[AD,c]
  refine cW (EL (by omega)) ?_
  refine BE (λi (r:List Nat)=>r=(((LP z i).find? λu=>Ch u y).map BT.t).getD []) (λi r=>[.s x.t,.s y.t,Qw,.u,LS acc,.s z.t,.s r,.n ((z.n:Int)-1-i),.u,.u,.u,.u,.u,.u]) z.n [] rfl (by simp) (λi r hi P=>?_) (λr P=>?_)
  .have ev:(z.n:Int)-1-i=((z.n-1-i:Nat):Int):=by omega
   have H:=AP8 hi
   refine wW ?_
   have F:=T3 (K:=K) (x:=z) (v:=(z.n:Int)-1-i) (by omega) (by omega)
   have J:Av z ((z.n:Int)-1-i)=Av z ((z.n-1-i:Nat):Int):=by rw[ev]
   rw[ER,J]at F
   refine cB F ?_
   cases f:Av z ((z.n-1-i:Nat):Int)with
   |none=>
    rw[f]at H
    simp only[Option.isSome_none,Option.elim_none]
    refine wW ?_
    refine⟨r,?_,by simp;omega⟩
    rw[P,H];simp
   |some u=>
    rw[f]at H
    have un:=FU f
    simp only[Option.isSome_some,Option.elim_some]
    refine wW ?_
    refine cB (Kw (by omega) j) ?_
    cases hb:Ch u y with
    |false=>
     refine wW ?_
     refine⟨r,?_,by simp;omega⟩
     rw[P,H];simp[hb]
    |true=>
     refine wW ?_
     refine⟨u.t,?_,by simp;omega⟩
     rw[H];simp[hb]
  .rw[ASD]at P
   have a:=l
   simp only[Nm]at a
   rw[a]at P
   simp only[Option.map_some,Option.getD_some]at P
   subst P
   simp(disch:=try exact dV) only[AD,Bv]
   exact⟨(k,w,acc++[w.t]),by simp,⟨o,by simp only;omega,by simp only;omega,by simp;omega,by simp only;rw[<-g];simp⟩,rfl⟩
end Go.Cat
namespace Go.Cat
variable{K:Nat->List D->List D->Prop}
theorem AWU[HA K](a b:List Nat):∃r,K 350 [.s a,.s b] [.b r]/\K 349 [.s a,.s b] [.b r]/\(r=true->∃x y:BT,a=x.t/\b=y.t/\x.n<=8/\y.n<=8/\GA x y):=by
 cases ha:Bq a with
 |false=>
  refine⟨false,?_,?_,by simp⟩
  .refine qw U1 ?_
   exact cZ (Ac0 ha)
  .refine qw Tk ?_
   exact cZ (Y4 ha)
 |true=>
  obtain⟨x,rfl,H⟩:=GF ha
  cases hb:Bq b with
  |false=>
   refine⟨false,?_,?_,by simp⟩
   .refine qw U1 ?_
    exact cZ (AVN H hb)
   .refine qw Tk ?_
    exact cZ (AHS H hb)
  |true=>
   obtain⟨y,rfl,c⟩:=GF hb
   exact⟨Ch x y,MR H c,Kw H c,λh=>⟨x,y,rfl,rfl,H,c,IQ.1 h⟩⟩
theorem Ab6[HA K][E3 K](a b:List Nat):∃(k:Int)(f s:List Nat)(t:List (List Nat))(r:Bool),t.length<=100/\f.length<=a.length/\K 340 [.s a,.s b] [CL k f s t [] [] [],.b r]/\K 339 [.s a,.s b] [CL k f s t [] [] [],.b r]:=by
 obtain⟨r,e,g,i⟩:=AWU (K:=K) a b
 cases r with
 |true=>
  obtain⟨x,y,rfl,rfl,H,c,h⟩:=i rfl
  have l:=YM (y:=y) (k:=64) (x:=x)
  exact⟨1,x.t,y.t,x.t::(Eb y 64 x).map BT.t,true,by simp;omega,Nat.le_refl _,AWA H c h,APF H c h⟩
 |false=>
  refine⟨0,[],[],[],false,by simp,by simp,?_,?_⟩
  .refine qw ALI ?_
   exact cZ e
  .refine qw AJM ?_
   exact cZ g
end Go.Cat
namespace Go.Cat
variable{K:Nat->List D->List D->Prop}
theorem ACE{x:List (List Nat)}:CI 1 (LS x,1)=true:=by simp[CI,LS,D.one,C3,D.flat]
theorem DV:CI 1 (.l [],1)=true:=by simp[CI,D.one,C3,D.flat]
theorem cd_t[HA K]{a b:List Nat}{t:List (List Nat)}(h:t.length<=43)(H:0<t.length)(k:K 348 [.s a,.s b] [LS t,.b true])(ks:K 347 [.s a,.s b] [LS t,.b true]):K 338 [.s a,.s b] [CL 2 a b t [] [] [],.b true]/\K 337 [.s a,.s b] [CL 2 a b t [] [] [],.b true]:=by constructor;refine qw I338 ?_;refine cB k ?_;simp(disch:=try exact dV) only[AD,ACE,DV];rfl;refine qw I337 ?_;refine cB ks ?_;simp(disch:=try exact dV) only[AD,ACE,DV];rfl
end Go.Cat
namespace Go.Cat
variable{K:Nat->List D->List D->Prop}
end Go.Cat
