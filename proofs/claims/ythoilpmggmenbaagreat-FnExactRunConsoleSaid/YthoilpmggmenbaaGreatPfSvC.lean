/-
 Cyclotomic polynomials; values at roots of unity.
-/
import Derived.Test.YthoilpmggmenbaaGreatPfPolyG
import Derived.Test.YthoilpmggmenbaaGreatPfSvI
set_option linter.unusedSimpArgs false
set_option linter.unusedVariables false
namespace Go.Cat
set_option maxRecDepth 100000
variable{K:Nat->List D->List D->Prop}
def cyT:List (List Int):=[[],[-1,1],[1,1],[1,1,1],[1,0,1],[1,1,1,1,1],[1,-1,1],[1,1,1,1,1,1,1],[1,0,0,0,1],[1,0,0,1,0,0,1],[1,-1,1,-1,1]]
def C8(d:Nat):List Int:=cyT.getD d []
def dvQ(a b:List Int):List Int:=DL (Iy b (Bh a b) (a,rep (Bh a b:Nat) 0)).2
def Ec(d:Nat):Nat->List Int
 |0=>BH (BH (rep ((d:Int)+1) 0) 0 (-1)) d 1
 |i+1=>if d%(i+1)=0 then dvQ (Ec d i) (C8 (i+1))else Ec d i
def cyB(d:Nat):Bool:=decide (Ec d (d-1)=C8 d)&&((List.range d).all (λi=>decide ((Ec d i).length<=20))&&(List.range (d-1)).all λi=>decide (1<=(C8 (i+1)).length/\(C8 (i+1)).length<=20)&&(decide (¬d%(i+1)=0)||match Fs (C8 (i+1)) (Bh (Ec d i) (C8 (i+1))) (Ec d i,rep (Bh (Ec d i) (C8 (i+1)):Nat) 0)with
  |some x=>decide (DL x.2=Ec d (i+1))
  |none=>false))
theorem cyB0:BR 10 (λd=>cyB (d+1))=true:=by kernel_rfl
theorem AJD{d:Nat}(h:1<=d/\d<=10):Ec d (d-1)=C8 d/\(∀i,i<d->(Ec d i).length<=20)/\∀i,i+1<d->(1<=(C8 (i+1)).length/\(C8 (i+1)).length<=20)/\(d%(i+1)=0->∃x,Fs (C8 (i+1)) (Bh (Ec d i) (C8 (i+1))) (Ec d i,rep (Bh (Ec d i) (C8 (i+1)):Nat) 0)=some x/\DL x.2=Ec d (i+1)):=by
 have:=BY cyB0 (d-1) (by omega);rw[show d-1+1=d by omega]at this;simp only[cyB,AV,Aa]at this;obtain⟨a,b,c⟩:=this;refine⟨a,λi hi=>by simpa using Ao.1 b i (List.mem_range.2 hi),λi hi=>?_⟩;have H:=Ao.1 c i (List.mem_range.2 (by omega));simp only[AV,Aa,Bool.or_eq_true]at H;refine⟨H.1,λhd=>?_⟩;rcases H.2 with q|q;exact absurd hd q;split at q;rename_i x e;exact⟨x,e,by simpa using q⟩
 cases q
theorem AP2{d i:Nat}:Ec d (i+1)=if d%(i+1)=0 then dvQ (Ec d i) (C8 (i+1))else Ec d i:=rfl
theorem Rw{d i:Nat}:((d:Int)%((i:Int)+1)=0)↔d%(i+1)=0:=by rw[show(d:Int)%((i:Int)+1)=((d%(i+1):Nat):Int) by simp[Int.natCast_emod]];omega
theorem ANF{zs:List Int}{x:Int}(h:0<zs.length):Aw [0] (LI zs) (.n x)=some (LI (BH zs 0 x)):=U5 (i:=0) (by omega)
theorem ZN[HA K]:∀(d:Nat),1<=d->d<=10->K 599 [.n d] [LI (C8 d)]
 |d,H,l=>by
  obtain⟨C,c2,f⟩:=AJD ⟨H,l⟩;have I:∀e,1<=e->e<d->K 599 [.n e] [LI (C8 e)]:=λe h o=>ZN e h (by omega);have R:(rep ((d:Int)+1) (0:Int)).length=d+1:=by simp[rep]
  refine qb I599 ?_;simp(disch:=try exact dV) only[AD,ANF];refine AN (λ_=>True) (λi=>[.n d,.u,LI (Ec d i),.n ((i:Int)+1),.u,.u]) (d-1) trivial rfl (λi hi _=>?_) (λ_=>?_);obtain⟨g,j⟩:=f i (by omega);have G:=c2 i (by omega);have s:=AP2 (d:=d) (i:=i);by_cases q:d%(i+1)=0;obtain⟨x,B,F⟩:=j q;have Q:=Rw.2 q;refine wW ?_;have k:=I (i+1) (by omega) (by omega);rw[show((i+1:Nat):Int)=(i:Int)+1 from rfl]at k;refine cW k ?_;have c:=Vc (K:=K) (a:=Ec d i) (b:=C8 (i+1)) (by omega) (by omega) g.1;rw[B]at c;simp only at c;refine cW c ?_;rw[F];have Q:¬((d:Int)%((i:Int)+1)=0):=λe=>q (Rw.1 e);rw[if_neg q]at s;rw[s];exact wZ;refine wW ?_;rw[C]
termination_by d=>d
theorem ZJ[HA K]:∀(d:Nat),1<=d->d<=10->K 596 [.n d] [LI (C8 d)]
 |d,b,f=>by
  obtain⟨c,c2,C⟩:=AJD ⟨b,f⟩;have I:∀e,1<=e->e<d->K 596 [.n e] [LI (C8 e)]:=λe H g=>ZJ e H (by omega);have R:(rep ((d:Int)+1) (0:Int)).length=d+1:=by simp[rep]
  refine qb I596 ?_;simp(disch:=try exact dV) only[AD,ANF];refine AN (λ_=>True) (λi=>[.n d,.u,LI (Ec d i),.n ((i:Int)+1),.u,.u]) (d-1) trivial rfl (λi hi _=>?_) (λ_=>?_);obtain⟨a,j⟩:=C i (by omega);have l:=c2 i (by omega);have h:=AP2 (d:=d) (i:=i);by_cases q:d%(i+1)=0;have Q:=Rw.2 q;rw[if_pos q]at h;rw[h];refine wW ?_;have k:=I (i+1) (by omega) (by omega);rw[show((i+1:Nat):Int)=(i:Int)+1 from rfl]at k;refine cW k ?_;exact cZ (VY (by omega) (by omega) a.1);have Q:¬((d:Int)%((i:Int)+1)=0):=λe=>q (Rw.1 e);rw[if_neg q]at h;rw[h];exact wZ;refine wW ?_;rw[c]
termination_by d=>d
def OE(r:List Int):Int×Bool:=if r.length=0 then(0,true)else if r.length=1 then(AB r 0,true)else(0,false)
def vrR(n d:Nat):List Int:=DL (Iy (C8 d) (Bh (B6 n) (C8 d)) (B6 n,rep (Bh (B6 n) (C8 d):Nat) 0)).1
def Gw(n d:Nat):Int×Bool:=OE (vrR n d)
def GP(p:List Int)(d:Nat):Nat->List Int
 |0=>rep d 0
 |i+1=>BH (GP p d i) (i%d:Nat) (AB (GP p d i) (i%d:Nat)+AB p i)
theorem W0{p:List Int}{d:Nat}:∀i,(GP p d i).length=d
 |0=>by simp[GP,rep]
 |i+1=>by simp only[GP,DO,W0 i]
def PM(n d:Nat):Bool:=JZ (B6 n)&&(decide ((B6 n).length<=30)&&(decide (1<=(C8 d).length/\(C8 d).length<=20)&&((B6 n).all (AR 0 100)&&((List.range (B6 n).length).all (λi=>(GP (B6 n) d i).all (AR 0 1000))&&match Fs (C8 d) (Bh (GP (B6 n) d (B6 n).length) (C8 d)) (GP (B6 n) d (B6 n).length,rep (Bh (GP (B6 n) d (B6 n).length) (C8 d):Nat) 0)with
  |some x=>decide (OE (DL x.1)=Gw n d)
  |none=>false))))
theorem vrB0:BR 5 (λn=>BR 10 λd=>PM (n+1) (d+1))=true:=by kernel_rfl
theorem WA{n d:Nat}(h:1<=n/\n<=5)(hd:1<=d/\d<=10):PM n d=true:=by have:=BY (BY vrB0 (n-1) (by omega)) (d-1) (by omega);rwa [show n-1+1=n by omega,show d-1+1=d by omega]at this
theorem AE9{a b:Int}{l:List Int}(h:l.all (AR a b)=true){j:Nat}(H:j<l.length):a<=AB l j/\AB l j<=b:=by
 have:=Ao.1 h l[j] (List.getElem_mem H);have e:AB l (j:Nat)=l[j]:=by simp[AB,H]
 rw[e];exact A5.1 this
theorem AUH[HA K]{n d:Nat}(s:1<=n/\n<=5)(hd:1<=d/\d<=10):K 588 [LI (B6 n),.n d] [.n (Gw n d).1,.b (Gw n d).2]:=by
 have h:=WA s hd;simp only[PM,AV,Aa]at h;obtain⟨b1,b2,e,f,g,B⟩:=h;obtain⟨x,F,G⟩:∃x,Fs (C8 d) (Bh (GP (B6 n) d (B6 n).length) (C8 d)) (GP (B6 n) d (B6 n).length,rep (Bh (GP (B6 n) d (B6 n).length) (C8 d):Nat) 0)=some x/\OE (DL x.1)=Gw n d:=by
  split at B;rename_i x C;exact⟨x,C,by simpa using B⟩
  cases B
 have H:AR 1 16 (d:Int)=true:=A5.2 (by omega);rw[<-G];refine qw I588 ?_;refine cB (AI6 (by omega)) ?_;rw[b1];refine wW ?_;refine cB Bq ?_;rw[H];refine wW ?_;refine AN (λ_=>True) (λi=>[.u,.n d,.u,.u,LI (GP (B6 n) d i),.u,.u,.u,.u,LI (B6 n),.n (B6 n).length,.n i,.u,.u,.u,.u]) (B6 n).length trivial rfl (λi hi _=>?_) (λ_=>?_);have l:=W0 (p:=B6 n) (d:=d) i;have q:i%d<d:=Nat.mod_lt _ (by omega);have o:(i:Int)%(d:Int)=((i%d:Nat):Int):=by simp[Int.natCast_emod]
 have v1:=AE9 f (j:=i) hi;have v2:=AE9 (Ao.1 g i (List.mem_range.2 hi)) (j:=i%d) (by rw[l];exact q);simp(disch:=try exact dV) only[AD,o];rfl;have l:=W0 (p:=B6 n) (d:=d) (B6 n).length;refine wW ?_;refine cW (ZN d hd.1 hd.2) ?_;have k:=Vc (K:=K) (a:=GP (B6 n) d (B6 n).length) (b:=C8 d) (by omega) (by omega) e.1;rw[F]at k;simp only at k;refine cB k ?_;generalize DL x.1=r;unfold OE;by_cases h0:r.length=0;rw[if_pos h0];exact wZ;rw[if_neg h0];by_cases c:r.length=1;rw[if_pos c];exact wZ;rw[if_neg c];exact wZ
theorem AbV[HA K]{n d:Nat}(c:1<=n/\n<=5)(hd:1<=d/\d<=10):K 585 [LI (B6 n),.n d] [.n (Gw n d).1,.b (Gw n d).2]:=by have h:=WA c hd;simp only[PM,AV,Aa]at h;obtain⟨b1,b2,B,_,_,_⟩:=h;have H:AR 1 16 (d:Int)=true:=A5.2 (by omega);refine qw I585 ?_;refine cB (AVO (by omega)) ?_;rw[b1];refine wW ?_;refine cB Bt ?_;rw[H];refine wW ?_;refine cW (ZJ d hd.1 hd.2) ?_;refine cB (VY (by omega) (by omega) B.1) ?_;rw[Gw,vrR];generalize DL (Iy (C8 d) (Bh (B6 n) (C8 d)) (B6 n,rep (Bh (B6 n) (C8 d):Nat) 0)).1=r;unfold OE;by_cases h0:r.length=0;rw[if_pos h0];exact wZ;rw[if_neg h0];by_cases a:r.length=1;rw[if_pos a];exact wZ;rw[if_neg a];exact wZ
end Go.Cat
namespace Go.Cat
set_option maxRecDepth 100000
variable{K:Nat->List D->List D->Prop}
abbrev tvg:List (Nat×IF):=[(589,I589.v)]
abbrev tvo:List (Nat×IF):=[(586,I586.v)]
def Qq(x:Option (List D))(v:Nat):Bool:=match x with
 |some [.i .i64 z]=>decide (z=v)
 |_=>false
theorem AR9{x:Option (List D)}{v:Nat}(h:Qq x v=true):x=some [.n v]:=by
 unfold Qq at h;split at h;rw[Aa]at h;rw[h]
 cases h
theorem gc0:BR 10 (λo=>BR (o+1) λk=>Qq (E2 (EU tvg) 100 20 589 [.n ((o+1:Nat):Int),.n (k:Nat)]) (Nat.gcd (o+1) k))=true:=by kernel_rfl
theorem od0:BR 10 (λo=>BR (o+1) λk=>Qq (E2 (EU tvo) 100 20 586 [.n ((o+1:Nat):Int),.n (k:Nat)]) ((o+1)/Nat.gcd (o+1) k))=true:=by kernel_rfl
theorem AYA[HA K]{o k:Nat}(H:1<=o/\o<=10)(h:k<o):K 589 [.n o,.n k] [.n (Nat.gcd o k)]:=by have:=AR9 (BY (BY gc0 (o-1) (by omega)) k (by omega));rw[show o-1+1=o by omega]at this;exact run tvg 100 20 589 this
theorem Ae7[HA K]{o k:Nat}(H:1<=o/\o<=10)(h:k<o):K 586 [.n o,.n k] [.n (o/Nat.gcd o k:Nat)]:=by have:=AR9 (BY (BY od0 (o-1) (by omega)) k (by omega));rw[show o-1+1=o by omega]at this;exact run tvo 100 20 586 this
theorem ASE{o k:Nat}(a:1<=o/\o<=10):1<=o/Nat.gcd o k/\o/Nat.gcd o k<=10:=by have h:0<Nat.gcd o k:=Nat.gcd_pos_of_pos_left _ (by omega);have H:Nat.gcd o k<=o:=Nat.gcd_le_left _ (by omega);exact⟨Nat.div_pos H h,Nat.le_trans (Nat.div_le_self _ _) a.2⟩
theorem XE{f n:Nat}(h:f<3)(H:1<=n/\n<=5):1<=Bd f n/\Bd f n<=10:=by rcases f3 h with rfl|rfl|rfl<;>simp only[Bd]<;>omega
noncomputable def IL(f n k:Nat):Bool:=(Gw n (Bd f n/Nat.gcd (Bd f n) k)).2&&decide ((Gw n (Bd f n/Nat.gcd (Bd f n) k)).1=Hj f n k)
noncomputable def MD(f n:Nat):Bool:=(List.range (Bd f n)).all (IL f n)
theorem ARF{f n:Nat}(h:∀k,k<Bd f n->IL f n k=true):MD f n=true:=Ao.2 λk H=>h k (List.mem_range.1 H)
theorem TT{f n k:Nat}(H:k<Bd f n)(h:IL f n k=false):MD f n=false:=by rw[Bool.eq_false_iff];intro q;have:=Ao.1 q k (List.mem_range.2 H);rw[h]at this;cases this
theorem AYJ[HA K]{f n:Nat}(H:f<3)(h:1<=n/\n<=5):K 570 [.s (BW f),.n n] [.b (MD f n)]:=by
 have o:=XE H h;refine qw I570 ?_;refine cW (RQ H h) ?_;refine cB AC1 ?_;rw[show AR 0 7 (n:Int)=true from A5.2 (by omega)];refine wW ?_;refine AN (λi=>∀j,j<i->IL f n j=true) (λi=>[.s (BW f),.n n,.u,.n (Bd f n),LI (B6 n),.b true,.n i,.u,.u,.u,.u]) (Bd f n) (by omega) rfl (λi hi P=>?_) (λP=>?_);have hd:=ASE (k:=i) o;refine wW ?_;refine cW (Ae7 o hi) ?_;refine cB (AbV h hd) ?_
 cases q1:(Gw n (Bd f n/Nat.gcd (Bd f n) i)).2;refine wW ?_;rw[TT hi (by simp[IL,q1])];refine wW ?_;refine cB (AQB H h hi) ?_;by_cases q:(Gw n (Bd f n/Nat.gcd (Bd f n) i)).1=Hj f n i;refine wW ?_;exact Bf P (by simp[IL,q1,q]);refine wW ?_;rw[TT hi (by simp[IL,q])];refine wW ?_;rw[ARF P]
theorem AUA{a b c d e f:List Nat}:Dv [.s a,.s b,.s c,.s d,.s e,.s f]=some (LS [a,b,c,d,e,f]):=rfl
theorem AgS{a b:List Nat}:Dv [.s a,.s b]=some (LS [a,b]):=rfl
theorem AbX{p:List Int}(h:p.length<=30):(Fm p).length<=1000:=by
 unfold Fm;split;simp;rename_i q;have H:DT p=true:=by
  cases hq:DT p with
  |true=>rfl
  |false=>exact absurd (.inr hq) q
 have:=IH (sep:=[44]) (Vi H) (Eh p).length;rw[glue];rw[Vp]at this|-;simp only[AO,A6]at this;have a:p.length*(20+(0+1))<=30*21:=Nat.mul_le_mul h (by omega);omega
theorem AU2[HA K]{f n:Nat}(H:f<3)(h:1<=n/\n<=5):K 574 [.s (BW f),.n n] [.b (MD f n)]:=by
 have o:=XE H h;refine qw I574 ?_;refine cW (St H h) ?_;refine cB AQC ?_;rw[show AR 0 7 (n:Int)=true from A5.2 (by omega)];refine wW ?_;refine AN (λi=>∀j,j<i->IL f n j=true) (λi=>[.s (BW f),.n n,.u,.n (Bd f n),LI (B6 n),.n i,.u,.u,.u,.u,.u]) (Bd f n) (by omega) rfl (λi hi P=>?_) (λP=>?_);have hd:=ASE (k:=i) o;have g:0<Nat.gcd (Bd f n) i:=Nat.gcd_pos_of_pos_left _ (by omega);have e:(Bd f n:Int)/(Nat.gcd (Bd f n) i:Int)=((Bd f n/Nat.gcd (Bd f n) i:Nat):Int):=by simp
 refine wW ?_;refine cB (AYA o hi) ?_;simp(disch:=try exact dV) only[AD,e];refine cB (AUH h hd) ?_
 cases q1:(Gw n (Bd f n/Nat.gcd (Bd f n) i)).2;refine wW ?_;rw[TT hi (by simp[IL,q1])];refine wW ?_;refine cB (AOX H h hi) ?_;by_cases q:(Gw n (Bd f n/Nat.gcd (Bd f n) i)).1=Hj f n i;refine wW ?_;exact Bf P (by simp[IL,q1,q]);refine wW ?_;rw[TT hi (by simp[IL,q])];refine wW ?_;rw[ARF P]
def HV(f n k:Nat):List Int:=(List.range k).map λk=>(Hj f n k:Int)
theorem U6{f n k:Nat}:(HV f n k).length=k:=by simp[HV]
theorem ZM{f n k:Nat}:HV f n (k+1)=HV f n k++[(Hj f n k:Int)]:=by simp[HV,List.range_succ]
theorem Ad9{f n k:Nat}(a:n<=5):Hj f n k<=132:=by have h:=LY (n:=n) (by omega);have H:=List.countP_le_length (p:=λw=>decide (t15 f n k w=w)) (l:=AI n);simp only[Hj];omega
theorem Aj5{f n k:Nat}(H:n<=5):H4 (HV f n k):=λy h=>by
 simp only[HV,List.mem_map]at h
 obtain⟨j,_,rfl⟩:=h
 have:=Ad9 (f:=f) (n:=n) (k:=j) H
 omega
theorem AB6{L:List Int}(hL:L.length<=132):∀i,(iter (DV L) i ([],List.replicate L.length false)).1.length<=i/\H4 (iter (DV L) i ([],List.replicate L.length false)).1
 |0=>⟨by simp[iter],λy h=>by simp[iter]at h⟩
 |i+1=>by obtain⟨b,H⟩:=AB6 hL i;have hi:=(Rl (L:=L) (f:=L.length) (a:=i) (s:=0) (B:=(iter (DV L) i ([],List.replicate L.length false)).2)).2.2;simp only[iter,DV];split;refine⟨by simp only[A4,AO,A6];omega,λy h=>?_⟩;rcases Ac.1 h with q|q;exact H y q;rw[List.mem_singleton.1 q];omega;exact⟨by omega,H⟩
theorem Aj8{p:List Int}:10∉Fm p:=by unfold Fm;split;decide;exact Kh (by decide) (MX λ_=>Fp) _
theorem WT[HA K]{f n:Nat}(a:f<3)(h:1<=n/\n<=5):∃v,(v≠[]/\Nw v)/\K 558 [.s (BW f),.n n] [.s v]/\K 557 [.s (BW f),.n n] [.s v]:=by
 have I:=XE a h;have J:=LY (n:=n) (by omega);have hL:=No (f:=f) (n:=n);have g:(B6 n).length<=30:=by have:=WA h (d:=1) (by omega);simp only[PM,AV,Aa]at this;exact this.2.1
 have b:=Aj5 (f:=f) (n:=n) (k:=Bd f n) h.2;have x:=U6 (f:=f) (n:=n) (k:=Bd f n);obtain⟨O,F⟩:=AB6 (L:=Av f n) (by omega) (Av f n).length;have c:H4 (JL (Av f n)):=F;have B:(JL (Av f n)).length<=(Av f n).length:=O;have N:=Jf b;have M:=Jf c;have P:=AbX (p:=B6 n) g;have q:AR 0 7 (n:Int)=true:=A5.2 (by omega);obtain⟨s1,H⟩:∃s,s=[115,105,101,118,101,32]++Fm (B6 n)++[32,102,105,120,101,100,32]++EO (HV f n (Bd f n))++[32,111,114,98,105,116,115,32]++EO (JL (Av f n)):=⟨_,rfl⟩;have C:s1.length<=50000:=by rw[H];simp;omega
 have N:s1≠[]/\10∉s1:=by rw[H];exact⟨by simp,by simp[Aj8,Td]⟩
 have G:glue [32] [[115,105,101,118,101],Fm (B6 n),[102,105,120,101,100],EO (HV f n (Bd f n)),[111,114,98,105,116,115],EO (JL (Av f n))]=s1:=by rw[H];simp[glue,BE,AG]
 have l:=Hk (K:=K) (ws:=[[115,105,101,118,101],Fm (B6 n),[102,105,120,101,100],EO (HV f n (Bd f n)),[111,114,98,105,116,115],EO (JL (Av f n))]) (by simp) (by simp;omega);rw[G]at l;have o:glue [32] [s1,[104,111,108,100,115]]=s1++[32,104,111,108,100,115]:=by simp[glue,BE,AG]
 have e:=Hk (K:=K) (ws:=[s1,[104,111,108,100,115]]) (by simp) (by simp;omega);rw[o]at e;refine⟨if MD f n=true then s1++[32,104,111,108,100,115]else s1,by split<;>first|exact⟨N.1,by omega,N.2⟩|exact⟨by simp,by simp;omega,by simp[N.2]⟩,?_,?_⟩;refine qw AGM ?_;refine cW (St a h) ?_;refine cW AQC ?_;refine AN (λ_=>True) (λi=>[.s (BW f),.n n,.u,.u,LI (B6 n),LI (HV f n i),.u,.u,.u,.u,.n (Bd f n),.n i,.u,.u]) (Bd f n) trivial rfl (λi hi _=>?_) (λ_=>?_);have j:=U6 (f:=f) (n:=n) (k:=i);refine wW ?_;refine cW (AOX a h hi) ?_;rw[ZM];refine wW ?_;refine cW (ATF a h) ?_;refine cW (Ac8 (by omega)) ?_;refine cW (QF (by omega) b) ?_;refine cB (QF (by omega) c) ?_;simp(disch:=try exact dV) only[AD,AUA];refine cW l ?_;refine cB (AU2 a h) ?_
 cases hd:MD f n;refine wW ?_;rw[if_neg (by simp)];simp(disch:=try exact dV) only[AD,AgS];exact cZ e;refine qw AQE ?_;refine cW (RQ a h) ?_;refine cW AC1 ?_;refine AN (λ_=>True) (λi=>[.s (BW f),.n n,.u,.n (Bd f n),LI (B6 n),LI (HV f n i),.n i,.u,.u,.u,.u,.u]) (Bd f n) trivial rfl (λi hi _=>?_) (λ_=>?_);have j:=U6 (f:=f) (n:=n) (k:=i);refine wW ?_;refine cW (AQB a h hi) ?_;rw[ZM];refine wW ?_;refine cW (AUG a h) ?_;refine cW (AY1 (by omega)) ?_;refine cW (Pq (by omega) b) ?_;refine cW (Pq (by omega) c) ?_;refine cB (AYJ a h) ?_
 cases hd:MD f n;refine wW ?_;rw[if_neg (by simp),H];simp;refine wW ?_;rw[H];simp
theorem AcC[HA K](s:List Nat)(a:Int):∃v,Nw v/\K 558 [.s s,.n a] [.s v]/\K 557 [.s s,.n a] [.s v]:=by
 have o:AR 1 5 a=false\/(s≠BW 0/\s≠BW 1/\s≠BW 2)->∃v,Nw v/\K 558 [.s s,.n a] [.s v]/\K 557 [.s s,.n a] [.s v]:=λh=>by
  refine⟨[],⟨by simp,by simp⟩,?_,?_⟩
  .refine qw AGM ?_;exact cZ (AfB h)
  .refine qw AQE ?_;exact cZ (AbW h)
 cases hin:AR 1 5 a with
 |false=>exact o (.inl hin)
 |true=>
  have h:=A5.1 hin
  obtain⟨n,rfl⟩:=CE (by omega:0<=a)
  by_cases h0:s=BW 0
  .rw[h0]
   obtain⟨v,H,k⟩:=WT (K:=K) (f:=0) (n:=n) (by omega) (by omega)
   exact⟨v,H.2,k⟩
  .by_cases b:s=BW 1
   .rw[b]
    obtain⟨v,H,k⟩:=WT (K:=K) (f:=1) (n:=n) (by omega) (by omega)
    exact⟨v,H.2,k⟩
   .by_cases c:s=BW 2
    .rw[c]
     obtain⟨v,H,k⟩:=WT (K:=K) (f:=2) (n:=n) (by omega) (by omega)
     exact⟨v,H.2,k⟩
    .exact o (.inr ⟨h0,b,c⟩)
end Go.Cat
