/-
 Partitions read back: IsNoncrossing, PathOfPartition and l32Partition of the reference, for any list and text.
-/
import Derived.Test.YthoilpmggmenbaaGreatPfPart
set_option linter.unusedSimpArgs false
set_option linter.unusedVariables false
namespace Go.Cat
variable{K:Nat->List D->List D->Prop}
def JG(f:Int->List Int->Bool):List Int->Bool
 |[]=>true
 |x::t=>f x t&&JG f t
def QO(x y z:Int):List Int->Bool:=JG λu _=>!(decide (x=z)&&decide (y=u)&&!decide (x=y))
def Lv(x y:Int):List Int->Bool:=JG λz t=>QO x y z t
def JP(x:Int):List Int->Bool:=JG λy t=>Lv x y t
def En:List Int->Bool:=JG λx t=>JP x t
def GM(p:List Int):Bool:=CZ p&&En p
theorem Qa{f:Int->List Int->Bool}{p:List Int}{i:Nat}(h:i<p.length):JG f (p.drop i)=(f (AB p i) (p.drop (i+1))&&JG f (p.drop (i+1))):=by rw[List.drop_eq_getElem_cons h,JG];simp[AB,h]
theorem UC{f:Int->List Int->Bool}{p:List Int}{i:Nat}(h:p.length<=i):JG f (p.drop i)=true:=by rw[List.drop_of_length_le h]<;>rfl
theorem nc_s[HA K]{p:List Int}(h:p.length<=1099511627776):K 483 [LI p] [.b (GM p)]:=by
 have s:=PL (K:=K) (p:=p) h;refine qw I483 ?_;by_cases g:CZ p=true;rw[g]at s;have Y:p.length<=8:=by simp[CZ]at g;exact g.1
 have F:GM p=En p:=by simp[GM,g]
 rw[F];refine AN (λi=>En p=En (p.drop i)) (λi=>[LI p,.u,.n i,.u,.u,.u,.u,.u,.u,.u,.u]) p.length (by simp) rfl (λa U x=>?_) (λx=>?_);have x:En p=(JP (AB p a) (p.drop (a+1))&&En (p.drop (a+1))):=x.trans (Qa U);refine wW ?_;refine cW s ?_;refine AN (λj=>En p=(JP (AB p a) (p.drop (a+1+j))&&En (p.drop (a+1)))) (λj=>[LI p,.u,.n a,.n ((a:Int)+1+j),.u,.u,.u,.u,.u,.u,.u]) (p.length-(a+1)) (by simpa using x) (by simp) (λj Z B=>?_) (λB=>?_);obtain⟨b,V⟩:∃b,b=a+1+j:=⟨_,rfl⟩;have Q:(a:Int)+1+j=(b:Int):=by omega
 have J:b<p.length:=by omega
 rw[<-V]at B;have B:En p=((Lv (AB p a) (AB p b) (p.drop (b+1))&&JP (AB p a) (p.drop (b+1)))&&En (p.drop (a+1))):=by rw[B];congr 1;exact Qa J
 rw[Q];refine wW ?_;refine AN (λk=>En p=((Lv (AB p a) (AB p b) (p.drop (b+1+k))&&JP (AB p a) (p.drop (b+1)))&&En (p.drop (a+1)))) (λk=>[LI p,.u,.n a,.n b,.n ((b:Int)+1+k),.u,.u,.u,.u,.u,.u]) (p.length-(b+1)) (by simpa using B) (by simp) (λk hk C=>?_) (λC=>?_);obtain⟨c,W⟩:∃c,c=b+1+k:=⟨_,rfl⟩;have R:(b:Int)+1+k=(c:Int):=by omega
 have L:c<p.length:=by omega
 rw[<-W]at C;have C:En p=(((QO (AB p a) (AB p b) (AB p c) (p.drop (c+1))&&Lv (AB p a) (AB p b) (p.drop (c+1)))&&JP (AB p a) (p.drop (b+1)))&&En (p.drop (a+1))):=by rw[C];congr 2;exact Qa L
 rw[R];refine wW ?_;refine AN (λl=>En p=(((QO (AB p a) (AB p b) (AB p c) (p.drop (c+1+l))&&Lv (AB p a) (AB p b) (p.drop (c+1)))&&JP (AB p a) (p.drop (b+1)))&&En (p.drop (a+1)))) (λl=>[LI p,.u,.n a,.n b,.n c,.n ((c:Int)+1+l),.u,.u,.u,.u,.u]) (p.length-(c+1)) (by simpa using C) (by simp) (λl hl H=>?_) (λH=>?_);obtain⟨d,hd⟩:∃d,d=c+1+l:=⟨_,rfl⟩;have T:(c:Int)+1+l=(d:Int):=by omega
 have M:d<p.length:=by omega
 have G:c+1+(l+1)=d+1:=by omega
 have o:(c:Int)+1+((l:Int)+1)=(d:Int)+1:=by omega
 rw[<-hd]at H;have H:En p=((((!(decide (AB p a=AB p c)&&decide (AB p b=AB p d)&&!decide (AB p a=AB p b)))&&QO (AB p a) (AB p b) (AB p c) (p.drop (d+1)))&&Lv (AB p a) (AB p b) (p.drop (c+1)))&&JP (AB p a) (p.drop (b+1))&&En (p.drop (a+1))):=by rw[H];congr 3;exact Qa M
 rw[T,G];by_cases N:AB p a=AB p c;by_cases O:AB p b=AB p d;by_cases P:AB p a=AB p b;refine wW ?_;rw[o];refine⟨?_,rfl⟩;rw[H];simp[P];refine wW ?_;rw[H,decide_eq_true N,decide_eq_true O,decide_eq_false P];simp;refine wW ?_;rw[o];refine⟨?_,rfl⟩;rw[H];simp[O];refine wW ?_;rw[o];refine⟨?_,rfl⟩;rw[H];simp[N];refine wW ?_;have e:=UC (f:=λu _=>!(decide (AB p a=AB p c)&&decide (AB p b=u)&&!decide (AB p a=AB p b))) (p:=p) (i:=c+1+(p.length-(c+1))) (by omega);have e:QO (AB p a) (AB p b) (AB p c) (p.drop (c+1+(p.length-(c+1))))=true:=e;rw[e,Bool.true_and]at H;have I:b+1+(k+1)=c+1:=by omega
 have q:(b:Int)+1+((k:Int)+1)=(c:Int)+1:=by omega
 rw[I,q];exact⟨H,rfl⟩;refine wW ?_;have e:Lv (AB p a) (AB p b) (p.drop (b+1+(p.length-(b+1))))=true:=UC (by omega);rw[e,Bool.true_and]at C;have I:a+1+(j+1)=b+1:=by omega
 have q:(a:Int)+1+((j:Int)+1)=(b:Int)+1:=by omega
 rw[I,q];exact⟨C,rfl⟩;refine wW ?_;have e:JP (AB p a) (p.drop (a+1+(p.length-(a+1))))=true:=UC (by omega);rw[e,Bool.true_and]at B;exact B;have e:En (p.drop p.length)=true:=UC (by omega);rw[e]at x;refine wW ?_;refine cW s ?_;rw[x];have g:CZ p=false:=by simpa using g
 rw[g]at s;have F:GM p=false:=by simp[GM,g]
 rw[F];refine AN (λ_=>True) (λ_=>[LI p,.u,.n 0,.u,.u,.u,.u,.u,.u,.u,.u]) 0 trivial rfl (λi hi _=>absurd hi (by omega)) (λ_=>?_);by_cases h0:p.length=0;refine wW ?_;exact cZ s;refine wW ?_;refine cW s ?_;exact cZ s
theorem ALB{p:List Int}(h:CZ p=true):FK p p.length/\p.length<=8:=by simp[CZ]at h;exact⟨h.2,h.1⟩
theorem AW6{o:List (List Int)}{i j:Int}{r:List Int}(hi:0<=i/\i<o.length)(h:0<=j):AG (Dz o i r) j=if i=j then r else AG o j:=by
 obtain⟨n,rfl⟩:=CJ hi.1;obtain⟨m,rfl⟩:=CJ h;have H:n<o.length:=by have:=hi.2;omega
 simp only[AG,Dz,Int.ofNat_eq_natCast,BM,Ap,List.getElem?_set];by_cases e:n=m;subst e;simp[H];have a:¬(n:Int)=(m:Int):=by omega
 simp[e,a]
theorem AKM{p:List Int}:∀{i:Nat},FK p i->∀j:Nat,j<i->0<(AG (Ar p i) (AB p j)).length
 |0,_,j,f=>by omega
 |i+1,h,j,f=>by
  have b:FK p i:=λk F=>h k (by omega)
  have x:=Lq b
  have B:=A7.1 (h i (by omega))
  have s:=A7.1 (h j f)
  simp only[Ar]
  generalize g:(if AB p i=(Ar p i).length then Ar p i++[[]]else Ar p i)=o
  have c:0<=AB p i/\AB p i<o.length:=by
   rw[<-g];split
   simp only[AW,AP,A5];omega
   omega
  rw[AW6 c s.1]
  by_cases he:AB p i=AB p j
  rw[if_pos he];simp
  rw[if_neg he]
  have a:j<i:=by
   rcases BQ j i with q|q
   exact q
   obtain rfl:j=i:=by omega
   exact absurd rfl he
  have I:=AKM b j a
  rw[<-g];split
  have e:=A7.1 (b j a)
  have C:=Jk b
  have l:AB p j<(Ar p i).length:=by
   rcases Int.lt_or_le (AB p j) ((Ar p i).length:Int)with q|q
   exact q
   exfalso
   obtain⟨m,H⟩:=CJ e.1
   have H:AB p j=(m:Int):=H
   rw[H]at I q
   have:AG (Ar p i) (m:Int)=[]:=by
    simp only[AG,BM,Ap]
    rw[Dt (by omega)]<;>rfl
   rw[this]at I;simp at I
  obtain⟨m,H⟩:=CJ e.1
  have H:AB p j=(m:Int):=H
  rw[H]at I l|-
  have:AG (Ar p i++[[]]) (m:Int)=AG (Ar p i) (m:Int):=by
   simp only[AG,BM,Ap]
   rw[D4 (by omega)]
  rw[this];exact I
  exact I
def K4(p:List Int)(b:List (List Int)):Nat->List Nat
 |0=>[]
 |i+1=>K4 p b i++[117]++if AB (AG b (AB p i)) ((AG b (AB p i)).length-1)=i then List.replicate (AG b (AB p i)).length 100 else []
def Ij(p:List Int):List Nat:=if GM p=true then K4 p (Ar p p.length) p.length else []
theorem Yx{p:List Int}{b:List (List Int)}(h:∀j:Nat,j<p.length->(AG b (AB p j)).length<=8):∀{i:Nat},i<=p.length->(K4 p b i).length<=9*i
 |0,_=>by simp[K4]
 |i+1,hi=>by have I:=Yx h (i:=i) (by omega);have H:=h i (by omega);simp only[K4,AW,AP,A5];split;simp only[List.length_replicate];omega;simp only[A5];omega
theorem AlX{k c:Nat}:List.replicate (k+1) c=List.replicate k c++[c]:=by rw[List.replicate_succ']
theorem AET[HA K]{p:List Int}(h:p.length<=1099511627776):K 579 [LI p] [.s (Ij p),.b (GM p)]:=by
 have F:=nc_s (K:=K) (p:=p) h;by_cases a:GM p=true;have L:CZ p=true:=by simp only[GM,AV]at a;exact a.1
 obtain⟨C,R⟩:=ALB L;have I:=YR (K:=K) (p:=p) h;rw[L,if_pos rfl]at I;have e:=AKM C;have G:=Lq C;have N:=Jk C;have H:∀j:Nat,j<p.length->0<=AB p j/\AB p j<(Ar p p.length).length:=by
  intro j l;have J:=A7.1 (C j l);have g:=e j l;refine⟨J.1,?_⟩;rcases Int.lt_or_le (AB p j) ((Ar p p.length).length:Int)with q|q;exact q;exfalso;obtain⟨m,c⟩:=CJ J.1;have c:AB p j=(m:Int):=c;rw[c]at g q;have:AG (Ar p p.length) (m:Int)=[]:=by simp only[AG,BM,Ap];rw[Dt (by omega)]<;>rfl
  rw[this]at g;simp at g
 have f:∀j:Nat,j<p.length->(AG (Ar p p.length) (AB p j)).length<=8:=by intro j l;obtain⟨m,c⟩:=CJ (H j l).1;have c:AB p j=(m:Int):=c;have g:=(H j l).2;rw[c]at g|-;have:=Nz (HR (i:=m) (m:=Ar p p.length) (by omega));omega
 rw[a]at F;rw[Ij,if_pos a,a];generalize T:Ar p p.length=B at I e f H G;refine qw Zx ?_;refine cW F ?_;refine cW I ?_;refine AN (λ_=>True) (λi=>[LI p,.u,.u,.s (K4 p B i),LL B,.n i,.u,.u,.u,.u,.u,.u]) p.length trivial rfl (λi hi _=>?_) (λ_=>?_);have Q:=e i hi;have P:=f i hi;have V:=H i hi;have M:=Yx f (i:=i) (by omega);obtain⟨r,x⟩:∃r,r=AG B (AB p i):=⟨_,rfl⟩;rw[K4,<-x];rw[<-x]at Q P;by_cases o:AB r (r.length-1)=i;rw[if_pos o];simp(disch:=try exact dV) only[AD,<-x,o];refine AN (λ_=>True) (λk=>[LI p,.u,.u,.s (K4 p B i++[117]++List.replicate k 100),LL B,.n i,LI r,.n k,.u,.u,.u,.u]) r.length trivial (by simp) (λk U _=>?_) (λ_=>?_);have O:(List.replicate k 100:List Nat).length=k:=by simp
 rw[AlX,<-CT];exact wZ;exact wZ;rw[if_neg o,List.append_nil];simp(disch:=try exact dV) only[AD,<-x,o];exact wZ;have a:GM p=false:=by simpa using a
 rw[a]at F;rw[Ij,a];refine qw Zx ?_;exact cZ F
def HC(n:Int):List Nat->List Int->Int->Option (List Int)
 |[],p,_=>some p
 |c::t,p,b=>if c=124 then HC n t p (b+1)else if AR 0 (n-1) ((c:Int)-49)=true/\AB p ((c:Int)-49)<0 then HC n t (BE p ((c:Int)-49) b) b else none
def HH(s:List Nat):Nat:=s.countP λc=>decide (c≠124)
def Iw(s:List Nat):Option (List Int):=if 8<HH s then none else HC (HH s) s (List.replicate (HH s) (-1)) 0
def JV(s:List Nat):Bool:=(Iw s).isSome
def Fk(s:List Nat):List Int:=(Iw s).getD []
theorem AZH{s:List Nat}{c:Nat}:HH (s++[c])=HH s+if c=124 then 0 else 1:=by by_cases h:c=124;simp[HH,h];simp[HH,h]
theorem ARN{s:List Nat}:HH s<=s.length:=List.countP_le_length
theorem AVO{s:List Nat}{n:Int}{i:Nat}{p:List Int}{b:Int}(h:i<s.length):HC n (s.drop i) p b=if AH s i=124 then HC n (s.drop (i+1)) p (b+1)else if AR 0 (n-1) ((AH s i:Int)-49)=true/\AB p ((AH s i:Int)-49)<0 then HC n (s.drop (i+1)) (BE p ((AH s i:Int)-49) b) b else none:=by rw[EN h]<;>rfl
theorem O4{p:List Int}{i x:Int}:(BE p i x).length=p.length:=by simp[BE]
theorem AUU[HA K]{s:List Nat}(h:s.length<=1000000)(R:∀c∈s,c<256):K 578 [.s s] [LI (Fk s),.b (JV s)]:=by
 refine qw I578 ?_;refine AN (λ_=>True) (λi=>[.s s,.u,.u,.n (HH (s.take i)),.n i,.u,.u,.u,.u,.u,.u,.u,.u,.u,.u,.u,.u]) s.length trivial (by simp[HH]) (λi hi _=>?_) (λ_=>?_);have O:=ARN (s:=s.take i);simp only[List.length_take]at O;rw[FE hi,AZH];by_cases H:AH s i=124;simp(disch:=omega) only[AD,H];rfl;simp(disch:=omega) only[AD,H];rw[List.take_length];have O:=ARN (s:=s);obtain⟨n,F⟩:∃n,n=HH s:=⟨_,rfl⟩;rw[<-F];by_cases N:8<n;refine wW ?_;have e:Iw s=none:=by rw[Iw,<-F,if_pos N]
 simp only[Fk,JV,e];rfl;have L:Iw s=HC n s (List.replicate n (-1)) 0:=by rw[Iw,<-F,if_neg N]
 refine wW ?_;refine Ah (λi (x:List Int)=>x.length=n/\∀j:Nat,j<i->AB x j=-1) (λi x=>[.s s,.u,.u,.n n,.u,LI x,.n i,.u,.u,.u,.u,.u,.u,.u,.u,.u,.u]) n (rep (n:Int) 0) ⟨by simp[rep],by simp⟩ rfl (λi x hi P=>?_) (λx P=>?_);obtain⟨o,C⟩:=P;refine wW ?_;refine⟨BE x i (-1),⟨by rw[O4,o],λj U=>?_⟩,rfl⟩;rw[Hc (by omega)];split;rfl;exact C j (by omega);obtain⟨o,C⟩:=P;have ex:x=List.replicate n (-1):=by refine List.ext_getElem (by simp[o]) λj Q T=>?_;have:=C j (by omega);simp only[AB,BM,Ap,Eg Q,Option.getD_some]at this;simp[this]
 rw[<-ex]at L;refine wW ?_;refine Ah (λi (y:List Int×Int)=>y.1.length=n/\(0<=y.2/\y.2<=i)/\Iw s=HC n (s.drop i) y.1 y.2) (λi y=>[.s s,.u,.u,.n n,.u,LI y.1,.u,.n y.2,.n i,.u,.u,.u,.u,.u,.u,.u,.u]) s.length (x,0) ⟨o,by simp,by simpa using L⟩ rfl (λi y hi P=>?_) (λy P=>?_);obtain⟨p,b⟩:=y;obtain⟨G,B,g⟩:=P;simp only at G B g;rw[AVO hi]at g;by_cases H:AH s i=124;rw[if_pos H]at g;simp(disch:=omega) only[AD,H];exact⟨(p,b+1),⟨G,by simp;omega,g⟩,rfl⟩;rw[if_neg H]at g;have J:=Bt (K:=K) (x:=(AH s i:Int)-49) (a:=0) (b:=(n:Int)-1);have M:AH s i<256:=R _ (Pb hi);simp(disch:=omega) only[AD,H];refine cB J ?_
 cases hr:AR 0 ((n:Int)-1) ((AH s i:Int)-49);rw[hr]at g;rw[if_neg (by simp)]at g;refine wW ?_;simp only[Fk,JV,g];rfl;have f:=A7.1 hr;obtain⟨m,l⟩:=CJ f.1;have l:(AH s i:Int)-49=(m:Int):=l;rw[l]at g f;have I:AR 0 ((n:Int)-1) (m:Int)=true:=A7.2 f;by_cases k:AB p m<0;rw[if_pos ⟨I,k⟩]at g;simp(disch:=omega) only[AD,l];exact⟨(BE p m b,b),⟨by rw[O4,G],by simp;omega,g⟩,rfl⟩;rw[if_neg (λq=>k q.2)]at g;simp(disch:=omega) only[AD,l];simp only[Fk,JV,g];rfl;obtain⟨p,b⟩:=y;obtain⟨G,B,g⟩:=P;simp only at G B g;rw[List.drop_length]at g;refine wW ?_;simp[Fk,JV,g,HC]
end Go.Cat
namespace Go.Cat
variable{K:Nat->List D->List D->Prop}
def NB(m:List Int):Nat->List Nat
 |0=>[]
 |i+1=>NB m i++[if(i:Int)<AB m i then 117 else 100]
theorem V4{m:List Int}:∀i,(NB m i).length=i
 |0=>rfl
 |i+1=>by simp[NB,V4 i]
def Iz(m:List Int):List Nat:=if ET m=true then NB m m.length else []
theorem AQM[HA K]{m:List Int}(h:m.length<=1099511627776):K 581 [LI m] [.s (Iz m),.b (ET m)]:=by
 have k:=XI (K:=K) (m:=m) h;refine qw I581 ?_;by_cases H:ET m=true;have a:m.length<=16:=by simp only[ET,AV]at H;exact(HT H.1).1
 rw[H]at k|-;rw[Iz,if_pos H];refine AN (λ_=>True) (λi=>[LI m,.u,.u,.s (NB m i),.n i,.u,.u]) m.length trivial rfl (λi hi _=>?_) (λ_=>?_);have l:=V4 (m:=m) i;rw[NB];by_cases c:(i:Int)<AB m i;rw[if_pos c];refine wW ?_;exact cZ k;rw[if_neg c];refine wW ?_;exact cZ k;refine wW ?_;exact cZ k;have H:ET m=false:=by simpa using H
 rw[H]at k|-;have e:Iz m=[]:=by simp[Iz,H]
 rw[e];refine AN (λ_=>True) (λ_=>[LI m,.u,.u,.s [],.n 0,.u,.u]) 0 trivial rfl (λi hi _=>absurd hi (by omega)) (λ_=>?_);by_cases h0:m.length=0;refine wW ?_;exact cZ k;refine wW ?_;refine cW k ?_;exact cZ k
def Eh(p:List Nat):Bool:=Cm (AO 45 p)&&decide ((Bp (AO 45 p)).length=2)
def G9(p:List Nat):List Int:=Bp (AO 45 p)
def Ha(n:Int):List (List Int)->List Int->Option (List Int)
 |[],m=>some m
 |r::t,m=>if AR 0 (n-1) (AB r 0)=true/\AR 0 (n-1) (AB r 1)=true then Ha n t (BE (BE m (AB r 0) (AB r 1)) (AB r 1) (AB r 0))else none
def Fb(s:List Nat):Option (List Int):=
 if s=[110,111,110,101]then some []else
 if(AO 32 s).all Eh=true then Ha (2*(AO 32 s).length:Nat) ((AO 32 s).map G9) (List.replicate (2*(AO 32 s).length) 0)else none
def HS(s:List Nat):Bool:=(Fb s).isSome
def E0(s:List Nat):List Int:=(Fb s).getD []
theorem AlJ{n:Int}{rs:List (List Int)}{m:List Int}{i:Nat}(h:i<rs.length):Ha n (rs.drop i) m=if AR 0 (n-1) (AB (AG rs i) 0)=true/\AR 0 (n-1) (AB (AG rs i) 1)=true then Ha n (rs.drop (i+1)) (BE (BE m (AB (AG rs i) 0) (AB (AG rs i) 1)) (AB (AG rs i) 1) (AB (AG rs i) 0))else none:=by
 have:rs.drop i=AG rs i::rs.drop (i+1):=by rw[List.drop_eq_getElem_cons h];simp[AG,h]
 rw[this]<;>rfl
theorem Q9{o t:List (List Nat)}{p:List Nat}(h:¬Eh p=true):(o++p::t).all Eh=false:=by simp[h]
theorem AaM[HA K]{s:List Nat}(h:s.length<=1000000):K 580 [.s s] [LI (E0 s),.b (HS s)]:=by
 by_cases C:s=[110,111,110,101];subst C;exact qz ABK;have T:(s==[110,111,110,101])=false:=beq_eq_false_iff_ne.2 C;refine qb ABK ?_;simp(disch:=try exact dV) only[AD,T,AIZ];refine Ah (λi (x:List (List Nat)×List Nat)=>x.1.length<=i/\x.2.length<=i/\x.1.all Eh=true/\(i<=s.length->AO 32 s=x.1++C5 32 x.2 (s.drop i))/\(s.length<i->AO 32 s=x.1)) (λi x=>[.s s,.u,.u,LL (x.1.map G9),.s x.2,.n i,.u,.u,.u,.u,.u,.u,.u,.u,.u,.u,.u]) (s.length+1) ([],[]) ⟨by simp,by simp,by simp,by simp[AO],by simp⟩ rfl (λi x hi P=>?_) (λx P=>?_);obtain⟨o,p⟩:=x;obtain⟨O,Q,l,c,_⟩:=P;simp only at O Q l c;have c:=c (by omega);have kp:=Ra (K:=K) (s:=p) (b:=45) (by omega);by_cases Z:i<s.length;rw[S5 Z]at c;by_cases L:AH s i=32;rw[if_pos L]at c;simp(disch:=try exact dV) only[AD,L];refine cB kp ?_;by_cases e:Cm (AO 45 p)=true;by_cases f:(Bp (AO 45 p)).length=2;have H:Eh p=true:=by simp[Eh,e,f]
 simp(disch:=try exact dV) only[AD,e,O8,Fv];exact⟨(o++[p],[]),⟨by simp;omega,by simp,by simp[l,H],λ_=>by simp[c],λq=>absurd q (by omega)⟩,by simp[G9]⟩;have H:¬Eh p=true:=by simp[Eh,e,f]
 simp(disch:=try exact dV) only[AD,e];have N:Fb s=none:=by rw[Fb,if_neg C,c,Q9 H];rfl
 simp only[E0,HS,N];rfl;have H:¬Eh p=true:=by simp[Eh,e]
 simp(disch:=try exact dV) only[AD,e];have N:Fb s=none:=by rw[Fb,if_neg C,c,Q9 H];rfl
 simp only[E0,HS,N];rfl;rw[if_neg L]at c;simp(disch:=try exact dV) only[AD,L];rw[Tv Z];exact⟨(o,p++[AH s i]),⟨by simp;omega,by simp;omega,l,λ_=>c,λq=>absurd q (by omega)⟩,rfl⟩;have e1:s.drop i=[]:=List.drop_eq_nil_of_le (by omega);rw[e1]at c;have c:AO 32 s=o++[p]:=c;refine wW ?_;refine cB kp ?_;by_cases e:Cm (AO 45 p)=true;by_cases f:(Bp (AO 45 p)).length=2;have H:Eh p=true:=by simp[Eh,e,f]
 simp(disch:=try exact dV) only[AD,e,O8,Fv];exact⟨(o++[p],[]),⟨by simp;omega,by simp,by simp[l,H],λq=>absurd q (by omega),λ_=>c⟩,by simp[G9]⟩;have H:¬Eh p=true:=by simp[Eh,e,f]
 simp(disch:=try exact dV) only[AD,e];have N:Fb s=none:=by rw[Fb,if_neg C,c,Q9 H];rfl
 simp only[E0,HS,N];rfl;have H:¬Eh p=true:=by simp[Eh,e]
 simp(disch:=try exact dV) only[AD,e];have N:Fb s=none:=by rw[Fb,if_neg C,c,Q9 H];rfl
 simp only[E0,HS,N];rfl;obtain⟨o,p⟩:=x;obtain⟨O,Q,l,c,J⟩:=P;simp only at O Q l J;have J:=J (by omega);refine wW ?_;have B:∀r∈o.map G9,r.length=2:=by intro r j;obtain⟨x,k,rfl⟩:=List.mem_map.1 j;have:=Ao.1 l x k;simp only[Eh,AV,Ac]at this;exact this.2
 have M:Fb s=Ha (2*(o.map G9).length:Nat) (o.map G9) (List.replicate (2*(o.map G9).length) 0):=by rw[Fb,if_neg C,J,if_pos l,List.length_map]
 have hrl:(o.map G9).length=o.length:=List.length_map ..;have V:(o.map G9).length<=1000001:=by omega
 generalize o.map G9=R at B M V;obtain⟨n,U⟩:∃n:Nat,n=2*R.length:=⟨_,rfl⟩;have e2:2*(R.length:Int)=(n:Int):=by omega
 rw[<-U]at M;rw[e2];refine Ah (λi (m:List Int)=>m.length=n/\Fb s=Ha n (R.drop i) m) (λi m=>[.u,.u,.u,LL R,.u,.u,.u,.u,.n n,LI m,.n i,.u,.u,.u,.u,.u,.u]) R.length (List.replicate n 0) ⟨by simp,by simpa using M⟩ rfl (λi m hi P=>?_) (λm P=>?_);obtain⟨Y,g⟩:=P;rw[AlJ hi]at g;obtain⟨r,j⟩:∃r,r=AG R i:=⟨_,rfl⟩;have hr2:r.length=2:=by rw[j];exact B _ (HR hi)
 rw[<-j]at g;have G:=Bt (K:=K) (x:=AB r 0) (a:=0) (b:=(n:Int)-1);have I:=Bt (K:=K) (x:=AB r 1) (a:=0) (b:=(n:Int)-1)
 cases q0:AR 0 ((n:Int)-1) (AB r 0);rw[q0,if_neg (by simp)]at g;rw[q0]at G;simp(disch:=try exact dV) only[AD,<-j];refine cW G ?_;simp only[E0,HS,g];rfl;rw[q0]at G
 cases q1:AR 0 ((n:Int)-1) (AB r 1);rw[q0,q1,if_neg (by simp)]at g;rw[q1]at I;simp(disch:=try exact dV) only[AD,<-j];refine cB G ?_;simp(disch:=try exact dV) only[AD,<-j];refine cW I ?_;simp only[E0,HS,g];rfl;rw[q0,q1,if_pos ⟨rfl,rfl⟩]at g;rw[q1]at I;have W:=A7.1 q0;have b1:=A7.1 q1;obtain⟨x,k⟩:=CJ W.1;have k:AB r 0=(x:Int):=k;obtain⟨y,F⟩:=CJ b1.1;have F:AB r 1=(y:Int):=F;rw[k,F]at g;rw[k]at G W;rw[F]at I b1;have l1:(BE m x y).length=m.length:=O4;simp(disch:=try exact dV) only[AD,<-j,k,F];refine cB G ?_;simp(disch:=try exact dV) only[AD,<-j,k,F];refine cB I ?_;simp(disch:=try exact dV) only[AD,<-j,k,F];exact⟨BE (BE m x y) y x,⟨by rw[O4,O4,Y],g⟩,rfl⟩;obtain⟨Y,g⟩:=P;rw[List.drop_length]at g;refine wW ?_;simp[E0,HS,g,Ha]
end Go.Cat
namespace Go.Cat
variable{K:Nat->List D->List D->Prop}
def DZ(p:List Int):Nat->List Int
 |0=>[]
 |i+1=>DZ p i++[if i=0 then 0 else AB (DZ p i) (AB p i)+1]
theorem QG{p:List Int}:∀i,(DZ p i).length=i
 |0=>rfl
 |i+1=>by simp[DZ,QG i]
theorem AJR{p:List Int}{n j:Nat}(h:IV p n)(H:j<n)(h0:0<j):0<=AB p j/\AB p j<j:=by have a:=Nb h j H;rcases h j H with q|q;omega;have:=RO (i:=j) (λk b=>Nb h k (by omega)) (j+1) _ _ (by omega) q.2;omega
theorem Yo{p:List Int}(h:CI p=true):(1<=p.length/\p.length<=9)/\IV p p.length:=by simp only[CI,AV,Ac]at h;have:=A7.1 h.1;exact⟨by omega,h.2⟩
theorem Ah9{a:List Int}{x:Int}{k:Nat}(h:k<a.length):AB (a++[x]) k=AB a k:=by simp[AB,Ap,D4 h]
theorem AU5{a:List Int}{x:Int}:AB (a++[x]) (a.length:Nat)=x:=by simp[AB]
theorem ZG{p:List Int}{k:Nat}:∀{i:Nat},k<i->AB (DZ p i) k=AB (DZ p (k+1)) k
 |0,h=>by omega
 |i+1,h=>by
  rcases BQ k i with q|q;rw[DZ,Ah9 (by rw[QG];exact q)]
  exact ZG q;obtain rfl:k=i:=by omega
  rfl
theorem AcA{p:List Int}{n:Nat}(h:IV p n):∀{k:Nat},k<n->0<=AB (DZ p (k+1)) k/\AB (DZ p (k+1)) k<=k:=by
 intro k;induction k using Nat.strongRecOn with
 |_ k i=>
  intro a
  have l:=QG (p:=p) k
  have e:AB (DZ p (k+1)) k=if k=0 then 0 else AB (DZ p k) (AB p k)+1:=by
   rw[DZ]
   conv=>lhs;rw[show((k:Nat):Int)=((DZ p k).length:Nat) by rw[l]]
   rw[AU5,l]
  rw[e]
  split
  .omega
  .have c:=AJR h a (by omega)
   obtain⟨m,b⟩:=CJ c.1
   rw[b]
   have H:m<k:=by omega
   rw[ZG H]
   have:=i m H (by omega)
   omega
theorem Uq{p:List Int}{n i:Nat}(h:IV p n){k:Nat}(hi:i<=n)(H:k<i):0<=AB (DZ p i) k/\AB (DZ p i) k<=k:=by rw[ZG H];exact AcA h (by omega)
theorem AW7[HA K]{p:List Int}(b:CI p=true):K 591 [LI p] [LI (DZ p p.length)]:=by obtain⟨f,c⟩:=Yo b;have a:=Jw (K:=K) (p:=p) (by omega);rw[b]at a;refine qw I591 ?_;rw[Wz];refine AN (λ_=>True) (λi=>[LI p,.u,LI (DZ p i),.n i,.u,.u]) p.length trivial rfl (λi hi _=>?_) (λ_=>?_);have l:=QG (p:=p) i;rw[DZ];by_cases h0:i=0;subst h0;refine wW ?_;refine cB a ?_;simp(disch:=try exact dV) only[AD,Lj];have h:=AJR c hi (by omega);obtain⟨m,H⟩:=CJ h.1;have H:AB p i=(m:Int):=H;have e:=Uq c (i:=i) (k:=m) (by omega) (by omega);rw[if_neg h0,H];refine wW ?_;refine cB a ?_;simp(disch:=try exact dV) only[AD,H,Lj];exact wZ
def JZ(l:List Int):Nat->List Nat
 |0=>[]
 |i+1=>JZ l i++List.replicate (AB l i+1-AB l ((i:Int)+1)).toNat 100++[117]
def KE(p:List Int):List Nat:=JZ (DZ p p.length) (p.length-1)++List.replicate (AB (DZ p p.length) ((p.length:Int)-1)).toNat 100
theorem TJ{l:List Int}{b:Nat}(h:∀k:Nat,k<=b->0<=AB l k/\AB l k<=9):∀{i:Nat},i<=b->(JZ l i).length<=11*i
 |0,_=>by simp[JZ]
 |i+1,hi=>by
  have I:=TJ h (i:=i) (by omega);have a:=h i (by omega);have H:=h (i+1) hi;have e:((i+1:Nat):Int)=(i:Int)+1:=by omega
  rw[e]at H;simp only[JZ,AW,List.length_replicate,AP,A5];omega
theorem ATR{k c:Nat}:List.replicate (k+1) c=List.replicate k c++[c]:=by rw[List.replicate_succ',]
theorem Ak9[HA K]{p:List Int}(h:p.length<=1099511627776):K 576 [LI p] [.s (if CI p=true then KE p else []),.b (CI p)]:=by
 have f:=Jw (K:=K) (p:=p) (by omega);by_cases a:CI p=true;rw[a]at f|-;obtain⟨O,M⟩:=Yo a;have l:=QG (p:=p) p.length;have H:∀k:Nat,k<=p.length-1->0<=AB (DZ p p.length) k/\AB (DZ p p.length) k<=9:=λk P=>by have:=Uq M (i:=p.length) (k:=k) (by omega) (by omega);omega
 have B:=AW7 (K:=K) a;generalize hL:DZ p p.length=L at l H B;rw[if_pos rfl,KE,hL];refine qw AST ?_;refine cW f ?_;refine cW B ?_;refine AN (λ_=>True) (λi=>[LI p,.u,.u,LI L,.s (JZ L i),.n ((i:Int)+1),.u,.u,.u,.u,.u,.u]) (p.length-1) trivial rfl (λi hi _=>?_) (λ_=>?_);have q:=H i (by omega);have I:=H (i+1) (by omega);have e:((i+1:Nat):Int)=(i:Int)+1:=by omega
 rw[e]at I;have c:=TJ H (i:=i) (by omega);obtain⟨n,o⟩:∃n,n=(AB L i+1-AB L ((i:Int)+1)).toNat:=⟨_,rfl⟩;have G:AB L ((i:Int)+1-1)=AB L i:=by rw[Bq]
 simp(disch:=try exact dV) only[AD,G];refine AN (λ_=>True) (λj=>[LI p,.u,.u,LI L,.s (JZ L i++List.replicate j 100),.n ((i:Int)+1),.n (AB L i-j),.u,.u,.u,.u,.u]) n trivial (by simp) (λj J _=>?_) (λ_=>?_);have x:(List.replicate j 100:List Nat).length=j:=by simp
 rw[ATR,<-CT];refine wW ?_;have g:AB L i-(j:Int)-1=AB L i-((j:Int)+1):=by omega
 rw[g];have x:(List.replicate n 100:List Nat).length=n:=by simp
 simp only[JZ,<-o];exact wZ;have c:=TJ H (i:=p.length-1) (by omega);have C:(((p.length-1:Nat):Int)+1)=p.length:=by omega
 have q:=H (p.length-1) (by omega);have F:((p.length-1:Nat):Int)=(p.length:Int)-1:=by omega
 rw[F]at q;obtain⟨n,o⟩:∃n,n=(AB L ((p.length:Int)-1)).toNat:=⟨_,rfl⟩;rw[C,<-o];generalize N:JZ L (p.length-1)=T at c;refine wW ?_;refine AN (λ_=>True) (λj=>[.u,.u,.u,.u,.s (T++List.replicate j 100),.u,.u,.n ((n:Int)-j),.u,.u,.u,.u]) n trivial ?_ (λj J _=>?_) (λ_=>?_);have:AB L ((p.length:Int)-1)=n:=by omega
 simp[this];have x:(List.replicate j 100:List Nat).length=j:=by simp
 rw[ATR,<-CT];refine wW ?_;have g:(n:Int)-(j:Int)-1=(n:Int)-((j:Int)+1):=by omega
 rw[g];exact wZ;have a:CI p=false:=by simpa using a
 rw[a]at f|-;refine qw AST ?_;exact cZ f
end Go.Cat
