/-
 Partitions read back: IsNoncrossing, PathOfPartition and l32Partition of the reference, for any list and text.
-/
import Derived.Test.YthoilpmggmenbaaGreatPfPart
set_option linter.unusedSimpArgs false
set_option linter.unusedVariables false
namespace Go.Cat
variable{K:Nat->List D->List D->Prop}
def JM(f:Int->List Int->Bool):List Int->Bool
 |[]=>true
 |x::t=>f x t&&JM f t
def On(x y z:Int):List Int->Bool:=JM λu _=>!(decide (x=z)&&decide (y=u)&&!decide (x=y))
def Ll(x y:Int):List Int->Bool:=JM λz t=>On x y z t
def JP(x:Int):List Int->Bool:=JM λy t=>Ll x y t
def Ej:List Int->Bool:=JM λx t=>JP x t
def Fq(p:List Int):Bool:=CW p&&Ej p
theorem SB{f:Int->List Int->Bool}{p:List Int}{i:Nat}(h:i<p.length):JM f (p.drop i)=(f (AB p i) (p.drop (i+1))&&JM f (p.drop (i+1))):=by rw[List.drop_eq_getElem_cons h,JM];simp[AB,h]
theorem Rv{f:Int->List Int->Bool}{p:List Int}{i:Nat}(h:p.length<=i):JM f (p.drop i)=true:=by rw[List.drop_of_length_le h]<;>rfl
theorem nc_s[HA K]{p:List Int}(h:p.length<=1099511627776):K 483 [LI p] [.b (Fq p)]:=by
 have s:=OU (K:=K) (p:=p) h;refine qw I483 ?_;by_cases g:CW p=true;rw[g]at s;have Y:p.length<=8:=by simp[CW]at g;exact g.1
 have F:Fq p=Ej p:=by simp[Fq,g]
 rw[F];refine AN (λi=>Ej p=Ej (p.drop i)) (λi=>[LI p,.u,.n i,.u,.u,.u,.u,.u,.u,.u,.u]) p.length (by simp) rfl (λa U x=>?_) (λx=>?_);have x:Ej p=(JP (AB p a) (p.drop (a+1))&&Ej (p.drop (a+1))):=x.trans (SB U);refine wW ?_;refine cW s ?_;refine AN (λj=>Ej p=(JP (AB p a) (p.drop (a+1+j))&&Ej (p.drop (a+1)))) (λj=>[LI p,.u,.n a,.n ((a:Int)+1+j),.u,.u,.u,.u,.u,.u,.u]) (p.length-(a+1)) (by simpa using x) (by simp) (λj Z B=>?_) (λB=>?_);obtain⟨b,V⟩:∃b,b=a+1+j:=⟨_,rfl⟩;have Q:(a:Int)+1+j=(b:Int):=by omega
 have J:b<p.length:=by omega
 rw[<-V]at B;have B:Ej p=((Ll (AB p a) (AB p b) (p.drop (b+1))&&JP (AB p a) (p.drop (b+1)))&&Ej (p.drop (a+1))):=by rw[B];congr 1;exact SB J
 rw[Q];refine wW ?_;refine AN (λk=>Ej p=((Ll (AB p a) (AB p b) (p.drop (b+1+k))&&JP (AB p a) (p.drop (b+1)))&&Ej (p.drop (a+1)))) (λk=>[LI p,.u,.n a,.n b,.n ((b:Int)+1+k),.u,.u,.u,.u,.u,.u]) (p.length-(b+1)) (by simpa using B) (by simp) (λk hk C=>?_) (λC=>?_);obtain⟨c,W⟩:∃c,c=b+1+k:=⟨_,rfl⟩;have R:(b:Int)+1+k=(c:Int):=by omega
 have L:c<p.length:=by omega
 rw[<-W]at C;have C:Ej p=(((On (AB p a) (AB p b) (AB p c) (p.drop (c+1))&&Ll (AB p a) (AB p b) (p.drop (c+1)))&&JP (AB p a) (p.drop (b+1)))&&Ej (p.drop (a+1))):=by rw[C];congr 2;exact SB L
 rw[R];refine wW ?_;refine AN (λl=>Ej p=(((On (AB p a) (AB p b) (AB p c) (p.drop (c+1+l))&&Ll (AB p a) (AB p b) (p.drop (c+1)))&&JP (AB p a) (p.drop (b+1)))&&Ej (p.drop (a+1)))) (λl=>[LI p,.u,.n a,.n b,.n c,.n ((c:Int)+1+l),.u,.u,.u,.u,.u]) (p.length-(c+1)) (by simpa using C) (by simp) (λl hl H=>?_) (λH=>?_);obtain⟨d,hd⟩:∃d,d=c+1+l:=⟨_,rfl⟩;have T:(c:Int)+1+l=(d:Int):=by omega
 have M:d<p.length:=by omega
 have G:c+1+(l+1)=d+1:=by omega
 have o:(c:Int)+1+((l:Int)+1)=(d:Int)+1:=by omega
 rw[<-hd]at H;have H:Ej p=((((!(decide (AB p a=AB p c)&&decide (AB p b=AB p d)&&!decide (AB p a=AB p b)))&&On (AB p a) (AB p b) (AB p c) (p.drop (d+1)))&&Ll (AB p a) (AB p b) (p.drop (c+1)))&&JP (AB p a) (p.drop (b+1))&&Ej (p.drop (a+1))):=by rw[H];congr 3;exact SB M
 rw[T,G];by_cases N:AB p a=AB p c;by_cases O:AB p b=AB p d;by_cases P:AB p a=AB p b;refine wW ?_;rw[o];refine⟨?_,rfl⟩;rw[H];simp[P];refine wW ?_;rw[H,decide_eq_true N,decide_eq_true O,decide_eq_false P];simp;refine wW ?_;rw[o];refine⟨?_,rfl⟩;rw[H];simp[O];refine wW ?_;rw[o];refine⟨?_,rfl⟩;rw[H];simp[N];refine wW ?_;have e:=Rv (f:=λu _=>!(decide (AB p a=AB p c)&&decide (AB p b=u)&&!decide (AB p a=AB p b))) (p:=p) (i:=c+1+(p.length-(c+1))) (by omega);have e:On (AB p a) (AB p b) (AB p c) (p.drop (c+1+(p.length-(c+1))))=true:=e;rw[e,Bool.true_and]at H;have I:b+1+(k+1)=c+1:=by omega
 have q:(b:Int)+1+((k:Int)+1)=(c:Int)+1:=by omega
 rw[I,q];exact⟨H,rfl⟩;refine wW ?_;have e:Ll (AB p a) (AB p b) (p.drop (b+1+(p.length-(b+1))))=true:=Rv (by omega);rw[e,Bool.true_and]at C;have I:a+1+(j+1)=b+1:=by omega
 have q:(a:Int)+1+((j:Int)+1)=(b:Int)+1:=by omega
 rw[I,q];exact⟨C,rfl⟩;refine wW ?_;have e:JP (AB p a) (p.drop (a+1+(p.length-(a+1))))=true:=Rv (by omega);rw[e,Bool.true_and]at B;exact B;have e:Ej (p.drop p.length)=true:=Rv (by omega);rw[e]at x;refine wW ?_;refine cW s ?_;rw[x];have g:CW p=false:=by simpa using g
 rw[g]at s;have F:Fq p=false:=by simp[Fq,g]
 rw[F];refine AN (λ_=>True) (λ_=>[LI p,.u,.n 0,.u,.u,.u,.u,.u,.u,.u,.u]) 0 trivial rfl (λi hi _=>absurd hi (by omega)) (λ_=>?_);by_cases h0:p.length=0;refine wW ?_;exact cZ s;refine wW ?_;refine cW s ?_;exact cZ s
theorem AFW{p:List Int}(h:CW p=true):FV p p.length/\p.length<=8:=by simp[CW]at h;exact⟨h.2,h.1⟩
theorem ATR{o:List (List Int)}{i j:Int}{r:List Int}(hi:0<=i/\i<o.length)(h:0<=j):AF (Du o i r) j=if i=j then r else AF o j:=by
 obtain⟨n,rfl⟩:=CE hi.1;obtain⟨m,rfl⟩:=CE h;have H:n<o.length:=by have:=hi.2;omega
 simp only[AF,Du,Int.ofNat_eq_natCast,BM,Ap,List.getElem?_set];by_cases e:n=m;subst e;simp[H];have a:¬(n:Int)=(m:Int):=by omega
 simp[e,a]
theorem ABS{p:List Int}:∀{i:Nat},FV p i->∀j:Nat,j<i->0<(AF (Ar p i) (AB p j)).length
 |0,_,j,f=>by omega
 |i+1,h,j,f=>by
  have b:FV p i:=λk F=>h k (by omega)
  have x:=LC b
  have B:=A5.1 (h i (by omega))
  have s:=A5.1 (h j f)
  simp only[Ar]
  generalize g:(if AB p i=(Ar p i).length then Ar p i++[[]]else Ar p i)=o
  have c:0<=AB p i/\AB p i<o.length:=by
   rw[<-g];split
   simp only[A4,AO,A6];omega
   omega
  rw[ATR c s.1]
  by_cases he:AB p i=AB p j
  rw[if_pos he];simp
  rw[if_neg he]
  have a:j<i:=by
   rcases BS j i with q|q
   exact q
   obtain rfl:j=i:=by omega
   exact absurd rfl he
  have I:=ABS b j a
  rw[<-g];split
  have e:=A5.1 (b j a)
  have C:=JG b
  have l:AB p j<(Ar p i).length:=by
   rcases Int.lt_or_le (AB p j) ((Ar p i).length:Int)with q|q
   exact q
   exfalso
   obtain⟨m,H⟩:=CE e.1
   have H:AB p j=(m:Int):=H
   rw[H]at I q
   have:AF (Ar p i) (m:Int)=[]:=by
    simp only[AF,BM,Ap]
    rw[Df (by omega)]<;>rfl
   rw[this]at I;simp at I
  obtain⟨m,H⟩:=CE e.1
  have H:AB p j=(m:Int):=H
  rw[H]at I l|-
  have:AF (Ar p i++[[]]) (m:Int)=AF (Ar p i) (m:Int):=by
   simp only[AF,BM,Ap]
   rw[DW (by omega)]
  rw[this];exact I
  exact I
def Kb(p:List Int)(b:List (List Int)):Nat->List Nat
 |0=>[]
 |i+1=>Kb p b i++[117]++if AB (AF b (AB p i)) ((AF b (AB p i)).length-1)=i then List.replicate (AF b (AB p i)).length 100 else []
def Ig(p:List Int):List Nat:=if Fq p=true then Kb p (Ar p p.length) p.length else []
theorem W6{p:List Int}{b:List (List Int)}(h:∀j:Nat,j<p.length->(AF b (AB p j)).length<=8):∀{i:Nat},i<=p.length->(Kb p b i).length<=9*i
 |0,_=>by simp[Kb]
 |i+1,hi=>by have I:=W6 h (i:=i) (by omega);have H:=h i (by omega);simp only[Kb,A4,AO,A6];split;simp only[List.length_replicate];omega;simp only[A6];omega
theorem Aj1{k c:Nat}:List.replicate (k+1) c=List.replicate k c++[c]:=by rw[List.replicate_succ']
theorem ASK[HA K]{p:List Int}(h:p.length<=1099511627776):K 579 [LI p] [.s (Ig p),.b (Fq p)]:=by
 have F:=nc_s (K:=K) (p:=p) h;by_cases a:Fq p=true;have L:CW p=true:=by simp only[Fq,AV]at a;exact a.1
 obtain⟨C,R⟩:=AFW L;have I:=UH (K:=K) (p:=p) h;rw[L,if_pos rfl]at I;have e:=ABS C;have G:=LC C;have N:=JG C;have H:∀j:Nat,j<p.length->0<=AB p j/\AB p j<(Ar p p.length).length:=by
  intro j l;have J:=A5.1 (C j l);have g:=e j l;refine⟨J.1,?_⟩;rcases Int.lt_or_le (AB p j) ((Ar p p.length).length:Int)with q|q;exact q;exfalso;obtain⟨m,c⟩:=CE J.1;have c:AB p j=(m:Int):=c;rw[c]at g q;have:AF (Ar p p.length) (m:Int)=[]:=by simp only[AF,BM,Ap];rw[Df (by omega)]<;>rfl
  rw[this]at g;simp at g
 have f:∀j:Nat,j<p.length->(AF (Ar p p.length) (AB p j)).length<=8:=by intro j l;obtain⟨m,c⟩:=CE (H j l).1;have c:AB p j=(m:Int):=c;have g:=(H j l).2;rw[c]at g|-;have:=NJ (HO (i:=m) (m:=Ar p p.length) (by omega));omega
 rw[a]at F;rw[Ig,if_pos a,a];generalize T:Ar p p.length=B at I e f H G;refine qw ABC ?_;refine cW F ?_;refine cW I ?_;refine AN (λ_=>True) (λi=>[LI p,.u,.u,.s (Kb p B i),LL B,.n i,.u,.u,.u,.u,.u,.u]) p.length trivial rfl (λi hi _=>?_) (λ_=>?_);have Q:=e i hi;have P:=f i hi;have V:=H i hi;have M:=W6 f (i:=i) (by omega);obtain⟨r,x⟩:∃r,r=AF B (AB p i):=⟨_,rfl⟩;rw[Kb,<-x];rw[<-x]at Q P;by_cases o:AB r (r.length-1)=i;rw[if_pos o];simp(disch:=try exact dV) only[AD,<-x,o];refine AN (λ_=>True) (λk=>[LI p,.u,.u,.s (Kb p B i++[117]++List.replicate k 100),LL B,.n i,LI r,.n k,.u,.u,.u,.u]) r.length trivial (by simp) (λk U _=>?_) (λ_=>?_);have O:(List.replicate k 100:List Nat).length=k:=by simp
 rw[Aj1,<-CO];exact wZ;exact wZ;rw[if_neg o,List.append_nil];simp(disch:=try exact dV) only[AD,<-x,o];exact wZ;have a:Fq p=false:=by simpa using a
 rw[a]at F;rw[Ig,a];refine qw ABC ?_;exact cZ F
def HF(n:Int):List Nat->List Int->Int->Option (List Int)
 |[],p,_=>some p
 |c::t,p,b=>if c=124 then HF n t p (b+1)else if AR 0 (n-1) ((c:Int)-49)=true/\AB p ((c:Int)-49)<0 then HF n t (BH p ((c:Int)-49) b) b else none
def Gh(s:List Nat):Nat:=s.countP λc=>decide (c≠124)
def Im(s:List Nat):Option (List Int):=if 8<Gh s then none else HF (Gh s) s (List.replicate (Gh s) (-1)) 0
def J2(s:List Nat):Bool:=(Im s).isSome
def F8(s:List Nat):List Int:=(Im s).getD []
theorem AhP{s:List Nat}{c:Nat}:Gh (s++[c])=Gh s+if c=124 then 0 else 1:=by by_cases h:c=124;simp[Gh,h];simp[Gh,h]
theorem AFE{s:List Nat}:Gh s<=s.length:=List.countP_le_length
theorem AhZ{s:List Nat}{n:Int}{i:Nat}{p:List Int}{b:Int}(h:i<s.length):HF n (s.drop i) p b=if AH s i=124 then HF n (s.drop (i+1)) p (b+1)else if AR 0 (n-1) ((AH s i:Int)-49)=true/\AB p ((AH s i:Int)-49)<0 then HF n (s.drop (i+1)) (BH p ((AH s i:Int)-49) b) b else none:=by rw[EF h]<;>rfl
theorem Pf{p:List Int}{i x:Int}:(BH p i x).length=p.length:=by simp[BH]
theorem AU8[HA K]{s:List Nat}(h:s.length<=1000000)(R:∀c∈s,c<256):K 578 [.s s] [LI (F8 s),.b (J2 s)]:=by
 refine qw I578 ?_;refine AN (λ_=>True) (λi=>[.s s,.u,.u,.n (Gh (s.take i)),.n i,.u,.u,.u,.u,.u,.u,.u,.u,.u,.u,.u,.u]) s.length trivial (by simp[Gh]) (λi hi _=>?_) (λ_=>?_);have O:=AFE (s:=s.take i);simp only[List.length_take]at O;rw[Fw hi,AhP];by_cases H:AH s i=124;simp(disch:=omega) only[AD,H];rfl;simp(disch:=omega) only[AD,H];rw[List.take_length];have O:=AFE (s:=s);obtain⟨n,F⟩:∃n,n=Gh s:=⟨_,rfl⟩;rw[<-F];by_cases N:8<n;refine wW ?_;have e:Im s=none:=by rw[Im,<-F,if_pos N]
 simp only[F8,J2,e];rfl;have L:Im s=HF n s (List.replicate n (-1)) 0:=by rw[Im,<-F,if_neg N]
 refine wW ?_;refine Aj (λi (x:List Int)=>x.length=n/\∀j:Nat,j<i->AB x j=-1) (λi x=>[.s s,.u,.u,.n n,.u,LI x,.n i,.u,.u,.u,.u,.u,.u,.u,.u,.u,.u]) n (rep (n:Int) 0) ⟨by simp[rep],by simp⟩ rfl (λi x hi P=>?_) (λx P=>?_);obtain⟨o,C⟩:=P;refine wW ?_;refine⟨BH x i (-1),⟨by rw[Pf,o],λj U=>?_⟩,rfl⟩;rw[H6 (by omega)];split;rfl;exact C j (by omega);obtain⟨o,C⟩:=P;have ex:x=List.replicate n (-1):=by refine List.ext_getElem (by simp[o]) λj Q T=>?_;have:=C j (by omega);simp only[AB,BM,Ap,FD Q,Option.getD_some]at this;simp[this]
 rw[<-ex]at L;refine wW ?_;refine Aj (λi (y:List Int×Int)=>y.1.length=n/\(0<=y.2/\y.2<=i)/\Im s=HF n (s.drop i) y.1 y.2) (λi y=>[.s s,.u,.u,.n n,.u,LI y.1,.u,.n y.2,.n i,.u,.u,.u,.u,.u,.u,.u,.u]) s.length (x,0) ⟨o,by simp,by simpa using L⟩ rfl (λi y hi P=>?_) (λy P=>?_);obtain⟨p,b⟩:=y;obtain⟨G,B,g⟩:=P;simp only at G B g;rw[AhZ hi]at g;by_cases H:AH s i=124;rw[if_pos H]at g;simp(disch:=omega) only[AD,H];exact⟨(p,b+1),⟨G,by simp;omega,g⟩,rfl⟩;rw[if_neg H]at g;have J:=Bt (K:=K) (x:=(AH s i:Int)-49) (a:=0) (b:=(n:Int)-1);have M:AH s i<256:=R _ (PO hi);simp(disch:=omega) only[AD,H];refine cB J ?_
 cases hr:AR 0 ((n:Int)-1) ((AH s i:Int)-49);rw[hr]at g;rw[if_neg (by simp)]at g;refine wW ?_;simp only[F8,J2,g];rfl;have f:=A5.1 hr;obtain⟨m,l⟩:=CE f.1;have l:(AH s i:Int)-49=(m:Int):=l;rw[l]at g f;have I:AR 0 ((n:Int)-1) (m:Int)=true:=A5.2 f;by_cases k:AB p m<0;rw[if_pos ⟨I,k⟩]at g;simp(disch:=omega) only[AD,l];exact⟨(BH p m b,b),⟨by rw[Pf,G],by simp;omega,g⟩,rfl⟩;rw[if_neg (λq=>k q.2)]at g;simp(disch:=omega) only[AD,l];simp only[F8,J2,g];rfl;obtain⟨p,b⟩:=y;obtain⟨G,B,g⟩:=P;simp only at G B g;rw[List.drop_length]at g;refine wW ?_;simp[F8,J2,g,HF]
end Go.Cat
