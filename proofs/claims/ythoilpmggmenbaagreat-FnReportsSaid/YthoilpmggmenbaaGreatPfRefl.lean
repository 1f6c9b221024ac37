/-
 Words and their reflections.
-/
import Derived.Test.YthoilpmggmenbaaGreatPfIn
import Derived.Test.YthoilpmggmenbaaGreatQd0LawReports
import Derived.Test.YthoilpmggmenbaaGreatQd1LawReports
import Derived.Test.YthoilpmggmenbaaGreatQd2LawReports
import Derived.Test.YthoilpmggmenbaaGreatQd3LawReports
set_option linter.unusedSimpArgs false
set_option linter.unusedVariables false
namespace Go.Cat
variable{K:Nat→List D→List D→Prop}
def GR(w:List Nat):Bool:=w.all fun c=>decide (c=117∨c=100)
theorem MK{c:Nat}{w:List Nat}:GR (c::w)=(decide (c=117∨c=100)&&GR w):=rfl
theorem ACB:∀(w:List Nat),steps w=GR w
 |[]=>rfl
 |c::w=>by
  have ih:=ACB w
  have hl:=PM (w:=w) (c:=117)
  have:AB w 117+AB w 100≤w.length:=by
   clear ih hl
   induction w with
   |nil=>simp[AB]
   |cons a w ih=>simp only[Rn,AY];split<;>split<;>omega
  rw[MK,←ih]
  simp only[steps,Rn,AY]
  by_cases h1:c=117
  ·subst h1;simp;omega
  ·by_cases h2:c=100
   ·subst h2;simp;omega
   ·simp[h1,h2];omega
def swp(c:Nat):Nat:=if c=117 then 100 else 117
def refl:List Nat→Int→List Nat
 |[],_=>[]
 |c::w,h=>if(if c=117 then h+1 else h-1)=-1 then c::w.map swp else c::refl w (if c=117 then h+1 else h-1)
def Ge(a c d x:Nat):Nat:=if x=a then c else d
def only(a b:Nat)(w:List Nat):Bool:=w.all fun x=>decide (x=a∨x=b)
theorem AK1{a b c:Nat}{w:List Nat}:only a b (c::w)=(decide (c=a∨c=b)&&only a b w):=rfl
theorem AEI[HA K]{w:List Nat}{a b c d:Nat}(h:w.length≤1000000000)(hc:c<256)(hd:d<256):
  K 83 [.s w,.s [a,b],.s [c,d]] [.s (if only a b w=true then w.map (Ge a c d)else []),.b (only a b w)]:=by
 refine qb I83 rfl ?_;simp only[I83];have f0:AK [a,b] 0=a:=rfl;have f1:AK [a,b] 1=b:=rfl;have f2:AK [c,d] 0=c:=rfl;have f3:AK [c,d] 1=d:=rfl;simp(disch:=first|omega|simp only[vl];omega) only[AA,AEQ];refine Au (fun i (l:List Nat)=>l.length=i∧(∀x∈l,x<256)∧l++(w.drop i).map (Ge a c d)=w.map (Ge a c d)∧only a b w=only a b (w.drop i)) (fun i l=>[.s w,.s [a,b],.s [c,d],.u,.u,LB l,.n i,.u,.u,.u,.u]) w.length [] ⟨rfl,by simp,by simp,by simp⟩ rfl (fun i l hi hP=>?_) (fun l hP=>?_)
 ·obtain⟨h1,h2,h3,h4⟩:=hP;rw[Eo hi]at h3 h4;rw[AK1]at h4;rw[List.map_cons]at h3;by_cases ha:AK w i=a
  ·have e:Ge a c d (AK w i)=c:=by simp[Ge,ha]
   simp(disch:=first|omega|simp only[vl];omega) only[AA,f0,f2];refine⟨l++[c],⟨by simp;omega,?_,?_,?_⟩,rfl⟩
   ·intro x hx;rcases Af.1 hx with q|q
    ·exact h2 x q
    ·simp at q;omega
   ·rw[←h3,e];simp
   ·rw[h4,ha];simp
  ·by_cases hb:AK w i=b
   ·have e:Ge a c d (AK w i)=d:=by simp[Ge,ha]
    simp(disch:=first|omega|simp only[vl];omega) only[AA,f0,f1,f3];refine⟨l++[d],⟨by simp;omega,?_,?_,?_⟩,rfl⟩
    ·intro x hx;rcases Af.1 hx with q|q
     ·exact h2 x q
     ·simp at q;omega
    ·rw[←h3,e];simp
    ·rw[h4,hb];simp
   ·simp(disch:=first|omega|simp only[vl];omega) only[AA,f0,f1];have:only a b w=false:=by rw[h4];simp[ha,hb]
    simp[this]
 ·obtain⟨h1,h2,h3,h4⟩:=hP;rw[List.drop_length]at h3 h4;simp at h3;have h5:only a b w=true:=by rw[h4];rfl
  simp(disch:=first|omega|simp only[vl];omega) only[AA,Qy h2];simp[h5,h3]
theorem AUW{w:List Nat}:only 117 100 w=GR w:=rfl
end Go.Cat
namespace Go.Cat
variable{K:Nat→List D→List D→Prop}
def Hh(w:List Nat)(i:Nat):Int:=(AB (w.take i) 117:Int)-AB (w.take i) 100
theorem E0{w:List Nat}:Hh w 0=0:=by simp[Hh,AB]
theorem Jn{c:Nat}{w:List Nat}{i:Nat}:Hh (c::w) (i+1)=(if c=117 then 1 else 0)-(if c=100 then 1 else 0)+Hh w i:=by simp only[Hh,List.take_succ_cons,Rn];split<;>split<;>omega
theorem AY8{a b:List Nat}{i:Nat}(h:i≤a.length):Hh (a++b) i=Hh a i:=by simp only[Hh];rw[List.take_append_of_le_length h]
theorem NP{a b:List Nat}{c:Nat}:AB (a++b) c=AB a c+AB b c:=by simp[AB]
theorem AWK{a b:List Nat}{i:Nat}:Hh (a++b) (a.length+i)=Hh a a.length+Hh b i:=by simp only[Hh];rw[List.take_length_add_append,NP,NP];simp;omega
theorem Kc:∀(w:List Nat)(h r:Int),0≤h→(BZ w h=some r↔GR w=true∧(∀i≤w.length,0≤h+Hh w i)∧r=h+Hh w w.length)
 |[],h,r,h0=>by
  simp only[BZ,GR,List.all_nil,Ap,E0,AI,true_and]
  constructor
  ·rintro rfl
   refine⟨fun i hi=>?_,by omega⟩
   have:i=0:=by omega
   subst this;rw[E0];omega
  ·rintro⟨_,h⟩;omega
 |c::w,h,r,h0=>by
  have sh:∀x:Int,(if c=117 then(1:Int)else 0)-(if c=100 then 1 else 0)=x→((∀i≤w.length+1,0≤h+Hh (c::w) i)↔∀i≤w.length,0≤(h+x)+Hh w i):=by
   intro x hx
   constructor
   ·intro q i hi
    have:=q (i+1) (by omega)
    rw[Jn,hx]at this
    omega
   ·intro q i hi
    cases i with
    |zero=>rw[E0];omega
    |succ i=>
     have:=q i (by omega)
     rw[Jn,hx]
     omega
  simp only[BZ,MK,AY,Jn]
  by_cases h1:c=117
  ·rw[if_pos h1,Kc w (h+1) r (by omega)]
   rw[sh 1 (by simp[h1])]
   simp[h1]
   intro _ _;constructor<;>intro _<;>omega
  ·by_cases h2:c=100
   ·rw[if_neg h1,if_pos h2,sh (-1) (by simp[h2])]
    by_cases h3:h-1<0
    ·rw[if_pos h3]
     simp only[reduceCtorEq,false_iff,not_and]
     intro _ q
     have:=q 0 (by omega)
     rw[E0]at this
     omega
    ·rw[if_neg h3,Kc w (h-1) r (by omega)]
     simp[h2]
     intro _
     constructor
     ·rintro⟨q,_⟩;exact⟨fun i hi=>by have:=q i hi;omega,by omega⟩
     ·rintro⟨q,_⟩;exact⟨fun i hi=>by have:=q i hi;omega,by omega⟩
   ·rw[if_neg h1,if_neg h2]
    simp[h1,h2]
theorem AdU{w:List Nat}:AM w=true↔w.length≤16∧GR w=true∧(∀i≤w.length,0≤Hh w i)∧Hh w w.length=0:=by
 simp only[AM,AX,Aj,Kc w 0 0 (by omega)];constructor
 ·rintro⟨⟨h1,h2,h3⟩,h4⟩;exact⟨h4,h1,fun i hi=>by have:=h2 i hi;omega,by omega⟩
 ·rintro⟨h1,h2,h3,h4⟩;exact⟨⟨h2,fun i hi=>by have:=h3 i hi;omega,by omega⟩,h1⟩
end Go.Cat
namespace Go.Cat
variable{K:Nat→List D→List D→Prop}
def PR(w:List Nat)(j k:Nat):Prop:=j<k∧k<w.length∧Hh w (k+1)=Hh w j∧∀m,j<m→m≤k→Hh w j<Hh w m
theorem Ry{w:List Nat}{j k k':Nat}(h:PR w j k)(h':PR w j k'):k=k':=by
 obtain⟨a1,a2,a3,a4⟩:=h;obtain⟨b1,b2,b3,b4⟩:=h';rcases Nat.lt_trichotomy k k' with q|q|q
 ·have:=b4 (k+1) (by omega) (by omega);omega
 ·exact q
 ·have:=a4 (k'+1) (by omega) (by omega);omega
theorem AH8{w:List Nat}{j j' k:Nat}(h:PR w j k)(h':PR w j' k):j=j':=by
 obtain⟨a1,a2,a3,a4⟩:=h;obtain⟨b1,b2,b3,b4⟩:=h';rcases Nat.lt_trichotomy j j' with q|q|q
 ·have:=a4 j' (by omega) (by omega);omega
 ·exact q
 ·have:=b4 j (by omega) (by omega);omega
theorem QF{w:List Nat}{i j k:Nat}(h:PR w i j)(h':PR w j k):False:=by obtain⟨a1,a2,a3,a4⟩:=h;obtain⟨b1,b2,b3,b4⟩:=h';have:=a4 j (by omega) (by omega);have:=b4 (j+1) (by omega) (by omega);omega
theorem AYK{w:List Nat}{a b c d:Nat}(h:PR w a c)(h':PR w b d):¬(a<b∧b<c∧c<d):=by rintro⟨q1,q2,q3⟩;obtain⟨a1,a2,a3,a4⟩:=h;obtain⟨b1,b2,b3,b4⟩:=h';have:=a4 b (by omega) (by omega);have:=b4 (c+1) (by omega) (by omega);omega
def PP(w:List Nat)(m:List Int):Prop:=m.length=w.length∧∀a:Nat,a<w.length→∃b:Nat,AE m a=b∧(PR w a b∨PR w b a)
theorem Ad1{w:List Nat}{m m':List Int}(h:PP w m)(h':PP w m'):m=m':=by
 refine Fw (by rw[h.1,h'.1]) fun j hj=>?_;rw[h.1]at hj;obtain⟨b,e,q⟩:=h.2 j hj;obtain⟨b',e',q'⟩:=h'.2 j hj;rw[e,e'];rcases q with q|q<;>rcases q' with q'|q'
 ·rw[Ry q q']
 ·exact(QF q' q).elim
 ·exact(QF q q').elim
 ·rw[AH8 q q']
theorem ATE{w:List Nat}{m:List Int}(h:PP w m){a:Nat}(ha:a<m.length):0≤AE m a∧AE m a<m.length:=by
 obtain⟨h1,h2⟩:=h;obtain⟨b,e,q⟩:=h2 a (by omega);rcases q with q|q
 ·have:=q.2.1;omega
 ·have:=q.1;omega
theorem FM{w:List Nat}{i:Nat}(h:i<w.length)(hu:AK w i=117):Hh w (i+1)=Hh w i+1:=by
 have e:w.take (i+1)=w.take i++[AK w i]:=by rw[CU h];simp[AK,h]
 simp only[Hh,e,NP,hu];simp[AB];omega
theorem E7{w:List Nat}{i:Nat}(h:i<w.length)(hu:AK w i=100):Hh w (i+1)=Hh w i-1:=by
 have e:w.take (i+1)=w.take i++[AK w i]:=by rw[CU h];simp[AK,h]
 simp only[Hh,e,NP,hu];simp[AB];omega
structure DY(w:List Nat):Prop where
 l:w.length≤16
 ud:∀i:Nat,i<w.length→AK w i=117∨AK w i=100
 h0:∀i:Nat,i≤w.length→0≤Hh w i
 he:Hh w w.length=0
theorem Ah{w:List Nat}(h:AM w=true):DY w:=by simp only[AM,AX,Aj]at h;obtain⟨h1,h2⟩:=h;obtain⟨a1,a2,a3⟩:=(Kc w 0 0 (Int.le_refl _)).1 h1;refine⟨h2,fun i hi=>?_,fun i hi=>by have:=a2 i hi;omega,by omega⟩;have:=Aw.1 a1 (AK w i) (by simp[AK,hi]);simpa using this
def SO(w:List Nat):List Nat→Nat→Prop
 |[],i=>Hh w i=0
 |j::t,i=>j<i∧Hh w i=Hh w j+1∧(∀m,j<m→m≤i→Hh w j<Hh w m)∧SO w t j
theorem AS5{w:List Nat}:∀{t:List Nat}{j i:Nat},SO w t j→j≤i→Hh w i=Hh w j→(∀m,j<m→m≤i→Hh w j≤Hh w m)→SO w t i
 |[],j,i,h,_,he,_=>by simp only[SO]at h⊢;omega
 |k::t,j,i,h,hji,he,hm=>by
  obtain⟨a1,a2,a3,a4⟩:=h
  refine⟨by omega,by omega,fun m h1 h2=>?_,a4⟩
  by_cases q:m≤j
  ·exact a3 m h1 q
  ·have:=hm m (by omega) h2;omega
theorem KA{w:List Nat}:∀{t:List Nat}{i:Nat},SO w t i→Hh w i=t.length
 |[],_,h=>by simpa[SO]using h
 |k::t,i,h=>by
  have:=KA h.2.2.2
  have:=h.2.1
  simp only[AY];omega
theorem AIW{w:List Nat}{t:List Nat}{i:Nat}(h:SO w t i)(hi:i<w.length)(hu:AK w i=117):SO w (i::t) (i+1):=by
 have e:=FM hi hu
 exact⟨by omega,e,fun m h1 h2=>by obtain rfl:m=i+1:=by omega
                                  omega,h⟩
theorem AMV{w:List Nat}{t:List Nat}{i j:Nat}(h:SO w (j::t) i)(hi:i<w.length)(hd:AK w i=100):PR w j i∧SO w t (i+1):=by
 obtain⟨a1,a2,a3,a4⟩:=h;have e:=E7 hi hd;refine⟨⟨a1,hi,by omega,a3⟩,AS5 a4 (by omega) (by omega) fun m h1 h2=>?_⟩;by_cases q:m≤i
 ·have:=a3 m h1 q;omega
 ·obtain rfl:m=i+1:=by omega
  omega
end Go.Cat
namespace Go.Cat
variable{K:Nat→List D→List D→Prop}
def Gv(m:List Int)(i:Nat):Prop:=∀j:Nat,j<i→AV 0 ((m.length:Int)-1) (AE m j)=true∧AE m j≠j∧AE m (AE m j)=j
instance{m:List Int}{i:Nat}:Decidable (Gv m i):=by unfold Gv;infer_instance
def CQ(m:List Int):Bool:=decide (m.length≤16)&&decide (Gv m m.length)
theorem L9{m:List Int}(h:¬Gv m m.length):CQ m=false:=by simp[CQ,h]
theorem GH{m:List Int}(h:CQ m=true):m.length≤16∧Gv m m.length:=by simpa[CQ]using h
theorem AAG[HA K]{m:List Int}(h:m.length≤1099511627776):K 380 [LI m] [.b (CQ m)]:=by
 refine qb AL5 rfl ?_;simp only[AL5];by_cases hl:m.length≤16
 ·simp(disch:=omega) only[AA];refine AL (fun i=>Gv m i) (fun i=>[LI m,.u,.u,.u,.u,LI m,.n m.length,.n i,.u,.u]) m.length (by simp[Gv]) rfl (fun i hi hP=>?_) (fun hP=>?_)
  ·simp(disch:=omega) only[AA]
   cases hr:AV 0 ((m.length:Int)-1) (AE m i)
   ·repeat(first|(refine AD (CK (K:=K)) rfl ?_;try simp(disch:=omega) only[AA,hr]))
    rw[L9 fun q=>by have:=(q i hi).1;rw[hr]at this;cases this]
   ·have hb:=A8.1 hr;repeat(first|(refine AD (CK (K:=K)) rfl ?_;try simp(disch:=omega) only[AA,hr]))
    by_cases h1:AE m i=i
    ·simp(disch:=omega) only[AA,h1];rw[L9 fun q=>(q i hi).2.1 h1]
    ·simp(disch:=omega) only[AA];by_cases h2:AE m (AE m i)=i
     ·simp(disch:=omega) only[AA];exact CB hP ⟨hr,h1,h2⟩
     ·simp(disch:=omega) only[AA];rw[L9 fun q=>h2 (q i hi).2.2]
  ·simp(disch:=omega) only[AA];simp[CQ,hl,hP]
 ·simp(disch:=omega) only[AA];simp[CQ,hl]
theorem QC[HA K]{m:List Int}(h:m.length≤1099511627776):K 379 [LI m] [.b (CQ m)]:=by
 refine qb AHZ rfl ?_;simp only[AHZ];simp(disch:=omega) only[AA];refine AL (fun i=>Gv m i) (fun i=>[LI m,.u,.n i,.u,.u]) m.length (by simp[Gv]) rfl (fun i hi hP=>?_) (fun hP=>?_)
 ·simp(disch:=omega) only[AA]
  cases hr:AV 0 ((m.length:Int)-1) (AE m i)
  ·repeat(first|(refine AD (Bj (K:=K)) rfl ?_;try simp(disch:=omega) only[AA,hr]))
   rw[L9 fun q=>by have:=(q i hi).1;rw[hr]at this;cases this]
  ·have hb:=A8.1 hr;repeat(first|(refine AD (Bj (K:=K)) rfl ?_;try simp(disch:=omega) only[AA,hr]))
   by_cases h1:AE m i=i
   ·simp(disch:=omega) only[AA,h1];rw[L9 fun q=>(q i hi).2.1 h1]
   ·simp(disch:=omega) only[AA];by_cases h2:AE m (AE m i)=i
    ·simp(disch:=omega) only[AA];exact CB hP ⟨hr,h1,h2⟩
    ·simp(disch:=omega) only[AA];rw[L9 fun q=>h2 (q i hi).2.2]
 ·simp(disch:=omega) only[AA];simp[CQ,hP];omega
def CG(g:Nat→Nat):Nat→Nat
 |0=>0
 |n+1=>CG g n+g n
theorem JC{g:Nat→Nat}{b:Nat}(h:∀i,g i≤b):∀n,CG g n≤n*b
 |0=>by simp[CG]
 |n+1=>by
  have:=JC h n
  have:=h n
  simp only[CG,Nat.succ_mul];omega
theorem MH{g:Nat→Nat}:∀{n},(∀i,i<n→g i=0)→CG g n=0
 |0,_=>rfl
 |n+1,h=>by
  simp only[CG]
  rw[MH fun i hi=>h i (by omega),h n (by omega)]
def Dg(m:List Int)(a b:Nat):Nat:=if(a:Int)<b∧(b:Int)<AE m a∧AE m a<AE m b then 1 else 0
def QL(m:List Int):Nat:=CG (fun a=>CG (Dg m a) m.length) m.length
theorem ABN{m:List Int}{a b:Nat}:Dg m a b≤1:=by unfold Dg;split<;>omega
theorem AcZ[HA K]{m:List Int}(h:m.length≤1099511627776):K 369 [LI m] [.n (if CQ m=true then(QL m:Int)else -1)]:=by
 refine qb AHX rfl ?_;simp only[AHX];simp(disch:=omega) only[AA];refine AD (QC (K:=K) h) rfl ?_
 cases hm:CQ m
 ·simp(disch:=omega) only[AA];simp
 ·have hl:=(GH hm).1;rw[if_pos rfl];simp(disch:=omega) only[AA];refine Au (fun i (c:Nat)=>c=CG (fun a=>CG (Dg m a) m.length) i) (fun i c=>[LI m,.u,.n c,.n i,.u,.u,.u,.u,.u]) m.length 0 rfl rfl (fun i c hi hP=>?_) (fun c hP=>?_)
  ·subst hP;have hb:=JC (g:=fun a=>CG (Dg m a) m.length) (b:=16) (fun a=>by have:=JC (g:=Dg m a) (b:=1) (fun _=>ABN) m.length;omega) i;have h0:CG (Dg m i) (i+1)=0:=MH fun b hb=>by unfold Dg;rw[if_neg (by omega)]
   simp(disch:=omega) only[AA];refine Be (fun(x:Nat×Nat)=>(i+1≤x.1∧x.1≤m.length)∧x.2=CG (Dg m i) x.1) (fun x=>[LI m,.u,.n (CG (fun a=>CG (Dg m a) m.length) i+x.2:Nat),.n i,.n x.1,.u,.u,.u,.u]) (fun x=>m.length-x.1) (i+1,0) ⟨by omega,h0.symm⟩ rfl ?_;rintro⟨k,c⟩ ⟨hk,hc0⟩;simp only at hk hc0⊢;subst hc0;have hc:=JC (g:=Dg m i) (b:=1) (fun _=>ABN) k;by_cases hkl:k<m.length
   ·have e1:CG (Dg m i) (k+1)=CG (Dg m i) k+Dg m i k:=rfl;by_cases q1:(k:Int)<AE m i
    ·by_cases q2:AE m i<AE m k
     ·have e2:Dg m i k=1:=if_pos (by omega);simp(disch:=omega) only[AA];exact⟨(k+1,CG (Dg m i) (k+1)),by show m.length-(k+1)<m.length-k;omega,⟨by show i+1≤k+1∧k+1≤m.length;omega,rfl⟩,by rw[e1,e2];simp;omega⟩
     ·have e2:Dg m i k=0:=if_neg (by omega);simp(disch:=omega) only[AA];exact⟨(k+1,CG (Dg m i) (k+1)),by show m.length-(k+1)<m.length-k;omega,⟨by show i+1≤k+1∧k+1≤m.length;omega,rfl⟩,by rw[e1,e2];simp⟩
    ·have e2:Dg m i k=0:=if_neg (by omega);simp(disch:=omega) only[AA];exact⟨(k+1,CG (Dg m i) (k+1)),by show m.length-(k+1)<m.length-k;omega,⟨by show i+1≤k+1∧k+1≤m.length;omega,rfl⟩,by rw[e1,e2];simp⟩
   ·obtain rfl:k=m.length:=by omega
    simp(disch:=omega) only[AA];exact⟨_,rfl,rfl⟩
  ·subst hP;simp(disch:=omega) only[AA];rfl
def Ef(m:List Int):Bool:=CQ m&&decide (QL m=0)
theorem AUS{m:List Int}:decide ((if CQ m=true then(QL m:Int)else -1)=0)=Ef m:=by
 unfold Ef
 cases CQ m
 ·rfl
 ·simp
theorem T6[HA K]{m:List Int}(h:m.length≤1099511627776):K 355 [LI m] [.b (Ef m)]:=by refine qb AEV rfl ?_;simp only[AEV];simp(disch:=omega) only[AA];refine AD (AcZ (K:=K) h) rfl ?_;simp(disch:=omega) only[AA,AUS]
theorem AP3{w:List Nat}{m:List Int}(hl:w.length≤16)(h:PP w m):CQ m=true:=by
 have key:Gv m m.length:=by
  intro j hj;have hin:=ATE h hj;obtain⟨h1,h2⟩:=h;obtain⟨b,e,q⟩:=h2 j (by omega);have hb:b<w.length:=by rcases q with q|q<;>have:=q.2.1<;>have:=q.1<;>omega
  obtain⟨c,e2,q2⟩:=h2 b hb;refine⟨A8.2 (by omega),?_,?_⟩
  ·rcases q with q|q<;>have:=q.1<;>omega
  ·rw[e,e2];rcases q with q|q<;>rcases q2 with q2|q2
   ·exact(QF q q2).elim
   ·rw[AH8 q q2]
   ·rw[Ry q q2]
   ·exact(QF q2 q).elim
 have h1:=h.1;simp only[CQ,AX,Aj];exact⟨by omega,key⟩
theorem AQT{w:List Nat}{m:List Int}(h:PP w m):QL m=0:=by
 obtain⟨h1,h2⟩:=h;refine MH fun a ha=>MH fun b hb=>if_neg ?_;rintro⟨p1,p2,p3⟩;obtain⟨c,e,q⟩:=h2 a (by omega);obtain⟨d,e2,q2⟩:=h2 b (by omega);rcases q with q|q
 ·rcases q2 with q2|q2
  ·exact AYK q q2 (by omega)
  ·have:=q2.1;omega
 ·have:=q.1;omega
theorem AWX{w:List Nat}{m:List Int}(hl:w.length≤16)(h:PP w m):Ef m=true:=by simp[Ef,AP3 hl h,AQT h]
end Go.Cat
