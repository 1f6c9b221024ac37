/-
 Words of u and d: counting letters, paths.
-/
import Derived.Test.YtnjjceodpbhlmaaGreatCatFour
import Derived.Test.YtnjjceodpbhlmaaGreatIrHas
set_option linter.unusedSimpArgs false
set_option linter.unusedVariables false
namespace Go.Cat
variable {K:Nat→List D→List D→Prop}
def AB (w:List Nat) (c:Nat):Nat:=w.count c
theorem IZ {a c:Nat} {w:List Nat}:AB (a::w) c=AB w c+(if a=c then 1 else 0):=by
 simp only [AB,List.count_cons]; congr 1
 by_cases h:a=c <;> simp [h]
theorem Sa {w:List Nat} {c:Nat}:AB w c≤w.length:=List.count_le_length
def Az:List Nat→Int→Option Int
 | [],h=>some h
 | c::w,h=>if c=117 then Az w (h+1) else if c=100 then (if h-1<0 then none else Az w (h-1)) else none
def F2:List Nat→Int→List Int
 | [],_=>[]
 | c::w,h=>if c=117 then (h+1)::F2 w (h+1) else (h-1)::F2 w (h-1)
def BW (w:List Nat):Bool:=decide (Az w 0=some 0)&&decide (w.length≤16)
def PB (w:List Nat):List Int:=match Az w 0 with
 | some _=>0::F2 w 0
 | none=>[]
def N9 (w:List Nat):Bool:=decide (Az w 0=some 0)
theorem API [HA K] {w:List Nat} (h:w.length≤1000000000):K 82 [.s w] [LI (PB w),.b (N9 w)]:=by
 refine AG (f:=Nn) rfl ?_; simp only [Nn,zu]
 simp (disch:=first|omega|simp only[vl];omega) only [AA]
 refine CK (fun i (x:Int×List Int)=>0≤x.1∧x.1≤i∧x.2.length=i+1∧Az w 0=Az (w.drop i) x.1∧(0::F2 w 0:List Int)=x.2++F2 (w.drop i) x.1) (fun i x=>[.s w,.u,.u,LI x.2,.n x.1,.n i,.u,.u,.u,.u,.u]) w.length (0,[0]) ⟨by simp,by simp,by simp,by simp,by simp⟩ rfl (fun i x hi hP=>?_) (fun x hP=>?_)
 ·obtain ⟨hh,l⟩:=x
  obtain ⟨h1,h2,h3,h4,h5⟩:=hP
  simp only at h1 h2 h3 h4 h5
  rw [FD hi] at h4 h5
  simp only [Az,F2] at h4 h5
  by_cases hu:Ap w i=117
  ·rw [if_pos hu] at h4 h5
   simp (disch:=first|omega|simp only[vl];omega) only [AA]
   exact ⟨(hh+1,l++[hh+1]),⟨by simp; omega,by simp; omega,by simp; omega,h4,by simp [h5]⟩,rfl⟩
  ·rw [if_neg hu] at h4 h5
   by_cases hd:Ap w i=100
   ·rw [if_pos hd] at h4
    by_cases hn:hh-1<0
    ·rw [if_pos hn] at h4
     simp (disch:=first|omega|simp only[vl];omega) only [AA]
     simp only [PB,N9,h4]; rfl
    ·rw [if_neg hn] at h4
     simp (disch:=first|omega|simp only[vl];omega) only [AA]
     exact ⟨(hh-1,l++[hh-1]),⟨by simp; omega,by simp; omega,by simp; omega,h4,by simp [h5]⟩,rfl⟩
   ·rw [if_neg hd] at h4
    simp (disch:=first|omega|simp only[vl];omega) only [AA]
    simp only [PB,N9,h4]; rfl
 ·obtain ⟨hh,l⟩:=x
  obtain ⟨h1,h2,h3,h4,h5⟩:=hP
  simp only at h1 h2 h3 h4 h5
  rw [List.drop_length] at h4 h5
  simp only [Az,F2,List.append_nil] at h4 h5
  simp (disch:=first|omega|simp only[vl];omega) only [AA]
  simp only [PB,N9,h4,h5,AJ]
theorem Hc [HA K] {w:List Nat} (h:w.length≤1000000000):K 67 [.s w] [.b (BW w)]:=by
 refine AG (f:=MH) rfl ?_; simp only [MH,zu]
 by_cases hl:w.length≤16
 ·simp (disch:=omega) only [AA]
  repeat (first | (refine AE (API (K:=K) h) rfl ?_; try simp (disch:=omega) only [AA]))
  simp [BW,N9,hl]
 ·simp (disch:=omega) only [AA]
  simp [BW,hl]
theorem Fv [HA K] {w:List Nat} (h:w.length≤1000000000):K 64 [.s w] [.b (BW w)]:=by
 refine AG (f:=MX) rfl ?_; simp only [MX,zu]
 simp (disch:=omega) only [AA]
 refine CK (fun i (x:Int)=>0≤x∧x≤i∧Az w 0=Az (w.drop i) x) (fun i x=>[.s w,.u,.n x,.n i,.u,.u,.u,.u,.u]) w.length 0 ⟨by simp,by simp,by simp⟩ rfl (fun i hh hi hP=>?_) (fun hh hP=>?_)
 ·obtain ⟨h1,h2,h4⟩:=hP
  rw [FD hi] at h4
  simp only [Az] at h4
  by_cases hu:Ap w i=117
  ·rw [if_pos hu] at h4
   simp (disch:=omega) only [AA]
   exact ⟨hh+1,⟨by omega,by omega,h4⟩,rfl⟩
  ·rw [if_neg hu] at h4
   by_cases hd:Ap w i=100
   ·rw [if_pos hd] at h4
    by_cases hn:hh-1<0
    ·rw [if_pos hn] at h4
     simp (disch:=omega) only [AA]
     simp [BW,h4]
    ·rw [if_neg hn] at h4
     simp (disch:=omega) only [AA]
     exact ⟨hh-1,⟨by omega,by omega,h4⟩,rfl⟩
   ·rw [if_neg hd] at h4
    simp (disch:=omega) only [AA]
    simp [BW,h4]
 ·obtain ⟨h1,h2,h4⟩:=hP
  rw [List.drop_length] at h4
  simp only [Az] at h4
  by_cases h0:hh=0
  ·simp (disch:=omega) only [AA]
   simp only [BW,h4,h0]; simp; omega
  ·simp (disch:=omega) only [AA]
   simp [BW,h4,h0]
end Go.Cat
namespace Go.Cat
variable {K:Nat→List D→List D→Prop}
def PC (w:List Nat):Bool:=w.all fun c=>decide (c=117∨c=100)
theorem AGE {c:Nat} {w:List Nat}:PC (c::w)=(decide (c=117∨c=100)&&PC w):=rfl
def swp (c:Nat):Nat:=if c=117 then 100 else 117
def refl:List Nat→Int→List Nat
 | [],_=>[]
 | c::w,h=>if (if c=117 then h+1 else h-1)=-1 then c::w.map swp else c::refl w (if c=117 then h+1 else h-1)
def only (a b:Nat) (w:List Nat):Bool:=w.all fun x=>decide (x=a∨x=b)
end Go.Cat
namespace Go.Cat
variable {K:Nat→List D→List D→Prop}
def Hh (w:List Nat) (i:Nat):Int:=(AB (w.take i) 117:Int)-AB (w.take i) 100
theorem Gu {w:List Nat}:Hh w 0=0:=by simp [Hh,AB]
theorem Je {c:Nat} {w:List Nat} {i:Nat}:Hh (c::w) (i+1)=(if c=117 then 1 else 0)-(if c=100 then 1 else 0)+Hh w i:=by
 simp only [Hh,List.take_succ_cons,IZ]
 split <;> split <;> omega
theorem ANJ {a b:List Nat} {i:Nat} (h:i≤a.length):Hh (a++b) i=Hh a i:=by
 simp only [Hh]; rw [List.take_append_of_le_length h]
theorem O2 {a b:List Nat} {c:Nat}:AB (a++b) c=AB a c+AB b c:=by simp [AB]
theorem AH6 {a b:List Nat} {i:Nat}:Hh (a++b) (a.length+i)=Hh a a.length+Hh b i:=by
 simp only [Hh]
 rw [List.take_length_add_append,O2,O2]
 simp; omega
theorem NZ:∀ (w:List Nat) (h r:Int),0≤h→(Az w h=some r↔PC w=true∧(∀ i≤w.length,0≤h+Hh w i)∧r=h+Hh w w.length)
 | [],h,r,h0=>by
  simp only [Az,PC,List.all_nil,Aq,Gu,AJ,true_and]
  constructor
  ·rintro rfl
   refine ⟨fun i hi=>?_,by omega⟩
   have:i=0:=by omega
   subst this; rw [Gu]; omega
  ·rintro ⟨_,h⟩; omega
 | c::w,h,r,h0=>by
  have sh:∀ x:Int,(if c=117 then (1:Int) else 0)-(if c=100 then 1 else 0)=x→((∀ i≤w.length+1,0≤h+Hh (c::w) i)↔∀ i≤w.length,0≤(h+x)+Hh w i):=by
   intro x hx
   constructor
   ·intro q i hi
    have:=q (i+1) (by omega)
    rw [Je,hx] at this
    omega
   ·intro q i hi
    cases i with
    | zero=>rw [Gu]; omega
    | succ i=>
     have:=q i (by omega)
     rw [Je,hx]
     omega
  simp only [Az,AGE,A6,Je]
  by_cases h1:c=117
  ·rw [if_pos h1,NZ w (h+1) r (by omega)]
   rw [sh 1 (by simp [h1])]
   simp [h1]
   intro _ _; constructor <;> intro _ <;> omega
  ·by_cases h2:c=100
   ·rw [if_neg h1,if_pos h2,sh (-1) (by simp [h2])]
    by_cases h3:h-1<0
    ·rw [if_pos h3]
     simp only [reduceCtorEq,false_iff,not_and]
     intro _ q
     have:=q 0 (by omega)
     rw [Gu] at this
     omega
    ·rw [if_neg h3,NZ w (h-1) r (by omega)]
     simp [h2]
     intro _
     constructor
     ·rintro ⟨q,_⟩; exact ⟨fun i hi=>by have:=q i hi; omega,by omega⟩
     ·rintro ⟨q,_⟩; exact ⟨fun i hi=>by have:=q i hi; omega,by omega⟩
   ·rw [if_neg h1,if_neg h2]
    simp [h1,h2]
end Go.Cat
namespace Go.Cat
variable {K:Nat→List D→List D→Prop}
def PR (w:List Nat) (j k:Nat):Prop:=j<k∧k<w.length∧Hh w (k+1)=Hh w j∧∀ m,j<m→m≤k→Hh w j<Hh w m
theorem AEO {w:List Nat} {j k k':Nat} (h:PR w j k) (h':PR w j k'):k=k':=by
 obtain ⟨a1,a2,a3,a4⟩:=h
 obtain ⟨b1,b2,b3,b4⟩:=h'
 rcases Nat.lt_trichotomy k k' with q | q | q
 ·have:=b4 (k+1) (by omega) (by omega); omega
 ·exact q
 ·have:=a4 (k'+1) (by omega) (by omega); omega
theorem XP {w:List Nat} {j j' k:Nat} (h:PR w j k) (h':PR w j' k):j=j':=by
 obtain ⟨a1,a2,a3,a4⟩:=h
 obtain ⟨b1,b2,b3,b4⟩:=h'
 rcases Nat.lt_trichotomy j j' with q | q | q
 ·have:=a4 j' (by omega) (by omega); omega
 ·exact q
 ·have:=b4 j (by omega) (by omega); omega
theorem O0 {w:List Nat} {i j k:Nat} (h:PR w i j) (h':PR w j k):False:=by
 obtain ⟨a1,a2,a3,a4⟩:=h
 obtain ⟨b1,b2,b3,b4⟩:=h'
 have:=a4 j (by omega) (by omega)
 have:=b4 (j+1) (by omega) (by omega)
 omega
theorem ANO {w:List Nat} {a b c d:Nat} (h:PR w a c) (h':PR w b d):¬ (a<b∧b<c∧c<d):=by
 rintro ⟨q1,q2,q3⟩
 obtain ⟨a1,a2,a3,a4⟩:=h
 obtain ⟨b1,b2,b3,b4⟩:=h'
 have:=a4 b (by omega) (by omega)
 have:=b4 (c+1) (by omega) (by omega)
 omega
def PP (w:List Nat) (m:List Int):Prop:=m.length=w.length∧∀ a:Nat,a<w.length→∃ b:Nat,AD m a=b∧(PR w a b∨PR w b a)
theorem AQ1 {w:List Nat} {m m':List Int} (h:PP w m) (h':PP w m'):m=m':=by
 refine Oj (by rw [h.1,h'.1]) fun j hj=>?_
 rw [h.1] at hj
 obtain ⟨b,e,q⟩:=h.2 j hj
 obtain ⟨b',e',q'⟩:=h'.2 j hj
 rw [e,e']
 rcases q with q | q <;> rcases q' with q' | q'
 ·rw [AEO q q']
 ·exact (O0 q' q).elim
 ·exact (O0 q q').elim
 ·rw [XP q q']
theorem AN1 {w:List Nat} {m:List Int} (h:PP w m) {a:Nat} (ha:a<m.length):0≤AD m a∧AD m a<m.length:=by
 obtain ⟨h1,h2⟩:=h
 obtain ⟨b,e,q⟩:=h2 a (by omega)
 rcases q with q | q
 ·have:=q.2.1; omega
 ·have:=q.1; omega
theorem Hz {w:List Nat} {i:Nat} (h:i<w.length) (hu:Ap w i=117):Hh w (i+1)=Hh w i+1:=by
 have e:w.take (i+1)=w.take i++[Ap w i]:=by
  rw [ED h]; simp [Ap,h]
 simp only [Hh,e,O2,hu]
 simp [AB]; omega
theorem Gw {w:List Nat} {i:Nat} (h:i<w.length) (hu:Ap w i=100):Hh w (i+1)=Hh w i-1:=by
 have e:w.take (i+1)=w.take i++[Ap w i]:=by
  rw [ED h]; simp [Ap,h]
 simp only [Hh,e,O2,hu]
 simp [AB]; omega
structure DY (w:List Nat):Prop where
 l:w.length≤16
 ud:∀ i:Nat,i<w.length→Ap w i=117∨Ap w i=100
 h0:∀ i:Nat,i≤w.length→0≤Hh w i
 he:Hh w w.length=0
theorem KO {w:List Nat} (h:BW w=true):DY w:=by
 simp only [BW,Ac,Aj] at h
 obtain ⟨h1,h2⟩:=h
 obtain ⟨a1,a2,a3⟩:=(NZ w 0 0 (Int.le_refl _)).1 h1
 refine ⟨h2,fun i hi=>?_,fun i hi=>by have:=a2 i hi; omega,by omega⟩
 have:=BD.1 a1 (Ap w i) (by simp [Ap,hi])
 simpa using this
def SO (w:List Nat):List Nat→Nat→Prop
 | [],i=>Hh w i=0
 | j::t,i=>j<i∧Hh w i=Hh w j+1∧(∀ m,j<m→m≤i→Hh w j<Hh w m)∧SO w t j
theorem AMW {w:List Nat}:∀ {t:List Nat} {j i:Nat},SO w t j→j≤i→Hh w i=Hh w j→(∀ m,j<m→m≤i→Hh w j≤Hh w m)→SO w t i
 | [],j,i,h,_,he,_=>by simp only [SO] at h ⊢; omega
 | k::t,j,i,h,hji,he,hm=>by
  obtain ⟨a1,a2,a3,a4⟩:=h
  refine ⟨by omega,by omega,fun m h1 h2=>?_,a4⟩
  by_cases q:m≤j
  ·exact a3 m h1 q
  ·have:=hm m (by omega) h2; omega
theorem T8 {w:List Nat}:∀ {t:List Nat} {i:Nat},SO w t i→Hh w i=t.length
 | [],_,h=>by simpa [SO] using h
 | k::t,i,h=>by
  have:=T8 h.2.2.2
  have:=h.2.1
  simp only [A6]; omega
theorem APF {w:List Nat} {t:List Nat} {i:Nat} (h:SO w t i) (hi:i<w.length) (hu:Ap w i=117):SO w (i::t) (i+1):=by
 have e:=Hz hi hu
 exact ⟨by omega,e,fun m h1 h2=>by obtain rfl:m=i+1:=by omega
                                   omega,h⟩
theorem AJG {w:List Nat} {t:List Nat} {i j:Nat} (h:SO w (j::t) i) (hi:i<w.length) (hd:Ap w i=100):PR w j i∧SO w t (i+1):=by
 obtain ⟨a1,a2,a3,a4⟩:=h
 have e:=Gw hi hd
 refine ⟨⟨a1,hi,by omega,a3⟩,AMW a4 (by omega) (by omega) fun m h1 h2=>?_⟩
 by_cases q:m≤i
 ·have:=a3 m h1 q; omega
 ·obtain rfl:m=i+1:=by omega
  omega
end Go.Cat
namespace Go.Cat
variable {K:Nat→List D→List D→Prop}
def Ar (lo hi x:Int):Bool:=decide (lo≤x)&&decide (x≤hi)
theorem BG {lo hi x:Int}:Ar lo hi x=true↔lo≤x∧x≤hi:=by simp [Ar]
theorem MM {lo hi x:Int}:Ar lo hi x=false↔¬ (lo≤x∧x≤hi):=by simp [Ar]
theorem DW [HA K] {x a b:Int}:K 23 [.n x,.n a,.n b] [.b (Ar a b x)]:=by
 refine AG (f:=N7) rfl ?_; simp only [N7,zu]
 simp (disch:=omega) only [vc]
 by_cases h:a≤x <;> simp (disch:=omega) only [vc,h,Ar]
theorem Cs [HA K] {x a b:Int}:K 22 [.n x,.n a,.n b] [.b (Ar a b x)]:=by
 refine AG (f:=JK) rfl ?_; simp only [JK,zu]
 simp (disch:=omega) only [vc]
 by_cases h:a≤x <;> simp (disch:=omega) only [vc,h,Ar]
end Go.Cat
