/-
 Partners in a path: the letter that closes what another one opens.
-/
import Derived.Test.YtjbonmaggidboaaPfHh
set_option linter.unusedSimpArgs false
set_option linter.unusedVariables false
namespace Go.Cat
variable {K:Nat→List D→List D→Prop}
def PR (w:List Nat) (j k:Nat):Prop:=j<k∧k<w.length∧Hh w (k+1)=Hh w j∧∀ m,j<m→m≤k→Hh w j<Hh w m
theorem PR_l {w:List Nat} {j k k':Nat} (h:PR w j k) (h':PR w j k'):k=k':=by
 obtain ⟨a1,a2,a3,a4⟩:=h
 obtain ⟨b1,b2,b3,b4⟩:=h'
 rcases Nat.lt_trichotomy k k' with q | q | q
 ·have:=b4 (k+1) (by omega) (by omega); omega
 ·exact q
 ·have:=a4 (k'+1) (by omega) (by omega); omega
theorem PR_r {w:List Nat} {j j' k:Nat} (h:PR w j k) (h':PR w j' k):j=j':=by
 obtain ⟨a1,a2,a3,a4⟩:=h
 obtain ⟨b1,b2,b3,b4⟩:=h'
 rcases Nat.lt_trichotomy j j' with q | q | q
 ·have:=a4 j' (by omega) (by omega); omega
 ·exact q
 ·have:=b4 j (by omega) (by omega); omega
theorem PR_no {w:List Nat} {i j k:Nat} (h:PR w i j) (h':PR w j k):False:=by
 obtain ⟨a1,a2,a3,a4⟩:=h
 obtain ⟨b1,b2,b3,b4⟩:=h'
 have:=a4 j (by omega) (by omega)
 have:=b4 (j+1) (by omega) (by omega)
 omega
def PP (w:List Nat) (m:List Int):Prop:=m.length=w.length∧∀ a:Nat,a<w.length→∃ b:Nat,atI m a=b∧(PR w a b∨PR w b a)
theorem PP_one {w:List Nat} {m m':List Int} (h:PP w m) (h':PP w m'):m=m':=by
 refine extI (by rw [h.1,h'.1]) fun j hj=>?_
 rw [h.1] at hj
 obtain ⟨b,e,q⟩:=h.2 j hj
 obtain ⟨b',e',q'⟩:=h'.2 j hj
 rw [e,e']
 rcases q with q | q <;> rcases q' with q' | q'
 ·rw [PR_l q q']
 ·exact (PR_no q' q).elim
 ·exact (PR_no q q').elim
 ·rw [PR_r q q']
theorem Hh_up {w:List Nat} {i:Nat} (h:i<w.length) (hu:atB w i=117):Hh w (i+1)=Hh w i+1:=by
 have e:w.take (i+1)=w.take i++[atB w i]:=by
  rw [qta h]; simp [atB,h]
 simp only [Hh,e,cnt_app,hu]
 simp [cnt]; omega
theorem Hh_dn {w:List Nat} {i:Nat} (h:i<w.length) (hu:atB w i=100):Hh w (i+1)=Hh w i-1:=by
 have e:w.take (i+1)=w.take i++[atB w i]:=by
  rw [qta h]; simp [atB,h]
 simp only [Hh,e,cnt_app,hu]
 simp [cnt]; omega
structure DY (w:List Nat):Prop where
 l:w.length≤16
 ud:∀ i:Nat,i<w.length→atB w i=117∨atB w i=100
 h0:∀ i:Nat,i≤w.length→0≤Hh w i
 he:Hh w w.length=0
theorem DY_of {w:List Nat} (h:dyck w=true):DY w:=by
 simp only [dyck,qba,qde] at h
 obtain ⟨h1,h2⟩:=h
 obtain ⟨a1,a2,a3⟩:=(walkH_iff w 0 0 (Int.le_refl _)).1 h1
 refine ⟨h2,fun i hi=>?_,fun i hi=>by have:=a2 i hi; omega,by omega⟩
 have:=qat.1 a1 (atB w i) (by simp [atB,hi])
 simpa using this
def SO (w:List Nat):List Nat→Nat→Prop
 | [],i=>Hh w i=0
 | j::t,i=>j<i∧Hh w i=Hh w j+1∧(∀ m,j<m→m≤i→Hh w j<Hh w m)∧SO w t j
theorem SO_on {w:List Nat}:∀ {t:List Nat} {j i:Nat},SO w t j→j≤i→Hh w i=Hh w j→(∀ m,j<m→m≤i→Hh w j≤Hh w m)→SO w t i
 | [],j,i,h,_,he,_=>by simp only [SO] at h ⊢; omega
 | k::t,j,i,h,hji,he,hm=>by
  obtain ⟨a1,a2,a3,a4⟩:=h
  refine ⟨by omega,by omega,fun m h1 h2=>?_,a4⟩
  by_cases q:m≤j
  ·exact a3 m h1 q
  ·have:=hm m (by omega) h2; omega
theorem SO_len {w:List Nat}:∀ {t:List Nat} {i:Nat},SO w t i→Hh w i=t.length
 | [],_,h=>by simpa [SO] using h
 | k::t,i,h=>by
  have:=SO_len h.2.2.2
  have:=h.2.1
  simp only [qlc]; omega
theorem SO_up {w:List Nat} {t:List Nat} {i:Nat} (h:SO w t i) (hi:i<w.length) (hu:atB w i=117):SO w (i::t) (i+1):=by
 have e:=Hh_up hi hu
 exact ⟨by omega,e,fun m h1 h2=>by obtain rfl:m=i+1:=by omega
                                   omega,h⟩
theorem SO_dn {w:List Nat} {t:List Nat} {i j:Nat} (h:SO w (j::t) i) (hi:i<w.length) (hd:atB w i=100):PR w j i∧SO w t (i+1):=by
 obtain ⟨a1,a2,a3,a4⟩:=h
 have e:=Hh_dn hi hd
 refine ⟨⟨a1,hi,by omega,a3⟩,SO_on a4 (by omega) (by omega) fun m h1 h2=>?_⟩
 by_cases q:m≤i
 ·have:=a3 m h1 q; omega
 ·obtain rfl:m=i+1:=by omega
  omega
end Go.Cat
