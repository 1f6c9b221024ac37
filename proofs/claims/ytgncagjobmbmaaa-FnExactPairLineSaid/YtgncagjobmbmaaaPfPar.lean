/-
 Partners in a path: the letter that closes what another one opens.
-/
import Derived.Test.YtgncagjobmbmaaaPfHh
set_option linter.unusedSimpArgs false
set_option linter.unusedVariables false
namespace Go.Cat
variable {K:Nat→List D→List D→Prop}
theorem Hh_up {w:List Nat} {i:Nat} (h:i<w.length) (hu:atB w i=117):Hh w (i+1)=Hh w i+1:=by
 have e:w.take (i+1)=w.take i++[atB w i]:=by
  rw [qta h]; simp [atB,h]
 simp only [Hh,e,cnt_app,hu]
 simp [cnt]; omega
theorem Hh_dn {w:List Nat} {i:Nat} (h:i<w.length) (hu:atB w i=100):Hh w (i+1)=Hh w i-1:=by
 have e:w.take (i+1)=w.take i++[atB w i]:=by
  rw [qta h]; simp [atB,h]
 simp only [Hh,e,cnt_app,hu]
 simp [cnt]; omega
structure DY (w:List Nat):Prop where
 l:w.length≤16
 ud:∀ i:Nat,i<w.length→atB w i=117∨atB w i=100
 h0:∀ i:Nat,i≤w.length→0≤Hh w i
 he:Hh w w.length=0
theorem DY_of {w:List Nat} (h:dyck w=true):DY w:=by
 simp only [dyck,qba,qde] at h
 obtain ⟨h1,h2⟩:=h
 obtain ⟨a1,a2,a3⟩:=(walkH_iff w 0 0 (Int.le_refl _)).1 h1
 refine ⟨h2,fun i hi=>?_,fun i hi=>by have:=a2 i hi; omega,by omega⟩
 have:=qat.1 a1 (atB w i) (by simp [atB,hi])
 simpa using this
end Go.Cat
