/-
 Numbers of paths: heights, returns, area, peaks, places of valleys, runs, depth.
-/
import Derived.Test.YtjbonmaggidboaaPfMat
import Derived.Test.YtjbonmaggidboaaIrHas
set_option linter.unusedSimpArgs false
set_option linter.unusedVariables false
namespace Go.Cat
variable {K:Nat→List D→List D→Prop}
theorem LI_nilS:D.l []=LI []:=rfl
theorem take_snocI {m:List Int} {i:Nat} (h:i<m.length):m.take (i+1)=m.take i++[atI m i]:=by
 rw [qta h]; simp [atI,h]
theorem Hh_bd {w:List Nat} {i:Nat}:Hh w i≤i∧-(i:Int)≤Hh w i:=by
 have h1:=cnt_le (w:=w.take i) (c:=117)
 have h2:=cnt_le (w:=w.take i) (c:=100)
 simp only [Hh]
 simp only [List.length_take] at h1 h2
 omega
theorem dy_all {w:List Nat} (hd:dyck w=true):allud w=true:=by
 have:=dyck_iff.1 hd
 exact this.2.1
def pvF (a b:Nat) (g:Nat→Nat) (w:List Nat) (i:Nat):Nat:=sumU (fun j=>if atB w j=a∧atB w ((j:Int)+1)=b then g j else 0) i
end Go.Cat
