/-
 Series: binomials and Catalan numbers by running; sums.
-/
import Derived.Test.YtgncagjobmbmaaaPfSerA
import Derived.Test.YtgncagjobmbmaaaPfNum
import Derived.Test.YtgncagjobmbmaaaIrHas
import Derived.Test.YtgncagjobmbmaaaPfH
set_option linter.unusedSimpArgs false
set_option linter.unusedVariables false
namespace Go.Cat
variable {K:Nat→List D→List D→Prop}
theorem equalInts_ok [HA K] {a b:List Int} (h:a.length≤1099511627776):K 72 [LI a,LI b] [.b (decide (a=b))]:=by
 refine body_by (f:=ir_impl_equalInts) rfl ?_; simp only [ir_impl_equalInts,zn,zs,zq,zi,zg,zp]
 simp (disch:=first|omega|simp only[vl];omega) only [vcd]
 by_cases hl:a.length=b.length
 ·simp (disch:=first|omega|simp only[vl];omega) only [vcd]
  refine loop_ix (fun i=>∀ j:Nat,j<i→atI a j=atI b j) (fun i=>[LI a,LI b,.u,.u,.u,.n a.length,.n i,.u,.u]) a.length (by simp) rfl (fun i hi hP=>?_) (fun hP=>?_)
  ·by_cases he:atI a i=atI b i
   ·simp (disch:=first|omega|simp only[vl];omega) only [vcd]
    exact all_s hP he
   ·simp (disch:=first|omega|simp only[vl];omega) only [vcd]
    have:a≠b:=by rintro rfl; exact he rfl
    simp [this]
  ·simp (disch:=first|omega|simp only[vl];omega) only [vcd]
   have:a=b:=extI hl hP
   simp [this]
 ·have:a≠b:=by rintro rfl; exact hl rfl
  simp (disch:=first|omega|simp only[vl];omega) only [vcd]
  simp [this]
end Go.Cat
