/-
 Claims compared and copied.
-/
import Derived.Test.YtjbonmaggidboaaPfPerm
import Derived.Test.YtjbonmaggidboaaIrHas
set_option linter.unusedSimpArgs false
set_option linter.unusedVariables false
namespace Go.Cat
variable {K:Nat→List D→List D→Prop}
theorem eqi_ok [HA K] {a b:List Int} (h:a.length≤1099511627776):K 72 [LI a,LI b] [.b (decide (a=b))]:=by
 refine body_by (f:=ir_impl_equalInts) rfl ?_; simp only [ir_impl_equalInts,zn,zs,zq,zi,zg,zp]
 simp (disch:=first|omega|simp only[vl];omega) only [vcd]
 by_cases hl:a.length=b.length
 ·simp (disch:=first|omega|simp only[vl];omega) only [vcd]
  refine loop_ix (fun i=>∀ j:Nat,j<i→atI a j=atI b j) (fun i=>[LI a,LI b,.u,.u,.u,.n a.length,.n i,.u,.u]) a.length (by simp) rfl (fun i hi hP=>?_) (fun hP=>?_)
  ·by_cases he:atI a i=atI b i
   ·simp (disch:=first|omega|simp only[vl];omega) only [vcd]
    exact all_s hP he
   ·simp (disch:=first|omega|simp only[vl];omega) only [vcd]
    have:a≠b:=by rintro rfl; exact he rfl
    simp [this]
  ·simp (disch:=first|omega|simp only[vl];omega) only [vcd]
   have:a=b:=extI hl hP
   simp [this]
 ·have:a≠b:=by rintro rfl; exact hl rfl
  simp (disch:=first|omega|simp only[vl];omega) only [vcd]
  simp [this]
theorem l13Same_ok [HA K] {a b:List Int} (h:a.length≤1099511627776):K 149 [LI a,LI b] [.b (decide (a=b))]:=by
 refine body_by (f:=ir_spec_l13Same) rfl ?_; simp only [ir_spec_l13Same,zn,zs,zq,zi,zg,zp]
 simp (disch:=first|omega|simp only[vl];omega) only [vcd]
 by_cases hl:a.length=b.length
 ·simp (disch:=first|omega|simp only[vl];omega) only [vcd]
  refine loop_ix (fun i=>∀ j:Nat,j<i→atI a j=atI b j) (fun i=>[LI a,LI b,.u,.n i,.u,.u,.u]) a.length (by simp) rfl (fun i hi hP=>?_) (fun hP=>?_)
  ·by_cases he:atI a i=atI b i
   ·simp (disch:=first|omega|simp only[vl];omega) only [vcd]
    exact all_s hP he
   ·simp (disch:=first|omega|simp only[vl];omega) only [vcd]
    have:a≠b:=by rintro rfl; exact he rfl
    simp [this]
  ·simp (disch:=first|omega|simp only[vl];omega) only [vcd]
   have:a=b:=extI hl hP
   simp [this]
 ·have:a≠b:=by rintro rfl; exact hl rfl
  simp (disch:=first|omega|simp only[vl];omega) only [vcd]
  simp [this]
theorem atL_in {m:List (List Int)} {i:Nat} (h:i<m.length):atL m i∈m:=by simp [atL,h]
end Go.Cat
