/-
 Numbers between bounds.
-/
import Derived.Test.YtihgdjeahjfhfaaGreatCatFour
import Derived.Test.YtihgdjeahjfhfaaGreatIrHas
set_option linter.unusedSimpArgs false
set_option linter.unusedVariables false
namespace Go.Cat
variable {K:Nat→List D→List D→Prop}
def inR (lo hi x:Int):Bool:=decide (lo≤x)&&decide (x≤hi)
theorem inR_iff {lo hi x:Int}:inR lo hi x=true↔lo≤x∧x≤hi:=by simp [inR]
theorem inR_f {lo hi x:Int}:inR lo hi x=false↔¬ (lo≤x∧x≤hi):=by simp [inR]
theorem within_ok [HA K] {x a b:Int}:K 23 [.n x,.n a,.n b] [.b (inR a b x)]:=by
 refine body_by (f:=ir_impl_within) rfl ?_; simp only [ir_impl_within,zn,zs,zq,zi,zg,zp]
 simp (disch:=omega) only [vc]
 by_cases h:a≤x <;> simp (disch:=omega) only [vc,h,inR]
theorem l1In_ok [HA K] {x a b:Int}:K 22 [.n x,.n a,.n b] [.b (inR a b x)]:=by
 refine body_by (f:=ir_spec_l1In) rfl ?_; simp only [ir_spec_l1In,zn,zs,zq,zi,zg,zp]
 simp (disch:=omega) only [vc]
 by_cases h:a≤x <;> simp (disch:=omega) only [vc,h,inR]
end Go.Cat
