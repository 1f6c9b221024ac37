/-
 Triangulations of trees.
-/
import Derived.Test.YtjbonmaggidboaaPfMDraw
import Derived.Test.YtjbonmaggidboaaPfBT
import Derived.Test.YtjbonmaggidboaaPfTxt
import Derived.Test.YtjbonmaggidboaaIrHas
set_option linter.unusedSimpArgs false
set_option linter.unusedVariables false
namespace Go.Cat
variable {K:Nat→List D→List D→Prop}
def BT.isLf:BT→Bool
 | .lf=>true
 | .nd _ _=>false
theorem BT.nz {x:BT}:nzD x.d=some x.isLf:=by cases x <;> rfl
theorem BT.isLf_n {x:BT}:x.isLf=decide (x.n=0):=by cases x <;> simp [BT.isLf,BT.n]
theorem BT.isLf_t {x:BT} (h:x.isLf=true):x=.lf:=by cases x <;> simp [BT.isLf] at h ⊢
end Go.Cat
namespace Go.Cat
variable {K:Nat→List D→List D→Prop}
end Go.Cat
namespace Go.Cat
variable {K:Nat→List D→List D→Prop}
end Go.Cat
namespace Go.Cat
variable {K:Nat→List D→List D→Prop}
end Go.Cat
