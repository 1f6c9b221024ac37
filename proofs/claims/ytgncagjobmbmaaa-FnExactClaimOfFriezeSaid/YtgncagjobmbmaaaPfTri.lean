/-
 Triangulations of trees.
-/
import Derived.Test.YtgncagjobmbmaaaPfSrt
import Derived.Test.YtgncagjobmbmaaaPfBT
import Derived.Test.YtgncagjobmbmaaaPfTxt
import Derived.Test.YtgncagjobmbmaaaIrHas
set_option linter.unusedSimpArgs false
set_option linter.unusedVariables false
namespace Go.Cat
variable {K:Nat→List D→List D→Prop}
def BT.isLf:BT→Bool
 | .lf=>true
 | .nd _ _=>false
theorem BT.nz {x:BT}:nzD x.d=some x.isLf:=by cases x <;> rfl
theorem BT.isLf_n {x:BT}:x.isLf=decide (x.n=0):=by cases x <;> simp [BT.isLf,BT.n]
theorem BT.isLf_t {x:BT} (h:x.isLf=true):x=.lf:=by cases x <;> simp [BT.isLf] at h ⊢
theorem LL_appT {a b:List (List Int)} (h:a.length+b.length≤1099511627776):appD false (LL a) (LL b)=some (LL (a++b)):=LL_app ⟨h,rfl⟩
end Go.Cat
