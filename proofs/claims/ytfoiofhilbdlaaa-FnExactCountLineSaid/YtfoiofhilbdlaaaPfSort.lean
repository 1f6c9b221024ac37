/-
 Stack sorting, once.
-/
import Derived.Test.YtfoiofhilbdlaaaPfStatB
import Derived.Test.YtfoiofhilbdlaaaPfSrt
import Derived.Test.YtfoiofhilbdlaaaIrHas
set_option linter.unusedSimpArgs false
set_option linter.unusedVariables false
namespace Go.Cat
variable {K:Nat→List D→List D→Prop}
theorem at_last {t:List Int} {y:Int}:atI (t++[y]) t.length=y:=by simp [atI]
theorem sub_init {t:List Int} {y:Int}:sub (t++[y]) 0 t.length=t:=by simp [sub]
end Go.Cat
