/-
  The law of KindNames: run.
-/
import Derived.Test.YtddhlibpgnnanaaCatLoop
import Derived.Test.YtddhlibpgnnanaaIrH
import Derived.Test.YtddhlibpgnnanaaIrI32
import Derived.Test.YtddhlibpgnnanaaIrS32
import Derived.Test.YtddhlibpgnnanaaIrLFnExactKindNames
namespace Go.Cat
variable {K : Nat → List D → List D → Prop}
set_option maxRecDepth 100000
abbrev tkn : List (Nat × IF) := [(4, ir_laws_FnExactKindNames), (13, ir_spec_KindNames), (14, ir_impl_KindNames), (15, ir_laws_eqStringS), (16, ir_laws_markStringS), (17, ir_laws_heldStringS), (26, ir_laws_markText)]
theorem kn_law [HasAll K tkn] : K 4 [] [.b true] := run tkn 60 8 4 (isTrue_spec (by kernel_rfl))
end Go.Cat
