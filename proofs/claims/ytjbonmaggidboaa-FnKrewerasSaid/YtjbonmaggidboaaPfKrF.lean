/-
 Pairs of partitions, by the kernel.
-/
import Derived.Test.YtjbonmaggidboaaPfKrE
import Derived.Test.YtjbonmaggidboaaPfRdN
import Derived.Test.YtjbonmaggidboaaPfMatP
import Derived.Test.YtjbonmaggidboaaPfRdQ
import Derived.Test.YtjbonmaggidboaaPfStatB
set_option linter.unusedSimpArgs false
set_option linter.unusedVariables false
namespace Go.Cat
theorem kerJ5:allN (fun p=>allN (kerJ p) 5 [] 0) 5 [] 0=true:=by kernel_rfl
namespace Go.Cat
variable {K:Nat→List D→List D→Prop}
end Go.Cat
namespace Go.Cat
variable {K:Nat→List D→List D→Prop}
end Go.Cat
namespace Go.Cat
variable {K:Nat→List D→List D→Prop}
end Go.Cat
