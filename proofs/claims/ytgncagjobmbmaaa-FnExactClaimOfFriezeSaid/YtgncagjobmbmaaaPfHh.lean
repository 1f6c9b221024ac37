/-
 The height of a word, letter by letter.
-/
import Derived.Test.YtgncagjobmbmaaaPfRefl
set_option linter.unusedSimpArgs false
set_option linter.unusedVariables false
namespace Go.Cat
variable {K:Nat→List D→List D→Prop}
end Go.Cat
namespace Go.Cat
variable {K:Nat→List D→List D→Prop}
end Go.Cat
