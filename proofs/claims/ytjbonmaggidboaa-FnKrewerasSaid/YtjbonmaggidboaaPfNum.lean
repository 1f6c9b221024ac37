/-
 Binomials and Catalan numbers by running.
-/
import Derived.Test.YtjbonmaggidboaaPfIn
import Derived.Test.YtjbonmaggidboaaIrHas
set_option linter.unusedSimpArgs false
set_option linter.unusedVariables false
namespace Go.Cat
variable {K:Nat→List D→List D→Prop}
set_option maxRecDepth 100000
def isN (o:Option (List D)) (v:Int):Bool:=match o with
 | some [.i .i64 n]=>decide (n=v)
 | _=>false
theorem isN_spec {o:Option (List D)} {v:Int} (h:isN o v=true):o=some [.n v]:=by
 unfold isN at h
 split at h
 ·simp at h; rw [h]
 ·cases h
end Go.Cat
