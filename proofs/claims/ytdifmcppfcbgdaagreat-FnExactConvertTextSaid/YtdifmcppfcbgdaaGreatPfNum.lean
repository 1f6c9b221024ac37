/-
 Binomials and Catalan numbers by running.
-/
import Derived.Test.YtdifmcppfcbgdaaGreatPfIn
import Derived.Test.YtdifmcppfcbgdaaGreatIrHas
import Derived.Test.YtdifmcppfcbgdaaGreatPfPath
set_option linter.unusedSimpArgs false
set_option linter.unusedVariables false
namespace Go.Cat
variable {K:Nat→List D→List D→Prop}
set_option maxRecDepth 100000
def isN (o:Option (List D)) (v:Int):Bool:=match o with
 | some [.i .i64 n]=>decide (n=v)
 | _=>false
theorem isN_spec {o:Option (List D)} {v:Int} (h:isN o v=true):o=some [.n v]:=by
 unfold isN at h
 split at h
 ·simp at h; rw [h]
 ·cases h
end Go.Cat
namespace Go.Cat
variable {K:Nat→List D→List D→Prop}
set_option maxRecDepth 100000
def apR (fuel:Nat) (w:List Nat) (up down:Nat):List (List Nat):=match fuel with
 | 0=>[]
 | f+1=>if down=0 then [w] else (if up > 0 then apR f (w++[117]) (up-1) down else [])++(if down > up then apR f (w++[100]) up (down-1) else [])
def pathsR (n:Nat):List (List Nat):=apR (2*n+1) [] n n
end Go.Cat
