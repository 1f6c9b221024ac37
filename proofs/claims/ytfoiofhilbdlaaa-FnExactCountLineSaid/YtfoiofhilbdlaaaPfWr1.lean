/-
 Texts of plane trees, partitions, matchings; permutations of paths.
-/
import Derived.Test.YtfoiofhilbdlaaaPfPLine
import Derived.Test.YtfoiofhilbdlaaaPfM231
import Derived.Test.YtfoiofhilbdlaaaIrHas
set_option linter.unusedSimpArgs false
set_option linter.unusedVariables false
namespace Go.Cat
variable {K:Nat→List D→List D→Prop}
theorem glT_app {sep:List Nat} {ws:List (List Nat)} {x:List Nat}:∀ {i:Nat},i≤ws.length→glT sep (ws++[x]) i=glT sep ws i
 | 0,_=>rfl
 | i+1,h=>by
  have e:atS (ws++[x]) i=atS ws i:=by
   simp only [atS,qtn,qgd]
   rw [qgl (by omega)]
  rw [glT,glT,glT_app (by omega),e]
theorem glue_snoc {sep:List Nat} {ws:List (List Nat)} {x:List Nat}:glue sep (ws++[x])=glue sep ws++(if 0<ws.length then sep else [])++x:=by
 have e:atS (ws++[x]) ws.length=x:=by simp [atS]
 rw [glue,qla,qlc,qln,Nat.zero_add,glT,glT_app (Nat.le_refl _),e]
 rfl
theorem glue_len {sep:List Nat} {ws:List (List Nat)} {b:Nat} (h:∀ x∈ws,x.length≤b):(glue sep ws).length≤ws.length*(b+sep.length):=glT_len h ws.length
end Go.Cat
