/-
 Catalan numbers by running.
-/
import Derived.Test.YtjbonmaggidboaaPfNum
import Derived.Test.YtjbonmaggidboaaPfTxt
import Derived.Test.YtjbonmaggidboaaPfPath
set_option linter.unusedSimpArgs false
set_option linter.unusedVariables false
namespace Go.Cat
variable {K:Nat→List D→List D→Prop}
set_option maxRecDepth 100000
def catL:List Int:=[1,1,2,5,14,42,132,429,1430,4862,16796,58786,208012,742900,2674440,9694845]
abbrev tci2:List (Nat×IF):=[(28,ir_impl_CatalanNumber),(27,ir_impl_BallotNumber),(23,ir_impl_within)]
theorem cat_i0:allB 16 (fun n=>isN (evF (tableOf tci2) 60 8 28 [.n n]) (catL.getD n 0))=true:=by kernel_rfl
theorem cat_i [HA K] {n:Nat} (h:n<16):K 28 [.n n] [.n (catL.getD n 0)]:=run tci2 60 8 28 (isN_spec (allB_spec cat_i0 n h))
end Go.Cat
namespace Go.Cat
variable {K:Nat→List D→List D→Prop}
set_option maxRecDepth 100000
theorem walkH_ge:∀ {w:List Nat} {h k:Int},walkH w h=some k→h≤k+w.length
 | [],h,k,e=>by simp only [walkH,qsj] at e; subst e; simp
 | c::w,h,k,e=>by
  simp only [walkH] at e
  simp only [qlc]
  split at e
  ·have:=walkH_ge e; omega
  ·split at e
   ·split at e
    ·cases e
    ·have:=walkH_ge e; omega
   ·cases e
end Go.Cat
namespace Go.Cat
variable {K:Nat→List D→List D→Prop}
set_option maxRecDepth 100000
end Go.Cat
