/-
 Common parts of pairs of partitions; the list of all, by the kernel.
-/
import Derived.Test.YtjbonmaggidboaaPfKrE
import Derived.Test.YtjbonmaggidboaaPfRdE
set_option linter.unusedSimpArgs false
set_option linter.unusedVariables false
namespace Go.Cat
theorem kerM5:allN (fun p=>allR (kerM p) 5 [] 0) 5 [] 0=true:=by kernel_rfl
def ncL (n:Nat):List (List Int):=(pathsR n).map ptnC
def kerL (n:Nat):Bool:=(ncL n).all (fun r=>ncF r&&(decide (r.length=n)&&(decide (0≤rkP r)&&decide (rkP r<5))))&&decide ((ncL n).length≤42)
theorem kerL6:allB 6 kerL=true:=by kernel_rfl
theorem kerA5:allN (fun p=>decide (p∈ncL p.length)) 5 [] 0=true:=by kernel_rfl
