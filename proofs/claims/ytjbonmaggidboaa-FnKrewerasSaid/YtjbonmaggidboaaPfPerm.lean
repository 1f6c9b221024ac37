/-
 Permutations.
-/
import Derived.Test.YtjbonmaggidboaaPfIn
import Derived.Test.YtjbonmaggidboaaIrHas
import Derived.Test.YtjbonmaggidboaaCatFour
set_option linter.unusedSimpArgs false
set_option linter.unusedVariables false
namespace Go.Cat
variable {K:Nat→List D→List D→Prop}
def permP (p:List Int) (i:Nat):Prop:=∀ j:Nat,j<i→inR 0 ((p.length:Int)-1) (atI p j)=true∧∀ k:Nat,k<j→atI p k≠atI p j
instance {p:List Int} {i:Nat}:Decidable (permP p i):=by unfold permP; infer_instance
theorem copyInts_ok [HA K] {p:List Int} (h:p.length≤1000000000):K 75 [LI p] [LI p]:=by
 refine body_by (f:=ir_impl_copyInts) rfl ?_; simp only [ir_impl_copyInts,zn,zs,zq,zi,zg,zp]
 simp (disch:=first|omega|simp only[vl];omega) only [vcd,LI_nil]
end Go.Cat
namespace Go.Cat
variable {K:Nat→List D→List D→Prop}
end Go.Cat
namespace Go.Cat
variable {K:Nat→List D→List D→Prop}
theorem at_last {t:List Int} {y:Int}:atI (t++[y]) t.length=y:=by simp [atI]
theorem sub_init {t:List Int} {y:Int}:sub (t++[y]) 0 t.length=t:=by simp [sub]
end Go.Cat
