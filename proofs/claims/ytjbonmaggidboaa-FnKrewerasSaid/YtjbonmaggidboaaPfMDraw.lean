/-
 Drawn permutations.
-/
import Derived.Test.YtjbonmaggidboaaPfMach
import Derived.Test.YtjbonmaggidboaaPfPLine
import Derived.Test.YtjbonmaggidboaaIrHas
import Derived.Test.YtjbonmaggidboaaPfIn
set_option linter.unusedSimpArgs false
set_option linter.unusedVariables false
namespace Go.Cat
variable {K:Nat→List D→List D→Prop}
set_option maxRecDepth 100000
theorem pickM_ok [HA K] {d:D} (hd:Cur d) {l:List Int} (h0:0<l.length) (hl:l.length≤1000000):∃ rs,(∃ x d',rs=[.n x,d']∧Cur d')∧K 313 [d,LI l] rs:=by
 refine body_ex (f:=ir_spec_l1PickInt) rfl ?_; simp only [ir_spec_l1PickInt,zn,zs,zq,zi,zg,zp]
 obtain ⟨_,⟨x1,d1,rfl,hx1,hd1⟩,k1⟩:=l1Below_ok (K:=K) hd (n:=l.length)
 have:=hx1.2 (by omega)
 simp (disch:=first|omega|simp only[vl];omega) only [vcd]
 refine call_by (k1) rfl ?_
 simp (disch:=first|omega|simp only[vl];omega) only [vcd]
 exact ⟨_,_,rfl,hd1⟩
end Go.Cat
namespace Go.Cat
variable {K:Nat→List D→List D→Prop}
end Go.Cat
namespace Go.Cat
variable {K:Nat→List D→List D→Prop}
end Go.Cat
