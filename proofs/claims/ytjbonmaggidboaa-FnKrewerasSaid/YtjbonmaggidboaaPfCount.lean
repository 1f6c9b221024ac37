/-
 Counted words, by running.
-/
import Derived.Test.YtjbonmaggidboaaPfCat
import Derived.Test.YtjbonmaggidboaaIrHas
set_option linter.unusedSimpArgs false
set_option linter.unusedVariables false
namespace Go.Cat
variable {K:Nat→List D→List D→Prop}
set_option maxRecDepth 100000
abbrev tcwi:List (Nat×IF):=[(10,ir_impl_CountWords),(23,ir_impl_within),(25,ir_impl_choose)]
theorem cw_out_i [HA K] {a b:Int} (h:¬ ((0≤a∧a≤15)∧0≤b∧b≤15)):K 10 [.n a,.n b] [.n (-1)]:=by
 refine body_by (f:=ir_impl_CountWords) rfl ?_; simp only [ir_impl_CountWords,zn,zs,zq,zi,zg,zp]
 have h1:=inR_iff (lo:=0) (hi:=15) (x:=a)
 have h2:=inR_iff (lo:=0) (hi:=15) (x:=b)
 cases e1:inR 0 15 a <;> cases e2:inR 0 15 b <;> rw [e1] at h1 <;> rw [e2] at h2
 ·simp (disch:=first|omega|simp only[vl];omega) only [vcd]
  repeat (first | (refine call_by (within_ok (K:=K)) rfl ?_; try simp (disch:=first|omega|simp only[vl];omega) only [vcd,e1]))
 ·simp (disch:=first|omega|simp only[vl];omega) only [vcd]
  repeat (first | (refine call_by (within_ok (K:=K)) rfl ?_; try simp (disch:=first|omega|simp only[vl];omega) only [vcd,e1]))
 ·simp (disch:=first|omega|simp only[vl];omega) only [vcd]
  repeat (first | (refine call_by (within_ok (K:=K)) rfl ?_; try simp (disch:=first|omega|simp only[vl];omega) only [vcd,e1,e2]))
 ·exact absurd ⟨h1.1 rfl,h2.1 rfl⟩ h
end Go.Cat
