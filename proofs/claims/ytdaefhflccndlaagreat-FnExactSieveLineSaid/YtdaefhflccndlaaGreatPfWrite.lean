/-
 Objects of paths as texts: WriteAs of both sides.
-/
import Derived.Test.YtdaefhflccndlaaGreatPfWr1
import Derived.Test.YtdaefhflccndlaaGreatPfTri2
import Derived.Test.YtdaefhflccndlaaGreatIrHas
set_option linter.unusedSimpArgs false
set_option linter.unusedVariables false
namespace Go.Cat
variable {K:Nat→List D→List D→Prop}
theorem bino_i [HA K] {w:List Nat} (hd:dyck w=true):K 535 [.s w] [.s (btF w).t,.b true]:=by
 obtain ⟨x,rfl,hx⟩:=ex_p hd
 have hl:=BT.pl x
 rw [btF_p]
 refine body_by (f:=ir_impl_BinaryOf) rfl ?_; simp only [ir_impl_BinaryOf,zn,zs,zq,zi,zg,zp]
 simp (disch:=omega) only [vcd]
 repeat (first | (refine call_by (dyck_i (K:=K) (w:=x.p) (by omega)) rfl ?_; try simp (disch:=omega) only [vcd,hd]) | (refine call_by (top_i (K:=K) (x:=x) hx) rfl ?_; try simp (disch:=omega) only [vcd,hd]) | (refine call_by (text_ok (K:=K) (x:=x) (by omega)) rfl ?_; try simp (disch:=omega) only [vcd,hd]))
theorem bino_s [HA K] {w:List Nat} (hd:dyck w=true):K 530 [.s w] [.s (btF w).t,.b true]:=by
 obtain ⟨x,rfl,hx⟩:=ex_p hd
 have hl:=BT.pl x
 rw [btF_p]
 refine body_by (f:=ir_spec_BinaryOf) rfl ?_; simp only [ir_spec_BinaryOf,zn,zs,zq,zi,zg,zp]
 simp (disch:=omega) only [vcd]
 repeat (first | (refine call_by (dyck_s (K:=K) (w:=x.p) (by omega)) rfl ?_; try simp (disch:=omega) only [vcd,hd]) | (refine call_by (l6b_ok (K:=K) (x:=x) hx) rfl ?_; try simp (disch:=omega) only [vcd,hd]))
theorem mate_ok [HA K] {w:List Nat} (hd:dyck w=true):PP w (mate w)∧K 373 [.s w] [LI (mate w)]:=by
 obtain ⟨_,⟨m,rfl,hm⟩,k1⟩:=part_i (K:=K) hd
 rw [mate_eq hm]
 exact ⟨hm,k1⟩
theorem mat_ok [HA K] {w:List Nat} (hd:dyck w=true):K 373 [.s w] [LI (mate w)]∧K 356 [.s w] [LI (mate w),.b true]:=by
 obtain ⟨hm,k1⟩:=mate_ok (K:=K) hd
 exact ⟨k1,mto_s hd hm⟩
end Go.Cat
