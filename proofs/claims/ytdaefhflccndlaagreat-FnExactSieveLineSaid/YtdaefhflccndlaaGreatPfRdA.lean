/-
 Brackets and binary trees, read back from any text: both sides.
-/
import Derived.Test.YtdaefhflccndlaaGreatPfWrite
import Derived.Test.YtdaefhflccndlaaGreatIrHas
set_option linter.unusedSimpArgs false
set_option linter.unusedVariables false
namespace Go.Cat
variable {K:Nat→List D→List D→Prop}
theorem l6p_ok [HA K]:∀ {x:BT},x.n≤100000→K 592 [.s x.t] [.s x.p]
 | .lf,_=>by
  refine body_by (f:=ir_spec_l6Path) rfl ?_; simp only [ir_spec_l6Path,zn,zs,zq,zi,zg,zp]
  simp only [BT.t,BT.p]
  simp (disch:=first|omega|simp only[vl];omega) only [vcd]
 | .nd a b,h=>by
  have h':=h
  simp only [BT.n] at h'
  have k1:=l6p_ok (x:=a) (by omega)
  have k2:=l6p_ok (x:=b) (by omega)
  have ta:=BT.tl a
  have tb:=BT.tl b
  have pa:=BT.pl a
  have pb:=BT.pl b
  have hl:=t_len (a:=a) (b:=b)
  have ea:=t_a (a:=a) (b:=b)
  have ke:=le_1 (K:=K) (a:=a) (b:=b) (by omega)
  have e0:=nd_ne (a:=a) (b:=b)
  have eb:=t_b (a:=a) (b:=b) (j:=(BT.nd a b).t.length-1) rfl
  simp only [BT.p]
  generalize hw:(BT.nd a b).t=w at hl ea eb ke e0
  refine body_by (f:=ir_spec_l6Path) rfl ?_; simp only [ir_spec_l6Path,zn,zs,zq,zi,zg,zp]
  simp (disch:=first|omega|simp only[vl];omega) only [vcd,e0]
  refine call_by (ke) rfl ?_
  simp (disch:=first|omega|simp only[vl];omega) only [vcd,ea]
  refine call_by (k1) rfl ?_
  simp (disch:=first|omega|simp only[vl];omega) only [vcd,eb]
  refine call_by (k2) rfl ?_
  simp (disch:=first|omega|simp only[vl];omega) only [vcd]
  simp
theorem pbin_s [HA K] {x:BT} (h:x.n≤8):K 577 [.s x.t] [.s x.p,.b true]:=by
 refine body_by (f:=ir_spec_PathOfBinary) rfl ?_; simp only [ir_spec_PathOfBinary,zn,zs,zq,zi,zg,zp]
 simp (disch:=omega) only [vcd]
 refine call_by (isb_s (K:=K) (s:=x.t)) rfl ?_
 simp (disch:=omega) only [vcd,isB_yes h]
 refine call_by (l6p_ok (K:=K) (x:=x) (by omega)) rfl ?_
 simp (disch:=omega) only [vcd]
end Go.Cat
