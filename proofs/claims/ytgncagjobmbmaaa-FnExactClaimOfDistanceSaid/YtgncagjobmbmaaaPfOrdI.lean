/-
 The order of trees by weights, on both sides.
-/
import Derived.Test.YtgncagjobmbmaaaPfOrdM
import Derived.Test.YtgncagjobmbmaaaIrHas
set_option linter.unusedSimpArgs false
set_option linter.unusedVariables false
namespace Go.Cat
variable {K:Nat→List D→List D→Prop}
theorem al_i [HA K] {x y:BT} {m:Int} (h:x.n≤8) (h2:y.n≤8) (hm:0≤m∧m≤8):K 367 [.s x.t,.s y.t,.n m] [.b (decide ((x.n:Int)≤m)&&decide (x.n=y.n))]:=by
 refine body_by (f:=ir_impl_alike) rfl ?_; simp only [ir_impl_alike,zn,zs,zq,zi,zg,zp]
 simp (disch:=first|omega|simp only[vl];omega) only [vcd]
 refine call_by (no_i (K:=K) h) rfl ?_
 by_cases h3:(x.n:Int)≤m
 ·simp (disch:=first|omega|simp only[vl];omega) only [vcd]
  refine call_by (no_i (K:=K) h2) rfl ?_
  simp (disch:=first|omega|simp only[vl];omega) only [vcd]
  by_cases h4:x.n=y.n
  ·simp [h3,h4]
  ·simp [h3,h4]
   omega
 ·rw [decide_eq_false h3]
  simp (disch:=first|omega|simp only[vl];omega) only [vcd]
theorem fit_s [HA K] {x y:BT} (h:x.n≤8) (h2:y.n≤8):K 365 [.s x.t,.s y.t] [.b (decide (x.n=y.n))]:=by
 have tx:=BT.tl x
 have ty:=BT.tl y
 refine body_by (f:=ir_spec_l17Fit) rfl ?_; simp only [ir_spec_l17Fit,zn,zs,zq,zi,zg,zp]
 simp (disch:=first|omega|simp only[vl];omega) only [vcd]
 refine call_by (isb_s (K:=K) (s:=x.t)) rfl ?_
 simp (disch:=first|omega|simp only[vl];omega) only [vcd,isB_yes h]
 refine call_by (isb_s (K:=K) (s:=y.t)) rfl ?_
 simp (disch:=first|omega|simp only[vl];omega) only [vcd,isB_yes h2]
 by_cases h4:x.n=y.n
 ·simp [h4,tx,ty]
 ·simp [h4,tx,ty]
  omega
theorem fit_s1 [HA K] {a b:List Nat} (h:isB a=false):K 365 [.s a,.s b] [.b false]:=by
 refine body_by (f:=ir_spec_l17Fit) rfl ?_; simp only [ir_spec_l17Fit,zn,zs,zq,zi,zg,zp]
 simp (disch:=first|omega|simp only[vl];omega) only [vcd]
 refine call_by (isb_s (K:=K) (s:=a)) rfl ?_
 simp (disch:=first|omega|simp only[vl];omega) only [vcd,h]
theorem fit_s2 [HA K] {x:BT} {b:List Nat} (hx:x.n≤8) (h:isB b=false):K 365 [.s x.t,.s b] [.b false]:=by
 refine body_by (f:=ir_spec_l17Fit) rfl ?_; simp only [ir_spec_l17Fit,zn,zs,zq,zi,zg,zp]
 simp (disch:=first|omega|simp only[vl];omega) only [vcd]
 refine call_by (isb_s (K:=K) (s:=x.t)) rfl ?_
 simp (disch:=first|omega|simp only[vl];omega) only [vcd,isB_yes hx]
 refine call_by (isb_s (K:=K) (s:=b)) rfl ?_
 simp (disch:=first|omega|simp only[vl];omega) only [vcd,h]
end Go.Cat
