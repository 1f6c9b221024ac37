/-
 The order of trees by weights, on both sides.
-/
import Derived.Test.YtihgdjeahjfhfaaGreatPfOrdM
import Derived.Test.YtihgdjeahjfhfaaGreatIrHas
set_option linter.unusedSimpArgs false
set_option linter.unusedVariables false
namespace Go.Cat
variable {K:Nat→List D→List D→Prop}
def leB (x y:BT):Bool:=decide (x.n=y.n)&&(List.range x.n).all fun i:Nat=>decide (atI x.w (i:Nat)≤atI y.w (i:Nat))
theorem leB_iff {x y:BT}:leB x y=true↔leW x y:=by
 simp only [leB,leW,qba,qde,qat,List.mem_range]
theorem leB_f {x y:BT} {i:Nat} (h:i<x.n) (h2:atI y.w (i:Nat)<atI x.w (i:Nat)):leB x y=false:=by
 rw [Bool.eq_false_iff]
 intro q
 have:=(leB_iff.1 q).2 i h
 omega
theorem leB_n {x y:BT} (h:x.n≠y.n):leB x y=false:=by
 rw [Bool.eq_false_iff]
 exact fun q=>h (leB_iff.1 q).1
theorem al_i [HA K] {x y:BT} {m:Int} (h:x.n≤8) (h2:y.n≤8) (hm:0≤m∧m≤8):K 367 [.s x.t,.s y.t,.n m] [.b (decide ((x.n:Int)≤m)&&decide (x.n=y.n))]:=by
 refine body_by (f:=ir_impl_alike) rfl ?_; simp only [ir_impl_alike,zn,zs,zq,zi,zg,zp]
 simp (disch:=first|omega|simp only[vl];omega) only [vcd]
 refine call_by (no_i (K:=K) h) rfl ?_
 by_cases h3:(x.n:Int)≤m
 ·simp (disch:=first|omega|simp only[vl];omega) only [vcd]
  refine call_by (no_i (K:=K) h2) rfl ?_
  simp (disch:=first|omega|simp only[vl];omega) only [vcd]
  by_cases h4:x.n=y.n
  ·simp [h3,h4]
  ·simp [h3,h4]
   omega
 ·rw [decide_eq_false h3]
  simp (disch:=first|omega|simp only[vl];omega) only [vcd]
theorem tl_i [HA K] {x y:BT} (h:x.n≤8) (h2:y.n≤8):K 350 [.s x.t,.s y.t] [.b (leB x y)]:=by
 have lx:=w_len (x:=x)
 have ly:=w_len (x:=y)
 refine body_by (f:=ir_impl_IsTamariLess) rfl ?_; simp only [ir_impl_IsTamariLess,zn,zs,zq,zi,zg,zp]
 simp (disch:=first|omega|simp only[vl];omega) only [vcd]
 refine call_by (al_i (K:=K) (m:=8) h h2 (by omega)) rfl ?_
 have e8:decide ((x.n:Int)≤8)=true:=decide_eq_true (by omega)
 by_cases h3:x.n=y.n
 ·have e9:decide (x.n=y.n)=true:=decide_eq_true h3
  rw [e8,e9]
  simp (disch:=first|omega|simp only[vl];omega) only [vcd]
  refine call_by (w_i (K:=K) h) rfl ?_
  simp (disch:=first|omega|simp only[vl];omega) only [vcd]
  refine call_by (w_i (K:=K) h2) rfl ?_
  simp (disch:=first|omega|simp only[vl];omega) only [vcd]
  refine loop_ix (fun i=>∀ j:Nat,j<i→atI x.w (j:Nat)≤atI y.w (j:Nat)) (fun i=>[.u,.u,.u,LI x.w,LI y.w,.u,.u,.n x.w.length,.n i,.u,.u]) x.w.length (by omega) rfl (fun i hi hP=>?_) (fun hP=>?_)
  ·by_cases q:atI x.w (i:Nat)≤atI y.w (i:Nat)
   ·simp (disch:=first|omega|simp only[vl];omega) only [vcd]
    exact all_s hP q
   ·simp (disch:=first|omega|simp only[vl];omega) only [vcd]
    rw [leB_f (i:=i) (by omega) (by omega)]
  ·simp (disch:=first|omega|simp only[vl];omega) only [vcd]
   rw [leB_iff.2 ⟨h3,fun i hi=>hP i (by omega)⟩]
 ·have e9:decide (x.n=y.n)=false:=decide_eq_false h3
  rw [e8,e9]
  simp (disch:=first|omega|simp only[vl];omega) only [vcd]
  rw [leB_n h3]
theorem fit_s [HA K] {x y:BT} (h:x.n≤8) (h2:y.n≤8):K 365 [.s x.t,.s y.t] [.b (decide (x.n=y.n))]:=by
 have tx:=BT.tl x
 have ty:=BT.tl y
 refine body_by (f:=ir_spec_l17Fit) rfl ?_; simp only [ir_spec_l17Fit,zn,zs,zq,zi,zg,zp]
 simp (disch:=first|omega|simp only[vl];omega) only [vcd]
 refine call_by (isb_s (K:=K) (s:=x.t)) rfl ?_
 simp (disch:=first|omega|simp only[vl];omega) only [vcd,isB_yes h]
 refine call_by (isb_s (K:=K) (s:=y.t)) rfl ?_
 simp (disch:=first|omega|simp only[vl];omega) only [vcd,isB_yes h2]
 by_cases h4:x.n=y.n
 ·simp [h4,tx,ty]
 ·simp [h4,tx,ty]
  omega
theorem tl_s [HA K] {x y:BT} (h:x.n≤8) (h2:y.n≤8):K 349 [.s x.t,.s y.t] [.b (leB x y)]:=by
 have lx:=w_len (x:=x)
 have ly:=w_len (x:=y)
 refine body_by (f:=ir_spec_IsTamariLess) rfl ?_; simp only [ir_spec_IsTamariLess,zn,zs,zq,zi,zg,zp]
 simp (disch:=first|omega|simp only[vl];omega) only [vcd]
 refine call_by (fit_s (K:=K) h h2) rfl ?_
 by_cases h3:x.n=y.n
 ·have e9:decide (x.n=y.n)=true:=decide_eq_true h3
  rw [e9]
  simp (disch:=first|omega|simp only[vl];omega) only [vcd]
  refine call_by (w_s (K:=K) h) rfl ?_
  simp (disch:=first|omega|simp only[vl];omega) only [vcd]
  refine call_by (w_s (K:=K) h2) rfl ?_
  simp (disch:=first|omega|simp only[vl];omega) only [vcd]
  refine loop_ix (fun i=>∀ j:Nat,j<i→atI x.w (j:Nat)≤atI y.w (j:Nat)) (fun i=>[.u,.u,.u,LI x.w,LI y.w,.n i,.u,.u,.u]) x.w.length (by omega) rfl (fun i hi hP=>?_) (fun hP=>?_)
  ·by_cases q:atI x.w (i:Nat)≤atI y.w (i:Nat)
   ·simp (disch:=first|omega|simp only[vl];omega) only [vcd]
    exact all_s hP q
   ·simp (disch:=first|omega|simp only[vl];omega) only [vcd]
    rw [leB_f (i:=i) (by omega) (by omega)]
  ·simp (disch:=first|omega|simp only[vl];omega) only [vcd]
   rw [leB_iff.2 ⟨h3,fun i hi=>hP i (by omega)⟩]
 ·have e9:decide (x.n=y.n)=false:=decide_eq_false h3
  rw [e9]
  simp (disch:=first|omega|simp only[vl];omega) only [vcd]
  rw [leB_n h3]
theorem al_i1 [HA K] {a b:List Nat} {m:Int} (h:isB a=false):K 367 [.s a,.s b,.n m] [.b false]:=by
 refine body_by (f:=ir_impl_alike) rfl ?_; simp only [ir_impl_alike,zn,zs,zq,zi,zg,zp]
 simp (disch:=first|omega|simp only[vl];omega) only [vcd]
 refine call_by (no_i0 (K:=K) h) rfl ?_
 simp (disch:=first|omega|simp only[vl];omega) only [vcd]
theorem al_i2 [HA K] {x:BT} {b:List Nat} (hx:x.n≤8) (h:isB b=false):K 367 [.s x.t,.s b,.n 8] [.b false]:=by
 refine body_by (f:=ir_impl_alike) rfl ?_; simp only [ir_impl_alike,zn,zs,zq,zi,zg,zp]
 simp (disch:=first|omega|simp only[vl];omega) only [vcd]
 refine call_by (no_i (K:=K) hx) rfl ?_
 simp (disch:=first|omega|simp only[vl];omega) only [vcd]
 refine call_by (no_i0 (K:=K) h) rfl ?_
 simp (disch:=first|omega|simp only[vl];omega) only [vcd]
theorem fit_s1 [HA K] {a b:List Nat} (h:isB a=false):K 365 [.s a,.s b] [.b false]:=by
 refine body_by (f:=ir_spec_l17Fit) rfl ?_; simp only [ir_spec_l17Fit,zn,zs,zq,zi,zg,zp]
 simp (disch:=first|omega|simp only[vl];omega) only [vcd]
 refine call_by (isb_s (K:=K) (s:=a)) rfl ?_
 simp (disch:=first|omega|simp only[vl];omega) only [vcd,h]
theorem fit_s2 [HA K] {x:BT} {b:List Nat} (hx:x.n≤8) (h:isB b=false):K 365 [.s x.t,.s b] [.b false]:=by
 refine body_by (f:=ir_spec_l17Fit) rfl ?_; simp only [ir_spec_l17Fit,zn,zs,zq,zi,zg,zp]
 simp (disch:=first|omega|simp only[vl];omega) only [vcd]
 refine call_by (isb_s (K:=K) (s:=x.t)) rfl ?_
 simp (disch:=first|omega|simp only[vl];omega) only [vcd,isB_yes hx]
 refine call_by (isb_s (K:=K) (s:=b)) rfl ?_
 simp (disch:=first|omega|simp only[vl];omega) only [vcd,h]
end Go.Cat
