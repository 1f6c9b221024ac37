/-
 Ways of rotations of any two texts; distances.
-/
import Derived.Test.YtihgdjeahjfhfaaGreatPfWayK
set_option linter.unusedSimpArgs false
set_option linter.unusedVariables false
namespace Go.Cat
variable {K:Nat→List D→List D→Prop}
theorem way_no [HA K] {a b:List Nat} (h1:K 367 [.s a,.s b,.n 5] [.b false]):K 348 [.s a,.s b] [LS [],.b false]:=by
 refine body_by (f:=ir_impl_RotationWay) rfl ?_; simp only [ir_impl_RotationWay,zn,zs,zq,zi,zg,zp]
 simp (disch:=first|omega|simp only[vl];omega) only [vcd]
 refine call_by (h1) rfl ?_
 simp (disch:=first|omega|simp only[vl];omega) only [vcd]
 rfl
theorem way_any [HA K] [HasV K 201 ir_impl_rotations_w202] [HA K] [HRot K] (a b:List Nat):∃ (t:List (List Nat)) (r:Bool),t.length≤43∧(r=true→0<t.length)∧K 348 [.s a,.s b] [LS t,.b r]∧K 347 [.s a,.s b] [LS t,.b r]:=by
 cases ha:isB a with
 | false=>
  refine ⟨[],false,by simp,by simp,way_no ?_,?_⟩
  ·refine body_by (f:=ir_impl_alike) rfl ?_; simp only [ir_impl_alike,zn,zs,zq,zi,zg,zp]
   simp (disch:=first|omega|simp only[vl];omega) only [vcd]
   refine call_by (no_i0 (K:=K) ha) rfl ?_
   simp (disch:=first|omega|simp only[vl];omega) only [vcd]
  ·refine body_by (f:=ir_spec_RotationWay) rfl ?_; simp only [ir_spec_RotationWay,zn,zs,zq,zi,zg,zp]
   simp (disch:=first|omega|simp only[vl];omega) only [vcd]
   refine call_by (fit_s1 (K:=K) (a:=a) (b:=b) ha) rfl ?_
   simp (disch:=first|omega|simp only[vl];omega) only [vcd]
   rfl
 | true=>
  obtain ⟨x,rfl,hx⟩:=isB_t ha
  cases hb:isB b with
  | false=>
   refine ⟨[],false,by simp,by simp,way_no ?_,?_⟩
   ·refine body_by (f:=ir_impl_alike) rfl ?_; simp only [ir_impl_alike,zn,zs,zq,zi,zg,zp]
    simp (disch:=first|omega|simp only[vl];omega) only [vcd]
    refine call_by (no_i (K:=K) hx) rfl ?_
    by_cases h5:(x.n:Int)≤5
    ·simp (disch:=first|omega|simp only[vl];omega) only [vcd]
     refine call_by (no_i0 (K:=K) hb) rfl ?_
     simp (disch:=first|omega|simp only[vl];omega) only [vcd]
    ·simp (disch:=first|omega|simp only[vl];omega) only [vcd]
   ·refine body_by (f:=ir_spec_RotationWay) rfl ?_; simp only [ir_spec_RotationWay,zn,zs,zq,zi,zg,zp]
    simp (disch:=first|omega|simp only[vl];omega) only [vcd]
    refine call_by (fit_s2 (K:=K) (x:=x) (b:=b) hx hb) rfl ?_
    simp (disch:=first|omega|simp only[vl];omega) only [vcd]
    rfl
  | true=>
   obtain ⟨y,rfl,hy⟩:=isB_t hb
   by_cases h5:x.n≤5
   ·by_cases hn:x.n=y.n
    ·obtain ⟨N,h1,h2,h3,h4⟩:=bf_end h5
     have h4':=h4 y hn.symm
     obtain ⟨k,hk,hk2,hk3⟩:=bf_at (bfS_inv (a:=x) N) h4'
     rw [h2] at hk
     have hl:=wayF_len (S:=bfS x N) (f:=k+1) (k:=k)
     refine ⟨wayF (bfS x N) (k+1) k,true,by omega,fun _=>by simp [wayF],way_i h5 hn.symm h1 h2 h3 hk hk2 h4',way_s h5 hn.symm h1 h2 h3 hk hk2 hk3⟩
    ·have k1:=al_i (K:=K) (x:=x) (y:=y) (m:=5) hx hy (by omega)
     rw [decide_eq_false hn,Bool.and_false] at k1
     refine ⟨[],false,by simp,by simp,way_no k1,?_⟩
     have k2:=fit_s (K:=K) hx hy
     rw [decide_eq_false hn] at k2
     refine body_by (f:=ir_spec_RotationWay) rfl ?_; simp only [ir_spec_RotationWay,zn,zs,zq,zi,zg,zp]
     simp (disch:=first|omega|simp only[vl];omega) only [vcd]
     refine call_by (k2) rfl ?_
     simp (disch:=first|omega|simp only[vl];omega) only [vcd]
     rfl
   ·have k1:=al_i (K:=K) (x:=x) (y:=y) (m:=5) hx hy (by omega)
    rw [decide_eq_false (p:=(x.n:Int)≤5) (by omega),Bool.false_and] at k1
    refine ⟨[],false,by simp,by simp,way_no k1,?_⟩
    have k2:=fit_s (K:=K) hx hy
    refine body_by (f:=ir_spec_RotationWay) rfl ?_; simp only [ir_spec_RotationWay,zn,zs,zq,zi,zg,zp]
    simp (disch:=first|omega|simp only[vl];omega) only [vcd]
    refine call_by (k2) rfl ?_
    by_cases hn:x.n=y.n
    ·rw [decide_eq_true hn]
     simp (disch:=first|omega|simp only[vl];omega) only [vcd]
     refine call_by (no_s (K:=K) hx) rfl ?_
     simp (disch:=first|omega|simp only[vl];omega) only [vcd]
     rfl
    ·rw [decide_eq_false hn]
     simp (disch:=first|omega|simp only[vl];omega) only [vcd]
     rfl
theorem dist_any [HA K] [HasV K 201 ir_impl_rotations_w202] [HA K] [HRot K] (a b:List Nat):∃ v:Int,-1≤v∧v≤43∧K 617 [.s a,.s b] [.n v]∧K 612 [.s a,.s b] [.n v]:=by
 obtain ⟨t,r,h1,h2,ki,ks⟩:=way_any (K:=K) a b
 cases r with
 | false=>
  refine ⟨-1,by omega,by omega,?_,?_⟩
  ·refine body_by (f:=ir_impl_RotationDistance) rfl ?_; simp only [ir_impl_RotationDistance,zn,zs,zq,zi,zg,zp]
   simp (disch:=first|omega|simp only[vl];omega) only [vcd]
   refine call_by (ki) rfl ?_
   simp (disch:=first|omega|simp only[vl];omega) only [vcd]
  ·refine body_by (f:=ir_spec_RotationDistance) rfl ?_; simp only [ir_spec_RotationDistance,zn,zs,zq,zi,zg,zp]
   simp (disch:=first|omega|simp only[vl];omega) only [vcd]
   refine call_by (ks) rfl ?_
   simp (disch:=first|omega|simp only[vl];omega) only [vcd]
 | true=>
  refine ⟨(t.length:Int)-1,by omega,by omega,?_,?_⟩
  ·refine body_by (f:=ir_impl_RotationDistance) rfl ?_; simp only [ir_impl_RotationDistance,zn,zs,zq,zi,zg,zp]
   simp (disch:=first|omega|simp only[vl];omega) only [vcd]
   refine call_by (ki) rfl ?_
   simp (disch:=first|omega|simp only[vl];omega) only [vcd]
  ·refine body_by (f:=ir_spec_RotationDistance) rfl ?_; simp only [ir_spec_RotationDistance,zn,zs,zq,zi,zg,zp]
   simp (disch:=first|omega|simp only[vl];omega) only [vcd]
   refine call_by (ks) rfl ?_
   simp (disch:=first|omega|simp only[vl];omega) only [vcd]
end Go.Cat
