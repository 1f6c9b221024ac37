/-
 ClaimOfOrder answers as the reference does.
-/
import Derived.Test.YtihgdjeahjfhfaaGreatPfMark
import Derived.Test.YtihgdjeahjfhfaaGreatIrHas
set_option linter.unusedSimpArgs false
set_option linter.unusedVariables false
namespace Go.Cat
variable {K:Nat→List D→List D→Prop}
theorem tl_any [HA K] (a b:List Nat):∃ r,K 350 [.s a,.s b] [.b r]∧K 349 [.s a,.s b] [.b r]∧(r=true→∃ x y:BT,a=x.t∧b=y.t∧x.n≤8∧y.n≤8∧leW x y):=by
 cases ha:isB a with
 | false=>
  refine ⟨false,?_,?_,by simp⟩
  ·refine body_by (f:=ir_impl_IsTamariLess) rfl ?_; simp only [ir_impl_IsTamariLess,zn,zs,zq,zi,zg,zp]
   simp (disch:=first|omega|simp only[vl];omega) only [vcd]
   refine call_by (al_i1 (K:=K) (a:=a) (b:=b) (m:=8) ha) rfl ?_
   simp (disch:=first|omega|simp only[vl];omega) only [vcd]
  ·refine body_by (f:=ir_spec_IsTamariLess) rfl ?_; simp only [ir_spec_IsTamariLess,zn,zs,zq,zi,zg,zp]
   simp (disch:=first|omega|simp only[vl];omega) only [vcd]
   refine call_by (fit_s1 (K:=K) (a:=a) (b:=b) ha) rfl ?_
   simp (disch:=first|omega|simp only[vl];omega) only [vcd]
 | true=>
  obtain ⟨x,rfl,hx⟩:=isB_t ha
  cases hb:isB b with
  | false=>
   refine ⟨false,?_,?_,by simp⟩
   ·refine body_by (f:=ir_impl_IsTamariLess) rfl ?_; simp only [ir_impl_IsTamariLess,zn,zs,zq,zi,zg,zp]
    simp (disch:=first|omega|simp only[vl];omega) only [vcd]
    refine call_by (al_i2 (K:=K) (x:=x) (b:=b) hx hb) rfl ?_
    simp (disch:=first|omega|simp only[vl];omega) only [vcd]
   ·refine body_by (f:=ir_spec_IsTamariLess) rfl ?_; simp only [ir_spec_IsTamariLess,zn,zs,zq,zi,zg,zp]
    simp (disch:=first|omega|simp only[vl];omega) only [vcd]
    refine call_by (fit_s2 (K:=K) (x:=x) (b:=b) hx hb) rfl ?_
    simp (disch:=first|omega|simp only[vl];omega) only [vcd]
  | true=>
   obtain ⟨y,rfl,hy⟩:=isB_t hb
   exact ⟨leB x y,tl_i hx hy,tl_s hx hy,fun h=>⟨x,y,rfl,rfl,hx,hy,leB_iff.1 h⟩⟩
end Go.Cat
