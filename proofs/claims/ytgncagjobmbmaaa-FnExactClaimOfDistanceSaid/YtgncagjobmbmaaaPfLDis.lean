/-
 ClaimOfDistance answers as the reference does.
-/
import Derived.Test.YtgncagjobmbmaaaPfWayD
import Derived.Test.YtgncagjobmbmaaaPfMark
import Derived.Test.YtgncagjobmbmaaaIrHas
set_option linter.unusedSimpArgs false
set_option linter.unusedVariables false
namespace Go.Cat
variable {K:Nat→List D→List D→Prop}
theorem putB_SD {x:List (List Nat)}:putB 3 (LS x,1)=true:=by simp [putB,LS,D.one,depB,D.flat]
theorem putB_lD:putB 3 (.l [],1)=true:=by simp [putB,D.one,depB,D.flat]
theorem cd_any [HA K] [HasV K 201 ir_impl_rotations_w202] [HA K] [HRot K] (a b:List Nat):∃ (k:Int) (f s:List Nat) (t:List (List Nat)) (r:Bool),t.length≤100∧K 338 [.s a,.s b] [CL k f s t [] [] [],.b r]∧K 337 [.s a,.s b] [CL k f s t [] [] [],.b r]:=by
 obtain ⟨t,r,h1,h2,ki,ks⟩:=way_any (K:=K) a b
 cases r with
 | true=>
  refine ⟨2,a,b,t,true,by omega,?_,?_⟩
  ·refine body_by (f:=ir_impl_ClaimOfDistance) rfl ?_; simp only [ir_impl_ClaimOfDistance,zn,zs,zq,zi,zg,zp]
   simp (disch:=first|omega|simp only[vl];omega) only [vcd]
   refine call_by (ki) rfl ?_
   simp (disch:=first|omega|simp only[vl];omega) only [vcd,putB_SD,putB_lD]
   rfl
  ·refine body_by (f:=ir_spec_ClaimOfDistance) rfl ?_; simp only [ir_spec_ClaimOfDistance,zn,zs,zq,zi,zg,zp]
   simp (disch:=first|omega|simp only[vl];omega) only [vcd]
   refine call_by (ks) rfl ?_
   simp (disch:=first|omega|simp only[vl];omega) only [vcd,putB_SD,putB_lD]
   rfl
 | false=>
  refine ⟨0,[],[],[],false,by simp,?_,?_⟩
  ·refine body_by (f:=ir_impl_ClaimOfDistance) rfl ?_; simp only [ir_impl_ClaimOfDistance,zn,zs,zq,zi,zg,zp]
   simp (disch:=first|omega|simp only[vl];omega) only [vcd]
   refine call_by (ki) rfl ?_
   simp (disch:=first|omega|simp only[vl];omega) only [vcd,putB_SD,putB_lD]
   rfl
  ·refine body_by (f:=ir_spec_ClaimOfDistance) rfl ?_; simp only [ir_spec_ClaimOfDistance,zn,zs,zq,zi,zg,zp]
   simp (disch:=first|omega|simp only[vl];omega) only [vcd]
   refine call_by (ks) rfl ?_
   simp (disch:=first|omega|simp only[vl];omega) only [vcd,putB_SD,putB_lD]
   rfl
theorem wl_mkD {k:Int} {f s:List Nat} {t:List (List Nat)} {n o:List Int} {r:List (List Int)} {m:Int}:wlD 7 (mkC k f s t n o r m)=some (mkC k f s t n o r m):=rfl
theorem cdis_ex [HA K] [HasV K 201 ir_impl_rotations_w202] [HA K] [HRot K] (a b:List Nat):K 330 [.s a,.s b] [.b true]:=by
 refine body_by (f:=ir_laws_FnExactClaimOfDistance) rfl ?_; simp only [ir_laws_FnExactClaimOfDistance,zn,zs,zq,zi,zg,zp]
 by_cases h:a.length≤1048576
 ·by_cases h2:b.length≤1048576
  ·obtain ⟨k,f,s,t,r,ht,ci,cs⟩:=cd_any (K:=K) a b
   have hs:CLs t [] [] []:=⟨by omega,by simp,by simp,by simp,by simp⟩
   simp (disch:=first|omega|simp only[vl];omega) only [vcd,LS_one,LL_one]
   refine call_by (cs) rfl ?_
   simp (disch:=first|omega|simp only[vl];omega) only [vcd,LS_one,LL_one]
   refine call_by (ci) rfl ?_
   simp (disch:=first|omega|simp only[vl];omega) only [vcd,LS_one,LL_one]
   refine call_by (eqClaim_t (K:=K) hs.sm) rfl ?_
   simp (disch:=first|omega|simp only[vl];omega) only [vcd,LS_one,LL_one]
   refine call_by (markClaim_ok (K:=K) (m:=1) hs (by omega)) rfl ?_
   simp (disch:=first|omega|simp only[vl];omega) only [vcd,LS_one,LL_one]
   obtain ⟨q1,q2⟩:=heldClaim_ok (K:=K) (k:=k) (f:=f) (s:=s) (m:=1) hs (by omega)
   simp (disch:=first|omega|simp only[vl];omega) only [vcd,wl_mkD]
   refine call_by (q1) rfl ?_
   simp (disch:=first|omega|simp only[vl];omega) only [vcd,LS_one,LL_one]
   refine call_by (ci) rfl ?_
   simp (disch:=first|omega|simp only[vl];omega) only [vcd,LS_one,LL_one]
   refine call_by (eqClaim_t (K:=K) hs.sm) rfl ?_
   simp (disch:=first|omega|simp only[vl];omega) only [vcd,LS_one,LL_one,wl_mkD]
   refine call_by (q1) rfl ?_
   simp (disch:=first|omega|simp only[vl];omega) only [vcd,LS_one,LL_one]
  ·simp (disch:=first|omega|simp only[vl];omega) only [vcd]
 ·simp (disch:=first|omega|simp only[vl];omega) only [vcd]
end Go.Cat
