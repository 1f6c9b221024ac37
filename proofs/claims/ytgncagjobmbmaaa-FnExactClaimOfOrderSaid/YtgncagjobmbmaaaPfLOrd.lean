/-
 ClaimOfOrder answers as the reference does.
-/
import Derived.Test.YtgncagjobmbmaaaPfOrdC
import Derived.Test.YtgncagjobmbmaaaIrHas
set_option linter.unusedSimpArgs false
set_option linter.unusedVariables false
namespace Go.Cat
variable {K:Nat→List D→List D→Prop}
theorem tl_any [HA K] (a b:List Nat):∃ r,K 350 [.s a,.s b] [.b r]∧K 349 [.s a,.s b] [.b r]∧(r=true→∃ x y:BT,a=x.t∧b=y.t∧x.n≤8∧y.n≤8∧leW x y):=by
 cases ha:isB a with
 | false=>
  refine ⟨false,?_,?_,by simp⟩
  ·refine body_by (f:=ir_impl_IsTamariLess) rfl ?_; simp only [ir_impl_IsTamariLess,zn,zs,zq,zi,zg,zp]
   simp (disch:=first|omega|simp only[vl];omega) only [vcd]
   refine call_by (al_i1 (K:=K) (a:=a) (b:=b) (m:=8) ha) rfl ?_
   simp (disch:=first|omega|simp only[vl];omega) only [vcd]
  ·refine body_by (f:=ir_spec_IsTamariLess) rfl ?_; simp only [ir_spec_IsTamariLess,zn,zs,zq,zi,zg,zp]
   simp (disch:=first|omega|simp only[vl];omega) only [vcd]
   refine call_by (fit_s1 (K:=K) (a:=a) (b:=b) ha) rfl ?_
   simp (disch:=first|omega|simp only[vl];omega) only [vcd]
 | true=>
  obtain ⟨x,rfl,hx⟩:=isB_t ha
  cases hb:isB b with
  | false=>
   refine ⟨false,?_,?_,by simp⟩
   ·refine body_by (f:=ir_impl_IsTamariLess) rfl ?_; simp only [ir_impl_IsTamariLess,zn,zs,zq,zi,zg,zp]
    simp (disch:=first|omega|simp only[vl];omega) only [vcd]
    refine call_by (al_i2 (K:=K) (x:=x) (b:=b) hx hb) rfl ?_
    simp (disch:=first|omega|simp only[vl];omega) only [vcd]
   ·refine body_by (f:=ir_spec_IsTamariLess) rfl ?_; simp only [ir_spec_IsTamariLess,zn,zs,zq,zi,zg,zp]
    simp (disch:=first|omega|simp only[vl];omega) only [vcd]
    refine call_by (fit_s2 (K:=K) (x:=x) (b:=b) hx hb) rfl ?_
    simp (disch:=first|omega|simp only[vl];omega) only [vcd]
  | true=>
   obtain ⟨y,rfl,hy⟩:=isB_t hb
   exact ⟨leB x y,tl_i hx hy,tl_s hx hy,fun h=>⟨x,y,rfl,rfl,hx,hy,leB_iff.1 h⟩⟩
theorem co_any [HA K] [HRot K] (a b:List Nat):∃ (k:Int) (f s:List Nat) (t:List (List Nat)) (r:Bool),t.length≤100∧K 340 [.s a,.s b] [CL k f s t [] [] [],.b r]∧K 339 [.s a,.s b] [CL k f s t [] [] [],.b r]:=by
 obtain ⟨r,h1,h2,h3⟩:=tl_any (K:=K) a b
 cases r with
 | true=>
  obtain ⟨x,y,rfl,rfl,hx,hy,h⟩:=h3 rfl
  have hl:=chF_len (y:=y) (k:=64) (x:=x)
  exact ⟨1,x.t,y.t,x.t::(chF y 64 x).map BT.t,true,by simp; omega,co_i hx hy h,co_s hx hy h⟩
 | false=>
  refine ⟨0,[],[],[],false,by simp,?_,?_⟩
  ·refine body_by (f:=ir_impl_ClaimOfOrder) rfl ?_; simp only [ir_impl_ClaimOfOrder,zn,zs,zq,zi,zg,zp]
   simp (disch:=first|omega|simp only[vl];omega) only [vcd]
   refine call_by (h1) rfl ?_
   simp (disch:=first|omega|simp only[vl];omega) only [vcd]
   rfl
  ·refine body_by (f:=ir_spec_ClaimOfOrder) rfl ?_; simp only [ir_spec_ClaimOfOrder,zn,zs,zq,zi,zg,zp]
   simp (disch:=first|omega|simp only[vl];omega) only [vcd]
   refine call_by (h2) rfl ?_
   simp (disch:=first|omega|simp only[vl];omega) only [vcd]
   rfl
theorem wl_mkO {k:Int} {f s:List Nat} {t:List (List Nat)} {n o:List Int} {r:List (List Int)} {m:Int}:wlD 7 (mkC k f s t n o r m)=some (mkC k f s t n o r m):=rfl
theorem cord_ex [HA K] [HRot K] (a b:List Nat):K 331 [.s a,.s b] [.b true]:=by
 refine body_by (f:=ir_laws_FnExactClaimOfOrder) rfl ?_; simp only [ir_laws_FnExactClaimOfOrder,zn,zs,zq,zi,zg,zp]
 by_cases h:a.length≤1048576
 ·by_cases h2:b.length≤1048576
  ·obtain ⟨k,f,s,t,r,ht,ci,cs⟩:=co_any (K:=K) a b
   have hs:CLs t [] [] []:=⟨by omega,by simp,by simp,by simp,by simp⟩
   simp (disch:=first|omega|simp only[vl];omega) only [vcd,LS_one,LL_one]
   refine call_by (cs) rfl ?_
   simp (disch:=first|omega|simp only[vl];omega) only [vcd,LS_one,LL_one]
   refine call_by (ci) rfl ?_
   simp (disch:=first|omega|simp only[vl];omega) only [vcd,LS_one,LL_one]
   refine call_by (eqClaim_t (K:=K) hs.sm) rfl ?_
   simp (disch:=first|omega|simp only[vl];omega) only [vcd,LS_one,LL_one]
   refine call_by (markClaim_ok (K:=K) (m:=1) hs (by omega)) rfl ?_
   simp (disch:=first|omega|simp only[vl];omega) only [vcd,LS_one,LL_one]
   obtain ⟨q1,q2⟩:=heldClaim_ok (K:=K) (k:=k) (f:=f) (s:=s) (m:=1) hs (by omega)
   simp (disch:=first|omega|simp only[vl];omega) only [vcd,wl_mkO]
   refine call_by (q1) rfl ?_
   simp (disch:=first|omega|simp only[vl];omega) only [vcd,LS_one,LL_one]
   refine call_by (ci) rfl ?_
   simp (disch:=first|omega|simp only[vl];omega) only [vcd,LS_one,LL_one]
   refine call_by (eqClaim_t (K:=K) hs.sm) rfl ?_
   simp (disch:=first|omega|simp only[vl];omega) only [vcd,LS_one,LL_one,wl_mkO]
   refine call_by (q1) rfl ?_
   simp (disch:=first|omega|simp only[vl];omega) only [vcd,LS_one,LL_one]
  ·simp (disch:=first|omega|simp only[vl];omega) only [vcd]
 ·simp (disch:=first|omega|simp only[vl];omega) only [vcd]
end Go.Cat
