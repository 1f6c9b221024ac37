/-
 ClaimOfFrieze answers as the reference does.
-/
import Derived.Test.YtgncagjobmbmaaaPfLCMe
import Derived.Test.YtgncagjobmbmaaaPfFrzU
import Derived.Test.YtgncagjobmbmaaaPfHsrt
import Derived.Test.YtgncagjobmbmaaaIrHas
set_option linter.unusedSimpArgs false
set_option linter.unusedVariables false
namespace Go.Cat
variable {K:Nat→List D→List D→Prop}
theorem triq_o [HA K] [HDel K] [HSrt K] {q:List Int} (h:q.length≤1048576):K 346 [LI q] [LL (tqF q),.b (ctB (ctR q))]:=by
 obtain ⟨r1,r2⟩:=ctR_len (q:=q)
 refine body_by (f:=ir_impl_TriangulationOfQuiddity) rfl ?_; simp only [ir_impl_TriangulationOfQuiddity,zn,zs,zq,zi,zg,zp]
 simp (disch:=first|omega|simp only[vl];omega) only [vcd]
 refine call_by (cuts_i (K:=K) h) rfl ?_
 cases hb:ctB (ctR q)
 ·simp (disch:=first|omega|simp only[vl];omega) only [vcd]
  simp [tqF,hb,LL]
 ·simp (disch:=first|omega|simp only[vl];omega) only [vcd]
  have k:=HSrt.srt (K:=K) (ctL (ctR q)) r2 (by omega)
  refine call_by (k) rfl ?_
  simp (disch:=first|omega|simp only[vl];omega) only [vcd]
  simp [tqF,hb]
theorem tqF_row {q:List Int}:(tqF q).length≤7∧∀ y∈tqF q,row2 y:=by
 obtain ⟨h1,h2⟩:=ctR_len (q:=q)
 unfold tqF
 split
 ·exact ⟨by rw [srfF,List.length_reverse,srtV_len]; exact h1,srfF_row h2⟩
 ·simp
theorem tqF_no {q:List Int} (h:ctB (ctR q)=false):tqF q=[]:=by rw [tqF,if_neg (by simp [h])]
theorem ctB_len {q:List Int} (h:ctB (ctR q)=true):q.length≤10:=by
 cases hz:fzB q with
 | true=>exact (fzB_iff.1 hz).2.2
 | false=>rw [ctR_f hz] at h; cases h
theorem putB_LL {x:List (List Int)}:putB 3 (LL x,2)=true:=by
 simp [putB,LL,LI,D.one,depB,D.flat]
abbrev cfC (q:List Int):D:=CL (if ctB (ctR q) then 5 else 0) [] [] [] (if ctB (ctR q) then q else []) [] (tqF q)
theorem cof_i [HA K] [HDel K] [HSrt K] {q:List Int} (h:q.length≤1048576):K 336 [LI q] [cfC q,.b (ctB (ctR q))]:=by
 refine body_by (f:=ir_impl_ClaimOfFrieze) rfl ?_; simp only [ir_impl_ClaimOfFrieze,zn,zs,zq,zi,zg,zp]
 simp (disch:=first|omega|simp only[vl];omega) only [vcd]
 refine call_by (triq_o (K:=K) h) rfl ?_
 cases hb:ctB (ctR q)
 ·rw [cfC,tqF_no hb,hb]
  simp (disch:=first|omega|simp only[vl];omega) only [vcd,putB_I2,putB_l2]
  rfl
 ·simp (disch:=first|omega|simp only[vl];omega) only [vcd]
  refine call_by (copyInts_ok (K:=K) (p:=q) (by omega)) rfl ?_
  simp (disch:=first|omega|simp only[vl];omega) only [vcd,putB_I2,putB_l2,putB_LL]
  rw [cfC,hb]
  rfl
theorem LI_appC3 {p:List Int} (h:p.length≤1048576):appD true (.l []) (LI p)=some (LI p):=LI_app (zs:=[]) (by simp; omega)
theorem putB_ll3:putB 0 (.l [],1)=true:=by simp [putB,D.one]
theorem cof_s [HA K] {q:List Int} (h:q.length≤1048576):K 335 [LI q] [cfC q,.b (ctB (ctR q))]:=by
 refine body_by (f:=ir_spec_ClaimOfFrieze) rfl ?_; simp only [ir_spec_ClaimOfFrieze,zn,zs,zq,zi,zg,zp]
 simp (disch:=first|omega|simp only[vl];omega) only [vcd]
 refine call_by (triq_s (K:=K) h) rfl ?_
 cases hb:ctB (ctR q)
 ·rw [cfC,tqF_no hb,hb]
  simp (disch:=first|omega|simp only[vl];omega) only [vcd,putB_I2,putB_l2,putB_ll3]
  rfl
 ·simp (disch:=first|omega|simp only[vl];omega) only [vcd,LI_appC3,putB_ll3,putB_I2]
  rw [cfC,hb]
  rfl
theorem cof_cl {q:List Int} (h:q.length≤1048576):CLs [] (if ctB (ctR q) then q else []) [] (tqF q):=by
 obtain ⟨h1,h2⟩:=tqF_row (q:=q)
 refine ⟨by simp,?_,by simp,by omega,fun x hx=>by have:=h2 x hx; unfold row2 at this; omega⟩
 cases hb:ctB (ctR q)
 ·simp
 ·have:=ctB_len hb
  simp; omega
theorem wl_mkF {k:Int} {f s:List Nat} {t:List (List Nat)} {n o:List Int} {r:List (List Int)} {m:Int}:wlD 7 (mkC k f s t n o r m)=some (mkC k f s t n o r m):=rfl
theorem cfrz_ex [HA K] [HDel K] [HSrt K] (p:List Int):K 329 [LI p] [.b true]:=by
 refine body_by (f:=ir_laws_FnExactClaimOfFrieze) rfl ?_; simp only [ir_laws_FnExactClaimOfFrieze,zn,zs,zq,zi,zg,zp]
 by_cases h:p.length≤1048576
 ·have ci:=cof_i (K:=K) h
  have cs:=cof_s (K:=K) h
  have hs:=cof_cl h
  simp (disch:=first|omega|simp only[vl];omega) only [vcd,LS_one,LL_one]
  refine call_by (toIntS_ok (K:=K) (a:=p) (by omega)) rfl ?_
  simp (disch:=first|omega|simp only[vl];omega) only [vcd,LS_one,LL_one]
  refine call_by (cs) rfl ?_
  simp (disch:=first|omega|simp only[vl];omega) only [vcd,LS_one,LL_one]
  refine call_by (toIntS_ok (K:=K) (a:=p) (by omega)) rfl ?_
  simp (disch:=first|omega|simp only[vl];omega) only [vcd,LS_one,LL_one]
  refine call_by (ci) rfl ?_
  simp (disch:=first|omega|simp only[vl];omega) only [vcd,LS_one,LL_one]
  refine call_by (eqClaim_t (K:=K) hs.sm) rfl ?_
  simp (disch:=first|omega|simp only[vl];omega) only [vcd,LS_one,LL_one]
  refine call_by (toIntS_ok (K:=K) (a:=p) (by omega)) rfl ?_
  simp (disch:=first|omega|simp only[vl];omega) only [vcd,LS_one,LL_one]
  refine call_by (eqIntS_t (K:=K) (a:=p) (by omega)) rfl ?_
  simp (disch:=first|omega|simp only[vl];omega) only [vcd,LS_one,LL_one]
  refine call_by (markIntS_ok (K:=K) (a:=p) (k:=1) (by omega) (by omega)) rfl ?_
  simp (disch:=first|omega|simp only[vl];omega) only [vcd,LS_one,LL_one]
  refine call_by (eqClaim_t (K:=K) hs.sm) rfl ?_
  simp (disch:=first|omega|simp only[vl];omega) only [vcd,LS_one,LL_one]
  refine call_by (markClaim_ok (K:=K) (m:=1) hs (by omega)) rfl ?_
  simp (disch:=first|omega|simp only[vl];omega) only [vcd,LS_one,LL_one]
  obtain ⟨q1,q2⟩:=heldClaim_ok (K:=K) (k:=if ctB (ctR p) then 5 else 0) (f:=[]) (s:=[]) (m:=1) hs (by omega)
  simp (disch:=first|omega|simp only[vl];omega) only [vcd,wl_mkF]
  refine call_by (q1) rfl ?_
  simp (disch:=first|omega|simp only[vl];omega) only [vcd,LS_one,LL_one]
  refine call_by (toIntS_ok (K:=K) (a:=p) (by omega)) rfl ?_
  simp (disch:=first|omega|simp only[vl];omega) only [vcd,LS_one,LL_one]
  refine call_by (ci) rfl ?_
  simp (disch:=first|omega|simp only[vl];omega) only [vcd,LS_one,LL_one]
  refine call_by (eqClaim_t (K:=K) hs.sm) rfl ?_
  simp (disch:=first|omega|simp only[vl];omega) only [vcd,LS_one,LL_one,wl_mkF]
  refine call_by (q1) rfl ?_
  simp (disch:=first|omega|simp only[vl];omega) only [vcd,LS_one,LL_one]
 ·simp (disch:=first|omega|simp only[vl];omega) only [vcd]
end Go.Cat
