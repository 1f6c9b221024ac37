/-
 CountLine answers as the reference does.
-/
import Derived.Test.YtfoiofhilbdlaaaPfCntL
import Derived.Test.YtfoiofhilbdlaaaPfPLine
import Derived.Test.YtfoiofhilbdlaaaIrHas
set_option linter.unusedSimpArgs false
set_option linter.unusedVariables false
namespace Go.Cat
set_option maxRecDepth 100000
variable {K:Nat→List D→List D→Prop}
theorem ls_16 {a0 a1 a2 a3 a4 a5 a6 a7 a8 a9 a10 a11 a12 a13 a14 a15:List Nat}:liD [.s a0,.s a1,.s a2,.s a3,.s a4,.s a5,.s a6,.s a7,.s a8,.s a9,.s a10,.s a11,.s a12,.s a13,.s a14,.s a15]=some (LS [a0,a1,a2,a3,a4,a5,a6,a7,a8,a9,a10,a11,a12,a13,a14,a15]):=rfl
theorem cnL_bd:∀ n,n<6→(0≤catL.getD n 0∧catL.getD n 0≤100000)∧(0≤schL.getD n 0∧schL.getD n 0≤100000)∧(0≤fusL.getD n 0∧fusL.getD n 0≤100000)∧(0≤prkL.getD n 0∧prkL.getD n 0≤100000)∧(0≤motL.getD n 0∧motL.getD n 0≤100000):=by decide
theorem cnt_ok [HA K] [HSch K] {n:Nat} (h:n≤5):∃ v,K 456 [.n n] [.s v]∧K 455 [.n n] [.s v]:=by
 obtain ⟨b1,b2,b3,b4,b5⟩:=cnL_bd n (by omega)
 obtain ⟨ci,ci1,ci2,cii,cis⟩:=ci_ok (K:=K) h
 obtain ⟨l,l1,l2,li,ls⟩:=lt_ok (K:=K) h
 have mzi:=mzq_i (K:=K) (n:=n) (by omega)
 have mzs:=mzq_s (K:=K) (n:=n) (by omega)
 have shi:=HSch.sch (K:=K) n h
 have shs:=sch_s (K:=K) (n:=n) (by omega)
 have fui:=fus_i (K:=K) (n:=n) (by omega)
 have fus:=fus_s (K:=K) (n:=n) (by omega)
 have pki:=prk_i (K:=K) (n:=n) (by omega)
 have pks:=prk_s (K:=K) (n:=n) (by omega)
 have cai:=cat_i (K:=K) (n:=n) (by omega)
 have cas:=cat_s (K:=K) (n:=n) (by omega)
 generalize catL.getD n 0=ca at*
 generalize schL.getD n 0=sh at*
 generalize fusL.getD n 0=fu at*
 generalize prkL.getD n 0=pk at*
 generalize motL.getD n 0=mz at*
 have hi:i64s l:=fun y hy=>by have:=l2 y hy; omega
 have hin:inR 0 5 (n:Int)=true:=inR_iff.2 (by omega)
 have f1:=fmt_len (n:=(n:Int)) (by omega)
 have f2:=fmt_len (n:=ca) (by omega)
 have f3:=fmt_len (n:=mz) (by omega)
 have f4:=fmt_len (n:=sh) (by omega)
 have f5:=fmt_len (n:=fu) (by omega)
 have f6:=fmt_len (n:=pk) (by omega)
 have f7:=fmt_len (n:=ci) (by omega)
 have f8:=numT_len hi
 refine ⟨[115,105,122,101,32]++fmtI n++[32,99,97,116,97,108,97,110,32]++fmtI ca++[32,109,111,116,122,107,105,110,32]++fmtI mz++[32,115,99,104,114,111,101,100,101,114,32]++fmtI sh++[32,116,101,114,110,97,114,121,32]++fmtI fu++[32,112,97,114,107,105,110,103,32]++fmtI pk++[32,105,110,116,101,114,118,97,108,115,32]++fmtI ci++[32,108,111,111,112,115,32]++numT l,?_,?_⟩
 ·refine body_by (f:=ir_impl_CountLine) rfl ?_; simp only [ir_impl_CountLine,zn,zs,zq,zi,zg,zp]
  simp (disch:=first|omega|simp only[vl];omega) only [vcd]
  refine call_by (within_ok (K:=K)) rfl ?_
  rw [hin]
  simp (disch:=first|omega|simp only[vl];omega) only [vcd]
  refine call_by (li) rfl ?_
  simp (disch:=first|omega|simp only[vl];omega) only [vcd]
  refine call_by (fmt_i (K:=K) (n:=(n:Int)) (by omega)) rfl ?_
  simp (disch:=first|omega|simp only[vl];omega) only [vcd]
  refine call_by (cai) rfl ?_
  simp (disch:=first|omega|simp only[vl];omega) only [vcd]
  refine call_by (fmt_i (K:=K) (n:=ca) (by omega)) rfl ?_
  simp (disch:=first|omega|simp only[vl];omega) only [vcd]
  refine call_by (mzi) rfl ?_
  simp (disch:=first|omega|simp only[vl];omega) only [vcd]
  refine call_by (fmt_i (K:=K) (n:=mz) (by omega)) rfl ?_
  simp (disch:=first|omega|simp only[vl];omega) only [vcd]
  refine call_by (shi) rfl ?_
  simp (disch:=first|omega|simp only[vl];omega) only [vcd]
  refine call_by (fmt_i (K:=K) (n:=sh) (by omega)) rfl ?_
  simp (disch:=first|omega|simp only[vl];omega) only [vcd]
  refine call_by (fui) rfl ?_
  simp (disch:=first|omega|simp only[vl];omega) only [vcd]
  refine call_by (fmt_i (K:=K) (n:=fu) (by omega)) rfl ?_
  simp (disch:=first|omega|simp only[vl];omega) only [vcd]
  refine call_by (pki) rfl ?_
  simp (disch:=first|omega|simp only[vl];omega) only [vcd]
  refine call_by (fmt_i (K:=K) (n:=pk) (by omega)) rfl ?_
  simp (disch:=first|omega|simp only[vl];omega) only [vcd]
  refine call_by (cii) rfl ?_
  simp (disch:=first|omega|simp only[vl];omega) only [vcd]
  refine call_by (fmt_i (K:=K) (n:=ci) (by omega)) rfl ?_
  simp (disch:=first|omega|simp only[vl];omega) only [vcd]
  refine call_by (list_i (K:=K) (l:=l) (by omega) hi) rfl ?_
  simp (disch:=first|omega|simp only[vl];omega) only [vcd,ls_16]
  have hln:=line_ok (K:=K) (ws:=[[115,105,122,101],fmtI n,[99,97,116,97,108,97,110],fmtI ca,[109,111,116,122,107,105,110],fmtI mz,[115,99,104,114,111,101,100,101,114],fmtI sh,[116,101,114,110,97,114,121],fmtI fu,[112,97,114,107,105,110,103],fmtI pk,[105,110,116,101,114,118,97,108,115],fmtI ci,[108,111,111,112,115],numT l]) (by simp) (by simp; omega)
  refine call_by (hln) rfl ?_
  simp (disch:=first|omega|simp only[vl];omega) only [vcd]
  simp [glue,glT,atS]
 ·refine body_by (f:=ir_spec_CountLine) rfl ?_; simp only [ir_spec_CountLine,zn,zs,zq,zi,zg,zp]
  simp (disch:=first|omega|simp only[vl];omega) only [vcd]
  refine call_by (l1In_ok (K:=K)) rfl ?_
  rw [hin]
  simp (disch:=first|omega|simp only[vl];omega) only [vcd]
  refine call_by (ls) rfl ?_
  simp (disch:=first|omega|simp only[vl];omega) only [vcd]
  refine call_by (fmt_s (K:=K) (n:=(n:Int)) (by omega)) rfl ?_
  simp (disch:=first|omega|simp only[vl];omega) only [vcd]
  refine call_by (cas) rfl ?_
  simp (disch:=first|omega|simp only[vl];omega) only [vcd]
  refine call_by (fmt_s (K:=K) (n:=ca) (by omega)) rfl ?_
  simp (disch:=first|omega|simp only[vl];omega) only [vcd]
  refine call_by (mzs) rfl ?_
  simp (disch:=first|omega|simp only[vl];omega) only [vcd]
  refine call_by (fmt_s (K:=K) (n:=mz) (by omega)) rfl ?_
  simp (disch:=first|omega|simp only[vl];omega) only [vcd]
  refine call_by (shs) rfl ?_
  simp (disch:=first|omega|simp only[vl];omega) only [vcd]
  refine call_by (fmt_s (K:=K) (n:=sh) (by omega)) rfl ?_
  simp (disch:=first|omega|simp only[vl];omega) only [vcd]
  refine call_by (fus) rfl ?_
  simp (disch:=first|omega|simp only[vl];omega) only [vcd]
  refine call_by (fmt_s (K:=K) (n:=fu) (by omega)) rfl ?_
  simp (disch:=first|omega|simp only[vl];omega) only [vcd]
  refine call_by (pks) rfl ?_
  simp (disch:=first|omega|simp only[vl];omega) only [vcd]
  refine call_by (fmt_s (K:=K) (n:=pk) (by omega)) rfl ?_
  simp (disch:=first|omega|simp only[vl];omega) only [vcd]
  refine call_by (cis) rfl ?_
  simp (disch:=first|omega|simp only[vl];omega) only [vcd]
  refine call_by (fmt_s (K:=K) (n:=ci) (by omega)) rfl ?_
  simp (disch:=first|omega|simp only[vl];omega) only [vcd]
  refine call_by (nums_s34 (K:=K) (l:=l) (by omega) hi) rfl ?_
  simp (disch:=first|omega|simp only[vl];omega) only [vcd]
theorem cnt_law [HA K] [HSch K] (a:Int):K 400 [.n a] [.b true]:=by
 obtain ⟨v,k1,k2⟩:∃ v,K 456 [.n a] [.s v]∧K 455 [.n a] [.s v]:=by
  by_cases h:0≤a∧a≤5
  ·obtain ⟨m,rfl⟩:=qoz h.1
   exact cnt_ok (by omega)
  ·have e:inR 0 5 a=false:=inR_f.2 h
   refine ⟨[],?_,?_⟩
   ·refine body_by (f:=ir_impl_CountLine) rfl ?_; simp only [ir_impl_CountLine,zn,zs,zq,zi,zg,zp]
    simp (disch:=first|omega|simp only[vl];omega) only [vcd]
    refine call_by (within_ok (K:=K)) rfl ?_
    rw [e]
    simp (disch:=first|omega|simp only[vl];omega) only [vcd]
   ·refine body_by (f:=ir_spec_CountLine) rfl ?_; simp only [ir_spec_CountLine,zn,zs,zq,zi,zg,zp]
    simp (disch:=first|omega|simp only[vl];omega) only [vcd]
    refine call_by (l1In_ok (K:=K)) rfl ?_
    rw [e]
    simp (disch:=first|omega|simp only[vl];omega) only [vcd]
 have eq0:(v == v)=true:=by simp
 refine body_by (f:=ir_laws_FnExactCountLine) rfl ?_; simp only [ir_laws_FnExactCountLine,zn,zs,zq,zi,zg,zp]
 simp (disch:=first|omega|simp only[vl];omega) only [vcd]
 refine call_by (k2) rfl ?_
 simp (disch:=first|omega|simp only[vl];omega) only [vcd]
 refine call_by (k1) rfl ?_
 simp (disch:=first|omega|simp only[vl];omega) only [vcd,eq0]
end Go.Cat
