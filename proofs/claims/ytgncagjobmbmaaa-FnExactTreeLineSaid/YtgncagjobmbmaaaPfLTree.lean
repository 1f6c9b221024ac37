/-
 TreeLine answers as the reference does.
-/
import Derived.Test.YtgncagjobmbmaaaPfRotC
import Derived.Test.YtgncagjobmbmaaaPfNumT
import Derived.Test.YtgncagjobmbmaaaPfMark
import Derived.Test.YtgncagjobmbmaaaPfPLine
import Derived.Test.YtgncagjobmbmaaaIrHas
set_option linter.unusedSimpArgs false
set_option linter.unusedVariables false
namespace Go.Cat
variable {K:Nat→List D→List D→Prop}
def trT (x:BT):List Nat:=[116,114,101,101,32]++x.t++[32,110,111,100,101,115,32]++fmtI x.n++[32,104,101,105,103,104,116,32]++fmtI (htB x)++[32,119,101,105,103,104,116,115,32]++numT x.w++[32,117,112,32]++fmtI (roL rrB x x.n).length++[32,110,101,105,103,104,98,111,117,114,115,32]++fmtI (nbL x).length++[32,109,105,114,114,111,114,32]++x.mir.t
theorem ls_14 {a0 a1 a2 a3 a4 a5 a6 a7 a8 a9 a10 a11 a12 a13:List Nat}:liD [.s a0,.s a1,.s a2,.s a3,.s a4,.s a5,.s a6,.s a7,.s a8,.s a9,.s a10,.s a11,.s a12,.s a13]=some (LS [a0,a1,a2,a3,a4,a5,a6,a7,a8,a9,a10,a11,a12,a13]):=rfl
theorem htB_bd {x:BT} (h:x.n≤8):-1≤htB x∧htB x≤8:=foldl_bd (fun y hy=>by have:=lvB_mem hy; omega) (by omega)
theorem w_mem:∀ {x:BT} {y:Int},y∈x.w→0≤y∧y≤x.n
 | .lf,y,h=>by simp [BT.w] at h
 | .nd l r,y,h=>by
  simp only [BT.w,qma,List.mem_singleton] at h
  simp only [BT.n]
  rcases h with (h | rfl) | h
  ·have:=w_mem h; omega
  ·omega
  ·have:=w_mem h; omega
theorem trl_i [HA K] [HasV K 201 ir_impl_rotations_w202] [HA K] [HRot K] {x:BT} (h:x.n≤8):K 125 [.s x.t] [.s (trT x)]:=by
 have ht:=BT.tl x
 have hm:=BT.tl x.mir
 have hmn:=mir_n (x:=x)
 have hb:=htB_bd h
 have hw:=w_len (x:=x)
 have hi:i64s x.w:=fun y hy=>by have:=w_mem hy; omega
 have hc:=roL_len (f:=rrB) (x:=x) (k:=x.n)
 have hnb:=nbL_len (x:=x)
 have f1:=fmt_len (n:=(x.n:Int)) (by omega)
 have f2:=fmt_len (n:=htB x) (by omega)
 have f3:=fmt_len (n:=((roL rrB x x.n).length:Int)) (by omega)
 have f4:=fmt_len (n:=((nbL x).length:Int)) (by omega)
 have f5:=numT_len hi
 refine body_by (f:=ir_impl_TreeLine) rfl ?_; simp only [ir_impl_TreeLine,zn,zs,zq,zi,zg,zp]
 simp (disch:=first|omega|simp only[vl];omega) only [vcd]
 refine call_by (isb_i (K:=K) (s:=x.t)) rfl ?_
 simp (disch:=first|omega|simp only[vl];omega) only [vcd,isB_yes h]
 refine call_by (mir_i (K:=K) h) rfl ?_
 simp (disch:=first|omega|simp only[vl];omega) only [vcd]
 refine call_by (no_i (K:=K) h) rfl ?_
 simp (disch:=first|omega|simp only[vl];omega) only [vcd]
 refine call_by (fmt_i (K:=K) (n:=(x.n:Int)) (by omega)) rfl ?_
 simp (disch:=first|omega|simp only[vl];omega) only [vcd]
 refine call_by (ht_i (K:=K) h) rfl ?_
 simp (disch:=first|omega|simp only[vl];omega) only [vcd]
 refine call_by (fmt_i (K:=K) (n:=htB x) (by omega)) rfl ?_
 simp (disch:=first|omega|simp only[vl];omega) only [vcd]
 refine call_by (w_i (K:=K) h) rfl ?_
 simp (disch:=first|omega|simp only[vl];omega) only [vcd]
 refine call_by (list_i (K:=K) (l:=x.w) (by omega) hi) rfl ?_
 simp (disch:=first|omega|simp only[vl];omega) only [vcd]
 refine call_by (cr_i (K:=K) h) rfl ?_
 simp (disch:=first|omega|simp only[vl];omega) only [vcd]
 refine call_by (fmt_i (K:=K) (n:=((roL rrB x x.n).length:Int)) (by omega)) rfl ?_
 simp (disch:=first|omega|simp only[vl];omega) only [vcd]
 refine call_by (nb_i (K:=K) h) rfl ?_
 simp (disch:=first|omega|simp only[vl];omega) only [vcd]
 rw [List.length_map]
 refine call_by (fmt_i (K:=K) (n:=((nbL x).length:Int)) (by omega)) rfl ?_
 simp (disch:=first|omega|simp only[vl];omega) only [vcd,ls_14]
 have hln:=line_ok (K:=K) (ws:=[[116,114,101,101],x.t,[110,111,100,101,115],fmtI x.n,[104,101,105,103,104,116],fmtI (htB x),[119,101,105,103,104,116,115],numT x.w,[117,112],fmtI (roL rrB x x.n).length,[110,101,105,103,104,98,111,117,114,115],fmtI (nbL x).length,[109,105,114,114,111,114],x.mir.t]) (by simp) (by simp; omega)
 refine call_by (hln) rfl ?_
 simp (disch:=first|omega|simp only[vl];omega) only [vcd]
 simp [trT,glue,glT,atS]
theorem trl_s [HA K] {x:BT} (h:x.n≤8):K 124 [.s x.t] [.s (trT x)]:=by
 have ht:=BT.tl x
 have hm:=BT.tl x.mir
 have hmn:=mir_n (x:=x)
 have hb:=htB_bd h
 have hw:=w_len (x:=x)
 have hi:i64s x.w:=fun y hy=>by have:=w_mem hy; omega
 have hc:=roL_len (f:=rrB) (x:=x) (k:=x.n)
 have hnb:=nbL_len (x:=x)
 have f1:=fmt_len (n:=(x.n:Int)) (by omega)
 have f2:=fmt_len (n:=htB x) (by omega)
 have f3:=fmt_len (n:=((roL rrB x x.n).length:Int)) (by omega)
 have f4:=fmt_len (n:=((nbL x).length:Int)) (by omega)
 have f5:=numT_len hi
 refine body_by (f:=ir_spec_TreeLine) rfl ?_; simp only [ir_spec_TreeLine,zn,zs,zq,zi,zg,zp]
 simp (disch:=first|omega|simp only[vl];omega) only [vcd]
 refine call_by (isb_s (K:=K) (s:=x.t)) rfl ?_
 simp (disch:=first|omega|simp only[vl];omega) only [vcd,isB_yes h]
 refine call_by (mir_s (K:=K) h) rfl ?_
 simp (disch:=first|omega|simp only[vl];omega) only [vcd]
 refine call_by (no_s (K:=K) h) rfl ?_
 simp (disch:=first|omega|simp only[vl];omega) only [vcd]
 refine call_by (fmt_s (K:=K) (n:=(x.n:Int)) (by omega)) rfl ?_
 simp (disch:=first|omega|simp only[vl];omega) only [vcd]
 refine call_by (ht_s (K:=K) h) rfl ?_
 simp (disch:=first|omega|simp only[vl];omega) only [vcd]
 refine call_by (fmt_s (K:=K) (n:=htB x) (by omega)) rfl ?_
 simp (disch:=first|omega|simp only[vl];omega) only [vcd]
 refine call_by (w_s (K:=K) h) rfl ?_
 simp (disch:=first|omega|simp only[vl];omega) only [vcd]
 refine call_by (nums_s34 (K:=K) (l:=x.w) (by omega) hi) rfl ?_
 simp (disch:=first|omega|simp only[vl];omega) only [vcd]
 refine call_by (cr_s (K:=K) h) rfl ?_
 simp (disch:=first|omega|simp only[vl];omega) only [vcd]
 refine call_by (fmt_s (K:=K) (n:=((roL rrB x x.n).length:Int)) (by omega)) rfl ?_
 simp (disch:=first|omega|simp only[vl];omega) only [vcd]
 refine call_by (nb_s (K:=K) h) rfl ?_
 simp (disch:=first|omega|simp only[vl];omega) only [vcd]
 rw [List.length_map]
 refine call_by (fmt_s (K:=K) (n:=((nbL x).length:Int)) (by omega)) rfl ?_
 simp (disch:=first|omega|simp only[vl];omega) only [vcd]
 simp [trT]
theorem trl_no [HA K] {s:List Nat} (h:isB s=false):K 125 [.s s] [.s []]∧K 124 [.s s] [.s []]:=by
 constructor
 ·refine body_by (f:=ir_impl_TreeLine) rfl ?_; simp only [ir_impl_TreeLine,zn,zs,zq,zi,zg,zp]
  simp (disch:=first|omega|simp only[vl];omega) only [vcd]
  refine call_by (isb_i (K:=K) (s:=s)) rfl ?_
  simp (disch:=first|omega|simp only[vl];omega) only [vcd,h]
 ·refine body_by (f:=ir_spec_TreeLine) rfl ?_; simp only [ir_spec_TreeLine,zn,zs,zq,zi,zg,zp]
  simp (disch:=first|omega|simp only[vl];omega) only [vcd]
  refine call_by (isb_s (K:=K) (s:=s)) rfl ?_
  simp (disch:=first|omega|simp only[vl];omega) only [vcd,h]
theorem trl_law [HA K] [HasV K 201 ir_impl_rotations_w202] [HA K] [HRot K] (s:List Nat):K 96 [.s s] [.b true]:=by
 obtain ⟨v,k1,k2⟩:∃ v,K 125 [.s s] [.s v]∧K 124 [.s s] [.s v]:=by
  cases hb:isB s with
  | false=>exact ⟨_,trl_no (K:=K) hb⟩
  | true=>
   obtain ⟨x,rfl,hx⟩:=isB_t hb
   exact ⟨_,trl_i hx,trl_s hx⟩
 have eq0:(v == v)=true:=by simp
 refine body_by (f:=ir_laws_FnExactTreeLine) rfl ?_; simp only [ir_laws_FnExactTreeLine,zn,zs,zq,zi,zg,zp]
 by_cases h:s.length≤1048576
 ·simp (disch:=first|omega|simp only[vl];omega) only [vcd]
  refine call_by (k2) rfl ?_
  simp (disch:=first|omega|simp only[vl];omega) only [vcd]
  refine call_by (k1) rfl ?_
  simp (disch:=first|omega|simp only[vl];omega) only [vcd,eq0]
 ·simp (disch:=first|omega|simp only[vl];omega) only [vcd]
end Go.Cat
