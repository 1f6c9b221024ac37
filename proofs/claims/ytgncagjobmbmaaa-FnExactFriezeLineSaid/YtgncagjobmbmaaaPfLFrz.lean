/-
 FriezeLine answers as the reference does.
-/
import Derived.Test.YtgncagjobmbmaaaPfFrzJ
import Derived.Test.YtgncagjobmbmaaaPfNumT
import Derived.Test.YtgncagjobmbmaaaPfPLine
import Derived.Test.YtgncagjobmbmaaaPfH
import Derived.Test.YtgncagjobmbmaaaIrHas
set_option linter.unusedSimpArgs false
set_option linter.unusedVariables false
namespace Go.Cat
variable {K:Nat→List D→List D→Prop}
def fzT (q:List Int):Nat→List Nat
 | 0=>[102,114,105,101,122,101]
 | k+1=>fzT q k++[32]++numT (rwL q (k+1))
open Classical in
noncomputable def fzV (q:List Int):List Nat:=if ffO q=true then fzT q (q.length-1)++[32,115,117,109,32]++fmtI (suF (rowsQ q (q.length+1))) else []
theorem rwL_i64 {q:List Int} {r:Nat} (h:gdZ q (q.length+1)) (hr:r<q.length+1):i64s (rwL q r):=by
 intro x hx
 simp only [rwL,List.mem_map,List.mem_range] at hx
 obtain ⟨i,hi,rfl⟩:=hx
 have:=h r hr i
 omega
theorem fzT_len {q:List Int} (h:gdZ q (q.length+1)) (hq:q.length≤10):∀ k,k<q.length+1→(fzT q k).length≤6+k*215
 | 0,_=>by simp [fzT]
 | k+1,hk=>by
  have:=fzT_len h hq k (by omega)
  have h2:=numT_len (rwL_i64 h hk)
  rw [rwL_len] at h2
  simp only [fzT,qla,qlc,qln]
  omega
theorem suF_bd {R:List (List Int)} (h:smR R):0≤suF R∧suF R≤11000000:=by
 have:=smR_su h R.length
 rwa [List.take_length] at this
open Classical in
theorem isf_st [HA K] {q:List Int} (hz:fzB q=true) (hf:frP q):K 182 [LL (rowsQ q (q.length+1))] [.b true]:=by
 have hif:=isf_s (K:=K) hz (frP_ok hz hf)
 rwa [decide_eq_true hf] at hif
theorem fzl_s [HA K] {q:List Int} (h:q.length≤1048576):K 113 [LI q] [.s (fzV q)]:=by
 refine body_by (f:=ir_spec_FriezeLine) rfl ?_; simp only [ir_spec_FriezeLine,zn,zs,zq,zi,zg,zp]
 simp (disch:=first|omega|simp only[vl];omega) only [vcd]
 refine call_by (ff_s (K:=K) h) rfl ?_
 cases hq:ffO q
 ·simp (disch:=first|omega|simp only[vl];omega) only [vcd]
  simp [fzV,hq]
 obtain ⟨hz,hf⟩:=ffO_iff.1 hq
 obtain ⟨h1,h2,h3⟩:=fzB_iff.1 hz
 have hgd:=okZ_gd hz (frP_ok hz hf)
 have e:ffQ q=rowsQ q (q.length+1):=by unfold ffQ; rw [if_pos ⟨hz,hf⟩]
 have hRl:(rowsQ q (q.length+1)).length=q.length+1:=rowsQ_len
 rw [e]
 simp (disch:=first|omega|simp only[vl];omega) only [vcd]
 refine loop_up (fun k (s:List Nat)=>s=fzT q k) (fun k s=>[.u,.u,LL (rowsQ q (q.length+1)),.u,.s s,.n ((k:Int)+1),.u,.u]) (q.length-1) _ rfl rfl (fun k s hk hP=>?_) (fun s hP=>?_)
 ·have hr:atL (rowsQ q (q.length+1)) ((k:Int)+1)=rwL q (k+1):=rowsQ_at (r:=k+1) (by omega)
  have hb:=rwL_i64 (r:=k+1) hgd (by omega)
  have hl:(rwL q (k+1)).length=q.length:=rwL_len
  have hn:=numT_len hb
  have hs:=fzT_len hgd h3 k (by omega)
  rw [← hP] at hs
  simp (disch:=first|omega|simp only[vl];omega) only [vcd,hr]
  refine call_by (nums_s34 (K:=K) (l:=rwL q (k+1)) (by omega) hb) rfl ?_
  simp (disch:=first|omega|simp only[vl];omega) only [vcd]
  refine ⟨_,?_,rfl⟩
  rw [hP,fzT]
 ·have hs:=fzT_len hgd h3 (q.length-1) (by omega)
  rw [← hP] at hs
  have hsm:=rowsQ_sm hz hf
  have hsb:=suF_bd hsm
  have hif:=isf_st (K:=K) hz hf
  have hfl:=fmt_len (n:=suF (rowsQ q (q.length+1))) (by omega)
  simp (disch:=first|omega|simp only[vl];omega) only [vcd]
  refine call_by (sum_s (K:=K) hsm hif) rfl ?_
  simp (disch:=first|omega|simp only[vl];omega) only [vcd]
  refine call_by (fmt_s (K:=K) (n:=suF (rowsQ q (q.length+1))) (by omega)) rfl ?_
  simp (disch:=first|omega|simp only[vl];omega) only [vcd]
  rw [fzV,if_pos hq,hP]
theorem sub_rows {q:List Int} (h:3≤q.length):(sub (rowsQ q (q.length+1)) 1 (q.length:Int)).length=q.length-1∧∀ k:Nat,k<q.length-1→atL (sub (rowsQ q (q.length+1)) 1 (q.length:Int)) k=rwL q (k+1):=by
 refine ⟨by rw [sub_len,rowsQ_len]; omega,fun k hk=>?_⟩
 have:atL (rowsQ q (q.length+1)) ((k+1:Nat):Int)=rwL q (k+1):=rowsQ_at (by omega)
 rw [← this]
 simp only [atL,sub,qtn,qgd,List.getElem?_drop,List.getElem?_take]
 rw [show Int.toNat 1+k=k+1 by simp; omega,if_pos (by omega)]
theorem glue_2 {s a b:List Nat}:glue s [a,b]=a++s++b:=by simp [glue,glT,atS]
theorem ls_2Q {a b:List Nat}:liD [.s a,.s b]=some (LS [a,b]):=rfl
theorem fzl_i [HA K] [HDel K] {q:List Int} (h:q.length≤1048576):K 114 [LI q] [.s (fzV q)]:=by
 refine body_by (f:=ir_impl_FriezeLine) rfl ?_; simp only [ir_impl_FriezeLine,zn,zs,zq,zi,zg,zp]
 simp (disch:=first|omega|simp only[vl];omega) only [vcd]
 refine call_by (ff_i (K:=K) h) rfl ?_
 cases hq:ffO q
 ·simp (disch:=first|omega|simp only[vl];omega) only [vcd]
  simp [fzV,hq]
 obtain ⟨hz,hf⟩:=ffO_iff.1 hq
 obtain ⟨h1,h2,h3⟩:=fzB_iff.1 hz
 have hgd:=okZ_gd hz (frP_ok hz hf)
 have e:ffQ q=rowsQ q (q.length+1):=by unfold ffQ; rw [if_pos ⟨hz,hf⟩]
 have hRl:(rowsQ q (q.length+1)).length=q.length+1:=rowsQ_len
 obtain ⟨sl,sa⟩:=sub_rows h2
 rw [e]
 have el:((rowsQ q (q.length+1)).length:Int)-1=q.length:=by omega
 simp (disch:=first|omega|simp only[vl];omega) only [vcd,el]
 refine loop_up (fun k (s:List Nat)=>s=fzT q k) (fun k s=>[.u,.u,LL (rowsQ q (q.length+1)),.u,.s s,.u,.u,LL (sub (rowsQ q (q.length+1)) 1 (q.length:Int)),.n (q.length-1:Nat),.n k,.u]) (q.length-1) (fzT q 0) rfl (by rw [show (min ((q.length:Int)).toNat (rowsQ q (q.length+1)).length-Int.toNat 1)=q.length-1 by rw [← sub_len,sl]]; rfl) (fun k s hk hP=>?_) (fun s hP=>?_)
 ·have hr:=sa k hk
  have hb:=rwL_i64 (r:=k+1) hgd (by omega)
  have hl:(rwL q (k+1)).length=q.length:=rwL_len
  have hn:=numT_len hb
  have hs:=fzT_len hgd h3 k (by omega)
  rw [← hP] at hs
  simp (disch:=first|omega|simp only[vl];omega) only [vcd,hr]
  refine call_by (list_i (K:=K) (l:=rwL q (k+1)) (by omega) hb) rfl ?_
  simp (disch:=first|omega|simp only[vl];omega) only [vcd,ls_2Q]
  have hln:=line_ok (K:=K) (ws:=[s,numT (rwL q (k+1))]) (by simp) (by simp; omega)
  refine call_by (hln) rfl ?_
  simp (disch:=first|omega|simp only[vl];omega) only [vcd]
  refine ⟨_,?_,rfl⟩
  rw [glue_2,hP,fzT]
 ·have hs:=fzT_len hgd h3 (q.length-1) (by omega)
  rw [← hP] at hs
  have hsm:=rowsQ_sm hz hf
  have hsb:=suF_bd hsm
  have hif:=isf_i (K:=K) hz hf
  have hfl:=fmt_len (n:=suF (rowsQ q (q.length+1))) (by omega)
  simp (disch:=first|omega|simp only[vl];omega) only [vcd]
  refine call_by (sum_i (K:=K) hsm hif) rfl ?_
  simp (disch:=first|omega|simp only[vl];omega) only [vcd]
  refine call_by (fmt_i (K:=K) (n:=suF (rowsQ q (q.length+1))) (by omega)) rfl ?_
  simp (disch:=first|omega|simp only[vl];omega) only [vcd,ls_3]
  have hln:=line_ok (K:=K) (ws:=[s,[115,117,109],fmtI (suF (rowsQ q (q.length+1)))]) (by simp) (by simp; omega)
  refine call_by (hln) rfl ?_
  simp (disch:=first|omega|simp only[vl];omega) only [vcd]
  rw [fzV,if_pos hq,hP,glue_3]
  simp
theorem fzl_law [HA K] [HDel K] (q:List Int):K 93 [LI q] [.b true]:=by
 refine body_by (f:=ir_laws_FnExactFriezeLine) rfl ?_; simp only [ir_laws_FnExactFriezeLine,zn,zs,zq,zi,zg,zp]
 by_cases h:q.length≤1048576
 ·have eq0:(fzV q == fzV q)=true:=by simp
  simp (disch:=first|omega|simp only[vl];omega) only [vcd]
  refine call_by (toIntS_ok (K:=K) (a:=q) (by omega)) rfl ?_
  simp (disch:=first|omega|simp only[vl];omega) only [vcd]
  refine call_by (fzl_s (K:=K) h) rfl ?_
  simp (disch:=first|omega|simp only[vl];omega) only [vcd]
  refine call_by (toIntS_ok (K:=K) (a:=q) (by omega)) rfl ?_
  simp (disch:=first|omega|simp only[vl];omega) only [vcd]
  refine call_by (fzl_i (K:=K) h) rfl ?_
  simp (disch:=first|omega|simp only[vl];omega) only [vcd,eq0]
  refine call_by (toIntS_ok (K:=K) (a:=q) (by omega)) rfl ?_
  simp (disch:=first|omega|simp only[vl];omega) only [vcd]
  refine call_by (eqIntS_t (K:=K) (a:=q) (by omega)) rfl ?_
  simp (disch:=first|omega|simp only[vl];omega) only [vcd]
 ·simp (disch:=first|omega|simp only[vl];omega) only [vcd]
end Go.Cat
