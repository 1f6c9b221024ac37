/-
 Objects of paths as texts: WriteAs of both sides.
-/
import Derived.Test.YtdifmcppfcbgdaaGreatPfWr1
import Derived.Test.YtdifmcppfcbgdaaGreatPfTri2
import Derived.Test.YtdifmcppfcbgdaaGreatIrHas
set_option linter.unusedSimpArgs false
set_option linter.unusedVariables false
namespace Go.Cat
variable {K:Nat→List D→List D→Prop}
def kdN:List (List Nat):=[[112,97,116,104],[98,114,97,99,107,101,116,115],[112,108,97,110,101],[98,105,110,97,114,121],[100,105,97,103,111,110,97,108,115],[112,97,114,116,105,116,105,111,110],[109,97,116,99,104,105,110,103],[112,101,114,109,117,116,97,116,105,111,110],[114,97,110,107]]
theorem kdn_s [HA K]:K 13 [] [LS kdN]:=by
 refine body_by (f:=ir_spec_KindNames) rfl ?_; simp only [ir_spec_KindNames,zn,zs,zq,zi,zg,zp]
 simp (disch:=omega) only [vcd,ls_9]
 rfl
theorem bino_i [HA K] {w:List Nat} (hd:dyck w=true):K 535 [.s w] [.s (btF w).t,.b true]:=by
 obtain ⟨x,rfl,hx⟩:=ex_p hd
 have hl:=BT.pl x
 rw [btF_p]
 refine body_by (f:=ir_impl_BinaryOf) rfl ?_; simp only [ir_impl_BinaryOf,zn,zs,zq,zi,zg,zp]
 simp (disch:=omega) only [vcd]
 repeat (first | (refine call_by (dyck_i (K:=K) (w:=x.p) (by omega)) rfl ?_; try simp (disch:=omega) only [vcd,hd]) | (refine call_by (top_i (K:=K) (x:=x) hx) rfl ?_; try simp (disch:=omega) only [vcd,hd]) | (refine call_by (text_ok (K:=K) (x:=x) (by omega)) rfl ?_; try simp (disch:=omega) only [vcd,hd]))
theorem bino_s [HA K] {w:List Nat} (hd:dyck w=true):K 530 [.s w] [.s (btF w).t,.b true]:=by
 obtain ⟨x,rfl,hx⟩:=ex_p hd
 have hl:=BT.pl x
 rw [btF_p]
 refine body_by (f:=ir_spec_BinaryOf) rfl ?_; simp only [ir_spec_BinaryOf,zn,zs,zq,zi,zg,zp]
 simp (disch:=omega) only [vcd]
 repeat (first | (refine call_by (dyck_s (K:=K) (w:=x.p) (by omega)) rfl ?_; try simp (disch:=omega) only [vcd,hd]) | (refine call_by (l6b_ok (K:=K) (x:=x) hx) rfl ?_; try simp (disch:=omega) only [vcd,hd]))
noncomputable def txW (w:List Nat):Nat→List Nat
 | 0=>w
 | 1=>brF w
 | 2=>fplF (plF w)
 | 3=>(btF w).t
 | 4=>fmtI ((w.length:Int) / 2+2)++[58,32]++dgF (tgF (btF w))
 | 5=>fptF (ptn w)
 | 6=>fmaF (mate w)
 | 7=>rwT (perF w) (perF w).length
 | 8=>fmtI ((w.length:Int) / 2)++[58]++fmtI (rkR w)
 | _=>[]
theorem dgF_len2 {x:BT} (h:x.n≤8):(tgF x).length≤7:=by
 have:=dgI_len2 (x:=x) (l:=0) (r:=(x.n:Int)+1)
 rw [tgF_len]; omega
theorem dgF_bd {d:List (List Int)}:(dgF d).length≤1000:=by
 unfold dgF
 split
 ·simp
 ·split
  ·simp
  ·split
   ·rename_i _ h20 ha
    have hb:∀ x∈dgW d,x.length≤40:=by
     intro x hx
     obtain ⟨r,hr1,rfl⟩:=List.mem_map.1 hx
     obtain ⟨h2,q1,q2⟩:=dgB_len (qat.1 ha r hr1)
     have b1:=inR_iff.1 q1
     have b2:=inR_iff.1 q2
     have l1:=fmt_len (n:=atI r 0) (by omega)
     have l2:=fmt_len (n:=atI r 1) (by omega)
     simp only [qla]; omega
    have h1:=glT_len (sep:=[32]) hb (dgW d).length
    have:=dgW_len (d:=d)
    simp only [glue,qlc,qln] at*
    omega
   ·simp
theorem mate_ok [HA K] {w:List Nat} (hd:dyck w=true):PP w (mate w)∧K 373 [.s w] [LI (mate w)]:=by
 obtain ⟨_,⟨m,rfl,hm⟩,k1⟩:=part_i (K:=K) hd
 rw [mate_eq hm]
 exact ⟨hm,k1⟩
theorem mat_ok [HA K] {w:List Nat} (hd:dyck w=true):K 373 [.s w] [LI (mate w)]∧K 356 [.s w] [LI (mate w),.b true]:=by
 obtain ⟨hm,k1⟩:=mate_ok (K:=K) hd
 exact ⟨k1,mto_s hd hm⟩
theorem mate_len {w:List Nat} (hd:dyck w=true):(mate w).length≤16:=by
 have hl:=(DY_of hd).l
 unfold mate
 split
 ·rename_i h
  have:=h.choose_spec.1
  omega
 ·simp
theorem wa0_i [HA K] {w:List Nat} (hd:dyck w=true):K 524 [.s [112,97,116,104],.s w] [.s (txW w 0),.b true]:=by
 have hl:=(DY_of hd).l
 refine body_by (f:=ir_impl_WriteAs) rfl ?_; simp only [ir_impl_WriteAs,zn,zs,zq,zi,zg,zp]
 simp (disch:=omega) only [vcd]
 repeat (first | (refine call_by (dyck_i (K:=K) (w:=w) (by omega)) rfl ?_; try simp (disch:=omega) only [vcd,hd,bq_f,bq_t,bq_n]))
 all_goals rfl
theorem wa1_i [HA K] {w:List Nat} (hd:dyck w=true):K 524 [.s [98,114,97,99,107,101,116,115],.s w] [.s (txW w 1),.b true]:=by
 have hl:=(DY_of hd).l
 refine body_by (f:=ir_impl_WriteAs) rfl ?_; simp only [ir_impl_WriteAs,zn,zs,zq,zi,zg,zp]
 simp (disch:=omega) only [vcd]
 repeat (first | (refine call_by (dyck_i (K:=K) (w:=w) (by omega)) rfl ?_; try simp (disch:=omega) only [vcd,hd,bq_f,bq_t,bq_n]) | (refine call_by (br_i (K:=K) hd) rfl ?_; try simp (disch:=omega) only [vcd,hd,bq_f,bq_t,bq_n]))
 all_goals rfl
theorem wa2_i [HA K] {w:List Nat} (hd:dyck w=true):K 524 [.s [112,108,97,110,101],.s w] [.s (txW w 2),.b true]:=by
 have hl:=(DY_of hd).l
 have hpl:=plF_len hd
 refine body_by (f:=ir_impl_WriteAs) rfl ?_; simp only [ir_impl_WriteAs,zn,zs,zq,zi,zg,zp]
 simp (disch:=omega) only [vcd]
 repeat (first | (refine call_by (dyck_i (K:=K) (w:=w) (by omega)) rfl ?_; try simp (disch:=omega) only [vcd,hd,bq_f,bq_t,bq_n]) | (refine call_by (plo_i (K:=K) hd) rfl ?_; try simp (disch:=omega) only [vcd,hd,bq_f,bq_t,bq_n]) | (refine call_by (fpl_i (K:=K) (p:=plF w) (by omega)) rfl ?_; try simp (disch:=omega) only [vcd,hd,bq_f,bq_t,bq_n]))
 all_goals rfl
theorem wa3_i [HA K] {w:List Nat} (hd:dyck w=true):K 524 [.s [98,105,110,97,114,121],.s w] [.s (txW w 3),.b true]:=by
 have hl:=(DY_of hd).l
 refine body_by (f:=ir_impl_WriteAs) rfl ?_; simp only [ir_impl_WriteAs,zn,zs,zq,zi,zg,zp]
 simp (disch:=omega) only [vcd]
 repeat (first | (refine call_by (dyck_i (K:=K) (w:=w) (by omega)) rfl ?_; try simp (disch:=omega) only [vcd,hd,bq_f,bq_t,bq_n]) | (refine call_by (bino_i (K:=K) hd) rfl ?_; try simp (disch:=omega) only [vcd,hd,bq_f,bq_t,bq_n]))
 all_goals rfl
theorem wa4_i [HA K] {w:List Nat} (hd:dyck w=true):K 524 [.s [100,105,97,103,111,110,97,108,115],.s w] [.s (txW w 4),.b true]:=by
 have hl:=(DY_of hd).l
 obtain ⟨x,rfl,hx⟩:=ex_p hd
 have hpl:=BT.pl x
 have hdl:=dgF_len2 hx
 have hdb:=dgF_bd (d:=tgF x)
 have hf:=fmt_len (n:=(x.p.length:Int) / 2+2) (by omega)
 have kd:=dg_i (K:=K) (d:=tgF x) (by omega) (fun r hr=>by have:=dgI_row r (srtF_mem.1 hr); simp only [row2] at this; omega)
 refine body_by (f:=ir_impl_WriteAs) rfl ?_; simp only [ir_impl_WriteAs,zn,zs,zq,zi,zg,zp]
 simp (disch:=first|omega|simp only[vl];omega) only [vcd]
 repeat (first | (refine call_by (dyck_i (K:=K) (w:=x.p) (by omega)) rfl ?_; try simp (disch:=first|omega|simp only[vl];omega) only [vcd,hd,bq_f,bq_t,bq_n]) | (refine call_by (top_i (K:=K) (x:=x) hx) rfl ?_; try simp (disch:=first|omega|simp only[vl];omega) only [vcd,hd,bq_f,bq_t,bq_n]) | (refine call_by (text_ok (K:=K) (x:=x) (by omega)) rfl ?_; try simp (disch:=first|omega|simp only[vl];omega) only [vcd,hd,bq_f,bq_t,bq_n]) | (refine call_by (trg_i (K:=K) (x:=x) hx) rfl ?_; try simp (disch:=first|omega|simp only[vl];omega) only [vcd,hd,bq_f,bq_t,bq_n]) | (refine call_by (fmt_i (K:=K) (n:=(x.p.length:Int) / 2+2) (by omega)) rfl ?_; try simp (disch:=first|omega|simp only[vl];omega) only [vcd,hd,bq_f,bq_t,bq_n]) | (refine call_by (kd) rfl ?_; try simp (disch:=first|omega|simp only[vl];omega) only [vcd,hd,bq_f,bq_t,bq_n]))
 simp only [txW,btF_p]
theorem wa5_i [HA K] {w:List Nat} (hd:dyck w=true):K 524 [.s [112,97,114,116,105,116,105,111,110],.s w] [.s (txW w 5),.b true]:=by
 have hl:=(DY_of hd).l
 have hpl:=ptn_len hd
 refine body_by (f:=ir_impl_WriteAs) rfl ?_; simp only [ir_impl_WriteAs,zn,zs,zq,zi,zg,zp]
 simp (disch:=omega) only [vcd]
 repeat (first | (refine call_by (dyck_i (K:=K) (w:=w) (by omega)) rfl ?_; try simp (disch:=omega) only [vcd,hd,bq_f,bq_t,bq_n]) | (refine call_by ((ptn_ok (K:=K) hd).1) rfl ?_; try simp (disch:=omega) only [vcd,hd,bq_f,bq_t,bq_n]) | (refine call_by (fpt_i (K:=K) (p:=ptn w) (by omega)) rfl ?_; try simp (disch:=omega) only [vcd,hd,bq_f,bq_t,bq_n]))
 all_goals rfl
theorem wa6_i [HA K] {w:List Nat} (hd:dyck w=true):K 524 [.s [109,97,116,99,104,105,110,103],.s w] [.s (txW w 6),.b true]:=by
 have hl:=(DY_of hd).l
 have hpl:=mate_len hd
 refine body_by (f:=ir_impl_WriteAs) rfl ?_; simp only [ir_impl_WriteAs,zn,zs,zq,zi,zg,zp]
 simp (disch:=omega) only [vcd]
 repeat (first | (refine call_by (dyck_i (K:=K) (w:=w) (by omega)) rfl ?_; try simp (disch:=omega) only [vcd,hd,bq_f,bq_t,bq_n]) | (refine call_by ((mat_ok (K:=K) hd).1) rfl ?_; try simp (disch:=omega) only [vcd,hd,bq_f,bq_t,bq_n]) | (refine call_by (fma_i (K:=K) (m:=mate w) (by omega)) rfl ?_; try simp (disch:=omega) only [vcd,hd,bq_f,bq_t,bq_n]))
 all_goals rfl
theorem wa7_i [HA K] {w:List Nat} (hd:dyck w=true):K 524 [.s [112,101,114,109,117,116,97,116,105,111,110],.s w] [.s (txW w 7),.b true]:=by
 have hl:=(DY_of hd).l
 have hpl:=perF_len (w:=w)
 have hb:=perF_bd hl
 refine body_by (f:=ir_impl_WriteAs) rfl ?_; simp only [ir_impl_WriteAs,zn,zs,zq,zi,zg,zp]
 simp (disch:=omega) only [vcd]
 repeat (first | (refine call_by (dyck_i (K:=K) (w:=w) (by omega)) rfl ?_; try simp (disch:=omega) only [vcd,hd,bq_f,bq_t,bq_n]) | (refine call_by (pof_i (K:=K) hd) rfl ?_; try simp (disch:=omega) only [vcd,hd,bq_f,bq_t,bq_n]))
 refine loop_ix (fun _=>True) (fun i=>[.u,.u,.u,.u,.u,.u,.u,.u,.s (rwT (perF w) i),.u,.u,.u,.u,.u,.u,.u,.u,.u,.u,.u,LI (perF w),.n (perF w).length,.n i,.u,.u]) (perF w).length trivial rfl (fun i hi _=>?_) (fun _=>?_)
 ·have h2:=hb i
  have h3:=rwT_len (r:=perF w) (fun j _=>by have:=hb j; omega) i (by omega)
  have h4:=fmt_len (n:=atI (perF w) i+1) (by omega)
  simp (disch:=omega) only [vcd]
  refine call_by (fmt_i (K:=K) (n:=atI (perF w) i+1) (by omega)) rfl ?_
  simp (disch:=omega) only [vcd]
  rfl
 ·simp (disch:=omega) only [vcd]
  rfl
theorem wa8_i [HA K] {w:List Nat} (hd:dyck w=true):K 524 [.s [114,97,110,107],.s w] [.s (txW w 8),.b true]:=by
 have hl:=(DY_of hd).l
 have h1:=rk_bd hd
 have h3:=fmt_len (n:=rkR w) (by omega)
 have h4:=fmt_len (n:=(w.length:Int) / 2) (by omega)
 refine body_by (f:=ir_impl_WriteAs) rfl ?_; simp only [ir_impl_WriteAs,zn,zs,zq,zi,zg,zp]
 simp (disch:=first|omega|simp only[vl];omega) only [vcd]
 repeat (first | (refine call_by (dyck_i (K:=K) (w:=w) (by omega)) rfl ?_; try simp (disch:=first|omega|simp only[vl];omega) only [vcd,hd,bq_f,bq_t,bq_n]) | (refine call_by (fmt_i (K:=K) (n:=(w.length:Int) / 2) (by omega)) rfl ?_; try simp (disch:=first|omega|simp only[vl];omega) only [vcd,hd,bq_f,bq_t,bq_n]) | (refine call_by (rk_i (K:=K) (w:=w) (by omega)) rfl ?_; try simp (disch:=first|omega|simp only[vl];omega) only [vcd,hd,bq_f,bq_t,bq_n]) | (refine call_by (fmt_i (K:=K) (n:=rkR w) (by omega)) rfl ?_; try simp (disch:=first|omega|simp only[vl];omega) only [vcd,hd,bq_f,bq_t,bq_n]))
 all_goals rfl
theorem wa0_s [HA K] {w:List Nat} (hd:dyck w=true):K 523 [.s [112,97,116,104],.s w] [.s (txW w 0),.b true]:=by
 have hl:=(DY_of hd).l
 refine body_by (f:=ir_spec_WriteAs) rfl ?_; simp only [ir_spec_WriteAs,zn,zs,zq,zi,zg,zp]
 simp (disch:=omega) only [vcd]
 repeat (first | (refine call_by (dyck_s (K:=K) (w:=w) (by omega)) rfl ?_; try simp (disch:=omega) only [vcd,hd,bq_f,bq_t,bq_n]))
 all_goals rfl
theorem wa1_s [HA K] {w:List Nat} (hd:dyck w=true):K 523 [.s [98,114,97,99,107,101,116,115],.s w] [.s (txW w 1),.b true]:=by
 have hl:=(DY_of hd).l
 refine body_by (f:=ir_spec_WriteAs) rfl ?_; simp only [ir_spec_WriteAs,zn,zs,zq,zi,zg,zp]
 simp (disch:=omega) only [vcd]
 repeat (first | (refine call_by (dyck_s (K:=K) (w:=w) (by omega)) rfl ?_; try simp (disch:=omega) only [vcd,hd,bq_f,bq_t,bq_n]) | (refine call_by (br_s (K:=K) hd) rfl ?_; try simp (disch:=omega) only [vcd,hd,bq_f,bq_t,bq_n]))
 all_goals rfl
theorem wa2_s [HA K] {w:List Nat} (hd:dyck w=true):K 523 [.s [112,108,97,110,101],.s w] [.s (txW w 2),.b true]:=by
 have hl:=(DY_of hd).l
 have hpl:=plF_len hd
 refine body_by (f:=ir_spec_WriteAs) rfl ?_; simp only [ir_spec_WriteAs,zn,zs,zq,zi,zg,zp]
 simp (disch:=omega) only [vcd]
 repeat (first | (refine call_by (dyck_s (K:=K) (w:=w) (by omega)) rfl ?_; try simp (disch:=omega) only [vcd,hd,bq_f,bq_t,bq_n]) | (refine call_by (plo_s (K:=K) hd) rfl ?_; try simp (disch:=omega) only [vcd,hd,bq_f,bq_t,bq_n]) | (refine call_by (fpl_s (K:=K) (p:=plF w) (by omega)) rfl ?_; try simp (disch:=omega) only [vcd,hd,bq_f,bq_t,bq_n]))
 all_goals rfl
theorem wa3_s [HA K] {w:List Nat} (hd:dyck w=true):K 523 [.s [98,105,110,97,114,121],.s w] [.s (txW w 3),.b true]:=by
 have hl:=(DY_of hd).l
 refine body_by (f:=ir_spec_WriteAs) rfl ?_; simp only [ir_spec_WriteAs,zn,zs,zq,zi,zg,zp]
 simp (disch:=omega) only [vcd]
 repeat (first | (refine call_by (dyck_s (K:=K) (w:=w) (by omega)) rfl ?_; try simp (disch:=omega) only [vcd,hd,bq_f,bq_t,bq_n]) | (refine call_by (bino_s (K:=K) hd) rfl ?_; try simp (disch:=omega) only [vcd,hd,bq_f,bq_t,bq_n]))
 all_goals rfl
theorem wa4_s [HA K] {w:List Nat} (hd:dyck w=true):K 523 [.s [100,105,97,103,111,110,97,108,115],.s w] [.s (txW w 4),.b true]:=by
 have hl:=(DY_of hd).l
 obtain ⟨x,rfl,hx⟩:=ex_p hd
 have hpl:=BT.pl x
 have hdl:=dgF_len2 hx
 have hdb:=dgF_bd (d:=tgF x)
 have hf:=fmt_len (n:=(x.p.length:Int) / 2+2) (by omega)
 have kd:=dg_s (K:=K) (d:=tgF x) (by omega) (fun r hr=>by have:=dgI_row r (srtF_mem.1 hr); simp only [row2] at this; omega)
 refine body_by (f:=ir_spec_WriteAs) rfl ?_; simp only [ir_spec_WriteAs,zn,zs,zq,zi,zg,zp]
 simp (disch:=first|omega|simp only[vl];omega) only [vcd]
 repeat (first | (refine call_by (dyck_s (K:=K) (w:=x.p) (by omega)) rfl ?_; try simp (disch:=first|omega|simp only[vl];omega) only [vcd,hd,bq_f,bq_t,bq_n]) | (refine call_by (l6b_ok (K:=K) (x:=x) hx) rfl ?_; try simp (disch:=first|omega|simp only[vl];omega) only [vcd,hd,bq_f,bq_t,bq_n]) | (refine call_by (trg_s (K:=K) (x:=x) hx) rfl ?_; try simp (disch:=first|omega|simp only[vl];omega) only [vcd,hd,bq_f,bq_t,bq_n]) | (refine call_by (fmt_s (K:=K) (n:=(x.p.length:Int) / 2+2) (by omega)) rfl ?_; try simp (disch:=first|omega|simp only[vl];omega) only [vcd,hd,bq_f,bq_t,bq_n]) | (refine call_by (kd) rfl ?_; try simp (disch:=first|omega|simp only[vl];omega) only [vcd,hd,bq_f,bq_t,bq_n]))
 simp only [txW,btF_p]
theorem wa5_s [HA K] {w:List Nat} (hd:dyck w=true):K 523 [.s [112,97,114,116,105,116,105,111,110],.s w] [.s (txW w 5),.b true]:=by
 have hl:=(DY_of hd).l
 have hpl:=ptn_len hd
 refine body_by (f:=ir_spec_WriteAs) rfl ?_; simp only [ir_spec_WriteAs,zn,zs,zq,zi,zg,zp]
 simp (disch:=omega) only [vcd]
 repeat (first | (refine call_by (dyck_s (K:=K) (w:=w) (by omega)) rfl ?_; try simp (disch:=omega) only [vcd,hd,bq_f,bq_t,bq_n]) | (refine call_by (ptn_s (K:=K) hd) rfl ?_; try simp (disch:=omega) only [vcd,hd,bq_f,bq_t,bq_n]) | (refine call_by (fpt_s (K:=K) (p:=ptn w) (by omega)) rfl ?_; try simp (disch:=omega) only [vcd,hd,bq_f,bq_t,bq_n]))
 all_goals rfl
theorem wa6_s [HA K] {w:List Nat} (hd:dyck w=true):K 523 [.s [109,97,116,99,104,105,110,103],.s w] [.s (txW w 6),.b true]:=by
 have hl:=(DY_of hd).l
 have hpl:=mate_len hd
 refine body_by (f:=ir_spec_WriteAs) rfl ?_; simp only [ir_spec_WriteAs,zn,zs,zq,zi,zg,zp]
 simp (disch:=omega) only [vcd]
 repeat (first | (refine call_by (dyck_s (K:=K) (w:=w) (by omega)) rfl ?_; try simp (disch:=omega) only [vcd,hd,bq_f,bq_t,bq_n]) | (refine call_by (mto_s (K:=K) hd (mate_PP hd)) rfl ?_; try simp (disch:=omega) only [vcd,hd,bq_f,bq_t,bq_n]) | (refine call_by (fma_s (K:=K) (m:=mate w) (by omega)) rfl ?_; try simp (disch:=omega) only [vcd,hd,bq_f,bq_t,bq_n]))
 all_goals rfl
theorem wa7_s [HA K] {w:List Nat} (hd:dyck w=true):K 523 [.s [112,101,114,109,117,116,97,116,105,111,110],.s w] [.s (txW w 7),.b true]:=by
 have hl:=(DY_of hd).l
 have hpl:=perF_len (w:=w)
 have hb:=perF_bd hl
 refine body_by (f:=ir_spec_WriteAs) rfl ?_; simp only [ir_spec_WriteAs,zn,zs,zq,zi,zg,zp]
 simp (disch:=omega) only [vcd]
 repeat (first | (refine call_by (dyck_s (K:=K) (w:=w) (by omega)) rfl ?_; try simp (disch:=omega) only [vcd,hd,bq_f,bq_t,bq_n]) | (refine call_by (pof_s (K:=K) hd) rfl ?_; try simp (disch:=omega) only [vcd,hd,bq_f,bq_t,bq_n]))
 refine loop_ix (fun _=>True) (fun i=>[.u,.u,.u,.u,.u,.u,.u,.u,.u,.u,LI (perF w),.s (rwT (perF w) i),.n i,.u,.u,.u,.u,.u,.u,.u,.u,.u,.u,.u,.u]) (perF w).length trivial rfl (fun i hi _=>?_) (fun _=>?_)
 ·have h2:=hb i
  have h3:=rwT_len (r:=perF w) (fun j _=>by have:=hb j; omega) i (by omega)
  have h4:=fmt_len (n:=atI (perF w) i+1) (by omega)
  simp (disch:=omega) only [vcd]
  refine call_by (fmt_s (K:=K) (n:=atI (perF w) i+1) (by omega)) rfl ?_
  simp (disch:=omega) only [vcd]
  rfl
 ·simp (disch:=omega) only [vcd]
  rfl
theorem wa8_s [HA K] {w:List Nat} (hd:dyck w=true):K 523 [.s [114,97,110,107],.s w] [.s (txW w 8),.b true]:=by
 have hl:=(DY_of hd).l
 have h1:=rk_bd hd
 have h3:=fmt_len (n:=rkR w) (by omega)
 have h4:=fmt_len (n:=(w.length:Int) / 2) (by omega)
 refine body_by (f:=ir_spec_WriteAs) rfl ?_; simp only [ir_spec_WriteAs,zn,zs,zq,zi,zg,zp]
 simp (disch:=first|omega|simp only[vl];omega) only [vcd]
 repeat (first | (refine call_by (dyck_s (K:=K) (w:=w) (by omega)) rfl ?_; try simp (disch:=first|omega|simp only[vl];omega) only [vcd,hd,bq_f,bq_t,bq_n]) | (refine call_by (fmt_s (K:=K) (n:=(w.length:Int) / 2) (by omega)) rfl ?_; try simp (disch:=first|omega|simp only[vl];omega) only [vcd,hd,bq_f,bq_t,bq_n]) | (refine call_by (rk_s (K:=K) (w:=w) (by omega)) rfl ?_; try simp (disch:=first|omega|simp only[vl];omega) only [vcd,hd,bq_f,bq_t,bq_n]) | (refine call_by (fmt_s (K:=K) (n:=rkR w) (by omega)) rfl ?_; try simp (disch:=first|omega|simp only[vl];omega) only [vcd,hd,bq_f,bq_t,bq_n]))
 all_goals rfl
def kix (k:List Nat):Nat:=kdN.findIdx (· == k)
theorem kix_at {k:List Nat} (h:kix k<9):k=atS kdN (kix k):=by
 have h2:kdN.findIdx (· == k)<kdN.length:=h
 have:=List.findIdx_getElem (w:=h2)
 have h3:kdN[kdN.findIdx (· == k)]=k:=by simpa using this
 rw [← h3]
 simp only [kix,atS,qtn,qgd]
 rw [h3,qge h2,h3]; rfl
theorem kix_no {k:List Nat} (h:¬ kix k<9) {x:List Nat} (hx:x∈kdN):(k == x)=false:=by
 cases hc:(k == x)
 ·rfl
 ·exfalso
  apply h
  exact List.findIdx_lt_length_of_exists ⟨x,hx,by simp at hc; simp [hc]⟩
noncomputable def waO (k w:List Nat):Bool:=dyck w&&decide (kix k<9)
noncomputable def waR (k w:List Nat):List Nat:=if waO k w=true then txW w (kix k) else []
theorem wat_i [HA K] {w:List Nat} (hd:dyck w=true):∀ i:Nat,i<9→K 524 [.s (atS kdN i),.s w] [.s (txW w i),.b true]
 | 0,_=>wa0_i hd
 | 1,_=>wa1_i hd
 | 2,_=>wa2_i hd
 | 3,_=>wa3_i hd
 | 4,_=>wa4_i hd
 | 5,_=>wa5_i hd
 | 6,_=>wa6_i hd
 | 7,_=>wa7_i hd
 | 8,_=>wa8_i hd
 | i+9,h=>absurd h (by omega)
theorem wa_i [HA K] {k w:List Nat} (h:w.length≤1000000000):K 524 [.s k,.s w] [.s (waR k w),.b (waO k w)]:=by
 cases hd:dyck w
 ·have e:waO k w=false:=by simp [waO,hd]
  have e2:waR k w=[]:=by simp [waR,e]
  rw [e,e2]
  refine body_by (f:=ir_impl_WriteAs) rfl ?_; simp only [ir_impl_WriteAs,zn,zs,zq,zi,zg,zp]
  simp (disch:=omega) only [vcd]
  repeat (first | (refine call_by (dyck_i (K:=K) (w:=w) h) rfl ?_; try simp (disch:=omega) only [vcd,hd]))
 ·by_cases hk:kix k<9
  ·have e:waO k w=true:=by simp [waO,hd,hk]
   have e2:waR k w=txW w (kix k):=by simp [waR,e]
   have:=wat_i (K:=K) hd (kix k) hk
   rw [← kix_at hk] at this
   rw [e,e2]
   exact this
  ·have e:waO k w=false:=by simp [waO,hd,hk]
   have e2:waR k w=[]:=by simp [waR,e]
   have no:=fun (x:List Nat) (hx:x∈kdN)=>kix_no hk hx
   have q0:=no [112,97,116,104] (by simp [kdN])
   have q1:=no [98,114,97,99,107,101,116,115] (by simp [kdN])
   have q2:=no [112,108,97,110,101] (by simp [kdN])
   have q3:=no [98,105,110,97,114,121] (by simp [kdN])
   have q4:=no [100,105,97,103,111,110,97,108,115] (by simp [kdN])
   have q5:=no [112,97,114,116,105,116,105,111,110] (by simp [kdN])
   have q6:=no [109,97,116,99,104,105,110,103] (by simp [kdN])
   have q7:=no [112,101,114,109,117,116,97,116,105,111,110] (by simp [kdN])
   have q8:=no [114,97,110,107] (by simp [kdN])
   rw [e,e2]
   refine body_by (f:=ir_impl_WriteAs) rfl ?_; simp only [ir_impl_WriteAs,zn,zs,zq,zi,zg,zp]
   simp (disch:=omega) only [vcd]
   repeat (first | (refine call_by (dyck_i (K:=K) (w:=w) h) rfl ?_; try simp (disch:=omega) only [vcd,hd,q0,q1,q2,q3,q4,q5,q6,q7,q8]))
theorem wat_s [HA K] {w:List Nat} (hd:dyck w=true):∀ i:Nat,i<9→K 523 [.s (atS kdN i),.s w] [.s (txW w i),.b true]
 | 0,_=>wa0_s hd
 | 1,_=>wa1_s hd
 | 2,_=>wa2_s hd
 | 3,_=>wa3_s hd
 | 4,_=>wa4_s hd
 | 5,_=>wa5_s hd
 | 6,_=>wa6_s hd
 | 7,_=>wa7_s hd
 | 8,_=>wa8_s hd
 | i+9,h=>absurd h (by omega)
theorem wa_s [HA K] {k w:List Nat} (h:w.length≤1000000000):K 523 [.s k,.s w] [.s (waR k w),.b (waO k w)]:=by
 cases hd:dyck w
 ·have e:waO k w=false:=by simp [waO,hd]
  have e2:waR k w=[]:=by simp [waR,e]
  rw [e,e2]
  refine body_by (f:=ir_spec_WriteAs) rfl ?_; simp only [ir_spec_WriteAs,zn,zs,zq,zi,zg,zp]
  simp (disch:=omega) only [vcd]
  repeat (first | (refine call_by (dyck_s (K:=K) (w:=w) h) rfl ?_; try simp (disch:=omega) only [vcd,hd]))
 ·by_cases hk:kix k<9
  ·have e:waO k w=true:=by simp [waO,hd,hk]
   have e2:waR k w=txW w (kix k):=by simp [waR,e]
   have:=wat_s (K:=K) hd (kix k) hk
   rw [← kix_at hk] at this
   rw [e,e2]
   exact this
  ·have e:waO k w=false:=by simp [waO,hd,hk]
   have e2:waR k w=[]:=by simp [waR,e]
   have no:=fun (x:List Nat) (hx:x∈kdN)=>kix_no hk hx
   have q0:=no [112,97,116,104] (by simp [kdN])
   have q1:=no [98,114,97,99,107,101,116,115] (by simp [kdN])
   have q2:=no [112,108,97,110,101] (by simp [kdN])
   have q3:=no [98,105,110,97,114,121] (by simp [kdN])
   have q4:=no [100,105,97,103,111,110,97,108,115] (by simp [kdN])
   have q5:=no [112,97,114,116,105,116,105,111,110] (by simp [kdN])
   have q6:=no [109,97,116,99,104,105,110,103] (by simp [kdN])
   have q7:=no [112,101,114,109,117,116,97,116,105,111,110] (by simp [kdN])
   have q8:=no [114,97,110,107] (by simp [kdN])
   rw [e,e2]
   refine body_by (f:=ir_spec_WriteAs) rfl ?_; simp only [ir_spec_WriteAs,zn,zs,zq,zi,zg,zp]
   simp (disch:=omega) only [vcd]
   repeat (first | (refine call_by (dyck_s (K:=K) (w:=w) h) rfl ?_; try simp (disch:=omega) only [vcd,hd,q0,q1,q2,q3,q4,q5,q6,q7,q8]))
end Go.Cat
