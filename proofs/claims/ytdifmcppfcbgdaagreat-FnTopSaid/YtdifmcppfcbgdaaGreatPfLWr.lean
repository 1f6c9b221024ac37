/-
 WriteAs, KindsLine, ListOf answer as the reference does.
-/
import Derived.Test.YtdifmcppfcbgdaaGreatPfWrite
import Derived.Test.YtdifmcppfcbgdaaGreatPfAp2
import Derived.Test.YtdifmcppfcbgdaaGreatIrHas
set_option linter.unusedSimpArgs false
set_option linter.unusedVariables false
namespace Go.Cat
variable {K:Nat→List D→List D→Prop}
theorem has_s [HA K] {ws:List (List Nat)} {k:List Nat} (h:ws.length≤1099511627776):K 378 [LS ws,.s k] [.b (ws.contains k)]:=by
 refine body_by (f:=ir_spec_l15Has) rfl ?_; simp only [ir_spec_l15Has,zn,zs,zq,zi,zg,zp]
 simp (disch:=omega) only [vcd]
 refine loop_ix (fun i=>k∉ws.take i) (fun i=>[LS ws,.s k,.u,.n i,.u,.u]) ws.length (by simp) rfl (fun i hi hP=>?_) (fun hP=>?_)
 ·have et:ws.take (i+1)=ws.take i++[atS ws i]:=by
   rw [qta hi]; simp [atS,hi]
  have hm:atS ws i∈ws:=by simp [atS,hi]
  cases hc:(atS ws i == k)
  ·simp (disch:=omega) only [vcd,hc]
   rw [et]
   intro q
   rcases qma.1 q with q | q
   ·exact hP q
   ·simp only [List.mem_singleton] at q
    rw [q] at hc
    simp at hc
  ·have e:atS ws i=k:=by simpa using hc
   simp (disch:=omega) only [vcd,hc]
   refine Db ?_
   rw [← e]
   simpa using hm
 ·simp (disch:=omega) only [vcd]
  refine Db ?_
  rw [List.take_length] at hP
  simpa using hP
theorem kix_has {k:List Nat}:kdN.contains k=decide (kix k<9):=by
 by_cases h:kix k<9
 ·have e:=kix_at h
  have hm:atS kdN (kix k)∈kdN:=by
   have:kix k<kdN.length:=h
   simp [atS,this]
  rw [← e] at hm
  simp [h,hm]
 ·have:k∉kdN:=by
   intro q
   have:=kix_no h q
   simp at this
  simp [h,this]
theorem apd1:allB 7 (fun n=>decide (0<(pathsR n).length))=true:=by kernel_rfl
theorem pathsR_0 {n:Nat} (h:n<7):0<(pathsR n).length:=by
 have:=allB_spec apd1 n h
 simpa using this
noncomputable def loO (k:List Nat) (n:Int):Bool:=inR 0 6 n&&decide (kix k<9)
noncomputable def loR (k:List Nat) (n:Int):List (List Nat):=if loO k n=true then (pathsR n.toNat).map fun w=>txW w (kix k) else []
theorem loR_len {k:List Nat} {n:Int}:(loR k n).length≤132:=by
 unfold loR
 split
 ·rename_i h
  simp only [loO,qba] at h
  have:=inR_iff.1 h.1
  rw [List.length_map]
  exact apl (by omega)
 ·simp
theorem dyck_nil:dyck []=true:=rfl
theorem lo_i [HA K] {k:List Nat} {n:Int}:K 528 [.s k,.n n] [LS (loR k n),.b (loO k n)]:=by
 refine body_by (f:=ir_impl_ListOf) rfl ?_; simp only [ir_impl_ListOf,zn,zs,zq,zi,zg,zp]
 simp (disch:=first|omega|simp only[vl];omega) only [vcd,LS_nil]
 refine call_by (wa_i (K:=K) (k:=k) (w:=[]) (by simp)) rfl ?_
 simp (disch:=first|omega|simp only[vl];omega) only [vcd]
 have ew:waO k []=decide (kix k<9):=by simp [waO,dyck_nil]
 by_cases hk:kix k<9
 ·simp (disch:=first|omega|simp only[vl];omega) only [vcd,ew,hk]
  refine call_by (within_ok (K:=K)) rfl ?_
  cases hn:inR 0 6 n
  ·simp (disch:=first|omega|simp only[vl];omega) only [vcd]
   simp [loR,loO,hn]
  ·have hb:=inR_iff.1 hn
   obtain ⟨m,rfl⟩:=qoz hb.1
   have hp:=apl (n:=m) (by omega)
   have e:loO k (m:Int)=true:=by simp [loO,hn,hk]
   have e2:loR k (m:Int)=(pathsR m).map fun w=>txW w (kix k):=by simp [loR,e]
   rw [e,e2]
   simp (disch:=first|omega|simp only[vl];omega) only [vcd]
   refine call_by (pl_i (K:=K) (n:=m) (by omega)) rfl ?_
   simp (disch:=first|omega|simp only[vl];omega) only [vcd]
   refine loop_ix (fun _=>True) (fun i=>[.s k,.u,.u,.u,LS (((pathsR m).take i).map fun w=>txW w (kix k)),.u,.u,.u,.u,LS (pathsR m),.n (pathsR m).length,.n i,.u]) (pathsR m).length trivial (by simp) (fun i hi _=>?_) (fun _=>?_)
   ·have et:(pathsR m).take (i+1)=(pathsR m).take i++[atS (pathsR m) i]:=by
     rw [qta hi]; simp [atS,hi]
    have hd:=(apd (n:=m) (by omega) (w:=atS (pathsR m) i) (by simp [atS,hi]))
    have hl:(((pathsR m).take i).map fun w=>txW w (kix k)).length=i:=by simp; omega
    have er:waR k (atS (pathsR m) i)=txW (atS (pathsR m) i) (kix k):=by simp [waR,waO,hd.1,hk]
    rw [et,List.map_append]
    simp (disch:=first|omega|simp only[vl];omega) only [vcd]
    refine call_by (wa_i (K:=K) (k:=k) (w:=atS (pathsR m) i) (by omega)) rfl ?_
    simp (disch:=first|omega|simp only[vl];omega) only [vcd,ls_1,er]
   ·rw [List.take_length]
    simp (disch:=first|omega|simp only[vl];omega) only [vcd]
 ·simp (disch:=first|omega|simp only[vl];omega) only [vcd,ew,hk]
  simp [loR,loO,hk]
theorem lo_s [HA K] {k:List Nat} {n:Int}:K 527 [.s k,.n n] [LS (loR k n),.b (loO k n)]:=by
 refine body_by (f:=ir_spec_ListOf) rfl ?_; simp only [ir_spec_ListOf,zn,zs,zq,zi,zg,zp]
 simp (disch:=first|omega|simp only[vl];omega) only [vcd,LS_nil]
 by_cases hn:0≤n∧n≤6
 ·have hn2:inR 0 6 n=true:=inR_iff.2 hn
  obtain ⟨m,rfl⟩:=qoz hn.1
  have hp:=apl (n:=m) (by omega)
  have h0:=pathsR_0 (n:=m) (by omega)
  refine call_by (pl_s (K:=K) (n:=m) (by omega)) rfl ?_
  simp (disch:=first|omega|simp only[vl];omega) only [vcd]
  refine call_by (kdn_s (K:=K)) rfl ?_
  simp (disch:=first|omega|simp only[vl];omega) only [vcd]
  have kh:=has_s (K:=K) (ws:=kdN) (k:=k) (by decide)
  rw [kix_has] at kh
  refine call_by (kh) rfl ?_
  by_cases hk:kix k<9
  ·have e:loO k (m:Int)=true:=by simp [loO,hn2,hk]
   have e2:loR k (m:Int)=(pathsR m).map fun w=>txW w (kix k):=by simp [loR,e]
   rw [e,e2]
   simp (disch:=first|omega|simp only[vl];omega) only [vcd,hk]
   refine loop_ix (fun _=>True) (fun i=>[.s k,.u,.u,.u,LS (((pathsR m).take i).map fun w=>txW w (kix k)),LS (pathsR m),.n i,.u,.u,.u]) (pathsR m).length trivial (by simp) (fun i hi _=>?_) (fun _=>?_)
   ·have et:(pathsR m).take (i+1)=(pathsR m).take i++[atS (pathsR m) i]:=by
     rw [qta hi]; simp [atS,hi]
    have hd:=(apd (n:=m) (by omega) (w:=atS (pathsR m) i) (by simp [atS,hi]))
    have hl:(((pathsR m).take i).map fun w=>txW w (kix k)).length=i:=by simp; omega
    have er:waR k (atS (pathsR m) i)=txW (atS (pathsR m) i) (kix k):=by simp [waR,waO,hd.1,hk]
    rw [et,List.map_append]
    simp (disch:=first|omega|simp only[vl];omega) only [vcd]
    refine call_by (wa_s (K:=K) (k:=k) (w:=atS (pathsR m) i) (by omega)) rfl ?_
    simp (disch:=first|omega|simp only[vl];omega) only [vcd,ls_1,er]
   ·rw [List.take_length]
    simp (disch:=first|omega|simp only[vl];omega) only [vcd]
  ·simp (disch:=first|omega|simp only[vl];omega) only [vcd,hk]
   simp [loR,loO,hk]
 ·have hn2:inR 0 6 n=false:=inR_f.2 hn
  refine call_by (pl_out_s (K:=K) hn) rfl ?_
  simp (disch:=first|omega|simp only[vl];omega) only [vcd]
  simp [loR,loO,hn2]
theorem txW_len {w:List Nat} (hd:dyck w=true):∀ i:Nat,(txW w i).length≤5000
 | 0=>by have hl:=(DY_of hd).l; simp only [txW]; omega
 | 1=>by have hl:=(DY_of hd).l; have:=brF_len (w:=w); simp only [txW]; omega
 | 2=>by
  have hl:=plF_len hd
  simp only [txW,fplF]
  split
  ·rename_i h
   obtain ⟨h1,h2⟩:=isPl_t h
   have:=glue_len (sep:=[44]) (inW_b h2)
   have h3:=inW_len (p:=plF w)
   have h4:(inW (plF w)).length*(20+[44].length)≤9*21:=Nat.mul_le_mul (by omega) (by simp)
   omega
  ·simp
 | 3=>by
  obtain ⟨x,rfl,hx⟩:=ex_p hd
  have:=BT.tl x
  simp only [txW,btF_p]; omega
 | 4=>by
  have hl:=(DY_of hd).l
  have h1:=dgF_bd (d:=tgF (btF w))
  have h2:=fmt_len (n:=(w.length:Int) / 2+2) (by omega)
  simp only [txW,qla,qlc,qln]; omega
 | 5=>by
  have h1:=glue_len (sep:=[124]) (ptW_b (p:=ptn w))
  have h2:=ptW_len (p:=ptn w)
  have h3:=ptB_len (p:=ptn w)
  have h4:(ptW (ptn w)).length*(160+[124].length)≤8*161:=Nat.mul_le_mul (by omega) (by simp)
  simp only [txW,fptF]; omega
 | 6=>by
  have hl:=mate_len hd
  simp only [txW,fmaF]
  split
  ·rename_i h
   split
   ·simp
   ·have h1:=glue_len (sep:=[32]) (arW_b h (mate w).length (Nat.le_refl _))
    have h2:=arW_len (m:=mate w) (mate w).length
    have h4:(arW (mate w) (mate w).length).length*(41+[32].length)≤16*42:=Nat.mul_le_mul (by omega) (by simp)
    omega
  ·simp
 | 7=>by
  have hl:=(DY_of hd).l
  have h1:=perF_len (w:=w)
  have h3:=rwT_len (r:=perF w) (fun j _=>by have:=perF_bd hl j; omega) (perF w).length (Nat.le_refl _)
  simp only [txW]; omega
 | 8=>by
  have hl:=(DY_of hd).l
  have h1:=rk_bd hd
  have h3:=fmt_len (n:=rkR w) (by omega)
  have h4:=fmt_len (n:=(w.length:Int) / 2) (by omega)
  simp only [txW,qla,qlc,qln]; omega
 | i+9=>by simp [txW]
theorem kdN_len {i:Nat}:(atS kdN i).length≤12:=atS_len (b:=12) (ws:=kdN) (by decide)
theorem kix_i:∀ i:Nat,i<9→kix (atS kdN i)=i
 | 0,_=>by decide
 | 1,_=>by decide
 | 2,_=>by decide
 | 3,_=>by decide
 | 4,_=>by decide
 | 5,_=>by decide
 | 6,_=>by decide
 | 7,_=>by decide
 | 8,_=>by decide
 | i+9,h=>absurd h (by omega)
end Go.Cat
