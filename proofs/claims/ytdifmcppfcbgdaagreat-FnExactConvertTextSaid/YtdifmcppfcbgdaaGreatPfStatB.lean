/-
 Runs at the ends, depth of brackets.
-/
import Derived.Test.YtdifmcppfcbgdaaGreatPfStat
set_option linter.unusedSimpArgs false
set_option linter.unusedVariables false
namespace Go.Cat
variable {K:Nat→List D→List D→Prop}
def brF (w:List Nat):List Nat:=w.map (exl 117 40 41)
theorem brF_len {w:List Nat}:(brF w).length=w.length:=by simp [brF]
theorem only_br:∀ {w:List Nat},allud w=true→only 40 41 (brF w)=true
 | [],_=>rfl
 | c::w,h=>by
  rw [allud_cons,qba,qde] at h
  have:=only_br (w:=w) h.2
  simp only [brF,List.map_cons,only_cons,qba,qde]
  refine ⟨?_,this⟩
  unfold exl
  split <;> simp
theorem br_back:∀ {w:List Nat},allud w=true→(brF w).map (exl 40 117 100)=w
 | [],_=>rfl
 | c::w,h=>by
  rw [allud_cons,qba,qde] at h
  have:=br_back (w:=w) h.2
  simp only [brF,List.map_cons] at this ⊢
  rw [this]
  rcases h.1 with rfl | rfl <;> rfl
theorem br_i [HA K] {w:List Nat} (hd:dyck w=true):K 508 [.s w] [.s (brF w),.b true]:=by
 have hl:=(DY_of hd).l
 have ha:=dy_all hd
 have k1:=exchanged_ok (K:=K) (w:=w) (a:=117) (b:=100) (c:=40) (d:=41) (by omega) (by omega) (by omega)
 rw [only_allud,ha] at k1
 simp only [if_true] at k1
 refine body_by (f:=ir_impl_BracketsOf) rfl ?_; simp only [ir_impl_BracketsOf,zn,zs,zq,zi,zg,zp]
 simp (disch:=omega) only [vcd]
 repeat (first | (refine call_by (dyck_i (K:=K) (w:=w) (by omega)) rfl ?_; try simp (disch:=omega) only [vcd,hd]))
 refine call_by (k1) rfl ?_
 simp (disch:=omega) only [vcd]
 rfl
theorem brF_at {w:List Nat} {i:Nat} (h:i<w.length):atB (brF w) i=exl 117 40 41 (atB w i):=by simp [atB,brF,h]
theorem take_snocB {w:List Nat} {i:Nat} (h:i<w.length):w.take (i+1)=w.take i++[atB w i]:=by
 rw [qta h]; simp [atB,h]
theorem br_s [HA K] {w:List Nat} (hd:dyck w=true):K 297 [.s w] [.s (brF w),.b true]:=by
 have hD:=DY_of hd
 have hl:=hD.l
 have hb:=brF_len (w:=w)
 refine body_by (f:=ir_spec_BracketsOf) rfl ?_; simp only [ir_spec_BracketsOf,zn,zs,zq,zi,zg,zp]
 simp (disch:=first|omega|simp only[vl];omega) only [vcd]
 refine loop_ix (fun _=>True) (fun i=>[.s w,.u,.u,.s ((brF w).take i),.n i,.u,.u]) w.length trivial (by simp) (fun i hi _=>?_) (fun _=>?_)
 ·have ht:((brF w).take i).length=i:=by simp; omega
  have e:=take_snocB (w:=brF w) (i:=i) (by omega)
  rw [brF_at hi] at e
  rw [e]
  rcases hD.ud i hi with hu | hu
  ·simp (disch:=first|omega|simp only[vl];omega) only [vcd]
   repeat (first | (refine call_by (dyck_s (K:=K) (w:=w) (by omega)) rfl ?_; try simp (disch:=first|omega|simp only[vl];omega) only [vcd,hd,hu]))
   rfl
  ·simp (disch:=first|omega|simp only[vl];omega) only [vcd]
   repeat (first | (refine call_by (dyck_s (K:=K) (w:=w) (by omega)) rfl ?_; try simp (disch:=first|omega|simp only[vl];omega) only [vcd,hd,hu]))
   rfl
 ·have ht:(brF w).take w.length=brF w:=List.take_of_length_le (by omega)
  rw [ht]
  simp (disch:=first|omega|simp only[vl];omega) only [vcd]
  repeat (first | (refine call_by (dyck_s (K:=K) (w:=w) (by omega)) rfl ?_; try simp (disch:=first|omega|simp only[vl];omega) only [vcd,hd]))
end Go.Cat
