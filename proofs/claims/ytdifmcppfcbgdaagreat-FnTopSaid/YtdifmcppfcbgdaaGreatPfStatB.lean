/-
 Runs at the ends, depth of brackets.
-/
import Derived.Test.YtdifmcppfcbgdaaGreatPfStat
import Derived.Test.YtdifmcppfcbgdaaGreatPfPar
import Derived.Test.YtdifmcppfcbgdaaGreatIrHas
import Derived.Test.YtdifmcppfcbgdaaGreatCatThree
set_option linter.unusedSimpArgs false
set_option linter.unusedVariables false
namespace Go.Cat
variable {K:Nat→List D→List D→Prop}
def brF (w:List Nat):List Nat:=w.map (exl 117 40 41)
theorem brF_len {w:List Nat}:(brF w).length=w.length:=by simp [brF]
theorem only_br:∀ {w:List Nat},allud w=true→only 40 41 (brF w)=true
 | [],_=>rfl
 | c::w,h=>by
  rw [allud_cons,qba,qde] at h
  have:=only_br (w:=w) h.2
  simp only [brF,List.map_cons,only_cons,qba,qde]
  refine ⟨?_,this⟩
  unfold exl
  split <;> simp
theorem br_back:∀ {w:List Nat},allud w=true→(brF w).map (exl 40 117 100)=w
 | [],_=>rfl
 | c::w,h=>by
  rw [allud_cons,qba,qde] at h
  have:=br_back (w:=w) h.2
  simp only [brF,List.map_cons] at this ⊢
  rw [this]
  rcases h.1 with rfl | rfl <;> rfl
theorem br_i [HA K] {w:List Nat} (hd:dyck w=true):K 508 [.s w] [.s (brF w),.b true]:=by
 have hl:=(DY_of hd).l
 have ha:=dy_all hd
 have k1:=exchanged_ok (K:=K) (w:=w) (a:=117) (b:=100) (c:=40) (d:=41) (by omega) (by omega) (by omega)
 rw [only_allud,ha] at k1
 simp only [if_true] at k1
 refine body_by (f:=ir_impl_BracketsOf) rfl ?_; simp only [ir_impl_BracketsOf,zn,zs,zq,zi,zg,zp]
 simp (disch:=omega) only [vcd]
 repeat (first | (refine call_by (dyck_i (K:=K) (w:=w) (by omega)) rfl ?_; try simp (disch:=omega) only [vcd,hd]))
 refine call_by (k1) rfl ?_
 simp (disch:=omega) only [vcd]
 rfl
theorem brF_at {w:List Nat} {i:Nat} (h:i<w.length):atB (brF w) i=exl 117 40 41 (atB w i):=by simp [atB,brF,h]
theorem take_snocB {w:List Nat} {i:Nat} (h:i<w.length):w.take (i+1)=w.take i++[atB w i]:=by
 rw [qta h]; simp [atB,h]
theorem br_s [HA K] {w:List Nat} (hd:dyck w=true):K 297 [.s w] [.s (brF w),.b true]:=by
 have hD:=DY_of hd
 have hl:=hD.l
 have hb:=brF_len (w:=w)
 refine body_by (f:=ir_spec_BracketsOf) rfl ?_; simp only [ir_spec_BracketsOf,zn,zs,zq,zi,zg,zp]
 simp (disch:=first|omega|simp only[vl];omega) only [vcd]
 refine loop_ix (fun _=>True) (fun i=>[.s w,.u,.u,.s ((brF w).take i),.n i,.u,.u]) w.length trivial (by simp) (fun i hi _=>?_) (fun _=>?_)
 ·have ht:((brF w).take i).length=i:=by simp; omega
  have e:=take_snocB (w:=brF w) (i:=i) (by omega)
  rw [brF_at hi] at e
  rw [e]
  rcases hD.ud i hi with hu | hu
  ·simp (disch:=first|omega|simp only[vl];omega) only [vcd]
   repeat (first | (refine call_by (dyck_s (K:=K) (w:=w) (by omega)) rfl ?_; try simp (disch:=first|omega|simp only[vl];omega) only [vcd,hd,hu]))
   rfl
  ·simp (disch:=first|omega|simp only[vl];omega) only [vcd]
   repeat (first | (refine call_by (dyck_s (K:=K) (w:=w) (by omega)) rfl ?_; try simp (disch:=first|omega|simp only[vl];omega) only [vcd,hd,hu]))
   rfl
 ·have ht:(brF w).take w.length=brF w:=List.take_of_length_le (by omega)
  rw [ht]
  simp (disch:=first|omega|simp only[vl];omega) only [vcd]
  repeat (first | (refine call_by (dyck_s (K:=K) (w:=w) (by omega)) rfl ?_; try simp (disch:=first|omega|simp only[vl];omega) only [vcd,hd]))
end Go.Cat
namespace Go.Cat
variable {K:Nat→List D→List D→Prop}
def permP (p:List Int) (i:Nat):Prop:=∀ j:Nat,j<i→inR 0 ((p.length:Int)-1) (atI p j)=true∧∀ k:Nat,k<j→atI p k≠atI p j
instance {p:List Int} {i:Nat}:Decidable (permP p i):=by unfold permP; infer_instance
def permF (p:List Int):Bool:=decide (p.length≤8)&&decide (permP p p.length)
theorem permF_f {p:List Int} (h:¬ permP p p.length):permF p=false:=by simp [permF,h]
theorem perm_s [HA K] {p:List Int} (h:p.length≤1099511627776):K 73 [LI p] [.b (permF p)]:=by
 refine body_by (f:=ir_spec_IsPermutation) rfl ?_; simp only [ir_spec_IsPermutation,zn,zs,zq,zi,zg,zp]
 simp (disch:=omega) only [vcd]
 refine loop_ix (fun i=>permP p i) (fun i=>[LI p,.u,.n i,.u,.u,.u,.u,.u]) p.length (by simp [permP]) rfl (fun i hi hP=>?_) (fun hP=>?_)
 ·simp (disch:=omega) only [vcd]
  cases hr:inR 0 ((p.length:Int)-1) (atI p i)
  ·repeat (first | (refine call_by (l1In_ok (K:=K)) rfl ?_; try simp (disch:=omega) only [vcd,hr]))
   rw [permF_f fun q=>by have:=(q i hi).1; rw [hr] at this; cases this]
  ·repeat (first | (refine call_by (l1In_ok (K:=K)) rfl ?_; try simp (disch:=omega) only [vcd,hr]))
   refine loop_ix (fun k=>∀ j:Nat,j<k→atI p j≠atI p i) (fun k=>[LI p,.u,.n i,.n k,.u,.u,.u,.u]) i (by simp) rfl (fun k hk hQ=>?_) (fun hQ=>?_)
   ·by_cases he:atI p k=atI p i
    ·simp (disch:=omega) only [vcd]
     rw [permF_f fun q=>(q i hi).2 k hk he]
    ·simp (disch:=omega) only [vcd]
     exact all_s hQ he
   ·simp (disch:=omega) only [vcd]
    exact all_s hP ⟨hr,hQ⟩
 ·by_cases hl:p.length≤8
  ·simp (disch:=omega) only [vcd]
   simp [permF,hP,hl]
  ·simp (disch:=omega) only [vcd]
   simp [permF,hl]
end Go.Cat
namespace Go.Cat
variable {K:Nat→List D→List D→Prop}
def digs:Nat→List Nat
 | 0=>[]
 | n+1=>digs ((n+1) / 10)++[48+(n+1) % 10]
decreasing_by omega
end Go.Cat
namespace Go.Cat
variable {K:Nat→List D→List D→Prop}
theorem at_last {t:List Int} {y:Int}:atI (t++[y]) t.length=y:=by simp [atI]
theorem sub_init {t:List Int} {y:Int}:sub (t++[y]) 0 t.length=t:=by simp [sub]
end Go.Cat
