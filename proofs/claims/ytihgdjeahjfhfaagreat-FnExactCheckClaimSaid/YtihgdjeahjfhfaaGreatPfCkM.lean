/-
 Checks of claims: both sides answer alike.
-/
import Derived.Test.YtihgdjeahjfhfaaGreatPfCkL
import Derived.Test.YtihgdjeahjfhfaaGreatPfOut
import Derived.Test.YtihgdjeahjfhfaaGreatPfPass
import Derived.Test.YtihgdjeahjfhfaaGreatPfLFCl
import Derived.Test.YtihgdjeahjfhfaaGreatIrHas
set_option linter.unusedSimpArgs false
set_option linter.unusedVariables false
namespace Go.Cat
variable {K:Nat→List D→List D→Prop}
set_option maxRecDepth 100000
theorem outT_perm:∀ {w:List Nat} {p st:List Int},walkH w st.length=some 0→cnt w 117=p.length→(outT w p st).Perm (p++st)
 | [],p,st,h,hc=>by
  have h1:st=[]:=List.length_eq_zero_iff.1 (by simpa [walkH] using h)
  have h2:p=[]:=List.length_eq_zero_iff.1 (by simpa [cnt] using hc.symm)
  rw [h1,h2]
  exact .refl _
 | c::w,p,st,h,hc=>by
  rw [cnt_cons] at hc
  simp only [walkH] at h
  simp only [outT]
  by_cases hu:c=117
  ·rw [if_pos hu] at h hc ⊢
   cases p with
   | nil=>simp at hc
   | cons a p=>
    have:=outT_perm (w:=w) (p:=p) (st:=a::st) (by simpa using h) (by simp at hc; omega)
    exact this.trans List.perm_middle
  ·rw [if_neg hu] at h hc ⊢
   by_cases hv:c=100
   ·rw [if_pos hv] at h
    cases st with
    | nil=>simp at h
    | cons y t=>
     have:=outT_perm (w:=w) (p:=p) (st:=t) (by simpa using h) (by omega)
     exact (this.cons y).trans List.perm_middle.symm
   ·rw [if_neg hv] at h
    cases h
theorem outR_asc {w:List Nat} {p:List Int} (h:outO w p=true):ascF (outR w p)=idF (outR w p):=by
 have e:outR w p=outT w p []:=by unfold outR; rw [if_pos h]
 simp only [outO,qba,qde] at h
 obtain ⟨⟨h1,h2⟩,h3⟩:=h
 have hc:=dyck_len h1
 have hp:=outT_perm (w:=w) (p:=p) (st:=[]) (dyck_walk h1).1 (by omega)
 rw [List.append_nil] at hp
 rw [e]
 exact asc_id (by rw [permF_perm hp]; exact h2)
theorem out_i0 [HA K] {w:List Nat} {p:List Int} (h:w.length≤10000000) (hp:p.length≤1099511627776) (hq:permF p=false):K 110 [.s w,LI p] [LI [],.b false]:=by
 refine body_by (f:=ir_impl_OutputOf) rfl ?_; simp only [ir_impl_OutputOf,zn,zs,zq,zi,zg,zp]
 simp (disch:=first|omega|simp only[vl];omega) only [vcd,LI_nil]
 cases hd:dyck w
 ·repeat (first | (refine call_by (dyck_i (K:=K) (by omega)) rfl ?_; try simp (disch:=first|omega|simp only[vl];omega) only [vcd,hd]))
 ·repeat (first | (refine call_by (dyck_i (K:=K) (by omega)) rfl ?_; try simp (disch:=first|omega|simp only[vl];omega) only [vcd,hd,hq]) | (refine call_by (perm_i (K:=K) (by omega)) rfl ?_; try simp (disch:=first|omega|simp only[vl];omega) only [vcd,hd,hq]))
theorem out_s0 [HA K] {w:List Nat} {p:List Int} (h:w.length≤10000000) (hp:p.length≤1099511627776) (hq:permF p=false):K 109 [.s w,LI p] [LI [],.b false]:=by
 refine body_by (f:=ir_spec_OutputOf) rfl ?_; simp only [ir_spec_OutputOf,zn,zs,zq,zi,zg,zp]
 simp (disch:=first|omega|simp only[vl];omega) only [vcd,LI_nil]
 cases hd:dyck w
 ·repeat (first | (refine call_by (dyck_s (K:=K) (by omega)) rfl ?_; try simp (disch:=first|omega|simp only[vl];omega) only [vcd,hd]))
 ·repeat (first | (refine call_by (dyck_s (K:=K) (by omega)) rfl ?_; try simp (disch:=first|omega|simp only[vl];omega) only [vcd,hd,hq]) | (refine call_by (perm_s (K:=K) (by omega)) rfl ?_; try simp (disch:=first|omega|simp only[vl];omega) only [vcd,hd,hq]))
theorem out_any [HA K] {w:List Nat} {p:List Int} (h:w.length≤1048576) (hp:p.length≤1099511627776):∃ l r,K 110 [.s w,LI p] [LI l,.b r]∧K 109 [.s w,LI p] [LI l,.b r]∧l.length≤1048576∧(r=true→ascF l=idF l):=by
 cases hq:permF p
 ·exact ⟨[],false,out_i0 (K:=K) (by omega) hp hq,out_s0 (K:=K) (by omega) hp hq,by simp,fun q=>by cases q⟩
 ·have hl:=(permF_t hq).1
  refine ⟨_,_,out_i (K:=K) (by omega) (by omega),out_s (K:=K) (by omega) (by omega),?_,fun q=>outR_asc q⟩
  have:=outR_len (w:=w) (p:=p)
  omega
noncomputable def ldF (f s:List Nat) (t:List (List Nat)):Bool:=wyF t&&((atS t 0 == f)&&(atS t ((t.length:Int)-1) == s))
theorem lead_i [HA K] [HasV K 201 ir_impl_rotations_w202] [HA K] [HRot K] {k:Int} {f s:List Nat} {t:List (List Nat)} {n o:List Int} {r:List (List Int)} (h:CLsm t n o r):K 637 [CL k f s t n o r] [.b (ldF f s t)]:=by
 have hl:=h.lt
 have kw:=rw_i (K:=K) (l:=t) hl
 refine body_by (f:=ir_impl_Claim_leads) rfl ?_; simp only [ir_impl_Claim_leads,zn,zs,zq,zi,zg,zp]
 simp (disch:=first|omega|simp only[vl];omega) only [vcd,LS_known,LI_known,LL_known]
 cases hw:wyF t
 ·rw [hw] at kw
  refine call_by (kw) rfl ?_
  simp (disch:=first|omega|simp only[vl];omega) only [vcd]
  simp [ldF,hw]
 ·rw [hw] at kw
  have h1:=wyF_t hw
  refine call_by (kw) rfl ?_
  simp (disch:=first|omega|simp only[vl];omega) only [vcd,LS_known]
  cases hf:(atS t 0 == f)
  ·simp (disch:=first|omega|simp only[vl];omega) only [vcd,hf]
   simp [ldF,hw,hf]
  ·simp (disch:=first|omega|simp only[vl];omega) only [vcd,hf,LS_known]
   simp [ldF,hw,hf]
def chP (g:List Nat→List Nat→Bool) (t:List (List Nat)):Bool:=decide (∀ i:Nat,i<t.length-1→g (atS t i) (atS t ((i:Int)+1))=true)
theorem chain_s [HA K] [HRot K] {k:Int} {f s:List Nat} {t:List (List Nat)} {n o:List Int} {r:List (List Int)} (h:CLsm t n o r) {g:List Nat→List Nat→Bool} (hg:∀ a b,K 349 [.s a,.s b] [.b (g a b)]) (b:Bool):
  K 635 [CL k f s t n o r,.b b] [.b (ldF f s t&&(!b || chP g t))]:=by
 have hl:=h.lt
 have kw:=rw_s (K:=K) (l:=t) hl
 refine body_by (f:=ir_spec_l33Chain) rfl ?_; simp only [ir_spec_l33Chain,zn,zs,zq,zi,zg,zp]
 simp (disch:=first|omega|simp only[vl];omega) only [vcd,LS_known,LI_known,LL_known]
 cases hw:wyF t
 ·rw [hw] at kw
  refine call_by (kw) rfl ?_
  simp (disch:=first|omega|simp only[vl];omega) only [vcd]
  simp [ldF,hw]
 ·rw [hw] at kw
  have h1:=wyF_t hw
  refine call_by (kw) rfl ?_
  have hb:∀ x y:List Nat,(x != y)=!(x == y):=fun _ _=>rfl
  cases hf:(atS t 0 == f)
  ·simp (disch:=first|omega|simp only[vl];omega) only [vcd,LS_known,hb,hf]
   simp [ldF,hw,hf]
  ·cases hs:(atS t ((t.length:Int)-1) == s)
   ·simp (disch:=first|omega|simp only[vl];omega) only [vcd,LS_known,hb,hf,hs]
    simp [ldF,hw,hf,hs]
   ·have hle:ldF f s t=true:=by simp [ldF,hw,hf,hs]
    rw [hle,Bool.true_and]
    simp (disch:=first|omega|simp only[vl];omega) only [vcd,LS_known,hb,hf,hs]
    cases b
    ·refine loop_wh (fun (_:Unit)=>True) (fun _=>[.u,.b false,.u,.u,LS t,.n 1,.u,.u,.u]) (fun _=>0) () trivial rfl (fun _ _=>?_)
     by_cases h2:1<t.length
     ·simp (disch:=first|omega|simp only[vl];omega) only [vcd]
     ·simp (disch:=first|omega|simp only[vl];omega) only [vcd]
    ·refine loop_ix (fun i=>∀ j:Nat,j<i→g (atS t j) (atS t ((j:Int)+1))=true) (fun i=>[.u,.b true,.u,.u,LS t,.n ((i:Int)+1),.u,.u,.u]) (t.length-1) (fun j hj=>by omega) rfl (fun i hi hP=>?_) (fun hP=>?_)
     ·have kg:=hg (atS t i) (atS t ((i:Int)+1))
      have ei:(i:Int)+1-1=i:=by omega
      cases hgi:g (atS t i) (atS t ((i:Int)+1))
      ·rw [hgi] at kg
       simp (disch:=first|omega|simp only[vl];omega) only [vcd,ei]
       refine call_by (kg) rfl ?_
       have e:chP g t=false:=decide_eq_false fun q=>by
        have:=q i hi
        rw [hgi] at this; cases this
       simp (disch:=first|omega|simp only[vl];omega) only [vcd,e]
      ·rw [hgi] at kg
       simp (disch:=first|omega|simp only[vl];omega) only [vcd,ei]
       refine call_by (kg) rfl ?_
       simp (disch:=first|omega|simp only[vl];omega) only [vcd]
       intro j hj
       by_cases e:j=i
       ·rw [e]; exact hgi
       ·exact hP j (by omega)
     ·have e:chP g t=true:=decide_eq_true hP
      simp (disch:=first|omega|simp only[vl];omega) only [vcd,e]
end Go.Cat
