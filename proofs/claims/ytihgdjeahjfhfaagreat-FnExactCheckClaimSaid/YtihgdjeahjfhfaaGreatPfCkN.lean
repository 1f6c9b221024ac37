/-
 Checks of claims: kind by kind, and the law.
-/
import Derived.Test.YtihgdjeahjfhfaaGreatPfCkM
set_option linter.unusedSimpArgs false
set_option linter.unusedVariables false
namespace Go.Cat
variable {K:Nat→List D→List D→Prop}
set_option maxRecDepth 100000
theorem ck_1i [HA K] [HasV K 201 ir_impl_rotations_w202] [HA K] [HRot K] {f s:List Nat} {t:List (List Nat)} {n o:List Int} {r:List (List Int)} (h:CLsm t n o r) {g:List Nat→List Nat→Bool} (hg:∀ a b,K 350 [.s a,.s b] [.b (g a b)]):K 626 [CL 1 f s t n o r] [.b (ldF f s t&&chP g t)]:=by
 have hl:=h.lt
 have kl:=lead_i (K:=K) (k:=1) (f:=f) (s:=s) h
 refine body_by (f:=ir_impl_CheckClaim) rfl ?_; simp only [ir_impl_CheckClaim,zn,zs,zq,zi,zg,zp]
 simp (disch:=first|omega|simp only[vl];omega) only [vcd,LS_known,LI_known,LL_known]
 cases hd:ldF f s t
 ·rw [hd] at kl
  refine call_by (kl) rfl ?_
  simp (disch:=first|omega|simp only[vl];omega) only [vcd]
 ·rw [hd] at kl
  have hw:wyF t=true:=by
   simp only [ldF,qba] at hd
   exact hd.1
  have h1:=wyF_t hw
  refine call_by (kl) rfl ?_
  simp (disch:=first|omega|simp only[vl];omega) only [vcd,LS_known,LI_known,LL_known]
  refine loop_ix (fun i=>∀ j:Nat,j<i→g (atS t j) (atS t ((j:Int)+1))=true) (fun i=>[.u,.p [.n 1,.s f,.s s,LS t,LI n,LI o,LL r],.u,.n ((i:Int)+1),.u,.u,.u,.u,.u,.u,.u,.u,.u,.u,.u,.u,.u,.u,.u]) (t.length-1) (fun j hj=>by omega) rfl (fun i hi hP=>?_) (fun hP=>?_)
  ·have kg:=hg (atS t i) (atS t ((i:Int)+1))
   have ei:(i:Int)+1-1=i:=by omega
   cases hgi:g (atS t i) (atS t ((i:Int)+1))
   ·rw [hgi] at kg
    have e:chP g t=false:=decide_eq_false fun q=>by
     have:=q i hi
     rw [hgi] at this; cases this
    simp (disch:=first|omega|simp only[vl];omega) only [vcd,ei,LS_known]
    refine call_by (kg) rfl ?_
    simp (disch:=first|omega|simp only[vl];omega) only [vcd,e]
   ·rw [hgi] at kg
    simp (disch:=first|omega|simp only[vl];omega) only [vcd,ei,LS_known]
    refine call_by (kg) rfl ?_
    simp (disch:=first|omega|simp only[vl];omega) only [vcd]
    intro j hj
    by_cases e:j=i
    ·rw [e]; exact hgi
    ·exact hP j (by omega)
  ·have e:chP g t=true:=decide_eq_true hP
   simp (disch:=first|omega|simp only[vl];omega) only [vcd,e,LS_known]
theorem ck_1s [HA K] [HRot K] {f s:List Nat} {t:List (List Nat)} {n o:List Int} {r:List (List Int)} (h:CLsm t n o r) {g:List Nat→List Nat→Bool} (hg:∀ a b,K 349 [.s a,.s b] [.b (g a b)]):K 625 [CL 1 f s t n o r] [.b (ldF f s t&&chP g t)]:=by
 have kl:=chain_s (K:=K) (k:=1) (f:=f) (s:=s) h hg true
 refine body_by (f:=ir_spec_CheckClaim) rfl ?_; simp only [ir_spec_CheckClaim,zn,zs,zq,zi,zg,zp]
 simp (disch:=first|omega|simp only[vl];omega) only [vcd,LS_known,LI_known,LL_known]
 refine call_by (kl) rfl ?_
 simp (disch:=first|omega|simp only[vl];omega) only [vcd]
theorem ck_2i [HA K] [HasV K 201 ir_impl_rotations_w202] [HA K] [HRot K] {f s:List Nat} {t:List (List Nat)} {n o:List Int} {r:List (List Int)} (h:CLsm t n o r) {v:Int} (hv:K 617 [.s f,.s s] [.n v]):K 626 [CL 2 f s t n o r] [.b (ldF f s t&&decide ((t.length:Int)-1=v))]:=by
 have hl:=h.lt
 have kl:=lead_i (K:=K) (k:=2) (f:=f) (s:=s) h
 refine body_by (f:=ir_impl_CheckClaim) rfl ?_; simp only [ir_impl_CheckClaim,zn,zs,zq,zi,zg,zp]
 simp (disch:=first|omega|simp only[vl];omega) only [vcd,LS_known,LI_known,LL_known]
 cases hd:ldF f s t
 ·rw [hd] at kl
  refine call_by (kl) rfl ?_
  simp (disch:=first|omega|simp only[vl];omega) only [vcd]
 ·rw [hd] at kl
  refine call_by (kl) rfl ?_
  simp (disch:=first|omega|simp only[vl];omega) only [vcd,LS_known,LI_known,LL_known]
  refine call_by (hv) rfl ?_
  simp (disch:=first|omega|simp only[vl];omega) only [vcd]
theorem ck_2s [HA K] [HRot K] {f s:List Nat} {t:List (List Nat)} {n o:List Int} {r:List (List Int)} (h:CLsm t n o r) {g:List Nat→List Nat→Bool} (hg:∀ a b,K 349 [.s a,.s b] [.b (g a b)]) {v:Int} (hv:K 612 [.s f,.s s] [.n v]):K 625 [CL 2 f s t n o r] [.b (ldF f s t&&decide ((t.length:Int)-1=v))]:=by
 have hl:=h.lt
 have kl:=chain_s (K:=K) (k:=2) (f:=f) (s:=s) h hg false
 refine body_by (f:=ir_spec_CheckClaim) rfl ?_; simp only [ir_spec_CheckClaim,zn,zs,zq,zi,zg,zp]
 simp (disch:=first|omega|simp only[vl];omega) only [vcd,LS_known,LI_known,LL_known]
 cases hd:ldF f s t
 ·rw [hd] at kl
  refine call_by (kl) rfl ?_
  simp (disch:=first|omega|simp only[vl];omega) only [vcd]
 ·rw [hd] at kl
  refine call_by (kl) rfl ?_
  simp (disch:=first|omega|simp only[vl];omega) only [vcd,LS_known,LI_known,LL_known]
  refine call_by (hv) rfl ?_
  simp (disch:=first|omega|simp only[vl];omega) only [vcd,LS_known,LI_known,LL_known]
  by_cases e:(t.length:Int)-1=v
  ·simp (disch:=first|omega|simp only[vl];omega) only [vcd,e]
  ·have e2:¬ v=(t.length:Int)-1:=fun q=>e q.symm
   simp (disch:=first|omega|simp only[vl];omega) only [vcd]
theorem ck_3 [HA K] {f s:List Nat} {t:List (List Nat)} {n o:List Int} {r:List (List Int)} (h:CLsm t n o r) (hf:f.length≤1048576):∃ b,K 626 [CL 3 f s t n o r] [.b b]∧K 625 [CL 3 f s t n o r] [.b b]:=by
 obtain ⟨l,b,k1,k2,hl,ha⟩:=out_any (K:=K) hf h.ln
 refine ⟨b&&idF l,?_,?_⟩
 ·refine body_by (f:=ir_impl_CheckClaim) rfl ?_; simp only [ir_impl_CheckClaim,zn,zs,zq,zi,zg,zp]
  simp (disch:=first|omega|simp only[vl];omega) only [vcd,LS_known,LI_known,LL_known]
  refine call_by (k1) rfl ?_
  cases b
  ·simp (disch:=first|omega|simp only[vl];omega) only [vcd]
  ·simp (disch:=first|omega|simp only[vl];omega) only [vcd]
   refine call_by (ascends_ok (K:=K) (p:=l) (by omega)) rfl ?_
   rw [ha rfl]
   simp (disch:=first|omega|simp only[vl];omega) only [vcd]
 ·refine body_by (f:=ir_spec_CheckClaim) rfl ?_; simp only [ir_spec_CheckClaim,zn,zs,zq,zi,zg,zp]
  simp (disch:=first|omega|simp only[vl];omega) only [vcd,LS_known,LI_known,LL_known]
  refine call_by (k2) rfl ?_
  cases b
  ·simp (disch:=first|omega|simp only[vl];omega) only [vcd]
  ·simp (disch:=first|omega|simp only[vl];omega) only [vcd]
   refine call_by (sorted_ok (K:=K) (p:=l) (by omega)) rfl ?_
   simp (disch:=first|omega|simp only[vl];omega) only [vcd]
def unF (p o:List Int):Bool:=permF p&&(decide (o.length=3)&&(decide ((0≤atI o 0∧atI o 0<atI o 1)∧atI o 1<atI o 2∧atI o 2<p.length)&&(decide (atI p (atI o 2)<atI p (atI o 0))&&decide (atI p (atI o 0)<atI p (atI o 1)))))
theorem ck_4i [HA K] {f s:List Nat} {t:List (List Nat)} {n o:List Int} {r:List (List Int)} (h:CLsm t n o r):K 626 [CL 4 f s t n o r] [.b (unF n o)]:=by
 have hl:=h.lo
 have kp:=perm_i (K:=K) h.ln
 refine body_by (f:=ir_impl_CheckClaim) rfl ?_; simp only [ir_impl_CheckClaim,zn,zs,zq,zi,zg,zp]
 simp (disch:=first|omega|simp only[vl];omega) only [vcd,LS_known,LI_known,LL_known]
 cases hp:permF n
 ·rw [hp] at kp
  refine call_by (kp) rfl ?_
  simp (disch:=first|omega|simp only[vl];omega) only [vcd]
  simp [unF,hp]
 rw [hp] at kp
 have h8:=(permF_t hp).1
 refine call_by (kp) rfl ?_
 by_cases h3:o.length=3
 ·by_cases a0:0≤atI o 0
  ·by_cases a1:atI o 0<atI o 1
   ·by_cases a2:atI o 1<atI o 2
    ·by_cases a3:atI o 2<n.length
     ·by_cases b1:atI n (atI o 2)<atI n (atI o 0)
      ·simp (disch:=first|omega|simp only[vl];omega) only [vcd]
       simp [unF,hp,h3,a0,a1,a2,a3,b1]
      ·simp (disch:=first|omega|simp only[vl];omega) only [vcd]
       simp [unF,hp,h3,a0,a1,a2,a3,b1]
     ·simp (disch:=first|omega|simp only[vl];omega) only [vcd]
      simp [unF,hp,h3,a0,a1,a2,a3]
    ·simp (disch:=first|omega|simp only[vl];omega) only [vcd]
     simp [unF,hp,h3,a0,a1,a2]
   ·simp (disch:=first|omega|simp only[vl];omega) only [vcd]
    simp [unF,hp,h3,a0,a1]
  ·simp (disch:=first|omega|simp only[vl];omega) only [vcd]
   simp [unF,hp,h3,a0]
 ·simp (disch:=first|omega|simp only[vl];omega) only [vcd]
  simp [unF,hp,h3]
theorem ck_4s [HA K] {f s:List Nat} {t:List (List Nat)} {n o:List Int} {r:List (List Int)} (h:CLsm t n o r):K 625 [CL 4 f s t n o r] [.b (unF n o)]:=by
 have hl:=h.lo
 have kp:=perm_s (K:=K) h.ln
 refine body_by (f:=ir_spec_CheckClaim) rfl ?_; simp only [ir_spec_CheckClaim,zn,zs,zq,zi,zg,zp]
 simp (disch:=first|omega|simp only[vl];omega) only [vcd,LS_known,LI_known,LL_known]
 cases hp:permF n
 ·rw [hp] at kp
  refine call_by (kp) rfl ?_
  simp (disch:=first|omega|simp only[vl];omega) only [vcd]
  simp [unF,hp]
 rw [hp] at kp
 have h8:=(permF_t hp).1
 refine call_by (kp) rfl ?_
 by_cases h3:o.length=3
 ·have q0:=l1In_ok (K:=K) (x:=atI o 0) (a:=0) (b:=(n.length:Int)-1)
  cases a0:inR 0 ((n.length:Int)-1) (atI o 0)
  ·rw [a0] at q0
   have e:¬ ((0≤atI o 0∧atI o 0<atI o 1)∧atI o 1<atI o 2∧atI o 2<n.length):=fun q=>by
    have:inR 0 ((n.length:Int)-1) (atI o 0)=true:=inR_iff.2 (by omega)
    rw [a0] at this; cases this
   have e2:unF n o=false:=by
    unfold unF
    rw [decide_eq_false e]
    simp
   rw [e2]
   simp (disch:=first|omega|simp only[vl];omega) only [vcd]
   refine call_by (q0) rfl ?_
   simp (disch:=first|omega|simp only[vl];omega) only [vcd]
  rw [a0] at q0
  have r0:=inR_iff.1 a0
  have q1:=l1In_ok (K:=K) (x:=atI o 1) (a:=atI o 0+1) (b:=(n.length:Int)-1)
  cases a1:inR (atI o 0+1) ((n.length:Int)-1) (atI o 1)
  ·rw [a1] at q1
   have e:¬ ((0≤atI o 0∧atI o 0<atI o 1)∧atI o 1<atI o 2∧atI o 2<n.length):=fun q=>by
    have:inR (atI o 0+1) ((n.length:Int)-1) (atI o 1)=true:=inR_iff.2 (by omega)
    rw [a1] at this; cases this
   have e2:unF n o=false:=by
    unfold unF
    rw [decide_eq_false e]
    simp
   rw [e2]
   simp (disch:=first|omega|simp only[vl];omega) only [vcd]
   refine call_by (q0) rfl ?_
   simp (disch:=first|omega|simp only[vl];omega) only [vcd]
   refine call_by (q1) rfl ?_
   simp (disch:=first|omega|simp only[vl];omega) only [vcd]
  rw [a1] at q1
  have r1:=inR_iff.1 a1
  have q2:=l1In_ok (K:=K) (x:=atI o 2) (a:=atI o 1+1) (b:=(n.length:Int)-1)
  cases a2:inR (atI o 1+1) ((n.length:Int)-1) (atI o 2)
  ·rw [a2] at q2
   have e:¬ ((0≤atI o 0∧atI o 0<atI o 1)∧atI o 1<atI o 2∧atI o 2<n.length):=fun q=>by
    have:inR (atI o 1+1) ((n.length:Int)-1) (atI o 2)=true:=inR_iff.2 (by omega)
    rw [a2] at this; cases this
   have e2:unF n o=false:=by
    unfold unF
    rw [decide_eq_false e]
    simp
   rw [e2]
   simp (disch:=first|omega|simp only[vl];omega) only [vcd]
   refine call_by (q0) rfl ?_
   simp (disch:=first|omega|simp only[vl];omega) only [vcd]
   refine call_by (q1) rfl ?_
   simp (disch:=first|omega|simp only[vl];omega) only [vcd]
   refine call_by (q2) rfl ?_
   simp (disch:=first|omega|simp only[vl];omega) only [vcd]
  rw [a2] at q2
  have r2:=inR_iff.1 a2
  have e:(0≤atI o 0∧atI o 0<atI o 1)∧atI o 1<atI o 2∧atI o 2<n.length:=by omega
  have e2:unF n o=(decide (atI n (atI o 2)<atI n (atI o 0))&&decide (atI n (atI o 0)<atI n (atI o 1))):=by
   unfold unF
   rw [decide_eq_true e,hp,h3]
   simp
  rw [e2]
  by_cases b1:atI n (atI o 2)<atI n (atI o 0)
  ·simp (disch:=first|omega|simp only[vl];omega) only [vcd]
   refine call_by (q0) rfl ?_
   simp (disch:=first|omega|simp only[vl];omega) only [vcd]
   refine call_by (q1) rfl ?_
   simp (disch:=first|omega|simp only[vl];omega) only [vcd]
   refine call_by (q2) rfl ?_
   simp (disch:=first|omega|simp only[vl];omega) only [vcd]
  ·simp (disch:=first|omega|simp only[vl];omega) only [vcd]
   refine call_by (q0) rfl ?_
   simp (disch:=first|omega|simp only[vl];omega) only [vcd]
   refine call_by (q1) rfl ?_
   simp (disch:=first|omega|simp only[vl];omega) only [vcd]
   refine call_by (q2) rfl ?_
   simp (disch:=first|omega|simp only[vl];omega) only [vcd]
 ·simp (disch:=first|omega|simp only[vl];omega) only [vcd]
  simp [unF,hp,h3]
theorem ck_5 [HA K] [HTre K] {f s:List Nat} {t:List (List Nat)} {n o:List Int} {r:List (List Int)} (h:CLsm t n o r):∃ b,K 626 [CL 5 f s t n o r] [.b b]∧K 625 [CL 5 f s t n o r] [.b b]:=by
 have h1:=h.ln
 have h2:=h.lr
 by_cases h3:3≤n.length
 ·have k1:=ist_x (K:=K) (n:=n.length) (d:=r) (by omega) h2 h.lrs
  have k2:=trs_x (K:=K) (n:=n.length) (d:=r) (by omega) h2 h.lrs
  cases ht:triX n.length r
  ·rw [ht] at k1 k2
   refine ⟨false,?_,?_⟩
   ·refine body_by (f:=ir_impl_CheckClaim) rfl ?_; simp only [ir_impl_CheckClaim,zn,zs,zq,zi,zg,zp]
    simp (disch:=first|omega|simp only[vl];omega) only [vcd,LS_known,LI_known,LL_known]
    refine call_by (k1) rfl ?_
    simp (disch:=first|omega|simp only[vl];omega) only [vcd]
   ·refine body_by (f:=ir_spec_CheckClaim) rfl ?_; simp only [ir_spec_CheckClaim,zn,zs,zq,zi,zg,zp]
    simp (disch:=first|omega|simp only[vl];omega) only [vcd,LS_known,LI_known,LL_known]
    refine call_by (k2) rfl ?_
    simp (disch:=first|omega|simp only[vl];omega) only [vcd]
  ·rw [ht] at k1 k2
   have k3:=qdi_t (K:=K) ht h3
   have k4:=qds_s (K:=K) ht h3
   have hq:=qcf_len (N:=n.length) (f:=fun v=>cS v (oA n.length r n.length n.length))
   generalize (qcf n.length fun v=>cS v (oA n.length r n.length n.length))=q at k3 k4 hq
   refine ⟨decide (q=n),?_,?_⟩
   ·refine body_by (f:=ir_impl_CheckClaim) rfl ?_; simp only [ir_impl_CheckClaim,zn,zs,zq,zi,zg,zp]
    simp (disch:=first|omega|simp only[vl];omega) only [vcd,LS_known,LI_known,LL_known]
    refine call_by (k1) rfl ?_
    simp (disch:=first|omega|simp only[vl];omega) only [vcd,LS_known,LI_known,LL_known]
    refine call_by (k3) rfl ?_
    simp (disch:=first|omega|simp only[vl];omega) only [vcd,LS_known,LI_known,LL_known]
    refine call_by (eqi_ok (K:=K) (a:=q) (b:=n) (by omega)) rfl ?_
    simp (disch:=first|omega|simp only[vl];omega) only [vcd]
   ·refine body_by (f:=ir_spec_CheckClaim) rfl ?_; simp only [ir_spec_CheckClaim,zn,zs,zq,zi,zg,zp]
    simp (disch:=first|omega|simp only[vl];omega) only [vcd,LS_known,LI_known,LL_known]
    refine call_by (k2) rfl ?_
    simp (disch:=first|omega|simp only[vl];omega) only [vcd,LS_known,LI_known,LL_known]
    refine call_by (k4) rfl ?_
    simp (disch:=first|omega|simp only[vl];omega) only [vcd,LS_known,LI_known,LL_known]
    refine call_by (l13Same_ok (K:=K) (a:=q) (b:=n) (by omega)) rfl ?_
    simp (disch:=first|omega|simp only[vl];omega) only [vcd]
 ·refine ⟨false,?_,?_⟩
  ·refine body_by (f:=ir_impl_CheckClaim) rfl ?_; simp only [ir_impl_CheckClaim,zn,zs,zq,zi,zg,zp]
   simp (disch:=first|omega|simp only[vl];omega) only [vcd,LS_known,LI_known,LL_known]
  ·refine body_by (f:=ir_spec_CheckClaim) rfl ?_; simp only [ir_spec_CheckClaim,zn,zs,zq,zi,zg,zp]
   simp (disch:=first|omega|simp only[vl];omega) only [vcd,LS_known,LI_known,LL_known]
theorem ck_6i [HA K] {f s:List Nat} {t:List (List Nat)} {n o:List Int} {r:List (List Int)} (h:CLsm t n o r):K 626 [CL 6 f s t n o r] [.b (decide (loF n o=1))]:=by
 refine body_by (f:=ir_impl_CheckClaim) rfl ?_; simp only [ir_impl_CheckClaim,zn,zs,zq,zi,zg,zp]
 simp (disch:=first|omega|simp only[vl];omega) only [vcd,LS_known,LI_known,LL_known]
 refine call_by (mea_i (K:=K) h.ln h.lo) rfl ?_
 simp (disch:=first|omega|simp only[vl];omega) only [vcd]
theorem ck_6s [HA K] {f s:List Nat} {t:List (List Nat)} {n o:List Int} {r:List (List Int)} (h:CLsm t n o r):K 625 [CL 6 f s t n o r] [.b (decide (loF n o=1))]:=by
 refine body_by (f:=ir_spec_CheckClaim) rfl ?_; simp only [ir_spec_CheckClaim,zn,zs,zq,zi,zg,zp]
 simp (disch:=first|omega|simp only[vl];omega) only [vcd,LS_known,LI_known,LL_known]
 refine call_by (mea_s (K:=K) h.ln h.lo) rfl ?_
 simp (disch:=first|omega|simp only[vl];omega) only [vcd]
theorem ck_0i [HA K] {k:Int} {f s:List Nat} {t:List (List Nat)} {n o:List Int} {r:List (List Int)} (h:CLsm t n o r) (hk:¬ (1≤k∧k≤6)):K 626 [CL k f s t n o r] [.b false]:=by
 refine body_by (f:=ir_impl_CheckClaim) rfl ?_; simp only [ir_impl_CheckClaim,zn,zs,zq,zi,zg,zp]
 simp (disch:=first|omega|simp only[vl];omega) only [vcd,LS_known,LI_known,LL_known]
theorem ck_0s [HA K] {k:Int} {f s:List Nat} {t:List (List Nat)} {n o:List Int} {r:List (List Int)} (h:CLsm t n o r) (hk:¬ (1≤k∧k≤6)):K 625 [CL k f s t n o r] [.b false]:=by
 refine body_by (f:=ir_spec_CheckClaim) rfl ?_; simp only [ir_spec_CheckClaim,zn,zs,zq,zi,zg,zp]
 simp (disch:=first|omega|simp only[vl];omega) only [vcd,LS_known,LI_known,LL_known]
theorem ck_any [HA K] [HasV K 201 ir_impl_rotations_w202] [HA K] [HRot K] [HTre K] {k:Int} {f s:List Nat} {t:List (List Nat)} {n o:List Int} {r:List (List Int)} (h:CLsm t n o r) (hf:f.length≤1048576):∃ b,K 626 [CL k f s t n o r] [.b b]∧K 625 [CL k f s t n o r] [.b b]:=by
 by_cases hk:1≤k∧k≤6
 ·have:k=1∨k=2∨k=3∨k=4∨k=5∨k=6:=by omega
  obtain ⟨g,hg⟩:∃ g:List Nat→List Nat→Bool,∀ a b,K 350 [.s a,.s b] [.b (g a b)]∧K 349 [.s a,.s b] [.b (g a b)]:=
   ⟨fun a b=>(tl_any (K:=K) a b).choose,fun a b=>⟨(tl_any (K:=K) a b).choose_spec.1,(tl_any (K:=K) a b).choose_spec.2.1⟩⟩
  rcases this with rfl | rfl | rfl | rfl | rfl | rfl
  ·exact ⟨_,ck_1i (K:=K) h (fun a b=>(hg a b).1),ck_1s (K:=K) h (fun a b=>(hg a b).2)⟩
  ·obtain ⟨v,_,_,v1,v2⟩:=dist_any (K:=K) f s
   exact ⟨_,ck_2i (K:=K) h v1,ck_2s (K:=K) h (fun a b=>(hg a b).2) v2⟩
  ·exact ck_3 (K:=K) h hf
  ·exact ⟨_,ck_4i (K:=K) h,ck_4s (K:=K) h⟩
  ·exact ck_5 (K:=K) h
  ·exact ⟨_,ck_6i (K:=K) h,ck_6s (K:=K) h⟩
 ·exact ⟨_,ck_0i (K:=K) h hk,ck_0s (K:=K) h hk⟩
theorem chk_law [HA K] [HasV K 201 ir_impl_rotations_w202] [HA K] [HRot K] [HTre K] {k:Int} {f s:List Nat} {t:List (List Nat)} {n o:List Int} {r:List (List Int)} (h:CLok f s t n o r):K 623 [CL k f s t n o r] [.b true]:=by
 refine body_by (f:=ir_laws_FnExactCheckClaim) rfl ?_; simp only [ir_laws_FnExactCheckClaim,zn,zs,zq,zi,zg,zp]
 by_cases hf:f.length≤1048576
 ·obtain ⟨_,⟨v,rfl,hv,hv2⟩,k1⟩:=szClaim_ok (K:=K) (k:=k) (l:=1048576) h (by omega)
  simp (disch:=first|omega|simp only[vl];omega) only [vcd]
  refine call_by (k1) rfl ?_
  by_cases c1:0≤v
  ·have hs:=hv2 c1
   obtain ⟨b,b1,b2⟩:=ck_any (K:=K) (k:=k) (s:=s) hs hf
   simp (disch:=first|omega|simp only[vl];omega) only [vcd]
   refine call_by (toClaim_ok (K:=K) (k:=k) (f:=f) (s:=s) hs) rfl ?_
   simp (disch:=first|omega|simp only[vl];omega) only [vcd,LS_one,LL_one]
   refine call_by (b2) rfl ?_
   simp (disch:=first|omega|simp only[vl];omega) only [vcd,LS_one,LL_one]
   refine call_by (toClaim_ok (K:=K) (k:=k) (f:=f) (s:=s) hs) rfl ?_
   simp (disch:=first|omega|simp only[vl];omega) only [vcd,LS_one,LL_one]
   refine call_by (b1) rfl ?_
   simp (disch:=first|omega|simp only[vl];omega) only [vcd,LS_one,LL_one]
   refine call_by (toClaim_ok (K:=K) (k:=k) (f:=f) (s:=s) hs) rfl ?_
   simp (disch:=first|omega|simp only[vl];omega) only [vcd,LS_one,LL_one]
   refine call_by (eqClaim_t (K:=K) (k:=k) (f:=f) (s:=s) hs) rfl ?_
   simp (disch:=first|omega|simp only[vl];omega) only [vcd]
  ·simp (disch:=first|omega|simp only[vl];omega) only [vcd]
 ·simp (disch:=first|omega|simp only[vl];omega) only [vcd]
  refine call_by (szClaim_f (K:=K) (k:=k) h hf) rfl ?_
  simp (disch:=first|omega|simp only[vl];omega) only [vcd]
end Go.Cat
