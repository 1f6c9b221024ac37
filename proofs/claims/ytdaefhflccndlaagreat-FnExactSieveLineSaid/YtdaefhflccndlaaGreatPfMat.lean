/-
 Matchings: partners of points, crossings, loops.
-/
import Derived.Test.YtdaefhflccndlaaGreatPfPar
import Derived.Test.YtdaefhflccndlaaGreatPfIn
import Derived.Test.YtdaefhflccndlaaGreatIrHas
set_option linter.unusedSimpArgs false
set_option linter.unusedVariables false
namespace Go.Cat
variable {K:Nat→List D→List D→Prop}
def mtP (m:List Int) (i:Nat):Prop:=∀ j:Nat,j<i→inR 0 ((m.length:Int)-1) (atI m j)=true∧atI m j≠j∧atI m (atI m j)=j
instance {m:List Int} {i:Nat}:Decidable (mtP m i):=by unfold mtP; infer_instance
def matF (m:List Int):Bool:=decide (m.length≤16)&&decide (mtP m m.length)
theorem matF_f {m:List Int} (h:¬ mtP m m.length):matF m=false:=by simp [matF,h]
theorem matF_t {m:List Int} (h:matF m=true):m.length≤16∧mtP m m.length:=by simpa [matF] using h
theorem match_i [HA K] {m:List Int} (h:m.length≤1099511627776):K 380 [LI m] [.b (matF m)]:=by
 refine body_by (f:=ir_impl_IsMatching) rfl ?_; simp only [ir_impl_IsMatching,zn,zs,zq,zi,zg,zp]
 by_cases hl:m.length≤16
 ·simp (disch:=omega) only [vcd]
  refine loop_ix (fun i=>mtP m i) (fun i=>[LI m,.u,.u,.u,.u,LI m,.n m.length,.n i,.u,.u]) m.length (by simp [mtP]) rfl (fun i hi hP=>?_) (fun hP=>?_)
  ·simp (disch:=omega) only [vcd]
   cases hr:inR 0 ((m.length:Int)-1) (atI m i)
   ·repeat (first | (refine call_by (within_ok (K:=K)) rfl ?_; try simp (disch:=omega) only [vcd,hr]))
    rw [matF_f fun q=>by have:=(q i hi).1; rw [hr] at this; cases this]
   ·have hb:=inR_iff.1 hr
    repeat (first | (refine call_by (within_ok (K:=K)) rfl ?_; try simp (disch:=omega) only [vcd,hr]))
    by_cases h1:atI m i=i
    ·simp (disch:=omega) only [vcd,h1]
     rw [matF_f fun q=>(q i hi).2.1 h1]
    ·simp (disch:=omega) only [vcd]
     by_cases h2:atI m (atI m i)=i
     ·simp (disch:=omega) only [vcd]
      exact all_s hP ⟨hr,h1,h2⟩
     ·simp (disch:=omega) only [vcd]
      rw [matF_f fun q=>h2 (q i hi).2.2]
  ·simp (disch:=omega) only [vcd]
   simp [matF,hl,hP]
 ·simp (disch:=omega) only [vcd]
  simp [matF,hl]
theorem match_s [HA K] {m:List Int} (h:m.length≤1099511627776):K 379 [LI m] [.b (matF m)]:=by
 refine body_by (f:=ir_spec_IsMatching) rfl ?_; simp only [ir_spec_IsMatching,zn,zs,zq,zi,zg,zp]
 simp (disch:=omega) only [vcd]
 refine loop_ix (fun i=>mtP m i) (fun i=>[LI m,.u,.n i,.u,.u]) m.length (by simp [mtP]) rfl (fun i hi hP=>?_) (fun hP=>?_)
 ·simp (disch:=omega) only [vcd]
  cases hr:inR 0 ((m.length:Int)-1) (atI m i)
  ·repeat (first | (refine call_by (l1In_ok (K:=K)) rfl ?_; try simp (disch:=omega) only [vcd,hr]))
   rw [matF_f fun q=>by have:=(q i hi).1; rw [hr] at this; cases this]
  ·have hb:=inR_iff.1 hr
   repeat (first | (refine call_by (l1In_ok (K:=K)) rfl ?_; try simp (disch:=omega) only [vcd,hr]))
   by_cases h1:atI m i=i
   ·simp (disch:=omega) only [vcd,h1]
    rw [matF_f fun q=>(q i hi).2.1 h1]
   ·simp (disch:=omega) only [vcd]
    by_cases h2:atI m (atI m i)=i
    ·simp (disch:=omega) only [vcd]
     exact all_s hP ⟨hr,h1,h2⟩
    ·simp (disch:=omega) only [vcd]
     rw [matF_f fun q=>h2 (q i hi).2.2]
 ·simp (disch:=omega) only [vcd]
  simp [matF,hP]
  omega
def sumU (g:Nat→Nat):Nat→Nat
 | 0=>0
 | n+1=>sumU g n+g n
theorem sumU_le {g:Nat→Nat} {b:Nat} (h:∀ i,g i≤b):∀ n,sumU g n≤n*b
 | 0=>by simp [sumU]
 | n+1=>by
  have:=sumU_le h n
  have:=h n
  simp only [sumU,Nat.succ_mul]; omega
theorem sumU_0 {g:Nat→Nat}:∀ {n},(∀ i,i<n→g i=0)→sumU g n=0
 | 0,_=>rfl
 | n+1,h=>by
  simp only [sumU]
  rw [sumU_0 fun i hi=>h i (by omega),h n (by omega)]
def crB (m:List Int) (a b:Nat):Nat:=if (a:Int)<b∧(b:Int)<atI m a∧atI m a<atI m b then 1 else 0
def crF (m:List Int):Nat:=sumU (fun a=>sumU (crB m a) m.length) m.length
theorem crB_le {m:List Int} {a b:Nat}:crB m a b≤1:=by unfold crB; split <;> omega
theorem cross_s [HA K] {m:List Int} (h:m.length≤1099511627776):K 369 [LI m] [.n (if matF m=true then (crF m:Int) else -1)]:=by
 refine body_by (f:=ir_spec_CrossingsOf) rfl ?_; simp only [ir_spec_CrossingsOf,zn,zs,zq,zi,zg,zp]
 simp (disch:=omega) only [vcd]
 refine call_by (match_s (K:=K) h) rfl ?_
 cases hm:matF m
 ·simp (disch:=omega) only [vcd]
  simp
 ·have hl:=(matF_t hm).1
  rw [if_pos rfl]
  simp (disch:=omega) only [vcd]
  refine loop_up (fun i (c:Nat)=>c=sumU (fun a=>sumU (crB m a) m.length) i) (fun i c=>[LI m,.u,.n c,.n i,.u,.u,.u,.u,.u]) m.length 0 rfl rfl (fun i c hi hP=>?_) (fun c hP=>?_)
  ·subst hP
   have hb:=sumU_le (g:=fun a=>sumU (crB m a) m.length) (b:=16) (fun a=>by have:=sumU_le (g:=crB m a) (b:=1) (fun _=>crB_le) m.length; omega) i
   have h0:sumU (crB m i) (i+1)=0:=sumU_0 fun b hb=>by unfold crB; rw [if_neg (by omega)]
   simp (disch:=omega) only [vcd]
   refine loop_wh (fun (x:Nat×Nat)=>(i+1≤x.1∧x.1≤m.length)∧x.2=sumU (crB m i) x.1) (fun x=>[LI m,.u,.n (sumU (fun a=>sumU (crB m a) m.length) i+x.2:Nat),.n i,.n x.1,.u,.u,.u,.u]) (fun x=>m.length-x.1) (i+1,0) ⟨by omega,h0.symm⟩ rfl ?_
   rintro ⟨k,c⟩ ⟨hk,hc0⟩
   simp only at hk hc0 ⊢
   subst hc0
   have hc:=sumU_le (g:=crB m i) (b:=1) (fun _=>crB_le) k
   by_cases hkl:k<m.length
   ·have e1:sumU (crB m i) (k+1)=sumU (crB m i) k+crB m i k:=rfl
    by_cases q1:(k:Int)<atI m i
    ·by_cases q2:atI m i<atI m k
     ·have e2:crB m i k=1:=if_pos (by omega)
      simp (disch:=omega) only [vcd]
      exact ⟨(k+1,sumU (crB m i) (k+1)),by show m.length-(k+1)<m.length-k; omega,⟨by show i+1≤k+1∧k+1≤m.length; omega,rfl⟩,by rw [e1,e2]; simp; omega⟩
     ·have e2:crB m i k=0:=if_neg (by omega)
      simp (disch:=omega) only [vcd]
      exact ⟨(k+1,sumU (crB m i) (k+1)),by show m.length-(k+1)<m.length-k; omega,⟨by show i+1≤k+1∧k+1≤m.length; omega,rfl⟩,by rw [e1,e2]; simp⟩
    ·have e2:crB m i k=0:=if_neg (by omega)
     simp (disch:=omega) only [vcd]
     exact ⟨(k+1,sumU (crB m i) (k+1)),by show m.length-(k+1)<m.length-k; omega,⟨by show i+1≤k+1∧k+1≤m.length; omega,rfl⟩,by rw [e1,e2]; simp⟩
   ·obtain rfl:k=m.length:=by omega
    simp (disch:=omega) only [vcd]
    exact ⟨_,rfl,rfl⟩
  ·subst hP
   simp (disch:=omega) only [vcd]
   rfl
def ncmF (m:List Int):Bool:=matF m&&decide (crF m=0)
theorem ncm_e {m:List Int}:decide ((if matF m=true then (crF m:Int) else -1)=0)=ncmF m:=by
 unfold ncmF
 cases matF m
 ·rfl
 ·simp
theorem ncm_s [HA K] {m:List Int} (h:m.length≤1099511627776):K 355 [LI m] [.b (ncmF m)]:=by
 refine body_by (f:=ir_spec_IsNoncrossingMatching) rfl ?_; simp only [ir_spec_IsNoncrossingMatching,zn,zs,zq,zi,zg,zp]
 simp (disch:=omega) only [vcd]
 refine call_by (cross_s (K:=K) h) rfl ?_
 simp (disch:=omega) only [vcd,ncm_e]
theorem PP_mt {w:List Nat} {m:List Int} (hl:w.length≤16) (h:PP w m):matF m=true:=by
 have key:mtP m m.length:=by
  intro j hj
  have hin:=PP_in h hj
  obtain ⟨h1,h2⟩:=h
  obtain ⟨b,e,q⟩:=h2 j (by omega)
  have hb:b<w.length:=by rcases q with q | q <;> have:=q.2.1 <;> have:=q.1 <;> omega
  obtain ⟨c,e2,q2⟩:=h2 b hb
  refine ⟨inR_iff.2 (by omega),?_,?_⟩
  ·rcases q with q | q <;> have:=q.1 <;> omega
  ·rw [e,e2]
   rcases q with q | q <;> rcases q2 with q2 | q2
   ·exact (PR_no q q2).elim
   ·rw [PR_r q q2]
   ·rw [PR_l q q2]
   ·exact (PR_no q2 q).elim
 have h1:=h.1
 simp only [matF,qba,qde]
 exact ⟨by omega,key⟩
end Go.Cat
