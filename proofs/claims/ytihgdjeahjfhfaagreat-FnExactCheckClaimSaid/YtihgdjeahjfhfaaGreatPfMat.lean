/-
 Matchings: partners of points, crossings, loops.
-/
import Derived.Test.YtihgdjeahjfhfaaGreatPfRefl
import Derived.Test.YtihgdjeahjfhfaaGreatPfIn
import Derived.Test.YtihgdjeahjfhfaaGreatIrHas
set_option linter.unusedSimpArgs false
set_option linter.unusedVariables false
namespace Go.Cat
variable {K:Nat→List D→List D→Prop}
def mtP (m:List Int) (i:Nat):Prop:=∀ j:Nat,j<i→inR 0 ((m.length:Int)-1) (atI m j)=true∧atI m j≠j∧atI m (atI m j)=j
instance {m:List Int} {i:Nat}:Decidable (mtP m i):=by unfold mtP; infer_instance
def matF (m:List Int):Bool:=decide (m.length≤16)&&decide (mtP m m.length)
theorem matF_f {m:List Int} (h:¬ mtP m m.length):matF m=false:=by simp [matF,h]
theorem matF_t {m:List Int} (h:matF m=true):m.length≤16∧mtP m m.length:=by simpa [matF] using h
theorem match_i [HA K] {m:List Int} (h:m.length≤1099511627776):K 380 [LI m] [.b (matF m)]:=by
 refine body_by (f:=ir_impl_IsMatching) rfl ?_; simp only [ir_impl_IsMatching,zn,zs,zq,zi,zg,zp]
 by_cases hl:m.length≤16
 ·simp (disch:=omega) only [vcd]
  refine loop_ix (fun i=>mtP m i) (fun i=>[LI m,.u,.u,.u,.u,LI m,.n m.length,.n i,.u,.u]) m.length (by simp [mtP]) rfl (fun i hi hP=>?_) (fun hP=>?_)
  ·simp (disch:=omega) only [vcd]
   cases hr:inR 0 ((m.length:Int)-1) (atI m i)
   ·repeat (first | (refine call_by (within_ok (K:=K)) rfl ?_; try simp (disch:=omega) only [vcd,hr]))
    rw [matF_f fun q=>by have:=(q i hi).1; rw [hr] at this; cases this]
   ·have hb:=inR_iff.1 hr
    repeat (first | (refine call_by (within_ok (K:=K)) rfl ?_; try simp (disch:=omega) only [vcd,hr]))
    by_cases h1:atI m i=i
    ·simp (disch:=omega) only [vcd,h1]
     rw [matF_f fun q=>(q i hi).2.1 h1]
    ·simp (disch:=omega) only [vcd]
     by_cases h2:atI m (atI m i)=i
     ·simp (disch:=omega) only [vcd]
      exact all_s hP ⟨hr,h1,h2⟩
     ·simp (disch:=omega) only [vcd]
      rw [matF_f fun q=>h2 (q i hi).2.2]
  ·simp (disch:=omega) only [vcd]
   simp [matF,hl,hP]
 ·simp (disch:=omega) only [vcd]
  simp [matF,hl]
theorem match_s [HA K] {m:List Int} (h:m.length≤1099511627776):K 379 [LI m] [.b (matF m)]:=by
 refine body_by (f:=ir_spec_IsMatching) rfl ?_; simp only [ir_spec_IsMatching,zn,zs,zq,zi,zg,zp]
 simp (disch:=omega) only [vcd]
 refine loop_ix (fun i=>mtP m i) (fun i=>[LI m,.u,.n i,.u,.u]) m.length (by simp [mtP]) rfl (fun i hi hP=>?_) (fun hP=>?_)
 ·simp (disch:=omega) only [vcd]
  cases hr:inR 0 ((m.length:Int)-1) (atI m i)
  ·repeat (first | (refine call_by (l1In_ok (K:=K)) rfl ?_; try simp (disch:=omega) only [vcd,hr]))
   rw [matF_f fun q=>by have:=(q i hi).1; rw [hr] at this; cases this]
  ·have hb:=inR_iff.1 hr
   repeat (first | (refine call_by (l1In_ok (K:=K)) rfl ?_; try simp (disch:=omega) only [vcd,hr]))
   by_cases h1:atI m i=i
   ·simp (disch:=omega) only [vcd,h1]
    rw [matF_f fun q=>(q i hi).2.1 h1]
   ·simp (disch:=omega) only [vcd]
    by_cases h2:atI m (atI m i)=i
    ·simp (disch:=omega) only [vcd]
     exact all_s hP ⟨hr,h1,h2⟩
    ·simp (disch:=omega) only [vcd]
     rw [matF_f fun q=>h2 (q i hi).2.2]
 ·simp (disch:=omega) only [vcd]
  simp [matF,hP]
  omega
def sumU (g:Nat→Nat):Nat→Nat
 | 0=>0
 | n+1=>sumU g n+g n
theorem sumU_le {g:Nat→Nat} {b:Nat} (h:∀ i,g i≤b):∀ n,sumU g n≤n*b
 | 0=>by simp [sumU]
 | n+1=>by
  have:=sumU_le h n
  have:=h n
  simp only [sumU,Nat.succ_mul]; omega
theorem sumU_0 {g:Nat→Nat}:∀ {n},(∀ i,i<n→g i=0)→sumU g n=0
 | 0,_=>rfl
 | n+1,h=>by
  simp only [sumU]
  rw [sumU_0 fun i hi=>h i (by omega),h n (by omega)]
def crB (m:List Int) (a b:Nat):Nat:=if (a:Int)<b∧(b:Int)<atI m a∧atI m a<atI m b then 1 else 0
def crF (m:List Int):Nat:=sumU (fun a=>sumU (crB m a) m.length) m.length
theorem crB_le {m:List Int} {a b:Nat}:crB m a b≤1:=by unfold crB; split <;> omega
def neB (m:List Int) (a b:Nat):Nat:=if (a:Int)<b∧(b:Int)<atI m b∧¬ atI m a<atI m b∧(b:Int)<atI m a then 1 else 0
theorem neB_le {m:List Int} {a b:Nat}:neB m a b≤1:=by unfold neB; split <;> omega
def neF (m:List Int):Nat:=sumU (fun a=>sumU (neB m a) m.length) m.length
theorem cross_s [HA K] {m:List Int} (h:m.length≤1099511627776):K 369 [LI m] [.n (if matF m=true then (crF m:Int) else -1)]:=by
 refine body_by (f:=ir_spec_CrossingsOf) rfl ?_; simp only [ir_spec_CrossingsOf,zn,zs,zq,zi,zg,zp]
 simp (disch:=omega) only [vcd]
 refine call_by (match_s (K:=K) h) rfl ?_
 cases hm:matF m
 ·simp (disch:=omega) only [vcd]
  simp
 ·have hl:=(matF_t hm).1
  rw [if_pos rfl]
  simp (disch:=omega) only [vcd]
  refine loop_up (fun i (c:Nat)=>c=sumU (fun a=>sumU (crB m a) m.length) i) (fun i c=>[LI m,.u,.n c,.n i,.u,.u,.u,.u,.u]) m.length 0 rfl rfl (fun i c hi hP=>?_) (fun c hP=>?_)
  ·subst hP
   have hb:=sumU_le (g:=fun a=>sumU (crB m a) m.length) (b:=16) (fun a=>by have:=sumU_le (g:=crB m a) (b:=1) (fun _=>crB_le) m.length; omega) i
   have h0:sumU (crB m i) (i+1)=0:=sumU_0 fun b hb=>by unfold crB; rw [if_neg (by omega)]
   simp (disch:=omega) only [vcd]
   refine loop_wh (fun (x:Nat×Nat)=>(i+1≤x.1∧x.1≤m.length)∧x.2=sumU (crB m i) x.1) (fun x=>[LI m,.u,.n (sumU (fun a=>sumU (crB m a) m.length) i+x.2:Nat),.n i,.n x.1,.u,.u,.u,.u]) (fun x=>m.length-x.1) (i+1,0) ⟨by omega,h0.symm⟩ rfl ?_
   rintro ⟨k,c⟩ ⟨hk,hc0⟩
   simp only at hk hc0 ⊢
   subst hc0
   have hc:=sumU_le (g:=crB m i) (b:=1) (fun _=>crB_le) k
   by_cases hkl:k<m.length
   ·have e1:sumU (crB m i) (k+1)=sumU (crB m i) k+crB m i k:=rfl
    by_cases q1:(k:Int)<atI m i
    ·by_cases q2:atI m i<atI m k
     ·have e2:crB m i k=1:=if_pos (by omega)
      simp (disch:=omega) only [vcd]
      exact ⟨(k+1,sumU (crB m i) (k+1)),by show m.length-(k+1)<m.length-k; omega,⟨by show i+1≤k+1∧k+1≤m.length; omega,rfl⟩,by rw [e1,e2]; simp; omega⟩
     ·have e2:crB m i k=0:=if_neg (by omega)
      simp (disch:=omega) only [vcd]
      exact ⟨(k+1,sumU (crB m i) (k+1)),by show m.length-(k+1)<m.length-k; omega,⟨by show i+1≤k+1∧k+1≤m.length; omega,rfl⟩,by rw [e1,e2]; simp⟩
    ·have e2:crB m i k=0:=if_neg (by omega)
     simp (disch:=omega) only [vcd]
     exact ⟨(k+1,sumU (crB m i) (k+1)),by show m.length-(k+1)<m.length-k; omega,⟨by show i+1≤k+1∧k+1≤m.length; omega,rfl⟩,by rw [e1,e2]; simp⟩
   ·obtain rfl:k=m.length:=by omega
    simp (disch:=omega) only [vcd]
    exact ⟨_,rfl,rfl⟩
  ·subst hP
   simp (disch:=omega) only [vcd]
   rfl
theorem arcs_i [HA K] {m:List Int} (hl:m.length≤16):K 381 [LI m] [.n (crF m),.n (neF m)]:=by
 refine body_by (f:=ir_impl_arcs) rfl ?_; simp only [ir_impl_arcs,zn,zs,zq,zi,zg,zp]
 simp (disch:=omega) only [vcd]
 refine loop_up (fun i (c:Nat×Nat)=>c.1=sumU (fun a=>sumU (crB m a) m.length) i∧c.2=sumU (fun a=>sumU (neB m a) m.length) i) (fun i c=>[LI m,.u,.u,.n c.1,.n c.2,.u,.u,.u,.u,LI m,.n m.length,.n i,.u,.u,.u,.u,.u,.u,.u]) m.length (0,0) ⟨rfl,rfl⟩ rfl (fun i c hi hP=>?_) (fun c hP=>?_)
 ·obtain ⟨c1,c2⟩:=c
  obtain ⟨hc1,hc2⟩:=hP
  simp only at hc1 hc2
  have hb:=sumU_le (g:=fun a=>sumU (crB m a) m.length) (b:=16) (fun a=>by have:=sumU_le (g:=crB m a) (b:=1) (fun _=>crB_le) m.length; omega) i
  have hb2:=sumU_le (g:=fun a=>sumU (neB m a) m.length) (b:=16) (fun a=>by have:=sumU_le (g:=neB m a) (b:=1) (fun _=>neB_le) m.length; omega) i
  rw [← hc1] at hb
  rw [← hc2] at hb2
  simp (disch:=omega) only [vcd]
  refine loop_up (fun k (c:Nat×Nat)=>c.1=c1+sumU (crB m i) k∧c.2=c2+sumU (neB m i) k) (fun k c=>[LI m,.u,.u,.n c.1,.n c.2,.n i,.n (atI m i),.u,.u,LI m,.n m.length,.n i,.u,LI m,.n m.length,.n k,.u,.u,.u]) m.length (c1,c2) ⟨rfl,rfl⟩ rfl (fun k c hk hP=>?_) (fun c hP=>?_)
  ·obtain ⟨d1,d2⟩:=c
   obtain ⟨hd1,hd2⟩:=hP
   simp only at hd1 hd2
   have e1:=sumU_le (g:=crB m i) (b:=1) (fun _=>crB_le) k
   have e2:=sumU_le (g:=neB m i) (b:=1) (fun _=>neB_le) k
   have f1:sumU (crB m i) (k+1)=sumU (crB m i) k+crB m i k:=rfl
   have f2:sumU (neB m i) (k+1)=sumU (neB m i) k+neB m i k:=rfl
   have none_:¬ ((i:Int)<k∧(k:Int)<atI m i∧(k:Int)<atI m k)→c1+sumU (crB m i) (k+1)=d1∧c2+sumU (neB m i) (k+1)=d2:=by
    intro q
    have g1:crB m i k=0:=if_neg (by omega)
    have g2:neB m i k=0:=if_neg (by omega)
    rw [f1,f2,g1,g2]; omega
   by_cases p1:(i:Int)<atI m i
   ·by_cases p2:(k:Int)<atI m k
    ·by_cases p3:i<k
     ·by_cases p4:(k:Int)<atI m i
      ·by_cases p5:atI m i<atI m k
       ·have g1:crB m i k=1:=if_pos (by omega)
        have g2:neB m i k=0:=if_neg (by omega)
        simp (disch:=omega) only [vcd]
        exact ⟨(d1+1,d2),⟨by rw [f1,g1]; show d1+1=_; omega,by rw [f2,g2]; show d2=_; omega⟩,rfl⟩
       ·have g1:crB m i k=0:=if_neg (by omega)
        have g2:neB m i k=1:=if_pos (by omega)
        simp (disch:=omega) only [vcd]
        exact ⟨(d1,d2+1),⟨by rw [f1,g1]; show d1=_; omega,by rw [f2,g2]; show d2+1=_; omega⟩,rfl⟩
      ·simp (disch:=omega) only [vcd]
       obtain ⟨g1,g2⟩:=none_ (by omega)
       exact ⟨(d1,d2),⟨g1.symm,g2.symm⟩,rfl⟩
     ·simp (disch:=omega) only [vcd]
      obtain ⟨g1,g2⟩:=none_ (by omega)
      exact ⟨(d1,d2),⟨g1.symm,g2.symm⟩,rfl⟩
    ·simp (disch:=omega) only [vcd]
     obtain ⟨g1,g2⟩:=none_ (by omega)
     exact ⟨(d1,d2),⟨g1.symm,g2.symm⟩,rfl⟩
   ·simp (disch:=omega) only [vcd]
    obtain ⟨g1,g2⟩:=none_ (by omega)
    exact ⟨(d1,d2),⟨g1.symm,g2.symm⟩,rfl⟩
  ·obtain ⟨d1,d2⟩:=c
   obtain ⟨hd1,hd2⟩:=hP
   simp only at hd1 hd2
   simp (disch:=omega) only [vcd]
   exact ⟨(d1,d2),⟨by rw [hd1,hc1]; rfl,by rw [hd2,hc2]; rfl⟩,rfl⟩
 ·obtain ⟨c1,c2⟩:=c
  obtain ⟨hc1,hc2⟩:=hP
  simp only at hc1 hc2
  simp (disch:=omega) only [vcd]
  rw [hc1,hc2]
  rfl
theorem cross_i [HA K] {m:List Int} (h:m.length≤1099511627776):K 372 [LI m] [.n (if matF m=true then (crF m:Int) else -1)]:=by
 refine body_by (f:=ir_impl_CrossingsOf) rfl ?_; simp only [ir_impl_CrossingsOf,zn,zs,zq,zi,zg,zp]
 simp (disch:=omega) only [vcd]
 refine call_by (match_i (K:=K) h) rfl ?_
 cases hm:matF m
 ·simp (disch:=omega) only [vcd]
  simp
 ·have hl:=(matF_t hm).1
  rw [if_pos rfl]
  simp (disch:=omega) only [vcd]
  refine call_by (arcs_i (K:=K) hl) rfl ?_
  simp (disch:=omega) only [vcd]
def ncmF (m:List Int):Bool:=matF m&&decide (crF m=0)
theorem ncm_e {m:List Int}:decide ((if matF m=true then (crF m:Int) else -1)=0)=ncmF m:=by
 unfold ncmF
 cases matF m
 ·rfl
 ·simp
theorem ncm_i [HA K] {m:List Int} (h:m.length≤1099511627776):K 358 [LI m] [.b (ncmF m)]:=by
 refine body_by (f:=ir_impl_IsNoncrossingMatching) rfl ?_; simp only [ir_impl_IsNoncrossingMatching,zn,zs,zq,zi,zg,zp]
 simp (disch:=omega) only [vcd]
 refine call_by (cross_i (K:=K) h) rfl ?_
 simp (disch:=omega) only [vcd,ncm_e]
theorem ncm_s [HA K] {m:List Int} (h:m.length≤1099511627776):K 355 [LI m] [.b (ncmF m)]:=by
 refine body_by (f:=ir_spec_IsNoncrossingMatching) rfl ?_; simp only [ir_spec_IsNoncrossingMatching,zn,zs,zq,zi,zg,zp]
 simp (disch:=omega) only [vcd]
 refine call_by (cross_s (K:=K) h) rfl ?_
 simp (disch:=omega) only [vcd,ncm_e]
end Go.Cat
