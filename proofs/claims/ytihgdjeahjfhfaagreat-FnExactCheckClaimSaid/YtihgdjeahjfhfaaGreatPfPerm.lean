/-
 Permutations.
-/
import Derived.Test.YtihgdjeahjfhfaaGreatPfIn
import Derived.Test.YtihgdjeahjfhfaaGreatIrHas
set_option linter.unusedSimpArgs false
set_option linter.unusedVariables false
namespace Go.Cat
variable {K:Nat→List D→List D→Prop}
def permP (p:List Int) (i:Nat):Prop:=∀ j:Nat,j<i→inR 0 ((p.length:Int)-1) (atI p j)=true∧∀ k:Nat,k<j→atI p k≠atI p j
instance {p:List Int} {i:Nat}:Decidable (permP p i):=by unfold permP; infer_instance
def permF (p:List Int):Bool:=decide (p.length≤8)&&decide (permP p p.length)
theorem permF_f {p:List Int} (h:¬ permP p p.length):permF p=false:=by simp [permF,h]
theorem permF_t {p:List Int} (h:permF p=true):p.length≤8∧permP p p.length:=by simpa [permF] using h
theorem perm_i [HA K] {p:List Int} (h:p.length≤1099511627776):K 74 [LI p] [.b (permF p)]:=by
 refine body_by (f:=ir_impl_IsPermutation) rfl ?_; simp only [ir_impl_IsPermutation,zn,zs,zq,zi,zg,zp]
 by_cases hl:p.length≤8
 ·simp (disch:=omega) only [vcd]
  refine loop_up (fun i (s:List Bool)=>s.length=p.length∧permP p i∧∀ x:Nat,x<p.length→(atT s x=true↔∃ j:Nat,j<i∧atI p j=x)) (fun i s=>[LI p,.u,LT s,.u,.u,LI p,.n p.length,.n i,.u,.u]) p.length (rep p.length false) ⟨by simp [rep],by simp [permP],by intro x hx; simp [atT,rep,hx]⟩ rfl (fun i s hi hP=>?_) (fun s hP=>?_)
  ·obtain ⟨h1,h2,h3⟩:=hP
   simp (disch:=omega) only [vcd]
   cases hr:inR 0 ((p.length:Int)-1) (atI p i)
   ·repeat (first | (refine call_by (within_ok (K:=K)) rfl ?_; try simp (disch:=omega) only [vcd,hr]))
    rw [permF_f fun q=>by have:=(q i hi).1; rw [hr] at this; cases this]
   ·have hb:=inR_iff.1 hr
    obtain ⟨n,hn⟩:=qoz hb.1
    have hnl:n<p.length:=by omega
    have h3n:=h3 n hnl
    cases ht:atT s (atI p i)
    ·repeat (first | (refine call_by (within_ok (K:=K)) rfl ?_; try simp (disch:=omega) only [vcd,hr,ht]))
     refine ⟨_,⟨by rw [seT_len,h1],all_s h2 ⟨hr,fun k hk e=>?_⟩,fun x hx=>?_⟩,rfl⟩
     ·rw [hn] at ht
      have:=h3n.2 ⟨k,hk,by rw [e,hn]⟩
      rw [ht] at this; cases this
     ·rw [hn,atT_set (by omega)]
      split
      ·rename_i e; subst e
       simp only [true_iff]
       exact ⟨i,by omega,hn⟩
      ·rename_i e
       rw [h3 x hx]
       constructor
       ·rintro ⟨j,hj,hj2⟩; exact ⟨j,by omega,hj2⟩
       ·rintro ⟨j,hj,hj2⟩
        refine ⟨j,?_,hj2⟩
        rcases qlg j i with q | q
        ·exact q
        ·obtain rfl:j=i:=by omega
         rw [hn] at hj2; omega
    ·repeat (first | (refine call_by (within_ok (K:=K)) rfl ?_; try simp (disch:=omega) only [vcd,hr,ht]))
     rw [hn] at ht
     obtain ⟨j,hj,hj2⟩:=h3n.1 ht
     rw [permF_f fun q=>(q i hi).2 j hj (by rw [hj2,hn])]
  ·obtain ⟨h1,h2,h3⟩:=hP
   simp (disch:=omega) only [vcd]
   simp [permF,hl,h2]
 ·simp (disch:=omega) only [vcd]
  simp [permF,hl]
theorem perm_s [HA K] {p:List Int} (h:p.length≤1099511627776):K 73 [LI p] [.b (permF p)]:=by
 refine body_by (f:=ir_spec_IsPermutation) rfl ?_; simp only [ir_spec_IsPermutation,zn,zs,zq,zi,zg,zp]
 simp (disch:=omega) only [vcd]
 refine loop_ix (fun i=>permP p i) (fun i=>[LI p,.u,.n i,.u,.u,.u,.u,.u]) p.length (by simp [permP]) rfl (fun i hi hP=>?_) (fun hP=>?_)
 ·simp (disch:=omega) only [vcd]
  cases hr:inR 0 ((p.length:Int)-1) (atI p i)
  ·repeat (first | (refine call_by (l1In_ok (K:=K)) rfl ?_; try simp (disch:=omega) only [vcd,hr]))
   rw [permF_f fun q=>by have:=(q i hi).1; rw [hr] at this; cases this]
  ·repeat (first | (refine call_by (l1In_ok (K:=K)) rfl ?_; try simp (disch:=omega) only [vcd,hr]))
   refine loop_ix (fun k=>∀ j:Nat,j<k→atI p j≠atI p i) (fun k=>[LI p,.u,.n i,.n k,.u,.u,.u,.u]) i (by simp) rfl (fun k hk hQ=>?_) (fun hQ=>?_)
   ·by_cases he:atI p k=atI p i
    ·simp (disch:=omega) only [vcd]
     rw [permF_f fun q=>(q i hi).2 k hk he]
    ·simp (disch:=omega) only [vcd]
     exact all_s hQ he
   ·simp (disch:=omega) only [vcd]
    exact all_s hP ⟨hr,hQ⟩
 ·by_cases hl:p.length≤8
  ·simp (disch:=omega) only [vcd]
   simp [permF,hP,hl]
  ·simp (disch:=omega) only [vcd]
   simp [permF,hl]
end Go.Cat
