/-
 The path of a rank: the walks.
-/
import Derived.Test.YtdifmcppfcbgdaaGreatPfRank
set_option linter.unusedSimpArgs false
set_option linter.unusedVariables false
namespace Go.Cat
variable {K:Nat→List D→List D→Prop}
set_option maxRecDepth 100000
theorem unr_lt:∀ (n u d k:Nat),∀ c∈unr n u d k,c<256
 | 0,_,_,_,c,h=>by simp [unr] at h
 | n+1,u,d,k,c,h=>by
  unfold unr at h
  split at h
  ·rcases qmn.1 h with rfl | h
   ·omega
   ·exact unr_lt n _ _ _ c h
  ·rcases qmn.1 h with rfl | h
   ·omega
   ·exact unr_lt n _ _ _ c h
theorem unr_u {u d k:Nat} (hk:k<bw u d):unr (u+1+d) (u+1) d k=117::unr (u+d) u d k:=by
 rw [show u+1+d=(u+d)+1 by omega]
 rw [unr,if_pos (show k<fsU (u+1) d from hk),Nat.add_sub_cancel]
theorem unr_d {u d k:Nat} (hk:fsU u (d+1)≤k):unr (u+(d+1)) u (d+1) k=100::unr (u+d) u d (k-fsU u (d+1)):=by
 rw [show u+(d+1)=(u+d)+1 by omega]
 rw [unr,if_neg (by omega),Nat.add_sub_cancel]
theorem unO_in {n:Nat} {k:Nat} (h:n≤8) (hk:k<bw n n):unO n k=true:=by
 simp only [unO,qde,qtn]; omega
theorem unRR_in {n:Nat} {k:Nat} (h:n≤8) (hk:k<bw n n):unRR n k=unr (n+n) n n k:=by
 simp only [unRR,unO_in h hk,if_true,qtn]
 rw [show 2*n=n+n by omega]
theorem unRR_out {n k:Int} (h:unO n k=false):unRR n k=[]:=by simp [unRR,h]
theorem un_i [HA K] {a b:Int}:K 271 [.n a,.n b] [.s (unRR a b),.b (unO a b)]:=by
 refine body_by (f:=ir_impl_UnrankPath) rfl ?_; simp only [ir_impl_UnrankPath,zn,zs,zq,zi,zg,zp]
 simp (disch:=first|omega|simp only[vl];omega) only [vcd]
 refine call_by (within_ok (K:=K)) rfl ?_
 cases h1:inR 0 8 a
 ·have ho:unO a b=false:=by
   have:=inR_f.1 h1
   simp only [unO,decide_eq_false_iff_not]; omega
  simp (disch:=first|omega|simp only[vl];omega) only [vcd]
  rw [unRR_out ho,ho]
 ·have h1:=inR_iff.1 h1
  obtain ⟨n,rfl⟩:=qoz h1.1
  have hc:=bw_cat (n:=n) (by omega)
  have hm:=bw_max (u:=n) (d:=n) (by omega) (by omega)
  simp (disch:=first|omega|simp only[vl];omega) only [vcd]
  refine call_by (cat_i (K:=K) (n:=n) (by omega)) rfl ?_
  rw [← hc]
  simp (disch:=first|omega|simp only[vl];omega) only [vcd]
  refine call_by (within_ok (K:=K)) rfl ?_
  cases h2:inR 0 ((bw n n:Int)-1) b
  ·have ho:unO n b=false:=by
    have:=inR_f.1 h2
    simp only [unO,decide_eq_false_iff_not,qtn]; omega
   simp (disch:=first|omega|simp only[vl];omega) only [vcd]
   rw [unRR_out ho,ho]
  ·have h2:=inR_iff.1 h2
   obtain ⟨k0,rfl⟩:=qoz h2.1
   have hk0:k0<bw n n:=by omega
   rw [unRR_in (by omega) hk0,unO_in (by omega) hk0]
   simp (disch:=first|omega|simp only[vl];omega) only [vcd,LB_nil]
   refine loop_wh (fun (x:List Nat×Nat×Nat×Nat)=>x.2.1≤x.2.2.1∧x.2.2.1≤8∧x.2.2.2<bw x.2.1 x.2.2.1∧x.1++unr (x.2.1+x.2.2.1) x.2.1 x.2.2.1 x.2.2.2=unr (n+n) n n k0∧x.1.length+x.2.1+x.2.2.1=2*n) (fun x=>[.u,.n x.2.2.2,.u,.u,LB x.1,.n x.2.1,.n x.2.2.1,.u,.u,.u,.u,.u]) (fun x=>x.2.1+x.2.2.1) ([],n,n,k0) ⟨by simp,by simp only; omega,hk0,by simp,by simp; omega⟩ rfl ?_
   rintro ⟨w,u,d,k⟩ ⟨g1,g2,g3,g4,g5⟩
   simp only at g1 g2 g3 g4 g5 ⊢
   cases d with
   | zero=>
    have hu:u=0:=by omega
    subst hu
    simp only [unr,List.append_nil] at g4
    have hb:=unr_lt (n+n) n n k0
    rw [← g4] at hb
    rw [← g4]
    simp (disch:=first|omega|simp only[vl];omega) only [vcd,LB_bs hb]
   | succ d=>
    have hm2:=bw_max (u:=u) (d:=d+1) (by omega) (by omega)
    have hs:=bw_split g1 (by omega)
    simp only [Nat.add_sub_cancel] at hs
    have hlow:¬ u≤d→bw u d=0:=fun h=>bw_low (by omega)
    cases u with
    | zero=>
     have hf:fsU 0 (d+1)=0:=rfl
     rw [unr_d (by omega),hf] at g4
     simp (disch:=first|omega|simp only[vl];omega) only [vcd]
     exact ⟨(w++[100],0,d,k-0),by simp only; omega,⟨by simp only; omega,by simp only; omega,by simp only; omega,by simp only; rw [← g4]; simp,by simp; omega⟩,by simp⟩
    | succ u=>
     have hf:fsU (u+1) (d+1)=bw u (d+1):=rfl
     simp (disch:=first|omega|simp only[vl];omega) only [vcd,qas]
     refine call_by (bl_i (K:=K) (u:=u) (d:=d+1) (by omega) (by omega)) rfl ?_
     by_cases hk:k<bw u (d+1)
     ·rw [unr_u hk] at g4
      simp (disch:=first|omega|simp only[vl];omega) only [vcd,qas]
      exact ⟨(w++[117],u,d+1,k),by simp only; omega,⟨by simp only; omega,by simp only; omega,hk,by simp only; rw [← g4]; simp,by simp; omega⟩,by simp⟩
     ·rw [unr_d (by omega),hf] at g4
      simp (disch:=first|omega|simp only[vl];omega) only [vcd]
      have hud:u+1≤d:=by
       rcases qlg d (u+1) with q | q
       ·have:=hlow (by omega); omega
       ·exact q
      exact ⟨(w++[100],u+1,d,k-bw u (d+1)),by simp only; omega,⟨by simp only; omega,by simp only; omega,by simp only; omega,by simp only; rw [← g4]; simp,by simp; omega⟩,by simp only [Int.natCast_sub]; simp; omega⟩
theorem un_s [HA K] {a b:Int}:K 272 [.n a,.n b] [.s (unRR a b),.b (unO a b)]:=by
 refine body_by (f:=ir_spec_UnrankPath) rfl ?_; simp only [ir_spec_UnrankPath,zn,zs,zq,zi,zg,zp]
 simp (disch:=first|omega|simp only[vl];omega) only [vcd]
 refine call_by (l1In_ok (K:=K)) rfl ?_
 cases h1:inR 0 8 a
 ·have ho:unO a b=false:=by
   have:=inR_f.1 h1
   simp only [unO,decide_eq_false_iff_not]; omega
  simp (disch:=first|omega|simp only[vl];omega) only [vcd]
  rw [unRR_out ho,ho]
 ·have h1:=inR_iff.1 h1
  obtain ⟨n,rfl⟩:=qoz h1.1
  have hc:=bw_cat (n:=n) (by omega)
  have hm:=bw_max (u:=n) (d:=n) (by omega) (by omega)
  by_cases hb0:b<0
  ·have ho:unO n b=false:=by simp only [unO,decide_eq_false_iff_not]; omega
   simp (disch:=first|omega|simp only[vl];omega) only [vcd]
   rw [unRR_out ho,ho]
  simp (disch:=first|omega|simp only[vl];omega) only [vcd]
  refine call_by (cat_s (K:=K) (n:=n) (by omega)) rfl ?_
  rw [← hc]
  by_cases h2:(bw n n:Int)≤b
  ·have ho:unO n b=false:=by simp only [unO,decide_eq_false_iff_not,qtn]; omega
   simp (disch:=first|omega|simp only[vl];omega) only [vcd]
   rw [unRR_out ho,ho]
  ·obtain ⟨k0,rfl⟩:=qoz (show 0≤b by omega)
   have hk0:k0<bw n n:=by omega
   rw [unRR_in (by omega) hk0,unO_in (by omega) hk0]
   simp (disch:=first|omega|simp only[vl];omega) only [vcd]
   refine loop_wh (fun (x:List Nat×Nat×Nat×Nat)=>x.2.1≤x.2.2.1∧x.2.2.1≤8∧x.2.2.2<bw x.2.1 x.2.2.1∧x.1++unr (x.2.1+x.2.2.1) x.2.1 x.2.2.1 x.2.2.2=unr (n+n) n n k0∧x.1.length+x.2.1+x.2.2.1=2*n) (fun x=>[.u,.n x.2.2.2,.u,.u,.s x.1,.n x.2.1,.n x.2.2.1,.u,.u,.u,.u,.u]) (fun x=>x.2.1+x.2.2.1) ([],n,n,k0) ⟨by simp,by simp only; omega,hk0,by simp,by simp; omega⟩ rfl ?_
   rintro ⟨w,u,d,k⟩ ⟨g1,g2,g3,g4,g5⟩
   simp only at g1 g2 g3 g4 g5 ⊢
   cases d with
   | zero=>
    have hu:u=0:=by omega
    subst hu
    simp only [unr,List.append_nil] at g4
    rw [← g4]
    simp (disch:=first|omega|simp only[vl];omega) only [vcd]
   | succ d=>
    have hm2:=bw_max (u:=u) (d:=d+1) (by omega) (by omega)
    have hs:=bw_split g1 (by omega)
    simp only [Nat.add_sub_cancel] at hs
    have hlow:¬ u≤d→bw u d=0:=fun h=>bw_low (by omega)
    cases u with
    | zero=>
     have hf:fsU 0 (d+1)=0:=rfl
     rw [unr_d (by omega),hf] at g4
     simp (disch:=first|omega|simp only[vl];omega) only [vcd]
     exact ⟨(w++[100],0,d,k-0),by simp only; omega,⟨by simp only; omega,by simp only; omega,by simp only; omega,by simp only; rw [← g4]; simp,by simp; omega⟩,by simp⟩
    | succ u=>
     have hf:fsU (u+1) (d+1)=bw u (d+1):=rfl
     simp (disch:=first|omega|simp only[vl];omega) only [vcd,qas]
     refine call_by (bl_w (K:=K) (u:=u) (d:=d+1) (by omega) (by omega)) rfl ?_
     by_cases hk:k<bw u (d+1)
     ·rw [unr_u hk] at g4
      simp (disch:=first|omega|simp only[vl];omega) only [vcd,qas]
      exact ⟨(w++[117],u,d+1,k),by simp only; omega,⟨by simp only; omega,by simp only; omega,hk,by simp only; rw [← g4]; simp,by simp; omega⟩,by simp⟩
     ·rw [unr_d (by omega),hf] at g4
      simp (disch:=first|omega|simp only[vl];omega) only [vcd]
      have hud:u+1≤d:=by
       rcases qlg d (u+1) with q | q
       ·have:=hlow (by omega); omega
       ·exact q
      exact ⟨(w++[100],u+1,d,k-bw u (d+1)),by simp only; omega,⟨by simp only; omega,by simp only; omega,by simp only; omega,by simp only; rw [← g4]; simp,by simp; omega⟩,by simp only [Int.natCast_sub]; simp; omega⟩
end Go.Cat
