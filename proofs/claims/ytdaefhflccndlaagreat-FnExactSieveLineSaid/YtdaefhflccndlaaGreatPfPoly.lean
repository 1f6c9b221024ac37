/-
 Polynomials: what is one, sums, products, quotients, values.
-/
import Derived.Test.YtdaefhflccndlaaGreatPfIn
import Derived.Test.YtdaefhflccndlaaGreatPfH
import Derived.Test.YtdaefhflccndlaaGreatPfClaim
import Derived.Test.YtdaefhflccndlaaGreatIrHas
set_option linter.unusedSimpArgs false
set_option linter.unusedVariables false
namespace Go.Cat
variable {K:Nat→List D→List D→Prop}
def polF (p:List Int):Bool:=p.all (inR (-1000000000) 1000000000)&&(decide (p.length≤61)&&(decide (p.length=0) || !decide (atI p ((p.length:Int)-1)=0)))
def smlF (p:List Int):Bool:=p.all (inR (-100000) 100000)&&polF p
theorem polF_at {p:List Int} (h:polF p=true) {i:Nat} (hi:i<p.length):-1000000000≤atI p i∧atI p i≤1000000000:=by
 simp only [polF,qba,qat] at h
 exact inR_iff.1 (h.1 _ (by simp [atI,hi]))
theorem polF_len {p:List Int} (h:polF p=true):p.length≤61:=by
 simp only [polF,qba,qde] at h
 exact h.2.1
theorem poly_i [HA K] {p:List Int} (h:p.length≤1099511627776):K 428 [LI p] [.b (polF p)]:=by
 refine body_by (f:=ir_impl_IsPolynomial) rfl ?_; simp only [ir_impl_IsPolynomial,zn,zs,zq,zi,zg,zp]
 by_cases h1:61<p.length
 ·simp (disch:=first|omega|simp only[vl];omega) only [vcd]
  exact Db (by simp [polF]; intros; omega)
 ·by_cases hz:p.length≠0∧atI p ((p.length:Int)-1)=0
  ·simp (disch:=first|omega|simp only[vl];omega) only [vcd,hz.2]
   exact Db (by simp [polF,hz.1,hz.2])
  ·by_cases h0:p.length=0
   ·simp (disch:=first|omega|simp only[vl];omega) only [vcd,h0]
    refine loop_ix (fun i=>True) (fun i=>[.u,.u,.u,.u,LI p,.n p.length,.n i,.u,.u]) 0 trivial (by simp [h0]) (fun i hi hP=>by omega) (fun hP=>?_)
    simp (disch:=first|omega|simp only[vl];omega) only [vcd]
    have:p=[]:=qez h0
    subst this
    exact Db rfl
   ·have hq:¬ atI p ((p.length:Int)-1)=0:=fun q=>hz ⟨h0,q⟩
    simp (disch:=first|omega|simp only[vl];omega) only [vcd]
    refine loop_ix (fun i=>∀ j:Nat,j<i→inR (-1000000000) 1000000000 (atI p j)=true) (fun i=>[.u,.u,.u,.u,LI p,.n p.length,.n i,.u,.u]) p.length (by simp) rfl (fun i hi hP=>?_) (fun hP=>?_)
    ·simp (disch:=first|omega|simp only[vl];omega) only [vcd]
     refine call_by (within_ok (K:=K)) rfl ?_
     cases h2:inR (-1000000000) 1000000000 (atI p i)
     ·simp (disch:=first|omega|simp only[vl];omega) only [vcd]
      exact Db (by rw [polF,all_f hi h2]; rfl)
     ·simp (disch:=first|omega|simp only[vl];omega) only [vcd]
      exact all_s hP h2
    ·simp (disch:=first|omega|simp only[vl];omega) only [vcd]
     exact Db (by rw [polF,all_t hP]; simp [hq]; omega)
theorem poly_s [HA K] {p:List Int} (h:p.length≤1099511627776):K 429 [LI p] [.b (polF p)]:=by
 refine body_by (f:=ir_spec_IsPolynomial) rfl ?_; simp only [ir_spec_IsPolynomial,zn,zs,zq,zi,zg,zp]
 simp (disch:=first|omega|simp only[vl];omega) only [vcd]
 refine loop_ix (fun i=>∀ j:Nat,j<i→inR (-1000000000) 1000000000 (atI p j)=true) (fun i=>[LI p,.u,.n i,.u,.u]) p.length (by simp) rfl (fun i hi hP=>?_) (fun hP=>?_)
 ·simp (disch:=first|omega|simp only[vl];omega) only [vcd]
  refine call_by (l1In_ok (K:=K)) rfl ?_
  cases h2:inR (-1000000000) 1000000000 (atI p i)
  ·simp (disch:=first|omega|simp only[vl];omega) only [vcd]
   exact Db (by rw [polF,all_f hi h2]; rfl)
  ·simp (disch:=first|omega|simp only[vl];omega) only [vcd]
   exact all_s hP h2
 ·by_cases h1:61<p.length
  ·simp (disch:=first|omega|simp only[vl];omega) only [vcd]
   exact Db (by simp [polF]; intros; omega)
  ·by_cases h0:p.length=0
   ·simp (disch:=first|omega|simp only[vl];omega) only [vcd,h0]
    exact Db (by rw [polF,all_t hP]; simp [h0])
   ·by_cases hq:atI p ((p.length:Int)-1)=0
    ·simp (disch:=first|omega|simp only[vl];omega) only [vcd,hq]
     exact Db (by simp [polF,hq,h0])
    ·simp (disch:=first|omega|simp only[vl];omega) only [vcd]
     exact Db (by rw [polF,all_t hP]; simp [hq]; omega)
theorem fac_i [HA K] {p:List Int} (h:p.length≤1099511627776):K 460 [LI p] [.b (smlF p)]:=by
 refine body_by (f:=ir_impl_isFactor) rfl ?_; simp only [ir_impl_isFactor,zn,zs,zq,zi,zg,zp]
 simp (disch:=first|omega|simp only[vl];omega) only [vcd]
 refine loop_ix (fun i=>∀ j:Nat,j<i→inR (-100000) 100000 (atI p j)=true) (fun i=>[LI p,.u,.u,LI p,.n p.length,.n i,.u,.u]) p.length (by simp) rfl (fun i hi hP=>?_) (fun hP=>?_)
 ·simp (disch:=first|omega|simp only[vl];omega) only [vcd]
  refine call_by (within_ok (K:=K)) rfl ?_
  cases h2:inR (-100000) 100000 (atI p i)
  ·simp (disch:=first|omega|simp only[vl];omega) only [vcd]
   exact Db (by rw [smlF,all_f hi h2]; rfl)
  ·simp (disch:=first|omega|simp only[vl];omega) only [vcd]
   exact all_s hP h2
 ·simp (disch:=first|omega|simp only[vl];omega) only [vcd]
  refine call_by (poly_i (K:=K) h) rfl ?_
  simp (disch:=first|omega|simp only[vl];omega) only [vcd]
  exact Db (by rw [smlF,all_t hP]; simp)
theorem fac_s [HA K] {p:List Int} (h:p.length≤1099511627776):K 462 [LI p] [.b (smlF p)]:=by
 refine body_by (f:=ir_spec_l14Small) rfl ?_; simp only [ir_spec_l14Small,zn,zs,zq,zi,zg,zp]
 simp (disch:=first|omega|simp only[vl];omega) only [vcd]
 refine loop_ix (fun i=>∀ j:Nat,j<i→inR (-100000) 100000 (atI p j)=true) (fun i=>[LI p,.u,.n i,.u,.u]) p.length (by simp) rfl (fun i hi hP=>?_) (fun hP=>?_)
 ·simp (disch:=first|omega|simp only[vl];omega) only [vcd]
  refine call_by (l1In_ok (K:=K)) rfl ?_
  cases h2:inR (-100000) 100000 (atI p i)
  ·simp (disch:=first|omega|simp only[vl];omega) only [vcd]
   exact Db (by rw [smlF,all_f hi h2]; rfl)
  ·simp (disch:=first|omega|simp only[vl];omega) only [vcd]
   exact all_s hP h2
 ·simp (disch:=first|omega|simp only[vl];omega) only [vcd]
  refine call_by (poly_s (K:=K) h) rfl ?_
  simp (disch:=first|omega|simp only[vl];omega) only [vcd]
  exact Db (by rw [smlF,all_t hP]; simp)
def trN (p:List Int):Nat→Nat
 | 0=>0
 | n+1=>if atI p n=0 then trN p n else n+1
def trimF (p:List Int):List Int:=p.take (trN p p.length)
theorem trN_le {p:List Int}:∀ n,trN p n≤n
 | 0=>Nat.le_refl _
 | n+1=>by
  have:=trN_le (p:=p) n
  unfold trN; split <;> omega
theorem trimF_len {p:List Int}:(trimF p).length=trN p p.length:=by
 have:=trN_le (p:=p) p.length
 simp only [trimF,List.length_take]; omega
theorem sub_tk {α:Type} {p:List α} {n:Nat}:sub p 0 n=p.take n:=by simp [sub]
theorem trim_i [HA K] {p:List Int} (h:p.length≤1099511627776):K 469 [LI p] [LI (trimF p)]:=by
 refine body_by (f:=ir_impl_trimmed) rfl ?_; simp only [ir_impl_trimmed,zn,zs,zq,zi,zg,zp]
 simp (disch:=first|omega|simp only[vl];omega) only [vcd]
 refine loop_wh (fun (x:Nat)=>x≤p.length∧trN p x=trN p p.length) (fun x=>[LI p,.u,.n x,.u]) (fun x=>x) p.length ⟨Nat.le_refl _,rfl⟩ rfl ?_
 intro x hx
 cases x with
 | zero=>
  have e:trN p p.length=0:=hx.2.symm
  simp (disch:=first|omega|simp only[vl];omega) only [vcd]
  simp [trimF,e,sub]
 | succ x=>
  have ex:((x+1:Nat):Int)-1=x:=by omega
  have hx2:=hx.2
  simp only [trN] at hx2
  by_cases hz:atI p x=0
  ·rw [if_pos hz] at hx2
   simp (disch:=first|omega|simp only[vl];omega) only [vcd,qas,hz]
   exact ⟨x,by omega,⟨by omega,hx2⟩,rfl⟩
  ·rw [if_neg hz] at hx2
   simp (disch:=first|omega|simp only[vl];omega) only [vcd,qas]
   rw [show ((x:Int)+1)=((x+1:Nat):Int) by omega,sub_tk,trimF,← hx2]
theorem trim_s [HA K] {p:List Int} (h:p.length≤1099511627776):K 463 [LI p] [LI (trimF p)]:=by
 refine body_by (f:=ir_spec_l14Trim) rfl ?_; simp only [ir_spec_l14Trim,zn,zs,zq,zi,zg,zp]
 simp (disch:=first|omega|simp only[vl];omega) only [vcd]
 refine loop_wh (fun (x:Nat)=>x≤p.length∧trN p x=trN p p.length) (fun x=>[LI p,.u,.n x,.u]) (fun x=>x) p.length ⟨Nat.le_refl _,rfl⟩ rfl ?_
 intro x hx
 cases x with
 | zero=>
  have e:trN p p.length=0:=hx.2.symm
  simp (disch:=first|omega|simp only[vl];omega) only [vcd,LI_nil]
  simp [trimF,e,sub]
 | succ x=>
  have ex:((x+1:Nat):Int)-1=x:=by omega
  have hx2:=hx.2
  simp only [trN] at hx2
  by_cases hz:atI p x=0
  ·rw [if_pos hz] at hx2
   simp (disch:=first|omega|simp only[vl];omega) only [vcd,qas,hz]
   exact ⟨x,by omega,⟨by omega,hx2⟩,rfl⟩
  ·rw [if_neg hz] at hx2
   simp (disch:=first|omega|simp only[vl];omega) only [vcd,qas,LI_nil]
   rw [show ((x:Int)+1)=((x+1:Nat):Int) by omega,sub_tk,trimF,← hx2]
end Go.Cat
