/-
 Stack sorting again and again: sortable permutations, the number of passes.
-/
import Derived.Test.YtihgdjeahjfhfaaGreatPfSort
import Derived.Test.YtihgdjeahjfhfaaGreatIrHas
set_option linter.unusedSimpArgs false
set_option linter.unusedVariables false
namespace Go.Cat
variable {K:Nat→List D→List D→Prop}
def ascF (p:List Int):Bool:=decide (∀ j:Nat,j<p.length-1→atI p j≤atI p (j+1:Nat))
def idF (p:List Int):Bool:=decide (∀ j:Nat,j<p.length→atI p j=j)
theorem nan_ok [HA K] {x:Int}:K 211 [.n x] [.b false]:=by
 refine body_by (f:=ir_cmp_isNaN_int_) rfl ?_; simp only [ir_cmp_isNaN_int_,zn,zs,zq,zi,zg,zp]
 simp (disch:=first|omega|simp only[vl];omega) only [vcd]
theorem less_ok [HA K] {x y:Int}:K 203 [.n x,.n y] [.b (decide (x<y))]:=by
 refine body_by (f:=ir_cmp_Less_int_) rfl ?_; simp only [ir_cmp_Less_int_,zn,zs,zq,zi,zg,zp]
 simp (disch:=first|omega|simp only[vl];omega) only [vcd]
 repeat (first | (refine call_by (nan_ok (K:=K)) rfl ?_; try simp (disch:=first|omega|simp only[vl];omega) only [vcd]))
theorem isSorted_ok [HA K] {p:List Int} (h:p.length≤1000000000):K 178 [LI p] [.b (ascF p)]:=by
 refine body_by (f:=ir_slices_IsSorted___int_int_) rfl ?_; simp only [ir_slices_IsSorted___int_int_,zn,zs,zq,zi,zg,zp]
 simp (disch:=first|omega|simp only[vl];omega) only [vcd]
 by_cases h0:p.length=0
 ·refine loop_wh (fun (_:Unit)=>True) (fun _=>[LI p,.u,.n (-1),.u,.u]) (fun _=>0) () trivial (by simp [h0]) ?_
  intro _ _
  simp (disch:=first|omega|simp only[vl];omega) only [vcd]
  simp [ascF,h0]
 refine loop_wh (fun (i:Nat)=>i<p.length∧∀ j:Nat,i≤j→j<p.length-1→atI p j≤atI p (j+1:Nat)) (fun i=>[LI p,.u,.n i,.u,.u]) (fun i=>i) (p.length-1) ⟨by omega,fun j h1 h2=>by omega⟩ (by rw [show ((p.length-1:Nat):Int)=(p.length:Int)-1 by omega]) ?_
 rintro i ⟨h1,h2⟩
 cases i with
 | zero=>
  simp (disch:=first|omega|simp only[vl];omega) only [vcd]
  simp [ascF]
  exact fun j hj=>by have:=h2 j (by omega) hj; exact_mod_cast this
 | succ i=>
  simp (disch:=first|omega|simp only[vl];omega) only [vcd]
  refine call_by (less_ok (K:=K)) rfl ?_
  by_cases hc:atI p (i+1)<atI p i
  ·simp (disch:=first|omega|simp only[vl];omega) only [vcd,qas,hc]
   simp only [ascF]
   refine Db (decide_eq_false fun q=>?_)
   have:=q i (by omega)
   have e:((i+1:Nat):Int)=(i:Int)+1:=rfl
   rw [e] at this; omega
  ·simp (disch:=first|omega|simp only[vl];omega) only [vcd,qas,hc]
   refine ⟨i,by omega,⟨by omega,fun j hj hj2=>?_⟩,rfl⟩
   rcases qlg i j with q | q
   ·exact h2 j (by omega) hj2
   ·obtain rfl:j=i:=by omega
    show atI p j≤atI p ((j:Int)+1)
    omega
theorem ascends_ok [HA K] {p:List Int} (h:p.length≤1000000000):K 131 [LI p] [.b (ascF p)]:=by
 refine body_by (f:=ir_impl_ascends) rfl ?_; simp only [ir_impl_ascends,zn,zs,zq,zi,zg,zp]
 simp (disch:=first|omega|simp only[vl];omega) only [vcd]
 repeat (first | (refine call_by (isSorted_ok (K:=K) h) rfl ?_; try simp (disch:=first|omega|simp only[vl];omega) only [vcd]))
theorem sorted_ok [HA K] {p:List Int} (h:p.length≤1000000000):K 130 [LI p] [.b (idF p)]:=by
 refine body_by (f:=ir_spec_l31Sorted) rfl ?_; simp only [ir_spec_l31Sorted,zn,zs,zq,zi,zg,zp]
 simp (disch:=first|omega|simp only[vl];omega) only [vcd]
 refine loop_ix (fun i=>∀ j:Nat,j<i→atI p j=j) (fun i=>[LI p,.u,.n i,.u,.u]) p.length (by simp) rfl (fun i hi hP=>?_) (fun hP=>?_)
 ·by_cases hc:atI p i=i
  ·simp (disch:=first|omega|simp only[vl];omega) only [vcd,hc]
   exact all_s hP hc
  ·simp (disch:=first|omega|simp only[vl];omega) only [vcd,hc]
   exact Db (decide_eq_false fun q=>hc (q i hi))
 ·simp (disch:=first|omega|simp only[vl];omega) only [vcd]
  exact Db (decide_eq_true hP)
theorem permP_iff {p:List Int}:permP p p.length↔(∀ x∈p,0≤x∧x≤(p.length:Int)-1)∧p.Nodup:=by
 constructor
 ·intro h
  refine ⟨fun x hx=>?_,?_⟩
  ·obtain ⟨j,hj,rfl⟩:=List.mem_iff_getElem.1 hx
   have:=inR_iff.1 (h j hj).1
   simpa [atI,hj] using this
  ·rw [List.Nodup,List.pairwise_iff_getElem]
   intro i j hi hj hij
   have:=(h j hj).2 i hij
   simpa [atI,hi,hj] using this
 ·rintro ⟨h1,h2⟩ j hj
  refine ⟨inR_iff.2 ?_,fun k hk=>?_⟩
  ·have:=h1 p[j] (List.getElem_mem hj)
   simpa [atI,hj] using this
  ·rw [List.Nodup,List.pairwise_iff_getElem] at h2
   have:=h2 k j (by omega) hj hk
   simpa [atI,hj,show k<p.length by omega] using this
theorem permF_perm {p q:List Int} (h:q.Perm p):permF q=permF p:=by
 have hl:=h.length_eq
 simp only [permF]
 congr 1
 ·rw [hl]
 ·congr 1
  rw [permP_iff,permP_iff,hl,h.nodup_iff]
  apply propext
  exact ⟨fun ⟨a,b⟩=>⟨fun x hx=>a x (h.mem_iff.2 hx),b⟩,fun ⟨a,b⟩=>⟨fun x hx=>a x (h.mem_iff.1 hx),b⟩⟩
theorem asc_id {p:List Int} (hp:permF p=true):ascF p=idF p:=by
 obtain ⟨hl,hP⟩:=permF_t hp
 rw [Bool.eq_iff_iff]
 simp only [ascF,idF,qde]
 constructor
 ·intro ha
  have hs:∀ j:Nat,j<p.length-1→atI p j+1≤atI p (j+1:Nat):=by
   intro j hj
   have h1:=ha j hj
   have h2:=(hP (j+1) (by omega)).2 j (by omega)
   omega
  have lo:∀ j:Nat,j<p.length→(j:Int)≤atI p j:=by
   intro j
   induction j with
   | zero=>intro h0; exact (inR_iff.1 (hP 0 h0).1).1
   | succ j ih=>
    intro h1
    have:=ih (by omega)
    have:=hs j (by omega)
    omega
  have up:∀ d j:Nat,j+d+1=p.length→atI p j≤j:=by
   intro d
   induction d with
   | zero=>intro j hj; have:=(inR_iff.1 (hP j (by omega)).1).2; omega
   | succ d ih=>
    intro j hj
    have h1:=ih (j+1) (by omega)
    have:=hs j (by omega)
    omega
  intro j hj
  have:=lo j hj
  have:=up (p.length-1-j) j (by omega)
  omega
 ·intro hi j hj
  rw [hi j (by omega),hi (j+1) (by omega)]
  omega
end Go.Cat
