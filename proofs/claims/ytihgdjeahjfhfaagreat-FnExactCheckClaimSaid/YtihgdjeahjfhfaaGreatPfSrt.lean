/-
 Sorting of rows: insertion, as the library does it for short lists.
-/
import Derived.Test.YtihgdjeahjfhfaaGreatPfIn
import Derived.Test.YtihgdjeahjfhfaaGreatIrHas
set_option linter.unusedSimpArgs false
set_option linter.unusedVariables false
namespace Go.Cat
variable {K:Nat→List D→List D→Prop}
def ltR (x y:List Int):Bool:=decide (atI x 0<atI y 0) || (decide (atI x 0=atI y 0)&&decide (atI x 1<atI y 1))
def row2 (x:List Int):Prop:=x.length=2
theorem row2_eq {x:List Int} (h:row2 x):x=[atI x 0,atI x 1]:=by
 obtain ⟨a,b,rfl⟩:∃ a b,x=[a,b]:=by
  match x,h with
  | [a,b],_=>exact ⟨a,b,rfl⟩
 rfl
theorem ltR_tr {x y z:List Int} (h1:ltR x y=true) (h2:ltR y z=true):ltR x z=true:=by
 simp only [ltR,Bool.or_eq_true,qba,qde] at*
 omega
theorem ltR_as {x y:List Int} (h:ltR x y=true):ltR y x=false:=by
 simp only [ltR,Bool.or_eq_true,qba,qde,Bool.or_eq_false_iff,Bool.and_eq_false_iff,decide_eq_false_iff_not] at*
 omega
theorem nanS_ok [HA K] {x:Int}:K 211 [.n x] [.b false]:=by
 refine body_by (f:=ir_cmp_isNaN_int_) rfl ?_; simp only [ir_cmp_isNaN_int_,zn,zs,zq,zi,zg,zp]
 simp (disch:=omega) only [vcd]
theorem ccmp_ok [HA K] {x y:Int}:K 377 [.n x,.n y] [.n (if x<y then -1 else if y<x then 1 else 0)]:=by
 refine body_by (f:=ir_cmp_Compare_int_) rfl ?_; simp only [ir_cmp_Compare_int_,zn,zs,zq,zi,zg,zp]
 simp (disch:=omega) only [vcd]
 refine call_by (nanS_ok (K:=K)) rfl ?_
 simp (disch:=omega) only [vcd]
 refine call_by (nanS_ok (K:=K)) rfl ?_
 by_cases h:x<y
 ·simp (disch:=omega) only [vcd]
  rw [if_pos h]
 ·by_cases h2:y<x
  ·simp (disch:=omega) only [vcd]
   rw [if_neg h,if_pos h2]
  ·simp (disch:=omega) only [vcd]
   rw [if_neg h,if_neg h2]
def cmR2 (x y:List Int):Int:=if ltR x y=true then -1 else if ltR y x=true then 1 else 0
theorem cmR2_neg {x y:List Int}:decide (cmR2 x y<0)=ltR x y:=by
 unfold cmR2
 cases ltR x y
 ·cases ltR y x <;> rfl
 ·rfl
theorem scmp_ok [HA K] {x y:List Int} (hx:row2 x) (hy:row2 y):K 364 [LI x,LI y] [.n (cmR2 x y)]:=by
 have lx:x.length=2:=hx
 have ly:y.length=2:=hy
 refine body_by (f:=ir_slices_Compare___int_int_) rfl ?_; simp only [ir_slices_Compare___int_int_,zn,zs,zq,zi,zg,zp]
 simp (disch:=omega) only [vcd]
 refine loop_ix (fun i=>∀ j:Nat,j<i→atI x j=atI y j) (fun i=>[LI x,LI y,.u,.u,.u,.u,.u,LI x,.n x.length,.n i,.u,.u,.u,.u]) 2 (by simp) rfl (fun i hi hP=>?_) (fun hP=>?_)
 ·simp (disch:=omega) only [vcd]
  refine call_by (ccmp_ok (K:=K)) rfl ?_
  have hi2:i=0∨i=1:=by omega
  have h0:i=1→atI x 0=atI y 0:=fun q=>hP 0 (by omega)
  by_cases h1:atI x i<atI y i
  ·rw [if_pos h1]
   simp (disch:=omega) only [vcd]
   have e:ltR x y=true:=by
    rcases hi2 with q | q
    ·subst q
     have h1:atI x 0<atI y 0:=h1
     simp [ltR,h1]
    ·have:=h0 q
     subst q
     have h1:atI x 1<atI y 1:=h1
     simp [ltR,h1,this]
   simp [cmR2,e]
  ·rw [if_neg h1]
   by_cases h2:atI y i<atI x i
   ·rw [if_pos h2]
    simp (disch:=omega) only [vcd]
    have e:ltR y x=true:=by
     rcases hi2 with q | q
     ·subst q
      have h2:atI y 0<atI x 0:=h2
      simp [ltR,h2]
     ·have:=h0 q
      subst q
      have h2:atI y 1<atI x 1:=h2
      simp [ltR,h2,this]
    simp [cmR2,e,ltR_as e]
   ·rw [if_neg h2]
    simp (disch:=omega) only [vcd]
    exact all_s hP (by omega)
 ·have a:atI x 0=atI y 0:=hP 0 (by omega)
  have b:atI x 1=atI y 1:=hP 1 (by omega)
  simp (disch:=omega) only [vcd]
  simp [cmR2,ltR,a,b]
theorem wrap_u64 {x:Int} (h:0≤x∧x≤1000000):IntKind.u64.wrap x=x:=by
 have e:x % 18446744073709551616=x:=Int.emod_eq_of_lt h.1 (by omega)
 simp [IntKind.wrap,IntKind.bits,IntKind.signed,e]
def isN1 (o:Option (List D)):Bool:=match o with
 | some [.i .i64 _]=>true
 | _=>false
theorem isN1_spec {o:Option (List D)} (h:isN1 o=true):∃ v:Int,o=some [.n v]:=by
 unfold isN1 at h
 split at h
 ·exact ⟨_,rfl⟩
 ·cases h
abbrev tlen:List (Nat×IF):=[(391,ir_math_bits_Len64)]
theorem len0:allB 13 (fun n=>isN1 (evF (tableOf tlen) 60 8 391 [.i .u64 (n:Nat)]))=true:=by kernel_rfl
theorem len64_ok [HA K] {n:Nat} (h:n≤12):∃ v:Int,K 391 [.i .u64 (n:Nat)] [.n v]:=by
 obtain ⟨v,hv⟩:=isN1_spec (allB_spec len0 n (by omega))
 exact ⟨v,run tlen 60 8 391 hv⟩
theorem blen_ok [HA K] {n:Nat} (h:n≤12):∃ v:Int,K 376 [.i .u64 (n:Nat)] [.n v]:=by
 obtain ⟨v,hv⟩:=len64_ok (K:=K) h
 refine ⟨v,?_⟩
 refine body_by (f:=ir_math_bits_Len) rfl ?_; simp only [ir_math_bits_Len,zn,zs,zq,zi,zg,zp]
 simp (disch:=omega) only [vcd]
 refine call_by (hv) rfl ?_
 simp (disch:=omega) only [vcd]
theorem atL_app2 {a b:List (List Int)} {x:List Int}:atL (a++x::b) a.length=x:=by simp [atL]
theorem seL_app {a b:List (List Int)} {x y:List Int}:seL (a++x::b) a.length y=a++y::b:=by simp [seL]
end Go.Cat
