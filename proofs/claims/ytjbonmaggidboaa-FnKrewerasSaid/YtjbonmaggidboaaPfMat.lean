/-
 Matchings: partners of points, crossings, loops.
-/
import Derived.Test.YtjbonmaggidboaaPfPar
import Derived.Test.YtjbonmaggidboaaPfIn
import Derived.Test.YtjbonmaggidboaaIrHas
set_option linter.unusedSimpArgs false
set_option linter.unusedVariables false
namespace Go.Cat
variable {K:Nat→List D→List D→Prop}
def mtP (m:List Int) (i:Nat):Prop:=∀ j:Nat,j<i→inR 0 ((m.length:Int)-1) (atI m j)=true∧atI m j≠j∧atI m (atI m j)=j
instance {m:List Int} {i:Nat}:Decidable (mtP m i):=by unfold mtP; infer_instance
def matF (m:List Int):Bool:=decide (m.length≤16)&&decide (mtP m m.length)
theorem matF_f {m:List Int} (h:¬ mtP m m.length):matF m=false:=by simp [matF,h]
theorem matF_t {m:List Int} (h:matF m=true):m.length≤16∧mtP m m.length:=by simpa [matF] using h
theorem match_i [HA K] {m:List Int} (h:m.length≤1099511627776):K 380 [LI m] [.b (matF m)]:=by
 refine body_by (f:=ir_impl_IsMatching) rfl ?_; simp only [ir_impl_IsMatching,zn,zs,zq,zi,zg,zp]
 by_cases hl:m.length≤16
 ·simp (disch:=omega) only [vcd]
  refine loop_ix (fun i=>mtP m i) (fun i=>[LI m,.u,.u,.u,.u,LI m,.n m.length,.n i,.u,.u]) m.length (by simp [mtP]) rfl (fun i hi hP=>?_) (fun hP=>?_)
  ·simp (disch:=omega) only [vcd]
   cases hr:inR 0 ((m.length:Int)-1) (atI m i)
   ·repeat (first | (refine call_by (within_ok (K:=K)) rfl ?_; try simp (disch:=omega) only [vcd,hr]))
    rw [matF_f fun q=>by have:=(q i hi).1; rw [hr] at this; cases this]
   ·have hb:=inR_iff.1 hr
    repeat (first | (refine call_by (within_ok (K:=K)) rfl ?_; try simp (disch:=omega) only [vcd,hr]))
    by_cases h1:atI m i=i
    ·simp (disch:=omega) only [vcd,h1]
     rw [matF_f fun q=>(q i hi).2.1 h1]
    ·simp (disch:=omega) only [vcd]
     by_cases h2:atI m (atI m i)=i
     ·simp (disch:=omega) only [vcd]
      exact all_s hP ⟨hr,h1,h2⟩
     ·simp (disch:=omega) only [vcd]
      rw [matF_f fun q=>h2 (q i hi).2.2]
  ·simp (disch:=omega) only [vcd]
   simp [matF,hl,hP]
 ·simp (disch:=omega) only [vcd]
  simp [matF,hl]
theorem match_s [HA K] {m:List Int} (h:m.length≤1099511627776):K 379 [LI m] [.b (matF m)]:=by
 refine body_by (f:=ir_spec_IsMatching) rfl ?_; simp only [ir_spec_IsMatching,zn,zs,zq,zi,zg,zp]
 simp (disch:=omega) only [vcd]
 refine loop_ix (fun i=>mtP m i) (fun i=>[LI m,.u,.n i,.u,.u]) m.length (by simp [mtP]) rfl (fun i hi hP=>?_) (fun hP=>?_)
 ·simp (disch:=omega) only [vcd]
  cases hr:inR 0 ((m.length:Int)-1) (atI m i)
  ·repeat (first | (refine call_by (l1In_ok (K:=K)) rfl ?_; try simp (disch:=omega) only [vcd,hr]))
   rw [matF_f fun q=>by have:=(q i hi).1; rw [hr] at this; cases this]
  ·have hb:=inR_iff.1 hr
   repeat (first | (refine call_by (l1In_ok (K:=K)) rfl ?_; try simp (disch:=omega) only [vcd,hr]))
   by_cases h1:atI m i=i
   ·simp (disch:=omega) only [vcd,h1]
    rw [matF_f fun q=>(q i hi).2.1 h1]
   ·simp (disch:=omega) only [vcd]
    by_cases h2:atI m (atI m i)=i
    ·simp (disch:=omega) only [vcd]
     exact all_s hP ⟨hr,h1,h2⟩
    ·simp (disch:=omega) only [vcd]
     rw [matF_f fun q=>h2 (q i hi).2.2]
 ·simp (disch:=omega) only [vcd]
  simp [matF,hP]
  omega
def sumU (g:Nat→Nat):Nat→Nat
 | 0=>0
 | n+1=>sumU g n+g n
end Go.Cat
