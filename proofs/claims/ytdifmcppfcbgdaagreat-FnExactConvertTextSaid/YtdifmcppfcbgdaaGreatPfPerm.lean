/-
 Permutations.
-/
import Derived.Test.YtdifmcppfcbgdaaGreatPfIn
import Derived.Test.YtdifmcppfcbgdaaGreatIrHas
import Derived.Test.YtdifmcppfcbgdaaGreatCatThree
set_option linter.unusedSimpArgs false
set_option linter.unusedVariables false
namespace Go.Cat
variable {K:Nat→List D→List D→Prop}
def permP (p:List Int) (i:Nat):Prop:=∀ j:Nat,j<i→inR 0 ((p.length:Int)-1) (atI p j)=true∧∀ k:Nat,k<j→atI p k≠atI p j
instance {p:List Int} {i:Nat}:Decidable (permP p i):=by unfold permP; infer_instance
def permF (p:List Int):Bool:=decide (p.length≤8)&&decide (permP p p.length)
theorem permF_f {p:List Int} (h:¬ permP p p.length):permF p=false:=by simp [permF,h]
theorem perm_s [HA K] {p:List Int} (h:p.length≤1099511627776):K 73 [LI p] [.b (permF p)]:=by
 refine body_by (f:=ir_spec_IsPermutation) rfl ?_; simp only [ir_spec_IsPermutation,zn,zs,zq,zi,zg,zp]
 simp (disch:=omega) only [vcd]
 refine loop_ix (fun i=>permP p i) (fun i=>[LI p,.u,.n i,.u,.u,.u,.u,.u]) p.length (by simp [permP]) rfl (fun i hi hP=>?_) (fun hP=>?_)
 ·simp (disch:=omega) only [vcd]
  cases hr:inR 0 ((p.length:Int)-1) (atI p i)
  ·repeat (first | (refine call_by (l1In_ok (K:=K)) rfl ?_; try simp (disch:=omega) only [vcd,hr]))
   rw [permF_f fun q=>by have:=(q i hi).1; rw [hr] at this; cases this]
  ·repeat (first | (refine call_by (l1In_ok (K:=K)) rfl ?_; try simp (disch:=omega) only [vcd,hr]))
   refine loop_ix (fun k=>∀ j:Nat,j<k→atI p j≠atI p i) (fun k=>[LI p,.u,.n i,.n k,.u,.u,.u,.u]) i (by simp) rfl (fun k hk hQ=>?_) (fun hQ=>?_)
   ·by_cases he:atI p k=atI p i
    ·simp (disch:=omega) only [vcd]
     rw [permF_f fun q=>(q i hi).2 k hk he]
    ·simp (disch:=omega) only [vcd]
     exact all_s hQ he
   ·simp (disch:=omega) only [vcd]
    exact all_s hP ⟨hr,hQ⟩
 ·by_cases hl:p.length≤8
  ·simp (disch:=omega) only [vcd]
   simp [permF,hP,hl]
  ·simp (disch:=omega) only [vcd]
   simp [permF,hl]
end Go.Cat
namespace Go.Cat
variable {K:Nat→List D→List D→Prop}
def digs:Nat→List Nat
 | 0=>[]
 | n+1=>digs ((n+1) / 10)++[48+(n+1) % 10]
decreasing_by omega
end Go.Cat
namespace Go.Cat
variable {K:Nat→List D→List D→Prop}
theorem at_last {t:List Int} {y:Int}:atI (t++[y]) t.length=y:=by simp [atI]
theorem sub_init {t:List Int} {y:Int}:sub (t++[y]) 0 t.length=t:=by simp [sub]
end Go.Cat
