/-
 Words and their reflections.
-/
import Derived.Test.YtjbonmaggidboaaPfPath
import Derived.Test.YtjbonmaggidboaaIrHas
set_option linter.unusedSimpArgs false
set_option linter.unusedVariables false
namespace Go.Cat
variable {K:Nat→List D→List D→Prop}
def allud (w:List Nat):Bool:=w.all fun c=>decide (c=117∨c=100)
theorem allud_cons {c:Nat} {w:List Nat}:allud (c::w)=(decide (c=117∨c=100)&&allud w):=rfl
theorem steps_allud:∀ (w:List Nat),steps w=allud w
 | []=>rfl
 | c::w=>by
  have ih:=steps_allud w
  have hl:=cnt_le (w:=w) (c:=117)
  have:cnt w 117+cnt w 100≤w.length:=by
   clear ih hl
   induction w with
   | nil=>simp [cnt]
   | cons a w ih=>simp only [cnt_cons,qlc]; split <;> split <;> omega
  rw [allud_cons,← ih]
  simp only [steps,cnt_cons,qlc]
  by_cases h1:c=117
  ·subst h1; simp; omega
  ·by_cases h2:c=100
   ·subst h2; simp; omega
   ·simp [h1,h2]; omega
def only (a b:Nat) (w:List Nat):Bool:=w.all fun x=>decide (x=a∨x=b)
end Go.Cat
