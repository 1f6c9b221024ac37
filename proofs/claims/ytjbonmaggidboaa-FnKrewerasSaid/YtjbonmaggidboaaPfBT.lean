/-
 Binary trees and paths.
-/
import Derived.Test.YtjbonmaggidboaaPfTree
import Derived.Test.YtjbonmaggidboaaPfStat
import Derived.Test.YtjbonmaggidboaaIrHas
set_option linter.unusedSimpArgs false
set_option linter.unusedVariables false
namespace Go.Cat
variable {K:Nat→List D→List D→Prop}
def BT.p:BT→List Nat
 | .lf=>[]
 | .nd l r=>117::(l.p++100::r.p)
theorem BT.pl:∀ x:BT,x.p.length=2*x.n
 | .lf=>rfl
 | .nd l r=>by
  have:=BT.pl l
  have:=BT.pl r
  simp only [BT.p,BT.n,qlc,qla]; omega
theorem BT.ppre:∀ {x y:BT} {a b:List Nat},x.p++100::a=y.p++100::b→x=y∧a=b
 | .lf,.lf,a,b,h=>by simpa [BT.p] using h
 | .lf,.nd _ _,a,b,h=>by simp [BT.p] at h
 | .nd _ _,.lf,a,b,h=>by simp [BT.p] at h
 | .nd l r,.nd l' r',a,b,h=>by
  simp only [BT.p,List.cons_append,qaa,List.cons.injEq,true_and] at h
  obtain ⟨h1,h2⟩:=BT.ppre h
  obtain ⟨h3,h4⟩:=BT.ppre h2
  subst h1; subst h3
  exact ⟨rfl,h4⟩
theorem BT.pinj {x y:BT} (h:x.p=y.p):x=y:=(BT.ppre (a:=[]) (b:=[]) (by rw [h])).1
end Go.Cat
