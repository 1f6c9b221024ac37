/-
 Binary trees as texts.
-/
import Derived.Test.YtjbonmaggidboaaPfIn
import Derived.Test.YtjbonmaggidboaaPfPath
import Derived.Test.YtjbonmaggidboaaIrHas
set_option linter.unusedSimpArgs false
set_option linter.unusedVariables false
namespace Go.Cat
variable {K:Nat→List D→List D→Prop}
inductive BT
 | lf
 | nd (l r:BT)
def BT.d:BT→D
 | .lf=>.z
 | .nd l r=>.p [l.d,r.d]
def BT.t:BT→List Nat
 | .lf=>[46]
 | .nd l r=>40::(l.t++(r.t++[41]))
def BT.n:BT→Nat
 | .lf=>0
 | .nd l r=>l.n+r.n+1
theorem BT.tl:∀ x:BT,x.t.length=3*x.n+1
 | .lf=>rfl
 | .nd l r=>by
  have:=BT.tl l
  have:=BT.tl r
  simp only [BT.t,BT.n,qlc,qla,qln]; omega
theorem BT.known_d {x:BT}:known x.d=some x.d:=by cases x <;> rfl
theorem BT.one_d {x:BT}:x.d.one=true:=by cases x <;> rfl
theorem BT.pre:∀ {x y:BT} {a b:List Nat},x.t++a=y.t++b→x=y∧a=b
 | .lf,.lf,a,b,h=>by simpa [BT.t] using h
 | .lf,.nd _ _,a,b,h=>by simp [BT.t] at h
 | .nd _ _,.lf,a,b,h=>by simp [BT.t] at h
 | .nd l r,.nd l' r',a,b,h=>by
  simp only [BT.t,List.cons_append,qaa,List.cons.injEq,true_and] at h
  obtain ⟨h1,h2⟩:=BT.pre h
  obtain ⟨h3,h4⟩:=BT.pre h2
  subst h1; subst h3
  simpa using h4
theorem BT.inj {x y:BT} (h:x.t=y.t):x=y:=(BT.pre (a:=[]) (b:=[]) (by rw [h])).1
end Go.Cat
