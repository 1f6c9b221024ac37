/-
 Binary trees and paths.
-/
import Derived.Test.YtihgdjeahjfhfaaGreatPfTree
import Derived.Test.YtihgdjeahjfhfaaGreatPfStat
import Derived.Test.YtihgdjeahjfhfaaGreatIrHas
set_option linter.unusedSimpArgs false
set_option linter.unusedVariables false
namespace Go.Cat
variable {K:Nat→List D→List D→Prop}
def BT.p:BT→List Nat
 | .lf=>[]
 | .nd l r=>117::(l.p++100::r.p)
theorem BT.pl:∀ x:BT,x.p.length=2*x.n
 | .lf=>rfl
 | .nd l r=>by
  have:=BT.pl l
  have:=BT.pl r
  simp only [BT.p,BT.n,qlc,qla]; omega
theorem BT.ppre:∀ {x y:BT} {a b:List Nat},x.p++100::a=y.p++100::b→x=y∧a=b
 | .lf,.lf,a,b,h=>by simpa [BT.p] using h
 | .lf,.nd _ _,a,b,h=>by simp [BT.p] at h
 | .nd _ _,.lf,a,b,h=>by simp [BT.p] at h
 | .nd l r,.nd l' r',a,b,h=>by
  simp only [BT.p,List.cons_append,qaa,List.cons.injEq,true_and] at h
  obtain ⟨h1,h2⟩:=BT.ppre h
  obtain ⟨h3,h4⟩:=BT.ppre h2
  subst h1; subst h3
  exact ⟨rfl,h4⟩
theorem BT.pinj {x y:BT} (h:x.p=y.p):x=y:=(BT.ppre (a:=[]) (b:=[]) (by rw [h])).1
theorem text_ok [HA K]:∀ {x:BT},x.n≤100000→K 196 [x.d] [.s x.t]
 | .lf,_=>by
  refine body_by (f:=ir_impl_tree_text) rfl ?_; simp only [ir_impl_tree_text,zn,zs,zq,zi,zg,zp]
  simp only [BT.d,BT.t]
  simp (disch:=first|omega|simp only[vl];omega) only [vcd]
 | .nd l r,h=>by
  have h':=h
  simp only [BT.n] at h'
  have k1:=text_ok (x:=l) (by omega)
  have k2:=text_ok (x:=r) (by omega)
  have t1:=BT.tl l
  have t2:=BT.tl r
  refine body_by (f:=ir_impl_tree_text) rfl ?_; simp only [ir_impl_tree_text,zn,zs,zq,zi,zg,zp]
  simp only [BT.d,BT.t]
  simp (disch:=first|omega|simp only[vl];omega) only [vcd,BT.known_d,b_ft]
  refine call_by (k1) rfl ?_
  simp (disch:=first|omega|simp only[vl];omega) only [vcd,BT.known_d]
  refine call_by (k2) rfl ?_
  simp (disch:=first|omega|simp only[vl];omega) only [vcd]
  simp
end Go.Cat
