/-
 Sorting of rows: insertion, as the library does it for short lists.
-/
import Derived.Test.YtgncagjobmbmaaaPfIn
import Derived.Test.YtgncagjobmbmaaaIrHas
set_option linter.unusedSimpArgs false
set_option linter.unusedVariables false
namespace Go.Cat
variable {K:Nat→List D→List D→Prop}
def ltR (x y:List Int):Bool:=decide (atI x 0<atI y 0) || (decide (atI x 0=atI y 0)&&decide (atI x 1<atI y 1))
def row2 (x:List Int):Prop:=x.length=2
theorem row2_eq {x:List Int} (h:row2 x):x=[atI x 0,atI x 1]:=by
 obtain ⟨a,b,rfl⟩:∃ a b,x=[a,b]:=by
  match x,h with
  | [a,b],_=>exact ⟨a,b,rfl⟩
 rfl
theorem ltR_tr {x y z:List Int} (h1:ltR x y=true) (h2:ltR y z=true):ltR x z=true:=by
 simp only [ltR,Bool.or_eq_true,qba,qde] at*
 omega
theorem ltR_tr2 {x y z:List Int} (h1:ltR x z=false) (h2:ltR y z=true):ltR y x=true:=by
 simp only [ltR,Bool.or_eq_true,qba,qde,Bool.or_eq_false_iff,Bool.and_eq_false_iff,decide_eq_false_iff_not] at*
 omega
theorem ltR_as {x y:List Int} (h:ltR x y=true):ltR y x=false:=by
 simp only [ltR,Bool.or_eq_true,qba,qde,Bool.or_eq_false_iff,Bool.and_eq_false_iff,decide_eq_false_iff_not] at*
 omega
theorem ltR_eq {x y:List Int} (hx:row2 x) (hy:row2 y) (h1:ltR x y=false) (h2:ltR y x=false):x=y:=by
 simp only [ltR,Bool.or_eq_false_iff,Bool.and_eq_false_iff,decide_eq_false_iff_not] at*
 have a:atI x 0=atI y 0:=by omega
 have b:atI x 1=atI y 1:=by omega
 rw [row2_eq hx,row2_eq hy,a,b]
def insV (x:List Int):List (List Int)→List (List Int)
 | []=>[x]
 | y::t=>if ltR x y=true then y::insV x t else x::y::t
theorem insV_len {x:List Int}:∀ t,(insV x t).length=t.length+1
 | []=>rfl
 | y::t=>by
  unfold insV
  split
  ·simp [insV_len t]
  ·rfl
theorem insV_mem {x z:List Int}:∀ {t},z∈insV x t↔z=x∨z∈t
 | []=>by simp [insV]
 | y::t=>by
  unfold insV
  split
  ·simp only [qmn,insV_mem (t:=t)]
   constructor <;> rintro (h | h | h) <;> simp [h]
  ·simp
theorem insV_comm {x y:List Int} (hx:row2 x) (hy:row2 y):∀ t,insV x (insV y t)=insV y (insV x t)
 | []=>by
  simp only [insV]
  cases h1:ltR x y
  ·cases h2:ltR y x
   ·rw [ltR_eq hx hy h1 h2]
   ·simp
  ·simp [ltR_as h1]
 | z::t=>by
  have ih:=insV_comm hx hy t
  simp only [insV]
  cases h1:ltR y z <;> cases h2:ltR x z
  ·simp only [qft,if_false,insV,h1,h2]
   cases h3:ltR x y
   ·cases h4:ltR y x
    ·rw [ltR_eq hx hy h3 h4]
    ·simp
   ·simp [ltR_as h3]
  ·have:=ltR_tr2 h1 h2
   simp [insV,h1,h2,this]
  ·have:=ltR_tr2 h2 h1
   simp [insV,h1,h2,this]
  ·simp [insV,h1,h2,ih]
def srtV (d:List (List Int)):List (List Int):=d.foldl (fun t x=>insV x t) []
def srfF (d:List (List Int)):List (List Int):=(srtV d).reverse
theorem srtV_perm {d e:List (List Int)} (h:d.Perm e) (h2:∀ x∈d,row2 x):srtV d=srtV e:=
 List.Perm.foldl_eq' h (fun x hx y hy z=>(insV_comm (h2 x hx) (h2 y hy) z).symm) []
theorem srtF_perm {d e:List (List Int)} (h:d.Perm e) (h2:∀ x∈d,row2 x):srfF d=srfF e:=by rw [srfF,srfF,srtV_perm h h2]
theorem fold_len:∀ (d t:List (List Int)),(d.foldl (fun t x=>insV x t) t).length=t.length+d.length
 | [],t=>rfl
 | x::d,t=>by
  rw [List.foldl_cons,fold_len d,insV_len,qlc]; omega
theorem srtV_len {d:List (List Int)}:(srtV d).length=d.length:=by rw [srtV,fold_len]; simp
end Go.Cat
