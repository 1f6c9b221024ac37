/-
 The height of a word, letter by letter.
-/
import Derived.Test.YtjbonmaggidboaaPfRefl
set_option linter.unusedSimpArgs false
set_option linter.unusedVariables false
namespace Go.Cat
variable {K:Nat→List D→List D→Prop}
def Hh (w:List Nat) (i:Nat):Int:=(cnt (w.take i) 117:Int)-cnt (w.take i) 100
theorem Hh_0 {w:List Nat}:Hh w 0=0:=by simp [Hh,cnt]
theorem Hh_cons {c:Nat} {w:List Nat} {i:Nat}:Hh (c::w) (i+1)=(if c=117 then 1 else 0)-(if c=100 then 1 else 0)+Hh w i:=by
 simp only [Hh,List.take_succ_cons,cnt_cons]
 split <;> split <;> omega
theorem cnt_app {a b:List Nat} {c:Nat}:cnt (a++b) c=cnt a c+cnt b c:=by simp [cnt]
theorem walkH_iff:∀ (w:List Nat) (h r:Int),0≤h→(walkH w h=some r↔allud w=true∧(∀ i≤w.length,0≤h+Hh w i)∧r=h+Hh w w.length)
 | [],h,r,h0=>by
  simp only [walkH,allud,List.all_nil,qln,Hh_0,qsj,true_and]
  constructor
  ·rintro rfl
   refine ⟨fun i hi=>?_,by omega⟩
   have:i=0:=by omega
   subst this; rw [Hh_0]; omega
  ·rintro ⟨_,h⟩; omega
 | c::w,h,r,h0=>by
  have sh:∀ x:Int,(if c=117 then (1:Int) else 0)-(if c=100 then 1 else 0)=x→((∀ i≤w.length+1,0≤h+Hh (c::w) i)↔∀ i≤w.length,0≤(h+x)+Hh w i):=by
   intro x hx
   constructor
   ·intro q i hi
    have:=q (i+1) (by omega)
    rw [Hh_cons,hx] at this
    omega
   ·intro q i hi
    cases i with
    | zero=>rw [Hh_0]; omega
    | succ i=>
     have:=q i (by omega)
     rw [Hh_cons,hx]
     omega
  simp only [walkH,allud_cons,qlc,Hh_cons]
  by_cases h1:c=117
  ·rw [if_pos h1,walkH_iff w (h+1) r (by omega)]
   rw [sh 1 (by simp [h1])]
   simp [h1]
   intro _ _; constructor <;> intro _ <;> omega
  ·by_cases h2:c=100
   ·rw [if_neg h1,if_pos h2,sh (-1) (by simp [h2])]
    by_cases h3:h-1<0
    ·rw [if_pos h3]
     simp only [reduceCtorEq,false_iff,not_and]
     intro _ q
     have:=q 0 (by omega)
     rw [Hh_0] at this
     omega
    ·rw [if_neg h3,walkH_iff w (h-1) r (by omega)]
     simp [h2]
     intro _
     constructor
     ·rintro ⟨q,_⟩; exact ⟨fun i hi=>by have:=q i hi; omega,by omega⟩
     ·rintro ⟨q,_⟩; exact ⟨fun i hi=>by have:=q i hi; omega,by omega⟩
   ·rw [if_neg h1,if_neg h2]
    simp [h1,h2]
theorem dyck_iff {w:List Nat}:dyck w=true↔w.length≤16∧allud w=true∧(∀ i≤w.length,0≤Hh w i)∧Hh w w.length=0:=by
 simp only [dyck,qba,qde,walkH_iff w 0 0 (by omega)]
 constructor
 ·rintro ⟨⟨h1,h2,h3⟩,h4⟩; exact ⟨h4,h1,fun i hi=>by have:=h2 i hi; omega,by omega⟩
 ·rintro ⟨h1,h2,h3,h4⟩; exact ⟨⟨h2,fun i hi=>by have:=h3 i hi; omega,by omega⟩,h1⟩
end Go.Cat
