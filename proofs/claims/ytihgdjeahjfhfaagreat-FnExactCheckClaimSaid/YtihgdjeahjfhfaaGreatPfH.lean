/-
 What the laws' own helpers do.
-/
import Derived.Test.YtihgdjeahjfhfaaGreatCatFour
import Derived.Test.YtihgdjeahjfhfaaGreatIrHas
set_option linter.unusedSimpArgs false
set_option linter.unusedVariables false
namespace Go.Cat
variable {K:Nat→List D→List D→Prop}
theorem eqIntS_t [HA K] {a:List Int} (h:a.length≤1099511627776):K 44 [LI a,LI a] [.b true]:=by
 refine body_by (f:=ir_laws_eqIntS) rfl ?_; simp only [ir_laws_eqIntS,zn,zs,zq,zi,zg,zp]
 simp (disch:=first|omega|simp only[vl];omega) only [vcd]
 refine loop_ix (fun _=>True) (fun i=>[LI a,LI a,.u,.n i,.u,.u,.u]) a.length trivial rfl (fun i hi _=>?_) (fun _=>?_) <;> simp (disch:=first|omega|simp only[vl];omega) only [vcd]
theorem eqStringS_t [HA K] {a:List (List Nat)} (h:a.length≤1099511627776):K 15 [LS a,LS a] [.b true]:=by
 refine body_by (f:=ir_laws_eqStringS) rfl ?_; simp only [ir_laws_eqStringS,zn,zs,zq,zi,zg,zp]
 simp (disch:=first|omega|simp only[vl];omega) only [vcd]
 refine loop_ix (fun _=>True) (fun i=>[LS a,LS a,.u,.n i,.u,.u,.u]) a.length trivial rfl (fun i hi _=>?_) (fun _=>?_) <;> simp (disch:=first|omega|simp only[vl];omega) only [vcd]
theorem toIntS_ok [HA K] {a:List Int} (h:a.length≤1099511627776):K 42 [LI a] [LI a]:=by
 refine body_by (f:=ir_laws_toIntS) rfl ?_; simp only [ir_laws_toIntS,zn,zs,zq,zi,zg,zp]
 simp (disch:=first|omega|simp only[vl];omega) only [vcd]
 refine loop_up (fun i (s:List Int)=>s.length=a.length∧∀ j:Nat,j<i→atI s j=atI a j) (fun i s=>[LI a,.u,LI s,.n i,.u]) a.length (rep a.length 0) ⟨by simp [rep],by simp⟩ rfl (fun i s hi hP=>?_) (fun s hP=>?_)
 ·obtain ⟨h1,h2⟩:=hP
  simp (disch:=first|omega|simp only[vl];omega) only [vcd]
  refine ⟨_,⟨?_,fun j hj=>?_⟩,rfl⟩
  ·rw [seI_len,h1]
  ·rw [atI_set (by omega)]
   split
   ·rename_i hij; rw [hij]
   ·exact h2 j (by omega)
 ·obtain ⟨h1,h2⟩:=hP
  simp (disch:=first|omega|simp only[vl];omega) only [vcd]
  exact Dl (extI h1 fun j hj=>h2 j (by omega)).symm
end Go.Cat
