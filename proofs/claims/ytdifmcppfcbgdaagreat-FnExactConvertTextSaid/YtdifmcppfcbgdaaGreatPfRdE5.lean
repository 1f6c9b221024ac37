/-
 Partitions, read back from the text of a path.
-/
import Derived.Test.YtdifmcppfcbgdaaGreatPfRdE
set_option linter.unusedSimpArgs false
set_option linter.unusedVariables false
namespace Go.Cat
set_option maxRecDepth 100000
def rwC (r:List Int):List Nat:=r.map fun x=>49+x.toNat
theorem rwT_C {r:List Int} (h:∀ x∈r,0≤x∧x≤8):∀ {i:Nat},i≤r.length→rwT r i=rwC (r.take i)
 | 0,_=>by simp [rwT,rwC]
 | i+1,hi=>by
  have hx:atI r i=r[i]:=by simp [atI,show i<r.length by omega]
  have hb:=h r[i] (List.getElem_mem _)
  have e:(r[i]+1).toNat=r[i].toNat+1:=by omega
  rw [rwT,rwT_C h (by omega),hx,fmt_1 (by omega) (by omega),qta (by omega),e]
  have e2:48+(r[i].toNat+1)=49+r[i].toNat:=by omega
  rw [e2]
  simp only [rwC,List.map_append,List.map_cons,List.map_nil]
def reT5 (w:List Nat):List Nat:=sep 124 ((ptB (ptnC w)).map rwC)
def reC5 (w:List Nat):Bool:=(ptB (ptnC w)).all (fun r=>r.all fun x=>decide (0≤x)&&decide (x≤8))&&(decide (ptS (reT5 w)=some (ptnC w))&&(ncF (ptnC w)&&(decide (ptoR (ptnC w)=w)&&(decide ((reT5 w).length=w.length / 2+cnt (reT5 w) 124)&&decide ((reT5 w).length≤100)))))
theorem re5a:allB 7 (fun n=>(pathsR n).all reC5)=true:=by kernel_rfl
theorem re5_70:(((pathsR 7).drop (143*0)).take 143).all reC5=true:=by kernel_rfl
theorem re5_71:(((pathsR 7).drop (143*1)).take 143).all reC5=true:=by kernel_rfl
theorem re5_72:(((pathsR 7).drop (143*2)).take 143).all reC5=true:=by kernel_rfl
theorem re5_7:(pathsR 7).all reC5=true:=all_chunks (by omega) pathsR_l7 fun j hj=>match j,hj with
 | 0,_=>re5_70
 | 1,_=>re5_71
 | 2,_=>re5_72
 | j+3,h=>absurd h (by omega)
theorem re5_80:(((pathsR 8).drop (143*0)).take 143).all reC5=true:=by kernel_rfl
theorem re5_81:(((pathsR 8).drop (143*1)).take 143).all reC5=true:=by kernel_rfl
theorem re5_82:(((pathsR 8).drop (143*2)).take 143).all reC5=true:=by kernel_rfl
theorem re5_83:(((pathsR 8).drop (143*3)).take 143).all reC5=true:=by kernel_rfl
theorem re5_84:(((pathsR 8).drop (143*4)).take 143).all reC5=true:=by kernel_rfl
theorem re5_85:(((pathsR 8).drop (143*5)).take 143).all reC5=true:=by kernel_rfl
theorem re5_86:(((pathsR 8).drop (143*6)).take 143).all reC5=true:=by kernel_rfl
theorem re5_87:(((pathsR 8).drop (143*7)).take 143).all reC5=true:=by kernel_rfl
theorem re5_88:(((pathsR 8).drop (143*8)).take 143).all reC5=true:=by kernel_rfl
theorem re5_89:(((pathsR 8).drop (143*9)).take 143).all reC5=true:=by kernel_rfl
theorem re5_8:(pathsR 8).all reC5=true:=all_chunks (by omega) pathsR_l8 fun j hj=>match j,hj with
 | 0,_=>re5_80
 | 1,_=>re5_81
 | 2,_=>re5_82
 | 3,_=>re5_83
 | 4,_=>re5_84
 | 5,_=>re5_85
 | 6,_=>re5_86
 | 7,_=>re5_87
 | 8,_=>re5_88
 | 9,_=>re5_89
 | j+10,h=>absurd h (by omega)
theorem rd_5 {w:List Nat} (hd:dyck w=true):ptS (txW w 5)=some (ptn w)∧(ncF (ptn w)=true∧ptoR (ptn w)=w)∧(txW w 5).length=w.length / 2+cnt (txW w 5) 124∧(txW w 5).length≤100:=by
 have h:=all_paths re5a re5_7 re5_8 hd
 simp only [reC5,qba,qde,qat] at h
 obtain ⟨h0,h1,h2,h3,h4,h5⟩:=h
 have et:txW w 5=reT5 w:=by
  rw [txW,fptF,glue_sep,ptnC_eq hd,ptW,reT5]
  congr 1
  refine List.map_congr_left fun r hr=>?_
  rw [rwT_C (h0 r hr) (Nat.le_refl _),List.take_length]
 rw [et,ptnC_eq hd]
 exact ⟨h1,⟨h2,h3⟩,h4,h5⟩
end Go.Cat
