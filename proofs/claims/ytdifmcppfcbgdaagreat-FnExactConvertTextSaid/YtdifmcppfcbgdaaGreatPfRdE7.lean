/-
 Permutations, read back from the text of a path.
-/
import Derived.Test.YtdifmcppfcbgdaaGreatPfRdE
import Derived.Test.YtdifmcppfcbgdaaGreatPfRdE5
set_option linter.unusedSimpArgs false
set_option linter.unusedVariables false
namespace Go.Cat
set_option maxRecDepth 100000
def reC7 (w:List Nat):Bool:=pathO (perF w)&&(decide (pathRR (perF w)=w)&&(perF w).all (fun x=>decide (0≤x)&&decide (x≤8)))
theorem re7a:allB 7 (fun n=>(pathsR n).all reC7)=true:=by kernel_rfl
theorem re7_70:(((pathsR 7).drop (143*0)).take 143).all reC7=true:=by kernel_rfl
theorem re7_71:(((pathsR 7).drop (143*1)).take 143).all reC7=true:=by kernel_rfl
theorem re7_72:(((pathsR 7).drop (143*2)).take 143).all reC7=true:=by kernel_rfl
theorem re7_7:(pathsR 7).all reC7=true:=all_chunks (by omega) pathsR_l7 fun j hj=>match j,hj with
 | 0,_=>re7_70
 | 1,_=>re7_71
 | 2,_=>re7_72
 | j+3,h=>absurd h (by omega)
theorem re7_80:(((pathsR 8).drop (143*0)).take 143).all reC7=true:=by kernel_rfl
theorem re7_81:(((pathsR 8).drop (143*1)).take 143).all reC7=true:=by kernel_rfl
theorem re7_82:(((pathsR 8).drop (143*2)).take 143).all reC7=true:=by kernel_rfl
theorem re7_83:(((pathsR 8).drop (143*3)).take 143).all reC7=true:=by kernel_rfl
theorem re7_84:(((pathsR 8).drop (143*4)).take 143).all reC7=true:=by kernel_rfl
theorem re7_85:(((pathsR 8).drop (143*5)).take 143).all reC7=true:=by kernel_rfl
theorem re7_86:(((pathsR 8).drop (143*6)).take 143).all reC7=true:=by kernel_rfl
theorem re7_87:(((pathsR 8).drop (143*7)).take 143).all reC7=true:=by kernel_rfl
theorem re7_88:(((pathsR 8).drop (143*8)).take 143).all reC7=true:=by kernel_rfl
theorem re7_89:(((pathsR 8).drop (143*9)).take 143).all reC7=true:=by kernel_rfl
theorem re7_8:(pathsR 8).all reC7=true:=all_chunks (by omega) pathsR_l8 fun j hj=>match j,hj with
 | 0,_=>re7_80
 | 1,_=>re7_81
 | 2,_=>re7_82
 | 3,_=>re7_83
 | 4,_=>re7_84
 | 5,_=>re7_85
 | 6,_=>re7_86
 | 7,_=>re7_87
 | 8,_=>re7_88
 | 9,_=>re7_89
 | j+10,h=>absurd h (by omega)
theorem rd_7 {w:List Nat} (hd:dyck w=true):(txW w 7).map (fun (c:Nat)=>(c:Int)-49)=perF w∧(pathO (perF w)=true∧pathRR (perF w)=w)∧(txW w 7).length=w.length / 2:=by
 have h:=all_paths re7a re7_7 re7_8 hd
 simp only [reC7,qba,qde,qat] at h
 obtain ⟨h0,h1,h2⟩:=h
 have et:txW w 7=rwC (perF w):=by
  rw [txW,rwT_C h2 (Nat.le_refl _),List.take_length]
 refine ⟨?_,⟨h0,h1⟩,by rw [et,rwC,List.length_map,perF_len]⟩
 rw [et,rwC,List.map_map]
 conv=>rhs; rw [← List.map_id (perF w)]
 refine List.map_congr_left fun x hx=>?_
 have:=h2 x hx
 show ((49+x.toNat:Nat):Int)-49=x
 omega
end Go.Cat
