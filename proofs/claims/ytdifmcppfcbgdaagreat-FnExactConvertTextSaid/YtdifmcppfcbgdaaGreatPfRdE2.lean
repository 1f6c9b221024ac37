/-
 Plane trees, read back from the text of a path.
-/
import Derived.Test.YtdifmcppfcbgdaaGreatPfRdE
set_option linter.unusedSimpArgs false
set_option linter.unusedVariables false
namespace Go.Cat
set_option maxRecDepth 100000
def reC2 (w:List Nat):Bool:=isPl (plF w)&&(decide (ppF (plF w)=w)&&decide ((plF w).length=w.length / 2+1))
theorem re2a:allB 7 (fun n=>(pathsR n).all reC2)=true:=by kernel_rfl
theorem re2_70:(((pathsR 7).drop (143*0)).take 143).all reC2=true:=by kernel_rfl
theorem re2_71:(((pathsR 7).drop (143*1)).take 143).all reC2=true:=by kernel_rfl
theorem re2_72:(((pathsR 7).drop (143*2)).take 143).all reC2=true:=by kernel_rfl
theorem re2_7:(pathsR 7).all reC2=true:=all_chunks (by omega) pathsR_l7 fun j hj=>match j,hj with
 | 0,_=>re2_70
 | 1,_=>re2_71
 | 2,_=>re2_72
 | j+3,h=>absurd h (by omega)
theorem re2_80:(((pathsR 8).drop (143*0)).take 143).all reC2=true:=by kernel_rfl
theorem re2_81:(((pathsR 8).drop (143*1)).take 143).all reC2=true:=by kernel_rfl
theorem re2_82:(((pathsR 8).drop (143*2)).take 143).all reC2=true:=by kernel_rfl
theorem re2_83:(((pathsR 8).drop (143*3)).take 143).all reC2=true:=by kernel_rfl
theorem re2_84:(((pathsR 8).drop (143*4)).take 143).all reC2=true:=by kernel_rfl
theorem re2_85:(((pathsR 8).drop (143*5)).take 143).all reC2=true:=by kernel_rfl
theorem re2_86:(((pathsR 8).drop (143*6)).take 143).all reC2=true:=by kernel_rfl
theorem re2_87:(((pathsR 8).drop (143*7)).take 143).all reC2=true:=by kernel_rfl
theorem re2_88:(((pathsR 8).drop (143*8)).take 143).all reC2=true:=by kernel_rfl
theorem re2_89:(((pathsR 8).drop (143*9)).take 143).all reC2=true:=by kernel_rfl
theorem re2_8:(pathsR 8).all reC2=true:=all_chunks (by omega) pathsR_l8 fun j hj=>match j,hj with
 | 0,_=>re2_80
 | 1,_=>re2_81
 | 2,_=>re2_82
 | 3,_=>re2_83
 | 4,_=>re2_84
 | 5,_=>re2_85
 | 6,_=>re2_86
 | 7,_=>re2_87
 | 8,_=>re2_88
 | 9,_=>re2_89
 | j+10,h=>absurd h (by omega)
theorem rd_2 {w:List Nat} (hd:dyck w=true):(numO (cutF 44 (txW w 2))=true∧numR (cutF 44 (txW w 2))=plF w)∧(isPl (plF w)=true∧ppF (plF w)=w)∧cnt (txW w 2) 44=w.length / 2∧(txW w 2).length≤100:=by
 have h:=all_paths re2a re2_7 re2_8 hd
 simp only [reC2,qba,qde] at h
 obtain ⟨h1,h2,h3⟩:=h
 obtain ⟨g1,g2⟩:=isPl_t h1
 have hin:∀ x∈plF w,-1≤x∧x≤100:=by
  intro x hx
  obtain ⟨i,hi,rfl⟩:=List.mem_iff_getElem.1 hx
  have:=g2 i hi
  simpa [atI,hi] using this
 have et:txW w 2=sep 44 ((plF w).map fmtI):=by
  rw [txW,fplF,if_pos h1,glue_sep,inW]
 have hno:∀ p∈(plF w).map fmtI,44∉p:=by
  intro p hp
  obtain ⟨x,_,rfl⟩:=List.mem_map.1 hp
  exact fmt_no rfl (by omega)
 have hne:(plF w).map fmtI≠[]:=by
  intro q
  have:=congrArg List.length q
  simp only [List.length_map,qln] at this; omega
 have hc:=cut_sep hne hno
 have hO:numO ((plF w).map fmtI)=true:=by
  simp only [numO,qat,List.mem_map]
  rintro p ⟨x,hx,rfl⟩
  have:=hin x hx
  exact pOK_fmt (by omega)
 have hR:numR ((plF w).map fmtI)=plF w:=by
  rw [numR,if_pos hO,List.map_map]
  conv=>rhs; rw [← List.map_id (plF w)]
  exact List.map_congr_left fun x _=>fmt_pv
 have hl2:∀ p∈(plF w).map fmtI,p.length≤3:=by
  intro p hp
  obtain ⟨x,hx,rfl⟩:=List.mem_map.1 hp
  have hx:=hin x hx
  by_cases q:x=-1
  ·subst q
   have e0:digs 0=[]:=by simp [digs]
   simp [fmtI,digs_s,e0]
  ·exact fmt_k (by omega) (by omega) (by omega)
 have hl:=sep_len (b:=44) hl2
 rw [List.length_map] at hl
 refine ⟨⟨by rw [et,hc]; exact hO,by rw [et,hc]; exact hR⟩,⟨h1,h2⟩,?_,by rw [et]; omega⟩
 rw [et,cnt_sepb hno,List.length_map]; omega
end Go.Cat
