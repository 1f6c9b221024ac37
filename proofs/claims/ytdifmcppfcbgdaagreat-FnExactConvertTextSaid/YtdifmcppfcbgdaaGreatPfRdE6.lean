/-
 Matchings, read back from the text of a path.
-/
import Derived.Test.YtdifmcppfcbgdaaGreatPfRdE
set_option linter.unusedSimpArgs false
set_option linter.unusedVariables false
namespace Go.Cat
set_option maxRecDepth 100000
def arR (m:List Int):Nat→List (List Int)
 | 0=>[]
 | i+1=>if (i:Int)<atI m i then arR m i++[[(i:Int),atI m i]] else arR m i
def reC6 (w:List Nat):Bool:=ncmF (mateC w)&&(decide ((mateC w).length=w.length)&&(decide (2*(arR (mateC w) w.length).length=w.length)&&(decide (mtX (w.length:Nat) (arR (mateC w) w.length) (List.replicate w.length 0)=some (mateC w))&&(decide (pomR (mateC w)=w)&&(mateC w).all (fun x=>decide (0≤x)&&decide (x≤15))))))
theorem re6a:allB 7 (fun n=>(pathsR n).all reC6)=true:=by kernel_rfl
theorem re6_70:(((pathsR 7).drop (143*0)).take 143).all reC6=true:=by kernel_rfl
theorem re6_71:(((pathsR 7).drop (143*1)).take 143).all reC6=true:=by kernel_rfl
theorem re6_72:(((pathsR 7).drop (143*2)).take 143).all reC6=true:=by kernel_rfl
theorem re6_7:(pathsR 7).all reC6=true:=all_chunks (by omega) pathsR_l7 fun j hj=>match j,hj with
 | 0,_=>re6_70
 | 1,_=>re6_71
 | 2,_=>re6_72
 | j+3,h=>absurd h (by omega)
theorem re6_80:(((pathsR 8).drop (143*0)).take 143).all reC6=true:=by kernel_rfl
theorem re6_81:(((pathsR 8).drop (143*1)).take 143).all reC6=true:=by kernel_rfl
theorem re6_82:(((pathsR 8).drop (143*2)).take 143).all reC6=true:=by kernel_rfl
theorem re6_83:(((pathsR 8).drop (143*3)).take 143).all reC6=true:=by kernel_rfl
theorem re6_84:(((pathsR 8).drop (143*4)).take 143).all reC6=true:=by kernel_rfl
theorem re6_85:(((pathsR 8).drop (143*5)).take 143).all reC6=true:=by kernel_rfl
theorem re6_86:(((pathsR 8).drop (143*6)).take 143).all reC6=true:=by kernel_rfl
theorem re6_87:(((pathsR 8).drop (143*7)).take 143).all reC6=true:=by kernel_rfl
theorem re6_88:(((pathsR 8).drop (143*8)).take 143).all reC6=true:=by kernel_rfl
theorem re6_89:(((pathsR 8).drop (143*9)).take 143).all reC6=true:=by kernel_rfl
theorem re6_8:(pathsR 8).all reC6=true:=all_chunks (by omega) pathsR_l8 fun j hj=>match j,hj with
 | 0,_=>re6_80
 | 1,_=>re6_81
 | 2,_=>re6_82
 | 3,_=>re6_83
 | 4,_=>re6_84
 | 5,_=>re6_85
 | 6,_=>re6_86
 | 7,_=>re6_87
 | 8,_=>re6_88
 | 9,_=>re6_89
 | j+10,h=>absurd h (by omega)
theorem arW_R {m:List Int} (hm:∀ x∈m,0≤x∧x≤15) (hl:m.length≤16):∀ {i:Nat},i≤m.length→(arW m i).length=(arR m i).length∧(arW m i).all mtP2=true∧(arW m i).map mtRow=arR m i∧∀ p∈arW m i,32∉p∧cnt p 45=1∧p.length≤5
 | 0,_=>by simp [arW,arR]
 | i+1,hi=>by
  obtain ⟨h1,h2,h3,h4⟩:=arW_R hm hl (i:=i) (by omega)
  rw [arW,arR]
  split
  ·have hb:0≤atI m i∧atI m i≤15:=by
    have:atI m i=m[i]:=by simp [atI,show i<m.length by omega]
    rw [this]; exact hm _ (List.getElem_mem _)
   have hc:=cut_two (fmt_no45 (x:=(i:Int)) (by omega)) (fmt_no45 hb.1)
   have hok:numO (cutF 45 (fmtI (i:Int)++[45]++fmtI (atI m i)))=true:=by
    rw [hc]
    simp [numO,pOK_fmt (n:=(i:Int)) (by omega),pOK_fmt (n:=atI m i) (by omega)]
   have hr:numR (cutF 45 (fmtI (i:Int)++[45]++fmtI (atI m i)))=[(i:Int),atI m i]:=by
    rw [numR,if_pos hok,hc]
    simp [fmt_pv]
   refine ⟨by simp [h1],?_,?_,?_⟩
   ·rw [List.all_append,h2]
    simp only [List.all_cons,List.all_nil,mtP2,hok,hr]; rfl
   ·rw [List.map_append,h3]
    simp only [List.map_cons,List.map_nil,mtRow,hr]
   ·intro p hp
    rcases qma.1 hp with q | q
    ·exact h4 p q
    ·rw [List.mem_singleton.1 q]
     have k1:=fmt_k (x:=(i:Int)) (k:=2) (by omega) (by omega) (by omega)
     have k2:=fmt_k (x:=atI m i) (k:=2) (by omega) (by omega) (by omega)
     refine ⟨?_,?_,?_⟩
     ·simp only [qma,List.mem_singleton,not_or]
      exact ⟨⟨fmt_no rfl (by omega),by omega⟩,fmt_no rfl (by omega)⟩
     ·rw [cnt_app,cnt_app,cnt_no (fmt_no45 (by omega)),cnt_no (fmt_no45 hb.1)]; rfl
     ·simp only [qla,qlc,qln]; omega
  ·exact ⟨h1,h2,h3,h4⟩
theorem rd_6 {w:List Nat} (hd:dyck w=true):mtS (txW w 6)=some (mate w)∧(ncmF (mate w)=true∧pomR (mate w)=w)∧cnt (txW w 6) 45=w.length / 2∧(txW w 6).length≤100:=by
 have h:=all_paths re6a re6_7 re6_8 hd
 have hl:=(DY_of hd).l
 rw [mateC_eq hd,txW,mateC_eq hd]
 simp only [reC6,qba,qde,qat] at h
 generalize mateC w=m at h
 obtain ⟨h0,h1,h2,h3,h4,h5⟩:=h
 have hM:matF m=true:=by
  simp only [ncmF,qba] at h0; exact h0.1
 obtain ⟨g1,g2,g3,g4⟩:=arW_R h5 (by omega) (Nat.le_refl m.length)
 rw [h1] at g1 g2 g3 g4
 rw [fmaF,if_pos hM]
 by_cases hz:w.length=0
 ·have e0:m=[]:=qez (by omega)
  have e1:w=[]:=qez hz
  subst e0; subst e1
  refine ⟨rfl,⟨h0,h4⟩,rfl,by decide⟩
 ·rw [if_neg (by omega),glue_sep,h1]
  have hne:arW m w.length≠[]:=by
   intro q
   rw [q] at g1
   simp only [qln] at g1; omega
  have hc:=cut_sep hne (fun p hp=>(g4 p hp).1)
  have hsl:=sep_len (b:=32) (fun p hp=>(g4 p hp).2.2)
  have hn:sep 32 (arW m w.length)≠[110,111,110,101]:=by
   intro q
   have:=cnt_sep (b:=32) (c:=45) (by omega) (fun p hp=>(g4 p hp).2.1)
   rw [q,g1] at this
   have e:cnt [110,111,110,101] 45=0:=rfl
   omega
  refine ⟨?_,⟨h0,h4⟩,?_,by omega⟩
  ·have e2:2*(arW m w.length).length=w.length:=by omega
   rw [mtS,if_neg hn,hc,if_pos g2,g3,e2]
   exact h3
  ·rw [cnt_sep (by omega) (fun p hp=>(g4 p hp).2.1)]; omega
end Go.Cat
