/-
 Diagonals, read back from the text of a path.
-/
import Derived.Test.YtdifmcppfcbgdaaGreatPfRdE
set_option linter.unusedSimpArgs false
set_option linter.unusedVariables false
namespace Go.Cat
set_option maxRecDepth 100000
def reT4 (d:List (List Int)):List Nat:=if d.length=0 then [110,111,110,101] else sep 32 (d.map fun r=>[48+(atI r 0).toNat,48+(atI r 1).toNat])
def reC4 (w:List Nat):Bool:=decide ((btC w).p=w)&&((tgF (btC w)).all dgB&&(decide ((tgF (btC w)).length≤7)&&(decide (dgRows (reT4 (tgF (btC w)))=tgF (btC w))&&(triF ((btC w).n+2) (tgF (btC w))&&decide ((btT ((btC w).n+2) (tgF (btC w))).p=w)))))
theorem re4a:allB 7 (fun n=>(pathsR n).all reC4)=true:=by kernel_rfl
theorem re4_70:(((pathsR 7).drop (143*0)).take 143).all reC4=true:=by kernel_rfl
theorem re4_71:(((pathsR 7).drop (143*1)).take 143).all reC4=true:=by kernel_rfl
theorem re4_72:(((pathsR 7).drop (143*2)).take 143).all reC4=true:=by kernel_rfl
theorem re4_7:(pathsR 7).all reC4=true:=all_chunks (by omega) pathsR_l7 fun j hj=>match j,hj with
 | 0,_=>re4_70
 | 1,_=>re4_71
 | 2,_=>re4_72
 | j+3,h=>absurd h (by omega)
theorem re4_80:(((pathsR 8).drop (143*0)).take 143).all reC4=true:=by kernel_rfl
theorem re4_81:(((pathsR 8).drop (143*1)).take 143).all reC4=true:=by kernel_rfl
theorem re4_82:(((pathsR 8).drop (143*2)).take 143).all reC4=true:=by kernel_rfl
theorem re4_83:(((pathsR 8).drop (143*3)).take 143).all reC4=true:=by kernel_rfl
theorem re4_84:(((pathsR 8).drop (143*4)).take 143).all reC4=true:=by kernel_rfl
theorem re4_85:(((pathsR 8).drop (143*5)).take 143).all reC4=true:=by kernel_rfl
theorem re4_86:(((pathsR 8).drop (143*6)).take 143).all reC4=true:=by kernel_rfl
theorem re4_87:(((pathsR 8).drop (143*7)).take 143).all reC4=true:=by kernel_rfl
theorem re4_88:(((pathsR 8).drop (143*8)).take 143).all reC4=true:=by kernel_rfl
theorem re4_89:(((pathsR 8).drop (143*9)).take 143).all reC4=true:=by kernel_rfl
theorem re4_8:(pathsR 8).all reC4=true:=all_chunks (by omega) pathsR_l8 fun j hj=>match j,hj with
 | 0,_=>re4_80
 | 1,_=>re4_81
 | 2,_=>re4_82
 | 3,_=>re4_83
 | 4,_=>re4_84
 | 5,_=>re4_85
 | 6,_=>re4_86
 | 7,_=>re4_87
 | 8,_=>re4_88
 | 9,_=>re4_89
 | j+10,h=>absurd h (by omega)
theorem coF_app:∀ {a r:List Nat},58∉a→coF (a++58::r)=a.length
 | [],r,_=>by simp [coF]
 | c::t,r,h=>by
  simp only [qmn,not_or] at h
  have:=coF_app (a:=t) (r:=r) h.2
  have hc:decide (c≠58)=true:=by simpa using fun q=>h.1 q.symm
  unfold coF at this ⊢
  rw [List.cons_append,List.takeWhile_cons,if_pos hc,qlc,this,qlc]
theorem dgF_C {d:List (List Int)} (h:d.all dgB=true) (hl:d.length≤7):dgF d=reT4 d:=by
 unfold dgF reT4
 split
 ·rfl
 ·rw [if_neg (by omega),glue_sep,dgW]
  congr 1
  refine List.map_congr_left fun r hr=>?_
  have:=qat.1 h r hr
  simp only [dgB,qba,qde,inR_iff] at this
  rw [fmt_1 this.2.1.1 this.2.1.2,fmt_1 this.2.2.1 this.2.2.2]; rfl
theorem rd_4 {w:List Nat} (hd:dyck w=true):dgT (txW w 4)=some w∧(∃ r,cutF 58 (txW w 4)=fmtI (((w.length / 2:Nat):Int)+2)::r)∧(txW w 4).length≤100:=by
 have h:=all_paths re4a re4_7 re4_8 hd
 have hl:=(DY_of hd).l
 simp only [reC4,qba,qde] at h
 obtain ⟨x,hx⟩:∃ x,x=btC w:=⟨_,rfl⟩
 rw [← hx] at h
 obtain ⟨h0,h1,h2,h3,h4,h5⟩:=h
 have hbt:btF w=x:=by rw [← h0,btF_p]
 have hn:=BT.pl x
 rw [h0] at hn
 have e1:(w.length:Int) / 2+2=((w.length / 2:Nat):Int)+2:=by omega
 have e2:((w.length / 2:Nat):Int)+2=(x.n:Int)+2:=by omega
 have et:txW w 4=fmtI ((x.n:Int)+2)++58::(32::reT4 (tgF x)):=by
  rw [txW,hbt,dgF_C h1 h2,e1,e2]; simp
 have hno:58∉fmtI ((x.n:Int)+2):=fmt_no rfl (by omega)
 have hco:=coF_app (r:=32::reT4 (tgF x)) hno
 have hk:=fmt_k (x:=(x.n:Int)+2) (k:=2) (by omega) (by omega) (by omega)
 have hT:(reT4 (tgF x)).length≤7*3:=by
  unfold reT4
  split
  ·decide
  ·have:=sep_len (b:=32) (k:=2) (ps:=(tgF x).map fun r=>[48+(atI r 0).toNat,48+(atI r 1).toNat]) (by
    intro p hp
    obtain ⟨r,_,rfl⟩:=List.mem_map.1 hp
    simp)
   rw [List.length_map] at this
   omega
 refine ⟨?_,⟨?_,?_⟩,?_⟩
 ·rw [et,dgT,hco,List.take_left',pOK_fmt (by omega),pR_fmt (by omega)]
  have e3:(fmtI ((x.n:Int)+2)++58::(32::reT4 (tgF x))).drop ((fmtI ((x.n:Int)+2)).length+2)=reT4 (tgF x):=by
   rw [List.drop_append]; simp
  rw [e3,h3,h4,if_pos ⟨rfl,by simp,rfl⟩,h5]
  rfl
 ·exact cutA 58 [] (32::reT4 (tgF x))
 ·rw [et,e2,cutF,cutA_no hno,cutA,if_pos rfl]; simp
 ·rw [et]
  simp only [qla,qlc]; omega
end Go.Cat
