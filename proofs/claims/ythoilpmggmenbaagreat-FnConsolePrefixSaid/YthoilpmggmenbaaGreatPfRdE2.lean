/-
 Plane trees, read back from the text of a path.
-/
import Derived.Test.YthoilpmggmenbaaGreatPfRdE
set_option linter.unusedSimpArgs false
set_option linter.unusedVariables false
namespace Go.Cat
set_option maxRecDepth 100000
def F1(w:List Nat):Bool:=CI (Co w)&&(decide (KE (Co w)=w)&&decide ((Co w).length=w.length/2+1))
theorem re2a:BR 7 (λn=>(AI n).all F1)=true:=by kernel_rfl
theorem AZI:(((AI 7).drop (143*0)).take 143).all F1=true:=by kernel_rfl
theorem AXA:(((AI 7).drop (143*1)).take 143).all F1=true:=by kernel_rfl
theorem AWY:(((AI 7).drop (143*2)).take 143).all F1=true:=by kernel_rfl
theorem AlK:(AI 7).all F1=true:=JC (by omega) QV λj H=>match j,H with
 |0,_=>AZI
 |1,_=>AXA
 |2,_=>AWY
 |j+3,h=>absurd h (by omega)
theorem AV0:(((AI 8).drop (143*0)).take 143).all F1=true:=by kernel_rfl
theorem AlA:(((AI 8).drop (143*1)).take 143).all F1=true:=by kernel_rfl
theorem Ab4:(((AI 8).drop (143*2)).take 143).all F1=true:=by kernel_rfl
theorem AZS:(((AI 8).drop (143*3)).take 143).all F1=true:=by kernel_rfl
theorem AgI:(((AI 8).drop (143*4)).take 143).all F1=true:=by kernel_rfl
theorem AiC:(((AI 8).drop (143*5)).take 143).all F1=true:=by kernel_rfl
theorem AhL:(((AI 8).drop (143*6)).take 143).all F1=true:=by kernel_rfl
theorem AXJ:(((AI 8).drop (143*7)).take 143).all F1=true:=by kernel_rfl
theorem AhB:(((AI 8).drop (143*8)).take 143).all F1=true:=by kernel_rfl
theorem AY1:(((AI 8).drop (143*9)).take 143).all F1=true:=by kernel_rfl
theorem Al6:(AI 8).all F1=true:=JC (by omega) Of λj H=>match j,H with
 |0,_=>AV0
 |1,_=>AlA
 |2,_=>Ab4
 |3,_=>AZS
 |4,_=>AgI
 |5,_=>AiC
 |6,_=>AhL
 |7,_=>AXJ
 |8,_=>AhB
 |9,_=>AY1
 |j+10,h=>absurd h (by omega)
theorem AOQ{w:List Nat}(hd:AK w=true):(Cm (AO 44 (A8 w 2))=true/\Bp (AO 44 (A8 w 2))=Co w)/\(CI (Co w)=true/\KE (Co w)=w)/\AA (A8 w 2) 44=w.length/2/\(A8 w 2).length<=100:=by
 have h:=P9 re2a AlK Al6 hd;simp only[F1,AV,Ac]at h;obtain⟨c,s,F⟩:=h;obtain⟨C,G⟩:=TI c;have a:∀x∈Co w,-1<=x/\x<=100:=by intro x H;obtain⟨i,hi,rfl⟩:=List.mem_iff_getElem.1 H;have:=G i hi;simpa[AB,hi]using this
 have e:A8 w 2=sep 44 ((Co w).map AQ):=by rw[A8,IZ,if_pos c,Lz,Ex]
 have o:∀p∈(Co w).map AQ,44∉p:=by intro p j;obtain⟨x,_,rfl⟩:=List.mem_map.1 j;exact N2 rfl (by omega)
 have g:(Co w).map AQ≠[]:=by intro q;have:=congrArg List.length q;simp only[List.length_map,A5]at this;omega
 have k:=Ru g o;have O:Cm ((Co w).map AQ)=true:=by simp only[Cm,Ao,List.mem_map];rintro p ⟨x,H,rfl⟩;have:=a x H;exact LC (by omega)
 have R:Bp ((Co w).map AQ)=Co w:=by
  rw[Bp,if_pos O,List.map_map];conv=>rhs;rw[<-List.map_id (Co w)]
  exact List.map_congr_left λx _=>P8
 have f:∀p∈(Co w).map AQ,p.length<=3:=by
  intro p j;obtain⟨x,H,rfl⟩:=List.mem_map.1 j;have H:=a x H;by_cases q:x=-1;subst q;have l:Cd 0=[]:=by simp[Cd]
  simp[AQ,Hf,l];exact Nl (by omega) (by omega) (by omega)
 have B:=R6 (b:=44) f;rw[List.length_map]at B;refine⟨⟨by rw[e,k];exact O,by rw[e,k];exact R⟩,⟨c,s⟩,?_,by rw[e];omega⟩;rw[e,AB5 o,List.length_map];omega
end Go.Cat
