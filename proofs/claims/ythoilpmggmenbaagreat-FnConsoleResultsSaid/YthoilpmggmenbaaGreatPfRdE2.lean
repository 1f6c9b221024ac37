/-
 Plane trees, read back from the text of a path.
-/
import Derived.Test.YthoilpmggmenbaaGreatPfRdE
set_option linter.unusedSimpArgs false
set_option linter.unusedVariables false
namespace Go.Cat
set_option maxRecDepth 100000
def El(w:List Nat):Bool:=CY (Ca w)&&(decide (Ml (Ca w)=w)&&decide ((Ca w).length=w.length/2+1))
theorem re2a:BH 7 (λn=>(AG n).all El)=true:=by kernel_rfl
theorem AXZ:(((AG 7).drop (143*0)).take 143).all El=true:=by kernel_rfl
theorem AY9:(((AG 7).drop (143*1)).take 143).all El=true:=by kernel_rfl
theorem AN0:(((AG 7).drop (143*2)).take 143).all El=true:=by kernel_rfl
theorem ARD:(AG 7).all El=true:=H5 (by omega) Nd λj H=>match j,H with
 |0,_=>AXZ
 |1,_=>AY9
 |2,_=>AN0
 |j+3,h=>absurd h (by omega)
theorem AVT:(((AG 8).drop (143*0)).take 143).all El=true:=by kernel_rfl
theorem AYN:(((AG 8).drop (143*1)).take 143).all El=true:=by kernel_rfl
theorem ATX:(((AG 8).drop (143*2)).take 143).all El=true:=by kernel_rfl
theorem AP3:(((AG 8).drop (143*3)).take 143).all El=true:=by kernel_rfl
theorem ASI:(((AG 8).drop (143*4)).take 143).all El=true:=by kernel_rfl
theorem ASB:(((AG 8).drop (143*5)).take 143).all El=true:=by kernel_rfl
theorem AP4:(((AG 8).drop (143*6)).take 143).all El=true:=by kernel_rfl
theorem AZD:(((AG 8).drop (143*7)).take 143).all El=true:=by kernel_rfl
theorem AXU:(((AG 8).drop (143*8)).take 143).all El=true:=by kernel_rfl
theorem AZG:(((AG 8).drop (143*9)).take 143).all El=true:=by kernel_rfl
theorem AXW:(AG 8).all El=true:=H5 (by omega) Mx λj H=>match j,H with
 |0,_=>AVT
 |1,_=>AYN
 |2,_=>ATX
 |3,_=>AP3
 |4,_=>ASI
 |5,_=>ASB
 |6,_=>AP4
 |7,_=>AZD
 |8,_=>AXU
 |9,_=>AZG
 |j+10,h=>absurd h (by omega)
theorem AHE{w:List Nat}(hd:AK w=true):(Gn (Ag 44 (A9 w 2))=true/\EW (Ag 44 (A9 w 2))=Ca w)/\(CY (Ca w)=true/\Ml (Ca w)=w)/\AA (A9 w 2) 44=w.length/2/\(A9 w 2).length<=100:=by
 have h:=NP re2a ARD AXW hd;simp only[El,AU,Ad]at h;obtain⟨c,s,F⟩:=h;obtain⟨C,G⟩:=OX c;have a:∀x∈Ca w,-1<=x/\x<=100:=by intro x H;obtain⟨i,hi,rfl⟩:=List.mem_iff_getElem.1 H;have:=G i hi;simpa[AB,hi]using this
 have e:A9 w 2=sep 44 ((Ca w).map AN):=by rw[A9,Hb,if_pos c,K8,E7]
 have o:∀p∈(Ca w).map AN,44∉p:=by intro p j;obtain⟨x,_,rfl⟩:=List.mem_map.1 j;exact L8 rfl (by omega)
 have g:(Ca w).map AN≠[]:=by intro q;have:=congrArg List.length q;simp only[List.length_map,Aa]at this;omega
 have k:=Of g o;have O:Gn ((Ca w).map AN)=true:=by simp only[Gn,Aj,List.mem_map];rintro p ⟨x,H,rfl⟩;have:=a x H;exact JU (by omega)
 have R:EW ((Ca w).map AN)=Ca w:=by
  rw[EW,if_pos O,List.map_map];conv=>rhs;rw[<-List.map_id (Ca w)]
  exact List.map_congr_left λx _=>NI
 have f:∀p∈(Ca w).map AN,p.length<=3:=by
  intro p j;obtain⟨x,H,rfl⟩:=List.mem_map.1 j;have H:=a x H;by_cases q:x=-1;subst q;have l:CQ 0=[]:=by simp[CQ]
  simp[AN,GW,l];exact La (by omega) (by omega) (by omega)
 have B:=PW (b:=44) f;rw[List.length_map]at B;refine⟨⟨by rw[e,k];exact O,by rw[e,k];exact R⟩,⟨c,s⟩,?_,by rw[e];omega⟩;rw[e,XJ o,List.length_map];omega
end Go.Cat
