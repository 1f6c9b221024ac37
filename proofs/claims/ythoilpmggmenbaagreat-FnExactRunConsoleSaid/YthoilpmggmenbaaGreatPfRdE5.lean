/-
 Partitions, read back from the text of a path.
-/
import Derived.Test.YthoilpmggmenbaaGreatPfRdM
set_option linter.unusedSimpArgs false
set_option linter.unusedVariables false
namespace Go.Cat
set_option maxRecDepth 100000
def LH(r:List Int):List Nat:=r.map λx=>49+x.toNat
theorem UU{r:List Int}(h:∀x∈r,0<=x/\x<=8):∀{i:Nat},i<=r.length->DS r i=LH (r.take i)
 |0,_=>by simp[DS,LH]
 |i+1,hi=>by
  have H:AB r i=r[i]:=by simp[AB,show i<r.length by omega]
  have b:=h r[i] (List.getElem_mem _);have e:(r[i]+1).toNat=r[i].toNat+1:=by omega
  rw[DS,UU h (by omega),H,KY (by omega) (by omega),CP (by omega),e];have a:48+(r[i].toNat+1)=49+r[i].toNat:=by omega
  rw[a];simp only[LH,List.map_append,List.map_cons,List.map_nil]
def MU(w:List Nat):List Nat:=sep 124 ((CJ (E6 w)).map LH)
def FX(w:List Nat):Bool:=(CJ (E6 w)).all (λr=>r.all λx=>decide (0<=x)&&decide (x<=8))&&(decide (Im (MU w)=some (E6 w))&&(Fq (E6 w)&&(decide (Ig (E6 w)=w)&&(decide ((MU w).length=w.length/2+AA (MU w) 124)&&decide ((MU w).length<=100)))))
theorem re5a:BR 7 (λn=>(AI n).all FX)=true:=by kernel_rfl
theorem AW1:(((AI 7).drop (143*0)).take 143).all FX=true:=by kernel_rfl
theorem AgC:(((AI 7).drop (143*1)).take 143).all FX=true:=by kernel_rfl
theorem AWK:(((AI 7).drop (143*2)).take 143).all FX=true:=by kernel_rfl
theorem AkM:(AI 7).all FX=true:=IY (by omega) Pn λj H=>match j,H with
 |0,_=>AW1
 |1,_=>AgC
 |2,_=>AWK
 |j+3,h=>absurd h (by omega)
theorem AjP:(((AI 8).drop (143*0)).take 143).all FX=true:=by kernel_rfl
theorem Ah3:(((AI 8).drop (143*1)).take 143).all FX=true:=by kernel_rfl
theorem AW6:(((AI 8).drop (143*2)).take 143).all FX=true:=by kernel_rfl
theorem AfO:(((AI 8).drop (143*3)).take 143).all FX=true:=by kernel_rfl
theorem AcO:(((AI 8).drop (143*4)).take 143).all FX=true:=by kernel_rfl
theorem Aj3:(((AI 8).drop (143*5)).take 143).all FX=true:=by kernel_rfl
theorem AiL:(((AI 8).drop (143*6)).take 143).all FX=true:=by kernel_rfl
theorem AXO:(((AI 8).drop (143*7)).take 143).all FX=true:=by kernel_rfl
theorem AkI:(((AI 8).drop (143*8)).take 143).all FX=true:=by kernel_rfl
theorem AfL:(((AI 8).drop (143*9)).take 143).all FX=true:=by kernel_rfl
theorem AV4:(AI 8).all FX=true:=IY (by omega) P7 λj H=>match j,H with
 |0,_=>AjP
 |1,_=>Ah3
 |2,_=>AW6
 |3,_=>AfO
 |4,_=>AcO
 |5,_=>Aj3
 |6,_=>AiL
 |7,_=>AXO
 |8,_=>AkI
 |9,_=>AfL
 |j+10,h=>absurd h (by omega)
theorem AP6{w:List Nat}(hd:AK w=true):Im (A8 w 5)=some (Dw w)/\(Fq (Dw w)=true/\Ig (Dw w)=w)/\(A8 w 5).length=w.length/2+AA (A8 w 5) 124/\(A8 w 5).length<=100:=by
 have h:=Pj re5a AkM AV4 hd;simp only[FX,AV,Aa,Ao]at h;obtain⟨h0,H,a,b,c,f⟩:=h;have e:A8 w 5=MU w:=by rw[A8,JI,Lg,Q0 hd,EY,MU];congr 1;refine List.map_congr_left λr g=>?_;rw[UU (h0 r g) (Nat.le_refl _),List.take_length]
 rw[e,Q0 hd];exact⟨H,⟨a,b⟩,c,f⟩
end Go.Cat
