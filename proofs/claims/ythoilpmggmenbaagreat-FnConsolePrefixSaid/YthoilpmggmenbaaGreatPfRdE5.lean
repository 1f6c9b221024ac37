/-
 Partitions, read back from the text of a path.
-/
import Derived.Test.YthoilpmggmenbaaGreatPfRdE
set_option linter.unusedSimpArgs false
set_option linter.unusedVariables false
namespace Go.Cat
set_option maxRecDepth 100000
def Kv(r:List Int):List Nat:=r.map λx=>49+x.toNat
theorem XN{r:List Int}(h:∀x∈r,0<=x/\x<=8):∀{i:Nat},i<=r.length->DW r i=Kv (r.take i)
 |0,_=>by simp[DW,Kv]
 |i+1,hi=>by
  have H:AB r i=r[i]:=by simp[AB,show i<r.length by omega]
  have b:=h r[i] (List.getElem_mem _);have e:(r[i]+1).toNat=r[i].toNat+1:=by omega
  rw[DW,XN h (by omega),H,Kg (by omega) (by omega),CQ (by omega),e];have a:48+(r[i].toNat+1)=49+r[i].toNat:=by omega
  rw[a];simp only[Kv,List.map_append,List.map_cons,List.map_nil]
def Mp(w:List Nat):List Nat:=sep 124 ((CM (Ed w)).map Kv)
def FR(w:List Nat):Bool:=(CM (Ed w)).all (λr=>r.all λx=>decide (0<=x)&&decide (x<=8))&&(decide (Iw (Mp w)=some (Ed w))&&(GM (Ed w)&&(decide (Ij (Ed w)=w)&&(decide ((Mp w).length=w.length/2+AA (Mp w) 124)&&decide ((Mp w).length<=100)))))
theorem re5a:BR 7 (λn=>(AI n).all FR)=true:=by kernel_rfl
theorem AjI:(((AI 7).drop (143*0)).take 143).all FR=true:=by kernel_rfl
theorem AbI:(((AI 7).drop (143*1)).take 143).all FR=true:=by kernel_rfl
theorem AdM:(((AI 7).drop (143*2)).take 143).all FR=true:=by kernel_rfl
theorem AlI:(AI 7).all FR=true:=JC (by omega) QV λj H=>match j,H with
 |0,_=>AjI
 |1,_=>AbI
 |2,_=>AdM
 |j+3,h=>absurd h (by omega)
theorem AhQ:(((AI 8).drop (143*0)).take 143).all FR=true:=by kernel_rfl
theorem AkT:(((AI 8).drop (143*1)).take 143).all FR=true:=by kernel_rfl
theorem AYJ:(((AI 8).drop (143*2)).take 143).all FR=true:=by kernel_rfl
theorem AjP:(((AI 8).drop (143*3)).take 143).all FR=true:=by kernel_rfl
theorem AlV:(((AI 8).drop (143*4)).take 143).all FR=true:=by kernel_rfl
theorem AdZ:(((AI 8).drop (143*5)).take 143).all FR=true:=by kernel_rfl
theorem AaE:(((AI 8).drop (143*6)).take 143).all FR=true:=by kernel_rfl
theorem AZ6:(((AI 8).drop (143*7)).take 143).all FR=true:=by kernel_rfl
theorem AU3:(((AI 8).drop (143*8)).take 143).all FR=true:=by kernel_rfl
theorem AjF:(((AI 8).drop (143*9)).take 143).all FR=true:=by kernel_rfl
theorem AXU:(AI 8).all FR=true:=JC (by omega) Of λj H=>match j,H with
 |0,_=>AhQ
 |1,_=>AkT
 |2,_=>AYJ
 |3,_=>AjP
 |4,_=>AlV
 |5,_=>AdZ
 |6,_=>AaE
 |7,_=>AZ6
 |8,_=>AU3
 |9,_=>AjF
 |j+10,h=>absurd h (by omega)
theorem AJ6{w:List Nat}(hd:AK w=true):Iw (A8 w 5)=some (EB w)/\(GM (EB w)=true/\Ij (EB w)=w)/\(A8 w 5).length=w.length/2+AA (A8 w 5) 124/\(A8 w 5).length<=100:=by
 have h:=P9 re5a AlI AXU hd;simp only[FR,AV,Ac,Ao]at h;obtain⟨h0,H,a,b,c,f⟩:=h;have e:A8 w 5=Mp w:=by rw[A8,Jd,Lz,S7 hd,E9,Mp];congr 1;refine List.map_congr_left λr g=>?_;rw[XN (h0 r g) (Nat.le_refl _),List.take_length]
 rw[e,S7 hd];exact⟨H,⟨a,b⟩,c,f⟩
end Go.Cat
