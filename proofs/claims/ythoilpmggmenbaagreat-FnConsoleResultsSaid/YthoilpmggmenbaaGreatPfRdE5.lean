/-
 Partitions, read back from the text of a path.
-/
import Derived.Test.YthoilpmggmenbaaGreatPfRdE
set_option linter.unusedSimpArgs false
set_option linter.unusedVariables false
namespace Go.Cat
set_option maxRecDepth 100000
def Jk(r:List Int):List Nat:=r.map λx=>49+x.toNat
theorem SB{r:List Int}(h:∀x∈r,0<=x/\x<=8):∀{i:Nat},i<=r.length->DS r i=Jk (r.take i)
 |0,_=>by simp[DS,Jk]
 |i+1,hi=>by
  have H:AB r i=r[i]:=by simp[AB,show i<r.length by omega]
  have b:=h r[i] (List.getElem_mem _);have e:(r[i]+1).toNat=r[i].toNat+1:=by omega
  rw[DS,SB h (by omega),H,JH (by omega) (by omega),CO (by omega),e];have a:48+(r[i].toNat+1)=49+r[i].toNat:=by omega
  rw[a];simp only[Jk,List.map_append,List.map_cons,List.map_nil]
def Ks(w:List Nat):List Nat:=sep 124 ((Br (Dw w)).map Jk)
def Ep(w:List Nat):Bool:=(Br (Dw w)).all (λr=>r.all λx=>decide (0<=x)&&decide (x<=8))&&(decide (P3 (Ks w)=some (Dw w))&&(Fp (Dw w)&&(decide (IX (Dw w)=w)&&(decide ((Ks w).length=w.length/2+AA (Ks w) 124)&&decide ((Ks w).length<=100)))))
theorem re5a:BH 7 (λn=>(AG n).all Ep)=true:=by kernel_rfl
theorem AaF:(((AG 7).drop (143*0)).take 143).all Ep=true:=by kernel_rfl
theorem ASR:(((AG 7).drop (143*1)).take 143).all Ep=true:=by kernel_rfl
theorem ARI:(((AG 7).drop (143*2)).take 143).all Ep=true:=by kernel_rfl
theorem AaQ:(AG 7).all Ep=true:=H5 (by omega) Nd λj H=>match j,H with
 |0,_=>AaF
 |1,_=>ASR
 |2,_=>ARI
 |j+3,h=>absurd h (by omega)
theorem AQN:(((AG 8).drop (143*0)).take 143).all Ep=true:=by kernel_rfl
theorem AS9:(((AG 8).drop (143*1)).take 143).all Ep=true:=by kernel_rfl
theorem AZA:(((AG 8).drop (143*2)).take 143).all Ep=true:=by kernel_rfl
theorem APV:(((AG 8).drop (143*3)).take 143).all Ep=true:=by kernel_rfl
theorem AX7:(((AG 8).drop (143*4)).take 143).all Ep=true:=by kernel_rfl
theorem AZY:(((AG 8).drop (143*5)).take 143).all Ep=true:=by kernel_rfl
theorem AaS:(((AG 8).drop (143*6)).take 143).all Ep=true:=by kernel_rfl
theorem AQF:(((AG 8).drop (143*7)).take 143).all Ep=true:=by kernel_rfl
theorem AZS:(((AG 8).drop (143*8)).take 143).all Ep=true:=by kernel_rfl
theorem ARZ:(((AG 8).drop (143*9)).take 143).all Ep=true:=by kernel_rfl
theorem AR4:(AG 8).all Ep=true:=H5 (by omega) Mx λj H=>match j,H with
 |0,_=>AQN
 |1,_=>AS9
 |2,_=>AZA
 |3,_=>APV
 |4,_=>AX7
 |5,_=>AZY
 |6,_=>AaS
 |7,_=>AQF
 |8,_=>AZS
 |9,_=>ARZ
 |j+10,h=>absurd h (by omega)
theorem ANU{w:List Nat}(hd:AK w=true):P3 (A9 w 5)=some (De w)/\(Fp (De w)=true/\IX (De w)=w)/\(A9 w 5).length=w.length/2+AA (A9 w 5) 124/\(A9 w 5).length<=100:=by
 have h:=NP re5a AaQ AR4 hd;simp only[Ep,AU,Ad,Aj]at h;obtain⟨h0,H,a,b,c,f⟩:=h;have e:A9 w 5=Ks w:=by rw[A9,IH,K8,PJ hd,Dt,Ks];congr 1;refine List.map_congr_left λr g=>?_;rw[SB (h0 r g) (Nat.le_refl _),List.take_length]
 rw[e,PJ hd];exact⟨H,⟨a,b⟩,c,f⟩
end Go.Cat
