/-
 Permutations, read back from the text of a path.
-/
import Derived.Test.YthoilpmggmenbaaGreatPfRdE5
set_option linter.unusedSimpArgs false
set_option linter.unusedVariables false
namespace Go.Cat
set_option maxRecDepth 100000
def FW(w:List Nat):Bool:=DH (C6 w)&&(decide (DT (C6 w)=w)&&(C6 w).all (λx=>decide (0<=x)&&decide (x<=8)))
theorem re7a:BR 7 (λn=>(AI n).all FW)=true:=by kernel_rfl
theorem AWW:(((AI 7).drop (143*0)).take 143).all FW=true:=by kernel_rfl
theorem Al8:(((AI 7).drop (143*1)).take 143).all FW=true:=by kernel_rfl
theorem AdE:(((AI 7).drop (143*2)).take 143).all FW=true:=by kernel_rfl
theorem AjJ:(AI 7).all FW=true:=JC (by omega) QV λj H=>match j,H with
 |0,_=>AWW
 |1,_=>Al8
 |2,_=>AdE
 |j+3,h=>absurd h (by omega)
theorem AlG:(((AI 8).drop (143*0)).take 143).all FW=true:=by kernel_rfl
theorem AkR:(((AI 8).drop (143*1)).take 143).all FW=true:=by kernel_rfl
theorem AWG:(((AI 8).drop (143*2)).take 143).all FW=true:=by kernel_rfl
theorem AjN:(((AI 8).drop (143*3)).take 143).all FW=true:=by kernel_rfl
theorem AY3:(((AI 8).drop (143*4)).take 143).all FW=true:=by kernel_rfl
theorem AVT:(((AI 8).drop (143*5)).take 143).all FW=true:=by kernel_rfl
theorem Ac3:(((AI 8).drop (143*6)).take 143).all FW=true:=by kernel_rfl
theorem AlZ:(((AI 8).drop (143*7)).take 143).all FW=true:=by kernel_rfl
theorem Ab0:(((AI 8).drop (143*8)).take 143).all FW=true:=by kernel_rfl
theorem AZ1:(((AI 8).drop (143*9)).take 143).all FW=true:=by kernel_rfl
theorem AfI:(AI 8).all FW=true:=JC (by omega) Of λj H=>match j,H with
 |0,_=>AlG
 |1,_=>AkR
 |2,_=>AWG
 |3,_=>AjN
 |4,_=>AY3
 |5,_=>AVT
 |6,_=>Ac3
 |7,_=>AlZ
 |8,_=>Ab0
 |9,_=>AZ1
 |j+10,h=>absurd h (by omega)
theorem Zq{w:List Nat}(hd:AK w=true):(A8 w 7).map (λ(c:Nat)=>(c:Int)-49)=C6 w/\(DH (C6 w)=true/\DT (C6 w)=w)/\(A8 w 7).length=w.length/2:=by
 have h:=P9 re7a AjJ AfI hd;simp only[FW,AV,Ac,Ao]at h;obtain⟨h0,a,H⟩:=h;have e:A8 w 7=Kv (C6 w):=by rw[A8,XN H (Nat.le_refl _),List.take_length]
 refine⟨?_,⟨h0,a⟩,by rw[e,Kv,List.length_map,Sx]⟩;rw[e,Kv,List.map_map];conv=>rhs;rw[<-List.map_id (C6 w)]
 refine List.map_congr_left λx b=>?_;have:=H x b;show((49+x.toNat:Nat):Int)-49=x;omega
end Go.Cat
