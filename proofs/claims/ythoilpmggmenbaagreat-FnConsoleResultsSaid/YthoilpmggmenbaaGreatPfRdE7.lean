/-
 Permutations, read back from the text of a path.
-/
import Derived.Test.YthoilpmggmenbaaGreatPfRdE5
set_option linter.unusedSimpArgs false
set_option linter.unusedVariables false
namespace Go.Cat
set_option maxRecDepth 100000
def En(w:List Nat):Bool:=Qk (CT w)&&(decide (Rj (CT w)=w)&&(CT w).all (λx=>decide (0<=x)&&decide (x<=8)))
theorem re7a:BH 7 (λn=>(AG n).all En)=true:=by kernel_rfl
theorem ASK:(((AG 7).drop (143*0)).take 143).all En=true:=by kernel_rfl
theorem AOO:(((AG 7).drop (143*1)).take 143).all En=true:=by kernel_rfl
theorem AaM:(((AG 7).drop (143*2)).take 143).all En=true:=by kernel_rfl
theorem AR8:(AG 7).all En=true:=H5 (by omega) Nd λj H=>match j,H with
 |0,_=>ASK
 |1,_=>AOO
 |2,_=>AaM
 |j+3,h=>absurd h (by omega)
theorem AOC:(((AG 8).drop (143*0)).take 143).all En=true:=by kernel_rfl
theorem AWF:(((AG 8).drop (143*1)).take 143).all En=true:=by kernel_rfl
theorem AST:(((AG 8).drop (143*2)).take 143).all En=true:=by kernel_rfl
theorem AZP:(((AG 8).drop (143*3)).take 143).all En=true:=by kernel_rfl
theorem Ac1:(((AG 8).drop (143*4)).take 143).all En=true:=by kernel_rfl
theorem AUH:(((AG 8).drop (143*5)).take 143).all En=true:=by kernel_rfl
theorem APL:(((AG 8).drop (143*6)).take 143).all En=true:=by kernel_rfl
theorem AcA:(((AG 8).drop (143*7)).take 143).all En=true:=by kernel_rfl
theorem AOR:(((AG 8).drop (143*8)).take 143).all En=true:=by kernel_rfl
theorem AYH:(((AG 8).drop (143*9)).take 143).all En=true:=by kernel_rfl
theorem AYI:(AG 8).all En=true:=H5 (by omega) Mx λj H=>match j,H with
 |0,_=>AOC
 |1,_=>AWF
 |2,_=>AST
 |3,_=>AZP
 |4,_=>Ac1
 |5,_=>AUH
 |6,_=>APL
 |7,_=>AcA
 |8,_=>AOR
 |9,_=>AYH
 |j+10,h=>absurd h (by omega)
theorem XQ{w:List Nat}(hd:AK w=true):(A9 w 7).map (λ(c:Nat)=>(c:Int)-49)=CT w/\(Qk (CT w)=true/\Rj (CT w)=w)/\(A9 w 7).length=w.length/2:=by
 have h:=NP re7a AR8 AYI hd;simp only[En,AU,Ad,Aj]at h;obtain⟨h0,a,H⟩:=h;have e:A9 w 7=Jk (CT w):=by rw[A9,SB H (Nat.le_refl _),List.take_length]
 refine⟨?_,⟨h0,a⟩,by rw[e,Jk,List.length_map,RP]⟩;rw[e,Jk,List.map_map];conv=>rhs;rw[<-List.map_id (CT w)]
 refine List.map_congr_left λx b=>?_;have:=H x b;show((49+x.toNat:Nat):Int)-49=x;omega
end Go.Cat
