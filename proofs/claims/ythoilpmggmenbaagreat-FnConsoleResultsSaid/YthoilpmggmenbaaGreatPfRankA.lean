/-
 Ballot numbers: by running, the program's.
-/
import Derived.Test.YthoilpmggmenbaaGreatPfH
set_option linter.unusedSimpArgs false
set_option linter.unusedVariables false
namespace Go.Cat
variable{K:Nat->List D->List D->Prop}
set_option maxRecDepth 100000
def Xi(f:Nat->Nat)(u:Nat):Nat->Nat
 |0=>0
 |d+1=>if d<u then 0 else f (d+1)+Xi f u d
def bw:Nat->Nat->Nat
 |0=>λ_=>1
 |u+1=>Xi (bw u) u
abbrev AKG:List (Nat×IF):=[(27,I27.v),(23,Jz.v)]
noncomputable def blT(u d:Nat):Bool:=Fv (EC (Dx AKG) 60 8 27 [.n u,.n d]) (bw u d)
theorem bl8:BH 9 (λd=>BH (d+1) λu=>blT u d)=true:=by kernel_rfl
theorem AKB[HA K]{u d:Nat}(h:u<=d)(hd:d<9):K 27 [.n u,.n d] [.n (bw u d)]:=
 run AKG 60 8 27 (Gt (BQ (BQ bl8 d hd) u (by omega)))
end Go.Cat
