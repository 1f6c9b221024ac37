/-
 Ballot numbers: by running, the reference's.
-/
import Derived.Test.YthoilpmggmenbaaGreatPfRankA
set_option linter.unusedSimpArgs false
set_option linter.unusedVariables false
namespace Go.Cat
variable{K:Nat->List D->List D->Prop}
set_option maxRecDepth 100000
abbrev Zj:List (Nat×IF):=[(84,I84.v)]
noncomputable def blU(u d:Nat):Bool:=Fv (EC (Dx Zj) 60 8 84 [.n u,.n d]) (bw u d)
theorem bs8:BH 9 (λd=>BH (d+1) λu=>blU u d)=true:=by kernel_rfl
theorem AI8[HA K]{u d:Nat}(h:u<=d)(hd:d<9):K 84 [.n u,.n d] [.n (bw u d)]:=
 run Zj 60 8 84 (Gt (BQ (BQ bs8 d hd) u (by omega)))
end Go.Cat
