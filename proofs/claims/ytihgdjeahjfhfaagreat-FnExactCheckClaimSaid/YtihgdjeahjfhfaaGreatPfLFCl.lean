/-
 FormatClaim answers as the reference does.
-/
import Derived.Test.YtihgdjeahjfhfaaGreatPfPart
import Derived.Test.YtihgdjeahjfhfaaGreatPfTree
import Derived.Test.YtihgdjeahjfhfaaGreatIrHas
set_option linter.unusedSimpArgs false
set_option linter.unusedVariables false
namespace Go.Cat
variable {K:Nat→List D→List D→Prop}
theorem szClaim_f [HA K] {k:Int} {f s:List Nat} {t:List (List Nat)} {n o:List Int} {r:List (List Int)} (h:CLok f s t n o r) (hf:¬ f.length≤1048576):K 115 [CL k f s t n o r,.n 1048576] [.n (-1)]:=by
 have h1:=h.lf
 have h2:=h.ls
 refine body_by (f:=ir_laws_szClaim) rfl ?_; simp only [ir_laws_szClaim,zn,zs,zq,zi,zg,zp]
 simp (disch:=first|omega|simp only[vl];omega) only [vcd,LS_known,LI_known,LL_known]
end Go.Cat
