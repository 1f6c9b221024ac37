/-
 Stack sorting, once.
-/
import Derived.Test.YtihgdjeahjfhfaaGreatPfPerm
import Derived.Test.YtihgdjeahjfhfaaGreatPfH
import Derived.Test.YtihgdjeahjfhfaaGreatIrHas
import Derived.Test.YtihgdjeahjfhfaaGreatPfStat
import Derived.Test.YtihgdjeahjfhfaaGreatPfIn
import Derived.Test.YtihgdjeahjfhfaaGreatPfPath
set_option linter.unusedSimpArgs false
set_option linter.unusedVariables false
namespace Go.Cat
variable {K:Nat→List D→List D→Prop}
theorem at_last {t:List Int} {y:Int}:atI (t++[y]) t.length=y:=by simp [atI]
theorem sub_init {t:List Int} {y:Int}:sub (t++[y]) 0 t.length=t:=by simp [sub]
end Go.Cat
namespace Go.Cat
variable {K:Nat→List D→List D→Prop}
def ancB (p:List Int):Nat→Int→Int→Bool
 | 0,_,_=>false
 | f+1,v,t=>if v<0 then false else if v=t then true else ancB p f (atI p v) t
def plV (p:List Int) (i:Nat):Prop:=∀ j:Nat,j<i→(j=0∧atI p 0=-1)∨(0<j∧ancB p (j+1) ((j:Int)-1) (atI p j)=true)
instance {p:List Int} {i:Nat}:Decidable (plV p i):=by unfold plV; infer_instance
end Go.Cat
namespace Go.Cat
variable {K:Nat→List D→List D→Prop}
set_option maxRecDepth 100000
end Go.Cat
namespace Go.Cat
variable {K:Nat→List D→List D→Prop}
set_option maxRecDepth 100000
end Go.Cat
