/-
 Runs at the ends, depth of brackets.
-/
import Derived.Test.YtjbonmaggidboaaPfStat
import Derived.Test.YtjbonmaggidboaaIrHas
import Derived.Test.YtjbonmaggidboaaPfPerm
set_option linter.unusedSimpArgs false
set_option linter.unusedVariables false
namespace Go.Cat
variable {K:Nat→List D→List D→Prop}
end Go.Cat
namespace Go.Cat
variable {K:Nat→List D→List D→Prop}
def ancB (p:List Int):Nat→Int→Int→Bool
 | 0,_,_=>false
 | f+1,v,t=>if v<0 then false else if v=t then true else ancB p f (atI p v) t
def plV (p:List Int) (i:Nat):Prop:=∀ j:Nat,j<i→(j=0∧atI p 0=-1)∨(0<j∧ancB p (j+1) ((j:Int)-1) (atI p j)=true)
instance {p:List Int} {i:Nat}:Decidable (plV p i):=by unfold plV; infer_instance
end Go.Cat
