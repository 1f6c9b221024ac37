/-
 Words and their reflections.
-/
import Derived.Test.YtihgdjeahjfhfaaGreatPfPath
import Derived.Test.YtihgdjeahjfhfaaGreatIrHas
set_option linter.unusedSimpArgs false
set_option linter.unusedVariables false
namespace Go.Cat
variable {K:Nat→List D→List D→Prop}
def swp (c:Nat):Nat:=if c=117 then 100 else 117
def refl:List Nat→Int→List Nat
 | [],_=>[]
 | c::w,h=>if (if c=117 then h+1 else h-1)=-1 then c::w.map swp else c::refl w (if c=117 then h+1 else h-1)
def only (a b:Nat) (w:List Nat):Bool:=w.all fun x=>decide (x=a∨x=b)
end Go.Cat
namespace Go.Cat
variable {K:Nat→List D→List D→Prop}
def Hh (w:List Nat) (i:Nat):Int:=(cnt (w.take i) 117:Int)-cnt (w.take i) 100
end Go.Cat
namespace Go.Cat
variable {K:Nat→List D→List D→Prop}
end Go.Cat
