/-
 PathLine answers as the reference does.
-/
import Derived.Test.YtfoiofhilbdlaaaPfStatB
import Derived.Test.YtfoiofhilbdlaaaPfPlane
import Derived.Test.YtfoiofhilbdlaaaPfPart
import Derived.Test.YtfoiofhilbdlaaaPfTxt
import Derived.Test.YtfoiofhilbdlaaaPfRank
import Derived.Test.YtfoiofhilbdlaaaIrHas
set_option linter.unusedSimpArgs false
set_option linter.unusedVariables false
namespace Go.Cat
variable {K:Nat→List D→List D→Prop}
theorem line_ok [HA K] {ws:List (List Nat)} (hl:ws.length≤100000) (hb:∀ x∈ws,x.length≤100000):K 141 [LS ws] [.s (glue [32] ws)]:=by
 refine body_by (f:=ir_impl_line) rfl ?_; simp only [ir_impl_line,zn,zs,zq,zi,zg,zp]
 simp (disch:=first|omega|simp only[vl];omega) only [vcd]
 refine call_by (glued_ok (K:=K) (ws:=ws) (sep:=[32]) hl hb (by simp)) rfl ?_
 simp (disch:=first|omega|simp only[vl];omega) only [vcd]
end Go.Cat
