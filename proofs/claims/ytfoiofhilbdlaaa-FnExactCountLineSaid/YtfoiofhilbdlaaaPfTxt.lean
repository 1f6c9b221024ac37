/-
 Texts of numbers, diagonals.
-/
import Derived.Test.YtfoiofhilbdlaaaPfFmt
import Derived.Test.YtfoiofhilbdlaaaPfClaim
import Derived.Test.YtfoiofhilbdlaaaIrHas
set_option linter.unusedSimpArgs false
set_option linter.unusedVariables false
namespace Go.Cat
variable {K:Nat→List D→List D→Prop}
def glT (sep:List Nat) (ws:List (List Nat)):Nat→List Nat
 | 0=>[]
 | i+1=>glT sep ws i++(if 0<i then sep else [])++atS ws i
def glue (sep:List Nat) (ws:List (List Nat)):List Nat:=glT sep ws ws.length
theorem atS_len {ws:List (List Nat)} {b i:Nat} (h:∀ x∈ws,x.length≤b):(atS ws i).length≤b:=by
 rcases qlg i ws.length with q | q
 ·exact h _ (by simp [atS,q])
 ·have:atS ws i=[]:=by simp [atS,q]
  rw [this]; simp
theorem glT_len {sep:List Nat} {ws:List (List Nat)} {b:Nat} (h:∀ x∈ws,x.length≤b):∀ i,(glT sep ws i).length≤i*(b+sep.length)
 | 0=>by simp [glT]
 | i+1=>by
  have h1:=glT_len (sep:=sep) h i
  have h2:=atS_len (i:=i) h
  simp only [glT,qla,Nat.succ_mul]
  have:(if 0<i then sep else []).length≤sep.length:=by split <;> simp
  omega
theorem glued_ok [HA K] {ws:List (List Nat)} {sep:List Nat} (hl:ws.length≤100000) (hb:∀ x∈ws,x.length≤100000) (hs:sep.length≤100):K 184 [LS ws,.s sep] [.s (glue sep ws)]:=by
 refine body_by (f:=ir_impl_glued) rfl ?_; simp only [ir_impl_glued,zn,zs,zq,zi,zg,zp]
 simp (disch:=first|omega|simp only[vl];omega) only [vcd]
 refine loop_ix (fun _=>True) (fun i=>[.u,.s sep,.u,.s (glT sep ws i),.u,.u,LS ws,.n ws.length,.n i,.u,.u]) ws.length trivial rfl (fun i hi _=>?_) (fun _=>?_)
 ·have h1:=glT_len (sep:=sep) hb i
  have h2:=atS_len (i:=i) hb
  have h3:i*(100000+sep.length)≤100000*(100000+100):=Nat.mul_le_mul (by omega) (by omega)
  by_cases h0:0<i
  ·simp (disch:=first|omega|simp only[vl];omega) only [vcd]
   simp only [glT,if_pos h0]
  ·simp (disch:=first|omega|simp only[vl];omega) only [vcd]
   simp only [glT,if_neg h0,List.append_nil]
 ·simp (disch:=first|omega|simp only[vl];omega) only [vcd]
  rfl
end Go.Cat
