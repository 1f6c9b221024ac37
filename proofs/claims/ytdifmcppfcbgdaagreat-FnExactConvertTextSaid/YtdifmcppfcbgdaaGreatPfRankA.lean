/-
 Ballot numbers: by running, the program's.
-/
import Derived.Test.YtdifmcppfcbgdaaGreatPfNum
import Derived.Test.YtdifmcppfcbgdaaGreatIrHas
set_option linter.unusedSimpArgs false
set_option linter.unusedVariables false
namespace Go.Cat
variable {K:Nat→List D→List D→Prop}
set_option maxRecDepth 100000
def wrow (f:Nat→Nat) (u:Nat):Nat→Nat
 | 0=>0
 | d+1=>if d<u then 0 else f (d+1)+wrow f u d
def bw:Nat→Nat→Nat
 | 0=>fun _=>1
 | u+1=>wrow (bw u) u
abbrev tbln:List (Nat×IF):=[(27,ir_impl_BallotNumber),(23,ir_impl_within)]
noncomputable def blT (u d:Nat):Bool:=isN (evF (tableOf tbln) 60 8 27 [.n u,.n d]) (bw u d)
theorem bl8:allB 9 (fun d=>allB (d+1) fun u=>blT u d)=true:=by kernel_rfl
theorem bl_i [HA K] {u d:Nat} (h:u≤d) (hd:d<9):K 27 [.n u,.n d] [.n (bw u d)]:=
 run tbln 60 8 27 (isN_spec (allB_spec (allB_spec bl8 d hd) u (by omega)))
end Go.Cat
namespace Go.Cat
variable {K:Nat→List D→List D→Prop}
set_option maxRecDepth 100000
abbrev tblw:List (Nat×IF):=[(84,ir_spec_l3Ways)]
noncomputable def blU (u d:Nat):Bool:=isN (evF (tableOf tblw) 60 8 84 [.n u,.n d]) (bw u d)
theorem bs8:allB 9 (fun d=>allB (d+1) fun u=>blU u d)=true:=by kernel_rfl
theorem bl_w [HA K] {u d:Nat} (h:u≤d) (hd:d<9):K 84 [.n u,.n d] [.n (bw u d)]:=
 run tblw 60 8 84 (isN_spec (allB_spec (allB_spec bs8 d hd) u (by omega)))
end Go.Cat
namespace Go.Cat
variable {K:Nat→List D→List D→Prop}
set_option maxRecDepth 100000
def catL:List Int:=[1,1,2,5,14,42,132,429,1430,4862,16796,58786,208012,742900,2674440,9694845]
abbrev tcs:List (Nat×IF):=[(79,ir_spec_CatalanNumber),(84,ir_spec_l3Ways),(22,ir_spec_l1In)]
abbrev tci2:List (Nat×IF):=[(28,ir_impl_CatalanNumber),(27,ir_impl_BallotNumber),(23,ir_impl_within)]
theorem cat_s0:allB 16 (fun n=>isN (evF (tableOf tcs) 60 8 79 [.n n]) (catL.getD n 0))=true:=by kernel_rfl
theorem cat_i0:allB 16 (fun n=>isN (evF (tableOf tci2) 60 8 28 [.n n]) (catL.getD n 0))=true:=by kernel_rfl
theorem cat_s [HA K] {n:Nat} (h:n<16):K 79 [.n n] [.n (catL.getD n 0)]:=run tcs 60 8 79 (isN_spec (allB_spec cat_s0 n h))
theorem cat_i [HA K] {n:Nat} (h:n<16):K 28 [.n n] [.n (catL.getD n 0)]:=run tci2 60 8 28 (isN_spec (allB_spec cat_i0 n h))
end Go.Cat
