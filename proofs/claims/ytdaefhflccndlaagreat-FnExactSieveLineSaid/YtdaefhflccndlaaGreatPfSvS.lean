/-
 The sieve: what the reference reckons.
-/
import Derived.Test.YtdaefhflccndlaaGreatPfTurn
import Derived.Test.YtdaefhflccndlaaGreatPfRdE
import Derived.Test.YtdaefhflccndlaaGreatPfRdM
import Derived.Test.YtdaefhflccndlaaGreatPfRdQ
import Derived.Test.YtdaefhflccndlaaGreatPfRdA
import Derived.Test.YtdaefhflccndlaaGreatPfWrite
import Derived.Test.YtdaefhflccndlaaGreatPfPLine
import Derived.Test.YtdaefhflccndlaaGreatPfAp
import Derived.Test.YtdaefhflccndlaaGreatIrHas
set_option linter.unusedSimpArgs false
set_option linter.unusedVariables false
namespace Go.Cat
variable {K:Nat→List D→List D→Prop}
def fmN (f:Nat):List Nat:=match f with
 | 0=>[109,97,116,99,104,105,110,103,115]
 | 1=>[112,97,114,116,105,116,105,111,110,115]
 | _=>[116,114,105,97,110,103,117,108,97,116,105,111,110,115]
def orF (f n:Nat):Nat:=match f with
 | 0=>2*n
 | 1=>n
 | _=>n+2
theorem f3 {f:Nat} (h:f<3):f=0∨f=1∨f=2:=by omega
theorem orF_le {f n:Nat} (hf:f<3) (hn:n≤5):orF f n≤10:=by
 rcases f3 hf with rfl | rfl | rfl <;> simp only [orF] <;> omega
theorem ord_s [HA K] {f n:Nat} (hf:f<3) (hn:1≤n∧n≤5):K 567 [.s (fmN f),.n n] [.n (orF f n)]:=by
 have hin:inR 1 5 n=true:=inR_iff.2 (by omega)
 refine body_by (f:=ir_spec_OrderOfTurn) rfl ?_; simp only [ir_spec_OrderOfTurn,zn,zs,zq,zi,zg,zp]
 simp (disch:=first|omega|simp only[vl];omega) only [vcd]
 refine call_by (l1In_ok (K:=K)) rfl ?_
 rcases f3 hf with rfl | rfl | rfl
 ·simp (disch:=first|omega|simp only[vl];omega) only [vcd,hin,show (fmN 0 == [109,97,116,99,104,105,110,103,115])=true from rfl]
  rfl
 ·simp (disch:=first|omega|simp only[vl];omega) only [vcd,hin,show (fmN 1 == [109,97,116,99,104,105,110,103,115])=false from rfl,show (fmN 1 == [112,97,114,116,105,116,105,111,110,115])=true from rfl]
  rfl
 ·simp (disch:=first|omega|simp only[vl];omega) only [vcd,hin,show (fmN 2 == [109,97,116,99,104,105,110,103,115])=false from rfl,show (fmN 2 == [112,97,114,116,105,116,105,111,110,115])=false from rfl,show (fmN 2 == [116,114,105,97,110,103,117,108,97,116,105,111,110,115])=true from rfl]
  rfl
theorem ord_s0 [HA K] {s:List Nat} {n:Int} (h:inR 1 5 n=false∨(s≠fmN 0∧s≠fmN 1∧s≠fmN 2)):K 567 [.s s,.n n] [.n (-1)]:=by
 refine body_by (f:=ir_spec_OrderOfTurn) rfl ?_; simp only [ir_spec_OrderOfTurn,zn,zs,zq,zi,zg,zp]
 simp (disch:=first|omega|simp only[vl];omega) only [vcd]
 refine call_by (l1In_ok (K:=K)) rfl ?_
 cases hin:inR 1 5 n
 ·simp (disch:=first|omega|simp only[vl];omega) only [vcd]
 ·rw [hin] at h
  have h:=h.resolve_left (by simp)
  have h0:(s == [109,97,116,99,104,105,110,103,115])=false:=beq_eq_false_iff_ne.2 h.1
  have h1:(s == [112,97,114,116,105,116,105,111,110,115])=false:=beq_eq_false_iff_ne.2 h.2.1
  have h2:(s == [116,114,105,97,110,103,117,108,97,116,105,111,110,115])=false:=beq_eq_false_iff_ne.2 h.2.2
  simp (disch:=first|omega|simp only[vl];omega) only [vcd,h0,h1,h2]
def t15 (f n k:Nat) (w:List Nat):List Nat:=match f with
 | 0=>pomR (tmT (mateC w) (k % (2*n)))
 | 1=>ptoR (iter (fun _ p=>tpT p) k (ptnC w))
 | _=>(btT ((n:Int)+2) (tyT ((n:Int)+2) ((k % (n+2):Nat):Int) (tgF (btC w)))).p
def rwB (r:List Int):Bool:=decide (r.length=2)&&(inR 0 10 (atI r 0)&&inR 0 10 (atI r 1))
theorem rwB_3 {d:List (List Int)} (h:d.all rwB=true):∀ r∈d,rw3 r:=by
 intro r hr
 have:=qat.1 h r hr
 simp only [rwB,qba,qde] at this
 have a:=inR_iff.1 this.2.1
 have b:=inR_iff.1 this.2.2
 exact ⟨this.1,by omega,by omega⟩
def svA (n:Nat) (w:List Nat):Bool:=decide ((btC w).p=w)&&(triF ((n:Int)+2) (tgF (btC w))&&((tgF (btC w)).all rwB))
def svK (n:Nat) (w:List Nat) (k:Nat):Bool:=triF ((n:Int)+2) (tyT ((n:Int)+2) (k:Int) (tgF (btC w)))&&(tyT ((n:Int)+2) (k:Int) (tgF (btC w))).all rwB
def svP (w:List Nat) (k:Nat):Bool:=isPt (iter (fun _ p=>tpT p) k (ptnC w))&&decide (0<(iter (fun _ p=>tpT p) k (ptnC w)).length)
noncomputable def svC (n:Nat):Bool:=(pathsR (n+1)).all fun w=>svA (n+1) w&&(allB (n+3) (svK (n+1) w)&&allB (n+2) (svP w))
theorem sv0:allB 4 svC=true:=by kernel_rfl
theorem sv4:svC 4=true:=by kernel_rfl
theorem svC_ok {n:Nat} (hn:1≤n∧n≤5) {w:List Nat} (hw:w∈pathsR n):svA n w=true∧(∀ k,k<n+2→svK n w k=true)∧∀ k,k<n+1→svP w k=true:=by
 have h:svC (n-1)=true:=by
  rcases qlg (n-1) 4 with q | q
  ·exact allB_spec sv0 _ q
  ·rw [show n-1=4 by omega]; exact sv4
 have:=qat.1 h w (by rw [show n-1+1=n by omega]; exact hw)
 simp only [qba] at this
 rw [show n-1+1=n by omega,show n-1+3=n+2 by omega,show n-1+2=n+1 by omega] at this
 exact ⟨this.1,fun k hk=>allB_spec this.2.1 k hk,fun k hk=>allB_spec this.2.2 k hk⟩
end Go.Cat
