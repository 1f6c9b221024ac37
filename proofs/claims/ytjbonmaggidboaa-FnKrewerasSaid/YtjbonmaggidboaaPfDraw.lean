/-
 The source of drawn arguments: a cursor over the given bytes.
-/
import Derived.Test.YtjbonmaggidboaaCatFour
import Derived.Test.YtjbonmaggidboaaIrHas
set_option linter.unusedSimpArgs false
set_option linter.unusedVariables false
namespace Go.Cat
variable {K:Nat→List D→List D→Prop}
def andI (k:IntKind) (a b:Int):Int:=k.wrap (BitVec.ofInt k.bits a &&& BitVec.ofInt k.bits b).toNat
def xorI (k:IntKind) (a b:Int):Int:=k.wrap (BitVec.ofInt k.bits a ^^^ BitVec.ofInt k.bits b).toNat
def shrI (a:Int) (b:Nat):Int:=a.fdiv (2 ^ b)
theorem bin_and {k:IntKind} {a b:Int}:binD .and (.i k a) (.i k b)=some (.i k (andI k a b)):=by simp [binD,intD,andI]
theorem bin_xor {k:IntKind} {a b:Int}:binD .xor (.i k a) (.i k b)=some (.i k (xorI k a b)):=by simp [binD,intD,xorI]
theorem bin_shr {k k':IntKind} {a b:Int} (h:0≤b):binD .shr (.i k a) (.i k' b)=some (.i k (shrI a (min b.toNat k.bits))):=by
 simp only [binD,shrI]; rw [if_neg (by omega)]
theorem and255 (a:Int):0≤andI .i64 a 255∧andI .i64 a 255≤255:=by
 unfold andI
 have h:(BitVec.ofInt IntKind.i64.bits a &&& BitVec.ofInt IntKind.i64.bits 255).toNat≤255:=by
  rw [BitVec.toNat_and]
  exact Nat.le_trans Nat.and_le_right (by decide)
 rw [wrap_i64 (by omega)]
 omega
def consS (a:D):D→Option D
 | .l ys=>some (.l (a::ys))
 | _=>none
theorem liI_c {a:Int} {b:D} {r:List D}:liD (.n a::b::r)=(liD (b::r)).bind (consS (.n a)):=by
 by_cases h:(b::r).all D.one=true
 ·have h2:(D.n a::b::r).all D.one=true:=by rw [List.all_cons,h]; rfl
  simp [liD,h,h2,consS]
 ·have h2:¬ (D.n a::b::r).all D.one=true:=fun q=>h (by rw [List.all_cons,qba] at q; exact q.2)
  simp only [liD]; rw [if_neg h,if_neg h2]; rfl
theorem consS_LI {a:Int} {l:List Int}:consS (.n a) (LI l)=some (LI (a::l)):=rfl
def cur (code:List Nat) (i h:Int):D:=.g [LB code,.n i,.n h]
def Cur (d:D):Prop:=∃ code i h,d=cur code i h∧(0≤i∧i≤code.length)∧code.length≤1048576
theorem LB_known {x:List Nat}:known (LB x)=some (LB x):=rfl
theorem LB_one {x:List Nat}:(LB x).one=true:=rfl
theorem l1New_ok [HA K] {code:List Nat} (h:code.length≤1048576):∃ rs,(∃ d,rs=[d]∧Cur d)∧K 288 [LB code] rs:=by
 refine body_ex (f:=ir_spec_l1New) rfl ?_; simp only [ir_spec_l1New,zn,zs,zq,zi,zg,zp]
 simp (disch:=omega) only [vcd]
 refine loop_up (fun i (s:Int)=>True) (fun i s=>[LB code,.u,.n s,.n i,.u]) (min code.length 4000) (10101+code.length) trivial rfl (fun i s hi hP=>?_) (fun s hP=>?_)
 ·simp (disch:=omega) only [vcd,bin_and]
  exact ⟨_,rfl⟩
 ·by_cases hc:code.length≤4000
  ·simp (disch:=omega) only [vcd,LB_one]
   exact ⟨_,rfl,code,0,s,rfl,by omega,h⟩
  ·simp (disch:=omega) only [vcd,LB_one]
   exact ⟨_,rfl,code,0,s,rfl,by omega,h⟩
theorem l1Byte_ok [HA K] {d:D} (hd:Cur d):∃ rs,(∃ x d',rs=[.n x,d']∧(0≤x∧x≤255)∧Cur d')∧K 316 [d] rs:=by
 obtain ⟨code,i,h,rfl,hi,hl⟩:=hd
 refine body_ex (f:=ir_spec_l1Byte) rfl ?_; simp only [ir_spec_l1Byte,zn,zs,zq,zi,zg,zp]
 simp only [cur]
 by_cases hc:i<code.length
 ·simp (disch:=omega) only [vcd,bin_and,bin_xor,bin_shr,LB_known,LB_one]
  exact ⟨_,_,rfl,and255 _,code,_,_,rfl,by omega,hl⟩
 ·simp (disch:=omega) only [vcd,bin_and,bin_xor,bin_shr,LB_known,LB_one]
  exact ⟨_,_,rfl,and255 _,code,_,_,rfl,by omega,hl⟩
theorem l1Below_ok [HA K] {d:D} (hd:Cur d) {n:Int}:∃ rs,(∃ x d',rs=[.n x,d']∧((n≤0→x=0)∧(0<n→0≤x∧x<n))∧Cur d')∧K 289 [d,.n n] rs:=by
 refine body_ex (f:=ir_spec_l1Below) rfl ?_; simp only [ir_spec_l1Below,zn,zs,zq,zi,zg,zp]
 by_cases h0:n≤0
 ·simp (disch:=omega) only [vcd]
  exact ⟨_,_,rfl,⟨fun _=>rfl,by omega⟩,hd⟩
 ·by_cases h1:n≤256
  ·obtain ⟨_,⟨x,d1,rfl,hx,hd1⟩,k1⟩:=l1Byte_ok (K:=K) hd
   simp (disch:=omega) only [vcd]
   refine call_by (k1) rfl ?_
   simp (disch:=omega) only [vcd]
   exact ⟨_,_,rfl,⟨by omega,fun _=>⟨Int.emod_nonneg _ (by omega),Int.emod_lt_of_pos _ (by omega)⟩⟩,hd1⟩
  ·obtain ⟨_,⟨x1,d1,rfl,hx1,hd1⟩,k1⟩:=l1Byte_ok (K:=K) hd
   obtain ⟨_,⟨x2,d2,rfl,hx2,hd2⟩,k2⟩:=l1Byte_ok (K:=K) hd1
   obtain ⟨_,⟨x3,d3,rfl,hx3,hd3⟩,k3⟩:=l1Byte_ok (K:=K) hd2
   obtain ⟨_,⟨x4,d4,rfl,hx4,hd4⟩,k4⟩:=l1Byte_ok (K:=K) hd3
   simp (disch:=omega) only [vcd]
   refine call_by (k1) rfl ?_
   simp (disch:=omega) only [vcd]
   refine call_by (k2) rfl ?_
   simp (disch:=omega) only [vcd]
   refine call_by (k3) rfl ?_
   simp (disch:=omega) only [vcd]
   refine call_by (k4) rfl ?_
   simp (disch:=omega) only [vcd]
   exact ⟨_,_,rfl,⟨by omega,fun _=>⟨Int.emod_nonneg _ (by omega),Int.emod_lt_of_pos _ (by omega)⟩⟩,hd4⟩
theorem l1Once_ok [HA K] {d:D} (hd:Cur d) {n:Int}:∃ rs,(∃ x d',rs=[.b x,d']∧Cur d')∧K 307 [d,.n n] rs:=by
 refine body_ex (f:=ir_spec_l1Once) rfl ?_; simp only [ir_spec_l1Once,zn,zs,zq,zi,zg,zp]
 obtain ⟨_,⟨x1,d1,rfl,hx1,hd1⟩,k1⟩:=l1Below_ok (K:=K) hd (n:=n)
 simp (disch:=omega) only [vcd]
 refine call_by (k1) rfl ?_
 simp (disch:=omega) only [vcd]
 exact ⟨_,_,rfl,hd1⟩
end Go.Cat
