/-
 Ballot numbers: by running, the program's.
-/
import Derived.Test.YtnjjceodpbhlmaaGreatPfStat
import Derived.Test.YtnjjceodpbhlmaaGreatIrHas
import Derived.Test.YtnjjceodpbhlmaaGreatPfPath
import Derived.Test.YtnjjceodpbhlmaaGreatCatFour
set_option linter.unusedSimpArgs false
set_option linter.unusedVariables false
namespace Go.Cat
variable {K:Nat→List D→List D→Prop}
set_option maxRecDepth 100000
end Go.Cat
namespace Go.Cat
variable {K:Nat→List D→List D→Prop}
set_option maxRecDepth 100000
end Go.Cat
namespace Go.Cat
variable {K:Nat→List D→List D→Prop}
set_option maxRecDepth 100000
end Go.Cat
namespace Go.Cat
variable {K:Nat→List D→List D→Prop}
set_option maxRecDepth 100000
end Go.Cat
namespace Go.Cat
variable {K:Nat→List D→List D→Prop}
set_option maxRecDepth 100000
end Go.Cat
namespace Go.Cat
variable {K:Nat→List D→List D→Prop}
def M8 (k:IntKind) (a b:Int):Int:=k.wrap (BitVec.ofInt k.bits a &&& BitVec.ofInt k.bits b).toNat
def AB4 (k:IntKind) (a b:Int):Int:=k.wrap (BitVec.ofInt k.bits a ^^^ BitVec.ofInt k.bits b).toNat
def ADJ (a:Int) (b:Nat):Int:=a.fdiv (2 ^ b)
theorem St {k:IntKind} {a b:Int}:BV .and (.i k a) (.i k b)=some (.i k (M8 k a b)):=by simp [BV,D5,M8]
theorem Qk {k:IntKind} {a b:Int}:BV .xor (.i k a) (.i k b)=some (.i k (AB4 k a b)):=by simp [BV,D5,AB4]
theorem ZP {k k':IntKind} {a b:Int} (h:0≤b):BV .shr (.i k a) (.i k' b)=some (.i k (ADJ a (min b.toNat k.bits))):=by
 simp only [BV,ADJ]; rw [if_neg (by omega)]
theorem VM (a:Int):0≤M8 .i64 a 255∧M8 .i64 a 255≤255:=by
 unfold M8
 have h:(BitVec.ofInt IntKind.i64.bits a &&& BitVec.ofInt IntKind.i64.bits 255).toNat≤255:=by
  rw [BitVec.toNat_and]
  exact Nat.le_trans Nat.and_le_right (by decide)
 rw [wrap_i64 (by omega)]
 omega
def JT (a:D):D→Option D
 | .l ys=>some (.l (a::ys))
 | _=>none
theorem AHR {a:List Nat} {b:D} {r:List D}:DV (.s a::b::r)=(DV (b::r)).bind (JT (.s a)):=by
 by_cases h:(b::r).all D.one=true
 ·have h2:(D.s a::b::r).all D.one=true:=by rw [List.all_cons,h]; rfl
  simp [DV,h,h2,JT]
 ·have h2:¬ (D.s a::b::r).all D.one=true:=fun q=>h (by rw [List.all_cons,Ac] at q; exact q.2)
  simp only [DV]; rw [if_neg h,if_neg h2]; rfl
theorem AJD {a:List Nat} {l:List (List Nat)}:JT (.s a) (LS l)=some (LS (a::l)):=rfl
theorem Gz {a:Int} {b:D} {r:List D}:DV (.n a::b::r)=(DV (b::r)).bind (JT (.n a)):=by
 by_cases h:(b::r).all D.one=true
 ·have h2:(D.n a::b::r).all D.one=true:=by rw [List.all_cons,h]; rfl
  simp [DV,h,h2,JT]
 ·have h2:¬ (D.n a::b::r).all D.one=true:=fun q=>h (by rw [List.all_cons,Ac] at q; exact q.2)
  simp only [DV]; rw [if_neg h,if_neg h2]; rfl
theorem Gv {a:Int} {l:List Int}:JT (.n a) (LI l)=some (LI (a::l)):=rfl
def cur (code:List Nat) (i h:Int):D:=.g [LB code,.n i,.n h]
def BJ (d:D):Prop:=∃ code i h,d=cur code i h∧(0≤i∧i≤code.length)∧code.length≤1048576
theorem W3 {x:List Nat}:known (LB x)=some (LB x):=rfl
theorem QR {x:List Nat}:(LB x).one=true:=rfl
theorem I1 [HA K] {code:List Nat} (h:code.length≤1048576):∃ rs,(∃ d,rs=[d]∧BJ d)∧K 288 [LB code] rs:=by
 refine Bg (f:=Kp) rfl ?_; simp only [Kp,zu]
 simp (disch:=omega) only [AA]
 refine CK (fun i (s:Int)=>True) (fun i s=>[LB code,.u,.n s,.n i,.u]) (min code.length 4000) (10101+code.length) trivial rfl (fun i s hi hP=>?_) (fun s hP=>?_)
 ·simp (disch:=omega) only [AA,St]
  exact ⟨_,rfl⟩
 ·by_cases hc:code.length≤4000
  ·simp (disch:=omega) only [AA,QR]
   exact ⟨_,rfl,code,0,s,rfl,by omega,h⟩
  ·simp (disch:=omega) only [AA,QR]
   exact ⟨_,rfl,code,0,s,rfl,by omega,h⟩
theorem JA [HA K] {d:D} (hd:BJ d):∃ rs,(∃ x d',rs=[.n x,d']∧(0≤x∧x≤255)∧BJ d')∧K 316 [d] rs:=by
 obtain ⟨code,i,h,rfl,hi,hl⟩:=hd
 refine Bg (f:=LA) rfl ?_; simp only [LA,zu]
 simp only [cur]
 by_cases hc:i<code.length
 ·simp (disch:=omega) only [AA,St,Qk,ZP,W3,QR]
  exact ⟨_,_,rfl,VM _,code,_,_,rfl,by omega,hl⟩
 ·simp (disch:=omega) only [AA,St,Qk,ZP,W3,QR]
  exact ⟨_,_,rfl,VM _,code,_,_,rfl,by omega,hl⟩
theorem CQ [HA K] {d:D} (hd:BJ d) {n:Int}:∃ rs,(∃ x d',rs=[.n x,d']∧((n≤0→x=0)∧(0<n→0≤x∧x<n))∧BJ d')∧K 289 [d,.n n] rs:=by
 refine Bg (f:=LY) rfl ?_; simp only [LY,zu]
 by_cases h0:n≤0
 ·simp (disch:=omega) only [AA]
  exact ⟨_,_,rfl,⟨fun _=>rfl,by omega⟩,hd⟩
 ·by_cases h1:n≤256
  ·obtain ⟨_,⟨x,d1,rfl,hx,hd1⟩,k1⟩:=JA (K:=K) hd
   simp (disch:=omega) only [AA]
   refine AE (k1) rfl ?_
   simp (disch:=omega) only [AA]
   exact ⟨_,_,rfl,⟨by omega,fun _=>⟨Int.emod_nonneg _ (by omega),Int.emod_lt_of_pos _ (by omega)⟩⟩,hd1⟩
  ·obtain ⟨_,⟨x1,d1,rfl,hx1,hd1⟩,k1⟩:=JA (K:=K) hd
   obtain ⟨_,⟨x2,d2,rfl,hx2,hd2⟩,k2⟩:=JA (K:=K) hd1
   obtain ⟨_,⟨x3,d3,rfl,hx3,hd3⟩,k3⟩:=JA (K:=K) hd2
   obtain ⟨_,⟨x4,d4,rfl,hx4,hd4⟩,k4⟩:=JA (K:=K) hd3
   simp (disch:=omega) only [AA]
   refine AE (k1) rfl ?_
   simp (disch:=omega) only [AA]
   refine AE (k2) rfl ?_
   simp (disch:=omega) only [AA]
   refine AE (k3) rfl ?_
   simp (disch:=omega) only [AA]
   refine AE (k4) rfl ?_
   simp (disch:=omega) only [AA]
   exact ⟨_,_,rfl,⟨by omega,fun _=>⟨Int.emod_nonneg _ (by omega),Int.emod_lt_of_pos _ (by omega)⟩⟩,hd4⟩
theorem Fw [HA K] {d:D} (hd:BJ d) {n:Int}:∃ rs,(∃ x d',rs=[.b x,d']∧BJ d')∧K 307 [d,.n n] rs:=by
 refine Bg (f:=Nh) rfl ?_; simp only [Nh,zu]
 obtain ⟨_,⟨x1,d1,rfl,hx1,hd1⟩,k1⟩:=CQ (K:=K) hd (n:=n)
 simp (disch:=omega) only [AA]
 refine AE (k1) rfl ?_
 simp (disch:=omega) only [AA]
 exact ⟨_,_,rfl,hd1⟩
theorem AOA [HA K] {d:D} (hd:BJ d) {l:List (List Nat)} (h0:0<l.length) (hl:l.length≤1000000):∃ rs,(∃ x d',rs=[.s x,d']∧x∈l∧BJ d')∧K 318 [d,LS l] rs:=by
 refine Bg (f:=LZ) rfl ?_; simp only [LZ,zu]
 obtain ⟨_,⟨x1,d1,rfl,hx1,hd1⟩,k1⟩:=CQ (K:=K) hd (n:=l.length)
 have:=hx1.2 (by omega)
 simp (disch:=omega) only [AA]
 refine AE (k1) rfl ?_
 simp (disch:=omega) only [AA]
 refine ⟨_,_,rfl,?_,hd1⟩
 simp only [AL,BP]
 rw [GC (by omega)]
 exact List.getElem_mem _
theorem AQ3 [HA K] {d:D} (hd:BJ d) {m:Int} (hm:0≤m∧m≤200):∃ rs,(∃ x d',rs=[.s x,d']∧(x.length:Int)≤m∧BJ d')∧K 327 [d,.n m] rs:=by
 refine Bg (f:=Lu) rfl ?_; simp only [Lu,zu]
 obtain ⟨_,⟨y,d1,rfl,hy,hd1⟩,k1⟩:=CQ (K:=K) hd (n:=4)
 obtain ⟨_,⟨n,d2,rfl,hn,hd2⟩,k2⟩:=CQ (K:=K) hd1 (n:=m+1)
 have hn:=hn.2 (by omega)
 simp (disch:=first|omega|simp only[vl];omega) only [AA]
 refine AE (k1) rfl ?_
 simp (disch:=first|omega|simp only[vl];omega) only [AA]
 refine AE (k2) rfl ?_
 simp (disch:=first|omega|simp only[vl];omega) only [AA]
 rw [AIS]
 refine B9 (fun (q:D×List Nat×Int)=>BJ q.1∧(0≤q.2.2∧(q.2.1.length:Int)+q.2.2≤m)∧∀ c∈q.2.1,c<256) (fun q=>[q.1,.u,.u,LB q.2.1,.n y,.n q.2.2,.u,.u,.u,.u]) (fun q=>q.2.2.toNat) (d2,[],n) ⟨hd2,by simp; omega,by simp⟩ rfl ?_
 rintro ⟨d3,x,r⟩ ⟨hd3,hr,hx⟩
 simp only at hd3 hr hx ⊢
 by_cases h0:0<r
 ·obtain ⟨_,⟨b,d4,rfl,hb,hd4⟩,k3⟩:=JA (K:=K) hd3
  have fin:∀ b:Int,(0≤b∧b≤255)→∀ c∈x++[b.toNat],c<256:=by
   intro b hb c hc
   rcases A8.1 hc with hc | hc
   ·exact hx c hc
   ·simp at hc; omega
  have e0:∀ {l:List Nat},(x++l).length=x.length+l.length:=by simp
  by_cases h1:y=1
  ·simp (disch:=first|omega|simp only[vl];omega) only [AA]
   refine AE (k3) rfl ?_
   simp (disch:=first|omega|simp only[vl];omega) only [AA,h1]
   exact ⟨(d4,x++[(b % 2).toNat],r-1),by show (r-1).toNat<r.toNat; omega,⟨hd4,by simp; omega,fin _ (by omega)⟩,rfl⟩
  ·by_cases h2:y=2
   ·simp (disch:=first|omega|simp only[vl];omega) only [AA]
    refine AE (k3) rfl ?_
    simp (disch:=first|omega|simp only[vl];omega) only [AA,h2]
    exact ⟨(d4,x++[(97+b % 4).toNat],r-1),by show (r-1).toNat<r.toNat; omega,⟨hd4,by simp; omega,fin _ (by omega)⟩,rfl⟩
   ·simp (disch:=first|omega|simp only[vl];omega) only [AA]
    refine AE (k3) rfl ?_
    simp (disch:=first|omega|simp only[vl];omega) only [AA]
    exact ⟨(d4,x++[b.toNat],r-1),by show (r-1).toNat<r.toNat; omega,⟨hd4,by simp; omega,fin _ (by omega)⟩,rfl⟩
 ·simp (disch:=first|omega|simp only[vl];omega) only [AA,QG hx]
  exact ⟨x,d3,rfl,by omega,hd3⟩
theorem u8r (x:Int):0≤IntKind.u8.wrap x∧IntKind.u8.wrap x<256:=by
 simp [IntKind.wrap,IntKind.bits,IntKind.signed]; omega
theorem ZA {x:Int}:DV [.i .u8 (IntKind.u8.wrap x)]=some (LB [(IntKind.u8.wrap x).toNat]):=Tk (u8r x).1
theorem AFH {x:Int}:GQ (LB [(IntKind.u8.wrap x).toNat])=some (.s [(IntKind.u8.wrap x).toNat]):=TM (by have:=u8r x; omega)
theorem AIE [HA K] {d:D} (hd:BJ d) {w:List Nat} (hw:w.length≤1000000):∃ rs,(∃ x d',rs=[.s x,d']∧x.length≤w.length+3∧BJ d')∧K 315 [d,.s w] rs:=by
 refine Bg (f:=N2) rfl ?_; simp only [N2,zu]
 by_cases h0:w.length=0
 ·obtain ⟨_,⟨x,d1,rfl,hx,hd1⟩,k1⟩:=AQ3 (K:=K) hd (m:=3) (by omega)
  simp (disch:=first|omega|simp only[vl];omega) only [AA]
  refine AE (k1) rfl ?_
  simp (disch:=first|omega|simp only[vl];omega) only [AA]
  exact ⟨_,_,rfl,by omega,hd1⟩
 ·obtain ⟨_,⟨k,d1,rfl,hk,hd1⟩,k1⟩:=CQ (K:=K) hd (n:=w.length)
  obtain ⟨_,⟨y,d2,rfl,hy,hd2⟩,k2⟩:=CQ (K:=K) hd1 (n:=4)
  have hk:=hk.2 (by omega)
  simp (disch:=first|omega|simp only[vl];omega) only [AA]
  refine AE (k1) rfl ?_
  simp (disch:=first|omega|simp only[vl];omega) only [AA]
  refine AE (k2) rfl ?_
  simp (disch:=first|omega|simp only[vl];omega) only [AA]
  by_cases h1:y=0
  ·simp (disch:=first|omega|simp only[vl];omega) only [AA,h1]
   refine ⟨_,_,rfl,?_,hd2⟩
   simp only [Ad,vl]; omega
  ·by_cases h2:y=1
   ·obtain ⟨_,⟨b,d3,rfl,hb,hd3⟩,k3⟩:=JA (K:=K) hd2
    simp (disch:=first|omega|simp only[vl];omega) only [AA,h2]
    refine AE (k3) rfl ?_
    simp (disch:=first|omega|simp only[vl];omega) only [AA,ZA,AFH]
    refine ⟨_,_,rfl,?_,hd3⟩
    simp only [Ad,vl,A6,Aq]; omega
   ·by_cases h3:y=2
    ·simp (disch:=first|omega|simp only[vl];omega) only [AA,h3]
     refine ⟨_,_,rfl,?_,hd2⟩
     simp only [vl]; omega
    ·obtain ⟨_,⟨b,d3,rfl,hb,hd3⟩,k3⟩:=CQ (K:=K) hd2 (n:=255)
     simp (disch:=first|omega|simp only[vl];omega) only [AA]
     refine AE (k3) rfl ?_
     simp (disch:=first|omega|simp only[vl];omega) only [AA,Qk,ZA,AFH]
     refine ⟨_,_,rfl,?_,hd3⟩
     simp only [Ad,vl,A6,Aq]; omega
end Go.Cat
