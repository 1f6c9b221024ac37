/-
 Ballot numbers: by running, the program's.
-/
import Derived.Test.YthoilpmggmenbaaGreatPfPlane
import Derived.Test.YthoilpmggmenbaaGreatQd0LawReports
import Derived.Test.YthoilpmggmenbaaGreatQd1LawReports
import Derived.Test.YthoilpmggmenbaaGreatQd2LawReports
import Derived.Test.YthoilpmggmenbaaGreatQd3LawReports
import Derived.Test.YthoilpmggmenbaaGreatPfIn
import Derived.Test.YthoilpmggmenbaaGreatCatFour
set_option linter.unusedSimpArgs false
set_option linter.unusedVariables false
namespace Go.Cat
variable{K:Nat→List D→List D→Prop}
set_option maxRecDepth 100000
def AO6(f:Nat→Nat)(u:Nat):Nat→Nat
 |0=>0
 |d+1=>if d<u then 0 else f (d+1)+AO6 f u d
def bw:Nat→Nat→Nat
 |0=>fun _=>1
 |u+1=>AO6 (bw u) u
abbrev ALN:List (Nat×IF):=[(27,I27.v),(23,IC.v)]
noncomputable def blT(u d:Nat):Bool:=Fl (Dm (Dr ALN) 60 8 27 [.n u,.n d]) (bw u d)
theorem bl8:BO 9 (fun d=>BO (d+1) fun u=>blT u d)=true:=by kernel_rfl
theorem bl_i[HA K]{u d:Nat}(h:u≤d)(hd:d<9):K 27 [.n u,.n d] [.n (bw u d)]:=
 run ALN 60 8 27 (G5 (BQ (BQ bl8 d hd) u (by omega)))
end Go.Cat
namespace Go.Cat
variable{K:Nat→List D→List D→Prop}
set_option maxRecDepth 100000
abbrev XG:List (Nat×IF):=[(84,I84.v)]
noncomputable def blU(u d:Nat):Bool:=Fl (Dm (Dr XG) 60 8 84 [.n u,.n d]) (bw u d)
theorem bs8:BO 9 (fun d=>BO (d+1) fun u=>blU u d)=true:=by kernel_rfl
theorem bl_w[HA K]{u d:Nat}(h:u≤d)(hd:d<9):K 84 [.n u,.n d] [.n (bw u d)]:=
 run XG 60 8 84 (G5 (BQ (BQ bs8 d hd) u (by omega)))
end Go.Cat
namespace Go.Cat
variable{K:Nat→List D→List D→Prop}
set_option maxRecDepth 100000
def Jh:List Int:=[1,1,2,5,14,42,132,429,1430,4862,16796,58786,208012,742900,2674440,9694845]
abbrev tcs:List (Nat×IF):=[(79,I79.v),(84,I84.v),(22,IP.v)]
abbrev AJQ:List (Nat×IF):=[(28,I28.v),(27,I27.v),(23,IC.v)]
theorem AcK:BO 16 (fun n=>Fl (Dm (Dr tcs) 60 8 79 [.n n]) (Jh.getD n 0))=true:=by kernel_rfl
theorem AdK:BO 16 (fun n=>Fl (Dm (Dr AJQ) 60 8 28 [.n n]) (Jh.getD n 0))=true:=by kernel_rfl
theorem ARD[HA K]{n:Nat}(h:n<16):K 79 [.n n] [.n (Jh.getD n 0)]:=run tcs 60 8 79 (G5 (BQ AcK n h))
theorem AQS[HA K]{n:Nat}(h:n<16):K 28 [.n n] [.n (Jh.getD n 0)]:=run AJQ 60 8 28 (G5 (BQ AdK n h))
end Go.Cat
namespace Go.Cat
variable{K:Nat→List D→List D→Prop}
set_option maxRecDepth 100000
theorem AWH{u d:Nat}:bw (u+1) (d+1)=if d<u then 0 else bw u (d+1)+bw (u+1) d:=rfl
theorem Ac3{d:Nat}:bw 0 d=1:=rfl
def GZ(u d:Nat):Nat:=match u with
 |0=>0
 |u+1=>bw u d
theorem YT{u d:Nat}(h:u≤d)(hd:0<d):bw u d=GZ u d+bw u (d-1):=by
 cases d with
 |zero=>omega
 |succ d=>
  cases u with
  |zero=>rfl
  |succ u=>rw[AWH,if_neg (by omega)];rfl
def M1:Nat→Nat→Nat→Nat→List Nat
 |0,_,_,_=>[]
 |n+1,u,d,k=>if k<GZ u d then 117::M1 n (u-1) d k else 100::M1 n u (d-1) (k-GZ u d)
def EL:List Nat→Nat→Nat→Nat
 |[],_,_=>0
 |c::w,u,d=>if c=117 then EL w (u-1) d else GZ u d+EL w u (d-1)
def gw(u d:Nat)(w:List Nat):Prop:=u≤d∧w.length=u+d∧BZ w ((d:Int)-u)=some 0
theorem Sb:∀{w:List Nat}{h k:Int},BZ w h=some k→h≤k+w.length
 |[],h,k,e=>by simp only[BZ,AI]at e;subst e;simp
 |c::w,h,k,e=>by
  simp only[BZ]at e
  simp only[AY]
  split at e
  ·have:=Sb e;omega
  ·split at e
   ·split at e
    ·cases e
    ·have:=Sb e;omega
   ·cases e
theorem UJ{u d:Nat}{w:List Nat}(h:gw u d (117::w)):∃u',u=u'+1∧gw u' d w:=by
 obtain⟨h1,h2,h3⟩:=h;simp only[BZ,if_true]at h3;have:=Sb h3;simp only[AY]at h2
 cases u with
 |zero=>omega
 |succ u=>exact⟨u,rfl,by omega,by omega,by rw[←h3];congr 1;omega⟩
theorem Rh{u d:Nat}{w:List Nat}{c:Nat}(h:gw u d (c::w))(hc:c≠117):c=100∧u<d∧gw u (d-1) w:=by
 obtain⟨h1,h2,h3⟩:=h;simp only[BZ,if_neg hc]at h3;split at h3
 ·rename_i hc1;split at h3
  ·cases h3
  ·simp only[AY]at h2;refine⟨hc1,by omega,by omega,by omega,?_⟩;rw[←h3];congr 1;omega
 ·cases h3
theorem Up:∀{w:List Nat}{h k:Int},BZ w h=some k→∃q:Int,k+w.length=h+2*q
 |[],h,k,e=>by simp only[BZ,AI]at e;subst e;exact⟨0,by simp⟩
 |c::w,h,k,e=>by
  simp only[BZ]at e
  simp only[AY]
  split at e
  ·obtain⟨q,hq⟩:=Up e;exact⟨q+1,by omega⟩
  ·split at e
   ·split at e
    ·cases e
    ·obtain⟨q,hq⟩:=Up e;exact⟨q,by omega⟩
   ·cases e
theorem Tv{w:List Nat}(h:AM w=true):gw (w.length/2) (w.length/2) w∧w.length≤16:=by
 obtain⟨h1,h2⟩:BZ w 0=some 0∧w.length≤16:=by simpa[AM]using h
 obtain⟨q,hq⟩:=Up h1;exact⟨⟨by omega,by omega,by rw[←h1];congr 1;omega⟩,h2⟩
theorem ARL{u d:Nat}(h:u≤d):GZ u d≤bw u d:=by
 cases d with
 |zero=>
  have:u=0:=by omega
  subst this;simp[GZ]
 |succ d=>rw[YT h (by omega)];omega
theorem VV:∀(w:List Nat)(u d:Nat),gw u d w→EL w u d<bw u d∧M1 (u+d) u d (EL w u d)=w
 |[],u,d=>fun h=>by
  obtain⟨h1,h2,_⟩:=h
  simp only[Ap]at h2
  have hu:u=0:=by omega
  have hd:d=0:=by omega
  subst hu hd
  exact⟨by simp[EL,Ac3],rfl⟩
 |c::w,u,d=>fun h=>by
  by_cases hc:c=117
  ·subst hc
   obtain⟨u',rfl,h'⟩:=UJ h
   obtain⟨q1,q2⟩:=VV w u' d h'
   have hf:GZ (u'+1) d=bw u' d:=rfl
   have hle:=ARL h.1
   simp only[EL,if_true,Nat.add_sub_cancel]
   refine⟨by omega,?_⟩
   rw[show u'+1+d=(u'+d)+1 by omega]
   unfold M1
   rw[if_pos (by omega),Nat.add_sub_cancel,q2]
  ·obtain⟨rfl,hud,h'⟩:=Rh h hc
   obtain⟨q1,q2⟩:=VV w u (d-1) h'
   have hs:=YT h.1 (by omega)
   simp only[EL,if_neg hc]
   refine⟨by omega,?_⟩
   rw[show u+d=(u+(d-1))+1 by omega]
   unfold M1
   rw[if_neg (by omega),Nat.add_sub_cancel_left,q2]
theorem bwM:BO 9 (fun d=>BO (d+1) fun u=>decide (bw u d≤1430))=true:=by kernel_rfl
theorem R5{u d:Nat}(h:u≤d)(hd:d<9):bw u d≤1430:=of_decide_eq_true (BQ (BQ bwM d hd) u (by omega))
def DU(w:List Nat):Int:=if AM w=true then EL w (w.length/2) (w.length/2)else -1
theorem AL7[HA K]{w:List Nat}(h:w.length≤1000000000):K 273 [.s w] [.n (DU w)]:=by
 refine qb Yj rfl ?_;simp only[Yj];simp(disch:=omega) only[AA];refine AD (Bv (K:=K) h) rfl ?_
 cases hd:AM w
 ·simp(disch:=omega) only[AA,hd];exact Dn (by simp[DU,hd])
 ·obtain⟨hg,hl⟩:=Tv hd;simp(disch:=omega) only[AA,hd];refine Au (fun i (x:Nat×Nat×Nat)=>gw x.2.1 x.2.2 (w.drop i)∧x.2.2≤8∧x.1+EL (w.drop i) x.2.1 x.2.2=EL w (w.length/2) (w.length/2)∧x.1≤1430*i) (fun i x=>[.s w,.u,.n x.1,.n x.2.1,.n x.2.2,.n i,.u,.u,.u,.u]) w.length (0,w.length/2,w.length/2) ⟨by simpa using hg,by simp only;omega,by simp,by simp⟩ (by simp only[];rfl) (fun i x hi hP=>?_) (fun x hP=>?_)
  ·obtain⟨k,u,d⟩:=x;obtain⟨h1,h2,h3,h4⟩:=hP;simp only at h1 h2 h3 h4;rw[Eo hi]at h1 h3;by_cases hc:AK w i=117
   ·rw[hc]at h1 h3;obtain⟨u',rfl,g⟩:=UJ h1;simp only[EL,if_true,Nat.add_sub_cancel]at h3;have gu:=g.1;simp(disch:=omega) only[AA,hc];exact⟨(k,u',d),⟨g,h2,h3,by simp only;omega⟩,by simp⟩
   ·obtain⟨hc1,hud,g⟩:=Rh h1 hc;obtain⟨d',rfl⟩:∃d',d=d'+1:=⟨d-1,by omega⟩;simp only[EL,if_neg hc,Nat.add_sub_cancel]at h3 g
    cases u with
    |zero=>
     have hf:GZ 0 (d'+1)=0:=rfl
     simp(disch:=omega) only[AA,hc1]
     exact⟨(k,0,d'),⟨g,by simp only;omega,by simp only;omega,by simp only;omega⟩,by simp⟩
    |succ u=>
     have hf:GZ (u+1) (d'+1)=bw u (d'+1):=rfl
     have hm:=R5 (u:=u) (d:=d'+1) (by omega) (by omega)
     simp(disch:=omega) only[AA,hc1,CA]
     refine AD (bl_i (K:=K) (u:=u) (d:=d'+1) (by omega) (by omega)) rfl ?_
     simp(disch:=omega) only[AA]
     exact⟨(k+bw u (d'+1),u+1,d'),⟨g,by simp only;omega,by simp only;omega,by simp only;omega⟩,by simp⟩
  ·obtain⟨k,u,d⟩:=x;obtain⟨h1,h2,h3,h4⟩:=hP;rw[List.drop_length]at h3;simp only[EL]at h3;simp(disch:=omega) only[AA];exact Dn (by simp only[DU,hd,if_true];omega)
theorem AC9[HA K]{w:List Nat}(h:w.length≤1000000000):K 276 [.s w] [.n (DU w)]:=by
 refine qb ACD rfl ?_;simp only[ACD];simp(disch:=omega) only[AA];refine AD (Bt (K:=K) h) rfl ?_
 cases hd:AM w
 ·simp(disch:=omega) only[AA,hd];exact Dn (by simp[DU,hd])
 ·obtain⟨hg,hl⟩:=Tv hd;simp(disch:=omega) only[AA,hd];refine Au (fun i (x:Nat×Nat×Nat)=>gw x.2.1 x.2.2 (w.drop i)∧x.2.2≤8∧x.1+EL (w.drop i) x.2.1 x.2.2=EL w (w.length/2) (w.length/2)∧x.1≤1430*i) (fun i x=>[.s w,.u,.n x.2.1,.n x.2.2,.n x.1,.n i,.u,.u,.u,.u]) w.length (0,w.length/2,w.length/2) ⟨by simpa using hg,by simp only;omega,by simp,by simp⟩ (by simp only[];rfl) (fun i x hi hP=>?_) (fun x hP=>?_)
  ·obtain⟨k,u,d⟩:=x;obtain⟨h1,h2,h3,h4⟩:=hP;simp only at h1 h2 h3 h4;rw[Eo hi]at h1 h3;by_cases hc:AK w i=117
   ·rw[hc]at h1 h3;obtain⟨u',rfl,g⟩:=UJ h1;simp only[EL,if_true,Nat.add_sub_cancel]at h3;have gu:=g.1;simp(disch:=omega) only[AA,hc];exact⟨(k,u',d),⟨g,h2,h3,by simp only;omega⟩,by simp⟩
   ·obtain⟨hc1,hud,g⟩:=Rh h1 hc;obtain⟨d',rfl⟩:∃d',d=d'+1:=⟨d-1,by omega⟩;simp only[EL,if_neg hc,Nat.add_sub_cancel]at h3 g
    cases u with
    |zero=>
     have hf:GZ 0 (d'+1)=0:=rfl
     simp(disch:=omega) only[AA,hc1]
     exact⟨(k,0,d'),⟨g,by simp only;omega,by simp only;omega,by simp only;omega⟩,by simp⟩
    |succ u=>
     have hf:GZ (u+1) (d'+1)=bw u (d'+1):=rfl
     have hm:=R5 (u:=u) (d:=d'+1) (by omega) (by omega)
     simp(disch:=omega) only[AA,hc1,CA]
     refine AD (bl_w (K:=K) (u:=u) (d:=d'+1) (by omega) (by omega)) rfl ?_
     simp(disch:=omega) only[AA]
     exact⟨(k+bw u (d'+1),u+1,d'),⟨g,by simp only;omega,by simp only;omega,by simp only;omega⟩,by simp⟩
  ·obtain⟨k,u,d⟩:=x;obtain⟨h1,h2,h3,h4⟩:=hP;rw[List.drop_length]at h3;simp only[EL]at h3;simp(disch:=omega) only[AA];exact Dn (by simp only[DU,hd,if_true];omega)
end Go.Cat
namespace Go.Cat
variable{K:Nat→List D→List D→Prop}
set_option maxRecDepth 100000
end Go.Cat
namespace Go.Cat
variable{K:Nat→List D→List D→Prop}
def Mv(k:IntKind)(a b:Int):Int:=k.wrap (BitVec.ofInt k.bits a&&&BitVec.ofInt k.bits b).toNat
def AJF(k:IntKind)(a b:Int):Int:=k.wrap (BitVec.ofInt k.bits a ^^^ BitVec.ofInt k.bits b).toNat
def AA7(a:Int)(b:Nat):Int:=a.fdiv (2^b)
theorem RQ{k:IntKind}{a b:Int}:Bd .and (.i k a) (.i k b)=some (.i k (Mv k a b)):=by simp[Bd,EC,Mv]
theorem UC{k:IntKind}{a b:Int}:Bd .xor (.i k a) (.i k b)=some (.i k (AJF k a b)):=by simp[Bd,EC,AJF]
theorem AGF{k k':IntKind}{a b:Int}(h:0≤b):Bd .shr (.i k a) (.i k' b)=some (.i k (AA7 a (min b.toNat k.bits))):=by simp only[Bd,AA7];rw[if_neg (by omega)]
theorem Wr(a:Int):0≤Mv .i64 a 255∧Mv .i64 a 255≤255:=by
 unfold Mv;have h:(BitVec.ofInt IntKind.i64.bits a&&&BitVec.ofInt IntKind.i64.bits 255).toNat≤255:=by rw[BitVec.toNat_and];exact Nat.le_trans Nat.and_le_right (by decide)
 rw[wrap_i64 (by omega)];omega
def K0(a:D):D→Option D
 |.l ys=>some (.l (a::ys))
 |_=>none
theorem PY{a:List Nat}{b:D}{r:List D}:C2 (.s a::b::r)=(C2 (b::r)).bind (K0 (.s a)):=by
 by_cases h:(b::r).all D.one=true
 ·have h2:(D.s a::b::r).all D.one=true:=by rw[List.all_cons,h];rfl
  simp[C2,h,h2,K0]
 ·have h2:¬(D.s a::b::r).all D.one=true:=fun q=>h (by rw[List.all_cons,AX]at q;exact q.2);simp only[C2];rw[if_neg h,if_neg h2];rfl
theorem QM{a:List Nat}{l:List (List Nat)}:K0 (.s a) (LS l)=some (LS (a::l)):=rfl
theorem AFQ{a:Int}{b:D}{r:List D}:C2 (.n a::b::r)=(C2 (b::r)).bind (K0 (.n a)):=by
 by_cases h:(b::r).all D.one=true
 ·have h2:(D.n a::b::r).all D.one=true:=by rw[List.all_cons,h];rfl
  simp[C2,h,h2,K0]
 ·have h2:¬(D.n a::b::r).all D.one=true:=fun q=>h (by rw[List.all_cons,AX]at q;exact q.2);simp only[C2];rw[if_neg h,if_neg h2];rfl
theorem AF5{a:Int}{l:List Int}:K0 (.n a) (LI l)=some (LI (a::l)):=rfl
def cur(code:List Nat)(i h:Int):D:=.g [LB code,.n i,.n h]
def Br(d:D):Prop:=∃code i h,d=cur code i h∧(0≤i∧i≤code.length)∧code.length≤1048576
theorem AJO{x:List Nat}:known (LB x)=some (LB x):=rfl
theorem Nb{x:List Nat}:(LB x).one=true:=rfl
theorem Ul[HA K]{code:List Nat}(h:code.length≤1048576):∃rs,(∃d,rs=[d]∧Br d)∧K 288 [LB code] rs:=by
 refine qx W8 rfl ?_;simp only[W8];simp(disch:=omega) only[AA];refine Au (fun i (s:Int)=>True) (fun i s=>[LB code,.u,.n s,.n i,.u]) (min code.length 4000) (10101+code.length) trivial rfl (fun i s hi hP=>?_) (fun s hP=>?_)
 ·simp(disch:=omega) only[AA,RQ];exact⟨_,rfl⟩
 ·by_cases hc:code.length≤4000
  ·simp(disch:=omega) only[AA,Nb];exact⟨_,rfl,code,0,s,rfl,by omega,h⟩
  ·simp(disch:=omega) only[AA,Nb];exact⟨_,rfl,code,0,s,rfl,by omega,h⟩
theorem KJ[HA K]{d:D}(hd:Br d):∃rs,(∃x d',rs=[.n x,d']∧(0≤x∧x≤255)∧Br d')∧K 316 [d] rs:=by
 obtain⟨code,i,h,rfl,hi,hl⟩:=hd;refine qx AL6 rfl ?_;simp only[AL6];simp only[cur];by_cases hc:i<code.length
 ·simp(disch:=omega) only[AA,RQ,UC,AGF,AJO,Nb];exact⟨_,_,rfl,Wr _,code,_,_,rfl,by omega,hl⟩
 ·simp(disch:=omega) only[AA,RQ,UC,AGF,AJO,Nb];exact⟨_,_,rfl,Wr _,code,_,_,rfl,by omega,hl⟩
theorem DT[HA K]{d:D}(hd:Br d){n:Int}:∃rs,(∃x d',rs=[.n x,d']∧((n≤0→x=0)∧(0<n→0≤x∧x<n))∧Br d')∧K 289 [d,.n n] rs:=by
 refine qx AAO rfl ?_;simp only[AAO];by_cases h0:n≤0
 ·simp(disch:=omega) only[AA];exact⟨_,_,rfl,⟨fun _=>rfl,by omega⟩,hd⟩
 ·by_cases h1:n≤256
  ·obtain⟨_,⟨x,d1,rfl,hx,hd1⟩,k1⟩:=KJ (K:=K) hd;simp(disch:=omega) only[AA];refine AD (k1) rfl ?_;simp(disch:=omega) only[AA];exact⟨_,_,rfl,⟨by omega,fun _=>⟨Int.emod_nonneg _ (by omega),Int.emod_lt_of_pos _ (by omega)⟩⟩,hd1⟩
  ·obtain⟨_,⟨x1,d1,rfl,hx1,hd1⟩,k1⟩:=KJ (K:=K) hd;obtain⟨_,⟨x2,d2,rfl,hx2,hd2⟩,k2⟩:=KJ (K:=K) hd1;obtain⟨_,⟨x3,d3,rfl,hx3,hd3⟩,k3⟩:=KJ (K:=K) hd2;obtain⟨_,⟨x4,d4,rfl,hx4,hd4⟩,k4⟩:=KJ (K:=K) hd3;simp(disch:=omega) only[AA];refine AD (k1) rfl ?_;simp(disch:=omega) only[AA];refine AD (k2) rfl ?_;simp(disch:=omega) only[AA];refine AD (k3) rfl ?_;simp(disch:=omega) only[AA];refine AD (k4) rfl ?_;simp(disch:=omega) only[AA];exact⟨_,_,rfl,⟨by omega,fun _=>⟨Int.emod_nonneg _ (by omega),Int.emod_lt_of_pos _ (by omega)⟩⟩,hd4⟩
theorem Lm[HA K]{d:D}(hd:Br d){n:Int}:∃rs,(∃x d',rs=[.b x,d']∧Br d')∧K 307 [d,.n n] rs:=by refine qx ADM rfl ?_;simp only[ADM];obtain⟨_,⟨x1,d1,rfl,hx1,hd1⟩,k1⟩:=DT (K:=K) hd (n:=n);simp(disch:=omega) only[AA];refine AD (k1) rfl ?_;simp(disch:=omega) only[AA];exact⟨_,_,rfl,hd1⟩
theorem S8[HA K]{d:D}(hd:Br d){l:List (List Nat)}(h0:0<l.length)(hl:l.length≤1000000):∃rs,(∃x d',rs=[.s x,d']∧x∈l∧Br d')∧K 318 [d,LS l] rs:=by refine qx YU rfl ?_;simp only[YU];obtain⟨_,⟨x1,d1,rfl,hx1,hd1⟩,k1⟩:=DT (K:=K) hd (n:=l.length);have:=hx1.2 (by omega);simp(disch:=omega) only[AA];refine AD (k1) rfl ?_;simp(disch:=omega) only[AA];refine⟨_,_,rfl,?_,hd1⟩;simp only[AO,Al];rw[En (by omega)];exact List.getElem_mem _
theorem AWW[HA K]{d:D}(hd:Br d){m:Int}(hm:0≤m∧m≤200):∃rs,(∃x d',rs=[.s x,d']∧(x.length:Int)≤m∧Br d')∧K 327 [d,.n m] rs:=by
 refine qx Y0 rfl ?_;simp only[Y0];obtain⟨_,⟨y,d1,rfl,hy,hd1⟩,k1⟩:=DT (K:=K) hd (n:=4);obtain⟨_,⟨n,d2,rfl,hn,hd2⟩,k2⟩:=DT (K:=K) hd1 (n:=m+1);have hn:=hn.2 (by omega);simp(disch:=first|omega|simp only[vl];omega) only[AA];refine AD (k1) rfl ?_;simp(disch:=first|omega|simp only[vl];omega) only[AA];refine AD (k2) rfl ?_;simp(disch:=first|omega|simp only[vl];omega) only[AA];rw[AEQ];refine Be (fun(q:D×List Nat×Int)=>Br q.1∧(0≤q.2.2∧(q.2.1.length:Int)+q.2.2≤m)∧∀c∈q.2.1,c<256) (fun q=>[q.1,.u,.u,LB q.2.1,.n y,.n q.2.2,.u,.u,.u,.u]) (fun q=>q.2.2.toNat) (d2,[],n) ⟨hd2,by simp;omega,by simp⟩ rfl ?_;rintro⟨d3,x,r⟩ ⟨hd3,hr,hx⟩;simp only at hd3 hr hx⊢;by_cases h0:0<r
 ·obtain⟨_,⟨b,d4,rfl,hb,hd4⟩,k3⟩:=KJ (K:=K) hd3;have fin:∀b:Int,(0≤b∧b≤255)→∀c∈x++[b.toNat],c<256:=by
   intro b hb c hc;rcases Af.1 hc with hc|hc
   ·exact hx c hc
   ·simp at hc;omega
  have e0:∀{l:List Nat},(x++l).length=x.length+l.length:=by simp
  by_cases h1:y=1
  ·simp(disch:=first|omega|simp only[vl];omega) only[AA];refine AD (k3) rfl ?_;simp(disch:=first|omega|simp only[vl];omega) only[AA,h1];exact⟨(d4,x++[(b%2).toNat],r-1),by show(r-1).toNat<r.toNat;omega,⟨hd4,by simp;omega,fin _ (by omega)⟩,rfl⟩
  ·by_cases h2:y=2
   ·simp(disch:=first|omega|simp only[vl];omega) only[AA];refine AD (k3) rfl ?_;simp(disch:=first|omega|simp only[vl];omega) only[AA,h2];exact⟨(d4,x++[(97+b%4).toNat],r-1),by show(r-1).toNat<r.toNat;omega,⟨hd4,by simp;omega,fin _ (by omega)⟩,rfl⟩
   ·simp(disch:=first|omega|simp only[vl];omega) only[AA];refine AD (k3) rfl ?_;simp(disch:=first|omega|simp only[vl];omega) only[AA];exact⟨(d4,x++[b.toNat],r-1),by show(r-1).toNat<r.toNat;omega,⟨hd4,by simp;omega,fin _ (by omega)⟩,rfl⟩
 ·simp(disch:=first|omega|simp only[vl];omega) only[AA,Qy hx];exact⟨x,d3,rfl,by omega,hd3⟩
theorem u8r(x:Int):0≤IntKind.u8.wrap x∧IntKind.u8.wrap x<256:=by simp[IntKind.wrap,IntKind.bits,IntKind.signed];omega
theorem AF6{x:Int}:C2 [.i .u8 (IntKind.u8.wrap x)]=some (LB [(IntKind.u8.wrap x).toNat]):=TL (u8r x).1
theorem AM7{x:Int}:Hc (LB [(IntKind.u8.wrap x).toNat])=some (.s [(IntKind.u8.wrap x).toNat]):=VX (by have:=u8r x;omega)
theorem ACL[HA K]{d:D}(hd:Br d){w:List Nat}(hw:w.length≤1000000):∃rs,(∃x d',rs=[.s x,d']∧x.length≤w.length+3∧Br d')∧K 315 [d,.s w] rs:=by
 refine qx AK2 rfl ?_;simp only[AK2];by_cases h0:w.length=0
 ·obtain⟨_,⟨x,d1,rfl,hx,hd1⟩,k1⟩:=AWW (K:=K) hd (m:=3) (by omega);simp(disch:=first|omega|simp only[vl];omega) only[AA];refine AD (k1) rfl ?_;simp(disch:=first|omega|simp only[vl];omega) only[AA];exact⟨_,_,rfl,by omega,hd1⟩
 ·obtain⟨_,⟨k,d1,rfl,hk,hd1⟩,k1⟩:=DT (K:=K) hd (n:=w.length);obtain⟨_,⟨y,d2,rfl,hy,hd2⟩,k2⟩:=DT (K:=K) hd1 (n:=4);have hk:=hk.2 (by omega);simp(disch:=first|omega|simp only[vl];omega) only[AA];refine AD (k1) rfl ?_;simp(disch:=first|omega|simp only[vl];omega) only[AA];refine AD (k2) rfl ?_;simp(disch:=first|omega|simp only[vl];omega) only[AA];by_cases h1:y=0
  ·simp(disch:=first|omega|simp only[vl];omega) only[AA,h1];refine⟨_,_,rfl,?_,hd2⟩;simp only[A7,vl];omega
  ·by_cases h2:y=1
   ·obtain⟨_,⟨b,d3,rfl,hb,hd3⟩,k3⟩:=KJ (K:=K) hd2;simp(disch:=first|omega|simp only[vl];omega) only[AA,h2];refine AD (k3) rfl ?_;simp(disch:=first|omega|simp only[vl];omega) only[AA,AF6,AM7];refine⟨_,_,rfl,?_,hd3⟩;simp only[A7,vl,AY,Ap];omega
   ·by_cases h3:y=2
    ·simp(disch:=first|omega|simp only[vl];omega) only[AA,h3];refine⟨_,_,rfl,?_,hd2⟩;simp only[vl];omega
    ·obtain⟨_,⟨b,d3,rfl,hb,hd3⟩,k3⟩:=DT (K:=K) hd2 (n:=255);simp(disch:=first|omega|simp only[vl];omega) only[AA];refine AD (k3) rfl ?_;simp(disch:=first|omega|simp only[vl];omega) only[AA,UC,AF6,AM7];refine⟨_,_,rfl,?_,hd3⟩;simp only[A7,vl,AY,Ap];omega
end Go.Cat
namespace Go.Cat
variable{K:Nat→List D→List D→Prop}
theorem AS8[HA K]{d:D}(hd:Br d){n:Int}(hn:n≤1000):∃rs,(∃x d',rs=[.s x,d']∧(x.length:Int)≤2*max n 0∧Br d')∧K 306 [d,.n n] rs:=by
 refine qx P1 rfl ?_;simp only[P1];simp(disch:=first|omega|simp only[vl];omega) only[AA];refine Be (fun(q:D×List Nat×Int×Int)=>Br q.1∧(0≤q.2.2.1∧q.2.2.1≤max n 0∧0≤q.2.2.2∧q.2.2.2≤max n 0)∧(q.2.1.length:Int)=q.2.2.1+q.2.2.2) (fun q=>[q.1,.n n,.u,.s q.2.1,.n q.2.2.1,.n q.2.2.2,.u,.u]) (fun q=>(2*max n 0-q.2.2.1-q.2.2.2).toNat) (d,[],0,0) ⟨hd,by simp;omega,by simp⟩ rfl ?_;rintro⟨d1,x,u,v⟩ ⟨hd1,hr,hx⟩;simp only at hd1 hr hx⊢;by_cases h0:v<n
 ·by_cases h1:u<n
  ·by_cases h2:u=v
   ·simp(disch:=first|omega|simp only[vl];omega) only[AA,h2];exact⟨(d1,x++[117],v+1,v),by simp only[];omega,⟨hd1,by simp only[];omega,by simp;omega⟩,rfl⟩
   ·obtain⟨_,⟨b,d2,rfl,hd2⟩,k2⟩:=Lm (K:=K) hd1 (n:=2);simp(disch:=first|omega|simp only[vl];omega) only[AA];refine AD (k2) rfl ?_
    cases b
    ·simp(disch:=first|omega|simp only[vl];omega) only[AA];exact⟨(d2,x++[100],u,v+1),by simp only[];omega,⟨hd2,by simp only[];omega,by simp;omega⟩,rfl⟩
    ·simp(disch:=first|omega|simp only[vl];omega) only[AA];exact⟨(d2,x++[117],u+1,v),by simp only[];omega,⟨hd2,by simp only[];omega,by simp;omega⟩,rfl⟩
  ·simp(disch:=first|omega|simp only[vl];omega) only[AA];exact⟨(d1,x++[100],u,v+1),by simp only[];omega,⟨hd1,by simp only[];omega,by simp;omega⟩,rfl⟩
 ·simp(disch:=first|omega|simp only[vl];omega) only[AA];exact⟨x,d1,rfl,by omega,hd1⟩
theorem AT2[HA K]{d:D}(hd:Br d):∃rs,(∃x d',rs=[.s x,d']∧x.length≤12∧Br d')∧K 317 [d] rs:=by refine qx P8 rfl ?_;simp only[P8];obtain⟨_,⟨n,d1,rfl,hn,hd1⟩,k1⟩:=DT (K:=K) hd (n:=7);have hn:=hn.2 (by omega);obtain⟨_,⟨x,d2,rfl,hx,hd2⟩,k2⟩:=AS8 (K:=K) hd1 (n:=n) (by omega);simp(disch:=omega) only[AA];refine AD (k1) rfl ?_;simp(disch:=omega) only[AA];refine AD (k2) rfl ?_;simp(disch:=omega) only[AA];exact⟨_,_,rfl,by omega,hd2⟩
theorem AVV[HA K]{d:D}(hd:Br d):∃rs,(∃x d',rs=[.s x,d']∧x.length≤20∧Br d')∧K 290 [d] rs:=by
 refine qx AE2 rfl ?_;simp only[AE2];obtain⟨_,⟨w,d1,rfl,hw,hd1⟩,k1⟩:=AT2 (K:=K) hd;obtain⟨_,⟨y,d2,rfl,hy,hd2⟩,k2⟩:=DT (K:=K) hd1 (n:=12);simp(disch:=omega) only[AA];refine AD (k1) rfl ?_;simp(disch:=omega) only[AA];refine AD (k2) rfl ?_;by_cases h1:y=0
 ·obtain⟨_,⟨x,d3,rfl,hx,hd3⟩,k3⟩:=ACL (K:=K) hd2 (w:=w) (by omega);simp(disch:=omega) only[AA,h1];refine AD (k3) rfl ?_;simp(disch:=omega) only[AA];exact⟨_,_,rfl,by omega,hd3⟩
 ·by_cases h2:y=1
  ·obtain⟨_,⟨x,d3,rfl,hx,hd3⟩,k3⟩:=S8 (K:=K) hd2 (l:=[[],[100,117],[117],[120],[117,117,117,117,117,117,117,117,117,100,100,100,100,100,100,100,100,100],[117,117,117,117,117,117,117,117,100,100,100,100,100,100,100,100]]) (by simp) (by simp);simp(disch:=omega) only[AA,h2,PY,QM];refine AD (k3) rfl ?_;simp(disch:=omega) only[AA];refine⟨_,_,rfl,?_,hd3⟩;simp at hx;rcases hx with rfl|rfl|rfl|rfl|rfl|rfl<;>simp
  ·simp(disch:=omega) only[AA];exact⟨_,_,rfl,by omega,hd2⟩
end Go.Cat
namespace Go.Cat
variable{K:Nat→List D→List D→Prop}
set_option maxRecDepth 100000
def Fx(w:List Nat):Int:=if AM w=true then(w.length:Int)/2 else -1
theorem AZQ[HA K]{w:List Nat}(h:w.length≤1000000000):K 132 [.s w] [.n (Fx w)]:=by
 refine qb ACR rfl ?_;simp only[ACR];simp(disch:=first|omega|simp only[vl];omega) only[AA];refine AD (Bv (K:=K) h) rfl ?_
 cases hd:AM w
 ·simp(disch:=first|omega|simp only[vl];omega) only[AA,hd];exact Dn (by simp[Fx,hd])
 ·simp(disch:=first|omega|simp only[vl];omega) only[AA,hd];exact Dn (by simp[Fx,hd])
def nvT:List (List Int):=[[1],[0,1],[0,1,1],[0,1,3,1],[0,1,6,6,1],[0,1,10,20,10,1],[0,1,15,50,50,15,1]]
def nv(m i:Nat):Int:=(nvT.getD m []).getD i 0
end Go.Cat
