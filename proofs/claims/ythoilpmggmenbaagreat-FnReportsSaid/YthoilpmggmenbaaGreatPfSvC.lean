/-
 Cyclotomic polynomials; values at roots of unity.
-/
import Derived.Test.YthoilpmggmenbaaGreatPfPolyB
import Derived.Test.YthoilpmggmenbaaGreatPfPolyD
import Derived.Test.YthoilpmggmenbaaGreatPfPoly
import Derived.Test.YthoilpmggmenbaaGreatQd0LawReports
import Derived.Test.YthoilpmggmenbaaGreatQd1LawReports
import Derived.Test.YthoilpmggmenbaaGreatQd2LawReports
import Derived.Test.YthoilpmggmenbaaGreatQd3LawReports
import Derived.Test.YthoilpmggmenbaaGreatPfSvI
import Derived.Test.YthoilpmggmenbaaGreatPfRotC
import Derived.Test.YthoilpmggmenbaaGreatPfPLine
set_option linter.unusedSimpArgs false
set_option linter.unusedVariables false
namespace Go.Cat
set_option maxRecDepth 100000
variable{K:Nat→List D→List D→Prop}
def cyT:List (List Int):=[[],[-1,1],[1,1],[1,1,1],[1,0,1],[1,1,1,1,1],[1,-1,1],[1,1,1,1,1,1,1],[1,0,0,0,1],[1,0,0,1,0,0,1],[1,-1,1,-1,1]]
def CC(d:Nat):List Int:=cyT.getD d []
def dvQ(a b:List Int):List Int:=CV (Gy b (B8 a b) (a,rep (B8 a b:Nat) 0)).2
def D3(d:Nat):Nat→List Int
 |0=>BM (BM (rep ((d:Int)+1) 0) 0 (-1)) d 1
 |i+1=>if d%(i+1)=0 then dvQ (D3 d i) (CC (i+1))else D3 d i
def cyB(d:Nat):Bool:=decide (D3 d (d-1)=CC d)&&((List.range d).all (fun i=>decide ((D3 d i).length≤20))&&(List.range (d-1)).all fun i=>decide (1≤(CC (i+1)).length∧(CC (i+1)).length≤20)&&(decide (¬d%(i+1)=0)||match FD (CC (i+1)) (B8 (D3 d i) (CC (i+1))) (D3 d i,rep (B8 (D3 d i) (CC (i+1)):Nat) 0)with
  |some x=>decide (CV x.2=D3 d (i+1))
  |none=>false))
theorem cyB0:BO 10 (fun d=>cyB (d+1))=true:=by kernel_rfl
theorem AA3{d:Nat}(h:1≤d∧d≤10):D3 d (d-1)=CC d∧(∀i,i<d→(D3 d i).length≤20)∧∀i,i+1<d→(1≤(CC (i+1)).length∧(CC (i+1)).length≤20)∧(d%(i+1)=0→∃x,FD (CC (i+1)) (B8 (D3 d i) (CC (i+1))) (D3 d i,rep (B8 (D3 d i) (CC (i+1)):Nat) 0)=some x∧CV x.2=D3 d (i+1)):=by
 have:=BQ cyB0 (d-1) (by omega);rw[show d-1+1=d by omega]at this;simp only[cyB,AX,Aj]at this;obtain⟨h1,h2,h3⟩:=this;refine⟨h1,fun i hi=>by simpa using Aw.1 h2 i (List.mem_range.2 hi),fun i hi=>?_⟩;have h4:=Aw.1 h3 i (List.mem_range.2 (by omega));simp only[AX,Aj,Bool.or_eq_true]at h4;refine⟨h4.1,fun hd=>?_⟩;rcases h4.2 with q|q
 ·exact absurd hd q
 ·split at q
  ·rename_i x hx;exact⟨x,hx,by simpa using q⟩
  ·cases q
theorem ADP{d i:Nat}:D3 d (i+1)=if d%(i+1)=0 then dvQ (D3 d i) (CC (i+1))else D3 d i:=rfl
theorem QK{d i:Nat}:((d:Int)%((i:Int)+1)=0)↔d%(i+1)=0:=by rw[show(d:Int)%((i:Int)+1)=((d%(i+1):Nat):Int) by simp[Int.natCast_emod]];omega
theorem AP6{zs:List Int}{x:Int}(h:0<zs.length):Ao [0] (LI zs) (.n x)=some (LI (BM zs 0 x)):=VN (i:=0) (by omega)
theorem AJ7[HA K]:∀(d:Nat),1≤d→d≤10→K 599 [.n d] [LI (CC d)]
 |d,h1,h2=>by
  obtain⟨c1,c2,c3⟩:=AA3 ⟨h1,h2⟩
  have ih:∀e,1≤e→e<d→K 599 [.n e] [LI (CC e)]:=fun e he1 he2=>AJ7 e he1 (by omega)
  have r0:(rep ((d:Int)+1) (0:Int)).length=d+1:=by simp[rep]
  refine qb AAF rfl ?_;simp only[AAF]
  simp(disch:=first|omega|simp only[vl];omega) only[AA,AP6]
  refine AL (fun _=>True) (fun i=>[.n d,.u,LI (D3 d i),.n ((i:Int)+1),.u,.u]) (d-1) trivial rfl (fun i hi _=>?_) (fun _=>?_)
  ·obtain⟨d1,d2⟩:=c3 i (by omega)
   have hl:=c2 i (by omega)
   have hs:=ADP (d:=d) (i:=i)
   by_cases q:d%(i+1)=0
   ·obtain⟨x,x1,x2⟩:=d2 q
    have q':=QK.2 q
    simp(disch:=first|omega|simp only[vl];omega) only[AA]
    have k:=ih (i+1) (by omega) (by omega)
    rw[show((i+1:Nat):Int)=(i:Int)+1 from rfl]at k
    refine AD (k) rfl ?_
    simp(disch:=first|omega|simp only[vl];omega) only[AA]
    have kd:=Rl (K:=K) (a:=D3 d i) (b:=CC (i+1)) (by omega) (by omega) d1.1
    rw[x1]at kd
    simp only at kd
    refine AD (kd) rfl ?_
    simp(disch:=first|omega|simp only[vl];omega) only[AA]
    rw[x2]
   ·have q':¬((d:Int)%((i:Int)+1)=0):=fun e=>q (QK.1 e)
    rw[if_neg q]at hs
    rw[hs]
    simp(disch:=first|omega|simp only[vl];omega) only[AA]
  ·simp(disch:=first|omega|simp only[vl];omega) only[AA]
   rw[c1]
termination_by d=>d
theorem AOA[HA K]:∀(d:Nat),1≤d→d≤10→K 596 [.n d] [LI (CC d)]
 |d,h1,h2=>by
  obtain⟨c1,c2,c3⟩:=AA3 ⟨h1,h2⟩
  have ih:∀e,1≤e→e<d→K 596 [.n e] [LI (CC e)]:=fun e he1 he2=>AOA e he1 (by omega)
  have r0:(rep ((d:Int)+1) (0:Int)).length=d+1:=by simp[rep]
  refine qb AN4 rfl ?_;simp only[AN4]
  simp(disch:=first|omega|simp only[vl];omega) only[AA,AP6]
  refine AL (fun _=>True) (fun i=>[.n d,.u,LI (D3 d i),.n ((i:Int)+1),.u,.u]) (d-1) trivial rfl (fun i hi _=>?_) (fun _=>?_)
  ·obtain⟨d1,d2⟩:=c3 i (by omega)
   have hl:=c2 i (by omega)
   have hs:=ADP (d:=d) (i:=i)
   by_cases q:d%(i+1)=0
   ·have q':=QK.2 q
    rw[if_pos q]at hs
    rw[hs]
    simp(disch:=first|omega|simp only[vl];omega) only[AA]
    have k:=ih (i+1) (by omega) (by omega)
    rw[show((i+1:Nat):Int)=(i:Int)+1 from rfl]at k
    refine AD (k) rfl ?_
    simp(disch:=first|omega|simp only[vl];omega) only[AA]
    refine AD (VA (K:=K) (a:=D3 d i) (b:=CC (i+1)) (by omega) (by omega) d1.1) rfl ?_
    simp(disch:=first|omega|simp only[vl];omega) only[AA]
    rfl
   ·have q':¬((d:Int)%((i:Int)+1)=0):=fun e=>q (QK.1 e)
    rw[if_neg q]at hs
    rw[hs]
    simp(disch:=first|omega|simp only[vl];omega) only[AA]
  ·simp(disch:=first|omega|simp only[vl];omega) only[AA]
   rw[c1]
termination_by d=>d
def M3(r:List Int):Int×Bool:=if r.length=0 then(0,true)else if r.length=1 then(AE r 0,true)else(0,false)
def vrR(n d:Nat):List Int:=CV (Gy (CC d) (B8 (BE n) (CC d)) (BE n,rep (B8 (BE n) (CC d):Nat) 0)).1
def Ff(n d:Nat):Int×Bool:=M3 (vrR n d)
def FK(p:List Int)(d:Nat):Nat→List Int
 |0=>rep d 0
 |i+1=>BM (FK p d i) (i%d:Nat) (AE (FK p d i) (i%d:Nat)+AE p i)
theorem Sk{p:List Int}{d:Nat}:∀i,(FK p d i).length=d
 |0=>by simp[FK,rep]
 |i+1=>by simp only[FK,Cv,Sk i]
def Ly(n d:Nat):Bool:=Hb (BE n)&&(decide ((BE n).length≤30)&&(decide (1≤(CC d).length∧(CC d).length≤20)&&((BE n).all (AV 0 100)&&((List.range (BE n).length).all (fun i=>(FK (BE n) d i).all (AV 0 1000))&&match FD (CC d) (B8 (FK (BE n) d (BE n).length) (CC d)) (FK (BE n) d (BE n).length,rep (B8 (FK (BE n) d (BE n).length) (CC d):Nat) 0)with
  |some x=>decide (M3 (CV x.1)=Ff n d)
  |none=>false))))
theorem vrB0:BO 5 (fun n=>BO 10 fun d=>Ly (n+1) (d+1))=true:=by kernel_rfl
theorem Ua{n d:Nat}(hn:1≤n∧n≤5)(hd:1≤d∧d≤10):Ly n d=true:=by have:=BQ (BQ vrB0 (n-1) (by omega)) (d-1) (by omega);rwa [show n-1+1=n by omega,show d-1+1=d by omega]at this
theorem XM{a b:Int}{l:List Int}(h:l.all (AV a b)=true){j:Nat}(hj:j<l.length):a≤AE l j∧AE l j≤b:=by
 have:=Aw.1 h l[j] (List.getElem_mem hj);have e:AE l (j:Nat)=l[j]:=by simp[AE,hj]
 rw[e];exact A8.1 this
theorem AcL[HA K]{n d:Nat}(hn:1≤n∧n≤5)(hd:1≤d∧d≤10):K 588 [LI (BE n),.n d] [.n (Ff n d).1,.b (Ff n d).2]:=by
 have h:=Ua hn hd;simp only[Ly,AX,Aj]at h;obtain⟨b1,b2,b3,b4,b5,b6⟩:=h;obtain⟨x,x1,x2⟩:∃x,FD (CC d) (B8 (FK (BE n) d (BE n).length) (CC d)) (FK (BE n) d (BE n).length,rep (B8 (FK (BE n) d (BE n).length) (CC d):Nat) 0)=some x∧M3 (CV x.1)=Ff n d:=by
  split at b6
  ·rename_i x hx;exact⟨x,hx,by simpa using b6⟩
  ·cases b6
 have hin:AV 1 16 (d:Int)=true:=A8.2 (by omega);rw[←x2];refine qb APB rfl ?_;simp only[APB];simp(disch:=first|omega|simp only[vl];omega) only[AA];refine AD (AK8 (K:=K) (p:=BE n) (by omega)) rfl ?_;rw[b1];simp(disch:=first|omega|simp only[vl];omega) only[AA];refine AD (CK (K:=K)) rfl ?_;rw[hin];simp(disch:=first|omega|simp only[vl];omega) only[AA];refine AL (fun _=>True) (fun i=>[.u,.n d,.u,.u,LI (FK (BE n) d i),.u,.u,.u,.u,LI (BE n),.n (BE n).length,.n i,.u,.u,.u,.u]) (BE n).length trivial rfl (fun i hi _=>?_) (fun _=>?_)
 ·have hl:=Sk (p:=BE n) (d:=d) i;have hm:i%d<d:=Nat.mod_lt _ (by omega);have em:(i:Int)%(d:Int)=((i%d:Nat):Int):=by simp[Int.natCast_emod]
  have v1:=XM b4 (j:=i) hi;have v2:=XM (Aw.1 b5 i (List.mem_range.2 hi)) (j:=i%d) (by rw[hl];exact hm);simp(disch:=first|omega|simp only[vl];omega) only[AA,em];rfl
 ·have hl:=Sk (p:=BE n) (d:=d) (BE n).length;simp(disch:=first|omega|simp only[vl];omega) only[AA];refine AD (AJ7 (K:=K) d hd.1 hd.2) rfl ?_;simp(disch:=first|omega|simp only[vl];omega) only[AA];have kd:=Rl (K:=K) (a:=FK (BE n) d (BE n).length) (b:=CC d) (by omega) (by omega) b3.1;rw[x1]at kd;simp only at kd;refine AD (kd) rfl ?_;generalize CV x.1=r;unfold M3;by_cases h0:r.length=0
  ·rw[if_pos h0];simp(disch:=first|omega|simp only[vl];omega) only[AA]
  ·rw[if_neg h0];by_cases h1:r.length=1
   ·rw[if_pos h1];simp(disch:=first|omega|simp only[vl];omega) only[AA]
   ·rw[if_neg h1];simp(disch:=first|omega|simp only[vl];omega) only[AA]
theorem AdE[HA K]{n d:Nat}(hn:1≤n∧n≤5)(hd:1≤d∧d≤10):K 585 [LI (BE n),.n d] [.n (Ff n d).1,.b (Ff n d).2]:=by
 have h:=Ua hn hd;simp only[Ly,AX,Aj]at h;obtain⟨b1,b2,b3,_,_,_⟩:=h;have hin:AV 1 16 (d:Int)=true:=A8.2 (by omega);refine qb AIS rfl ?_;simp only[AIS];simp(disch:=first|omega|simp only[vl];omega) only[AA];refine AD (AVP (K:=K) (p:=BE n) (by omega)) rfl ?_;rw[b1];simp(disch:=first|omega|simp only[vl];omega) only[AA];refine AD (Bj (K:=K)) rfl ?_;rw[hin];simp(disch:=first|omega|simp only[vl];omega) only[AA];refine AD (AOA (K:=K) d hd.1 hd.2) rfl ?_;simp(disch:=first|omega|simp only[vl];omega) only[AA];refine AD (VA (K:=K) (a:=BE n) (b:=CC d) (by omega) (by omega) b3.1) rfl ?_;rw[Ff,vrR];generalize CV (Gy (CC d) (B8 (BE n) (CC d)) (BE n,rep (B8 (BE n) (CC d):Nat) 0)).1=r;unfold M3;by_cases h0:r.length=0
 ·rw[if_pos h0];simp(disch:=first|omega|simp only[vl];omega) only[AA]
 ·rw[if_neg h0];by_cases h1:r.length=1
  ·rw[if_pos h1];simp(disch:=first|omega|simp only[vl];omega) only[AA]
  ·rw[if_neg h1];simp(disch:=first|omega|simp only[vl];omega) only[AA]
end Go.Cat
namespace Go.Cat
set_option maxRecDepth 100000
variable{K:Nat→List D→List D→Prop}
abbrev tvg:List (Nat×IF):=[(589,I589.v)]
abbrev tvo:List (Nat×IF):=[(586,I586.v)]
def Qu(x:Option (List D))(v:Nat):Bool:=match x with
 |some [.i .i64 z]=>decide (z=v)
 |_=>false
theorem Zo{x:Option (List D)}{v:Nat}(h:Qu x v=true):x=some [.n v]:=by
 unfold Qu at h;split at h
 ·rw[Aj]at h;rw[h]
 ·cases h
theorem gc0:BO 10 (fun o=>BO (o+1) fun k=>Qu (Dm (Dr tvg) 100 20 589 [.n ((o+1:Nat):Int),.n (k:Nat)]) (Nat.gcd (o+1) k))=true:=by kernel_rfl
theorem od0:BO 10 (fun o=>BO (o+1) fun k=>Qu (Dm (Dr tvo) 100 20 586 [.n ((o+1:Nat):Int),.n (k:Nat)]) ((o+1)/Nat.gcd (o+1) k))=true:=by kernel_rfl
theorem AbF[HA K]{o k:Nat}(ho:1≤o∧o≤10)(hk:k<o):K 589 [.n o,.n k] [.n (Nat.gcd o k)]:=by have:=Zo (BQ (BQ gc0 (o-1) (by omega)) k (by omega));rw[show o-1+1=o by omega]at this;exact run tvg 100 20 589 this
theorem AcN[HA K]{o k:Nat}(ho:1≤o∧o≤10)(hk:k<o):K 586 [.n o,.n k] [.n (o/Nat.gcd o k:Nat)]:=by have:=Zo (BQ (BQ od0 (o-1) (by omega)) k (by omega));rw[show o-1+1=o by omega]at this;exact run tvo 100 20 586 this
theorem We{o k:Nat}(ho:1≤o∧o≤10):1≤o/Nat.gcd o k∧o/Nat.gcd o k≤10:=by have h1:0<Nat.gcd o k:=Nat.gcd_pos_of_pos_left _ (by omega);have h2:Nat.gcd o k≤o:=Nat.gcd_le_left _ (by omega);exact⟨Nat.div_pos h2 h1,Nat.le_trans (Nat.div_le_self _ _) ho.2⟩
theorem S4{f n:Nat}(hf:f<3)(hn:1≤n∧n≤5):1≤BS f n∧BS f n≤10:=by rcases f3 hf with rfl|rfl|rfl<;>simp only[BS]<;>omega
noncomputable def G1(f n k:Nat):Bool:=(Ff n (BS f n/Nat.gcd (BS f n) k)).2&&decide ((Ff n (BS f n/Nat.gcd (BS f n) k)).1=GO f n k)
noncomputable def Jo(f n:Nat):Bool:=(List.range (BS f n)).all (G1 f n)
theorem ZZ{f n:Nat}(h:∀k,k<BS f n→G1 f n k=true):Jo f n=true:=Aw.2 fun k hk=>h k (List.mem_range.1 hk)
theorem OA{f n k:Nat}(hk:k<BS f n)(h:G1 f n k=false):Jo f n=false:=by rw[Bool.eq_false_iff];intro q;have:=Aw.1 q k (List.mem_range.2 hk);rw[h]at this;cases this
theorem AYV[HA K]{f n:Nat}(hf:f<3)(hn:1≤n∧n≤5):K 570 [.s (BG f),.n n] [.b (Jo f n)]:=by
 have ho:=S4 hf hn;refine qb AGK rfl ?_;simp only[AGK];simp(disch:=first|omega|simp only[vl];omega) only[AA];refine AD (PV (K:=K) hf hn) rfl ?_;simp(disch:=first|omega|simp only[vl];omega) only[AA];refine AD (WC (K:=K) (n:=(n:Int))) rfl ?_;rw[show AV 0 7 (n:Int)=true from A8.2 (by omega)];simp(disch:=first|omega|simp only[vl];omega) only[AA];refine AL (fun i=>∀j,j<i→G1 f n j=true) (fun i=>[.s (BG f),.n n,.u,.n (BS f n),LI (BE n),.b true,.n i,.u,.u,.u,.u]) (BS f n) (by omega) rfl (fun i hi hP=>?_) (fun hP=>?_)
 ·have hd:=We (k:=i) ho;simp(disch:=first|omega|simp only[vl];omega) only[AA];refine AD (AcN (K:=K) ho hi) rfl ?_;simp(disch:=first|omega|simp only[vl];omega) only[AA];refine AD (AdE (K:=K) hn hd) rfl ?_
  cases q1:(Ff n (BS f n/Nat.gcd (BS f n) i)).2
  ·simp(disch:=first|omega|simp only[vl];omega) only[AA];rw[OA hi (by simp[G1,q1])]
  ·simp(disch:=first|omega|simp only[vl];omega) only[AA];refine AD (AHP (K:=K) hf hn hi) rfl ?_;by_cases q2:(Ff n (BS f n/Nat.gcd (BS f n) i)).1=GO f n i
   ·simp(disch:=first|omega|simp only[vl];omega) only[AA];exact CB hP (by simp[G1,q1,q2])
   ·simp(disch:=first|omega|simp only[vl];omega) only[AA];rw[OA hi (by simp[G1,q2])]
 ·simp(disch:=first|omega|simp only[vl];omega) only[AA];rw[ZZ hP]
theorem AXM{a b c d e f:List Nat}:C2 [.s a,.s b,.s c,.s d,.s e,.s f]=some (LS [a,b,c,d,e,f]):=rfl
theorem AYS{a b:List Nat}:C2 [.s a,.s b]=some (LS [a,b]):=rfl
theorem AV6{p:List Int}(h:p.length≤30):(FJ p).length≤1000:=by
 unfold FJ;split
 ·simp
 ·rename_i q;have hp:Cr p=true:=by
   cases hq:Cr p with
   |true=>rfl
   |false=>exact absurd (.inr hq) q
  have:=Ic (sep:=[44]) (VM hp) (Dy p).length;rw[glue];rw[SZ]at this⊢;simp only[AY,Ap]at this;have h2:p.length*(20+(0+1))≤30*21:=Nat.mul_le_mul h (by omega);omega
theorem AZL[HA K]{f n:Nat}(hf:f<3)(hn:1≤n∧n≤5):K 574 [.s (BG f),.n n] [.b (Jo f n)]:=by
 have ho:=S4 hf hn;refine qb AHO rfl ?_;simp only[AHO];simp(disch:=first|omega|simp only[vl];omega) only[AA];refine AD (Nt (K:=K) hf hn) rfl ?_;simp(disch:=first|omega|simp only[vl];omega) only[AA];refine AD (ALZ (K:=K) (n:=(n:Int))) rfl ?_;rw[show AV 0 7 (n:Int)=true from A8.2 (by omega)];simp(disch:=first|omega|simp only[vl];omega) only[AA];refine AL (fun i=>∀j,j<i→G1 f n j=true) (fun i=>[.s (BG f),.n n,.u,.n (BS f n),LI (BE n),.n i,.u,.u,.u,.u,.u]) (BS f n) (by omega) rfl (fun i hi hP=>?_) (fun hP=>?_)
 ·have hd:=We (k:=i) ho;have hg:0<Nat.gcd (BS f n) i:=Nat.gcd_pos_of_pos_left _ (by omega);have eq0:(BS f n:Int)/(Nat.gcd (BS f n) i:Int)=((BS f n/Nat.gcd (BS f n) i:Nat):Int):=by simp
  simp(disch:=first|omega|simp only[vl];omega) only[AA];refine AD (AbF (K:=K) ho hi) rfl ?_;simp(disch:=first|omega|simp only[vl];omega) only[AA,eq0];refine AD (AcL (K:=K) hn hd) rfl ?_
  cases q1:(Ff n (BS f n/Nat.gcd (BS f n) i)).2
  ·simp(disch:=first|omega|simp only[vl];omega) only[AA];rw[OA hi (by simp[G1,q1])]
  ·simp(disch:=first|omega|simp only[vl];omega) only[AA];refine AD (X0 (K:=K) hf hn hi) rfl ?_;by_cases q2:(Ff n (BS f n/Nat.gcd (BS f n) i)).1=GO f n i
   ·simp(disch:=first|omega|simp only[vl];omega) only[AA];exact CB hP (by simp[G1,q1,q2])
   ·simp(disch:=first|omega|simp only[vl];omega) only[AA];rw[OA hi (by simp[G1,q2])]
 ·simp(disch:=first|omega|simp only[vl];omega) only[AA];rw[ZZ hP]
def FW(f n k:Nat):List Int:=(List.range k).map fun k=>(GO f n k:Int)
theorem Vb{f n k:Nat}:(FW f n k).length=k:=by simp[FW]
theorem AEP{f n k:Nat}:FW f n (k+1)=FW f n k++[(GO f n k:Int)]:=by simp[FW,List.range_succ]
theorem AZC{f n k:Nat}(hn:n≤5):GO f n k≤132:=by have h1:=KB (n:=n) (by omega);have h2:=List.countP_le_length (p:=fun w=>decide (t15 f n k w=w)) (l:=AN n);simp only[GO];omega
theorem AYT{f n k:Nat}(hn:n≤5):Gl (FW f n k):=fun y hy=>by
 simp only[FW,List.mem_map]at hy
 obtain⟨j,_,rfl⟩:=hy
 have:=AZC (f:=f) (n:=n) (k:=j) hn
 omega
theorem ADC{L:List Int}(hL:L.length≤132):∀i,(iter (Cz L) i ([],List.replicate L.length false)).1.length≤i∧Gl (iter (Cz L) i ([],List.replicate L.length false)).1
 |0=>⟨by simp[iter],fun y hy=>by simp[iter]at hy⟩
 |i+1=>by
  obtain⟨h1,h2⟩:=ADC hL i
  have hi:=(P6 (L:=L) (f:=L.length) (a:=i) (s:=0) (B:=(iter (Cz L) i ([],List.replicate L.length false)).2)).2.2
  simp only[iter,Cz]
  split
  ·refine⟨by simp only[A7,AY,Ap];omega,fun y hy=>?_⟩
   rcases Af.1 hy with q|q
   ·exact h2 y q
   ·rw[List.mem_singleton.1 q];omega
  ·exact⟨by omega,h2⟩
theorem TH[HA K]{f n:Nat}(hf:f<3)(hn:1≤n∧n≤5):∃v,K 558 [.s (BG f),.n n] [.s v]∧K 557 [.s (BG f),.n n] [.s v]:=by
 have ho:=S4 hf hn;have hp:=KB (n:=n) (by omega);have hL:=Ld (f:=f) (n:=n);have hcl:(BE n).length≤30:=by have:=Ua hn (d:=1) (by omega);simp only[Ly,AX,Aj]at this;exact this.2.1
 have hi1:=AYT (f:=f) (n:=n) (k:=BS f n) hn.2;have hl1:=Vb (f:=f) (n:=n) (k:=BS f n);obtain⟨o1,o2⟩:=ADC (L:=An f n) (by omega) (An f n).length;have hi2:Gl (G7 (An f n)):=o2;have hl2:(G7 (An f n)).length≤(An f n).length:=o1;have n1:=Il hi1;have n2:=Il hi2;have pf:=AV6 (p:=BE n) hcl;have hin:AV 0 7 (n:Int)=true:=A8.2 (by omega);obtain⟨s1,hs1⟩:∃s,s=[115,105,101,118,101,32]++FJ (BE n)++[32,102,105,120,101,100,32]++EI (FW f n (BS f n))++[32,111,114,98,105,116,115,32]++EI (G7 (An f n)):=⟨_,rfl⟩;have ls1:s1.length≤50000:=by rw[hs1];simp;omega
 have g1:glue [32] [[115,105,101,118,101],FJ (BE n),[102,105,120,101,100],EI (FW f n (BS f n)),[111,114,98,105,116,115],EI (G7 (An f n))]=s1:=by rw[hs1];simp[glue,BN,AO]
 have ln1:=Gb (K:=K) (ws:=[[115,105,101,118,101],FJ (BE n),[102,105,120,101,100],EI (FW f n (BS f n)),[111,114,98,105,116,115],EI (G7 (An f n))]) (by simp) (by simp;omega);rw[g1]at ln1;have g2:glue [32] [s1,[104,111,108,100,115]]=s1++[32,104,111,108,100,115]:=by simp[glue,BN,AO]
 have ln2:=Gb (K:=K) (ws:=[s1,[104,111,108,100,115]]) (by simp) (by simp;omega);rw[g2]at ln2;refine⟨if Jo f n=true then s1++[32,104,111,108,100,115]else s1,?_,?_⟩
 ·refine qb Pm rfl ?_;simp only[Pm];simp(disch:=first|omega|simp only[vl];omega) only[AA];refine AD (Nt (K:=K) hf hn) rfl ?_;simp(disch:=first|omega|simp only[vl];omega) only[AA];refine AD (ALZ (K:=K) (n:=(n:Int))) rfl ?_;simp(disch:=first|omega|simp only[vl];omega) only[AA];refine AL (fun _=>True) (fun i=>[.s (BG f),.n n,.u,.u,LI (BE n),LI (FW f n i),.u,.u,.u,.u,.n (BS f n),.n i,.u,.u]) (BS f n) trivial rfl (fun i hi _=>?_) (fun _=>?_)
  ·have hli:=Vb (f:=f) (n:=n) (k:=i);simp(disch:=first|omega|simp only[vl];omega) only[AA];refine AD (X0 (K:=K) hf hn hi) rfl ?_;simp(disch:=first|omega|simp only[vl];omega) only[AA];rw[AEP]
  ·simp(disch:=first|omega|simp only[vl];omega) only[AA];refine AD (Aa5 (K:=K) hf hn) rfl ?_;simp(disch:=first|omega|simp only[vl];omega) only[AA];refine AD (AVC (K:=K) (p:=BE n) (by omega)) rfl ?_;simp(disch:=first|omega|simp only[vl];omega) only[AA];refine AD (Ml (K:=K) (l:=FW f n (BS f n)) (by omega) hi1) rfl ?_;simp(disch:=first|omega|simp only[vl];omega) only[AA];refine AD (Ml (K:=K) (l:=G7 (An f n)) (by omega) hi2) rfl ?_;simp(disch:=first|omega|simp only[vl];omega) only[AA,AXM];refine AD (ln1) rfl ?_;simp(disch:=first|omega|simp only[vl];omega) only[AA];refine AD (AZL (K:=K) hf hn) rfl ?_
   cases hd:Jo f n
   ·simp(disch:=first|omega|simp only[vl];omega) only[AA];rw[if_neg (by simp)]
   ·simp(disch:=first|omega|simp only[vl];omega) only[AA,AYS];refine AD (ln2) rfl ?_;simp(disch:=first|omega|simp only[vl];omega) only[AA]
 ·refine qb Qn rfl ?_;simp only[Qn];simp(disch:=first|omega|simp only[vl];omega) only[AA];refine AD (PV (K:=K) hf hn) rfl ?_;simp(disch:=first|omega|simp only[vl];omega) only[AA];refine AD (WC (K:=K) (n:=(n:Int))) rfl ?_;simp(disch:=first|omega|simp only[vl];omega) only[AA];refine AL (fun _=>True) (fun i=>[.s (BG f),.n n,.u,.n (BS f n),LI (BE n),LI (FW f n i),.n i,.u,.u,.u,.u,.u]) (BS f n) trivial rfl (fun i hi _=>?_) (fun _=>?_)
  ·have hli:=Vb (f:=f) (n:=n) (k:=i);simp(disch:=first|omega|simp only[vl];omega) only[AA];refine AD (AHP (K:=K) hf hn hi) rfl ?_;simp(disch:=first|omega|simp only[vl];omega) only[AA];rw[AEP]
  ·simp(disch:=first|omega|simp only[vl];omega) only[AA];refine AD (ARJ (K:=K) hf hn) rfl ?_;simp(disch:=first|omega|simp only[vl];omega) only[AA];refine AD (AZZ (K:=K) (p:=BE n) (by omega)) rfl ?_;simp(disch:=first|omega|simp only[vl];omega) only[AA];refine AD (MU (K:=K) (l:=FW f n (BS f n)) (by omega) hi1) rfl ?_;simp(disch:=first|omega|simp only[vl];omega) only[AA];refine AD (MU (K:=K) (l:=G7 (An f n)) (by omega) hi2) rfl ?_;simp(disch:=first|omega|simp only[vl];omega) only[AA];refine AD (AYV (K:=K) hf hn) rfl ?_
   cases hd:Jo f n
   ·simp(disch:=first|omega|simp only[vl];omega) only[AA];rw[if_neg (by simp),hs1];simp
   ·simp(disch:=first|omega|simp only[vl];omega) only[AA];rw[hs1];simp
theorem AVX[HA K](s:List Nat)(a:Int):∃v,K 558 [.s s,.n a] [.s v]∧K 557 [.s s,.n a] [.s v]:=by
 have no:AV 1 5 a=false∨(s≠BG 0∧s≠BG 1∧s≠BG 2)→∃v,K 558 [.s s,.n a] [.s v]∧K 557 [.s s,.n a] [.s v]:=fun h=>by
  refine⟨[],?_,?_⟩
  ·refine qb Pm rfl ?_;simp only[Pm];simp(disch:=first|omega|simp only[vl];omega) only[AA];refine AD (AR9 (K:=K) h) rfl ?_;simp(disch:=first|omega|simp only[vl];omega) only[AA]
  ·refine qb Qn rfl ?_;simp only[Qn];simp(disch:=first|omega|simp only[vl];omega) only[AA];refine AD (AUL (K:=K) h) rfl ?_;simp(disch:=first|omega|simp only[vl];omega) only[AA]
 cases hin:AV 1 5 a with
 |false=>exact no (.inl hin)
 |true=>
  have h:=A8.1 hin
  obtain⟨n,rfl⟩:=Cd (by omega:0≤a)
  by_cases h0:s=BG 0
  ·rw[h0];exact TH (by omega) (by omega)
  ·by_cases h1:s=BG 1
   ·rw[h1];exact TH (by omega) (by omega)
   ·by_cases h2:s=BG 2
    ·rw[h2];exact TH (by omega) (by omega)
    ·exact no (.inr ⟨h0,h1,h2⟩)
end Go.Cat
