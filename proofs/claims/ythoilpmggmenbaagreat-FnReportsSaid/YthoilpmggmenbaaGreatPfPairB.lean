/-
 What two trees have in common; trees between two; the line of a pair.
-/
import Derived.Test.YthoilpmggmenbaaGreatPfPairA
import Derived.Test.YthoilpmggmenbaaGreatPfWayK
import Derived.Test.YthoilpmggmenbaaGreatPfTri2
import Derived.Test.YthoilpmggmenbaaGreatPfStat
import Derived.Test.YthoilpmggmenbaaGreatPfPlane
import Derived.Test.YthoilpmggmenbaaGreatPfPLine
import Derived.Test.YthoilpmggmenbaaGreatQd0LawReports
import Derived.Test.YthoilpmggmenbaaGreatQd1LawReports
import Derived.Test.YthoilpmggmenbaaGreatQd2LawReports
import Derived.Test.YthoilpmggmenbaaGreatQd3LawReports
set_option linter.unusedSimpArgs false
set_option linter.unusedVariables false
namespace Go.Cat
variable{K:Nat→List D→List D→Prop}
theorem AYX{d:List (List Int)}(h:∀y∈d,CT y):∀y∈DN d,CT y:=by
 have key:∀(n:Nat)(d:List (List Int)),d.length=n→(∀y∈d,CT y)→∀y∈DN d,CT y:=by
  intro n;induction n with
  |zero=>
   intro d hd _ y hy
   rw[List.length_eq_zero_iff.1 hd]at hy
   simp[DN,Hj]at hy
  |succ n ih=>
   intro d hd hr y hy
   obtain⟨e,x,rfl⟩:∃e x,d=e++[x]:=⟨d.dropLast,d.getLast (by rintro rfl;simp at hd),(List.dropLast_concat_getLast _).symm⟩
   rw[show DN (e++[x])=(BY x (DN e).reverse).reverse by simp only[DN,Hj,List.foldl_append,List.foldl_cons,List.foldl_nil,List.reverse_reverse],List.mem_reverse]at hy
   rcases OL.1 hy with q|q
   ·rw[q];exact hr x (by simp)
   ·exact ih e (by simpa using hd) (fun z hz=>hr z (by simp[hz])) y (List.mem_reverse.1 q)
 exact key _ d rfl h
theorem Nu{x:BT}:∀y∈BP x,CT y:=AYX JO
theorem LK{x:BT}:(BP x).length≤x.n:=by have:=LQ (x:=x) (l:=0) (r:=(x.n:Int)+1);rw[Tj];omega
def HB(d:List Int)(Y:List (List Int))(j:Nat):Nat:=((List.range j).filter fun k:Nat=>decide (d=AG Y (k:Nat))).length
theorem AKY{d:List Int}{Y:List (List Int)}{j:Nat}:HB d Y (j+1)=HB d Y j+if d=AG Y (j:Nat)then 1 else 0:=by
 simp only[HB,List.range_succ,List.filter_append,A7];by_cases h:d=AG Y (j:Nat)
 ·simp[h]
 ·simp[h]
theorem TX{d:List Int}{Y:List (List Int)}{j:Nat}:HB d Y j≤j:=by have:=List.length_filter_le (fun k:Nat=>decide (d=AG Y (k:Nat))) (List.range j);simpa[HB]using this
def GA(X Y:List (List Int)):Nat→Nat
 |0=>0
 |i+1=>GA X Y i+HB (AG X (i:Nat)) Y Y.length
theorem Yx{X Y:List (List Int)}:∀{i:Nat},GA X Y i≤i*Y.length
 |0=>by simp[GA]
 |i+1=>by
  have h1:=Yx (X:=X) (Y:=Y) (i:=i)
  have h2:=TX (d:=AG X (i:Nat)) (Y:=Y) (j:=Y.length)
  simp only[GA,Nat.add_mul,Nat.one_mul]
  omega
theorem V5{X Y:List (List Int)}{i:Nat}(hi:i≤8)(hY:Y.length≤8):GA X Y i≤64:=by have h1:=Yx (X:=X) (Y:=Y) (i:=i);have h2:i*Y.length≤8*8:=Nat.mul_le_mul hi hY;omega
theorem cd_i[HA K]{x y:BT}(hx:x.n≤8)(h:x.n=y.n):K 616 [.s x.t,.s y.t] [.n (GA (BP x) (BP y) (BP x).length)]:=by
 have bx:=LK (x:=x);have by':=LK (x:=y);have k1:=Hv (K:=K) (x:=x) (y:=y) (m:=8) hx (by omega) (by omega);rw[decide_eq_true (p:=(x.n:Int)≤8) (by omega),decide_eq_true h,Bool.and_self]at k1;have rx:=Nu (x:=x);have ry:=Nu (x:=y);have kx:=QY (K:=K) (x:=x) hx;have ky:=QY (K:=K) (x:=y) (by omega);generalize BP x=X at*;generalize BP y=Y at*;refine qb AH1 rfl ?_;simp only[AH1];simp(disch:=first|omega|simp only[vl];omega) only[AA];refine AD (k1) rfl ?_;simp(disch:=first|omega|simp only[vl];omega) only[AA];refine AD (kx) rfl ?_;simp(disch:=first|omega|simp only[vl];omega) only[AA];refine AD (ky) rfl ?_;simp(disch:=first|omega|simp only[vl];omega) only[AA];refine Au (fun i (c:Int)=>c=GA X Y i) (fun i c=>[.u,.u,.u,.u,LL Y,.n c,.u,.u,.u,LL X,.n X.length,.n i,.u,.u,.u,.u,.u,.u]) X.length 0 rfl rfl (fun i c hi hc=>?_) (fun c hc=>?_)
 ·have b1:=V5 (X:=X) (Y:=Y) (i:=i) (by omega) (by omega);simp(disch:=first|omega|simp only[vl];omega) only[AA];refine Au (fun j (e:Int)=>e=c+HB (AG X (i:Nat)) Y j) (fun j e=>[.u,.u,.u,.u,LL Y,.n e,LI (AG X (i:Nat)),.u,.u,LL X,.n X.length,.n i,.u,LL Y,.n Y.length,.n j,.u,.u]) Y.length c (by simp[HB]) rfl (fun j e hj he=>?_) (fun e he=>?_)
  ·have b2:=TX (d:=AG X (i:Nat)) (Y:=Y) (j:=j);have r1:(AG X (i:Nat)).length=2:=rx _ (G8 hi);have r2:(AG Y (j:Nat)).length=2:=ry _ (G8 hj);simp(disch:=first|omega|simp only[vl];omega) only[AA];refine AD (AKZ (K:=K) (a:=AG X (i:Nat)) (b:=AG Y (j:Nat)) (by omega)) rfl ?_;have hs:=AKY (d:=AG X (i:Nat)) (Y:=Y) (j:=j);by_cases q:AG X (i:Nat)=AG Y (j:Nat)
   ·rw[if_pos q]at hs;rw[decide_eq_true q];simp(disch:=first|omega|simp only[vl];omega) only[AA];exact⟨_,by rw[hs,he];omega,rfl⟩
   ·rw[if_neg q]at hs;rw[decide_eq_false q];simp(disch:=first|omega|simp only[vl];omega) only[AA];exact⟨_,by rw[hs,he];omega,rfl⟩
  ·simp(disch:=first|omega|simp only[vl];omega) only[AA];exact⟨_,by rw[he,hc];simp only[GA];omega,rfl⟩
 ·simp(disch:=first|omega|simp only[vl];omega) only[AA];rw[hc]
theorem cd_s[HA K]{x y:BT}(hx:x.n≤8)(h:x.n=y.n):K 611 [.s x.t,.s y.t] [.n (GA (BP x) (BP y) (BP x).length)]:=by
 have bx:=LK (x:=x);have by':=LK (x:=y);have tx:=BT.tl x;have ty:=BT.tl y;have rx:=Nu (x:=x);have ry:=Nu (x:=y);have kx:=MT (K:=K) (x:=x) hx;have ky:=MT (K:=K) (x:=y) (by omega);generalize BP x=X at*;generalize BP y=Y at*;refine qb ANN rfl ?_;simp only[ANN];simp(disch:=first|omega|simp only[vl];omega) only[AA];refine AD (kx) rfl ?_;simp(disch:=first|omega|simp only[vl];omega) only[AA];refine AD (ky) rfl ?_;simp(disch:=first|omega|simp only[vl];omega) only[AA];refine Au (fun i (c:Int)=>c=GA X Y i) (fun i c=>[.u,.u,.u,LL X,.u,LL Y,.u,.n c,.n i,.u,.u,.u,.u,.u]) X.length 0 rfl rfl (fun i c hi hc=>?_) (fun c hc=>?_)
 ·have b1:=V5 (X:=X) (Y:=Y) (i:=i) (by omega) (by omega);simp(disch:=first|omega|simp only[vl];omega) only[AA];refine Au (fun j (e:Int)=>e=c+HB (AG X (i:Nat)) Y j) (fun j e=>[.u,.u,.u,LL X,.u,LL Y,.u,.n e,.n i,.n j,.u,.u,.u,.u]) Y.length c (by simp[HB]) rfl (fun j e hj he=>?_) (fun e he=>?_)
  ·have b2:=TX (d:=AG X (i:Nat)) (Y:=Y) (j:=j);have r1:(AG X (i:Nat)).length=2:=rx _ (G8 hi);have r2:(AG Y (j:Nat)).length=2:=ry _ (G8 hj);have hs:=AKY (d:=AG X (i:Nat)) (Y:=Y) (j:=j);by_cases q0:AE (AG X (i:Nat)) 0=AE (AG Y (j:Nat)) 0
   ·by_cases q1:AE (AG X (i:Nat)) 1=AE (AG Y (j:Nat)) 1
    ·have q:AG X (i:Nat)=AG Y (j:Nat):=by rw[OX r1,OX r2,q0,q1]
     rw[if_pos q]at hs;simp(disch:=first|omega|simp only[vl];omega) only[AA];exact⟨_,by rw[hs,he];omega,rfl⟩
    ·have q:¬AG X (i:Nat)=AG Y (j:Nat):=fun e=>q1 (by rw[e]);rw[if_neg q]at hs;simp(disch:=first|omega|simp only[vl];omega) only[AA];exact⟨_,by rw[hs,he];omega,rfl⟩
   ·have q:¬AG X (i:Nat)=AG Y (j:Nat):=fun e=>q0 (by rw[e]);rw[if_neg q]at hs;simp(disch:=first|omega|simp only[vl];omega) only[AA];exact⟨_,by rw[hs,he];omega,rfl⟩
  ·simp(disch:=first|omega|simp only[vl];omega) only[AA];exact⟨_,by rw[he,hc];simp only[GA];omega,rfl⟩
 ·simp(disch:=first|omega|simp only[vl];omega) only[AA];rw[hc]
theorem AN6:∀(l:List (List Nat)),(∀w∈l,AM w=true)→∃t:List BT,t.map BT.p=l
 |[],_=>⟨[],rfl⟩
 |w::l,h=>by
  obtain⟨t,ht⟩:=AN6 l (fun w hw=>h w (BK _ hw))
  obtain⟨x,rfl,_⟩:=IY (h w (List.mem_cons_self ..))
  exact⟨x::t,by simp[ht]⟩
theorem AZS:∀n:Nat,n<6→(AN n).length≤42∧∀w∈AN n,AM w=true:=by decide
theorem YA{l:List BT}{i:Nat}(h:i<l.length):AO (l.map BT.p) (i:Nat)=(A4 l i).p:=by simp[AO,A4,h]
theorem Xd[HA K]{n:Nat}(h:n≤5):∃t:List BT,t.length≤42∧(∀z∈t,z.n≤8)∧K 506 [.n n] [DK t]∧K 504 [.n n] [DK t]:=by
 obtain⟨h42,hd⟩:=AZS n (by omega);obtain⟨t,ht⟩:=AN6 (AN n) hd;have hl:t.length=(AN n).length:=by rw[←ht,List.length_map]
 have hn:∀z∈t,z.n≤8:=fun z hz=>by
  have h1:z.p∈AN n:=by rw[←ht];exact List.mem_map.2 ⟨z,hz,rfl⟩
  obtain⟨y,e,hy⟩:=IY (hd _ h1);rw[BT.APP e];exact hy
 refine⟨t,by omega,hn,?_,?_⟩
 ·have k1:=Vk (K:=K) (n:=n) (by omega);rw[←ht]at k1;refine qb AO9 rfl ?_;simp only[AO9];simp(disch:=first|omega|simp only[vl];omega) only[AA];refine AD (k1) rfl ?_;simp(disch:=first|omega|simp only[vl];omega) only[AA,List.length_map];refine AL (fun _=>True) (fun i=>[.u,.u,DK (t.take i),.u,LS (t.map BT.p),.n t.length,.n i,.u]) t.length trivial rfl (fun i hi _=>?_) (fun _=>?_)
  ·have ea:=YA hi;have hz:=hn _ (FE hi);have et:t.take (i+1)=t.take i++[A4 t i]:=by rw[CU hi,HJ hi]
   have el:(t.take i).length≤42:=by rw[List.length_take];omega
   simp(disch:=first|omega|simp only[vl];omega) only[AA,List.length_map,ea];refine AD (Ls (K:=K) (x:=A4 t i) hz) rfl ?_;simp(disch:=first|omega|simp only[vl];omega) only[AA];refine AD (IQ (K:=K) (x:=A4 t i) (by omega)) rfl ?_;simp(disch:=first|omega|simp only[vl];omega) only[AA,List.length_map];rw[et,DK,List.map_append];rfl
  ·rw[List.take_length];simp(disch:=first|omega|simp only[vl];omega) only[AA]
 ·have k1:=OS (K:=K) (n:=n) (by omega);rw[←ht]at k1;refine qb AFZ rfl ?_;simp only[AFZ];simp(disch:=first|omega|simp only[vl];omega) only[AA];refine AD (k1) rfl ?_;simp(disch:=first|omega|simp only[vl];omega) only[AA,List.length_map];refine AL (fun _=>True) (fun i=>[.u,.u,DK (t.take i),LS (t.map BT.p),.n i,.u]) t.length trivial rfl (fun i hi _=>?_) (fun _=>?_)
  ·have ea:=YA hi;have hz:=hn _ (FE hi);have et:t.take (i+1)=t.take i++[A4 t i]:=by rw[CU hi,HJ hi]
   have el:(t.take i).length≤42:=by rw[List.length_take];omega
   simp(disch:=first|omega|simp only[vl];omega) only[AA,List.length_map,ea];refine AD (Kj (K:=K) (x:=A4 t i) hz) rfl ?_;simp(disch:=first|omega|simp only[vl];omega) only[AA,List.length_map];rw[et,DK,List.map_append];rfl
  ·rw[List.take_length];simp(disch:=first|omega|simp only[vl];omega) only[AA,List.length_map]
def Iv(x y:BT)(t:List BT)(i:Nat):Nat:=((List.range i).filter fun k:Nat=>DE x (A4 t k)&&DE (A4 t k) y).length
theorem WM{x y:BT}{t:List BT}{i:Nat}:Iv x y t (i+1)=Iv x y t i+if(DE x (A4 t i)&&DE (A4 t i) y)=true then 1 else 0:=by
 simp only[Iv,List.range_succ,List.filter_append,A7];by_cases h:(DE x (A4 t i)&&DE (A4 t i) y)=true
 ·simp[h]
 ·simp[h]
theorem UX{x y:BT}{t:List BT}{i:Nat}:Iv x y t i≤i:=by have:=List.length_filter_le (fun k:Nat=>DE x (A4 t k)&&DE (A4 t k) y) (List.range i);simpa[Iv]using this
theorem AbR[HA K]{x y:BT}(hx:x.n≤5)(h:x.n=y.n):∃v:Int,0≤v∧v≤42∧K 618 [.s x.t,.s y.t] [.n v]∧K 613 [.s x.t,.s y.t] [.n v]:=by
 obtain⟨t,t42,tn,ki,ks⟩:=Xd (K:=K) (n:=x.n) hx;have hle:=UX (x:=x) (y:=y) (t:=t) (i:=t.length);refine⟨Iv x y t t.length,by omega,by omega,?_,?_⟩
 ·have k1:=Hv (K:=K) (x:=x) (y:=y) (m:=5) (by omega) (by omega) (by omega);rw[decide_eq_true (p:=(x.n:Int)≤5) (by omega),decide_eq_true h,Bool.and_self]at k1;refine qb APR rfl ?_;simp only[APR];simp(disch:=first|omega|simp only[vl];omega) only[AA];refine AD (k1) rfl ?_;simp(disch:=first|omega|simp only[vl];omega) only[AA];refine AD (Fk (K:=K) (x:=x) (by omega)) rfl ?_;simp(disch:=first|omega|simp only[vl];omega) only[AA];refine AD (ki) rfl ?_;simp(disch:=first|omega|simp only[vl];omega) only[AA,List.length_map];refine Au (fun i (c:Int)=>c=Iv x y t i) (fun i c=>[.s x.t,.s y.t,.u,.n c,.u,.u,DK t,.n t.length,.n i,.u,.u]) t.length 0 rfl rfl (fun i c hi hc=>?_) (fun c hc=>?_)
  ·have ea:=F1 hi;have hz:=tn _ (FE hi);have hs:=WM (x:=x) (y:=y) (t:=t) (i:=i);have hl:=UX (x:=x) (y:=y) (t:=t) (i:=i);simp(disch:=first|omega|simp only[vl];omega) only[AA,List.length_map,ea];refine AD (UW (K:=K) (x:=x) (y:=A4 t i) (by omega) hz) rfl ?_
   cases q1:DE x (A4 t i)with
   |false=>
    rw[q1,Bool.false_and,if_neg (by simp)]at hs
    simp(disch:=first|omega|simp only[vl];omega) only[AA]
    exact⟨_,by rw[hs,hc];omega,rfl⟩
   |true=>
    simp(disch:=first|omega|simp only[vl];omega) only[AA]
    refine AD (UW (K:=K) (x:=A4 t i) (y:=y) hz (by omega)) rfl ?_
    cases q2:DE (A4 t i) y with
    |false=>
     rw[q1,q2,Bool.and_false,if_neg (by simp)]at hs
     simp(disch:=first|omega|simp only[vl];omega) only[AA]
     exact⟨_,by rw[hs,hc];omega,rfl⟩
    |true=>
     rw[q1,q2,Bool.and_self,if_pos rfl]at hs
     simp(disch:=first|omega|simp only[vl];omega) only[AA]
     exact⟨_,by rw[hs,hc];omega,rfl⟩
  ·simp(disch:=first|omega|simp only[vl];omega) only[AA];rw[hc]
 ·have k1:=Hu (K:=K) (x:=x) (y:=y) (by omega) (by omega);rw[decide_eq_true h]at k1;refine qb ADG rfl ?_;simp only[ADG];simp(disch:=first|omega|simp only[vl];omega) only[AA];refine AD (k1) rfl ?_;simp(disch:=first|omega|simp only[vl];omega) only[AA];refine AD (Dz (K:=K) (x:=x) (by omega)) rfl ?_;simp(disch:=first|omega|simp only[vl];omega) only[AA];refine AD (Dz (K:=K) (x:=x) (by omega)) rfl ?_;simp(disch:=first|omega|simp only[vl];omega) only[AA];refine AD (ks) rfl ?_;simp(disch:=first|omega|simp only[vl];omega) only[AA];refine Au (fun i (c:Int)=>c=Iv x y t i) (fun i c=>[.s x.t,.s y.t,.u,DK t,.n c,.n i,.u,.u,.u]) t.length 0 rfl rfl (fun i c hi hc=>?_) (fun c hc=>?_)
  ·have ea:=F1 hi;have hz:=tn _ (FE hi);have hs:=WM (x:=x) (y:=y) (t:=t) (i:=i);have hl:=UX (x:=x) (y:=y) (t:=t) (i:=i);simp(disch:=first|omega|simp only[vl];omega) only[AA,List.length_map,ea];refine AD (Uj (K:=K) (x:=x) (y:=A4 t i) (by omega) hz) rfl ?_
   cases q1:DE x (A4 t i)with
   |false=>
    rw[q1,Bool.false_and,if_neg (by simp)]at hs
    simp(disch:=first|omega|simp only[vl];omega) only[AA,List.length_map,ea]
    exact⟨_,by rw[hs,hc];omega,rfl⟩
   |true=>
    simp(disch:=first|omega|simp only[vl];omega) only[AA,List.length_map,ea]
    refine AD (Uj (K:=K) (x:=A4 t i) (y:=y) hz (by omega)) rfl ?_
    cases q2:DE (A4 t i) y with
    |false=>
     rw[q1,q2,Bool.and_false,if_neg (by simp)]at hs
     simp(disch:=first|omega|simp only[vl];omega) only[AA]
     exact⟨_,by rw[hs,hc];omega,rfl⟩
    |true=>
     rw[q1,q2,Bool.and_self,if_pos rfl]at hs
     simp(disch:=first|omega|simp only[vl];omega) only[AA]
     exact⟨_,by rw[hs,hc];omega,rfl⟩
  ·simp(disch:=first|omega|simp only[vl];omega) only[AA,List.length_map];rw[hc]
theorem APD{a b c d e f:List Nat}:C2 [.s a,.s b,.s c,.s d,.s e,.s f]=some (LS [a,b,c,d,e,f]):=rfl
theorem Aa4{a b c d e:List Nat}:C2 [.s a,.s b,.s c,.s d,.s e]=some (LS [a,b,c,d,e]):=rfl
theorem Ac4[HA K][El K]{x y:BT}(hx:x.n≤8)(h:x.n=y.n):∃v,K 608 [.s x.t,.s y.t] [.s v]∧K 607 [.s x.t,.s y.t] [.s v]:=by
 obtain⟨m,m1,mi,ms⟩:=AAJ (K:=K) hx h;obtain⟨j,j1,ji,js⟩:=AaN (K:=K) hx h;have lm:(m.elim [] BT.t).length≤25:=by
  cases m with
  |none=>simp
  |some z=>have:=m1 z rfl;have:=BT.tl z;simp only[Option.elim_some];omega
 have lj:(j.elim [] BT.t).length≤25:=by
  cases j with
  |none=>simp
  |some z=>have:=j1 z rfl;have:=BT.tl z;simp only[Option.elim_some];omega
 rw[Dp]at mi ms ji js;generalize m.elim [] BT.t=sm at*;generalize j.elim [] BT.t=sj at*;generalize m.isSome=bm at*;generalize j.isSome=bj at*;have k1:=Hv (K:=K) (x:=x) (y:=y) (m:=8) hx (by omega) (by omega);rw[decide_eq_true (p:=(x.n:Int)≤8) (by omega),decide_eq_true h,Bool.and_self]at k1;have k2:=Hu (K:=K) (x:=x) (y:=y) hx (by omega);rw[decide_eq_true h]at k2;have bc:=V5 (X:=BP x) (Y:=BP y) (i:=(BP x).length) (by have:=LK (x:=x);omega) (by have:=LK (x:=y);omega);have ci:=cd_i (K:=K) hx h;have cs:=cd_s (K:=K) hx h;generalize GA (BP x) (BP y) (BP x).length=c at*;have f1:=BB (n:=(c:Int)) (by omega);have g1:glue [32] [[112,97,105,114,32,109,101,101,116],sm,[106,111,105,110],sj,[99,111,109,109,111,110],Ai c]=[112,97,105,114,32,109,101,101,116,32]++sm++[32,106,111,105,110,32]++sj++[32,99,111,109,109,111,110,32]++Ai c:=by simp[glue,BN,AO]
 have ln1:=Gb (K:=K) (ws:=[[112,97,105,114,32,109,101,101,116],sm,[106,111,105,110],sj,[99,111,109,109,111,110],Ai c]) (by simp) (by simp;omega);rw[g1]at ln1;obtain⟨s1,hs1⟩:∃s,s=[112,97,105,114,32,109,101,101,116,32]++sm++[32,106,111,105,110,32]++sj++[32,99,111,109,109,111,110,32]++Ai c:=⟨_,rfl⟩;have ls1:s1.length≤1000:=by rw[hs1];simp;omega
 rw[←hs1]at ln1;by_cases h5:x.n≤5
 ·obtain⟨d,d1,d2,di,ds⟩:=AXO (K:=K) x.t y.t;obtain⟨v,v1,v2,vi,vs⟩:=AbR (K:=K) h5 h;have f2:=BB (n:=d) (by omega);have f3:=BB (n:=v) (by omega);have ln2:=Gb (K:=K) (ws:=[s1,[100,105,115,116,97,110,99,101],Ai d,[98,101,116,119,101,101,110],Ai v]) (by simp) (by simp;omega);refine⟨s1++[32,100,105,115,116,97,110,99,101,32]++Ai d++[32,98,101,116,119,101,101,110,32]++Ai v,?_,?_⟩;rotate_left 1
  ·refine qb LW rfl ?_;simp only[LW];simp(disch:=first|omega|simp only[vl];omega) only[AA];refine AD (k2) rfl ?_;simp(disch:=first|omega|simp only[vl];omega) only[AA];refine AD (ms) rfl ?_;simp(disch:=first|omega|simp only[vl];omega) only[AA];refine AD (js) rfl ?_;simp(disch:=first|omega|simp only[vl];omega) only[AA];refine AD (cs) rfl ?_;simp(disch:=first|omega|simp only[vl];omega) only[AA];refine AD (Bp (K:=K) (n:=(c:Int)) (by omega)) rfl ?_;simp(disch:=first|omega|simp only[vl];omega) only[AA];refine AD (Dz (K:=K) (x:=x) (by omega)) rfl ?_;simp(disch:=first|omega|simp only[vl];omega) only[AA];refine AD (ds) rfl ?_;simp(disch:=first|omega|simp only[vl];omega) only[AA];refine AD (Bp (K:=K) (n:=d) (by omega)) rfl ?_;simp(disch:=first|omega|simp only[vl];omega) only[AA];refine AD (vs) rfl ?_;simp(disch:=first|omega|simp only[vl];omega) only[AA];refine AD (Bp (K:=K) (n:=v) (by omega)) rfl ?_;simp(disch:=first|omega|simp only[vl];omega) only[AA];simp[hs1]
  ·refine qb Ky rfl ?_;simp only[Ky];simp(disch:=first|omega|simp only[vl];omega) only[AA];refine AD (k1) rfl ?_;simp(disch:=first|omega|simp only[vl];omega) only[AA];refine AD (mi) rfl ?_;simp(disch:=first|omega|simp only[vl];omega) only[AA];refine AD (ji) rfl ?_;simp(disch:=first|omega|simp only[vl];omega) only[AA];refine AD (ci) rfl ?_;simp(disch:=first|omega|simp only[vl];omega) only[AA];refine AD (CZ (K:=K) (n:=(c:Int)) (by omega)) rfl ?_;simp(disch:=first|omega|simp only[vl];omega) only[AA,APD];refine AD (ln1) rfl ?_;simp(disch:=first|omega|simp only[vl];omega) only[AA];refine AD (Fk (K:=K) (x:=x) (by omega)) rfl ?_;simp(disch:=first|omega|simp only[vl];omega) only[AA];refine AD (di) rfl ?_;simp(disch:=first|omega|simp only[vl];omega) only[AA];refine AD (CZ (K:=K) (n:=d) (by omega)) rfl ?_;simp(disch:=first|omega|simp only[vl];omega) only[AA];refine AD (vi) rfl ?_;simp(disch:=first|omega|simp only[vl];omega) only[AA];refine AD (CZ (K:=K) (n:=v) (by omega)) rfl ?_;simp(disch:=first|omega|simp only[vl];omega) only[AA,Aa4];refine AD (ln2) rfl ?_;simp(disch:=first|omega|simp only[vl];omega) only[AA];simp[glue,BN,AO]
 ·refine⟨s1,?_,?_⟩
  ·refine qb Ky rfl ?_;simp only[Ky];simp(disch:=first|omega|simp only[vl];omega) only[AA];refine AD (k1) rfl ?_;simp(disch:=first|omega|simp only[vl];omega) only[AA];refine AD (mi) rfl ?_;simp(disch:=first|omega|simp only[vl];omega) only[AA];refine AD (ji) rfl ?_;simp(disch:=first|omega|simp only[vl];omega) only[AA];refine AD (ci) rfl ?_;simp(disch:=first|omega|simp only[vl];omega) only[AA];refine AD (CZ (K:=K) (n:=(c:Int)) (by omega)) rfl ?_;simp(disch:=first|omega|simp only[vl];omega) only[AA,APD];refine AD (ln1) rfl ?_;simp(disch:=first|omega|simp only[vl];omega) only[AA];refine AD (Fk (K:=K) (x:=x) (by omega)) rfl ?_;simp(disch:=first|omega|simp only[vl];omega) only[AA]
  ·refine qb LW rfl ?_;simp only[LW];simp(disch:=first|omega|simp only[vl];omega) only[AA];refine AD (k2) rfl ?_;simp(disch:=first|omega|simp only[vl];omega) only[AA];refine AD (ms) rfl ?_;simp(disch:=first|omega|simp only[vl];omega) only[AA];refine AD (js) rfl ?_;simp(disch:=first|omega|simp only[vl];omega) only[AA];refine AD (cs) rfl ?_;simp(disch:=first|omega|simp only[vl];omega) only[AA];refine AD (Bp (K:=K) (n:=(c:Int)) (by omega)) rfl ?_;simp(disch:=first|omega|simp only[vl];omega) only[AA];refine AD (Dz (K:=K) (x:=x) (by omega)) rfl ?_;simp(disch:=first|omega|simp only[vl];omega) only[AA];simp[hs1]
theorem ASZ[HA K][El K](a b:List Nat):∃v,K 608 [.s a,.s b] [.s v]∧K 607 [.s a,.s b] [.s v]:=by
 have no:∀r:Bool,r=false→K 367 [.s a,.s b,.n 8] [.b r]→K 365 [.s a,.s b] [.b r]→∃v,K 608 [.s a,.s b] [.s v]∧K 607 [.s a,.s b] [.s v]:=by
  rintro r rfl k1 k2;refine⟨[],?_,?_⟩
  ·refine qb Ky rfl ?_;simp only[Ky];simp(disch:=first|omega|simp only[vl];omega) only[AA];refine AD (k1) rfl ?_;simp(disch:=first|omega|simp only[vl];omega) only[AA]
  ·refine qb LW rfl ?_;simp only[LW];simp(disch:=first|omega|simp only[vl];omega) only[AA];refine AD (k2) rfl ?_;simp(disch:=first|omega|simp only[vl];omega) only[AA]
 cases ha:Ct a with
 |false=>exact no false rfl (ARB (K:=K) (m:=8) ha) (AFW (K:=K) ha)
 |true=>
  obtain⟨x,rfl,hx⟩:=JM ha
  cases hb:Ct b with
  |false=>exact no false rfl (AT0 (K:=K) hx hb) (ACA (K:=K) hx hb)
  |true=>
   obtain⟨y,rfl,hy⟩:=JM hb
   by_cases h:x.n=y.n
   ·exact Ac4 hx h
   ·have k1:=Hv (K:=K) (x:=x) (y:=y) (m:=8) hx hy (by omega)
    have k2:=Hu (K:=K) hx hy
    rw[decide_eq_false h,Bool.and_false]at k1
    rw[decide_eq_false h]at k2
    exact no false rfl k1 k2
end Go.Cat
