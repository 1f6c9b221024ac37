/-
 Trees of weights; meets and joins, on both sides.
-/
import Derived.Test.YthoilpmggmenbaaGreatPfOrdM
import Derived.Test.YthoilpmggmenbaaGreatPfWayM
import Derived.Test.YthoilpmggmenbaaGreatPfMatP
import Derived.Test.YthoilpmggmenbaaGreatQd0LawReports
import Derived.Test.YthoilpmggmenbaaGreatQd1LawReports
import Derived.Test.YthoilpmggmenbaaGreatQd2LawReports
import Derived.Test.YthoilpmggmenbaaGreatQd3LawReports
set_option linter.unusedSimpArgs false
set_option linter.unusedVariables false
namespace Go.Cat
variable{K:Nat→List D→List D→Prop}
theorem AWP{l r:BT}{j:Nat}(h:j<l.n):AE (BT.nd l r).w (j:Nat)=AE l.w (j:Nat):=by rw[←Bm]at h;simp only[BT.w,CI];exact MV h
theorem AST{l r:BT}{j:Nat}:AE (BT.nd l r).w ((l.n+1+j:Nat):Int)=AE r.w (j:Nat):=by
 have e:(l.w++[(r.n:Int)]).length=l.n+1:=by simp[Bm]
 simp only[BT.w,AE,BH,Al];rw[F5 (by omega),e,Nat.add_sub_cancel_left]
theorem AZ4{l r:BT}:sub (BT.nd l r).w 0 (l.n:Nat)=l.w:=by have e:=Bm (x:=l);simp only[BT.w,sub,BH,Int.toNat_zero,List.drop_zero,CI];rw[←e,List.take_left]
theorem AW1{l r:BT}{k:Nat}(hk:k=(BT.nd l r).w.length):sub (BT.nd l r).w ((l.n:Int)+1) (k:Nat)=r.w:=by
 have e:(l.w++[(r.n:Int)]).length=l.n+1:=by simp[Bm]
 have e2:((l.n:Int)+1).toNat=l.n+1:=by omega
 subst hk;simp only[sub,BH,List.take_length,e2];rw[←e];simp only[BT.w];rw[List.drop_left]
theorem AYH{m:List Int}{i j:Nat}(h:j<i)(hi:i≤m.length):AE (sub m 0 (i:Nat)) (j:Nat)=AE m (j:Nat):=by simp[sub,AE,List.getElem?_take,h]
theorem AcW{m:List Int}{i k j:Nat}(hk:k=m.length):AE (sub m ((i:Int)+1) (k:Nat)) (j:Nat)=AE m ((i+1+j:Nat):Int):=by
 subst hk;have e2:((i:Int)+1).toNat=i+1:=by omega
 simp only[sub,AE,BH,List.take_length,e2,Al,List.getElem?_drop]
theorem S0[HA K]:∀(d:Nat)(m:List Int),m.length=d→d≤8→(∀j:Nat,j<d→0≤AE m (j:Nat)∧AE m (j:Nat)≤8)→∃x:BT,x.n≤d∧K 621 [LI m] [.s x.t]∧∀y:BT,m=y.w→x=y
 |d,m,hl,h8,hr=>by
  by_cases hex:∃i:Nat,i<d∧(d:Int)-1≤i+AE m (i:Nat)
  ·obtain⟨i0,h0,h0'⟩:=hex
   obtain⟨i,hi1,⟨hi2,hi3⟩,hi4⟩:=Lw (P:=fun i:Nat=>i<d∧(d:Int)-1≤i+AE m (i:Nat)) ⟨h0,h0'⟩
   have la:(sub m 0 (i:Nat)).length=i:=by simp[sub];omega
   have lb:(sub m ((i:Int)+1) (m.length:Nat)).length=d-i-1:=by simp[sub];omega
   obtain⟨x1,n1,k1,u1⟩:=S0 i (sub m 0 (i:Nat)) la (by omega) (fun j hj=>by rw[AYH hj (by omega)];exact hr j (by omega))
   obtain⟨x2,n2,k2,u2⟩:=S0 (d-i-1) (sub m ((i:Int)+1) (m.length:Nat)) lb (by omega) (fun j hj=>by rw[AcW rfl];exact hr _ (by omega))
   have t1:=BT.tl x1
   have t2:=BT.tl x2
   refine⟨.nd x1 x2,by simp only[BT.n];omega,?_,fun y hy=>?_⟩
   ·have hir:=hr i hi2
    refine qb Qz rfl ?_;simp only[Qz]
    simp(disch:=first|omega|simp only[vl];omega) only[AA]
    refine AL (fun _=>True) (fun i=>[LI m,.u,.n i,.u,.u]) i trivial rfl (fun j hj _=>?_) (fun _=>?_)
    ·have hjr:=hr j (by omega)
     have hn:¬(d:Int)-1≤j+AE m (j:Nat):=fun q=>hi4 j hj ⟨by omega,q⟩
     simp(disch:=first|omega|simp only[vl];omega) only[AA]
    ·simp(disch:=first|omega|simp only[vl];omega) only[AA]
     refine AD (k1) rfl ?_
     simp(disch:=first|omega|simp only[vl];omega) only[AA]
     refine AD (k2) rfl ?_
     simp(disch:=first|omega|simp only[vl];omega) only[AA]
     simp[BT.t]
   ·have hd:y.n=d:=by rw[←hl,hy,Bm]
    cases y with
    |lf=>simp only[BT.n]at hd;omega
    |nd a b=>
     have hd':=hd
     simp only[BT.n]at hd'
     have hia:i=a.n:=by
      have h1:=L6 (l:=a) (r:=b)
      rw[←hy]at h1
      rcases Nat.lt_trichotomy i a.n with q|q|q
      ·have:=QR (l:=a) (r:=b) q
       rw[←hy]at this
       omega
      ·exact q
      ·exact absurd ⟨by omega,by omega⟩ (hi4 a.n q)
     subst hia
     rw[u1 a (by rw[hy];exact AZ4),u2 b (by rw[hy];exact AW1 rfl)]
  ·refine⟨.lf,by simp only[BT.n];omega,?_,fun y hy=>?_⟩
   ·refine qb Qz rfl ?_;simp only[Qz]
    simp(disch:=first|omega|simp only[vl];omega) only[AA]
    refine AL (fun _=>True) (fun i=>[LI m,.u,.n i,.u,.u]) d trivial rfl (fun j hj _=>?_) (fun _=>?_)
    ·have hjr:=hr j (by omega)
     have hn:¬(d:Int)-1≤j+AE m (j:Nat):=fun q=>hex ⟨j,by omega,q⟩
     simp(disch:=first|omega|simp only[vl];omega) only[AA]
    ·simp(disch:=first|omega|simp only[vl];omega) only[AA]
     rfl
   ·cases y with
    |lf=>rfl
    |nd a b=>
     have hd:(BT.nd a b).n=d:=by rw[←hl,hy,Bm]
     have hd':=hd
     simp only[BT.n]at hd'
     have h1:=L6 (l:=a) (r:=b)
     rw[←hy]at h1
     exact absurd ⟨a.n,by omega,by omega⟩ hex
termination_by d=>d
theorem U0[HA K]:∀(d:Nat)(l:List Int)(fr:Nat),fr+d≤l.length→l.length≤8→(∀j:Nat,j<l.length→0≤AE l (j:Nat)∧AE l (j:Nat)≤8)→∃x:BT,x.n≤d∧K 622 [LI l,.n fr,.n ((fr+d:Nat):Int)] [x.d]∧∀y:BT,y.n=d→(∀j:Nat,j<d→AE l ((fr+j:Nat):Int)=AE y.w (j:Nat))→x=y
 |d,l,fr,hl,h8,hr=>by
  by_cases hex:∃i:Nat,i<d∧AE l ((fr+i:Nat):Int)=(d:Int)-1-i
  ·obtain⟨i0,h0,h0'⟩:=hex
   obtain⟨i,hi1,⟨hi2,hi3⟩,hi4⟩:=Lw (P:=fun i:Nat=>i<d∧AE l ((fr+i:Nat):Int)=(d:Int)-1-i) ⟨h0,h0'⟩
   obtain⟨x1,n1,k1,u1⟩:=U0 i l fr (by omega) h8 hr
   obtain⟨x2,n2,k2,u2⟩:=U0 (d-i-1) l (fr+i+1) (by omega) h8 hr
   rw[show fr+i+1+(d-i-1)=fr+d by omega]at k2
   refine⟨.nd x1 x2,by simp only[BT.n];omega,?_,fun y hy hy2=>?_⟩
   ·refine qb QB rfl ?_;simp only[QB]
    simp(disch:=first|omega|simp only[vl];omega) only[AA]
    refine AL (fun _=>True) (fun i=>[LI l,.n fr,.n ((fr+d:Nat):Int),.u,.n ((fr+i:Nat):Int),.u,.u]) i trivial rfl (fun j hj _=>?_) (fun _=>?_)
    ·have hjr:=hr (fr+j) (by omega)
     have hn:¬AE l ((fr+j:Nat):Int)=((fr+d:Nat):Int)-1-((fr+j:Nat):Int):=fun q=>hi4 j hj ⟨by omega,by omega⟩
     simp(disch:=first|omega|simp only[vl];omega) only[AA]
     rfl
    ·have hn:AE l ((fr+i:Nat):Int)=((fr+d:Nat):Int)-1-((fr+i:Nat):Int):=by omega
     simp(disch:=first|omega|simp only[vl];omega) only[AA]
     refine AD (k1) rfl ?_
     simp(disch:=first|omega|simp only[vl];omega) only[AA]
     have e1:((fr+i:Nat):Int)+1=((fr+i+1:Nat):Int):=by omega
     rw[e1]
     refine AD (k2) rfl ?_
     simp(disch:=first|omega|simp only[vl];omega) only[AA,BT.Q4]
     rfl
   ·cases y with
    |lf=>simp only[BT.n]at hy;omega
    |nd a b=>
     have hd':=hy
     simp only[BT.n]at hd'
     have hia:i=a.n:=by
      have h1:=L6 (l:=a) (r:=b)
      rw[←hy2 a.n (by omega)]at h1
      rcases Nat.lt_trichotomy i a.n with q|q|q
      ·have:=QR (l:=a) (r:=b) q
       rw[←hy2 i (by omega)]at this
       omega
      ·exact q
      ·exact absurd ⟨by omega,by omega⟩ (hi4 a.n q)
     subst hia
     rw[u1 a rfl (fun j hj=>by rw[hy2 j (by omega),AWP hj]),u2 b (by omega) (fun j hj=>by rw[show fr+a.n+1+j=fr+(a.n+1+j) by omega,hy2 _ (by omega),AST])]
  ·refine⟨.lf,by simp only[BT.n];omega,?_,fun y hy hy2=>?_⟩
   ·refine qb QB rfl ?_;simp only[QB]
    simp(disch:=first|omega|simp only[vl];omega) only[AA]
    refine AL (fun _=>True) (fun i=>[LI l,.n fr,.n ((fr+d:Nat):Int),.u,.n ((fr+i:Nat):Int),.u,.u]) d trivial rfl (fun j hj _=>?_) (fun _=>?_)
    ·have hjr:=hr (fr+j) (by omega)
     have hn:¬AE l ((fr+j:Nat):Int)=((fr+d:Nat):Int)-1-((fr+j:Nat):Int):=fun q=>hex ⟨j,by omega,by omega⟩
     simp(disch:=first|omega|simp only[vl];omega) only[AA]
     rfl
    ·simp(disch:=first|omega|simp only[vl];omega) only[AA]
     rfl
   ·cases y with
    |lf=>rfl
    |nd a b=>
     have hd':=hy
     simp only[BT.n]at hd'
     have h1:=L6 (l:=a) (r:=b)
     rw[←hy2 a.n (by omega)]at h1
     exact absurd ⟨a.n,by omega,by omega⟩ hex
termination_by d=>d
theorem AZ7[HA K]{l:List Int}(hl:l.length≤8)(hr:∀j:Nat,j<l.length→0≤AE l (j:Nat)∧AE l (j:Nat)≤(l.length:Int)-1-j):∃r:Option BT,(∀x,r=some x→x.w=l)∧K 620 [LI l] (Dp r)∧K 619 [LI l] (Dp r):=by
 obtain⟨xi,ni,ki,ui⟩:=U0 (K:=K) l.length l 0 (by omega) hl (fun j hj=>by have:=hr j hj;omega);obtain⟨xs,ns,ks,us⟩:=S0 (K:=K) l.length l rfl hl (fun j hj=>by have:=hr j hj;omega);have wi:=Bm (x:=xi);have ws:=Bm (x:=xs);simp only[Nat.zero_add]at ki ui;refine⟨if xi.w=l then some xi else none,fun x hx=>?_,?_,?_⟩
 ·split at hx
  ·injection hx with hx;subst hx;assumption
  ·cases hx
 ·refine qb YC rfl ?_;simp only[YC];simp(disch:=first|omega|simp only[vl];omega) only[AA];have e0:((0:Nat):Int)=0:=rfl;rw[e0]at ki;refine AD (ki) rfl ?_;simp(disch:=first|omega|simp only[vl];omega) only[AA];refine AD (IQ (K:=K) (x:=xi) (by omega)) rfl ?_;simp(disch:=first|omega|simp only[vl];omega) only[AA];refine AD (KY (K:=K) (x:=xi) (by omega)) rfl ?_;simp(disch:=first|omega|simp only[vl];omega) only[AA];refine AD (AKZ (K:=K) (a:=xi.w) (b:=l) (by omega)) rfl ?_;by_cases h:xi.w=l
  ·rw[decide_eq_true h,if_pos h];simp(disch:=first|omega|simp only[vl];omega) only[AA];rfl
  ·rw[decide_eq_false h,if_neg h];simp(disch:=first|omega|simp only[vl];omega) only[AA];rfl
 ·refine qb AB0 rfl ?_;simp only[AB0];simp(disch:=first|omega|simp only[vl];omega) only[AA];refine AL (fun _=>True) (fun i=>[LI l,.u,.u,.n i,.u,.u,.u,.u,.u]) l.length trivial rfl (fun j hj _=>?_) (fun _=>?_)
  ·have hjr:=hr j hj;have hin:AV 0 ((l.length:Int)-1-j) (AE l (j:Nat))=true:=A8.2 (by omega);simp(disch:=first|omega|simp only[vl];omega) only[AA];refine AD (Bj (K:=K)) rfl ?_;rw[hin];simp(disch:=first|omega|simp only[vl];omega) only[AA]
  ·simp(disch:=first|omega|simp only[vl];omega) only[AA];refine AD (ks) rfl ?_;simp(disch:=first|omega|simp only[vl];omega) only[AA];refine AD (Lk (K:=K) (x:=xs) (by omega)) rfl ?_;simp(disch:=first|omega|simp only[vl];omega) only[AA];refine AD (AQU (K:=K) (a:=xs.w) (b:=l) (by omega)) rfl ?_;by_cases h:xi.w=l
   ·have e:=us xi h.symm;subst e;rw[decide_eq_true h,if_pos h];simp(disch:=first|omega|simp only[vl];omega) only[AA];rfl
   ·have h2:¬xs.w=l:=by
     intro q
     have hn:xs.n=l.length:=by rw[←Bm,q]
     have:=ui xs hn (fun j hj=>by rw[←q])
     rw[this]at h
     exact h q
    rw[decide_eq_false h2,if_neg h]
    simp(disch:=first|omega|simp only[vl];omega) only[AA]
    rfl
def HM(x y:BT)(k:Nat):List Int:=(List.range k).map fun i:Nat=>min (AE x.w (i:Nat)) (AE y.w (i:Nat))
theorem ND{x y:BT}{k:Nat}:(HM x y k).length=k:=by simp[HM]
theorem Ac1{x y:BT}{k:Nat}:HM x y (k+1)=HM x y k++[min (AE x.w (k:Nat)) (AE y.w (k:Nat))]:=by simp[HM,List.range_succ]
theorem AB8{x y:BT}{k i:Nat}(h:i<k):AE (HM x y k) (i:Nat)=min (AE x.w (i:Nat)) (AE y.w (i:Nat)):=by simp[HM,AE,h]
theorem AAJ[HA K]{x y:BT}(hx:x.n≤8)(h:x.n=y.n):∃r:Option BT,(∀z,r=some z→z.n=x.n)∧K 614 [.s x.t,.s y.t] (Dp r)∧K 609 [.s x.t,.s y.t] (Dp r):=by
 have lx:=Bm (x:=x);have ly:=Bm (x:=y);obtain⟨r,r1,ki,ks⟩:=AZ7 (K:=K) (l:=HM x y x.n) (by rw[ND];exact hx) (fun j hj=>by rw[ND]at hj⊢;rw[AB8 hj];have h1:=Fs (x:=x) (i:=j) hj;have h2:=Fs (x:=y) (i:=j) (by omega);omega);refine⟨r,fun z hz=>by rw[←Bm,r1 z hz,ND],?_,?_⟩
 ·have k1:=Hv (K:=K) (x:=x) (y:=y) (m:=8) hx (by omega) (by omega);rw[decide_eq_true (p:=(x.n:Int)≤8) (by omega),decide_eq_true h,Bool.and_self]at k1;rw[Dp]at ki⊢;refine qb Zc rfl ?_;simp only[Zc];simp(disch:=first|omega|simp only[vl];omega) only[AA];refine AD (k1) rfl ?_;simp(disch:=first|omega|simp only[vl];omega) only[AA];refine AD (KY (K:=K) (x:=x) hx) rfl ?_;simp(disch:=first|omega|simp only[vl];omega) only[AA];refine AD (KY (K:=K) (x:=y) (by omega)) rfl ?_;simp(disch:=first|omega|simp only[vl];omega) only[AA];refine Au (fun i (z:List Int)=>z.length=x.n∧∀j:Nat,j<x.n→AE z (j:Nat)=if j<i then min (AE x.w (j:Nat)) (AE y.w (j:Nat))else AE x.w (j:Nat)) (fun i z=>[.u,.u,.u,.u,LI z,LI y.w,.u,.u,.n x.w.length,.n i,.u]) x.w.length x.w ⟨lx,fun j hj=>by rw[if_neg (by omega)]⟩ rfl (fun i z hi hP=>?_) (fun z hP=>?_)
  ·obtain⟨p1,p2⟩:=hP;have e1:=p2 i (by omega);rw[if_neg (by omega)]at e1;simp(disch:=first|omega|simp only[vl];omega) only[AA,e1];refine⟨_,⟨by rw[Cv];exact p1,fun j hj=>?_⟩,rfl⟩;rw[GX (by omega),p2 j hj];by_cases q:i=j
   ·subst q;rw[if_pos rfl,if_pos (by omega)]
   ·rw[if_neg q];by_cases q2:j<i
    ·rw[if_pos q2,if_pos (by omega)]
    ·rw[if_neg q2,if_neg (by omega)]
  ·obtain⟨p1,p2⟩:=hP;have ez:z=HM x y x.n:=by refine AE3 (by rw[ND];exact p1) fun j hj=>?_;rw[p2 j (by omega),if_pos (by omega),AB8 (by omega)]
   rw[ez];simp(disch:=first|omega|simp only[vl];omega) only[AA];refine AD (ki) rfl ?_;simp(disch:=first|omega|simp only[vl];omega) only[AA]
 ·have k1:=Hu (K:=K) (x:=x) (y:=y) hx (by omega);rw[decide_eq_true h]at k1;rw[Dp]at ks⊢;refine qb AOL rfl ?_;simp only[AOL];simp(disch:=first|omega|simp only[vl];omega) only[AA];refine AD (k1) rfl ?_;simp(disch:=first|omega|simp only[vl];omega) only[AA];refine AD (Lk (K:=K) (x:=x) hx) rfl ?_;simp(disch:=first|omega|simp only[vl];omega) only[AA];refine AD (Lk (K:=K) (x:=y) (by omega)) rfl ?_;simp(disch:=first|omega|simp only[vl];omega) only[AA];refine AL (fun _=>True) (fun i=>[.u,.u,.u,.u,LI x.w,LI y.w,LI (HM x y i),.n i,.u,.u,.u,.u]) x.w.length trivial rfl (fun i hi _=>?_) (fun _=>?_)
  ·have lm:=ND (x:=x) (y:=y) (k:=i);simp(disch:=first|omega|simp only[vl];omega) only[AA];rw[Ac1]
  ·rw[lx];simp(disch:=first|omega|simp only[vl];omega) only[AA];refine AD (ks) rfl ?_;simp(disch:=first|omega|simp only[vl];omega) only[AA]
theorem AaN[HA K]{x y:BT}(hx:x.n≤8)(h:x.n=y.n):∃r:Option BT,(∀z,r=some z→z.n=x.n)∧K 615 [.s x.t,.s y.t] (Dp r)∧K 610 [.s x.t,.s y.t] (Dp r):=by
 have mx:=Gz (x:=x);have my:=Gz (x:=y);obtain⟨r,r1,ki,ks⟩:=AAJ (K:=K) (x:=x.Cq) (y:=y.Cq) (by omega) (by omega);have k1:=Hu (K:=K) (x:=x) (y:=y) hx (by omega);rw[decide_eq_true h]at k1
 cases r with
 |none=>
  refine⟨none,by simp,?_,?_⟩
  ·rw[Dp]at ki⊢
   simp only[Option.isSome_none,Option.elim_none]at ki⊢
   refine qb Pv rfl ?_;simp only[Pv]
   simp(disch:=first|omega|simp only[vl];omega) only[AA]
   refine AD (Kq (K:=K) (x:=x) hx) rfl ?_
   simp(disch:=first|omega|simp only[vl];omega) only[AA]
   refine AD (Kq (K:=K) (x:=y) (by omega)) rfl ?_
   simp(disch:=first|omega|simp only[vl];omega) only[AA]
   refine AD (ki) rfl ?_
   simp(disch:=first|omega|simp only[vl];omega) only[AA]
  ·rw[Dp]at ks⊢
   simp only[Option.isSome_none,Option.elim_none]at ks⊢
   refine qb QW rfl ?_;simp only[QW]
   simp(disch:=first|omega|simp only[vl];omega) only[AA]
   refine AD (k1) rfl ?_
   simp(disch:=first|omega|simp only[vl];omega) only[AA]
   refine AD (Hy (K:=K) (x:=x) hx) rfl ?_
   simp(disch:=first|omega|simp only[vl];omega) only[AA]
   refine AD (Hy (K:=K) (x:=y) (by omega)) rfl ?_
   simp(disch:=first|omega|simp only[vl];omega) only[AA]
   refine AD (ks) rfl ?_
   simp(disch:=first|omega|simp only[vl];omega) only[AA]
 |some z=>
  have hzn:=r1 z rfl
  have hzm:=Gz (x:=z)
  refine⟨some z.Cq,fun u hu=>by injection hu with hu;subst hu;omega,?_,?_⟩
  ·rw[Dp]at ki⊢
   simp only[Option.isSome_some,Option.elim_some]at ki⊢
   refine qb Pv rfl ?_;simp only[Pv]
   simp(disch:=first|omega|simp only[vl];omega) only[AA]
   refine AD (Kq (K:=K) (x:=x) hx) rfl ?_
   simp(disch:=first|omega|simp only[vl];omega) only[AA]
   refine AD (Kq (K:=K) (x:=y) (by omega)) rfl ?_
   simp(disch:=first|omega|simp only[vl];omega) only[AA]
   refine AD (ki) rfl ?_
   simp(disch:=first|omega|simp only[vl];omega) only[AA]
   refine AD (Kq (K:=K) (x:=z) (by omega)) rfl ?_
   simp(disch:=first|omega|simp only[vl];omega) only[AA]
  ·rw[Dp]at ks⊢
   simp only[Option.isSome_some,Option.elim_some]at ks⊢
   refine qb QW rfl ?_;simp only[QW]
   simp(disch:=first|omega|simp only[vl];omega) only[AA]
   refine AD (k1) rfl ?_
   simp(disch:=first|omega|simp only[vl];omega) only[AA]
   refine AD (Hy (K:=K) (x:=x) hx) rfl ?_
   simp(disch:=first|omega|simp only[vl];omega) only[AA]
   refine AD (Hy (K:=K) (x:=y) (by omega)) rfl ?_
   simp(disch:=first|omega|simp only[vl];omega) only[AA]
   refine AD (ks) rfl ?_
   simp(disch:=first|omega|simp only[vl];omega) only[AA]
   refine AD (Hy (K:=K) (x:=z) (by omega)) rfl ?_
   simp(disch:=first|omega|simp only[vl];omega) only[AA]
end Go.Cat
