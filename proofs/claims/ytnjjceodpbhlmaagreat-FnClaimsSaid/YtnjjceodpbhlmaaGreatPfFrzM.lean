/-
 Friezes: continuants, and what cutting an ear does.
-/
import Derived.Test.YtnjjceodpbhlmaaGreatCatFour
set_option linter.unusedSimpArgs false
set_option linter.unusedVariables false
namespace Go.Cat
def kq (f:Nat→Int):Nat→Int
 | 0=>0
 | 1=>1
 | m+2=>f m*kq f (m+1)-kq f m
theorem Si {f g:Nat→Int}:∀ m,(∀ t,t+2≤m→f t=g t)→kq f m=kq g m
 | 0,_=>rfl
 | 1,_=>rfl
 | m+2,h=>by
  simp only [kq]
  rw [Si (m+1) fun t ht=>h t (by omega),Si m fun t ht=>h t (by omega),h m (by omega)]
def wv (A:Nat→Int) (a b:Int):Nat→Int
 | 0=>a
 | 1=>b
 | v+2=>A (v+1)*wv A a b (v+1)-wv A a b v
def dt (x y:Nat→Int) (u t:Nat):Int:=x u*y t-y u*x t
def Eo (A x:Nat→Int):Prop:=∀ v,x (v+2)=A (v+1)*x (v+1)-x v
theorem C3 {A:Nat→Int} {a b:Int}:Eo A (wv A a b):=fun _=>rfl
theorem La {x y:Nat→Int} {u:Nat}:dt x y u u=0:=by unfold dt; grind
theorem HW {A x y:Nat→Int} (hx:Eo A x) (hy:Eo A y) {u t:Nat}:dt x y u (t+2)=A (t+1)*dt x y u (t+1)-dt x y u t:=by
 simp only [dt,hx t,hy t]; grind
theorem ARA {A x y:Nat→Int} (hx:Eo A x) (hy:Eo A y) {u t:Nat}:dt x y (u+2) t=A (u+1)*dt x y (u+1) t-dt x y u t:=by
 simp only [dt,hx u,hy u]; grind
theorem QP {A x y:Nat→Int} (hx:Eo A x) (hy:Eo A y) (h0:dt x y 0 1=1):∀ u,dt x y u (u+1)=1
 | 0=>h0
 | u+1=>by
  have:=QP hx hy h0 u
  simp only [dt,hx u,hy u] at this ⊢; grind
theorem QK {A x y:Nat→Int} (hx:Eo A x) (hy:Eo A y) (h0:∀ u,dt x y u (u+1)=1):∀ m u,dt x y u (u+m)=kq (fun t=>A (u+1+t)) m
 | 0,_=>La
 | 1,u=>h0 u
 | m+2,u=>by
  rw [show u+(m+2)=u+m+2 from rfl,HW hx hy,show u+m+1=u+(m+1) from rfl,QK hx hy h0 (m+1) u,QK hx hy h0 m u]
  simp only [kq]
  rw [show u+(m+1)=u+1+m by omega]
abbrev dq (A:Nat→Int) (u t:Nat):Int:=dt (wv A 1 0) (wv A 0 1) u t
theorem Pq {A:Nat→Int} (u:Nat):dq A u (u+1)=1:=QP C3 C3 (by simp [dt,wv]) u
theorem RA {A:Nat→Int} (m u:Nat):dq A u (u+m)=kq (fun t=>A (u+1+t)) m:=QK C3 C3 Pq m u
def pz (n:Nat):Prop:=n=4∨n=5∨n=6∨n=7∨n=8∨n=9∨n=10
def sg (n j:Nat):Nat→Nat
 | 0=>if j=0 then 1 else 0
 | v+1=>if (sg n j v+1) % n=j then sg n j v+2 else sg n j v+1
section
variable {n j:Nat} (hn:pz n) (hj:j<n)
include hn hj
theorem Pw:∀ v,sg n j v % n≠j
 | 0=>by
  unfold sg
  rcases hn with rfl | rfl | rfl | rfl | rfl | rfl | rfl <;> split <;> omega
 | v+1=>by
  have:=Pw v
  unfold sg
  generalize sg n j v=s at this ⊢
  rcases hn with rfl | rfl | rfl | rfl | rfl | rfl | rfl <;> split <;> omega
theorem Uo (s:Nat) (h:s % n≠j):∃ p,1≤p∧p<n∧(s+p) % n=j:=by
 refine ⟨(j+n-s % n) % n,?_⟩
 rcases hn with rfl | rfl | rfl | rfl | rfl | rfl | rfl <;> omega
theorem ANF {s a b:Nat} (h:(s+a) % n=j) (h2:(s+b) % n=j) (h3:a<b+n) (h4:b<a+n):a=b:=by
 rcases hn with rfl | rfl | rfl | rfl | rfl | rfl | rfl <;> omega
theorem OS {v p:Nat} (h1:1≤p) (h2:p<n) (h3:(sg n j v+p) % n=j):∀ m,m<n→sg n j (v+m)=sg n j v+m+(if p≤m then 1 else 0)
 | 0,_=>by simp; omega
 | m+1,hm=>by
  have ih:=OS h1 h2 h3 m (by omega)
  have e:sg n j (v+(m+1))=if (sg n j (v+m)+1) % n=j then sg n j (v+m)+2 else sg n j (v+m)+1:=rfl
  rw [e,ih]
  have uni:=fun a=>ANF hn hj (s:=sg n j v) (a:=a) (b:=p)
  generalize sg n j v=s at*
  by_cases q:p≤m
  ·simp only [if_pos q,if_pos (show p≤m+1 by omega)]
   rw [if_neg (fun e=>?_)]
   ·omega
   ·have:=uni (m+2) (by rw [← e]; congr 1) h3 (by omega) (by omega)
    omega
  ·simp only [if_neg q]
   by_cases q2:p=m+1
   ·have:(s+m+0+1) % n=j:=by rw [← h3,q2]; congr 1
    rw [if_pos this,if_pos (by omega)]
    omega
   ·rw [if_neg (fun e=>?_),if_neg (by omega)]
    ·omega
    ·have:=uni (m+1) (by rw [← e]; congr 1) h3 (by omega) (by omega)
     omega
end
structure FC (n j:Nat) (A A':Nat→Int):Prop where
 z:pz n
 lt:j<n
 one:∀ k,k % n=j→A k=1
 a:∀ v,A' v=A (sg n j v)-(if (sg n j v+1) % n=j then 1 else 0)-(if (sg n j v+n-1) % n=j then 1 else 0)
theorem FC.flw {n j:Nat} {A A' x:Nat→Int} (h:FC n j A A') (hx:Eo A x):Eo A' (fun v=>x (sg n j v)):=by
 intro v
 show x (sg n j (v+2))=A' (v+1)*x (sg n j (v+1))-x (sg n j v)
 rw [h.a (v+1)]
 have hs:=Pw h.z h.lt v
 have e2:sg n j (v+2)=if (sg n j (v+1)+1) % n=j then sg n j (v+1)+2 else sg n j (v+1)+1:=rfl
 have e1:sg n j (v+1)=if (sg n j v+1) % n=j then sg n j v+2 else sg n j v+1:=rfl
 rw [e2,e1]
 generalize sg n j v=s at hs
 have hn:=h.z
 have hj:=h.lt
 by_cases c1:(s+1) % n=j
 ·rw [if_pos c1,if_neg (show ¬ (s+2+1) % n=j by rcases hn with rfl | rfl | rfl | rfl | rfl | rfl | rfl <;> omega),if_neg (show ¬ (s+2+1) % n=j by rcases hn with rfl | rfl | rfl | rfl | rfl | rfl | rfl <;> omega),
   if_pos (show (s+2+n-1) % n=j by rcases hn with rfl | rfl | rfl | rfl | rfl | rfl | rfl <;> omega)]
  have k1:=hx s
  have k2:=hx (s+1)
  rw [h.one _ c1] at k1
  rw [show s+2+1=s+1+2 from rfl,k2]
  grind
 ·rw [if_neg c1]
  rw [if_neg (show ¬ (s+1+n-1) % n=j by rcases hn with rfl | rfl | rfl | rfl | rfl | rfl | rfl <;> omega)]
  by_cases c2:(s+1+1) % n=j
  ·rw [if_pos c2,if_pos c2]
   have k1:=hx s
   have k2:=hx (s+1)
   rw [show s+1+1=s+2 from rfl] at c2 k2
   rw [h.one _ c2] at k2
   rw [show s+1+2=s+1+2 from rfl,k2,k1]
   grind
  ·rw [if_neg c2,if_neg c2]
   have k1:=hx s
   rw [show s+1+1=s+2 from rfl,k1]
   grind
theorem FC.one1 {n j:Nat} {A A' x y:Nat→Int} (h:FC n j A A') (hx:Eo A x) (hy:Eo A y) (h1:∀ u,dt x y u (u+1)=1) (v:Nat):dt (fun v=>x (sg n j v)) (fun v=>y (sg n j v)) v (v+1)=1:=by
 show dt x y (sg n j v) (sg n j (v+1))=1
 have e1:sg n j (v+1)=if (sg n j v+1) % n=j then sg n j v+2 else sg n j v+1:=rfl
 rw [e1]
 by_cases c:(sg n j v+1) % n=j
 ·rw [if_pos c,HW hx hy,h.one _ c,h1,La]; omega
 ·rw [if_neg c,h1]
theorem FC.dq {n j:Nat} {A A':Nat→Int} (h:FC n j A A') (v m:Nat):dq A (sg n j v) (sg n j (v+m))=dq A' v (v+m):=by
 rw [RA,← QK (h.flw C3) (h.flw C3) (h.one1 C3 C3 Pq) m v]
 rfl
def Gc (n:Nat) (M:Int) (A:Nat→Int):Prop:=∀ u,(∀ m,1≤m→m<n→1≤Cat.dq A u (u+m)∧Cat.dq A u (u+m)≤M)∧Cat.dq A u (u+(n-1))=1∧Cat.dq A u (u+n)=0
theorem FC.cut {n j:Nat} {A A':Nat→Int} {M:Int} (h:FC n j A A') (hf:Gc n M A):Gc (n-1) M A':=by
 intro v
 have hn4:4≤n:=by rcases h.z with rfl | rfl | rfl | rfl | rfl | rfl | rfl <;> omega
 obtain ⟨f1,f2,f3⟩:=hf (sg n j v)
 obtain ⟨p,p1,p2,p3⟩:=Uo h.z h.lt _ (Pw h.z h.lt v)
 have sa:=OS h.z h.lt p1 p2 p3
 refine ⟨fun m m1 m2=>?_,?_,?_⟩
 ·rw [← h.dq,sa m (by omega)]
  split
  ·exact f1 (m+1) (by omega) (by omega)
  ·exact f1 m m1 (by omega)
 ·rw [← h.dq,sa (n-1-1) (by omega)]
  split
  ·rw [show sg n j v+(n-1-1)+1=sg n j v+(n-1) by omega]; exact f2
  ·have hp:p=n-1:=by omega
   subst hp
   have k:=HW (A:=A) (x:=wv A 1 0) (y:=wv A 0 1) C3 C3 (u:=sg n j v) (t:=sg n j v+(n-1-1))
   rw [show sg n j v+(n-1-1)+2=sg n j v+n by omega,show sg n j v+(n-1-1)+1=sg n j v+(n-1) by omega,h.one _ p3] at k
   have f2':=f2; have f3':=f3
   show Cat.dq A (sg n j v) (sg n j v+(n-1-1))=1
   simp only [Cat.dq] at*
   omega
 ·rw [← h.dq,sa (n-1) (by omega),if_pos (by omega),show sg n j v+(n-1)+1=sg n j v+n by omega]; exact f3
theorem Ut (n j v:Nat):sg n j (v+1)=if (sg n j v+1) % n=j then sg n j v+2 else sg n j v+1:=rfl
theorem AER {n j:Nat}:∀ d,(∃ v,sg n j v=sg n j 0+d)∨((sg n j 0+d) % n=j∧∃ v,sg n j v+1=sg n j 0+d∧sg n j (v+1)=sg n j 0+d+1)
 | 0=>.inl ⟨0,rfl⟩
 | d+1=>by
  have st:=Ut n j
  rcases AER (n:=n) (j:=j) d with ⟨v,hv⟩ | ⟨h1,v,hv,hv2⟩
  ·have e:=st v
   rw [hv] at e
   by_cases c:(sg n j 0+d+1) % n=j
   ·rw [if_pos c] at e
    exact .inr ⟨c,v,by omega,by rw [e]; omega⟩
   ·rw [if_neg c] at e
    exact .inl ⟨v+1,by rw [e]; omega⟩
  ·exact .inl ⟨v+1,by rw [hv2]; omega⟩
theorem FC.AKV {n j:Nat} {A A':Nat→Int} {M:Int} (h:FC n j A A') (hM:1≤M) (hf:Gc (n-1) M A') (u:Nat) (hu:sg n j 0≤u):
  (∀ m,1≤m→m<n→1≤Cat.dq A u (u+m)∧Cat.dq A u (u+m)≤2*M)∧Cat.dq A u (u+(n-1))=1∧Cat.dq A u (u+n)=0:=by
 have hn4:4≤n:=by rcases h.z with rfl | rfl | rfl | rfl | rfl | rfl | rfl <;> omega
 have hself:∀ A u,Cat.dq A u u=0:=fun _ _=>La
 have hst:∀ A u t,Cat.dq A u (t+2)=A (t+1)*Cat.dq A u (t+1)-Cat.dq A u t:=fun _ _ _=>HW C3 C3
 have hst1:∀ A u t,Cat.dq A (u+2) t=A (u+1)*Cat.dq A (u+1) t-Cat.dq A u t:=fun _ _ _=>ARA C3 C3
 have hd:=h.dq
 rcases AER (n:=n) (j:=j) (u-sg n j 0) with ⟨v,hv⟩ | ⟨c,v,hv,hv2⟩
 ·rw [show sg n j 0+(u-sg n j 0)=u by omega] at hv
  subst hv
  obtain ⟨p,p1,p2,p3⟩:=Uo h.z h.lt _ (Pw h.z h.lt v)
  have sa:=OS h.z h.lt p1 p2 p3
  obtain ⟨g1,g2,g3⟩:=hf v
  have l1:∀ m,m<p→Cat.dq A (sg n j v) (sg n j v+m)=Cat.dq A' v (v+m):=fun m hm=>by
   rw [← hd,sa m (by omega),if_neg (by omega)]; rfl
  have l2:∀ m,p≤m→m<n→Cat.dq A (sg n j v) (sg n j v+(m+1))=Cat.dq A' v (v+m):=fun m hm hm2=>by
   rw [← hd,sa m hm2,if_pos hm]; rfl
  have l3:Cat.dq A (sg n j v) (sg n j v+p)=Cat.dq A' v (v+(p-1))+Cat.dq A' v (v+p):=by
   have k:=hst A (sg n j v) (sg n j v+(p-1))
   rw [show sg n j v+(p-1)+2=sg n j v+(p+1) by omega,show sg n j v+(p-1)+1=sg n j v+p by omega,h.one _ p3,l1 (p-1) (by omega),l2 p (by omega) (by omega)] at k
   omega
  generalize sg n j v=s at*
  refine ⟨fun m m1 m2=>?_,?_,?_⟩
  ·rcases Nat.lt_trichotomy m p with q | q | q
   ·rw [l1 m q]
    have:=g1 m m1 (by omega)
    omega
   ·subst q
    rw [l3]
    have k1:m-1=0∧Cat.dq A' v (v+(m-1))=0∨1≤Cat.dq A' v (v+(m-1))∧Cat.dq A' v (v+(m-1))≤M:=by
     by_cases q:m-1=0
     ·exact .inl ⟨q,by rw [q]; exact hself _ _⟩
     ·exact .inr (g1 (m-1) (by omega) (by omega))
    have k2:m=n-1∧Cat.dq A' v (v+m)=0∨1≤Cat.dq A' v (v+m)∧Cat.dq A' v (v+m)≤M:=by
     by_cases q:m=n-1
     ·exact .inl ⟨q,by rw [q]; exact g3⟩
     ·exact .inr (g1 m m1 (by omega))
    omega
   ·have:=l2 (m-1) (by omega) (by omega)
    rw [show m-1+1=m by omega] at this
    rw [this]
    have:=g1 (m-1) (by omega) (by omega)
    omega
  ·by_cases q:p=n-1
   ·rw [← q,l3,q,g3,show n-1-1=n-1-1 from rfl,g2]; rfl
   ·have:=l2 (n-2) (by omega) (by omega)
    rw [show n-2+1=n-1 by omega] at this
    rw [this,show n-2=n-1-1 by omega,g2]
  ·have:=l2 (n-1) (by omega) (by omega)
   rw [show n-1+1=n by omega] at this
   rw [this,g3]
 ·rw [show sg n j 0+(u-sg n j 0)=u by omega] at hv hv2 c
  have p3:(sg n j v+1) % n=j:=by rw [hv]; exact c
  have sa:=OS h.z h.lt (Nat.le_refl 1) (by omega) p3
  obtain ⟨g1,g2,g3⟩:=hf v
  obtain ⟨g1',g2',g3'⟩:=hf (v+1)
  have l0:∀ t,Cat.dq A u t=Cat.dq A (sg n j v) t+Cat.dq A (u+1) t:=fun t=>by
   have k:=hst1 A (sg n j v) t
   rw [h.one _ p3,show sg n j v+2=u+1 by omega,show sg n j v+1=u by omega] at k
   omega
  have sv:∀ m,1≤m→m<n→sg n j (v+m)=u+m:=fun m m1 m2=>by rw [sa m m2,if_pos m1]; omega
  have l1:∀ m,1≤m→m<n→Cat.dq A u (u+m)=Cat.dq A' v (v+m)+Cat.dq A' (v+1) (v+1+(m-1)):=fun m m1 m2=>by
   rw [l0,← hd,← hd,sv m m1 m2,hv2,show v+1+(m-1)=v+m by omega,sv m m1 m2]
  have en:Cat.dq A u (u+(n-1))=1:=by
   rw [l1 (n-1) (by omega) (by omega),g3,g2']; rfl
  refine ⟨fun m m1 m2=>?_,en,?_⟩
  ·rw [l1 m m1 m2]
   have k1:m-1=0∧Cat.dq A' (v+1) (v+1+(m-1))=0∨1≤Cat.dq A' (v+1) (v+1+(m-1))∧Cat.dq A' (v+1) (v+1+(m-1))≤M:=by
    by_cases q:m-1=0
    ·exact .inl ⟨q,by rw [q]; exact hself _ _⟩
    ·exact .inr (g1' (m-1) (by omega) (by omega))
   have k2:m=n-1∧Cat.dq A' v (v+m)=0∨1≤Cat.dq A' v (v+m)∧Cat.dq A' v (v+m)≤M:=by
    by_cases q:m=n-1
    ·exact .inl ⟨q,by rw [q]; exact g3⟩
    ·exact .inr (g1 m m1 (by omega))
   omega
  ·have c2:(u+n) % n=j:=by rw [Nat.add_mod_right]; exact c
   have k:=hst A u (u+(n-1))
   rw [show u+(n-1)+1=u+n by omega,h.one _ c2,en] at k
   have sn:sg n j (v+n)=u+(n-1)+2:=by
    have q:=Ut n j (v+(n-1))
    rw [sv (n-1) (by omega) (by omega),show u+(n-1)+1=u+n by omega,if_pos c2,show v+(n-1)+1=v+n by omega] at q
    exact q
   have k2:=l0 (u+(n-1)+2)
   rw [← sn,hd,← hv2,show v+n=v+1+(n-1) by omega,hd,g3',show v+1+(n-1)=v+(n-1-1)+2 by omega,hst A',show v+(n-1-1)+1=v+(n-1) by omega,g3,g2] at k2
   rw [show v+(n-1-1)+2=v+n by omega,sn] at k2
   omega
theorem AGR {n:Nat} {A:Nat→Int} (hp:∀ k,A (k+n)=A k) (u m:Nat):Cat.dq A (u+n) (u+n+m)=Cat.dq A u (u+m):=by
 rw [RA,RA]
 exact Si m fun t _=>by rw [← hp (u+1+t)]; congr 1; omega
theorem FC.glue {n j:Nat} {A A':Nat→Int} {M:Int} (h:FC n j A A') (hp:∀ k,A (k+n)=A k) (hM:1≤M) (hf:Gc (n-1) M A'):Gc n (2*M) A:=by
 intro u
 have h1:sg n j 0≤1:=by unfold sg; split <;> omega
 have hn4:4≤n:=by rcases h.z with rfl | rfl | rfl | rfl | rfl | rfl | rfl <;> omega
 have:=h.AKV hM hf (u+n) (by omega)
 simpa only [AGR hp] using this
theorem Gc.one {n:Nat} {M:Int} {A:Nat→Int} (hn:3≤n) (hf:Gc n M A):∃ k,A (k+1)=1:=by
 have h2:∀ u,Cat.dq A u (u+2)=A (u+1):=fun u=>by
  have:=HW (A:=A) (x:=wv A 1 0) (y:=wv A 0 1) C3 C3 (u:=u) (t:=u)
  simp only [Cat.dq]
  rw [this,La,QP C3 C3 (by simp [dt,wv])]
  omega
 by_cases q:∀ k,2≤A (k+1)
 ·exfalso
  have:∀ m,0≤Cat.dq A 0 m∧Cat.dq A 0 m+1≤Cat.dq A 0 (m+1):=by
   intro m
   induction m with
   | zero=>simp [Cat.dq,dt,wv]
   | succ m ih=>
    have k:Cat.dq A 0 (m+2)=A (m+1)*Cat.dq A 0 (m+1)-Cat.dq A 0 m:=HW C3 C3
    have k2:=Int.mul_le_mul_of_nonneg_right (q m) (show 0≤Cat.dq A 0 (m+1) by omega)
    rw [show m+1+1=m+2 from rfl,k]
    omega
  have a:=(this (n-1)).1
  have b:=(this (n-1)).2
  have c:=(hf 0).2.2
  rw [show n-1+1=n by omega] at b
  rw [Nat.zero_add] at c
  omega
 ·simp only [Classical.not_forall] at q
  obtain ⟨k,hk⟩:=q
  refine ⟨k,?_⟩
  have:=((hf k).1 2 (by omega) (by omega)).1
  rw [h2] at this
  omega
theorem Gc.tri {M:Int} {A:Nat→Int} (hM:1≤M):Gc 3 M A↔∀ k,A (k+1)=1:=by
 have h2:∀ u,Cat.dq A u (u+2)=A (u+1):=fun u=>by
  have:=HW (A:=A) (x:=wv A 1 0) (y:=wv A 0 1) C3 C3 (u:=u) (t:=u)
  simp only [Cat.dq]
  rw [this,La,QP C3 C3 (by simp [dt,wv])]
  omega
 constructor
 ·intro hf k
  rw [← h2]
  exact (hf k).2.1
 ·intro h u
  have k:Cat.dq A u (u+3)=A (u+2)*Cat.dq A u (u+2)-Cat.dq A u (u+1):=HW C3 C3
  rw [h2,Pq,h u,h (u+1)] at k
  refine ⟨fun m m1 m2=>?_,?_,by rw [k]; rfl⟩
  ·obtain rfl | rfl:m=1∨m=2:=by omega
   ·rw [Pq]; omega
   ·rw [h2,h]; omega
  ·rw [show u+(3-1)=u+2 from rfl,h2,h]
end Go.Cat
