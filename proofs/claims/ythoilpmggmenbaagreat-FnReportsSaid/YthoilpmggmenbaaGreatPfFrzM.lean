/-
 Friezes: continuants, and what cutting an ear does.
-/
import Derived.Test.YthoilpmggmenbaaGreatQd0LawReports
import Derived.Test.YthoilpmggmenbaaGreatQd1LawReports
import Derived.Test.YthoilpmggmenbaaGreatQd2LawReports
import Derived.Test.YthoilpmggmenbaaGreatQd3LawReports
import Derived.Test.YthoilpmggmenbaaGreatCatFour
set_option linter.unusedSimpArgs false
set_option linter.unusedVariables false
namespace Go.Cat
def kq(f:Nat→Int):Nat→Int
 |0=>0
 |1=>1
 |m+2=>f m*kq f (m+1)-kq f m
theorem Ms{f g:Nat→Int}:∀m,(∀t,t+2≤m→f t=g t)→kq f m=kq g m
 |0,_=>rfl
 |1,_=>rfl
 |m+2,h=>by
  simp only[kq]
  rw[Ms (m+1) fun t ht=>h t (by omega),Ms m fun t ht=>h t (by omega),h m (by omega)]
def wv(A:Nat→Int)(a b:Int):Nat→Int
 |0=>a
 |1=>b
 |v+2=>A (v+1)*wv A a b (v+1)-wv A a b v
def dt(x y:Nat→Int)(u t:Nat):Int:=x u*y t-y u*x t
def F9(A x:Nat→Int):Prop:=∀v,x (v+2)=A (v+1)*x (v+1)-x v
theorem C0{A:Nat→Int}{a b:Int}:F9 A (wv A a b):=fun _=>rfl
theorem LX{x y:Nat→Int}{u:Nat}:dt x y u u=0:=by unfold dt;grind
theorem HR{A x y:Nat→Int}(hx:F9 A x)(hy:F9 A y){u t:Nat}:dt x y u (t+2)=A (t+1)*dt x y u (t+1)-dt x y u t:=by simp only[dt,hx t,hy t];grind
theorem AUI{A x y:Nat→Int}(hx:F9 A x)(hy:F9 A y){u t:Nat}:dt x y (u+2) t=A (u+1)*dt x y (u+1) t-dt x y u t:=by simp only[dt,hx u,hy u];grind
theorem Qg{A x y:Nat→Int}(hx:F9 A x)(hy:F9 A y)(h0:dt x y 0 1=1):∀u,dt x y u (u+1)=1
 |0=>h0
 |u+1=>by
  have:=Qg hx hy h0 u
  simp only[dt,hx u,hy u]at this⊢;grind
theorem Q0{A x y:Nat→Int}(hx:F9 A x)(hy:F9 A y)(h0:∀u,dt x y u (u+1)=1):∀m u,dt x y u (u+m)=kq (fun t=>A (u+1+t)) m
 |0,_=>LX
 |1,u=>h0 u
 |m+2,u=>by
  rw[show u+(m+2)=u+m+2 from rfl,HR hx hy,show u+m+1=u+(m+1)from rfl,Q0 hx hy h0 (m+1) u,Q0 hx hy h0 m u]
  simp only[kq]
  rw[show u+(m+1)=u+1+m by omega]
abbrev dq(A:Nat→Int)(u t:Nat):Int:=dt (wv A 1 0) (wv A 0 1) u t
theorem Ja{A:Nat→Int}(u:Nat):dq A u (u+1)=1:=Qg C0 C0 (by simp[dt,wv]) u
theorem Lr{A:Nat→Int}(m u:Nat):dq A u (u+m)=kq (fun t=>A (u+1+t)) m:=Q0 C0 C0 Ja m u
def pz(n:Nat):Prop:=n=4∨n=5∨n=6∨n=7∨n=8∨n=9∨n=10
def sg(n j:Nat):Nat→Nat
 |0=>if j=0 then 1 else 0
 |v+1=>if(sg n j v+1)%n=j then sg n j v+2 else sg n j v+1
section
variable{n j:Nat}(hn:pz n)(hj:j<n)
include hn hj
theorem RF:∀v,sg n j v%n≠j
 |0=>by
  unfold sg
  rcases hn with rfl|rfl|rfl|rfl|rfl|rfl|rfl<;>split<;>omega
 |v+1=>by
  have:=RF v
  unfold sg
  generalize sg n j v=s at this⊢
  rcases hn with rfl|rfl|rfl|rfl|rfl|rfl|rfl<;>split<;>omega
theorem AAS(s:Nat)(h:s%n≠j):∃p,1≤p∧p<n∧(s+p)%n=j:=by refine⟨(j+n-s%n)%n,?_⟩;rcases hn with rfl|rfl|rfl|rfl|rfl|rfl|rfl<;>omega
theorem AZA{s a b:Nat}(h:(s+a)%n=j)(h2:(s+b)%n=j)(h3:a<b+n)(h4:b<a+n):a=b:=by rcases hn with rfl|rfl|rfl|rfl|rfl|rfl|rfl<;>omega
theorem RI{v p:Nat}(h1:1≤p)(h2:p<n)(h3:(sg n j v+p)%n=j):∀m,m<n→sg n j (v+m)=sg n j v+m+(if p≤m then 1 else 0)
 |0,_=>by simp;omega
 |m+1,hm=>by
  have ih:=RI h1 h2 h3 m (by omega)
  have e:sg n j (v+(m+1))=if(sg n j (v+m)+1)%n=j then sg n j (v+m)+2 else sg n j (v+m)+1:=rfl
  rw[e,ih]
  have uni:=fun a=>AZA hn hj (s:=sg n j v) (a:=a) (b:=p)
  generalize sg n j v=s at*
  by_cases q:p≤m
  ·simp only[if_pos q,if_pos (show p≤m+1 by omega)]
   rw[if_neg (fun e=>?_)]
   ·omega
   ·have:=uni (m+2) (by rw[←e];congr 1) h3 (by omega) (by omega)
    omega
  ·simp only[if_neg q]
   by_cases q2:p=m+1
   ·have:(s+m+0+1)%n=j:=by rw[←h3,q2];congr 1
    rw[if_pos this,if_pos (by omega)]
    omega
   ·rw[if_neg (fun e=>?_),if_neg (by omega)]
    ·omega
    ·have:=uni (m+1) (by rw[←e];congr 1) h3 (by omega) (by omega)
     omega
end
structure Fg(n j:Nat)(A A':Nat→Int):Prop where
 z:pz n
 lt:j<n
 one:∀k,k%n=j→A k=1
 a:∀v,A' v=A (sg n j v)-(if(sg n j v+1)%n=j then 1 else 0)-(if(sg n j v+n-1)%n=j then 1 else 0)
theorem Fg.flw{n j:Nat}{A A' x:Nat→Int}(h:Fg n j A A')(hx:F9 A x):F9 A' (fun v=>x (sg n j v)):=by
 intro v;show x (sg n j (v+2))=A' (v+1)*x (sg n j (v+1))-x (sg n j v);rw[h.a (v+1)];have hs:=RF h.z h.lt v;have e2:sg n j (v+2)=if(sg n j (v+1)+1)%n=j then sg n j (v+1)+2 else sg n j (v+1)+1:=rfl;have e1:sg n j (v+1)=if(sg n j v+1)%n=j then sg n j v+2 else sg n j v+1:=rfl;rw[e2,e1];generalize sg n j v=s at hs;have hn:=h.z;have hj:=h.lt;by_cases c1:(s+1)%n=j
 ·rw[if_pos c1,if_neg (show ¬(s+2+1)%n=j by rcases hn with rfl|rfl|rfl|rfl|rfl|rfl|rfl<;>omega),if_neg (show ¬(s+2+1)%n=j by rcases hn with rfl|rfl|rfl|rfl|rfl|rfl|rfl<;>omega),
   if_pos (show(s+2+n-1)%n=j by rcases hn with rfl|rfl|rfl|rfl|rfl|rfl|rfl<;>omega)]
  have k1:=hx s
  have k2:=hx (s+1)
  rw[h.one _ c1]at k1
  rw[show s+2+1=s+1+2 from rfl,k2]
  grind
 ·rw[if_neg c1];rw[if_neg (show ¬(s+1+n-1)%n=j by rcases hn with rfl|rfl|rfl|rfl|rfl|rfl|rfl<;>omega)];by_cases c2:(s+1+1)%n=j
  ·rw[if_pos c2,if_pos c2];have k1:=hx s;have k2:=hx (s+1);rw[show s+1+1=s+2 from rfl]at c2 k2;rw[h.one _ c2]at k2;rw[show s+1+2=s+1+2 from rfl,k2,k1];grind
  ·rw[if_neg c2,if_neg c2];have k1:=hx s;rw[show s+1+1=s+2 from rfl,k1];grind
theorem Fg.one1{n j:Nat}{A A' x y:Nat→Int}(h:Fg n j A A')(hx:F9 A x)(hy:F9 A y)(h1:∀u,dt x y u (u+1)=1)(v:Nat):dt (fun v=>x (sg n j v)) (fun v=>y (sg n j v)) v (v+1)=1:=by
 show dt x y (sg n j v) (sg n j (v+1))=1;have e1:sg n j (v+1)=if(sg n j v+1)%n=j then sg n j v+2 else sg n j v+1:=rfl;rw[e1];by_cases c:(sg n j v+1)%n=j
 ·rw[if_pos c,HR hx hy,h.one _ c,h1,LX];omega
 ·rw[if_neg c,h1]
theorem Fg.dq{n j:Nat}{A A':Nat→Int}(h:Fg n j A A')(v m:Nat):dq A (sg n j v) (sg n j (v+m))=dq A' v (v+m):=by rw[Lr,←Q0 (h.flw C0) (h.flw C0) (h.one1 C0 C0 Ja) m v];rfl
def FO(n:Nat)(M:Int)(A:Nat→Int):Prop:=∀u,(∀m,1≤m→m<n→1≤Cat.dq A u (u+m)∧Cat.dq A u (u+m)≤M)∧Cat.dq A u (u+(n-1))=1∧Cat.dq A u (u+n)=0
theorem Fg.cut{n j:Nat}{A A':Nat→Int}{M:Int}(h:Fg n j A A')(hf:FO n M A):FO (n-1) M A':=by
 intro v;have hn4:4≤n:=by rcases h.z with rfl|rfl|rfl|rfl|rfl|rfl|rfl<;>omega
 obtain⟨f1,f2,f3⟩:=hf (sg n j v);obtain⟨p,p1,p2,p3⟩:=AAS h.z h.lt _ (RF h.z h.lt v);have sa:=RI h.z h.lt p1 p2 p3;refine⟨fun m m1 m2=>?_,?_,?_⟩
 ·rw[←h.dq,sa m (by omega)];split
  ·exact f1 (m+1) (by omega) (by omega)
  ·exact f1 m m1 (by omega)
 ·rw[←h.dq,sa (n-1-1) (by omega)];split
  ·rw[show sg n j v+(n-1-1)+1=sg n j v+(n-1) by omega];exact f2
  ·have hp:p=n-1:=by omega
   subst hp;have k:=HR (A:=A) (x:=wv A 1 0) (y:=wv A 0 1) C0 C0 (u:=sg n j v) (t:=sg n j v+(n-1-1));rw[show sg n j v+(n-1-1)+2=sg n j v+n by omega,show sg n j v+(n-1-1)+1=sg n j v+(n-1) by omega,h.one _ p3]at k;have f2':=f2;have f3':=f3;show Cat.dq A (sg n j v) (sg n j v+(n-1-1))=1;simp only[Cat.dq]at*;omega
 ·rw[←h.dq,sa (n-1) (by omega),if_pos (by omega),show sg n j v+(n-1)+1=sg n j v+n by omega];exact f3
theorem Sn(n j v:Nat):sg n j (v+1)=if(sg n j v+1)%n=j then sg n j v+2 else sg n j v+1:=rfl
theorem AGI{n j:Nat}:∀d,(∃v,sg n j v=sg n j 0+d)∨((sg n j 0+d)%n=j∧∃v,sg n j v+1=sg n j 0+d∧sg n j (v+1)=sg n j 0+d+1)
 |0=>.inl ⟨0,rfl⟩
 |d+1=>by
  have st:=Sn n j
  rcases AGI (n:=n) (j:=j) d with⟨v,hv⟩|⟨h1,v,hv,hv2⟩
  ·have e:=st v
   rw[hv]at e
   by_cases c:(sg n j 0+d+1)%n=j
   ·rw[if_pos c]at e
    exact .inr ⟨c,v,by omega,by rw[e];omega⟩
   ·rw[if_neg c]at e
    exact .inl ⟨v+1,by rw[e];omega⟩
  ·exact .inl ⟨v+1,by rw[hv2];omega⟩
theorem Fg.AUD{n j:Nat}{A A':Nat→Int}{M:Int}(h:Fg n j A A')(hM:1≤M)(hf:FO (n-1) M A')(u:Nat)(hu:sg n j 0≤u):
  (∀m,1≤m→m<n→1≤Cat.dq A u (u+m)∧Cat.dq A u (u+m)≤2*M)∧Cat.dq A u (u+(n-1))=1∧Cat.dq A u (u+n)=0:=by
 have hn4:4≤n:=by rcases h.z with rfl|rfl|rfl|rfl|rfl|rfl|rfl<;>omega
 have hself:∀A u,Cat.dq A u u=0:=fun _ _=>LX;have hst:∀A u t,Cat.dq A u (t+2)=A (t+1)*Cat.dq A u (t+1)-Cat.dq A u t:=fun _ _ _=>HR C0 C0;have hst1:∀A u t,Cat.dq A (u+2) t=A (u+1)*Cat.dq A (u+1) t-Cat.dq A u t:=fun _ _ _=>AUI C0 C0;have hd:=h.dq;rcases AGI (n:=n) (j:=j) (u-sg n j 0)with⟨v,hv⟩|⟨c,v,hv,hv2⟩
 ·rw[show sg n j 0+(u-sg n j 0)=u by omega]at hv;subst hv;obtain⟨p,p1,p2,p3⟩:=AAS h.z h.lt _ (RF h.z h.lt v);have sa:=RI h.z h.lt p1 p2 p3;obtain⟨g1,g2,g3⟩:=hf v;have l1:∀m,m<p→Cat.dq A (sg n j v) (sg n j v+m)=Cat.dq A' v (v+m):=fun m hm=>by rw[←hd,sa m (by omega),if_neg (by omega)];rfl
  have l2:∀m,p≤m→m<n→Cat.dq A (sg n j v) (sg n j v+(m+1))=Cat.dq A' v (v+m):=fun m hm hm2=>by rw[←hd,sa m hm2,if_pos hm];rfl
  have l3:Cat.dq A (sg n j v) (sg n j v+p)=Cat.dq A' v (v+(p-1))+Cat.dq A' v (v+p):=by have k:=hst A (sg n j v) (sg n j v+(p-1));rw[show sg n j v+(p-1)+2=sg n j v+(p+1) by omega,show sg n j v+(p-1)+1=sg n j v+p by omega,h.one _ p3,l1 (p-1) (by omega),l2 p (by omega) (by omega)]at k;omega
  generalize sg n j v=s at*;refine⟨fun m m1 m2=>?_,?_,?_⟩
  ·rcases Nat.lt_trichotomy m p with q|q|q
   ·rw[l1 m q];have:=g1 m m1 (by omega);omega
   ·subst q;rw[l3];have k1:m-1=0∧Cat.dq A' v (v+(m-1))=0∨1≤Cat.dq A' v (v+(m-1))∧Cat.dq A' v (v+(m-1))≤M:=by
     by_cases q:m-1=0
     ·exact .inl ⟨q,by rw[q];exact hself _ _⟩
     ·exact .inr (g1 (m-1) (by omega) (by omega))
    have k2:m=n-1∧Cat.dq A' v (v+m)=0∨1≤Cat.dq A' v (v+m)∧Cat.dq A' v (v+m)≤M:=by
     by_cases q:m=n-1
     ·exact .inl ⟨q,by rw[q];exact g3⟩
     ·exact .inr (g1 m m1 (by omega))
    omega
   ·have:=l2 (m-1) (by omega) (by omega);rw[show m-1+1=m by omega]at this;rw[this];have:=g1 (m-1) (by omega) (by omega);omega
  ·by_cases q:p=n-1
   ·rw[←q,l3,q,g3,show n-1-1=n-1-1 from rfl,g2];rfl
   ·have:=l2 (n-2) (by omega) (by omega);rw[show n-2+1=n-1 by omega]at this;rw[this,show n-2=n-1-1 by omega,g2]
  ·have:=l2 (n-1) (by omega) (by omega);rw[show n-1+1=n by omega]at this;rw[this,g3]
 ·rw[show sg n j 0+(u-sg n j 0)=u by omega]at hv hv2 c;have p3:(sg n j v+1)%n=j:=by rw[hv];exact c
  have sa:=RI h.z h.lt (Nat.le_refl 1) (by omega) p3;obtain⟨g1,g2,g3⟩:=hf v;obtain⟨g1',g2',g3'⟩:=hf (v+1);have l0:∀t,Cat.dq A u t=Cat.dq A (sg n j v) t+Cat.dq A (u+1) t:=fun t=>by have k:=hst1 A (sg n j v) t;rw[h.one _ p3,show sg n j v+2=u+1 by omega,show sg n j v+1=u by omega]at k;omega
  have sv:∀m,1≤m→m<n→sg n j (v+m)=u+m:=fun m m1 m2=>by rw[sa m m2,if_pos m1];omega
  have l1:∀m,1≤m→m<n→Cat.dq A u (u+m)=Cat.dq A' v (v+m)+Cat.dq A' (v+1) (v+1+(m-1)):=fun m m1 m2=>by rw[l0,←hd,←hd,sv m m1 m2,hv2,show v+1+(m-1)=v+m by omega,sv m m1 m2]
  have en:Cat.dq A u (u+(n-1))=1:=by rw[l1 (n-1) (by omega) (by omega),g3,g2'];rfl
  refine⟨fun m m1 m2=>?_,en,?_⟩
  ·rw[l1 m m1 m2];have k1:m-1=0∧Cat.dq A' (v+1) (v+1+(m-1))=0∨1≤Cat.dq A' (v+1) (v+1+(m-1))∧Cat.dq A' (v+1) (v+1+(m-1))≤M:=by
    by_cases q:m-1=0
    ·exact .inl ⟨q,by rw[q];exact hself _ _⟩
    ·exact .inr (g1' (m-1) (by omega) (by omega))
   have k2:m=n-1∧Cat.dq A' v (v+m)=0∨1≤Cat.dq A' v (v+m)∧Cat.dq A' v (v+m)≤M:=by
    by_cases q:m=n-1
    ·exact .inl ⟨q,by rw[q];exact g3⟩
    ·exact .inr (g1 m m1 (by omega))
   omega
  ·have c2:(u+n)%n=j:=by rw[Nat.add_mod_right];exact c
   have k:=hst A u (u+(n-1));rw[show u+(n-1)+1=u+n by omega,h.one _ c2,en]at k;have sn:sg n j (v+n)=u+(n-1)+2:=by have q:=Sn n j (v+(n-1));rw[sv (n-1) (by omega) (by omega),show u+(n-1)+1=u+n by omega,if_pos c2,show v+(n-1)+1=v+n by omega]at q;exact q
   have k2:=l0 (u+(n-1)+2);rw[←sn,hd,←hv2,show v+n=v+1+(n-1) by omega,hd,g3',show v+1+(n-1)=v+(n-1-1)+2 by omega,hst A',show v+(n-1-1)+1=v+(n-1) by omega,g3,g2]at k2;rw[show v+(n-1-1)+2=v+n by omega,sn]at k2;omega
theorem AZ0{n:Nat}{A:Nat→Int}(hp:∀k,A (k+n)=A k)(u m:Nat):Cat.dq A (u+n) (u+n+m)=Cat.dq A u (u+m):=by rw[Lr,Lr];exact Ms m fun t _=>by rw[←hp (u+1+t)];congr 1;omega
theorem Fg.glue{n j:Nat}{A A':Nat→Int}{M:Int}(h:Fg n j A A')(hp:∀k,A (k+n)=A k)(hM:1≤M)(hf:FO (n-1) M A'):FO n (2*M) A:=by
 intro u;have h1:sg n j 0≤1:=by unfold sg;split<;>omega
 have hn4:4≤n:=by rcases h.z with rfl|rfl|rfl|rfl|rfl|rfl|rfl<;>omega
 have:=h.AUD hM hf (u+n) (by omega);simpa only[AZ0 hp]using this
theorem FO.one{n:Nat}{M:Int}{A:Nat→Int}(hn:3≤n)(hf:FO n M A):∃k,A (k+1)=1:=by
 have h2:∀u,Cat.dq A u (u+2)=A (u+1):=fun u=>by have:=HR (A:=A) (x:=wv A 1 0) (y:=wv A 0 1) C0 C0 (u:=u) (t:=u);simp only[Cat.dq];rw[this,LX,Qg C0 C0 (by simp[dt,wv])];omega
 by_cases q:∀k,2≤A (k+1)
 ·exfalso;have:∀m,0≤Cat.dq A 0 m∧Cat.dq A 0 m+1≤Cat.dq A 0 (m+1):=by
   intro m;induction m with
   |zero=>simp[Cat.dq,dt,wv]
   |succ m ih=>
    have k:Cat.dq A 0 (m+2)=A (m+1)*Cat.dq A 0 (m+1)-Cat.dq A 0 m:=HR C0 C0
    have k2:=Int.mul_le_mul_of_nonneg_right (q m) (show 0≤Cat.dq A 0 (m+1) by omega)
    rw[show m+1+1=m+2 from rfl,k]
    omega
  have a:=(this (n-1)).1;have b:=(this (n-1)).2;have c:=(hf 0).2.2;rw[show n-1+1=n by omega]at b;rw[Nat.zero_add]at c;omega
 ·simp only[Classical.not_forall]at q;obtain⟨k,hk⟩:=q;refine⟨k,?_⟩;have:=((hf k).1 2 (by omega) (by omega)).1;rw[h2]at this;omega
theorem FO.tri{M:Int}{A:Nat→Int}(hM:1≤M):FO 3 M A↔∀k,A (k+1)=1:=by
 have h2:∀u,Cat.dq A u (u+2)=A (u+1):=fun u=>by have:=HR (A:=A) (x:=wv A 1 0) (y:=wv A 0 1) C0 C0 (u:=u) (t:=u);simp only[Cat.dq];rw[this,LX,Qg C0 C0 (by simp[dt,wv])];omega
 constructor
 ·intro hf k;rw[←h2];exact(hf k).2.1
 ·intro h u;have k:Cat.dq A u (u+3)=A (u+2)*Cat.dq A u (u+2)-Cat.dq A u (u+1):=HR C0 C0;rw[h2,Ja,h u,h (u+1)]at k;refine⟨fun m m1 m2=>?_,?_,by rw[k];rfl⟩
  ·obtain rfl|rfl:m=1∨m=2:=by omega
   ·rw[Ja];omega
   ·rw[h2,h];omega
  ·rw[show u+(3-1)=u+2 from rfl,h2,h]
end Go.Cat
namespace Go.Cat
def qa(q:List Int)(i:Nat):Int:=AE q ((i%q.length:Nat):Int)
theorem WB{q:List Int}(k:Nat):qa q (k+q.length)=qa q k:=by simp[qa]
def DF(n j:Nat):Nat:=(j+n-1)%n
def EP(n j:Nat):Nat:=(j+1)%n
def JF(q:List Int)(j:Nat):List Int:=BM (BM q (DF q.length j:Nat) (AE q (DF q.length j:Nat)-1)) (EP q.length j:Nat) (AE (BM q (DF q.length j:Nat) (AE q (DF q.length j:Nat)-1)) (EP q.length j:Nat)-1)
def Gc{α:Type}(l:List α)(j:Nat):List α:=l.take j++l.drop (j+1)
def Fp(q:List Int)(j:Nat):List Int:=Gc (JF q j) j
theorem Mb{l:List Int}{i x:Int}:(BM l i x).length=l.length:=by simp[BM]
theorem J0{q:List Int}{j:Nat}:(JF q j).length=q.length:=by simp[JF,BM]
theorem Wh{α:Type}{l:List α}{j:Nat}(h:j<l.length):(Gc l j).length=l.length-1:=by simp[Gc];omega
theorem LH{q:List Int}{j:Nat}(h:j<q.length):(Fp q j).length=q.length-1:=by rw[Fp,Wh (by rw[J0];exact h),J0]
theorem Ma{l:List Int}{i k:Nat}{x:Int}(h:i<l.length):AE (BM l (i:Int) x) (k:Int)=if k=i then x else AE l (k:Int):=by
 simp only[AE,BM,BH,Al,List.getElem?_set];by_cases q:i=k
 ·subst q;simp[h]
 ·simp[q,Ne.symm q]
theorem AXG{l:List Int}{j k:Nat}(h:j<l.length):AE (Gc l j) (k:Int)=if k<j then AE l (k:Int)else AE l ((k+1:Nat):Int):=by
 simp only[AE,Gc,BH,Al];by_cases q:k<j
 ·rw[if_pos q,DC (by simp;omega),List.getElem?_take,if_pos q]
 ·rw[if_neg q,F5 (by simp;omega)];simp only[List.length_take,List.getElem?_drop];congr 2;omega
theorem Pk{q:List Int}{j k:Nat}(hq:3≤q.length)(hj:j<q.length):AE (JF q j) (k:Int)=AE q (k:Int)-(if k=DF q.length j then 1 else 0)-(if k=EP q.length j then 1 else 0):=by
 have a:DF q.length j<q.length:=Nat.mod_lt _ (by omega);have b:EP q.length j<q.length:=Nat.mod_lt _ (by omega);have c:DF q.length j≠EP q.length j:=by
  unfold DF EP;generalize q.length=n at*;rcases Bh (j+1) n with h|h
  ·rw[Nat.mod_eq_of_lt h]
   cases j with
   |zero=>rw[Nat.mod_eq_of_lt (by omega)];omega
   |succ j=>rw[show j+1+n-1=j+n by omega,Nat.add_mod_right,Nat.mod_eq_of_lt (by omega)];omega
  ·obtain rfl:n=j+1:=by omega
   rw[Nat.mod_self,show j+(j+1)-1=j-1+(j+1) by omega,Nat.add_mod_right,Nat.mod_eq_of_lt (by omega)];omega
 rw[JF,Ma (by rw[Mb];exact b),Ma a,Ma a];split
 ·rename_i h;subst h;rw[if_neg (Ne.symm c),if_neg (Ne.symm c)];omega
 ·split
  ·rename_i h;subst h;omega
  ·omega
theorem Vr{n j:Nat}(hn:pz n)(hj:j<n):∀v,sg n j v%n=if v%(n-1)<j then v%(n-1)else v%(n-1)+1
 |0=>by
  unfold sg
  rw[Nat.zero_mod]
  rcases hn with rfl|rfl|rfl|rfl|rfl|rfl|rfl<;>split<;>split<;>omega
 |v+1=>by
  have:=Vr hn hj v
  rw[Sn]
  generalize sg n j v=s at this
  rcases hn with rfl|rfl|rfl|rfl|rfl|rfl|rfl<;>simp only[Nat.add_one_sub_one]at this⊢<;>split at this<;>split<;>split<;>omega
theorem AEJ{q:List Int}{j:Nat}(hq:pz q.length)(hj:j<q.length)(h1:AE q (j:Int)=1):Fg q.length j (qa q) (qa (Fp q j)):=by
 have h4:4≤q.length:=by rcases hq with h|h|h|h|h|h|h<;>omega
 refine⟨hq,hj,fun k hk=>by rw[qa,hk,h1],fun v=>?_⟩;have e:=Vr hq hj v;have hr:v%(q.length-1)<q.length-1:=Nat.mod_lt _ (by omega);have c1:∀s,((s+1)%q.length=j↔s%q.length=DF q.length j):=fun s=>by unfold DF;generalize q.length=n at hq hj;rcases hq with rfl|rfl|rfl|rfl|rfl|rfl|rfl<;>omega
 have c2:∀s,((s+q.length-1)%q.length=j↔s%q.length=EP q.length j):=fun s=>by unfold EP;generalize q.length=n at hq hj;rcases hq with rfl|rfl|rfl|rfl|rfl|rfl|rfl<;>omega
 simp only[c1,c2];rw[qa,qa,LH hj,Fp,AXG (by rw[J0];exact hj),Pk (by omega) hj,Pk (by omega) hj,e];split<;>rfl
def B7(q:List Int):Nat:=q.findIdx (fun x=>x==1)
def G3:Nat→List Int→Bool
 |0,q=>q==[1,1,1]
 |f+1,q=>decide (B7 q<q.length)&&G3 f (Fp q (B7 q))
theorem RZ{q:List Int}(h:B7 q<q.length):AE q (B7 q:Nat)=1:=by have:=List.findIdx_getElem (w:=h);simp only[beq_iff_eq]at this;simp only[AE,BH,Al];rw[En h];exact this
theorem YQ:∀f:Nat,(1:Int)≤2^f
 |0=>by decide
 |f+1=>by have:=YQ f;rw[Int.pow_succ];omega
theorem VJ:∀f (q:List Int),q.length=f+3→f≤7→(G3 f q=true→FO q.length (2^f) (qa q))∧(∀M,1≤M→FO q.length M (qa q)→G3 f q=true)
 |0,q,hl,_=>by
  match q,hl with
  |[a,b,c],_=>
   refine⟨fun h=>?_,fun M hM h=>?_⟩
   ·simp only[G3,beq_iff_eq,List.cons.injEq,and_true]at h
    obtain⟨rfl,rfl,rfl⟩:=h
    refine(FO.tri (by decide)).2 fun k=>?_
    have:(k+1)%3=0∨(k+1)%3=1∨(k+1)%3=2:=by omega
    simp only[qa,AY,Ap]
    rcases this with h|h|h<;>rw[h]<;>rfl
   ·have:=(FO.tri hM).1 h
    have a0:=this 2
    have a1:=this 0
    have a2:=this 1
    simp only[qa,AY,Ap,AE]at a0 a1 a2
    simp at a0 a1 a2
    simp[G3,a0,a1,a2]
 |f+1,q,hl,hf=>by
  have hz:pz q.length:=by unfold pz;omega
  refine⟨fun h=>?_,fun M hM h=>?_⟩
  ·simp only[G3,AX,Aj]at h
   have ih:=(VJ f (Fp q (B7 q)) (by rw[LH h.1];omega) (by omega)).1 h.2
   rw[LH h.1]at ih
   have:=(AEJ hz h.1 (RZ h.1)).glue WB (YQ f) ih
   rw[show(2:Int)^(f+1)=2*2^f by rw[Int.pow_succ,Int.mul_comm]]
   exact this
  ·obtain⟨k,hk⟩:=h.one (by omega)
   have h1:B7 q<q.length:=by
    refine List.findIdx_lt_length_of_exists ⟨qa q (k+1),?_,by rw[hk];rfl⟩
    simp only[qa,AE,BH,Al]
    have:(k+1)%q.length<q.length:=Nat.mod_lt _ (by omega)
    rw[En this]
    exact List.getElem_mem _
   simp only[G3,AX,Aj]
   refine⟨h1,(VJ f (Fp q (B7 q)) (by rw[LH h1];omega) (by omega)).2 M hM ?_⟩
   rw[LH h1]
   exact(AEJ hz h1 (RZ h1)).cut h
def Ag(q:List Int)(r i:Nat):Int:=kq (fun t=>qa q (i+t)) r
theorem N0{q:List Int}{r i:Nat}:Ag q r (i+q.length)=Ag q r i:=Ms r fun t _=>by rw[←WB (i+t)];congr 1;omega
theorem G2{q:List Int}{r i:Nat}:Ag q r (i%q.length)=Ag q r i:=Ms r fun t _=>by simp[qa]
def frQ(q:List Int)(M:Int):Prop:=∀i,(∀m,1≤m→m<q.length→1≤Ag q m i∧Ag q m i≤M)∧Ag q (q.length-1) i=1∧Ag q q.length i=0
theorem YR{q:List Int}{M:Int}(h:1≤q.length):frQ q M↔FO q.length M (qa q):=by
 have e:∀u m,dq (qa q) u (u+m)=Ag q m (u+1):=fun u m=>Lr m u;constructor
 ·intro h u;simp only[e];exact h (u+1)
 ·intro h2 i;have:=h2 (i+q.length-1);simp only[e]at this;simp only[show i+q.length-1+1=i+q.length by omega,N0]at this;exact this
theorem P2{q:List Int}{r i:Nat}(hq:1≤q.length):Ag q (r+1) i*Ag q (r+1) (i+1)-Ag q r (i+1)*Ag q (r+2) i=1:=by
 have e:∀u m,dq (qa q) u (u+m)=Ag q m (u+1):=fun u m=>Lr m u;rw[←N0 (i:=i+1) (r:=r+1),←N0 (i:=i+1) (r:=r),←N0 (i:=i) (r:=r+1),←N0 (i:=i) (r:=r+2)];obtain⟨u,hu⟩:∃u,i+q.length=u+1:=⟨i+q.length-1,by omega⟩;rw[show i+1+q.length=u+1+1 by omega,hu,←e,←e,←e,←e];have s1:∀r,dq (qa q) u (u+1)=1∧dq (qa q) u (u+(r+1))*dq (qa q) (u+1) (u+1+(r+1))-dq (qa q) (u+1) (u+1+r)*dq (qa q) u (u+(r+2))=1:=by
  intro r;refine⟨Ja u,?_⟩;induction r with
  |zero=>
   have k1:dq (qa q) u (u+1)=1:=Ja u
   have k2:dq (qa q) (u+1) (u+1+1)=1:=Ja (u+1)
   have k3:dq (qa q) (u+1) (u+1+0)=0:=LX
   rw[Nat.zero_add,k1,k2,k3];omega
  |succ r ih=>
   have k1:dq (qa q) (u+1) (u+1+(r+2))=qa q (u+1+(r+1))*dq (qa q) (u+1) (u+1+(r+1))-dq (qa q) (u+1) (u+1+r):=HR C0 C0
   have k2:dq (qa q) u (u+(r+3))=qa q (u+(r+2))*dq (qa q) u (u+(r+2))-dq (qa q) u (u+(r+1)):=HR C0 C0
   rw[show u+1+(r+1)=u+(r+2) by omega]at k1
   rw[show r+1+1=r+2 from rfl,show r+1+2=r+3 from rfl,k1,k2]
   rw[show u+1+(r+1)=u+(r+2) by omega]at ih⊢
   grind
 exact(s1 r).2
end Go.Cat
