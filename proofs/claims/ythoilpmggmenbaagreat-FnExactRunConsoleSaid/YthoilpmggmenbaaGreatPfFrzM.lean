/-
 Friezes: continuants, and what cutting an ear does.
-/
import Derived.Test.YthoilpmggmenbaaGreatQd0RunConsole
import Derived.Test.YthoilpmggmenbaaGreatQd1RunConsole
import Derived.Test.YthoilpmggmenbaaGreatQd2RunConsole
import Derived.Test.YthoilpmggmenbaaGreatQd3RunConsole
set_option linter.unusedSimpArgs false
set_option linter.unusedVariables false
namespace Go.Cat
def kq(f:Nat->Int):Nat->Int
 |0=>0
 |1=>1
 |m+2=>f m*kq f (m+1)-kq f m
theorem OR{f g:Nat->Int}:∀m,(∀t,t+2<=m->f t=g t)->kq f m=kq g m
 |0,_=>rfl
 |1,_=>rfl
 |m+2,h=>by simp only[kq];rw[OR (m+1) λt H=>h t (by omega),OR m λt H=>h t (by omega),h m (by omega)]
def wv(A:Nat->Int)(a b:Int):Nat->Int
 |0=>a
 |1=>b
 |v+2=>A (v+1)*wv A a b (v+1)-wv A a b v
def dt(x y:Nat->Int)(u t:Nat):Int:=x u*y t-y u*x t
def Gz(A x:Nat->Int):Prop:=∀v,x (v+2)=A (v+1)*x (v+1)-x v
theorem Cn{A:Nat->Int}{a b:Int}:Gz A (wv A a b):=λ_=>rfl
theorem N1{x y:Nat->Int}{u:Nat}:dt x y u u=0:=by unfold dt;grind
theorem Ix{A x y:Nat->Int}(h:Gz A x)(H:Gz A y){u t:Nat}:dt x y u (t+2)=A (t+1)*dt x y u (t+1)-dt x y u t:=by simp only[dt,h t,H t];grind
theorem AVZ{A x y:Nat->Int}(h:Gz A x)(H:Gz A y){u t:Nat}:dt x y (u+2) t=A (u+1)*dt x y (u+1) t-dt x y u t:=by simp only[dt,h u,H u];grind
theorem S9{A x y:Nat->Int}(h:Gz A x)(H:Gz A y)(h0:dt x y 0 1=1):∀u,dt x y u (u+1)=1
 |0=>h0
 |u+1=>by have:=S9 h H h0 u;simp only[dt,h u,H u]at this|-;grind
theorem SX{A x y:Nat->Int}(h:Gz A x)(H:Gz A y)(h0:∀u,dt x y u (u+1)=1):∀m u,dt x y u (u+m)=kq (λt=>A (u+1+t)) m
 |0,_=>N1
 |1,u=>h0 u
 |m+2,u=>by rw[show u+(m+2)=u+m+2 from rfl,Ix h H,show u+m+1=u+(m+1)from rfl,SX h H h0 (m+1) u,SX h H h0 m u];simp only[kq];rw[show u+(m+1)=u+1+m by omega]
abbrev dq(A:Nat->Int)(u t:Nat):Int:=dt (wv A 1 0) (wv A 0 1) u t
theorem LW{A:Nat->Int}(u:Nat):dq A u (u+1)=1:=S9 Cn Cn (by simp[dt,wv]) u
theorem O1{A:Nat->Int}(m u:Nat):dq A u (u+m)=kq (λt=>A (u+1+t)) m:=SX Cn Cn LW m u
def pz(n:Nat):Prop:=n=4\/n=5\/n=6\/n=7\/n=8\/n=9\/n=10
def sg(n j:Nat):Nat->Nat
 |0=>if j=0 then 1 else 0
 |v+1=>if(sg n j v+1)%n=j then sg n j v+2 else sg n j v+1
section
variable{n j:Nat}(hn:pz n)(hj:j<n)
include hn hj
theorem Qw:∀v,sg n j v%n≠j
 |0=>by unfold sg;rcases hn with rfl|rfl|rfl|rfl|rfl|rfl|rfl<;>split<;>omega
 |v+1=>by have:=Qw v;unfold sg;generalize sg n j v=s at this|-;rcases hn with rfl|rfl|rfl|rfl|rfl|rfl|rfl<;>split<;>omega
theorem ASZ(s:Nat)(h:s%n≠j):∃p,1<=p/\p<n/\(s+p)%n=j:=by refine⟨(j+n-s%n)%n,?_⟩;rcases hn with rfl|rfl|rfl|rfl|rfl|rfl|rfl<;>omega
theorem AiK{s a b:Nat}(h:(s+a)%n=j)(H:(s+b)%n=j)(c:a<b+n)(e:b<a+n):a=b:=by rcases hn with rfl|rfl|rfl|rfl|rfl|rfl|rfl<;>omega
theorem Rf{v p:Nat}(H:1<=p)(c:p<n)(h:(sg n j v+p)%n=j):∀m,m<n->sg n j (v+m)=sg n j v+m+(if p<=m then 1 else 0)
 |0,_=>by simp;omega
 |m+1,f=>by
  have I:=Rf H c h m (by omega);have e:sg n j (v+(m+1))=if(sg n j (v+m)+1)%n=j then sg n j (v+m)+2 else sg n j (v+m)+1:=rfl;rw[e,I];have i:=λa=>AiK hn hj (s:=sg n j v) (a:=a) (b:=p);generalize sg n j v=s at*;by_cases q:p<=m;simp only[if_pos q,if_pos (show p<=m+1 by omega)];rw[if_neg (λe=>?_)];omega;have:=i (m+2) (by rw[<-e];congr 1) h (by omega) (by omega);omega;simp only[if_neg q];by_cases Q:p=m+1;have:(s+m+0+1)%n=j:=by rw[<-h,Q];congr 1
  rw[if_pos this,if_pos (by omega)];omega;rw[if_neg (λe=>?_),if_neg (by omega)];omega;have:=i (m+1) (by rw[<-e];congr 1) h (by omega) (by omega);omega
end
structure Gp(n j:Nat)(A A':Nat->Int):Prop where
 z:pz n
 lt:j<n
 one:∀k,k%n=j->A k=1
 a:∀v,A' v=A (sg n j v)-(if(sg n j v+1)%n=j then 1 else 0)-(if(sg n j v+n-1)%n=j then 1 else 0)
theorem Gp.flw{n j:Nat}{A c x:Nat->Int}(h:Gp n j A c)(H:Gz A x):Gz c (λv=>x (sg n j v)):=by
 intro v;show x (sg n j (v+2))=c (v+1)*x (sg n j (v+1))-x (sg n j v);rw[h.a (v+1)];have g:=Qw h.z h.lt v;have f:sg n j (v+2)=if(sg n j (v+1)+1)%n=j then sg n j (v+1)+2 else sg n j (v+1)+1:=rfl;have e:sg n j (v+1)=if(sg n j v+1)%n=j then sg n j v+2 else sg n j v+1:=rfl;rw[f,e];generalize sg n j v=s at g;have hn:=h.z;have hj:=h.lt;by_cases C:(s+1)%n=j
 rw[if_pos C,if_neg (show ¬(s+2+1)%n=j by rcases hn with rfl|rfl|rfl|rfl|rfl|rfl|rfl<;>omega),if_neg (show ¬(s+2+1)%n=j by rcases hn with rfl|rfl|rfl|rfl|rfl|rfl|rfl<;>omega),
  if_pos (show(s+2+n-1)%n=j by rcases hn with rfl|rfl|rfl|rfl|rfl|rfl|rfl<;>omega)]
 have k:=H s;have b:=H (s+1);rw[h.one _ C]at k;rw[show s+2+1=s+1+2 from rfl,b];grind;rw[if_neg C];rw[if_neg (show ¬(s+1+n-1)%n=j by rcases hn with rfl|rfl|rfl|rfl|rfl|rfl|rfl<;>omega)];by_cases c2:(s+1+1)%n=j;rw[if_pos c2,if_pos c2];have k:=H s;have b:=H (s+1);rw[show s+1+1=s+2 from rfl]at c2 b;rw[h.one _ c2]at b;rw[show s+1+2=s+1+2 from rfl,b,k];grind;rw[if_neg c2,if_neg c2];have k:=H s;rw[show s+1+1=s+2 from rfl,k];grind
theorem Gp.one1{n j:Nat}{A a x y:Nat->Int}(h:Gp n j A a)(b:Gz A x)(f:Gz A y)(H:∀u,dt x y u (u+1)=1)(v:Nat):dt (λv=>x (sg n j v)) (λv=>y (sg n j v)) v (v+1)=1:=by show dt x y (sg n j v) (sg n j (v+1))=1;have e:sg n j (v+1)=if(sg n j v+1)%n=j then sg n j v+2 else sg n j v+1:=rfl;rw[e];by_cases c:(sg n j v+1)%n=j;rw[if_pos c,Ix b f,h.one _ c,H,N1];omega;rw[if_neg c,H]
theorem Gp.dq{n j:Nat}{A a:Nat->Int}(h:Gp n j A a)(v m:Nat):dq A (sg n j v) (sg n j (v+m))=dq a v (v+m):=by rw[O1,<-SX (h.flw Cn) (h.flw Cn) (h.one1 Cn Cn LW) m v]<;>rfl
def G0(n:Nat)(M:Int)(A:Nat->Int):Prop:=∀u,(∀m,1<=m->m<n->1<=Cat.dq A u (u+m)/\Cat.dq A u (u+m)<=M)/\Cat.dq A u (u+(n-1))=1/\Cat.dq A u (u+n)=0
theorem Gp.cut{n j:Nat}{A a:Nat->Int}{M:Int}(h:Gp n j A a)(H:G0 n M A):G0 (n-1) M a:=by
 intro v;have e:4<=n:=by rcases h.z with rfl|rfl|rfl|rfl|rfl|rfl|rfl<;>omega
 obtain⟨f,F,f3⟩:=H (sg n j v);obtain⟨p,l,o,P⟩:=ASZ h.z h.lt _ (Qw h.z h.lt v);have sa:=Rf h.z h.lt l o P;refine⟨λm i q=>?_,?_,?_⟩;rw[<-h.dq,sa m (by omega)];split;exact f (m+1) (by omega) (by omega);exact f m i (by omega);rw[<-h.dq,sa (n-1-1) (by omega)];split;rw[show sg n j v+(n-1-1)+1=sg n j v+(n-1) by omega];exact F;have g:p=n-1:=by omega
 subst g;have k:=Ix (A:=A) (x:=wv A 1 0) (y:=wv A 0 1) Cn Cn (u:=sg n j v) (t:=sg n j v+(n-1-1));rw[show sg n j v+(n-1-1)+2=sg n j v+n by omega,show sg n j v+(n-1-1)+1=sg n j v+(n-1) by omega,h.one _ P]at k;have b:=F;have c:=f3;show Cat.dq A (sg n j v) (sg n j v+(n-1-1))=1;simp only[Cat.dq]at*;omega;rw[<-h.dq,sa (n-1) (by omega),if_pos (by omega),show sg n j v+(n-1)+1=sg n j v+n by omega];exact f3
theorem U3(n j v:Nat):sg n j (v+1)=if(sg n j v+1)%n=j then sg n j v+2 else sg n j v+1:=rfl
theorem AN5{n j:Nat}:∀d,(∃v,sg n j v=sg n j 0+d)\/((sg n j 0+d)%n=j/\∃v,sg n j v+1=sg n j 0+d/\sg n j (v+1)=sg n j 0+d+1)
 |0=>.inl ⟨0,rfl⟩
 |d+1=>by have st:=U3 n j;rcases AN5 (n:=n) (j:=j) d with⟨v,H⟩|⟨a,v,H,h⟩;have e:=st v;rw[H]at e;by_cases c:(sg n j 0+d+1)%n=j;rw[if_pos c]at e;exact .inr ⟨c,v,by omega,by rw[e];omega⟩;rw[if_neg c]at e;exact .inl ⟨v+1,by rw[e];omega⟩;exact .inl ⟨v+1,by rw[h];omega⟩
theorem Gp.Aa1{n j:Nat}{A a:Nat->Int}{M:Int}(h:Gp n j A a)(Z:1<=M)(N:G0 (n-1) M a)(u:Nat)(hu:sg n j 0<=u):
  (∀m,1<=m->m<n->1<=Cat.dq A u (u+m)/\Cat.dq A u (u+m)<=2*M)/\Cat.dq A u (u+(n-1))=1/\Cat.dq A u (u+n)=0:=by
 have U:4<=n:=by rcases h.z with rfl|rfl|rfl|rfl|rfl|rfl|rfl<;>omega
 have f:∀A u,Cat.dq A u u=0:=λ_ _=>N1;have H:∀A u t,Cat.dq A u (t+2)=A (t+1)*Cat.dq A u (t+1)-Cat.dq A u t:=λ_ _ _=>Ix Cn Cn;have l:∀A u t,Cat.dq A (u+2) t=A (u+1)*Cat.dq A (u+1) t-Cat.dq A u t:=λ_ _ _=>AVZ Cn Cn;have hd:=h.dq;rcases AN5 (n:=n) (j:=j) (u-sg n j 0)with⟨v,o⟩|⟨c,v,o,e⟩
 .rw[show sg n j 0+(u-sg n j 0)=u by omega]at o;subst o;obtain⟨p,W,Y,P⟩:=ASZ h.z h.lt _ (Qw h.z h.lt v);have sa:=Rf h.z h.lt W Y P;obtain⟨G,x,g⟩:=N v;have L:∀m,m<p->Cat.dq A (sg n j v) (sg n j v+m)=Cat.dq a v (v+m):=λm Q=>by rw[<-hd,sa m (by omega),if_neg (by omega)]<;>rfl
  have C:∀m,p<=m->m<n->Cat.dq A (sg n j v) (sg n j v+(m+1))=Cat.dq a v (v+m):=λm Q O=>by rw[<-hd,sa m O,if_pos Q]<;>rfl
  have T:Cat.dq A (sg n j v) (sg n j v+p)=Cat.dq a v (v+(p-1))+Cat.dq a v (v+p):=by have k:=H A (sg n j v) (sg n j v+(p-1));rw[show sg n j v+(p-1)+2=sg n j v+(p+1) by omega,show sg n j v+(p-1)+1=sg n j v+p by omega,h.one _ P,L (p-1) (by omega),C p (by omega) (by omega)]at k;omega
  generalize sg n j v=s at*;refine⟨λm b i=>?_,?_,?_⟩
  .rcases Nat.lt_trichotomy m p with q|q|q
   .rw[L m q];have:=G m b (by omega);omega
   .subst q;rw[T];have V:m-1=0/\Cat.dq a v (v+(m-1))=0\/1<=Cat.dq a v (v+(m-1))/\Cat.dq a v (v+(m-1))<=M:=by by_cases q:m-1=0;exact .inl ⟨q,by rw[q];exact f _ _⟩;exact .inr (G (m-1) (by omega) (by omega))
    have B:m=n-1/\Cat.dq a v (v+m)=0\/1<=Cat.dq a v (v+m)/\Cat.dq a v (v+m)<=M:=by by_cases q:m=n-1;exact .inl ⟨q,by rw[q];exact g⟩;exact .inr (G m b (by omega))
    omega
   .have:=C (m-1) (by omega) (by omega);rw[show m-1+1=m by omega]at this;rw[this];have:=G (m-1) (by omega) (by omega);omega
  .by_cases q:p=n-1
   .rw[<-q,T,q,g,show n-1-1=n-1-1 from rfl,x]<;>rfl
   .have:=C (n-2) (by omega) (by omega);rw[show n-2+1=n-1 by omega]at this;rw[this,show n-2=n-1-1 by omega,x]
  .have:=C (n-1) (by omega) (by omega);rw[show n-1+1=n by omega]at this;rw[this,g]
 .rw[show sg n j 0+(u-sg n j 0)=u by omega]at o e c;have P:(sg n j v+1)%n=j:=by rw[o];exact c
  have sa:=Rf h.z h.lt (Nat.le_refl 1) (by omega) P;obtain⟨G,x,g⟩:=N v;obtain⟨F,I,J⟩:=N (v+1);have R:∀t,Cat.dq A u t=Cat.dq A (sg n j v) t+Cat.dq A (u+1) t:=λt=>by have k:=l A (sg n j v) t;rw[h.one _ P,show sg n j v+2=u+1 by omega,show sg n j v+1=u by omega]at k;omega
  have sv:∀m,1<=m->m<n->sg n j (v+m)=u+m:=λm b i=>by rw[sa m i,if_pos b];omega
  have L:∀m,1<=m->m<n->Cat.dq A u (u+m)=Cat.dq a v (v+m)+Cat.dq a (v+1) (v+1+(m-1)):=λm b i=>by rw[R,<-hd,<-hd,sv m b i,e,show v+1+(m-1)=v+m by omega,sv m b i]
  have en:Cat.dq A u (u+(n-1))=1:=by rw[L (n-1) (by omega) (by omega),g,I]<;>rfl
  refine⟨λm b i=>?_,en,?_⟩
  .rw[L m b i];have V:m-1=0/\Cat.dq a (v+1) (v+1+(m-1))=0\/1<=Cat.dq a (v+1) (v+1+(m-1))/\Cat.dq a (v+1) (v+1+(m-1))<=M:=by by_cases q:m-1=0;exact .inl ⟨q,by rw[q];exact f _ _⟩;exact .inr (F (m-1) (by omega) (by omega))
   have B:m=n-1/\Cat.dq a v (v+m)=0\/1<=Cat.dq a v (v+m)/\Cat.dq a v (v+m)<=M:=by by_cases q:m=n-1;exact .inl ⟨q,by rw[q];exact g⟩;exact .inr (G m b (by omega))
   omega
  .have c2:(u+n)%n=j:=by rw[Nat.add_mod_right];exact c
   have k:=H A u (u+(n-1));rw[show u+(n-1)+1=u+n by omega,h.one _ c2,en]at k;have sn:sg n j (v+n)=u+(n-1)+2:=by have q:=U3 n j (v+(n-1));rw[sv (n-1) (by omega) (by omega),show u+(n-1)+1=u+n by omega,if_pos c2,show v+(n-1)+1=v+n by omega]at q;exact q
   have B:=R (u+(n-1)+2);rw[<-sn,hd,<-e,show v+n=v+1+(n-1) by omega,hd,J,show v+1+(n-1)=v+(n-1-1)+2 by omega,H a,show v+(n-1-1)+1=v+(n-1) by omega,g,x]at B;rw[show v+(n-1-1)+2=v+n by omega,sn]at B;omega
theorem AVF{n:Nat}{A:Nat->Int}(h:∀k,A (k+n)=A k)(u m:Nat):Cat.dq A (u+n) (u+n+m)=Cat.dq A u (u+m):=by rw[O1,O1];exact OR m λt _=>by rw[<-h (u+1+t)];congr 1;omega
theorem Gp.glue{n j:Nat}{A a:Nat->Int}{M:Int}(h:Gp n j A a)(c:∀k,A (k+n)=A k)(H:1<=M)(f:G0 (n-1) M a):G0 n (2*M) A:=by
 intro u;have e:sg n j 0<=1:=by unfold sg;split<;>omega
 have b:4<=n:=by rcases h.z with rfl|rfl|rfl|rfl|rfl|rfl|rfl<;>omega
 have:=h.Aa1 H f (u+n) (by omega);simpa only[AVF c]using this
theorem G0.one{n:Nat}{M:Int}{A:Nat->Int}(hn:3<=n)(h:G0 n M A):∃k,A (k+1)=1:=by
 have H:∀u,Cat.dq A u (u+2)=A (u+1):=λu=>by have:=Ix (A:=A) (x:=wv A 1 0) (y:=wv A 0 1) Cn Cn (u:=u) (t:=u);simp only[Cat.dq];rw[this,N1,S9 Cn Cn (by simp[dt,wv])];omega
 by_cases q:∀k,2<=A (k+1);exfalso;have:∀m,0<=Cat.dq A 0 m/\Cat.dq A 0 m+1<=Cat.dq A 0 (m+1):=by
  intro m;induction m with
  |zero=>simp[Cat.dq,dt,wv]
  |succ m i=>
   have k:Cat.dq A 0 (m+2)=A (m+1)*Cat.dq A 0 (m+1)-Cat.dq A 0 m:=Ix Cn Cn
   have f:=Int.mul_le_mul_of_nonneg_right (q m) (show 0<=Cat.dq A 0 (m+1) by omega)
   rw[show m+1+1=m+2 from rfl,k]
   omega
 have a:=(this (n-1)).1;have b:=(this (n-1)).2;have c:=(h 0).2.2;rw[show n-1+1=n by omega]at b;rw[Nat.zero_add]at c;omega;simp only[Classical.not_forall]at q;obtain⟨k,e⟩:=q;refine⟨k,?_⟩;have:=((h k).1 2 (by omega) (by omega)).1;rw[H]at this;omega
theorem G0.tri{M:Int}{A:Nat->Int}(a:1<=M):G0 3 M A↔∀k,A (k+1)=1:=by
 have H:∀u,Cat.dq A u (u+2)=A (u+1):=λu=>by have:=Ix (A:=A) (x:=wv A 1 0) (y:=wv A 0 1) Cn Cn (u:=u) (t:=u);simp only[Cat.dq];rw[this,N1,S9 Cn Cn (by simp[dt,wv])];omega
 constructor;intro f k;rw[<-H];exact(f k).2.1;intro h u;have k:Cat.dq A u (u+3)=A (u+2)*Cat.dq A u (u+2)-Cat.dq A u (u+1):=Ix Cn Cn;rw[H,LW,h u,h (u+1)]at k;refine⟨λm b c=>?_,?_,by rw[k];rfl⟩;obtain rfl|rfl:m=1\/m=2:=by omega
 rw[LW];omega;rw[H,h];omega;rw[show u+(3-1)=u+2 from rfl,H,h]
end Go.Cat
namespace Go.Cat
def qa(q:List Int)(i:Nat):Int:=AB q ((i%q.length:Nat):Int)
theorem AEC{q:List Int}(k:Nat):qa q (k+q.length)=qa q k:=by simp[qa]
def D9(n j:Nat):Nat:=(j+n-1)%n
def Ey(n j:Nat):Nat:=(j+1)%n
def LF(q:List Int)(j:Nat):List Int:=BH (BH q (D9 q.length j:Nat) (AB q (D9 q.length j:Nat)-1)) (Ey q.length j:Nat) (AB (BH q (D9 q.length j:Nat) (AB q (D9 q.length j:Nat)-1)) (Ey q.length j:Nat)-1)
def ID{α:Type}(l:List α)(j:Nat):List α:=l.take j++l.drop (j+1)
def Hb(q:List Int)(j:Nat):List Int:=ID (LF q j) j
theorem PH{l:List Int}{i x:Int}:(BH l i x).length=l.length:=by simp[BH]
theorem LJ{q:List Int}{j:Nat}:(LF q j).length=q.length:=by simp[LF,BH]
theorem AF9{α:Type}{l:List α}{j:Nat}(h:j<l.length):(ID l j).length=l.length-1:=by simp[ID];omega
theorem NY{q:List Int}{j:Nat}(h:j<q.length):(Hb q j).length=q.length-1:=by rw[Hb,AF9 (by rw[LJ];exact h),LJ]
theorem PL{l:List Int}{i k:Nat}{x:Int}(h:i<l.length):AB (BH l (i:Int) x) (k:Int)=if k=i then x else AB l (k:Int):=by simp only[AB,BH,BM,Ap,List.getElem?_set];by_cases q:i=k;subst q;simp[h];simp[q,Ne.symm q]
theorem AZM{l:List Int}{j k:Nat}(h:j<l.length):AB (ID l j) (k:Int)=if k<j then AB l (k:Int)else AB l ((k+1:Nat):Int):=by simp only[AB,ID,BM,Ap];by_cases q:k<j;rw[if_pos q,DW (by simp;omega),List.getElem?_take,if_pos q];rw[if_neg q,G7 (by simp;omega)];simp only[List.length_take,List.getElem?_drop];congr 2;omega
theorem Qk{q:List Int}{j k:Nat}(H:3<=q.length)(hj:j<q.length):AB (LF q j) (k:Int)=AB q (k:Int)-(if k=D9 q.length j then 1 else 0)-(if k=Ey q.length j then 1 else 0):=by
 have a:D9 q.length j<q.length:=Nat.mod_lt _ (by omega);have b:Ey q.length j<q.length:=Nat.mod_lt _ (by omega);have c:D9 q.length j≠Ey q.length j:=by
  unfold D9 Ey;generalize q.length=n at*;rcases BS (j+1) n with h|h;rw[Nat.mod_eq_of_lt h]
  cases j with
  |zero=>rw[Nat.mod_eq_of_lt (by omega)];omega
  |succ j=>rw[show j+1+n-1=j+n by omega,Nat.add_mod_right,Nat.mod_eq_of_lt (by omega)];omega
  obtain rfl:n=j+1:=by omega
  rw[Nat.mod_self,show j+(j+1)-1=j-1+(j+1) by omega,Nat.add_mod_right,Nat.mod_eq_of_lt (by omega)];omega
 rw[LF,PL (by rw[PH];exact b),PL a,PL a];split;rename_i h;subst h;rw[if_neg (Ne.symm c),if_neg (Ne.symm c)];omega;split;rename_i h;subst h;omega;omega
theorem APV{n j:Nat}(hn:pz n)(hj:j<n):∀v,sg n j v%n=if v%(n-1)<j then v%(n-1)else v%(n-1)+1
 |0=>by unfold sg;rw[Nat.zero_mod];rcases hn with rfl|rfl|rfl|rfl|rfl|rfl|rfl<;>split<;>split<;>omega
 |v+1=>by have:=APV hn hj v;rw[U3];generalize sg n j v=s at this;rcases hn with rfl|rfl|rfl|rfl|rfl|rfl|rfl<;>simp only[Nat.add_one_sub_one]at this|-<;>split at this<;>split<;>split<;>omega
theorem Zc{q:List Int}{j:Nat}(H:pz q.length)(hj:j<q.length)(a:AB q (j:Int)=1):Gp q.length j (qa q) (qa (Hb q j)):=by
 have f:4<=q.length:=by rcases H with h|h|h|h|h|h|h<;>omega
 refine⟨H,hj,λk b=>by rw[qa,b,a],λv=>?_⟩;have e:=APV H hj v;have g:v%(q.length-1)<q.length-1:=Nat.mod_lt _ (by omega);have c:∀s,((s+1)%q.length=j↔s%q.length=D9 q.length j):=λs=>by unfold D9;generalize q.length=n at H hj;rcases H with rfl|rfl|rfl|rfl|rfl|rfl|rfl<;>omega
 have c2:∀s,((s+q.length-1)%q.length=j↔s%q.length=Ey q.length j):=λs=>by unfold Ey;generalize q.length=n at H hj;rcases H with rfl|rfl|rfl|rfl|rfl|rfl|rfl<;>omega
 simp only[c,c2];rw[qa,qa,NY hj,Hb,AZM (by rw[LJ];exact hj),Qk (by omega) hj,Qk (by omega) hj,e];split<;>rfl
def Bg(q:List Int):Nat:=q.findIdx (λx=>x==1)
def Hn:Nat->List Int->Bool
 |0,q=>q==[1,1,1]
 |f+1,q=>decide (Bg q<q.length)&&Hn f (Hb q (Bg q))
theorem Yg{q:List Int}(h:Bg q<q.length):AB q (Bg q:Nat)=1:=by have:=List.findIdx_getElem (w:=h);simp only[beq_iff_eq]at this;simp only[AB,BM,Ap];rw[FD h];exact this
theorem AKC:∀f:Nat,(1:Int)<=2^f
 |0=>by decide
 |f+1=>by have:=AKC f;rw[Int.pow_succ];omega
theorem Ve:∀f (q:List Int),q.length=f+3->f<=7->(Hn f q=true->G0 q.length (2^f) (qa q))/\(∀M,1<=M->G0 q.length M (qa q)->Hn f q=true)
 |0,q,l,_=>by
  match q,l with
  |[a,b,c],_=>
   refine⟨λh=>?_,λM i h=>?_⟩
   .simp only[Hn,beq_iff_eq,List.cons.injEq,and_true]at h
    obtain⟨rfl,rfl,rfl⟩:=h
    refine(G0.tri (by decide)).2 λk=>?_
    have:(k+1)%3=0\/(k+1)%3=1\/(k+1)%3=2:=by omega
    simp only[qa,AO,A6]
    rcases this with h|h|h<;>rw[h]<;>rfl
   .have:=(G0.tri i).1 h
    have e:=this 2
    have g:=this 0
    have a2:=this 1
    simp only[qa,AO,A6,AB]at e g a2
    simp at e g a2
    simp[Hn,e,g,a2]
 |f+1,q,l,x=>by
  have o:pz q.length:=by unfold pz;omega
  refine⟨λh=>?_,λM i h=>?_⟩
  simp only[Hn,AV,Aa]at h
  have I:=(Ve f (Hb q (Bg q)) (by rw[NY h.1];omega) (by omega)).1 h.2
  rw[NY h.1]at I
  have:=(Zc o h.1 (Yg h.1)).glue AEC (AKC f) I
  rw[show(2:Int)^(f+1)=2*2^f by rw[Int.pow_succ,Int.mul_comm]]
  exact this
  obtain⟨k,s⟩:=h.one (by omega)
  have H:Bg q<q.length:=by
   refine List.findIdx_lt_length_of_exists ⟨qa q (k+1),?_,by rw[s];rfl⟩
   simp only[qa,AB,BM,Ap]
   have:(k+1)%q.length<q.length:=Nat.mod_lt _ (by omega)
   rw[FD this]
   exact List.getElem_mem _
  simp only[Hn,AV,Aa]
  refine⟨H,(Ve f (Hb q (Bg q)) (by rw[NY H];omega) (by omega)).2 M i ?_⟩
  rw[NY H]
  exact(Zc o H (Yg H)).cut h
def Am(q:List Int)(r i:Nat):Int:=kq (λt=>qa q (i+t)) r
theorem PK{q:List Int}{r i:Nat}:Am q r (i+q.length)=Am q r i:=OR r λt _=>by rw[<-AEC (i+t)];congr 1;omega
theorem Hm{q:List Int}{r i:Nat}:Am q r (i%q.length)=Am q r i:=OR r λt _=>by simp[qa]
def frQ(q:List Int)(M:Int):Prop:=∀i,(∀m,1<=m->m<q.length->1<=Am q m i/\Am q m i<=M)/\Am q (q.length-1) i=1/\Am q q.length i=0
theorem AN6{q:List Int}{M:Int}(h:1<=q.length):frQ q M↔G0 q.length M (qa q):=by have e:∀u m,dq (qa q) u (u+m)=Am q m (u+1):=λu m=>O1 m u;constructor;intro h u;simp only[e];exact h (u+1);intro H i;have:=H (i+q.length-1);simp only[e]at this;simp only[show i+q.length-1+1=i+q.length by omega,PK]at this;exact this
theorem Rx{q:List Int}{r i:Nat}(H:1<=q.length):Am q (r+1) i*Am q (r+1) (i+1)-Am q r (i+1)*Am q (r+2) i=1:=by
 have e:∀u m,dq (qa q) u (u+m)=Am q m (u+1):=λu m=>O1 m u;rw[<-PK (i:=i+1) (r:=r+1),<-PK (i:=i+1) (r:=r),<-PK (i:=i) (r:=r+1),<-PK (i:=i) (r:=r+2)];obtain⟨u,h⟩:∃u,i+q.length=u+1:=⟨i+q.length-1,by omega⟩;rw[show i+1+q.length=u+1+1 by omega,h,<-e,<-e,<-e,<-e];have s1:∀r,dq (qa q) u (u+1)=1/\dq (qa q) u (u+(r+1))*dq (qa q) (u+1) (u+1+(r+1))-dq (qa q) (u+1) (u+1+r)*dq (qa q) u (u+(r+2))=1:=by
  intro r;refine⟨LW u,?_⟩;induction r with
  |zero=>
   have k:dq (qa q) u (u+1)=1:=LW u
   have a:dq (qa q) (u+1) (u+1+1)=1:=LW (u+1)
   have b:dq (qa q) (u+1) (u+1+0)=0:=N1
   rw[Nat.zero_add,k,a,b];omega
  |succ r I=>
   have k:dq (qa q) (u+1) (u+1+(r+2))=qa q (u+1+(r+1))*dq (qa q) (u+1) (u+1+(r+1))-dq (qa q) (u+1) (u+1+r):=Ix Cn Cn
   have a:dq (qa q) u (u+(r+3))=qa q (u+(r+2))*dq (qa q) u (u+(r+2))-dq (qa q) u (u+(r+1)):=Ix Cn Cn
   rw[show u+1+(r+1)=u+(r+2) by omega]at k
   rw[show r+1+1=r+2 from rfl,show r+1+2=r+3 from rfl,k,a]
   rw[show u+1+(r+1)=u+(r+2) by omega]at I|-
   grind
 exact(s1 r).2
end Go.Cat
