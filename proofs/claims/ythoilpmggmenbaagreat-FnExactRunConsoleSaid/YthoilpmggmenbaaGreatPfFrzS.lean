/-
 Friezes: what the reference reckons.
-/
import Derived.Test.YthoilpmggmenbaaGreatPfFrzM
import Derived.Test.YthoilpmggmenbaaGreatPfH
set_option linter.unusedSimpArgs false
set_option linter.unusedVariables false
namespace Go.Cat
variable{K:Nat->List D->List D->Prop}
theorem Xs{rs qs:List (List Int)}(h:rs.length+qs.length<=1099511627776):ED false (LL rs) (LL qs)=some (LL (rs++qs)):=KA ⟨h,rfl⟩
theorem AFY{a b c:List Int}:Dv [LI a,LI b,LI c]=some (LL [a,b,c]):=rfl
theorem appZ{p:List Int}(h:p.length<=1048576):ED true (.l []) (LI p)=some (LI p):=Qt (zs:=[]) (by simp;omega)
theorem Ux{α:Type}{f:Nat->α}{n:Nat}:(List.range (n+1)).map f=(List.range n).map f++[f n]:=by simp[List.range_succ]
def DX(q:List Int):Bool:=q.all (AR 1 100)&&AR 3 10 q.length
theorem AaO[HA K]{q:List Int}(h:q.length<=1048576):K 180 [LI q] [.b (DX q)]:=by
 refine qw I180 ?_;refine AN (λi=>∀j:Nat,j<i->AR 1 100 (AB q j)=true) (λi=>[LI q,.u,.n i,.u,.u]) q.length (by simp) rfl (λi hi P=>?_) (λP=>?_)
 .cases hx:AR 1 100 (AB q i)
  .refine wW ?_;repeat(refine cB Bt ?_;try simp(disch:=try exact dV) only[AD,hx])
   simp[DX,Lr hi hx]
  refine wW ?_;repeat(refine cB Bt ?_;try simp(disch:=try exact dV) only[AD,hx])
  exact Bf P hx
 refine wW ?_;refine cW Bt ?_;simp[DX,Ki P]
def BJ(q:List Int)(r:Nat):List Int:=(List.range q.length).map λi=>Am q r i
def Bk(q:List Int)(k:Nat):List (List Int):=(List.range k).map (BJ q)
theorem ET{q:List Int}{r:Nat}:(BJ q r).length=q.length:=by simp[BJ]
theorem E4{q:List Int}{r i:Nat}(h:i<q.length):AB (BJ q r) i=Am q r i:=by simp[AB,BJ,h]
theorem JQ{q:List Int}{k:Nat}:(Bk q k).length=k:=by simp[Bk]
theorem K6{q:List Int}{k r:Nat}(h:r<k):AF (Bk q k) r=BJ q r:=by simp[AF,Bk,h]
theorem AG3{q:List Int}{k:Nat}:Bk q (k+1)=Bk q k++[BJ q k]:=Ux
def Me(q:List Int)(k:Nat):Prop:=∀r,r<k->∀i,0<=Am q r i/\Am q r i<=100000
def MY(q:List Int):Prop:=∀r,r+3<=q.length->∀i,i<q.length->1<=Am q (r+1) (i+1)/\0<=Am q (r+3) i/\Am q (r+3) i<=100000
theorem AMQ{q:List Int}{i:Nat}:Am q 2 i=qa q i:=by simp[Am,kq]
theorem Gl{q:List Int}:DX q=true↔(∀x∈q,1<=x/\x<=100)/\3<=q.length/\q.length<=10:=by simp only[DX,AV,Ao,A5];constructor;rintro⟨a,b⟩;exact⟨a,by omega,by omega⟩;rintro⟨a,b,c⟩;exact⟨a,by omega⟩
theorem AZX{q:List Int}{i:Nat}(h:0<q.length):qa q i∈q:=by have:i%q.length<q.length:=Nat.mod_lt _ h;simp only[qa,AB,BM,Ap];rw[FD this];exact List.getElem_mem _
theorem Zq{q:List Int}(h:DX q=true):Me q 3:=by
 obtain⟨H,a,b⟩:=Gl.1 h;intro r c i;obtain rfl|rfl|rfl:r=0\/r=1\/r=2:=by omega
 simp[Am,kq];simp[Am,kq];rw[AMQ];have:=H _ (AZX (q:=q) (i:=i) (by omega));omega
theorem AR1{q:List Int}:Bk q 3=[List.replicate q.length 0,List.replicate q.length 1,q]:=by
 have e:BJ q 0=List.replicate q.length 0:=HW (by simp[BJ]) λj h=>by rw[ET]at h;rw[E4 h];simp[Am,kq,AB,h]
 have a:BJ q 1=List.replicate q.length 1:=HW (by simp[BJ]) λj h=>by rw[ET]at h;rw[E4 h];simp[Am,kq,AB,h]
 have b:BJ q 2=q:=HW (by simp[BJ]) λj h=>by rw[ET]at h;rw[E4 h,AMQ,qa,Nat.mod_eq_of_lt h]
 simp[Bk,List.range_succ,e,a,b]
open Classical in
noncomputable def Kj(q:List Int):List (List Int):=if MY q then Bk q (q.length+1)else []
theorem M8{a b:Int}(h:0<=a/\a<=100000)(H:0<=b/\b<=100000):0<=a*b/\a*b<=10000000000:=by refine⟨Int.mul_nonneg h.1 H.1,?_⟩;have c:=Int.mul_le_mul_of_nonneg_right h.2 H.1;omega
theorem Ac5[HA K]{q:List Int}(h:DX q=true):K 181 [LI q] [LL (Kj q)]:=by
 obtain⟨h1,W,h3⟩:=Gl.1 h;refine qw I181 ?_;refine Aj (λi (r:List Int)=>r=List.replicate i 1) (λi r=>[LI q,.u,.n q.length,LI (rep q.length 0),LI r,.n i,.u,.u,.u,.u,.u,.u,.u,.u,.u,.u]) q.length [] rfl rfl (λi r hi P=>?_) (λr P=>?_);have b:r.length=i:=by rw[P];simp
 refine wW ?_;refine⟨_,?_,rfl⟩;rw[P];exact List.replicate_succ'.symm;refine wW ?_;have T:[rep (q.length:Int) 0,r,q]=Bk q 3:=by rw[AR1,P];rfl
 simp(disch:=try exact dV) only[AD,appZ (p:=q) (by omega),AFY,T];refine Aj (λk (R:List (List Int))=>R=Bk q (k+3)/\Me q (k+3)/\∀r,r<k->∀i,i<q.length->1<=Am q (r+1) (i+1)/\0<=Am q (r+3) i/\Am q (r+3) i<=100000) (λk R=>[.u,.u,.n q.length,.u,.u,.u,LL R,.n ((k:Int)+3),.u,.u,.u,.u,.u,.u,.u,.u]) (q.length-2) (Bk q 3) ⟨rfl,Zq h,by omega⟩ rfl (λk R hk o=>?_) (λR o=>?_);obtain⟨H,a,G⟩:=o;have Y:R.length=k+3:=by rw[H,JQ]
 have f:AF R ((k:Int)+3-1)=BJ q (k+2):=by rw[show(k:Int)+3-1=((k+2:Nat):Int) by omega,H];exact K6 (by omega)
 have g:AF R ((k:Int)+3-2)=BJ q (k+1):=by rw[show(k:Int)+3-2=((k+1:Nat):Int) by omega,H];exact K6 (by omega)
 have la:(BJ q (k+2)).length=q.length:=ET;have lb:(BJ q (k+1)).length=q.length:=ET;refine wW ?_;refine Aj (λi (r:List Int)=>r=(List.range i).map (λi=>Am q (k+3) i)/\∀j,j<i->1<=Am q (k+1) (j+1)/\0<=Am q (k+3) j/\Am q (k+3) j<=100000) (λi r=>[.u,.u,.n q.length,.u,.u,.u,LL R,.n ((k:Int)+3),LI r,.n i,.u,.u,.u,.u,.u,.u]) q.length [] ⟨rfl,by omega⟩ rfl (λi r hi b=>?_) (λr b=>?_);have hrl:r.length=i:=by rw[b.1];simp
 have l:((i:Int)+1)%(q.length:Int)=((i+1)%q.length:Nat):=by simp[Int.natCast_emod]
 have O:(i+1)%q.length<q.length:=Nat.mod_lt _ (by omega);have U:=(a (k+2) (by omega) i);have V:=(a (k+2) (by omega) (i+1));have N:=(a (k+1) (by omega) (i+1));have g4:=M8 U V;have ru:=Rx (q:=q) (r:=k+1) (i:=i) (by omega);have C:AB (BJ q (k+2)) (i:Int)=Am q (k+2) i:=E4 hi;have c2:AB (BJ q (k+2)) ((i+1)%q.length:Nat)=Am q (k+2) (i+1):=by rw[E4 O,Hm]
 have e:AB (BJ q (k+1)) ((i+1)%q.length:Nat)=Am q (k+1) (i+1):=by rw[E4 O,Hm]
 generalize Am q (k+2) i=J at*;generalize Am q (k+2) (i+1)=L at*;have M:J*L-1=Am q (k+1) (i+1)*Am q (k+3) i:=by have:Am q (k+1+2) i=Am q (k+3) i:=rfl;rw[this]at ru;omega
 by_cases d1:Am q (k+1) (i+1)<1;simp(disch:=try exact dV) only[AD,f,g,l,C,c2,e];rw[Kj,if_neg λQ=>by have:=(Q k (by omega) i hi).1;omega];rfl;have s:(J*L-1).tmod (Am q (k+1) (i+1))=0:=by rw[M];exact Int.mul_tmod_right ..
 have B:(J*L-1).tdiv (Am q (k+1) (i+1))=Am q (k+3) i:=by rw[M];exact Int.mul_tdiv_cancel_left _ (by omega)
 have hx:-10000000000<=Am q (k+3) i/\Am q (k+3) i<=10000000000:=by
  generalize Am q (k+1) (i+1)=x at*;generalize Am q (k+3) i=y at*;have c:1<=x:=by omega
  constructor;rcases Int.lt_or_le y 0 with q|q;have:=Int.mul_le_mul_of_nonneg_left (show y<=-1 by omega) (show 0<=x by omega);have W:=Int.mul_le_mul_of_nonpos_right c (show y<=0 by omega);omega;omega;rcases Int.lt_or_le y 0 with q|q;omega;have:=Int.mul_le_mul_of_nonneg_right c q;omega
 by_cases d2:Am q (k+3) i<0;simp(disch:=try exact dV) only[AD,f,g,l,C,c2,e,s,B];rw[Kj,if_neg λQ=>by have:=(Q k (by omega) i hi).2.1;omega];rfl;by_cases d3:100000<Am q (k+3) i;simp(disch:=try exact dV) only[AD,f,g,l,C,c2,e,s,B];rw[Kj,if_neg λQ=>by have:=(Q k (by omega) i hi).2.2;omega];rfl;simp(disch:=try exact dV) only[AD,f,g,l,C,c2,e,s,B];refine⟨_,⟨by rw[Ux,<-b.1],Bf b.2 (by omega)⟩,rfl⟩;have F:r=BJ q (k+3):=b.1;have N:Me q (k+4):=by
  intro r I i;rcases BS r (k+3)with Q|Q;exact a r Q i;obtain rfl:r=k+3:=by omega
  have:=b.2 (i%q.length) (Nat.mod_lt _ (by omega));rw[Hm]at this;exact this.2
 simp(disch:=try exact dV) only[AD,GB,Xs];refine⟨_,⟨by rw[F,H];exact AG3.symm,N,Bf G b.2⟩,rfl⟩;have F:q.length-2+3=q.length+1:=by omega
 refine wW ?_;have Z:MY q:=λr I i hi=>o.2.2 r (by omega) i hi;rw[Kj,if_pos Z,o.1,F]
theorem Lm{q:List Int}(h:DX q=true)(o:MY q):Me q (q.length+1):=by obtain⟨H,a,b⟩:=Gl.1 h;intro r c i;rcases BS r 3 with Q|Q;exact Zq h r Q i;have:=o (r-3) (by omega) (i%q.length) (Nat.mod_lt _ (by omega));rw[show r-3+3=r by omega,Hm]at this;exact this.2
def PF(q:List Int)(r i:Nat):Prop:=(r=q.length->Am q r i=0)/\(1<=r->r<q.length->1<=Am q r i/\Am q r i<=100000)/\(r+1=q.length->Am q r i=1)
def GC(q:List Int):Prop:=∀r,r<q.length+1->∀i,i<q.length->PF q r i
theorem AJG{q:List Int}(h:1<=q.length):GC q↔frQ q 100000:=by constructor;intro f i;have H:=λr c=>f r c (i%q.length) (Nat.mod_lt _ (by omega));simp only[PF,Hm]at H;exact⟨λm j k=>(H m (by omega)).2.1 j k,(H (q.length-1) (by omega)).2.2 (by omega),(H q.length (by omega)).1 rfl⟩;intro f r c i hi;obtain⟨F,g,f3⟩:=f i;exact⟨λe=>by rw[e];exact f3,λa b=>F r a b,λe=>by rw[show r=q.length-1 by omega];exact g⟩
theorem K8{q:List Int}(h:DX q=true)(f:GC q):MY q:=by obtain⟨a,b,c⟩:=Gl.1 h;obtain H:=(AJG (by omega)).1 f;intro r e i hi;refine⟨((H (i+1)).1 (r+1) (by omega) (by omega)).1,?_⟩;by_cases Q:r+3=q.length;rw[Q,(H i).2.2];omega;have:=(H i).1 (r+3) (by omega) (by omega);omega
theorem ATM[HA K]:K 182 [LL []] [.b false]:=by refine qw AL1 ?_;refine cB Bt ?_;simp(disch:=try exact dV) only[AD,show AR 3 10 ((([]:List (List Int)).length:Int)-1)=false from rfl]
open Classical in
theorem Zg[HA K]{q:List Int}(h:DX q=true)(V:MY q):K 182 [LL (Bk q (q.length+1))] [.b (decide (GC q))]:=by
 obtain⟨h1,h2,h3⟩:=Gl.1 h;have f:=Lm h V;have O:(Bk q (q.length+1)).length=q.length+1:=JQ;have a:∀r:Nat,r<q.length+1->AF (Bk q (q.length+1)) r=BJ q r:=λr o=>K6 o;generalize Bk q (q.length+1)=R at*;refine qw AL1 ?_;refine cB Bt ?_;have j:AR 3 10 ((R.length:Int)-1)=true:=A5.2 (by omega);have l:(R.length:Int)-1=q.length:=by omega
 simp(disch:=try exact dV) only[AD,j,l];rw[l]at j;simp(disch:=try exact dV) only[AD,j];refine Aj (λr (_:Unit)=>∀G,G < r->∀i,i<q.length->PF q G i) (λr _=>[LL R,.u,.n q.length,.n r,.u,.u,.u,.u,.u,.u,.u,.u,.u,.u,.u,.u]) (q.length+1) () (by omega) rfl (λr _ o P=>?_) (λ_ P=>?_);have H:=a r o;have T:(BJ q r).length=q.length:=ET;simp(disch:=try exact dV) only[AD,H];refine AN (λi=>∀I,I < i->PF q r I) (λi=>[LL R,.u,.n q.length,.n r,.n i,.u,.u,.u,.u,.u,.u,.u,.u,.u,.u,.u]) q.length (by omega) rfl (λi hi Q=>?_) (λQ=>?_);have c:AB (BJ q r) i=Am q r i:=E4 hi;have N:¬PF q r i->decide (GC q)=false:=λU=>decide_eq_false λC=>U (C r o i hi);rcases(show r=0\/r=q.length\/1<=r/\r<q.length by omega)with e|e|e;have x:Am q r i=0:=by rw[e];rfl
 simp(disch:=try exact dV) only[AD,H,c,x];exact Bf Q ⟨λ_=>x,by omega,by omega⟩;by_cases x:Am q r i=0;simp(disch:=try exact dV) only[AD,H,c,x];exact Bf Q ⟨λ_=>x,by omega,by omega⟩;simp(disch:=try exact dV) only[AD,H,c];rw[N λs=>x (s.1 e)]
 cases x:AR 1 100000 (Am q r i);simp(disch:=try exact dV) only[AD,H,c];refine cB Bt ?_;simp(disch:=try exact dV) only[AD,x];rw[N λs=>by have:=s.2.1 e.1 e.2;rw[A5.2 this]at x;cases x];have k:=A5.1 x;rcases(show r=1\/r+1=q.length/\1<r\/1<r/\r+1<q.length by omega)with B|B|B;have g:Am q r i=1:=by rw[B];rfl
 simp(disch:=try exact dV) only[AD,H,c];refine cB Bt ?_;simp(disch:=try exact dV) only[AD,x,H,c];exact Bf Q ⟨by omega,λ_ _=>k,λ_=>g⟩;by_cases g:Am q r i=1;simp(disch:=try exact dV) only[AD,H,c];refine cB Bt ?_;simp(disch:=try exact dV) only[AD,x,H,c];exact Bf Q ⟨by omega,λ_ _=>k,λ_=>g⟩;simp(disch:=try exact dV) only[AD,H,c];refine cB Bt ?_;simp(disch:=try exact dV) only[AD,x,H,c];rw[N λs=>g (s.2.2 B.1)];simp(disch:=try exact dV) only[AD,H,c];refine cB Bt ?_;simp(disch:=try exact dV) only[AD,x,H,c];exact Bf Q ⟨by omega,λ_ _=>k,by omega⟩;refine wW ?_;exact⟨(),Bf P Q⟩;have C:decide (GC q)=true:=decide_eq_true P;refine wW ?_;refine AN (λ_=>True) (λr=>[LL R,.u,.n q.length,.u,.u,.u,.n ((r:Int)+1),.u,.u,.u,.u,.u,.u,.u,.u,.u]) (q.length-1) trivial rfl (λr o _=>?_) (λ_=>?_);refine wW ?_;refine AN (λ_=>True) (λi=>[LL R,.u,.n q.length,.u,.u,.u,.n ((r:Int)+1),.n i,.u,.u,.u,.u,.u,.u,.u,.u]) q.length trivial rfl (λi hi _=>?_) (λ_=>?_);have Y:AF R ((r:Int)+1)=BJ q (r+1):=a (r+1) (by omega);have W:AF R ((r:Int)+1-1)=BJ q r:=by rw[show(r:Int)+1-1=r by omega];exact a r (by omega)
 have Z:AF R ((r:Int)+1+1)=BJ q (r+2):=a (r+2) (by omega);have l0:(BJ q r).length=q.length:=ET;have l1:(BJ q (r+1)).length=q.length:=ET;have l2:(BJ q (r+2)).length=q.length:=ET;have M:((i:Int)+1)%(q.length:Int)=((i+1)%q.length:Nat):=by simp[Int.natCast_emod]
 have F:(i+1)%q.length<q.length:=Nat.mod_lt _ (by omega);have c:AB (BJ q (r+1)) i=Am q (r+1) i:=E4 hi;have c2:AB (BJ q (r+1)) ((i+1)%q.length:Nat)=Am q (r+1) (i+1):=by rw[E4 F,Hm]
 have J:AB (BJ q r) ((i+1)%q.length:Nat)=Am q r (i+1):=by rw[E4 F,Hm]
 have L:AB (BJ q (r+2)) i=Am q (r+2) i:=E4 hi;have ru:=Rx (q:=q) (r:=r) (i:=i) (by omega);have m1:=M8 (f (r+1) (by omega) i) (f (r+1) (by omega) (i+1));have m2:=M8 (f r (by omega) (i+1)) (f (r+2) (by omega) i);simp(disch:=try exact dV) only[AD,Y,W,Z,M,c,c2,J,L];exact wZ;refine wW ?_;rw[C]
open Classical in
noncomputable def G2(q:List Int):List (List Int):=if DX q=true/\GC q then Bk q (q.length+1)else []
open Classical in
noncomputable def Fa(q:List Int):Bool:=decide (DX q=true/\GC q)
theorem ff_s[HA K]{q:List Int}(h:q.length<=1048576):K 136 [LI q] [LL (G2 q),.b (Fa q)]:=by
 refine qw I136 ?_;refine cB (AaO h) ?_
 cases H:DX q;refine wW ?_;simp[G2,Fa,H,LL];refine wW ?_;refine cW (Ac5 H) ?_;by_cases o:MY q;rw[Kj,if_pos o];refine cB (Zg H o) ?_;by_cases f:GC q;simp only[f,decide_true];refine wW ?_;simp[G2,Fa,H,f];simp only[f,decide_false];refine wW ?_;simp[G2,Fa,H,f,LL];rw[Kj,if_neg o];refine cB ATM ?_;have f:¬GC q:=λf=>o (K8 H f);refine wW ?_;simp[G2,Fa,H,f,LL]
def El(R:List (List Int)):Int:=(R.map List.sum).sum
theorem Ys{l:List Int}{i:Nat}(h:i<l.length):(l.take (i+1)).sum=(l.take i).sum+AB l i:=by rw[CP h,List.sum_append];simp[AB,h]
theorem AIJ{R:List (List Int)}{i:Nat}(h:i<R.length):El (R.take (i+1))=El (R.take i)+(AF R i).sum:=by rw[CP h,El,List.map_append,List.sum_append];simp[El,AF,h]
theorem ASX{l:List Int}{M:Int}(h:∀x∈l,0<=x/\x<=M):0<=l.sum/\l.sum<=M*l.length:=by
 induction l with
 |nil=>simp
 |cons a l i=>
  have I:=i λx H=>h x (BN _ H)
  have b:=h a (List.mem_cons_self ..)
  simp only[List.sum_cons,AO]
  have e:M*((l.length+1:Nat):Int)=M*l.length+M:=by push_cast;rw[Int.mul_add,Int.mul_one]
  rw[e]
  omega
def P0(R:List (List Int)):Prop:=R.length<=11/\∀r∈R,r.length<=10/\∀x∈r,0<=x/\x<=100000
theorem Vk{r:List Int}(h:r.length<=10/\∀x∈r,0<=x/\x<=100000):0<=r.sum/\r.sum<=1000000:=by have:=ASX h.2;omega
theorem W9{R:List (List Int)}(h:P0 R)(i:Nat):0<=El (R.take i)/\El (R.take i)<=11000000:=by
 have:=ASX (l:=(R.take i).map List.sum) (M:=1000000) λx a=>by obtain⟨r,H,rfl⟩:=List.mem_map.1 a;exact Vk (h.2 r (List.mem_of_mem_take H))
 have b:=h.1;simp only[List.length_map,List.length_take]at this;have e:El (R.take i)=((R.take i).map List.sum).sum:=rfl;omega
theorem ALU{m:List (List Int)}{i:Nat}(h:i<m.length):AF m i∈m:=by simp[AF,h]
theorem Rn{m:List Int}{i:Nat}(h:i<m.length):AB m i∈m:=by simp[AB,h]
theorem AUP[HA K]{R:List (List Int)}(h:P0 R)(f:K 182 [LL R] [.b true]):K 139 [LL R] [.n (El R)]:=by have l:=h.1;refine qw I139 ?_;refine cW f ?_;refine Aj (λr (x:Int)=>x=El (R.take r)) (λr x=>[LL R,.u,.n x,.n r,.u,.u,.u,.u]) R.length 0 rfl rfl (λr x a P=>?_) (λx P=>?_);have H:=h.2 _ (ALU a);have s:=AIJ a;have B:=W9 h r;refine wW ?_;refine Aj (λi (y:Int)=>y=x+((AF R r).take i).sum) (λi y=>[LL R,.u,.n y,.n r,.n i,.u,.u,.u]) (AF R r).length x (by simp) rfl (λi y hi Q=>?_) (λy Q=>?_);have c:=Ys hi;have b1:=Vk (r:=(AF R r).take i) ⟨by simp;omega,λx e=>H.2 x (List.mem_of_mem_take e)⟩;have b2:=H.2 _ (Rn hi);refine wW ?_;refine⟨_,?_,rfl⟩;rw[c,Q];omega;rw[List.take_of_length_le (by omega)]at Q;refine wW ?_;refine⟨_,?_,rfl⟩;rw[s,Q,P];refine wW ?_;rw[P,List.take_of_length_le (by omega)]
end Go.Cat
