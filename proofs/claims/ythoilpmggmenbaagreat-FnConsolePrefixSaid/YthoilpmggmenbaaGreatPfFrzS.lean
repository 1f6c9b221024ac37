/-
 Friezes: what the reference reckons.
-/
import Derived.Test.YthoilpmggmenbaaGreatPfSch
set_option linter.unusedSimpArgs false
set_option linter.unusedVariables false
namespace Go.Cat
variable{K:Nat->List D->List D->Prop}
theorem Yj{rs qs:List (List Int)}(h:rs.length+qs.length<=1099511627776):EG false (LL rs) (LL qs)=some (LL (rs++qs)):=KG ⟨h,rfl⟩
theorem AAN{a b c:List Int}:DK [LI a,LI b,LI c]=some (LL [a,b,c]):=rfl
theorem appZ{p:List Int}(h:p.length<=1048576):EG true (.l []) (LI p)=some (LI p):=RP (zs:=[]) (by simp;omega)
theorem Uf{α:Type}{f:Nat->α}{n:Nat}:(List.range (n+1)).map f=(List.range n).map f++[f n]:=by simp[List.range_succ]
def D5(q:List Int):Bool:=q.all (AR 1 100)&&AR 3 10 q.length
theorem Al3[HA K]{q:List Int}(h:q.length<=1048576):K 180 [LI q] [.b (D5 q)]:=by
 refine qw I180 ?_;refine AN (λi=>∀j:Nat,j<i->AR 1 100 (AB q j)=true) (λi=>[LI q,.u,.n i,.u,.u]) q.length (by simp) rfl (λi hi P=>?_) (λP=>?_)
 .cases hx:AR 1 100 (AB q i)
  .refine wW ?_;repeat(refine cB Bt ?_;try simp(disch:=try exact dV) only[AD,hx])
   simp[D5,LU hi hx]
  refine wW ?_;repeat(refine cB Bt ?_;try simp(disch:=try exact dV) only[AD,hx])
  exact Bg P hx
 refine wW ?_;refine cW Bt ?_;simp[D5,KX P]
def BJ(q:List Int)(r:Nat):List Int:=(List.range q.length).map λi=>An q r i
def Bl(q:List Int)(k:Nat):List (List Int):=(List.range k).map (BJ q)
theorem EU{q:List Int}{r:Nat}:(BJ q r).length=q.length:=by simp[BJ]
theorem EV{q:List Int}{r i:Nat}(h:i<q.length):AB (BJ q r) i=An q r i:=by simp[AB,BJ,h]
theorem JO{q:List Int}{k:Nat}:(Bl q k).length=k:=by simp[Bl]
theorem KB{q:List Int}{k r:Nat}(h:r<k):AG (Bl q k) r=BJ q r:=by simp[AG,Bl,h]
theorem ALV{q:List Int}{k:Nat}:Bl q (k+1)=Bl q k++[BJ q k]:=Uf
def OM(q:List Int)(k:Nat):Prop:=∀r,r<k->∀i,0<=An q r i/\An q r i<=100000
def NV(q:List Int):Prop:=∀r,r+3<=q.length->∀i,i<q.length->1<=An q (r+1) (i+1)/\0<=An q (r+3) i/\An q (r+3) i<=100000
theorem ACG{q:List Int}{i:Nat}:An q 2 i=qa q i:=by simp[An,kq]
theorem Gi{q:List Int}:D5 q=true↔(∀x∈q,1<=x/\x<=100)/\3<=q.length/\q.length<=10:=by simp only[D5,AV,Ao,A7];constructor;rintro⟨a,b⟩;exact⟨a,by omega,by omega⟩;rintro⟨a,b,c⟩;exact⟨a,by omega⟩
theorem AZM{q:List Int}{i:Nat}(h:0<q.length):qa q i∈q:=by have:i%q.length<q.length:=Nat.mod_lt _ h;simp only[qa,AB,BM,Ap];rw[Eg this];exact List.getElem_mem _
theorem ACT{q:List Int}(h:D5 q=true):OM q 3:=by
 obtain⟨H,a,b⟩:=Gi.1 h;intro r c i;obtain rfl|rfl|rfl:r=0\/r=1\/r=2:=by omega
 simp[An,kq];simp[An,kq];rw[ACG];have:=H _ (AZM (q:=q) (i:=i) (by omega));omega
theorem ALD{q:List Int}:Bl q 3=[List.replicate q.length 0,List.replicate q.length 1,q]:=by
 have e:BJ q 0=List.replicate q.length 0:=HV (by simp[BJ]) λj h=>by rw[EU]at h;rw[EV h];simp[An,kq,AB,h]
 have a:BJ q 1=List.replicate q.length 1:=HV (by simp[BJ]) λj h=>by rw[EU]at h;rw[EV h];simp[An,kq,AB,h]
 have b:BJ q 2=q:=HV (by simp[BJ]) λj h=>by rw[EU]at h;rw[EV h,ACG,qa,Nat.mod_eq_of_lt h]
 simp[Bl,List.range_succ,e,a,b]
open Classical in
noncomputable def MV(q:List Int):List (List Int):=if NV q then Bl q (q.length+1)else []
theorem OA{a b:Int}(h:0<=a/\a<=100000)(H:0<=b/\b<=100000):0<=a*b/\a*b<=10000000000:=by refine⟨Int.mul_nonneg h.1 H.1,?_⟩;have c:=Int.mul_le_mul_of_nonneg_right h.2 H.1;omega
theorem Aj6[HA K]{q:List Int}(h:D5 q=true):K 181 [LI q] [LL (MV q)]:=by
 obtain⟨h1,W,h3⟩:=Gi.1 h;refine qw I181 ?_;refine Ah (λi (r:List Int)=>r=List.replicate i 1) (λi r=>[LI q,.u,.n q.length,LI (rep q.length 0),LI r,.n i,.u,.u,.u,.u,.u,.u,.u,.u,.u,.u]) q.length [] rfl rfl (λi r hi P=>?_) (λr P=>?_);have b:r.length=i:=by rw[P];simp
 refine wW ?_;refine⟨_,?_,rfl⟩;rw[P];exact List.replicate_succ'.symm;refine wW ?_;have T:[rep (q.length:Int) 0,r,q]=Bl q 3:=by rw[ALD,P];rfl
 simp(disch:=try exact dV) only[AD,appZ (p:=q) (by omega),AAN,T];refine Ah (λk (R:List (List Int))=>R=Bl q (k+3)/\OM q (k+3)/\∀r,r<k->∀i,i<q.length->1<=An q (r+1) (i+1)/\0<=An q (r+3) i/\An q (r+3) i<=100000) (λk R=>[.u,.u,.n q.length,.u,.u,.u,LL R,.n ((k:Int)+3),.u,.u,.u,.u,.u,.u,.u,.u]) (q.length-2) (Bl q 3) ⟨rfl,ACT h,by omega⟩ rfl (λk R hk o=>?_) (λR o=>?_);obtain⟨H,a,G⟩:=o;have Y:R.length=k+3:=by rw[H,JO]
 have f:AG R ((k:Int)+3-1)=BJ q (k+2):=by rw[show(k:Int)+3-1=((k+2:Nat):Int) by omega,H];exact KB (by omega)
 have g:AG R ((k:Int)+3-2)=BJ q (k+1):=by rw[show(k:Int)+3-2=((k+1:Nat):Int) by omega,H];exact KB (by omega)
 have la:(BJ q (k+2)).length=q.length:=EU;have lb:(BJ q (k+1)).length=q.length:=EU;refine wW ?_;refine Ah (λi (r:List Int)=>r=(List.range i).map (λi=>An q (k+3) i)/\∀j,j<i->1<=An q (k+1) (j+1)/\0<=An q (k+3) j/\An q (k+3) j<=100000) (λi r=>[.u,.u,.n q.length,.u,.u,.u,LL R,.n ((k:Int)+3),LI r,.n i,.u,.u,.u,.u,.u,.u]) q.length [] ⟨rfl,by omega⟩ rfl (λi r hi b=>?_) (λr b=>?_);have hrl:r.length=i:=by rw[b.1];simp
 have l:((i:Int)+1)%(q.length:Int)=((i+1)%q.length:Nat):=by simp[Int.natCast_emod]
 have O:(i+1)%q.length<q.length:=Nat.mod_lt _ (by omega);have U:=(a (k+2) (by omega) i);have V:=(a (k+2) (by omega) (i+1));have N:=(a (k+1) (by omega) (i+1));have g4:=OA U V;have ru:=SC (q:=q) (r:=k+1) (i:=i) (by omega);have C:AB (BJ q (k+2)) (i:Int)=An q (k+2) i:=EV hi;have c2:AB (BJ q (k+2)) ((i+1)%q.length:Nat)=An q (k+2) (i+1):=by rw[EV O,IQ]
 have e:AB (BJ q (k+1)) ((i+1)%q.length:Nat)=An q (k+1) (i+1):=by rw[EV O,IQ]
 generalize An q (k+2) i=J at*;generalize An q (k+2) (i+1)=L at*;have M:J*L-1=An q (k+1) (i+1)*An q (k+3) i:=by have:An q (k+1+2) i=An q (k+3) i:=rfl;rw[this]at ru;omega
 by_cases d1:An q (k+1) (i+1)<1;simp(disch:=try exact dV) only[AD,f,g,l,C,c2,e];rw[MV,if_neg λQ=>by have:=(Q k (by omega) i hi).1;omega];rfl;have s:(J*L-1).tmod (An q (k+1) (i+1))=0:=by rw[M];exact Int.mul_tmod_right ..
 have B:(J*L-1).tdiv (An q (k+1) (i+1))=An q (k+3) i:=by rw[M];exact Int.mul_tdiv_cancel_left _ (by omega)
 have hx:-10000000000<=An q (k+3) i/\An q (k+3) i<=10000000000:=by
  generalize An q (k+1) (i+1)=x at*;generalize An q (k+3) i=y at*;have c:1<=x:=by omega
  constructor;rcases Int.lt_or_le y 0 with q|q;have:=Int.mul_le_mul_of_nonneg_left (show y<=-1 by omega) (show 0<=x by omega);have W:=Int.mul_le_mul_of_nonpos_right c (show y<=0 by omega);omega;omega;rcases Int.lt_or_le y 0 with q|q;omega;have:=Int.mul_le_mul_of_nonneg_right c q;omega
 by_cases d2:An q (k+3) i<0;simp(disch:=try exact dV) only[AD,f,g,l,C,c2,e,s,B];rw[MV,if_neg λQ=>by have:=(Q k (by omega) i hi).2.1;omega];rfl;by_cases d3:100000<An q (k+3) i;simp(disch:=try exact dV) only[AD,f,g,l,C,c2,e,s,B];rw[MV,if_neg λQ=>by have:=(Q k (by omega) i hi).2.2;omega];rfl;simp(disch:=try exact dV) only[AD,f,g,l,C,c2,e,s,B];refine⟨_,⟨by rw[Uf,<-b.1],Bg b.2 (by omega)⟩,rfl⟩;have F:r=BJ q (k+3):=b.1;have N:OM q (k+4):=by
  intro r I i;rcases BQ r (k+3)with Q|Q;exact a r Q i;obtain rfl:r=k+3:=by omega
  have:=b.2 (i%q.length) (Nat.mod_lt _ (by omega));rw[IQ]at this;exact this.2
 simp(disch:=try exact dV) only[AD,Fv,Yj];refine⟨_,⟨by rw[F,H];exact ALV.symm,N,Bg G b.2⟩,rfl⟩;have F:q.length-2+3=q.length+1:=by omega
 refine wW ?_;have Z:NV q:=λr I i hi=>o.2.2 r (by omega) i hi;rw[MV,if_pos Z,o.1,F]
theorem Ls{q:List Int}(h:D5 q=true)(o:NV q):OM q (q.length+1):=by obtain⟨H,a,b⟩:=Gi.1 h;intro r c i;rcases BQ r 3 with Q|Q;exact ACT h r Q i;have:=o (r-3) (by omega) (i%q.length) (Nat.mod_lt _ (by omega));rw[show r-3+3=r by omega,IQ]at this;exact this.2
def Oh(q:List Int)(r i:Nat):Prop:=(r=q.length->An q r i=0)/\(1<=r->r<q.length->1<=An q r i/\An q r i<=100000)/\(r+1=q.length->An q r i=1)
def GB(q:List Int):Prop:=∀r,r<q.length+1->∀i,i<q.length->Oh q r i
theorem ZQ{q:List Int}(h:1<=q.length):GB q↔frQ q 100000:=by constructor;intro f i;have H:=λr c=>f r c (i%q.length) (Nat.mod_lt _ (by omega));simp only[Oh,IQ]at H;exact⟨λm j k=>(H m (by omega)).2.1 j k,(H (q.length-1) (by omega)).2.2 (by omega),(H q.length (by omega)).1 rfl⟩;intro f r c i hi;obtain⟨F,g,f3⟩:=f i;exact⟨λe=>by rw[e];exact f3,λa b=>F r a b,λe=>by rw[show r=q.length-1 by omega];exact g⟩
theorem Jt{q:List Int}(h:D5 q=true)(f:GB q):NV q:=by obtain⟨a,b,c⟩:=Gi.1 h;obtain H:=(ZQ (by omega)).1 f;intro r e i hi;refine⟨((H (i+1)).1 (r+1) (by omega) (by omega)).1,?_⟩;by_cases Q:r+3=q.length;rw[Q,(H i).2.2];omega;have:=(H i).1 (r+3) (by omega) (by omega);omega
theorem AXK[HA K]:K 182 [LL []] [.b false]:=by refine qw AGQ ?_;refine cB Bt ?_;simp(disch:=try exact dV) only[AD,show AR 3 10 ((([]:List (List Int)).length:Int)-1)=false from rfl]
open Classical in
theorem AJK[HA K]{q:List Int}(h:D5 q=true)(V:NV q):K 182 [LL (Bl q (q.length+1))] [.b (decide (GB q))]:=by
 obtain⟨h1,h2,h3⟩:=Gi.1 h;have f:=Ls h V;have O:(Bl q (q.length+1)).length=q.length+1:=JO;have a:∀r:Nat,r<q.length+1->AG (Bl q (q.length+1)) r=BJ q r:=λr o=>KB o;generalize Bl q (q.length+1)=R at*;refine qw AGQ ?_;refine cB Bt ?_;have j:AR 3 10 ((R.length:Int)-1)=true:=A7.2 (by omega);have l:(R.length:Int)-1=q.length:=by omega
 simp(disch:=try exact dV) only[AD,j,l];rw[l]at j;simp(disch:=try exact dV) only[AD,j];refine Ah (λr (_:Unit)=>∀G,G < r->∀i,i<q.length->Oh q G i) (λr _=>[LL R,.u,.n q.length,.n r,.u,.u,.u,.u,.u,.u,.u,.u,.u,.u,.u,.u]) (q.length+1) () (by omega) rfl (λr _ o P=>?_) (λ_ P=>?_);have H:=a r o;have T:(BJ q r).length=q.length:=EU;simp(disch:=try exact dV) only[AD,H];refine AN (λi=>∀I,I < i->Oh q r I) (λi=>[LL R,.u,.n q.length,.n r,.n i,.u,.u,.u,.u,.u,.u,.u,.u,.u,.u,.u]) q.length (by omega) rfl (λi hi Q=>?_) (λQ=>?_);have c:AB (BJ q r) i=An q r i:=EV hi;have N:¬Oh q r i->decide (GB q)=false:=λU=>decide_eq_false λC=>U (C r o i hi);rcases(show r=0\/r=q.length\/1<=r/\r<q.length by omega)with e|e|e;have x:An q r i=0:=by rw[e];rfl
 simp(disch:=try exact dV) only[AD,H,c,x];exact Bg Q ⟨λ_=>x,by omega,by omega⟩;by_cases x:An q r i=0;simp(disch:=try exact dV) only[AD,H,c,x];exact Bg Q ⟨λ_=>x,by omega,by omega⟩;simp(disch:=try exact dV) only[AD,H,c];rw[N λs=>x (s.1 e)]
 cases x:AR 1 100000 (An q r i);simp(disch:=try exact dV) only[AD,H,c];refine cB Bt ?_;simp(disch:=try exact dV) only[AD,x];rw[N λs=>by have:=s.2.1 e.1 e.2;rw[A7.2 this]at x;cases x];have k:=A7.1 x;rcases(show r=1\/r+1=q.length/\1<r\/1<r/\r+1<q.length by omega)with B|B|B;have g:An q r i=1:=by rw[B];rfl
 simp(disch:=try exact dV) only[AD,H,c];refine cB Bt ?_;simp(disch:=try exact dV) only[AD,x,H,c];exact Bg Q ⟨by omega,λ_ _=>k,λ_=>g⟩;by_cases g:An q r i=1;simp(disch:=try exact dV) only[AD,H,c];refine cB Bt ?_;simp(disch:=try exact dV) only[AD,x,H,c];exact Bg Q ⟨by omega,λ_ _=>k,λ_=>g⟩;simp(disch:=try exact dV) only[AD,H,c];refine cB Bt ?_;simp(disch:=try exact dV) only[AD,x,H,c];rw[N λs=>g (s.2.2 B.1)];simp(disch:=try exact dV) only[AD,H,c];refine cB Bt ?_;simp(disch:=try exact dV) only[AD,x,H,c];exact Bg Q ⟨by omega,λ_ _=>k,by omega⟩;refine wW ?_;exact⟨(),Bg P Q⟩;have C:decide (GB q)=true:=decide_eq_true P;refine wW ?_;refine AN (λ_=>True) (λr=>[LL R,.u,.n q.length,.u,.u,.u,.n ((r:Int)+1),.u,.u,.u,.u,.u,.u,.u,.u,.u]) (q.length-1) trivial rfl (λr o _=>?_) (λ_=>?_);refine wW ?_;refine AN (λ_=>True) (λi=>[LL R,.u,.n q.length,.u,.u,.u,.n ((r:Int)+1),.n i,.u,.u,.u,.u,.u,.u,.u,.u]) q.length trivial rfl (λi hi _=>?_) (λ_=>?_);have Y:AG R ((r:Int)+1)=BJ q (r+1):=a (r+1) (by omega);have W:AG R ((r:Int)+1-1)=BJ q r:=by rw[show(r:Int)+1-1=r by omega];exact a r (by omega)
 have Z:AG R ((r:Int)+1+1)=BJ q (r+2):=a (r+2) (by omega);have l0:(BJ q r).length=q.length:=EU;have l1:(BJ q (r+1)).length=q.length:=EU;have l2:(BJ q (r+2)).length=q.length:=EU;have M:((i:Int)+1)%(q.length:Int)=((i+1)%q.length:Nat):=by simp[Int.natCast_emod]
 have F:(i+1)%q.length<q.length:=Nat.mod_lt _ (by omega);have c:AB (BJ q (r+1)) i=An q (r+1) i:=EV hi;have c2:AB (BJ q (r+1)) ((i+1)%q.length:Nat)=An q (r+1) (i+1):=by rw[EV F,IQ]
 have J:AB (BJ q r) ((i+1)%q.length:Nat)=An q r (i+1):=by rw[EV F,IQ]
 have L:AB (BJ q (r+2)) i=An q (r+2) i:=EV hi;have ru:=SC (q:=q) (r:=r) (i:=i) (by omega);have m1:=OA (f (r+1) (by omega) i) (f (r+1) (by omega) (i+1));have m2:=OA (f r (by omega) (i+1)) (f (r+2) (by omega) i);simp(disch:=try exact dV) only[AD,Y,W,Z,M,c,c2,J,L];exact wZ;refine wW ?_;rw[C]
open Classical in
noncomputable def G6(q:List Int):List (List Int):=if D5 q=true/\GB q then Bl q (q.length+1)else []
open Classical in
noncomputable def Fc(q:List Int):Bool:=decide (D5 q=true/\GB q)
theorem ff_s[HA K]{q:List Int}(h:q.length<=1048576):K 136 [LI q] [LL (G6 q),.b (Fc q)]:=by
 refine qw I136 ?_;refine cB (Al3 h) ?_
 cases H:D5 q;refine wW ?_;simp[G6,Fc,H,LL];refine wW ?_;refine cW (Aj6 H) ?_;by_cases o:NV q;rw[MV,if_pos o];refine cB (AJK H o) ?_;by_cases f:GB q;simp only[f,decide_true];refine wW ?_;simp[G6,Fc,H,f];simp only[f,decide_false];refine wW ?_;simp[G6,Fc,H,f,LL];rw[MV,if_neg o];refine cB AXK ?_;have f:¬GB q:=λf=>o (Jt H f);refine wW ?_;simp[G6,Fc,H,f,LL]
def FA(R:List (List Int)):Int:=(R.map List.sum).sum
theorem ART{l:List Int}{i:Nat}(h:i<l.length):(l.take (i+1)).sum=(l.take i).sum+AB l i:=by rw[CQ h,List.sum_append];simp[AB,h]
theorem AQX{R:List (List Int)}{i:Nat}(h:i<R.length):FA (R.take (i+1))=FA (R.take i)+(AG R i).sum:=by rw[CQ h,FA,List.map_append,List.sum_append];simp[FA,AG,h]
theorem AJ9{l:List Int}{M:Int}(h:∀x∈l,0<=x/\x<=M):0<=l.sum/\l.sum<=M*l.length:=by
 induction l with
 |nil=>simp
 |cons a l i=>
  have I:=i λx H=>h x (BP _ H)
  have b:=h a (List.mem_cons_self ..)
  simp only[List.sum_cons,AP]
  have e:M*((l.length+1:Nat):Int)=M*l.length+M:=by push_cast;rw[Int.mul_add,Int.mul_one]
  rw[e]
  omega
def PA(R:List (List Int)):Prop:=R.length<=11/\∀r∈R,r.length<=10/\∀x∈r,0<=x/\x<=100000
theorem Ug{r:List Int}(h:r.length<=10/\∀x∈r,0<=x/\x<=100000):0<=r.sum/\r.sum<=1000000:=by have:=AJ9 h.2;omega
theorem VW{R:List (List Int)}(h:PA R)(i:Nat):0<=FA (R.take i)/\FA (R.take i)<=11000000:=by
 have:=AJ9 (l:=(R.take i).map List.sum) (M:=1000000) λx a=>by obtain⟨r,H,rfl⟩:=List.mem_map.1 a;exact Ug (h.2 r (List.mem_of_mem_take H))
 have b:=h.1;simp only[List.length_map,List.length_take]at this;have e:FA (R.take i)=((R.take i).map List.sum).sum:=rfl;omega
theorem AKU{m:List (List Int)}{i:Nat}(h:i<m.length):AG m i∈m:=by simp[AG,h]
theorem Te{m:List Int}{i:Nat}(h:i<m.length):AB m i∈m:=by simp[AB,h]
theorem AiB[HA K]{R:List (List Int)}(h:PA R)(f:K 182 [LL R] [.b true]):K 139 [LL R] [.n (FA R)]:=by have l:=h.1;refine qw I139 ?_;refine cW f ?_;refine Ah (λr (x:Int)=>x=FA (R.take r)) (λr x=>[LL R,.u,.n x,.n r,.u,.u,.u,.u]) R.length 0 rfl rfl (λr x a P=>?_) (λx P=>?_);have H:=h.2 _ (AKU a);have s:=AQX a;have B:=VW h r;refine wW ?_;refine Ah (λi (y:Int)=>y=x+((AG R r).take i).sum) (λi y=>[LL R,.u,.n y,.n r,.n i,.u,.u,.u]) (AG R r).length x (by simp) rfl (λi y hi Q=>?_) (λy Q=>?_);have c:=ART hi;have b1:=Ug (r:=(AG R r).take i) ⟨by simp;omega,λx e=>H.2 x (List.mem_of_mem_take e)⟩;have b2:=H.2 _ (Te hi);refine wW ?_;refine⟨_,?_,rfl⟩;rw[c,Q];omega;rw[List.take_of_length_le (by omega)]at Q;refine wW ?_;refine⟨_,?_,rfl⟩;rw[s,Q,P];refine wW ?_;rw[P,List.take_of_length_le (by omega)]
end Go.Cat
namespace Go.Cat
variable{K:Nat->List D->List D->Prop}
def Ag8(a b:List Int)(i k:Nat)(o:List Int):List Int:=BE o i (IntKind.i64.wrap (AB o i+IntKind.i64.wrap (AB a k*AB b ((i:Int)-k))))
def AXF(a b:List Int)(n:Nat):List Int:=iter (λi o=>iter (Ag8 a b i) (i+1) o) n (rep n 0)
end Go.Cat
namespace Go.Cat
variable{K:Nat->List D->List D->Prop}
theorem AVK[HA K]{a b:List Int}(h:a.length<=1099511627776):K 72 [LI a,LI b] [.b (decide (a=b))]:=by
 refine qw I72 ?_;by_cases l:a.length=b.length;refine wW ?_;refine AN (λi=>∀j:Nat,j<i->AB a j=AB b j) (λi=>[LI a,LI b,.u,.u,.u,.n a.length,.n i,.u,.u]) a.length (by simp) rfl (λi hi P=>?_) (λP=>?_);by_cases he:AB a i=AB b i;refine wW ?_;exact Bg P he;refine wW ?_;have:a≠b:=by rintro rfl;exact he rfl
 simp[this];refine wW ?_;have:a=b:=HV l P;simp[this];have:a≠b:=by rintro rfl;exact l rfl
 refine wW ?_;simp[this]
end Go.Cat
namespace Go.Cat
variable{K:Nat->List D->List D->Prop}
class Hk(K:Nat->List D->List D->Prop):Prop where
 del:∀(l:List Int)(i:Nat),i<l.length->l.length<=1000->K 212 [LI l,.n i,.n ((i:Int)+1)] [LI (IP l i)]
theorem AS4{l:List Int}{i:Nat}(h:∀j:Nat,j<i->AB l j≠1)(hi:i<=l.length):i<=Bk l:=by
 rcases BQ (Bk l) i with q|q;exact absurd (UN (q:=l) (by omega)) (h _ q)
 exact q
theorem AdR{l:List Int}{i:Nat}(h:∀j:Nat,j<i->AB l j≠1)(hi:i<l.length)(H:AB l i=1):Bk l=i:=by
 have:=AS4 h (by omega);have a:Bk l<=i:=by
  refine Nat.le_of_not_lt λq=>?_;have:=List.not_of_lt_findIdx q;have e:l[i]'(by omega)=AB l i:=by simp[AB,hi]
  rw[e,H]at this
  cases this
 omega
theorem Ae5[HA K]{l:List Int}(h:l.length<=1000000):K 179 [LI l,.n 1] [.n (if Bk l<l.length then(Bk l:Int)else -1)]:=by refine qw I179 ?_;refine AN (λi=>∀j:Nat,j<i->AB l j≠1) (λi=>[LI l,.n 1,.u,.u,.n l.length,.n i,.u,.u]) l.length (by omega) rfl (λi hi P=>?_) (λP=>?_);by_cases x:AB l i=1;have e:=AdR P hi x;refine wW ?_;rw[e,if_pos hi];refine wW ?_;exact Bg P x;have e:=AS4 P (Nat.le_refl _);refine wW ?_;rw[if_neg (by omega)]
def dgQ(n:Nat)(c:List Int)(j:Nat):List Int:=[min (AB c (D8 n j:Nat)) (AB c (FG n j:Nat)),max (AB c (D8 n j:Nat)) (AB c (FG n j:Nat))]
def Hs:Nat->List Int->List Int->List (List Int)->Option (List (List Int)×List Int)
 |0,l,_,o=>some (o,l)
 |f+1,l,c,o=>if Bk l<l.length then Hs f (H6 l (Bk l)) (IP c (Bk l)) (o++[dgQ l.length c (Bk l)])else none
def KK(n:Nat):List Int:=(List.range n).map λi:Nat=>(i:Int)
def FT(q:List Int):Option (List (List Int)×List Int):=if D5 q=true then Hs (q.length-3) q (KK q.length) []else none
def Im(x:Option (List (List Int)×List Int)):Bool:=match x with
 |some x=>decide (x.2=[1,1,1])
 |none=>false
def ctL(x:Option (List (List Int)×List Int)):List (List Int):=match x with
 |some x=>x.1
 |none=>[]
theorem ATZ:∀f (l c:List Int) (o:List (List Int)),Im (Hs f l c o)=Hp f l
 |0,l,c,o=>by simp only[Hs,Im,Hp];by_cases h:l=[1,1,1]<;>simp[h]
 |f+1,l,c,o=>by simp only[Hs,Hp];by_cases h:Bk l<l.length;rw[if_pos h,ATZ f,decide_eq_true h,Bool.true_and];rw[if_neg h,decide_eq_false h]<;>rfl
theorem AaF{α:Type}{l:List α}{j:Nat}{x:α}(h:x∈IP l j):x∈l:=by rcases A9.1 h with h|h;exact List.mem_of_mem_take h;exact List.mem_of_mem_drop h
theorem AVU{l:List Int}{i x y:Int}(h:y∈BE l i x):y=x\/y∈l:=by rcases List.mem_or_eq_of_mem_set h with h|h;exact .inr h;exact .inl h
theorem Ad1{l:List Int}{j:Nat}{a b:Int}(g:3<=l.length)(f:j<l.length)(h:∀x∈l,a+1<=x/\x<=b):∀x∈H6 l j,a<=x/\x<=b:=by
 intro x o;obtain⟨k,H,e⟩:=List.mem_iff_getElem.1 (AaF o);rw[M1]at H;have c:AB (Ku l j) (k:Int)=x:=by rw[<-e];simp[AB,M1,H]
 rw[Sn g f]at c;have B:=h (AB l k) (by simp[AB,H]);have i:¬(k=D8 l.length j/\k=FG l.length j):=by
  rintro⟨s,Q⟩;rw[s]at Q;have:=Sn (q:=l) (j:=j) (k:=D8 l.length j) g f;revert Q;unfold D8 FG;generalize l.length=n at*;rcases BQ (j+1) n with h|h;rw[Nat.mod_eq_of_lt h]
  cases j with
  |zero=>rw[Nat.mod_eq_of_lt (by omega)];omega
  |succ j=>rw[show j+1+n-1=j+n by omega,Nat.add_mod_right,Nat.mod_eq_of_lt (by omega)];omega
  obtain rfl:n=j+1:=by omega
  rw[Nat.mod_self,show j+(j+1)-1=j-1+(j+1) by omega,Nat.add_mod_right,Nat.mod_eq_of_lt (by omega)];omega
 split at c<;>split at c<;>omega
theorem Aa6[HA K][Hk K]{q:List Int}(h:q.length<=1048576):K 204 [LI q] [LL (ctL (FT q)),.b (Im (FT q))]:=by
 refine qw I204 ?_;refine cB Br ?_
 cases B:AR 3 10 q.length;have e:FT q=none:=by rw[FT,if_neg (by simp[D5,B])]
 refine wW ?_;simp[e,ctL,Im,LL];have O:=A7.1 B;refine wW ?_;refine AN (λi=>∀j:Nat,j<i->AR 1 100 (AB q j)=true) (λi=>[LI q,.u,.u,.u,.u,.u,.u,.u,.u,.u,.u,.u,.u,LI q,.n q.length,.n i,.u,.u,.u,.u,.u,.u,.u]) q.length (by omega) rfl (λi hi P=>?_) (λP=>?_)
 .cases a:AR 1 100 (AB q i)
  .have e:FT q=none:=by rw[FT,if_neg (by simp[D5,LU hi a])]
   refine wW ?_;repeat(refine cB Br ?_;try simp(disch:=try exact dV) only[AD,a])
   simp[e,ctL,Im,LL]
  refine wW ?_;repeat(refine cB Br ?_;try simp(disch:=try exact dV) only[AD,a])
  exact Bg P a
 have C:D5 q=true:=by simp[D5,B,KX P]
 obtain⟨z1,z2,z3⟩:=Gi.1 C;have R:FT q=Hs (q.length-3) q (KK q.length) []:=by rw[FT,if_pos C]
 refine wW ?_;refine cW (Px (by omega)) ?_;refine Ah (λi (r:List Int)=>r=KK i) (λi r=>[.u,.u,.u,.u,LI q,LI r,.u,.u,.u,.u,.u,.u,.u,.u,.u,.u,.u,.u,.n q.length,.n i,.u,.u,.u]) q.length [] rfl rfl (λi r hi P=>?_) (λr P=>?_);have hr:r.length=i:=by rw[P];simp[KK]
 refine wW ?_;refine⟨_,?_,rfl⟩;rw[P,KK,KK,Uf];subst P;refine wW ?_
 refine Bd (λ(x:Nat×List Int×List Int×List (List Int))=>x.2.1.length=x.1+3/\x.2.2.1.length=x.1+3/\x.1<=7/\(∀y∈x.2.1,(x.1:Int)-10<=y/\y<=100)/\x.2.2.2.length+x.1<=7/\Hs x.1 x.2.1 x.2.2.1 x.2.2.2=FT q)
  (λx=>[.u,.u,.u,.u,LI x.2.1,LI x.2.2.1,.u,LL x.2.2.2,.u,.u,.u,.u,.u,.u,.u,.u,.u,.u,.u,.u,.u,.u,.u]) (λx=>x.1) (q.length-3,q,KK q.length,[]) ⟨by simp only;omega,by simp[KK];omega,by simp only;omega,λy Q=>by have:=z1 y Q;simp only;omega,by simp only[A5];omega,R.symm⟩ rfl ?_
 rintro⟨f,l,c,o⟩ ⟨J,L,M,G,N,g⟩;simp only at J L M G N g|-
 cases f with
 |zero=>
  simp only[Hs]at g
  refine wW ?_
  refine cW (AVK (by omega)) ?_
  rw[<-g]<;>rfl
 |succ f=>
  refine wW ?_
  refine cB (Ae5 (by omega)) ?_
  by_cases H:Bk l<l.length
  .rw[if_pos H]
   have F:((Bk l:Int)+l.length-1)%(l.length:Int)=(D8 l.length (Bk l):Nat):=by
    rw[show(Bk l:Int)+l.length-1=((Bk l+l.length-1:Nat):Int) by omega];simp[D8,Int.natCast_emod]
   have I:((Bk l:Int)+1)%(l.length:Int)=(FG l.length (Bk l):Nat):=by simp[FG,Int.natCast_emod]
   have W:D8 l.length (Bk l)<l.length:=Nat.mod_lt _ (by omega)
   have Y:FG l.length (Bk l)<l.length:=Nat.mod_lt _ (by omega)
   have m1:=G _ (Te W)
   have Z:FG l.length (Bk l)<(BE l (D8 l.length (Bk l):Nat) (AB l (D8 l.length (Bk l):Nat)-1)).length:=by rw[Pf];exact Y
   have m2:(f:Int)-10<=AB (BE l (D8 l.length (Bk l):Nat) (AB l (D8 l.length (Bk l):Nat)-1)) (FG l.length (Bk l):Nat)/\AB (BE l (D8 l.length (Bk l):Nat) (AB l (D8 l.length (Bk l):Nat)-1)) (FG l.length (Bk l):Nat)<=100:=by
    rcases AVU (Te Z)with q|q
    .rw[q];omega
    .have:=G _ q;omega
   simp(disch:=try exact dV) only[AD,F,I,Pf,Yj]
   have k:=Hk.del (K:=K) (Ku l (Bk l)) (Bk l) (by rw[M1];exact H) (by rw[M1];omega)
   have s:=Hk.del (K:=K) c (Bk l) (by omega) (by omega)
   refine cW k ?_
   refine cW s ?_
   have T:(H6 l (Bk l)).length=f+3:=by rw[Nx H];omega
   have U:(IP c (Bk l)).length=f+3:=by rw[AO2 (by omega)];omega
   have V:Hs f (H6 l (Bk l)) (IP c (Bk l)) (o++[dgQ l.length c (Bk l)])=FT q:=by
    rw[<-g,Hs,if_pos H]
   refine⟨(f,H6 l (Bk l),IP c (Bk l),o++[dgQ l.length c (Bk l)]),by simp,⟨T,U,by simp only;omega,?_,by simp only[AW,AP,A5];omega,V⟩,rfl⟩
   exact Ad1 (by omega) H λx a=>by have:=G x a;omega
  .rw[if_neg H]
   simp only[Hs,if_neg H]at g
   refine wW ?_
   rw[<-g]<;>rfl
end Go.Cat
namespace Go.Cat
variable{K:Nat->List D->List D->Prop}
theorem pow7:∀f:Nat,f<=7->(2:Int)^f<=100000:=by decide
theorem AWX{q:List Int}(h:D5 q=true):Im (FT q)=true↔GB q:=by
 obtain⟨H,g,j⟩:=Gi.1 h;have e:Im (FT q)=Hp (q.length-3) q:=by rw[FT,if_pos h,ATZ]
 have f:=Vt (q.length-3) q (by omega) (by omega);rw[e,ZQ (by omega)];constructor;intro c;have:=(AL2 (by omega)).2 (f.1 c);intro i;obtain⟨F,a,f3⟩:=this i;refine⟨λm M b=>?_,a,f3⟩;have:=F m M b;have:=pow7 (q.length-3) (by omega);omega;intro c;exact f.2 100000 (by decide) ((AL2 (by omega)).1 c)
theorem qd_f{q:List Int}(h:D5 q=false):Im (FT q)=false:=by rw[FT,if_neg (by simp[h])];rfl
open Classical in
theorem Af1{q:List Int}:Im (FT q)=Fc q:=by
 cases h:D5 q;rw[qd_f h];simp[Fc,h];have:=AWX h;unfold Fc;by_cases f:GB q;rw[this.2 f];simp[h,f];have H:Im (FT q)=false:=by rw[Bool.eq_false_iff];exact λe=>f (this.1 e)
 rw[H];simp[f]
theorem AaW[HA K][Hk K]{q:List Int}(h:q.length<=1048576):K 183 [LI q] [.b (Fc q)]:=by refine qw I183 ?_;refine cW (Aa6 h) ?_;rw[Af1]
open Classical in
theorem QK{q:List Int}:Fc q=true↔D5 q=true/\GB q:=by unfold Fc;exact decide_eq_true_iff
theorem ff_i[HA K][Hk K]{q:List Int}(h:q.length<=1048576):K 140 [LI q] [LL (G6 q),.b (Fc q)]:=by
 refine qw I140 ?_;refine cB (AaW h) ?_
 cases hq:Fc q;have e:G6 q=[]:=by unfold G6;rw[if_neg λY=>by rw[QK.2 Y]at hq;cases hq]
 refine wW ?_;simp[e,LL];obtain⟨g,x⟩:=QK.1 hq;obtain⟨h1,h2,h3⟩:=Gi.1 g;have C:=Jt g x;have c:=Ls g C;have e:G6 q=Bl q (q.length+1):=by unfold G6;rw[if_pos ⟨g,x⟩]
 refine wW ?_;refine Ah (λi (r:List Int)=>r.length=q.length/\∀j:Nat,j<i->AB r j=1) (λi r=>[LI q,.u,.u,.n q.length,LI r,.u,.u,.u,.u,.u,.u,.n q.length,.n i,.u,.u,.u,.u,.u]) q.length (rep q.length 0) ⟨by simp[rep],by omega⟩ (by simp[rep]) (λi r hi P=>?_) (λr P=>?_);obtain⟨o,s⟩:=P;refine wW ?_;refine⟨_,⟨by rw[Pf];exact o,λj H=>?_⟩,rfl⟩;rw[P6 (by omega)];split;rfl;exact s j (by omega);have M:r=List.replicate q.length 1:=HV (by simp[P.1]) λj H=>by rw[P.1]at H;rw[P.2 j H];simp[AB,H]
 have O:[rep (q.length:Int) 0,r,q]=Bl q 3:=by rw[ALD,M];rfl
 refine wW ?_;refine cB (Px (by omega)) ?_;simp(disch:=try exact dV) only[AD,AAN,O];refine Ah (λk (R:List (List Int))=>R=Bl q (k+3)) (λk R=>[.u,.u,.u,.n q.length,.u,.u,LL R,.n ((k:Int)+2),.u,.u,.u,.u,.u,.u,.u,.u,.u,.u]) (q.length-2) (Bl q 3) rfl rfl (λk R hk a=>?_) (λR a=>?_);have l:R.length=k+3:=by rw[a,JO]
 have Q:AG R ((k:Int)+2)=BJ q (k+2):=by rw[a];exact KB (r:=k+2) (by omega)
 have T:AG R ((k:Int)+2-1)=BJ q (k+1):=by rw[show(k:Int)+2-1=((k+1:Nat):Int) by omega,a];exact KB (by omega)
 have la:(BJ q (k+2)).length=q.length:=EU;have lb:(BJ q (k+1)).length=q.length:=EU;refine wW ?_;refine Ah (λi (r:List Int)=>r.length=q.length/\∀j:Nat,j<i->AB r j=An q (k+3) j) (λi r=>[.u,.u,.u,.n q.length,.u,.u,LL R,.n ((k:Int)+2),LI r,.u,.u,.u,.u,.u,.u,.n q.length,.n i,.u]) q.length (rep q.length 0) ⟨by simp[rep],by omega⟩ (by simp[rep]) (λi r hi P=>?_) (λr P=>?_);obtain⟨o,s⟩:=P;have U:((i:Int)+1)%(q.length:Int)=((i+1)%q.length:Nat):=by simp[Int.natCast_emod]
 have B:(i+1)%q.length<q.length:=Nat.mod_lt _ (by omega);have V:=c (k+2) (by omega) i;have W:=c (k+2) (by omega) (i+1);have g3:=(C k (by omega) i hi);have g4:=OA V W;have Z:=SC (q:=q) (r:=k+1) (i:=i) (by omega);have I:AB (BJ q (k+2)) (i:Int)=An q (k+2) i:=EV hi;have c2:AB (BJ q (k+2)) ((i+1)%q.length:Nat)=An q (k+2) (i+1):=by rw[EV B,IQ]
 have J:AB (BJ q (k+1)) ((i+1)%q.length:Nat)=An q (k+1) (i+1):=by rw[EV B,IQ]
 generalize An q (k+2) i=F at*;generalize An q (k+2) (i+1)=G at*;have L:F*G-1=An q (k+1) (i+1)*An q (k+3) i:=by have:An q (k+1+2) i=An q (k+3) i:=rfl;rw[this]at Z;omega
 have N:(F*G-1).tdiv (An q (k+1) (i+1))=An q (k+3) i:=by rw[L];exact Int.mul_tdiv_cancel_left _ (by omega)
 simp(disch:=try exact dV) only[AD,Q,T,U,I,c2,J,N];refine⟨_,⟨by rw[Pf];exact o,λj H=>?_⟩,rfl⟩;rw[P6 (by omega)];split;rename_i e;rw[e];exact s j (by omega);have f:r=BJ q (k+3):=HV (by rw[P.1,EU]) λj H=>by rw[P.1]at H;rw[P.2 j H,EV H]
 simp(disch:=try exact dV) only[AD,Fv,Yj];refine⟨_,?_,rfl⟩;rw[f,a];exact ALV.symm;have f:q.length-2+3=q.length+1:=by omega
 have l:R.length=q.length+1:=by rw[a,JO,f]
 refine wW ?_;rw[e,a,f]
theorem AVL[HA K]{q:List Int}(o:D5 q=true)(s:GB q):K 185 [LL (Bl q (q.length+1))] [.b true]:=by
 obtain⟨V,W,Y⟩:=Gi.1 o;have L:=Jt o s;have c:=Ls o L;have J:(Bl q (q.length+1)).length=q.length+1:=JO;have H:∀r:Nat,r<q.length+1->AG (Bl q (q.length+1)) r=BJ q r:=λr l=>KB l;generalize Bl q (q.length+1)=R at*;refine qw I185 ?_;refine cB Br ?_;have g:AR 3 10 ((R.length:Int)-1)=true:=A7.2 (by omega);have j:(R.length:Int)-1=q.length:=by omega
 simp(disch:=try exact dV) only[AD,g,j];rw[j]at g;simp(disch:=try exact dV) only[AD,g];refine AN (λ_=>True) (λr=>[LL R,.u,.n q.length,.u,.u,.u,.u,.u,.u,.u,LL R,.n R.length,.n r,.u,.u,.u,.u,.u,.u,.u,.u,.u,.u,.u,.u,.u,.u,.u,.u]) R.length trivial rfl (λr l _=>?_) (λ_=>?_);have h:=H r (by omega);have k:(BJ q r).length=q.length:=EU;simp(disch:=try exact dV) only[AD,h];refine AN (λ_=>True) (λi=>[LL R,.u,.n q.length,.n r,.u,.u,.u,.u,.u,.u,LL R,.n R.length,.n r,.u,.u,LI (BJ q r),.n q.length,.n i,.u,.u,.u,.u,.u,.u,.u,.u,.u,.u,.u]) q.length trivial (by rw[k];rfl) (λi hi _=>?_) (λ_=>?_);have C:AB (BJ q r) i=An q r i:=EV hi;obtain⟨M,N,O⟩:=s r (by omega) i hi;have Q:=Br (K:=K) (x:=An q r i) (a:=1) (b:=100000);rcases(show r=0\/r=q.length\/r=1\/r+1=q.length/\1<r\/1<r/\r+1<q.length by omega)with e|e|e|e|e;have f:An q r i=0:=by rw[e];rfl
 simp(disch:=try exact dV) only[AD,h,C,f];have f:=M e;simp(disch:=try exact dV) only[AD,h,C,f];have f:An q r i=1:=by rw[e];rfl
 simp(disch:=try exact dV) only[AD,h,C,f];have f:=O e.1;simp(disch:=try exact dV) only[AD,h,C,f];have f:=A7.2 (N (by omega) (by omega));rw[f]at Q;simp(disch:=try exact dV) only[AD,h,C];exact cZ Q;exact wZ;refine wW ?_;refine AN (λ_=>True) (λr=>[LL R,.u,.n q.length,.u,.u,.u,.n ((r:Int)+1),.u,.u,.u,.u,.u,.u,.u,.u,.u,.u,.u,.u,.u,.u,.u,.u,.u,.u,.u,.u,.u,.u]) (q.length-1) trivial rfl (λr l _=>?_) (λ_=>?_);refine wW ?_;refine AN (λ_=>True) (λi=>[LL R,.u,.n q.length,.u,.u,.u,.n ((r:Int)+1),.u,.u,.u,.u,.u,.u,.u,.u,.u,.u,.u,.u,.u,.u,.u,.u,.u,.u,.n q.length,.n i,.u,.u]) q.length trivial rfl (λi hi _=>?_) (λ_=>?_);have T:AG R ((r:Int)+1)=BJ q (r+1):=H (r+1) (by omega);have P:AG R ((r:Int)+1-1)=BJ q r:=by rw[show(r:Int)+1-1=r by omega];exact H r (by omega)
 have U:AG R ((r:Int)+1+1)=BJ q (r+2):=H (r+2) (by omega);have Z:(BJ q r).length=q.length:=EU;have l1:(BJ q (r+1)).length=q.length:=EU;have l2:(BJ q (r+2)).length=q.length:=EU;have I:((i:Int)+1)%(q.length:Int)=((i+1)%q.length:Nat):=by simp[Int.natCast_emod]
 have B:(i+1)%q.length<q.length:=Nat.mod_lt _ (by omega);have C:AB (BJ q (r+1)) i=An q (r+1) i:=EV hi;have c2:AB (BJ q (r+1)) ((i+1)%q.length:Nat)=An q (r+1) (i+1):=by rw[EV B,IQ]
 have F:AB (BJ q r) ((i+1)%q.length:Nat)=An q r (i+1):=by rw[EV B,IQ]
 have G:AB (BJ q (r+2)) i=An q (r+2) i:=EV hi;have ru:=SC (q:=q) (r:=r) (i:=i) (by omega);have m1:=OA (c (r+1) (by omega) i) (c (r+1) (by omega) (i+1));have m2:=OA (c r (by omega) (i+1)) (c (r+2) (by omega) i);simp(disch:=try exact dV) only[AD,T,P,U,I,C,c2,F,G];exact wZ;exact wZ
theorem AkX[HA K]{R:List (List Int)}(h:PA R)(f:K 185 [LL R] [.b true]):K 144 [LL R] [.n (FA R)]:=by have l:=h.1;refine qw I144 ?_;refine cW f ?_;refine Ah (λr (x:Int)=>x=FA (R.take r)) (λr x=>[.u,.u,.n x,.u,.u,.u,LL R,.n R.length,.n r,.u,.u,.u,.u,.u]) R.length 0 rfl rfl (λr x a P=>?_) (λx P=>?_);have H:=h.2 _ (AKU a);have s:=AQX a;have B:=VW h r;refine wW ?_;refine Ah (λi (y:Int)=>y=x+((AG R r).take i).sum) (λi y=>[.u,.u,.n y,.u,.u,.u,LL R,.n R.length,.n r,.u,LI (AG R r),.n (AG R r).length,.n i,.u]) (AG R r).length x (by simp) rfl (λi y hi Q=>?_) (λy Q=>?_);have c:=ART hi;have b1:=Ug (r:=(AG R r).take i) ⟨by simp;omega,λx e=>H.2 x (List.mem_of_mem_take e)⟩;have b2:=H.2 _ (Te hi);refine wW ?_;refine⟨_,?_,rfl⟩;rw[c,Q];omega;rw[List.take_of_length_le (by omega)]at Q;refine wW ?_;refine⟨_,?_,rfl⟩;rw[s,Q,P];refine wW ?_;rw[P,List.take_of_length_le (by omega)]
theorem Wb{q:List Int}(H:D5 q=true)(f:GB q):PA (Bl q (q.length+1)):=by obtain⟨e,g,j⟩:=Gi.1 H;have h:=Ls H (Jt H f);refine⟨by rw[JO];omega,λr a=>?_⟩;simp only[Bl,List.mem_map,List.mem_range]at a;obtain⟨k,c,rfl⟩:=a;refine⟨by rw[EU];omega,λx b=>?_⟩;simp only[BJ,List.mem_map,List.mem_range]at b;obtain⟨i,hi,rfl⟩:=b;exact h k c i
end Go.Cat
