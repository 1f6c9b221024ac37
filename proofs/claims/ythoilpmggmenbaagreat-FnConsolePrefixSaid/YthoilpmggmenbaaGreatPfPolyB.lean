/-
 Gaussian binomials of the reference; Catalan polynomials.
-/
import Derived.Test.YthoilpmggmenbaaGreatPfPolyG
set_option linter.unusedSimpArgs false
set_option linter.unusedVariables false
namespace Go.Cat
set_option maxRecDepth 100000
variable{K:Nat->List D->List D->Prop}
def Ds(m k:Nat):List (List Int):=(List.range (min m k+1)).map (gs m)
theorem UH{m k:Nat}:(Ds m k).length=min m k+1:=by simp[Ds]
theorem Wl{m k j:Nat}(h:j<=min m k):AG (Ds m k) j=gs m j:=by
 have:j<min m k+1:=by omega
 simp[Ds,AG,this]
theorem AdX:D.l []=LL []:=rfl
theorem Xi{a b:List (List Int)}(h:a.length+b.length<=1099511627776):EG false (LL a) (LL b)=some (LL (a++b)):=KG ⟨h,rfl⟩
theorem AbU{m k j:Nat}(h:j<=min m k):(Ds m k).take (j+1)=(Ds m k).take j++[gs m j]:=by have l:=UH (m:=m) (k:=k);rw[CQ (by omega)];simp[Ds]
set_option maxHeartbeats 2000000 in
theorem Ab8[HA K]{n k:Nat}(hn:n<=14)(hk:k<=n):K 467 [.n n,.n k] [LI (gs n k)]:=by
 refine qb I467 ?_;have F:Ds 0 k=[[1]]:=by simp[Ds,RK (n:=0) (by omega)]
 simp(disch:=try exact dV) only[AD,Lj,Fv];refine AN (λ_=>True) (λi=>[.n n,.n k,.u,LL (Ds i k),.n ((i:Int)+1),.u,.u,.u,.u,.u,.u,.u,.u,.u,.u,.u]) n trivial (by rw[F];rfl) (λi hi _=>?_) (λ_=>?_);have hl:=UH (m:=i) (k:=k);have hl1:=UH (m:=i+1) (k:=k);have s:min ((i:Int)+1) (k:Int)=((min (i+1) k:Nat):Int):=by omega
 simp(disch:=try exact dV) only[AD,AdX];refine AN (λ_=>True) (λj=>[.n n,.n k,.u,LL (Ds i k),.n ((i:Int)+1),LL ((Ds (i+1) k).take j),.n j,.u,.u,.u,.u,.u,.u,.u,.u,.u]) (min (i+1) k+1) trivial (by simp) (λj hj _=>?_) (λ_=>?_);have J:((Ds (i+1) k).take j).length=j:=by simp;omega
 have N:=AbU (m:=i+1) (k:=k) (j:=j) (by omega);have U:=Hy (n:=i+1) (k:=j) (by omega) (by omega);have hm:=Tq (n:=i+1) (k:=j) (by omega) (by omega);obtain⟨M,hM⟩:∃M,M=j*(i+1-j):=⟨_,rfl⟩;have Y:((j:Int)*((i:Int)+1-j))=(M:Nat):=by rw[hM,show(i:Int)+1-j=((i+1-j:Nat):Int) by omega];exact(Int.natCast_mul _ _).symm
 have b1:=λ(q:j<=i)=>Qu (n:=i) (k:=j) (by omega) q;have b2:=λ(q:0<j)=>Qu (n:=i) (k:=j-1) (by omega) (by omega);have l1:=λ(q:j<=i)=>Hy (n:=i) (k:=j) (by omega) q;have V:=λ(q:0<j)=>Hy (n:=i) (k:=j-1) (by omega) (by omega);have f3:j<=i->j*(i+1-j)=j*(i-j)+j:=by intro q;rw[show i+1-j=(i-j)+1 by omega,Nat.mul_succ]
 have T:0<j->(j-1)*(i-(j-1))+(i+1-j)=j*(i+1-j):=by intro q;obtain⟨c,rfl⟩:∃c,j=c+1:=⟨j-1,by omega⟩;rw[Nat.add_sub_cancel,Nat.succ_mul,show i+1-(c+1)=i-c by omega]
 have r:=λ(q:0<j)(Q:j<=i)=>AOW (m:=i) (k:=j) (by omega) q Q;have z0:j=0->gs (i+1) j=[1]/\gs i j=[1]:=by intro q;subst q;exact⟨RK (by omega),RK (by omega)⟩
 have zn:j=i+1->gs (i+1) j=[1]/\gs i (j-1)=[1]:=by intro q;subst q;exact⟨Ya (by omega),by rw[Nat.add_sub_cancel];exact Ya (by omega)⟩
 obtain⟨L,hL⟩:∃L,L=j*(i+1-j)+1:=⟨_,rfl⟩;have Z:((M:Nat):Int)+1=(L:Nat):=by omega
 have B:j<=i->AG (Ds i k) j=gs i j:=λq=>Wl (by omega);have f:0<j->AG (Ds i k) ((j:Int)-1)=gs i (j-1):=λq=>by rw[show(j:Int)-1=((j-1:Nat):Int) by omega];exact Wl (by omega)
 have whole:∀(o:List Int),o.length=L->(∀t:Nat,t<L->AB o t=(if j<=i then AB (gs i j) t else 0)+(if 0<j/\i+1-j<=t then AB (gs i (j-1)) ((t-(i+1-j):Nat):Int)else 0))->o=gs (i+1) j:=by
  intro o h1 h2;refine HV (by omega) λt h3=>?_;rw[h2 t (by omega)];by_cases q:j=0;have z:=z0 q;rw[if_pos (by omega),if_neg (by omega),z.1,z.2];omega;by_cases Q:j=i+1;have z:=zn Q;have hL1:L=1:=by rw[hL,Q];simp
  have:t=0:=by omega
  subst this;rw[if_neg (by omega),if_pos (by omega),z.1,z.2];simp[AB];have:=r (by omega) (by omega) t;rw[OL]at this;rw[if_pos (by omega),<-this];by_cases x:i+1-j<=t;rw[if_pos ⟨by omega,x⟩,if_pos x];rw[if_neg (λq=>x q.2),if_neg x]
 rw[N];simp(disch:=try exact dV) only[AD,s,Y,Z];by_cases a:j<=i;have k1:=l1 a;have R:=b1 a;have O:=B a;have k3:=f3 a;refine wW ?_;refine Ah (λt (o:List Int)=>o.length=L/\∀u:Nat,u<L->AB o u=if u<t then AB (gs i j) u else 0) (λt o=>[.n n,.n k,.u,LL (Ds i k),.n ((i:Int)+1),LL ((Ds (i+1) k).take j),.n j,LI o,.n t,.u,.u,.u,.u,.u,.u,.u]) (gs i j).length (rep (L:Nat) 0) ⟨by simp[rep],λu H=>by simp[AB,rep,H]⟩ rfl (λt o J P=>?_) (λo P=>?_);obtain⟨G,g⟩:=P;have b:=g t (by omega);rw[if_neg (by omega)]at b;have c2:=R t;simp(disch:=try exact dV) only[AD,O,b];refine⟨_,⟨by rw[DN,G],λu H=>?_⟩,rfl⟩;rw[Hc (by omega)];by_cases q:t=u;subst q;rw[if_pos rfl,if_pos (by omega)];omega;rw[if_neg q,g u H];by_cases Q:u<t;rw[if_pos Q,if_pos (by omega)];rw[if_neg Q,if_neg (by omega)];obtain⟨G,g⟩:=P;have g:∀u:Nat,u<L->AB o u=AB (gs i j) u:=by intro u H;rw[g u H];by_cases q:u<(gs i j).length;rw[if_pos q];rw[if_neg q];exact(LN (by omega)).symm
 simp(disch:=try exact dV) only[AD,O];by_cases h:0<j;have k2:=V h;have C:=b2 h;have a2:=f h;have k4:=T h;refine wW ?_;refine Ah (λt (o:List Int)=>o.length=L/\∀u:Nat,u<L->AB o u=AB (gs i j) u+(if i+1-j<=u/\u<i+1-j+t then AB (gs i (j-1)) ((u-(i+1-j):Nat):Int)else 0)) (λt o=>[.n n,.n k,.u,LL (Ds i k),.n ((i:Int)+1),LL ((Ds (i+1) k).take j),.n j,LI o,.u,.n t,.u,.u,.u,.u,.u,.u]) (gs i (j-1)).length o ⟨G,λu H=>by rw[g u H,if_neg (by omega)];omega⟩ rfl (λt o J P=>?_) (λo P=>?_);obtain⟨G,g⟩:=P;have I:(t:Int)+((i:Int)+1)-(j:Int)=((i+1-j+t:Nat):Int):=by omega
 have b:=g (i+1-j+t) (by omega);rw[if_neg (by omega)]at b;have c2:=R (i+1-j+t);have W:=C t;simp(disch:=try exact dV) only[AD,a2,I];refine⟨_,⟨by rw[DN,G],λu H=>?_⟩,rfl⟩;rw[Hc (by omega)];by_cases q:i+1-j+t=u;subst q;rw[if_pos rfl,if_pos (by omega),b,show i+1-j+t-(i+1-j)=t by omega];omega;rw[if_neg q,g u H];by_cases Q:i+1-j<=u/\u<i+1-j+t;rw[if_pos Q,if_pos (by omega)];rw[if_neg Q,if_neg (by omega)];obtain⟨G,g⟩:=P;have l:=whole o G λu H=>by rw[g u H,if_pos a];by_cases q:i+1-j<=u;rw[if_pos ⟨q,by omega⟩,if_pos ⟨h,q⟩];rw[if_neg (by omega),if_neg (by omega)]
 subst l;simp(disch:=try exact dV) only[AD,a2,Fv,Xi];have l:=whole o G λu H=>by rw[g u H,if_pos a,if_neg (by omega)];omega
 subst l;simp(disch:=try exact dV) only[AD,Fv,Xi];have h:0<j:=by omega
 have k2:=V h;have C:=b2 h;have a2:=f h;have k4:=T h;refine wW ?_;refine Ah (λt (o:List Int)=>o.length=L/\∀u:Nat,u<L->AB o u=(if i+1-j<=u/\u<i+1-j+t then AB (gs i (j-1)) ((u-(i+1-j):Nat):Int)else 0)) (λt o=>[.n n,.n k,.u,LL (Ds i k),.n ((i:Int)+1),LL ((Ds (i+1) k).take j),.n j,LI o,.u,.n t,.u,.u,.u,.u,.u,.u]) (gs i (j-1)).length (rep (L:Nat) 0) ⟨by simp[rep],λu H=>by rw[if_neg (by omega)];simp[AB,rep,H]⟩ rfl (λt o J P=>?_) (λo P=>?_);obtain⟨G,g⟩:=P;have I:(t:Int)+((i:Int)+1)-(j:Int)=((i+1-j+t:Nat):Int):=by omega
 have b:=g (i+1-j+t) (by omega);rw[if_neg (by omega)]at b;have W:=C t;simp(disch:=try exact dV) only[AD,a2,I,b];refine⟨_,⟨by rw[DN,G],λu H=>?_⟩,rfl⟩;rw[Hc (by omega)];by_cases q:i+1-j+t=u;subst q;rw[if_pos rfl,if_pos (by omega),show i+1-j+t-(i+1-j)=t by omega];omega;rw[if_neg q,g u H];by_cases Q:i+1-j<=u/\u<i+1-j+t;rw[if_pos Q,if_pos (by omega)];rw[if_neg Q,if_neg (by omega)];obtain⟨G,g⟩:=P;have l:=whole o G λu H=>by rw[g u H,if_neg a];by_cases q:i+1-j<=u;rw[if_pos ⟨q,by omega⟩,if_pos ⟨h,q⟩];omega;rw[if_neg (by omega),if_neg (by omega)];omega
 subst l;simp(disch:=try exact dV) only[AD,a2,Fv,Xi];have e:(Ds (i+1) k).take (min (i+1) k+1)=Ds (i+1) k:=List.take_of_length_le (by omega);rw[e];simp(disch:=try exact dV) only[AD,s];have hl:=UH (m:=n) (k:=k);have e:=Wl (m:=n) (k:=k) (j:=k) (by omega);simp(disch:=try exact dV) only[AD,e]
def L7(n k:Int):Bool:=AR 0 14 n&&AR 0 n k
def Na(n k:Int):List Int:=if L7 n k=true then gs n.toNat k.toNat else []
theorem AgD[HA K]{n k:Int}:K 412 [.n n,.n k] [LI (Na n k),.b (L7 n k)]:=by
 refine qw I412 ?_;refine cB Br ?_
 cases h1:AR 0 14 n;simp(disch:=try exact dV) only[AD,Eb];simp[Na,L7,h1];refine wW ?_;refine cB Br ?_
 cases h2:AR 0 n k;simp(disch:=try exact dV) only[AD,Eb];simp[Na,L7,h2];have b1:=A7.1 h1;have b2:=A7.1 h2;obtain⟨m,rfl⟩:=CJ b1.1;obtain⟨c,rfl⟩:=CJ b2.1;refine wW ?_;refine cW (V8 m c (by omega) (by omega)) ?_;simp[Na,L7,h1,h2]
def BZ(n:Int):List Int:=if AR 0 7 n=true then Pg.getD n.toNat []else []
theorem cp0:BR 8 (λn=>match Ki (gs (2*n) n) (rep ((n+1:Nat):Int) 1)with|some x=>decide (x.1=Pg.getD n [])|none=>false)=true:=by kernel_rfl
theorem cp1:BR 8 (λn=>decide (DM (Ik (rep ((n+1:Nat):Int) 1) (Bj (gs (2*n) n) (rep ((n+1:Nat):Int) 1)) (gs (2*n) n,rep (Bj (gs (2*n) n) (rep ((n+1:Nat):Int) 1):Nat) 0)).2=Pg.getD n []))=true:=by kernel_rfl
theorem Za[HA K]{n:Int}:K 408 [.n n] [LI (BZ n),.b (AR 0 7 n)]:=by
 refine qw I408 ?_;refine cB Br ?_
 cases h1:AR 0 7 n;simp(disch:=try exact dV) only[AD,Eb];simp[BZ,h1];have b1:=A7.1 h1;obtain⟨m,rfl⟩:=CJ b1.1;have T:(2*(m:Int)).toNat=2*m:=by omega
 have e:=AgD (K:=K) (n:=2*(m:Int)) (k:=m);have o:L7 (2*(m:Int)) m=true:=by simp only[L7,AV];exact⟨A7.2 (by omega),A7.2 (by omega)⟩
 have R:Na (2*(m:Int)) m=gs (2*m) m:=by simp only[Na,o,if_true,BM,T]
 rw[o,R]at e;have g:=np_i (K:=K) (n:=(m:Int)+1);have O:QF ((m:Int)+1)=true:=A7.2 (by omega);have i:Oy ((m:Int)+1)=rep ((m+1:Nat):Int) 1:=by simp only[Oy,O,if_true];rfl
 rw[O,i]at g;have l:=Hy (n:=2*m) (k:=m) (by omega) (by omega);have H:=Tq (n:=2*m) (k:=m) (by omega) (by omega);have j:(rep ((m+1:Nat):Int) (1:Int)).length=m+1:=by rw[Lg];omega
 have f:=dv_i (K:=K) (a:=gs (2*m) m) (b:=rep ((m+1:Nat):Int) 1) (by omega) (by omega);have c:=BY cp0 m (by omega)
 cases hq:Ki (gs (2*m) m) (rep ((m+1:Nat):Int) 1)with
 |none=>rw[hq]at c;cases c
 |some y=>
  rw[hq]at f c
  simp only[Ac]at c
  have h:BZ (m:Int)=y.1:=by simp only[BZ,h1,if_true,BM,c]
  rw[h]
  refine wW ?_
  refine cW e ?_
  refine cW g ?_
  exact cZ f
theorem AII[HA K]{n:Int}:K 425 [.n n] [LI (BZ n),.b (AR 0 7 n)]:=by
 refine qw I425 ?_;refine cB Bt ?_
 cases h1:AR 0 7 n;simp(disch:=try exact dV) only[AD,Eb];simp[BZ,h1];have b1:=A7.1 h1;obtain⟨m,rfl⟩:=CJ b1.1;have e:=Ab8 (K:=K) (n:=2*m) (k:=m) (by omega) (by omega);have f:=Aj3 (K:=K) (n:=m+1) (by omega);rw[show((2*m:Nat):Int)=2*(m:Int) by omega]at e;rw[show((m+1:Nat):Int)=(m:Int)+1 by omega]at f;have l:=Hy (n:=2*m) (k:=m) (by omega) (by omega);have H:=Tq (n:=2*m) (k:=m) (by omega) (by omega);have i:(rep ((m+1:Nat):Int) (1:Int)).length=m+1:=by rw[Lg];omega
 have h:=YB (K:=K) (a:=gs (2*m) m) (b:=rep ((m+1:Nat):Int) 1) (by omega) (by omega) (by omega);have c:=BY cp1 m (by omega);simp only[Ac]at c;have g:BZ (m:Int)=Pg.getD m []:=by simp only[BZ,h1,if_true,BM]
 rw[g,<-c];refine wW ?_;refine cW e ?_;refine cW f ?_;exact cZ h
end Go.Cat
