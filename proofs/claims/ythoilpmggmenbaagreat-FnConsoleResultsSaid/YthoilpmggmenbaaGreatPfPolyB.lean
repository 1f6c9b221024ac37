/-
 Gaussian binomials of the reference; Catalan polynomials.
-/
import Derived.Test.YthoilpmggmenbaaGreatPfPolyG
set_option linter.unusedSimpArgs false
set_option linter.unusedVariables false
namespace Go.Cat
set_option maxRecDepth 100000
variable{K:Nat->List D->List D->Prop}
def D3(m k:Nat):List (List Int):=(List.range (min m k+1)).map (gs m)
theorem R0{m k:Nat}:(D3 m k).length=min m k+1:=by simp[D3]
theorem Ua{m k j:Nat}(h:j<=min m k):AF (D3 m k) j=gs m j:=by
 have:j<min m k+1:=by omega
 simp[D3,AF,this]
theorem AcX:D.l []=LL []:=rfl
theorem WK{a b:List (List Int)}(h:a.length+b.length<=1099511627776):Ev false (LL a) (LL b)=some (LL (a++b)):=KU ⟨h,rfl⟩
theorem AaC{m k j:Nat}(h:j<=min m k):(D3 m k).take (j+1)=(D3 m k).take j++[gs m j]:=by have l:=R0 (m:=m) (k:=k);rw[CO (by omega)];simp[D3]
set_option maxHeartbeats 2000000 in
theorem AUG[HA K]{n k:Nat}(hn:n<=14)(hk:k<=n):K 467 [.n n,.n k] [LI (gs n k)]:=by
 refine qb I467 ?_;have F:D3 0 k=[[1]]:=by simp[D3,QX (n:=0) (by omega)]
 simp(disch:=try exact dV) only[AD,N5,HI];refine AR (λ_=>True) (λi=>[.n n,.n k,.u,LL (D3 i k),.n ((i:Int)+1),.u,.u,.u,.u,.u,.u,.u,.u,.u,.u,.u]) n trivial (by rw[F];rfl) (λi hi _=>?_) (λ_=>?_);have hl:=R0 (m:=i) (k:=k);have hl1:=R0 (m:=i+1) (k:=k);have s:min ((i:Int)+1) (k:Int)=((min (i+1) k:Nat):Int):=by omega
 simp(disch:=try exact dV) only[AD,AcX];refine AR (λ_=>True) (λj=>[.n n,.n k,.u,LL (D3 i k),.n ((i:Int)+1),LL ((D3 (i+1) k).take j),.n j,.u,.u,.u,.u,.u,.u,.u,.u,.u]) (min (i+1) k+1) trivial (by simp) (λj hj _=>?_) (λ_=>?_);have J:((D3 (i+1) k).take j).length=j:=by simp;omega
 have N:=AaC (m:=i+1) (k:=k) (j:=j) (by omega);have U:=Gf (n:=i+1) (k:=j) (by omega) (by omega);have hm:=RT (n:=i+1) (k:=j) (by omega) (by omega);obtain⟨M,hM⟩:∃M,M=j*(i+1-j):=⟨_,rfl⟩;have Y:((j:Int)*((i:Int)+1-j))=(M:Nat):=by rw[hM,show(i:Int)+1-j=((i+1-j:Nat):Int) by omega];exact(Int.natCast_mul _ _).symm
 have b1:=λ(q:j<=i)=>Ot (n:=i) (k:=j) (by omega) q;have b2:=λ(q:0<j)=>Ot (n:=i) (k:=j-1) (by omega) (by omega);have l1:=λ(q:j<=i)=>Gf (n:=i) (k:=j) (by omega) q;have V:=λ(q:0<j)=>Gf (n:=i) (k:=j-1) (by omega) (by omega);have f3:j<=i->j*(i+1-j)=j*(i-j)+j:=by intro q;rw[show i+1-j=(i-j)+1 by omega,Nat.mul_succ]
 have T:0<j->(j-1)*(i-(j-1))+(i+1-j)=j*(i+1-j):=by intro q;obtain⟨c,rfl⟩:∃c,j=c+1:=⟨j-1,by omega⟩;rw[Nat.add_sub_cancel,Nat.succ_mul,show i+1-(c+1)=i-c by omega]
 have r:=λ(q:0<j)(Q:j<=i)=>ACJ (m:=i) (k:=j) (by omega) q Q;have z0:j=0->gs (i+1) j=[1]/\gs i j=[1]:=by intro q;subst q;exact⟨QX (by omega),QX (by omega)⟩
 have zn:j=i+1->gs (i+1) j=[1]/\gs i (j-1)=[1]:=by intro q;subst q;exact⟨UZ (by omega),by rw[Nat.add_sub_cancel];exact UZ (by omega)⟩
 obtain⟨L,hL⟩:∃L,L=j*(i+1-j)+1:=⟨_,rfl⟩;have Z:((M:Nat):Int)+1=(L:Nat):=by omega
 have B:j<=i->AF (D3 i k) j=gs i j:=λq=>Ua (by omega);have f:0<j->AF (D3 i k) ((j:Int)-1)=gs i (j-1):=λq=>by rw[show(j:Int)-1=((j-1:Nat):Int) by omega];exact Ua (by omega)
 have whole:∀(o:List Int),o.length=L->(∀t:Nat,t<L->AB o t=(if j<=i then AB (gs i j) t else 0)+(if 0<j/\i+1-j<=t then AB (gs i (j-1)) ((t-(i+1-j):Nat):Int)else 0))->o=gs (i+1) j:=by
  intro o h1 h2;refine Lm (by omega) λt h3=>?_;rw[h2 t (by omega)];by_cases q:j=0;have z:=z0 q;rw[if_pos (by omega),if_neg (by omega),z.1,z.2];omega;by_cases Q:j=i+1;have z:=zn Q;have hL1:L=1:=by rw[hL,Q];simp
  have:t=0:=by omega
  subst this;rw[if_neg (by omega),if_pos (by omega),z.1,z.2];simp[AB];have:=r (by omega) (by omega) t;rw[Lw]at this;rw[if_pos (by omega),<-this];by_cases x:i+1-j<=t;rw[if_pos ⟨by omega,x⟩,if_pos x];rw[if_neg (λq=>x q.2),if_neg x]
 rw[N];simp(disch:=try exact dV) only[AD,s,Y,Z];by_cases a:j<=i;have k1:=l1 a;have R:=b1 a;have O:=B a;have k3:=f3 a;refine wW ?_;refine BE (λt (o:List Int)=>o.length=L/\∀u:Nat,u<L->AB o u=if u<t then AB (gs i j) u else 0) (λt o=>[.n n,.n k,.u,LL (D3 i k),.n ((i:Int)+1),LL ((D3 (i+1) k).take j),.n j,LI o,.n t,.u,.u,.u,.u,.u,.u,.u]) (gs i j).length (rep (L:Nat) 0) ⟨by simp[rep],λu H=>by simp[AB,rep,H]⟩ rfl (λt o J P=>?_) (λo P=>?_);obtain⟨G,g⟩:=P;have b:=g t (by omega);rw[if_neg (by omega)]at b;have c2:=R t;simp(disch:=try exact dV) only[AD,O,b];refine⟨_,⟨by rw[DD,G],λu H=>?_⟩,rfl⟩;rw[Gb (by omega)];by_cases q:t=u;subst q;rw[if_pos rfl,if_pos (by omega)];omega;rw[if_neg q,g u H];by_cases Q:u<t;rw[if_pos Q,if_pos (by omega)];rw[if_neg Q,if_neg (by omega)];obtain⟨G,g⟩:=P;have g:∀u:Nat,u<L->AB o u=AB (gs i j) u:=by intro u H;rw[g u H];by_cases q:u<(gs i j).length;rw[if_pos q];rw[if_neg q];exact(J4 (by omega)).symm
 simp(disch:=try exact dV) only[AD,O];by_cases h:0<j;have k2:=V h;have C:=b2 h;have a2:=f h;have k4:=T h;refine wW ?_;refine BE (λt (o:List Int)=>o.length=L/\∀u:Nat,u<L->AB o u=AB (gs i j) u+(if i+1-j<=u/\u<i+1-j+t then AB (gs i (j-1)) ((u-(i+1-j):Nat):Int)else 0)) (λt o=>[.n n,.n k,.u,LL (D3 i k),.n ((i:Int)+1),LL ((D3 (i+1) k).take j),.n j,LI o,.u,.n t,.u,.u,.u,.u,.u,.u]) (gs i (j-1)).length o ⟨G,λu H=>by rw[g u H,if_neg (by omega)];omega⟩ rfl (λt o J P=>?_) (λo P=>?_);obtain⟨G,g⟩:=P;have I:(t:Int)+((i:Int)+1)-(j:Int)=((i+1-j+t:Nat):Int):=by omega
 have b:=g (i+1-j+t) (by omega);rw[if_neg (by omega)]at b;have c2:=R (i+1-j+t);have W:=C t;simp(disch:=try exact dV) only[AD,a2,I];refine⟨_,⟨by rw[DD,G],λu H=>?_⟩,rfl⟩;rw[Gb (by omega)];by_cases q:i+1-j+t=u;subst q;rw[if_pos rfl,if_pos (by omega),b,show i+1-j+t-(i+1-j)=t by omega];omega;rw[if_neg q,g u H];by_cases Q:i+1-j<=u/\u<i+1-j+t;rw[if_pos Q,if_pos (by omega)];rw[if_neg Q,if_neg (by omega)];obtain⟨G,g⟩:=P;have l:=whole o G λu H=>by rw[g u H,if_pos a];by_cases q:i+1-j<=u;rw[if_pos ⟨q,by omega⟩,if_pos ⟨h,q⟩];rw[if_neg (by omega),if_neg (by omega)]
 subst l;simp(disch:=try exact dV) only[AD,a2,HI,WK];have l:=whole o G λu H=>by rw[g u H,if_pos a,if_neg (by omega)];omega
 subst l;simp(disch:=try exact dV) only[AD,HI,WK];have h:0<j:=by omega
 have k2:=V h;have C:=b2 h;have a2:=f h;have k4:=T h;refine wW ?_;refine BE (λt (o:List Int)=>o.length=L/\∀u:Nat,u<L->AB o u=(if i+1-j<=u/\u<i+1-j+t then AB (gs i (j-1)) ((u-(i+1-j):Nat):Int)else 0)) (λt o=>[.n n,.n k,.u,LL (D3 i k),.n ((i:Int)+1),LL ((D3 (i+1) k).take j),.n j,LI o,.u,.n t,.u,.u,.u,.u,.u,.u]) (gs i (j-1)).length (rep (L:Nat) 0) ⟨by simp[rep],λu H=>by rw[if_neg (by omega)];simp[AB,rep,H]⟩ rfl (λt o J P=>?_) (λo P=>?_);obtain⟨G,g⟩:=P;have I:(t:Int)+((i:Int)+1)-(j:Int)=((i+1-j+t:Nat):Int):=by omega
 have b:=g (i+1-j+t) (by omega);rw[if_neg (by omega)]at b;have W:=C t;simp(disch:=try exact dV) only[AD,a2,I,b];refine⟨_,⟨by rw[DD,G],λu H=>?_⟩,rfl⟩;rw[Gb (by omega)];by_cases q:i+1-j+t=u;subst q;rw[if_pos rfl,if_pos (by omega),show i+1-j+t-(i+1-j)=t by omega];omega;rw[if_neg q,g u H];by_cases Q:i+1-j<=u/\u<i+1-j+t;rw[if_pos Q,if_pos (by omega)];rw[if_neg Q,if_neg (by omega)];obtain⟨G,g⟩:=P;have l:=whole o G λu H=>by rw[g u H,if_neg a];by_cases q:i+1-j<=u;rw[if_pos ⟨q,by omega⟩,if_pos ⟨h,q⟩];omega;rw[if_neg (by omega),if_neg (by omega)];omega
 subst l;simp(disch:=try exact dV) only[AD,a2,HI,WK];have e:(D3 (i+1) k).take (min (i+1) k+1)=D3 (i+1) k:=List.take_of_length_le (by omega);rw[e];simp(disch:=try exact dV) only[AD,s];have hl:=R0 (m:=n) (k:=k);have e:=Ua (m:=n) (k:=k) (j:=k) (by omega);simp(disch:=try exact dV) only[AD,e]
def J1(n k:Int):Bool:=A4 0 14 n&&A4 0 n k
def LH(n k:Int):List Int:=if J1 n k=true then gs n.toNat k.toNat else []
theorem Aa7[HA K]{n k:Int}:K 412 [.n n,.n k] [LI (LH n k),.b (J1 n k)]:=by
 refine qw I412 ?_;refine cB CN ?_
 cases h1:A4 0 14 n;simp(disch:=try exact dV) only[AD,EI];simp[LH,J1,h1];refine wW ?_;refine cB CN ?_
 cases h2:A4 0 n k;simp(disch:=try exact dV) only[AD,EI];simp[LH,J1,h2];have b1:=Af.1 h1;have b2:=Af.1 h2;obtain⟨m,rfl⟩:=CZ b1.1;obtain⟨c,rfl⟩:=CZ b2.1;refine wW ?_;refine cW (U7 m c (by omega) (by omega)) ?_;simp[LH,J1,h1,h2]
def BR(n:Int):List Int:=if A4 0 7 n=true then Ng.getD n.toNat []else []
theorem cp0:BH 8 (λn=>match I5 (gs (2*n) n) (rep ((n+1:Nat):Int) 1)with|some x=>decide (x.1=Ng.getD n [])|none=>false)=true:=by kernel_rfl
theorem cp1:BH 8 (λn=>decide (Cu (H8 (rep ((n+1:Nat):Int) 1) (B8 (gs (2*n) n) (rep ((n+1:Nat):Int) 1)) (gs (2*n) n,rep (B8 (gs (2*n) n) (rep ((n+1:Nat):Int) 1):Nat) 0)).2=Ng.getD n []))=true:=by kernel_rfl
theorem Zz[HA K]{n:Int}:K 408 [.n n] [LI (BR n),.b (A4 0 7 n)]:=by
 refine qw I408 ?_;refine cB CN ?_
 cases h1:A4 0 7 n;simp(disch:=try exact dV) only[AD,EI];simp[BR,h1];have b1:=Af.1 h1;obtain⟨m,rfl⟩:=CZ b1.1;have T:(2*(m:Int)).toNat=2*m:=by omega
 have e:=Aa7 (K:=K) (n:=2*(m:Int)) (k:=m);have o:J1 (2*(m:Int)) m=true:=by simp only[J1,AU];exact⟨Af.2 (by omega),Af.2 (by omega)⟩
 have R:LH (2*(m:Int)) m=gs (2*m) m:=by simp only[LH,o,if_true,BM,T]
 rw[o,R]at e;have g:=np_i (K:=K) (n:=(m:Int)+1);have O:Md ((m:Int)+1)=true:=Af.2 (by omega);have i:Ny ((m:Int)+1)=rep ((m+1:Nat):Int) 1:=by simp only[Ny,O,if_true];rfl
 rw[O,i]at g;have l:=Gf (n:=2*m) (k:=m) (by omega) (by omega);have H:=RT (n:=2*m) (k:=m) (by omega) (by omega);have j:(rep ((m+1:Nat):Int) (1:Int)).length=m+1:=by rw[J0];omega
 have f:=dv_i (K:=K) (a:=gs (2*m) m) (b:=rep ((m+1:Nat):Int) 1) (by omega) (by omega);have c:=BQ cp0 m (by omega)
 cases hq:I5 (gs (2*m) m) (rep ((m+1:Nat):Int) 1)with
 |none=>rw[hq]at c;cases c
 |some y=>
  rw[hq]at f c
  simp only[Ad]at c
  have h:BR (m:Int)=y.1:=by simp only[BR,h1,if_true,BM,c]
  rw[h]
  refine wW ?_
  refine cW e ?_
  refine cW g ?_
  exact cZ f
theorem ABN[HA K]{n:Int}:K 425 [.n n] [LI (BR n),.b (A4 0 7 n)]:=by
 refine qw I425 ?_;refine cB Cl ?_
 cases h1:A4 0 7 n;simp(disch:=try exact dV) only[AD,EI];simp[BR,h1];have b1:=Af.1 h1;obtain⟨m,rfl⟩:=CZ b1.1;have e:=AUG (K:=K) (n:=2*m) (k:=m) (by omega) (by omega);have f:=AYF (K:=K) (n:=m+1) (by omega);rw[show((2*m:Nat):Int)=2*(m:Int) by omega]at e;rw[show((m+1:Nat):Int)=(m:Int)+1 by omega]at f;have l:=Gf (n:=2*m) (k:=m) (by omega) (by omega);have H:=RT (n:=2*m) (k:=m) (by omega) (by omega);have i:(rep ((m+1:Nat):Int) (1:Int)).length=m+1:=by rw[J0];omega
 have h:=Te (K:=K) (a:=gs (2*m) m) (b:=rep ((m+1:Nat):Int) 1) (by omega) (by omega) (by omega);have c:=BQ cp1 m (by omega);simp only[Ad]at c;have g:BR (m:Int)=Ng.getD m []:=by simp only[BR,h1,if_true,BM]
 rw[g,<-c];refine wW ?_;refine cW e ?_;refine cW f ?_;exact cZ h
end Go.Cat
