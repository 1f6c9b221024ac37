/-
 Turns of matchings, of partitions, of triangulations.
-/
import Derived.Test.YthoilpmggmenbaaGreatPfRdG
set_option linter.unusedSimpArgs false
set_option linter.unusedVariables false
namespace Go.Cat
variable{K:Nat->List D->List D->Prop}
theorem AUO{rs:List (List Int)}{j:Int}(h:0<=j/\j<=rs.length):Ec (LL rs) none (some (.n j))=some (LL (sub rs 0 j)):=IV LI JS (FG h.1) (by omega) (by omega)
def Ie(m:List Int)(k:Nat):List Int:=iter (λi out=>B9 out (((i:Int)-k+m.length)%m.length) ((AB m i-k+m.length)%m.length)) m.length (rep m.length 0)
theorem ALF{m:List Int}{k:Nat}:(Ie m k).length=m.length:=by unfold Ie;exact WL (λ(l:List Int)=>l.length=m.length) (by simp[rep]) (λi s h=>by rw[DD];exact h) _
theorem Ia{a n:Int}(h:0<n):0<=a%n/\a%n<n:=⟨Int.emod_nonneg _ (by omega),Int.emod_lt_of_pos _ h⟩
theorem AWY[HA K]{m:List Int}{k:Nat}(c:CV m=true)(o:0<m.length)(l:k<m.length)(j:∀i:Nat,i<m.length->0<=AB m i/\AB m i<m.length):K 474 [LI m,.n k] [LI (Ie m k),.b true]:=by
 have g:=(GY c).1;have H:A4 0 ((m.length:Int)-1) k=true:=Af.2 (by omega);refine qw I474 ?_;refine cB (XA (by omega)) ?_;rw[c];refine wW ?_;have f:max 0 ((m.length:Int)-1)=(m.length:Int)-1:=by omega
 simp(disch:=try exact dV) only[AD,f];refine cB CN ?_;simp(disch:=try exact dV) only[AD,H];refine NF (λi out=>B9 out (((i:Int)-k+m.length)%m.length) ((AB m i-k+m.length)%m.length)) (λ_ s=>s.length=m.length) (λi s=>[.u,.n k,.u,.u,.n m.length,LI s,.u,.u,.u,LI m,.n m.length,.n i,.u]) m.length (rep m.length 0) (by simp[rep]) rfl (λi s _ h=>by rw[DD];exact h) (λi s hi e _=>?_) (λs e _=>?_);have R:=j i hi;have q:=Ia (a:=(i:Int)-k+m.length) (n:=m.length) (by omega);have Q:=Ia (a:=AB m i-k+m.length) (n:=m.length) (by omega);exact wZ;refine wW ?_;rw[e]<;>rfl
theorem AbC[HA K]{m:List Int}{k:Nat}(c:CV m=true)(o:0<m.length)(l:k<m.length)(j:∀i:Nat,i<m.length->0<=AB m i/\AB m i<m.length):K 477 [LI m,.n k] [LI (Ie m k),.b true]:=by
 have g:=(GY c).1;have H:A4 0 ((m.length:Int)-1) k=true:=Af.2 (by omega);refine qw I477 ?_;refine cB (Qd (by omega)) ?_;rw[c];have f:max 0 ((m.length:Int)-1)=(m.length:Int)-1:=by omega
 simp(disch:=try exact dV) only[AD,f];refine cB Cl ?_;simp(disch:=try exact dV) only[AD,H];refine NF (λi out=>B9 out (((i:Int)-k+m.length)%m.length) ((AB m i-k+m.length)%m.length)) (λ_ s=>s.length=m.length) (λi s=>[LI m,.n k,.u,.u,.n m.length,LI s,.n i,.u,.u]) m.length (rep m.length 0) (by simp[rep]) rfl (λi s _ h=>by rw[DD];exact h) (λi s hi e _=>?_) (λs e _=>?_);have R:=j i hi;have q:=Ia (a:=(i:Int)-k+m.length) (n:=m.length) (by omega);have Q:=Ia (a:=AB m i-k+m.length) (n:=m.length) (by omega);exact wZ;refine wW ?_;rw[e]<;>rfl
def LF(p:List Int):List Int:=[AB p ((p.length:Int)-1)]++sub p 0 ((p.length:Int)-1)
def HB(p:List Int):List Int:=Cq (LF p) (LF p).length
theorem AB8{p:List Int}(h:0<p.length):(LF p).length=p.length:=by simp only[LF,AZ,AO,Aa,LO];omega
theorem ARY[HA K]{p:List Int}(h:CJ p=true)(H:0<p.length):K 435 [LI p] [LI (HB p),.b true]:=by
 have c:p.length<=8:=by simp[CJ]at h;exact h.1
 have a:=AB8 H;refine qw I435 ?_;refine cB (Wr (p:=p) (by omega)) ?_;rw[h];refine wW ?_;exact cZ (ACR (l:=LF p) (by omega))
theorem AdT[HA K]{p:List Int}(h:CJ p=true)(H:0<p.length):K 594 [LI p] [LI (HB p),.b true]:=by
 have c:p.length<=8:=by simp[CJ]at h;exact h.1
 have a:=AB8 H;refine qw I594 ?_;refine cB (Nu (p:=p) (by omega)) ?_;rw[h];refine wW ?_;exact cZ (XG (l:=LF p) (by omega))
theorem AVL[HA K]{n:Int}{r:List Int}(s:0<=n/\n<=1000)(H:FF r):K 605 [.n n,LI r] [.b (Dq n r)]:=by
 obtain⟨k,l,o⟩:=H;refine qb I605 ?_;simp(disch:=first|omega|simp only[vl];omega) only[AD];refine Aq (CN (K:=K)) rfl ?_
 cases c:A4 0 (n-1) (AB r 0);simp(disch:=first|omega|simp only[vl];omega) only[AD];simp[Dq,c];simp(disch:=first|omega|simp only[vl];omega) only[AD];refine Aq (CN (K:=K)) rfl ?_
 cases f:A4 0 (n-1) (AB r 1);have e:Dq n r=false:=by simp only[Dq,Bool.and_eq_false_iff];refine .inl (.inr ?_);rw[Bool.eq_false_iff];intro q;have a:=Af.1 c;have b:=Af.1 q;have:A4 0 (n-1) (AB r 1)=true:=Af.2 (by omega);rw[this]at f;cases f
 simp(disch:=first|omega|simp only[vl];omega) only[AD];rw[e];have j:=Af.1 c;have a2:=Af.1 f;by_cases x:AB r 1-AB r 0>=2;have Q:A4 (AB r 0+2) (n-1) (AB r 1)=true:=Af.2 (by omega);by_cases g:AB r 0=0;by_cases h:AB r 1=n-1;simp(disch:=first|omega|simp only[vl];omega) only[AD];simp[Dq,g,h];simp(disch:=first|omega|simp only[vl];omega) only[AD];have i:decide (AB r 1=n-1)=false:=decide_eq_false h;simp only[Dq,c,Q,i,Bool.and_false];rfl;simp(disch:=first|omega|simp only[vl];omega) only[AD];simp[Dq,c,Q,g];have Q:A4 (AB r 0+2) (n-1) (AB r 1)=false:=by rw[Bool.eq_false_iff];intro q;have:=Af.1 q;omega
 simp(disch:=first|omega|simp only[vl];omega) only[AD];simp[Dq,Q]
theorem AWM[HA K]{n:Int}{d:List (List Int)}(h:DU n d=true)(g:∀r∈d,FF r):K 602 [.n n,LL d] [.b true]:=by
 simp only[DU,AU,Ad]at h;obtain⟨⟨o,J⟩,L⟩:=h;have W:=Af.1 o;have F:max 0 (n-3)=(d.length:Int):=J.symm;refine qb I602 ?_;simp(disch:=first|omega|simp only[vl];omega) only[AD];refine Aq (CN (K:=K)) rfl ?_;rw[o];simp(disch:=first|omega|simp only[vl];omega) only[AD,F];refine AR (λi=>Cn n (d.take i) (d.drop i)=true) (λi=>[.n n,LL d,.u,.u,.u,.u,.u,LL d,.n d.length,.n i,.u,.u,.u,.u,.u,.u,.u]) d.length (by simpa using L) rfl (λi hi P=>?_) (λ_=>?_);rw[Z0 hi]at P;simp only[AU,Bool.or_eq_true,Ad,Aj,Bool.not_eq_true']at P;obtain⟨⟨⟨O,Q⟩,R⟩,s⟩:=P;have j:FF (AF d i):=g _ (by simp[AF,hi]);have M:=j.1;simp(disch:=first|omega|simp only[vl];omega) only[AD];refine Aq (AVL (K:=K) (n:=n) (r:=AF d i) (by omega) j) rfl ?_;rw[O];have fin:∀k:Nat,k<i->DX (AF d k) (AF d i)=false/\FF (AF d k):=λk H=>by
  have q:AF d k∈d.take i:=by rw[List.mem_iff_getElem];exact⟨k,by simp;omega,by simp[AF,show k<d.length by omega]⟩
  exact⟨R _ q,g _ (List.mem_of_mem_take q)⟩
 have es:sub d 0 (i:Int)=d.take i:=by simp[sub]
 have I:(d.take i).length=i:=by simp;omega
 have G:∀k:Nat,k<i->AF (d.take i) k=AF d k:=λk H=>by simp[AF,Ap,H]
 by_cases h0:i=0;subst h0;simp(disch:=first|omega|simp only[vl];omega) only[AD,es];refine AR (λ_=>True) (λk=>[.n n,LL d,.u,.u,LI (AF d 0),.u,.u,LL d,.n d.length,.n 0,.u,.u,LL (sub d 0 (0:Int)),.n 0,.n k,.u,.u]) 0 trivial rfl (λk H _=>by omega) (λ_=>?_);simp(disch:=first|omega|simp only[vl];omega) only[AD];exact s;have f:Bj (AF d ((i:Int)-1)) (AF d i)=true:=Q.resolve_left h0;have N:FF (AF d ((i:Int)-1)):=g _ (by
  have:((i:Int)-1).toNat=i-1:=by omega
  simp[AF,this,show i-1<d.length by omega])
 have a:decide (JE (AF d ((i:Int)-1)) (AF d i)>=0)=false:=by have:=ADM (x:=AF d ((i:Int)-1)) (y:=AF d i);rw[f]at this;simp only[Ad]at this;exact decide_eq_false (by omega)
 have l:=X7 (K:=K) (x:=AF d ((i:Int)-1)) (y:=AF d i) N.1 j.1;simp(disch:=first|omega|simp only[vl];omega) only[AD];refine Aq (l) rfl ?_;simp(disch:=first|omega|simp only[vl];omega) only[AD,a,AUO,es];refine AR (λ_=>True) (λk=>[.n n,LL d,.u,.u,LI (AF d i),.u,.u,LL d,.n d.length,.n i,.u,.u,LL (d.take i),.n i,.n k,.u,.u]) i trivial ?_ (λk H _=>?_) (λ_=>?_);rw[I]<;>rfl;obtain⟨c,c2⟩:=fin k H;have C:=c2.1;have B:=G k H;simp only[DX,Bool.or_eq_false_iff,Bool.and_eq_false_iff,decide_eq_false_iff_not]at c;rw[<-B]at c c2 C;obtain⟨y,e⟩:∃y,AF (d.take i) (k:Int)=y:=⟨_,rfl⟩;rw[e]at c c2 C;by_cases T:AB y 0<AB (AF d i) 0;by_cases a2:AB (AF d i) 0<AB y 1;by_cases U:AB y 1<AB (AF d i) 1;omega;simp(disch:=first|omega|simp only[vl];omega) only[AD,e];simp(disch:=first|omega|simp only[vl];omega) only[AD,e];by_cases b1:AB (AF d i) 0<AB y 0;by_cases b2:AB y 0<AB (AF d i) 1;by_cases V:AB (AF d i) 1<AB y 1;omega;simp(disch:=first|omega|simp only[vl];omega) only[AD,e];simp(disch:=first|omega|simp only[vl];omega) only[AD,e];simp(disch:=first|omega|simp only[vl];omega) only[AD,e];simp(disch:=first|omega|simp only[vl];omega) only[AD];exact s;simp(disch:=first|omega|simp only[vl];omega) only[AD]
def Ih(n k:Int)(r:List Int):List Int:=[min ((AB r 0+k)%n) ((AB r 1+k)%n),max ((AB r 0+k)%n) ((AB r 1+k)%n)]
def IT(n k:Int)(d:List (List Int)):List (List Int):=D1 (d.map (Ih n k))
theorem AYP{l:List (List Int)}{x:List Int}:D1 (l++[x])=(BY x (D1 l).reverse).reverse:=by simp only[D1,Hu,List.foldl_append,List.foldl_cons,List.foldl_nil,List.reverse_reverse]
theorem Y8{α:Type}{l:List (List Int)}{f:List Int->α}{i:Nat}(h:i<l.length):(l.take (i+1)).map f=(l.take i).map f++[f (AF l i)]:=by rw[ABO h,List.map_append]<;>rfl
theorem Nx{n:Int}{d:List (List Int)}(h:DU n d=true):d.length<=7/\2<=n/\n<=10:=by simp only[DU,AU,Ad]at h;have:=Af.1 h.1.1;have:=h.1.2;omega
theorem AJ5{n:Int}:∀{d o:List (List Int)},Cn n o d=true->∀r∈d,Dq n r=true
 |[],_,_,r,H=>by cases H
 |x::d,o,h,r,H=>by simp only[Cn,AU]at h;rcases AY.1 H with rfl|H;exact h.1.1.1;exact AJ5 h.2 r H
theorem AG3{n:Int}{d:List (List Int)}(h:DU n d=true){i:Nat}(hi:i<d.length):(0<=AB (AF d i) 0/\AB (AF d i) 0<=n-1)/\0<=AB (AF d i) 1/\AB (AF d i) 1<=n-1:=by simp only[DU,AU]at h;have:=AJ5 h.2 (AF d i) (by simp[AF,hi]);simp only[Dq,AU]at this;have a:=Af.1 this.1.1;have b:=Af.1 this.1.2;omega
theorem AS3[HA K]{n k:Int}{d:List (List Int)}(h:DU n d=true)(c:∀r∈d,FF r)(f:0<=k/\k<n):K 598 [.n n,LL d,.n k] [LL (IT n k d),.b true]:=by
 obtain⟨g,j⟩:=Nx h;refine qw I598 ?_;refine cW (AWM h c) ?_;refine cB CN ?_;rw[show A4 0 (n-1) k=true from Af.2 (by omega)];refine wW ?_;refine BE (λi (o:List (List Int))=>o=(d.take i).map (Ih n k)) (λi o=>[.n n,.u,.n k,.u,.u,LL o,.u,.u,.u,.u,LL d,.n d.length,.n i,.u]) d.length [] rfl rfl (λi o hi P=>?_) (λo P=>?_);have H:=c (AF d i) (by simp[AF,hi]);have l:=H.1;have R:=AG3 h hi;have q:o.length=i:=by rw[P];simp;omega
 have Q:=Ia (a:=AB (AF d i) 0+k) (n:=n) (by omega);have B:=Ia (a:=AB (AF d i) 1+k) (n:=n) (by omega);simp(disch:=try exact dV) only[AD,HI];have e:Ev false (LL o) (LL [Ih n k (AF d i)])=some (LL (o++[Ih n k (AF d i)])):=KU ⟨by simp;omega,rfl⟩;simp only[Ih]at e;simp(disch:=try exact dV) only[AD,e];refine⟨_,?_,rfl⟩;rw[P,Y8 hi]<;>rfl;rw[List.take_of_length_le (by omega)]at P;have s:=AAB (K:=K) (d:=o) (by rw[P];simp;omega) (by intro x H;rw[P]at H;obtain⟨r,_,rfl⟩:=List.mem_map.1 H;rfl);refine wW ?_;refine cW s ?_;rw[P]<;>rfl
theorem AXV[HA K]{n k:Int}{d:List (List Int)}(h:DU n d=true)(e:∀r∈d,FF r)(q:0<=k/\k<n):K 595 [.n n,LL d,.n k] [LL (IT n k d),.b true]:=by
 obtain⟨s,B⟩:=Nx h;refine qw I595 ?_;refine cB (AAV (by omega) (by omega) e) ?_;rw[h];refine wW ?_;refine cB Cl ?_;rw[show A4 0 (n-1) k=true from Af.2 (by omega)];refine wW ?_;refine BE (λi (o:List (List Int))=>o=D1 ((d.take i).map (Ih n k))) (λi o=>[.n n,LL d,.n k,.u,.u,LL o,.n i,.u,.u,.u,.u]) d.length [] rfl rfl (λi o hi P=>?_) (λo P=>?_);have g:=e (AF d i) (by simp[AF,hi]);have j:=g.1;have R:=AG3 h hi;have C:o.length=i:=by rw[P,AET];simp;omega
 have Q:=Ia (a:=AB (AF d i) 0+k) (n:=n) (by omega);have F:=Ia (a:=AB (AF d i) 1+k) (n:=n) (by omega);have c:∀z∈o,C7 z:=λz f=>by rw[P,UA]at f;obtain⟨r,_,rfl⟩:=List.mem_map.1 f;rfl
 have H:=AF9 (K:=K) (l:=o) (x:=Ih n k (AF d i)) (by omega) c rfl;simp only[Ih]at H;refine wW ?_;refine cW H ?_;refine⟨_,?_,rfl⟩;rw[Y8 hi,AYP,<-P]<;>rfl;rw[List.take_of_length_le (by omega)]at P;refine wW ?_;rw[P]<;>rfl
end Go.Cat
namespace Go.Cat
variable{K:Nat->List D->List D->Prop}
def Gp(s:List Nat):Nat:=(s.takeWhile λc=>decide (c≠58)).length
def dgG(r:List Nat)(k:Nat):List Int:=[(AI r (3*(k:Int)):Int)-48,(AI r (3*(k:Int)+1):Int)-48]
def P2(r:List Nat):List (List Int):=if r=[110,111,110,101]then []else(List.range ((r.length+1)/3)).map (dgG r)
def NN(s:List Nat):Option (List Nat):=
 if E8 (s.take (Gp s))=true/\Gp s+2<=s.length/\DU (pR (s.take (Gp s))) (P2 (s.drop (Gp s+2)))=true
 then some (Je (pR (s.take (Gp s))) (P2 (s.drop (Gp s+2)))).p else none
def ABQ(s:List Nat):Bool:=(NN s).isSome
def Oc(s:List Nat):List Nat:=(NN s).getD []
theorem AbA{s:List Nat}:-999999999<=pR s/\pR s<=999999999:=by unfold pR;split;rename_i h;simp only[E8,AU,Ad]at h;exact h.1;omega
end Go.Cat
namespace Go.Cat
variable{K:Nat->List D->List D->Prop}
def IC(f:Int->List Int->Bool):List Int->Bool
 |[]=>true
 |x::t=>f x t&&IC f t
def My(x y z:Int):List Int->Bool:=IC λu _=>!(decide (x=z)&&decide (y=u)&&!decide (x=y))
def KO(x y:Int):List Int->Bool:=IC λz t=>My x y z t
def Hm(x:Int):List Int->Bool:=IC λy t=>KO x y t
def EV:List Int->Bool:=IC λx t=>Hm x t
def Fp(p:List Int):Bool:=CJ p&&EV p
theorem On{f:Int->List Int->Bool}{p:List Int}{i:Nat}(h:i<p.length):IC f (p.drop i)=(f (AB p i) (p.drop (i+1))&&IC f (p.drop (i+1))):=by rw[List.drop_eq_getElem_cons h,IC];simp[AB,h]
theorem O7{f:Int->List Int->Bool}{p:List Int}{i:Nat}(h:p.length<=i):IC f (p.drop i)=true:=by rw[List.drop_of_length_le h]<;>rfl
theorem nc_s[HA K]{p:List Int}(h:p.length<=1099511627776):K 483 [LI p] [.b (Fp p)]:=by
 have s:=Nu (K:=K) (p:=p) h;refine qw I483 ?_;by_cases g:CJ p=true;rw[g]at s;have Y:p.length<=8:=by simp[CJ]at g;exact g.1
 have F:Fp p=EV p:=by simp[Fp,g]
 rw[F];refine AR (λi=>EV p=EV (p.drop i)) (λi=>[LI p,.u,.n i,.u,.u,.u,.u,.u,.u,.u,.u]) p.length (by simp) rfl (λa U x=>?_) (λx=>?_);have x:EV p=(Hm (AB p a) (p.drop (a+1))&&EV (p.drop (a+1))):=x.trans (On U);refine wW ?_;refine cW s ?_;refine AR (λj=>EV p=(Hm (AB p a) (p.drop (a+1+j))&&EV (p.drop (a+1)))) (λj=>[LI p,.u,.n a,.n ((a:Int)+1+j),.u,.u,.u,.u,.u,.u,.u]) (p.length-(a+1)) (by simpa using x) (by simp) (λj Z B=>?_) (λB=>?_);obtain⟨b,V⟩:∃b,b=a+1+j:=⟨_,rfl⟩;have Q:(a:Int)+1+j=(b:Int):=by omega
 have J:b<p.length:=by omega
 rw[<-V]at B;have B:EV p=((KO (AB p a) (AB p b) (p.drop (b+1))&&Hm (AB p a) (p.drop (b+1)))&&EV (p.drop (a+1))):=by rw[B];congr 1;exact On J
 rw[Q];refine wW ?_;refine AR (λk=>EV p=((KO (AB p a) (AB p b) (p.drop (b+1+k))&&Hm (AB p a) (p.drop (b+1)))&&EV (p.drop (a+1)))) (λk=>[LI p,.u,.n a,.n b,.n ((b:Int)+1+k),.u,.u,.u,.u,.u,.u]) (p.length-(b+1)) (by simpa using B) (by simp) (λk hk C=>?_) (λC=>?_);obtain⟨c,W⟩:∃c,c=b+1+k:=⟨_,rfl⟩;have R:(b:Int)+1+k=(c:Int):=by omega
 have L:c<p.length:=by omega
 rw[<-W]at C;have C:EV p=(((My (AB p a) (AB p b) (AB p c) (p.drop (c+1))&&KO (AB p a) (AB p b) (p.drop (c+1)))&&Hm (AB p a) (p.drop (b+1)))&&EV (p.drop (a+1))):=by rw[C];congr 2;exact On L
 rw[R];refine wW ?_;refine AR (λl=>EV p=(((My (AB p a) (AB p b) (AB p c) (p.drop (c+1+l))&&KO (AB p a) (AB p b) (p.drop (c+1)))&&Hm (AB p a) (p.drop (b+1)))&&EV (p.drop (a+1)))) (λl=>[LI p,.u,.n a,.n b,.n c,.n ((c:Int)+1+l),.u,.u,.u,.u,.u]) (p.length-(c+1)) (by simpa using C) (by simp) (λl hl H=>?_) (λH=>?_);obtain⟨d,hd⟩:∃d,d=c+1+l:=⟨_,rfl⟩;have T:(c:Int)+1+l=(d:Int):=by omega
 have M:d<p.length:=by omega
 have G:c+1+(l+1)=d+1:=by omega
 have o:(c:Int)+1+((l:Int)+1)=(d:Int)+1:=by omega
 rw[<-hd]at H;have H:EV p=((((!(decide (AB p a=AB p c)&&decide (AB p b=AB p d)&&!decide (AB p a=AB p b)))&&My (AB p a) (AB p b) (AB p c) (p.drop (d+1)))&&KO (AB p a) (AB p b) (p.drop (c+1)))&&Hm (AB p a) (p.drop (b+1))&&EV (p.drop (a+1))):=by rw[H];congr 3;exact On M
 rw[T,G];by_cases N:AB p a=AB p c;by_cases O:AB p b=AB p d;by_cases P:AB p a=AB p b;refine wW ?_;rw[o];refine⟨?_,rfl⟩;rw[H];simp[P];refine wW ?_;rw[H,decide_eq_true N,decide_eq_true O,decide_eq_false P];simp;refine wW ?_;rw[o];refine⟨?_,rfl⟩;rw[H];simp[O];refine wW ?_;rw[o];refine⟨?_,rfl⟩;rw[H];simp[N];refine wW ?_;have e:=O7 (f:=λu _=>!(decide (AB p a=AB p c)&&decide (AB p b=u)&&!decide (AB p a=AB p b))) (p:=p) (i:=c+1+(p.length-(c+1))) (by omega);have e:My (AB p a) (AB p b) (AB p c) (p.drop (c+1+(p.length-(c+1))))=true:=e;rw[e,Bool.true_and]at H;have I:b+1+(k+1)=c+1:=by omega
 have q:(b:Int)+1+((k:Int)+1)=(c:Int)+1:=by omega
 rw[I,q];exact⟨H,rfl⟩;refine wW ?_;have e:KO (AB p a) (AB p b) (p.drop (b+1+(p.length-(b+1))))=true:=O7 (by omega);rw[e,Bool.true_and]at C;have I:a+1+(j+1)=b+1:=by omega
 have q:(a:Int)+1+((j:Int)+1)=(b:Int)+1:=by omega
 rw[I,q];exact⟨C,rfl⟩;refine wW ?_;have e:Hm (AB p a) (p.drop (a+1+(p.length-(a+1))))=true:=O7 (by omega);rw[e,Bool.true_and]at B;exact B;have e:EV (p.drop p.length)=true:=O7 (by omega);rw[e]at x;refine wW ?_;refine cW s ?_;rw[x];have g:CJ p=false:=by simpa using g
 rw[g]at s;have F:Fp p=false:=by simp[Fp,g]
 rw[F];refine AR (λ_=>True) (λ_=>[LI p,.u,.n 0,.u,.u,.u,.u,.u,.u,.u,.u]) 0 trivial rfl (λi hi _=>absurd hi (by omega)) (λ_=>?_);by_cases h0:p.length=0;refine wW ?_;exact cZ s;refine wW ?_;refine cW s ?_;exact cZ s
theorem AL3{p:List Int}(h:CJ p=true):Ex p p.length/\p.length<=8:=by simp[CJ]at h;exact⟨h.2,h.1⟩
theorem Ac5{o:List (List Int)}{i j:Int}{r:List Int}(hi:0<=i/\i<o.length)(h:0<=j):AF (D9 o i r) j=if i=j then r else AF o j:=by
 obtain⟨n,rfl⟩:=CZ hi.1;obtain⟨m,rfl⟩:=CZ h;have H:n<o.length:=by have:=hi.2;omega
 simp only[AF,D9,Int.ofNat_eq_natCast,BM,Ap,List.getElem?_set];by_cases e:n=m;subst e;simp[H];have a:¬(n:Int)=(m:Int):=by omega
 simp[e,a]
theorem ADB{p:List Int}:∀{i:Nat},Ex p i->∀j:Nat,j<i->0<(AF (Ak p i) (AB p j)).length
 |0,_,j,f=>by omega
 |i+1,h,j,f=>by
  have b:Ex p i:=λk F=>h k (by omega)
  have x:=Jj b
  have B:=Af.1 (h i (by omega))
  have s:=Af.1 (h j f)
  simp only[Ak]
  generalize g:(if AB p i=(Ak p i).length then Ak p i++[[]]else Ak p i)=o
  have c:0<=AB p i/\AB p i<o.length:=by
   rw[<-g];split
   simp only[AZ,AO,Aa];omega
   omega
  rw[Ac5 c s.1]
  by_cases he:AB p i=AB p j
  rw[if_pos he];simp
  rw[if_neg he]
  have a:j<i:=by
   rcases B7 j i with q|q
   exact q
   obtain rfl:j=i:=by omega
   exact absurd rfl he
  have I:=ADB b j a
  rw[<-g];split
  have e:=Af.1 (b j a)
  have C:=Hk b
  have l:AB p j<(Ak p i).length:=by
   rcases Int.lt_or_le (AB p j) ((Ak p i).length:Int)with q|q
   exact q
   exfalso
   obtain⟨m,H⟩:=CZ e.1
   have H:AB p j=(m:Int):=H
   rw[H]at I q
   have:AF (Ak p i) (m:Int)=[]:=by
    simp only[AF,BM,Ap]
    rw[D7 (by omega)]<;>rfl
   rw[this]at I;simp at I
  obtain⟨m,H⟩:=CZ e.1
  have H:AB p j=(m:Int):=H
  rw[H]at I l|-
  have:AF (Ak p i++[[]]) (m:Int)=AF (Ak p i) (m:Int):=by
   simp only[AF,BM,Ap]
   rw[DP (by omega)]
  rw[this];exact I
  exact I
def JW(p:List Int)(b:List (List Int)):Nat->List Nat
 |0=>[]
 |i+1=>JW p b i++[117]++if AB (AF b (AB p i)) ((AF b (AB p i)).length-1)=i then List.replicate (AF b (AB p i)).length 100 else []
def IX(p:List Int):List Nat:=if Fp p=true then JW p (Ak p p.length) p.length else []
theorem VW{p:List Int}{b:List (List Int)}(h:∀j:Nat,j<p.length->(AF b (AB p j)).length<=8):∀{i:Nat},i<=p.length->(JW p b i).length<=9*i
 |0,_=>by simp[JW]
 |i+1,hi=>by have I:=VW h (i:=i) (by omega);have H:=h i (by omega);simp only[JW,AZ,AO,Aa];split;simp only[List.length_replicate];omega;simp only[Aa];omega
theorem APU{k c:Nat}:List.replicate (k+1) c=List.replicate k c++[c]:=by rw[List.replicate_succ']
theorem AU4[HA K]{p:List Int}(h:p.length<=1099511627776):K 579 [LI p] [.s (IX p),.b (Fp p)]:=by
 have F:=nc_s (K:=K) (p:=p) h;by_cases a:Fp p=true;have L:CJ p=true:=by simp only[Fp,AU]at a;exact a.1
 obtain⟨C,R⟩:=AL3 L;have I:=VV (K:=K) (p:=p) h;rw[L,if_pos rfl]at I;have e:=ADB C;have G:=Jj C;have N:=Hk C;have H:∀j:Nat,j<p.length->0<=AB p j/\AB p j<(Ak p p.length).length:=by
  intro j l;have J:=Af.1 (C j l);have g:=e j l;refine⟨J.1,?_⟩;rcases Int.lt_or_le (AB p j) ((Ak p p.length).length:Int)with q|q;exact q;exfalso;obtain⟨m,c⟩:=CZ J.1;have c:AB p j=(m:Int):=c;rw[c]at g q;have:AF (Ak p p.length) (m:Int)=[]:=by simp only[AF,BM,Ap];rw[D7 (by omega)]<;>rfl
  rw[this]at g;simp at g
 have f:∀j:Nat,j<p.length->(AF (Ak p p.length) (AB p j)).length<=8:=by intro j l;obtain⟨m,c⟩:=CZ (H j l).1;have c:AB p j=(m:Int):=c;have g:=(H j l).2;rw[c]at g|-;have:=Ku (G8 (i:=m) (m:=Ak p p.length) (by omega));omega
 rw[a]at F;rw[IX,if_pos a,a];generalize T:Ak p p.length=B at I e f H G;refine qw AHM ?_;refine cW F ?_;refine cW I ?_;refine AR (λ_=>True) (λi=>[LI p,.u,.u,.s (JW p B i),LL B,.n i,.u,.u,.u,.u,.u,.u]) p.length trivial rfl (λi hi _=>?_) (λ_=>?_);have Q:=e i hi;have P:=f i hi;have V:=H i hi;have M:=VW f (i:=i) (by omega);obtain⟨r,x⟩:∃r,r=AF B (AB p i):=⟨_,rfl⟩;rw[JW,<-x];rw[<-x]at Q P;by_cases o:AB r (r.length-1)=i;rw[if_pos o];simp(disch:=try exact dV) only[AD,<-x,o];refine AR (λ_=>True) (λk=>[LI p,.u,.u,.s (JW p B i++[117]++List.replicate k 100),LL B,.n i,LI r,.n k,.u,.u,.u,.u]) r.length trivial (by simp) (λk U _=>?_) (λ_=>?_);have O:(List.replicate k 100:List Nat).length=k:=by simp
 rw[APU,<-CE];exact wZ;exact wZ;rw[if_neg o,List.append_nil];simp(disch:=try exact dV) only[AD,<-x,o];exact wZ;have a:Fp p=false:=by simpa using a
 rw[a]at F;rw[IX,a];refine qw AHM ?_;exact cZ F
def ptX(n:Int):List Nat->List Int->Int->Option (List Int)
 |[],p,_=>some p
 |c::t,p,b=>if c=124 then ptX n t p (b+1)else if A4 0 (n-1) ((c:Int)-49)=true/\AB p ((c:Int)-49)<0 then ptX n t (B9 p ((c:Int)-49) b) b else none
def ptN(s:List Nat):Nat:=s.countP λc=>decide (c≠124)
def P3(s:List Nat):Option (List Int):=if 8<ptN s then none else ptX (ptN s) s (List.replicate (ptN s) (-1)) 0
def AAO(s:List Nat):Bool:=(P3 s).isSome
def M7(s:List Nat):List Int:=(P3 s).getD []
end Go.Cat
namespace Go.Cat
variable{K:Nat->List D->List D->Prop}
def Ko(m:List Int):Nat->List Nat
 |0=>[]
 |i+1=>Ko m i++[if(i:Int)<AB m i then 117 else 100]
theorem Sv{m:List Int}:∀i,(Ko m i).length=i
 |0=>rfl
 |i+1=>by simp[Ko,Sv i]
def Hp(m:List Int):List Nat:=if EG m=true then Ko m m.length else []
theorem AQX[HA K]{m:List Int}(h:m.length<=1099511627776):K 581 [LI m] [.s (Hp m),.b (EG m)]:=by
 have k:=TP (K:=K) (m:=m) h;refine qw I581 ?_;by_cases H:EG m=true;have a:m.length<=16:=by simp only[EG,AU]at H;exact(GY H.1).1
 rw[H]at k|-;rw[Hp,if_pos H];refine AR (λ_=>True) (λi=>[LI m,.u,.u,.s (Ko m i),.n i,.u,.u]) m.length trivial rfl (λi hi _=>?_) (λ_=>?_);have l:=Sv (m:=m) i;rw[Ko];by_cases c:(i:Int)<AB m i;rw[if_pos c];refine wW ?_;exact cZ k;rw[if_neg c];refine wW ?_;exact cZ k;refine wW ?_;exact cZ k;have H:EG m=false:=by simpa using H
 rw[H]at k|-;have e:Hp m=[]:=by simp[Hp,H]
 rw[e];refine AR (λ_=>True) (λ_=>[LI m,.u,.u,.s [],.n 0,.u,.u]) 0 trivial rfl (λi hi _=>absurd hi (by omega)) (λ_=>?_);by_cases h0:m.length=0;refine wW ?_;exact cZ k;refine wW ?_;refine cW k ?_;exact cZ k
def WR(p:List Nat):Bool:=Gn (Ag 45 p)&&decide ((EW (Ag 45 p)).length=2)
def Qq(p:List Nat):List Int:=EW (Ag 45 p)
def Js(n:Int):List (List Int)->List Int->Option (List Int)
 |[],m=>some m
 |r::t,m=>if A4 0 (n-1) (AB r 0)=true/\A4 0 (n-1) (AB r 1)=true then Js n t (B9 (B9 m (AB r 0) (AB r 1)) (AB r 1) (AB r 0))else none
def NT(s:List Nat):Option (List Int):=
 if s=[110,111,110,101]then some []else
 if(Ag 32 s).all WR=true then Js (2*(Ag 32 s).length:Nat) ((Ag 32 s).map Qq) (List.replicate (2*(Ag 32 s).length) 0)else none
def AIF(s:List Nat):Bool:=(NT s).isSome
def JL(s:List Nat):List Int:=(NT s).getD []
end Go.Cat
namespace Go.Cat
variable{K:Nat->List D->List D->Prop}
def ES(p:List Int):Nat->List Int
 |0=>[]
 |i+1=>ES p i++[if i=0 then 0 else AB (ES p i) (AB p i)+1]
theorem Rp{p:List Int}:∀i,(ES p i).length=i
 |0=>rfl
 |i+1=>by simp[ES,Rp i]
theorem AOU{p:List Int}{n j:Nat}(h:Gi p n)(H:j<n)(h0:0<j):0<=AB p j/\AB p j<j:=by have a:=LX h j H;rcases h j H with q|q;omega;have:=PG (i:=j) (λk b=>LX h k (by omega)) (j+1) _ _ (by omega) q.2;omega
theorem AVY{p:List Int}(h:CY p=true):(1<=p.length/\p.length<=9)/\Gi p p.length:=by simp only[CY,AU,Ad]at h;have:=Af.1 h.1;exact⟨by omega,h.2⟩
theorem AU5{a:List Int}{x:Int}{k:Nat}(h:k<a.length):AB (a++[x]) k=AB a k:=by simp[AB,Ap,DP h]
theorem AcJ{a:List Int}{x:Int}:AB (a++[x]) (a.length:Nat)=x:=by simp[AB]
theorem Uo{p:List Int}{k:Nat}:∀{i:Nat},k<i->AB (ES p i) k=AB (ES p (k+1)) k
 |0,h=>by omega
 |i+1,h=>by
  rcases B7 k i with q|q;rw[ES,AU5 (by rw[Rp];exact q)]
  exact Uo q;obtain rfl:k=i:=by omega
  rfl
theorem AYK{p:List Int}{n:Nat}(h:Gi p n):∀{k:Nat},k<n->0<=AB (ES p (k+1)) k/\AB (ES p (k+1)) k<=k:=by
 intro k;induction k using Nat.strongRecOn with
 |_ k i=>
  intro a
  have l:=Rp (p:=p) k
  have e:AB (ES p (k+1)) k=if k=0 then 0 else AB (ES p k) (AB p k)+1:=by
   rw[ES]
   conv=>lhs;rw[show((k:Nat):Int)=((ES p k).length:Nat) by rw[l]]
   rw[AcJ,l]
  rw[e]
  split
  .omega
  .have c:=AOU h a (by omega)
   obtain⟨m,b⟩:=CZ c.1
   rw[b]
   have H:m<k:=by omega
   rw[Uo H]
   have:=i m H (by omega)
   omega
theorem AcU{p:List Int}{n i:Nat}(h:Gi p n){k:Nat}(hi:i<=n)(H:k<i):0<=AB (ES p i) k/\AB (ES p i) k<=k:=by rw[Uo H];exact AYK h (by omega)
def N3(l:List Int):Nat->List Nat
 |0=>[]
 |i+1=>N3 l i++List.replicate (AB l i+1-AB l ((i:Int)+1)).toNat 100++[117]
def Ml(p:List Int):List Nat:=N3 (ES p p.length) (p.length-1)++List.replicate (AB (ES p p.length) ((p.length:Int)-1)).toNat 100
theorem AEU{l:List Int}{b:Nat}(h:∀k:Nat,k<=b->0<=AB l k/\AB l k<=9):∀{i:Nat},i<=b->(N3 l i).length<=11*i
 |0,_=>by simp[N3]
 |i+1,hi=>by
  have I:=AEU h (i:=i) (by omega);have a:=h i (by omega);have H:=h (i+1) hi;have e:((i+1:Nat):Int)=(i:Int)+1:=by omega
  rw[e]at H;simp only[N3,AZ,List.length_replicate,AO,Aa];omega
end Go.Cat
