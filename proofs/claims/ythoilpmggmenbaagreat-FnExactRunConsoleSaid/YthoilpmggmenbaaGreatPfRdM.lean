/-
 Matchings read back: PathOfMatching and l32Matching of the reference, for any list and text.
-/
import Derived.Test.YthoilpmggmenbaaGreatPfRdQ
import Derived.Test.YthoilpmggmenbaaGreatPfTurn
set_option linter.unusedSimpArgs false
set_option linter.unusedVariables false
namespace Go.Cat
variable{K:Nat->List D->List D->Prop}
def Mz(m:List Int):Nat->List Nat
 |0=>[]
 |i+1=>Mz m i++[if(i:Int)<AB m i then 117 else 100]
theorem Wm{m:List Int}:∀i,(Mz m i).length=i
 |0=>rfl
 |i+1=>by simp[Mz,Wm i]
def Is(m:List Int):List Nat:=if EG m=true then Mz m m.length else []
theorem AKF[HA K]{m:List Int}(h:m.length<=1099511627776):K 581 [LI m] [.s (Is m),.b (EG m)]:=by
 have k:=Vt (K:=K) (m:=m) h;refine qw I581 ?_;by_cases H:EG m=true;have a:m.length<=16:=by simp only[EG,AV]at H;exact(HZ H.1).1
 rw[H]at k|-;rw[Is,if_pos H];refine AN (λ_=>True) (λi=>[LI m,.u,.u,.s (Mz m i),.n i,.u,.u]) m.length trivial rfl (λi hi _=>?_) (λ_=>?_);have l:=Wm (m:=m) i;rw[Mz];by_cases c:(i:Int)<AB m i;rw[if_pos c];refine wW ?_;exact cZ k;rw[if_neg c];refine wW ?_;exact cZ k;refine wW ?_;exact cZ k;have H:EG m=false:=by simpa using H
 rw[H]at k|-;have e:Is m=[]:=by simp[Is,H]
 rw[e];refine AN (λ_=>True) (λ_=>[LI m,.u,.u,.s [],.n 0,.u,.u]) 0 trivial rfl (λi hi _=>absurd hi (by omega)) (λ_=>?_);by_cases h0:m.length=0;refine wW ?_;exact cZ k;refine wW ?_;refine cW k ?_;exact cZ k
def Ei(p:List Nat):Bool:=Cl (AP 45 p)&&decide ((Bp (AP 45 p)).length=2)
def G8(p:List Nat):List Int:=Bp (AP 45 p)
def H9(n:Int):List (List Int)->List Int->Option (List Int)
 |[],m=>some m
 |r::t,m=>if AR 0 (n-1) (AB r 0)=true/\AR 0 (n-1) (AB r 1)=true then H9 n t (BH (BH m (AB r 0) (AB r 1)) (AB r 1) (AB r 0))else none
def F7(s:List Nat):Option (List Int):=
 if s=[110,111,110,101]then some []else
 if(AP 32 s).all Ei=true then H9 (2*(AP 32 s).length:Nat) ((AP 32 s).map G8) (List.replicate (2*(AP 32 s).length) 0)else none
def H8(s:List Nat):Bool:=(F7 s).isSome
def Ea(s:List Nat):List Int:=(F7 s).getD []
theorem AcS{n:Int}{rs:List (List Int)}{m:List Int}{i:Nat}(h:i<rs.length):H9 n (rs.drop i) m=if AR 0 (n-1) (AB (AF rs i) 0)=true/\AR 0 (n-1) (AB (AF rs i) 1)=true then H9 n (rs.drop (i+1)) (BH (BH m (AB (AF rs i) 0) (AB (AF rs i) 1)) (AB (AF rs i) 1) (AB (AF rs i) 0))else none:=by
 have:rs.drop i=AF rs i::rs.drop (i+1):=by rw[List.drop_eq_getElem_cons h];simp[AF,h]
 rw[this]<;>rfl
theorem SA{o t:List (List Nat)}{p:List Nat}(h:¬Ei p=true):(o++p::t).all Ei=false:=by simp[h]
theorem AaU[HA K]{s:List Nat}(h:s.length<=1000000):K 580 [.s s] [LI (Ea s),.b (H8 s)]:=by
 by_cases C:s=[110,111,110,101];subst C;exact qz AQ8;have T:(s==[110,111,110,101])=false:=beq_eq_false_iff_ne.2 C;refine qb AQ8 ?_;simp(disch:=try exact dV) only[AD,T,AST];refine Aj (λi (x:List (List Nat)×List Nat)=>x.1.length<=i/\x.2.length<=i/\x.1.all Ei=true/\(i<=s.length->AP 32 s=x.1++DN 32 x.2 (s.drop i))/\(s.length<i->AP 32 s=x.1)) (λi x=>[.s s,.u,.u,LL (x.1.map G8),.s x.2,.n i,.u,.u,.u,.u,.u,.u,.u,.u,.u,.u,.u]) (s.length+1) ([],[]) ⟨by simp,by simp,by simp,by simp[AP],by simp⟩ rfl (λi x hi P=>?_) (λx P=>?_);obtain⟨o,p⟩:=x;obtain⟨O,Q,l,c,_⟩:=P;simp only at O Q l c;have c:=c (by omega);have kp:=QS (K:=K) (s:=p) (b:=45) (by omega);by_cases Z:i<s.length;rw[Ry Z]at c;by_cases L:AH s i=32;rw[if_pos L]at c;simp(disch:=try exact dV) only[AD,L];refine cB kp ?_;by_cases e:Cl (AP 45 p)=true;by_cases f:(Bp (AP 45 p)).length=2;have H:Ei p=true:=by simp[Ei,e,f]
 simp(disch:=try exact dV) only[AD,e,OV,GB];exact⟨(o++[p],[]),⟨by simp;omega,by simp,by simp[l,H],λ_=>by simp[c],λq=>absurd q (by omega)⟩,by simp[G8]⟩;have H:¬Ei p=true:=by simp[Ei,e,f]
 simp(disch:=try exact dV) only[AD,e];have N:F7 s=none:=by rw[F7,if_neg C,c,SA H];rfl
 simp only[Ea,H8,N];rfl;have H:¬Ei p=true:=by simp[Ei,e]
 simp(disch:=try exact dV) only[AD,e];have N:F7 s=none:=by rw[F7,if_neg C,c,SA H];rfl
 simp only[Ea,H8,N];rfl;rw[if_neg L]at c;simp(disch:=try exact dV) only[AD,L];rw[Ri Z];exact⟨(o,p++[AH s i]),⟨by simp;omega,by simp;omega,l,λ_=>c,λq=>absurd q (by omega)⟩,rfl⟩;have e1:s.drop i=[]:=List.drop_eq_nil_of_le (by omega);rw[e1]at c;have c:AP 32 s=o++[p]:=c;refine wW ?_;refine cB kp ?_;by_cases e:Cl (AP 45 p)=true;by_cases f:(Bp (AP 45 p)).length=2;have H:Ei p=true:=by simp[Ei,e,f]
 simp(disch:=try exact dV) only[AD,e,OV,GB];exact⟨(o++[p],[]),⟨by simp;omega,by simp,by simp[l,H],λq=>absurd q (by omega),λ_=>c⟩,by simp[G8]⟩;have H:¬Ei p=true:=by simp[Ei,e,f]
 simp(disch:=try exact dV) only[AD,e];have N:F7 s=none:=by rw[F7,if_neg C,c,SA H];rfl
 simp only[Ea,H8,N];rfl;have H:¬Ei p=true:=by simp[Ei,e]
 simp(disch:=try exact dV) only[AD,e];have N:F7 s=none:=by rw[F7,if_neg C,c,SA H];rfl
 simp only[Ea,H8,N];rfl;obtain⟨o,p⟩:=x;obtain⟨O,Q,l,c,J⟩:=P;simp only at O Q l J;have J:=J (by omega);refine wW ?_;have B:∀r∈o.map G8,r.length=2:=by intro r j;obtain⟨x,k,rfl⟩:=List.mem_map.1 j;have:=Ao.1 l x k;simp only[Ei,AV,Aa]at this;exact this.2
 have M:F7 s=H9 (2*(o.map G8).length:Nat) (o.map G8) (List.replicate (2*(o.map G8).length) 0):=by rw[F7,if_neg C,J,if_pos l,List.length_map]
 have hrl:(o.map G8).length=o.length:=List.length_map ..;have V:(o.map G8).length<=1000001:=by omega
 generalize o.map G8=R at B M V;obtain⟨n,U⟩:∃n:Nat,n=2*R.length:=⟨_,rfl⟩;have e2:2*(R.length:Int)=(n:Int):=by omega
 rw[<-U]at M;rw[e2];refine Aj (λi (m:List Int)=>m.length=n/\F7 s=H9 n (R.drop i) m) (λi m=>[.u,.u,.u,LL R,.u,.u,.u,.u,.n n,LI m,.n i,.u,.u,.u,.u,.u,.u]) R.length (List.replicate n 0) ⟨by simp,by simpa using M⟩ rfl (λi m hi P=>?_) (λm P=>?_);obtain⟨Y,g⟩:=P;rw[AcS hi]at g;obtain⟨r,j⟩:∃r,r=AF R i:=⟨_,rfl⟩;have hr2:r.length=2:=by rw[j];exact B _ (HO hi)
 rw[<-j]at g;have G:=Bt (K:=K) (x:=AB r 0) (a:=0) (b:=(n:Int)-1);have I:=Bt (K:=K) (x:=AB r 1) (a:=0) (b:=(n:Int)-1)
 cases q0:AR 0 ((n:Int)-1) (AB r 0);rw[q0,if_neg (by simp)]at g;rw[q0]at G;simp(disch:=try exact dV) only[AD,<-j];refine cW G ?_;simp only[Ea,H8,g];rfl;rw[q0]at G
 cases q1:AR 0 ((n:Int)-1) (AB r 1);rw[q0,q1,if_neg (by simp)]at g;rw[q1]at I;simp(disch:=try exact dV) only[AD,<-j];refine cB G ?_;simp(disch:=try exact dV) only[AD,<-j];refine cW I ?_;simp only[Ea,H8,g];rfl;rw[q0,q1,if_pos ⟨rfl,rfl⟩]at g;rw[q1]at I;have W:=A5.1 q0;have b1:=A5.1 q1;obtain⟨x,k⟩:=CE W.1;have k:AB r 0=(x:Int):=k;obtain⟨y,F⟩:=CE b1.1;have F:AB r 1=(y:Int):=F;rw[k,F]at g;rw[k]at G W;rw[F]at I b1;have l1:(BH m x y).length=m.length:=Pf;simp(disch:=try exact dV) only[AD,<-j,k,F];refine cB G ?_;simp(disch:=try exact dV) only[AD,<-j,k,F];refine cB I ?_;simp(disch:=try exact dV) only[AD,<-j,k,F];exact⟨BH (BH m x y) y x,⟨by rw[Pf,Pf,Y],g⟩,rfl⟩;obtain⟨Y,g⟩:=P;rw[List.drop_length]at g;refine wW ?_;simp[Ea,H8,g,H9]
end Go.Cat
namespace Go.Cat
variable{K:Nat->List D->List D->Prop}
def D0(p:List Int):Nat->List Int
 |0=>[]
 |i+1=>D0 p i++[if i=0 then 0 else AB (D0 p i) (AB p i)+1]
theorem QK{p:List Int}:∀i,(D0 p i).length=i
 |0=>rfl
 |i+1=>by simp[D0,QK i]
theorem AJB{p:List Int}{n j:Nat}(h:IC p n)(H:j<n)(h0:0<j):0<=AB p j/\AB p j<j:=by have a:=Nl h j H;rcases h j H with q|q;omega;have:=TN (i:=j) (λk b=>Nl h k (by omega)) (j+1) _ _ (by omega) q.2;omega
theorem Xl{p:List Int}(h:CB p=true):(1<=p.length/\p.length<=9)/\IC p p.length:=by simp only[CB,AV,Aa]at h;have:=A5.1 h.1;exact⟨by omega,h.2⟩
theorem AT5{a:List Int}{x:Int}{k:Nat}(h:k<a.length):AB (a++[x]) k=AB a k:=by simp[AB,Ap,DW h]
theorem AZ6{a:List Int}{x:Int}:AB (a++[x]) (a.length:Nat)=x:=by simp[AB]
theorem Va{p:List Int}{k:Nat}:∀{i:Nat},k<i->AB (D0 p i) k=AB (D0 p (k+1)) k
 |0,h=>by omega
 |i+1,h=>by
  rcases BS k i with q|q;rw[D0,AT5 (by rw[QK];exact q)]
  exact Va q;obtain rfl:k=i:=by omega
  rfl
theorem AbB{p:List Int}{n:Nat}(h:IC p n):∀{k:Nat},k<n->0<=AB (D0 p (k+1)) k/\AB (D0 p (k+1)) k<=k:=by
 intro k;induction k using Nat.strongRecOn with
 |_ k i=>
  intro a
  have l:=QK (p:=p) k
  have e:AB (D0 p (k+1)) k=if k=0 then 0 else AB (D0 p k) (AB p k)+1:=by
   rw[D0]
   conv=>lhs;rw[show((k:Nat):Int)=((D0 p k).length:Nat) by rw[l]]
   rw[AZ6,l]
  rw[e]
  split
  .omega
  .have c:=AJB h a (by omega)
   obtain⟨m,b⟩:=CE c.1
   rw[b]
   have H:m<k:=by omega
   rw[Va H]
   have:=i m H (by omega)
   omega
theorem Ul{p:List Int}{n i:Nat}(h:IC p n){k:Nat}(hi:i<=n)(H:k<i):0<=AB (D0 p i) k/\AB (D0 p i) k<=k:=by rw[Va H];exact AbB h (by omega)
theorem Ai9[HA K]{p:List Int}(b:CB p=true):K 591 [LI p] [LI (D0 p p.length)]:=by obtain⟨f,c⟩:=Xl b;have a:=Jy (K:=K) (p:=p) (by omega);rw[b]at a;refine qw I591 ?_;rw[Xv];refine AN (λ_=>True) (λi=>[LI p,.u,LI (D0 p i),.n i,.u,.u]) p.length trivial rfl (λi hi _=>?_) (λ_=>?_);have l:=QK (p:=p) i;rw[D0];by_cases h0:i=0;subst h0;refine wW ?_;refine cB a ?_;simp(disch:=try exact dV) only[AD,L4];have h:=AJB c hi (by omega);obtain⟨m,H⟩:=CE h.1;have H:AB p i=(m:Int):=H;have e:=Ul c (i:=i) (k:=m) (by omega) (by omega);rw[if_neg h0,H];refine wW ?_;refine cB a ?_;simp(disch:=try exact dV) only[AD,H,L4];exact wZ
def J9(l:List Int):Nat->List Nat
 |0=>[]
 |i+1=>J9 l i++List.replicate (AB l i+1-AB l ((i:Int)+1)).toNat 100++[117]
def K5(p:List Int):List Nat:=J9 (D0 p p.length) (p.length-1)++List.replicate (AB (D0 p p.length) ((p.length:Int)-1)).toNat 100
theorem Ro{l:List Int}{b:Nat}(h:∀k:Nat,k<=b->0<=AB l k/\AB l k<=9):∀{i:Nat},i<=b->(J9 l i).length<=11*i
 |0,_=>by simp[J9]
 |i+1,hi=>by
  have I:=Ro h (i:=i) (by omega);have a:=h i (by omega);have H:=h (i+1) hi;have e:((i+1:Nat):Int)=(i:Int)+1:=by omega
  rw[e]at H;simp only[J9,A4,List.length_replicate,AO,A6];omega
theorem ASF{k c:Nat}:List.replicate (k+1) c=List.replicate k c++[c]:=by rw[List.replicate_succ',]
theorem Ah0[HA K]{p:List Int}(h:p.length<=1099511627776):K 576 [LI p] [.s (if CB p=true then K5 p else []),.b (CB p)]:=by
 have f:=Jy (K:=K) (p:=p) (by omega);by_cases a:CB p=true;rw[a]at f|-;obtain⟨O,M⟩:=Xl a;have l:=QK (p:=p) p.length;have H:∀k:Nat,k<=p.length-1->0<=AB (D0 p p.length) k/\AB (D0 p p.length) k<=9:=λk P=>by have:=Ul M (i:=p.length) (k:=k) (by omega) (by omega);omega
 have B:=Ai9 (K:=K) a;generalize hL:D0 p p.length=L at l H B;rw[if_pos rfl,K5,hL];refine qw AIY ?_;refine cW f ?_;refine cW B ?_;refine AN (λ_=>True) (λi=>[LI p,.u,.u,LI L,.s (J9 L i),.n ((i:Int)+1),.u,.u,.u,.u,.u,.u]) (p.length-1) trivial rfl (λi hi _=>?_) (λ_=>?_);have q:=H i (by omega);have I:=H (i+1) (by omega);have e:((i+1:Nat):Int)=(i:Int)+1:=by omega
 rw[e]at I;have c:=Ro H (i:=i) (by omega);obtain⟨n,o⟩:∃n,n=(AB L i+1-AB L ((i:Int)+1)).toNat:=⟨_,rfl⟩;have G:AB L ((i:Int)+1-1)=AB L i:=by rw[Bm]
 simp(disch:=try exact dV) only[AD,G];refine AN (λ_=>True) (λj=>[LI p,.u,.u,LI L,.s (J9 L i++List.replicate j 100),.n ((i:Int)+1),.n (AB L i-j),.u,.u,.u,.u,.u]) n trivial (by simp) (λj J _=>?_) (λ_=>?_);have x:(List.replicate j 100:List Nat).length=j:=by simp
 rw[ASF,<-CO];refine wW ?_;have g:AB L i-(j:Int)-1=AB L i-((j:Int)+1):=by omega
 rw[g];have x:(List.replicate n 100:List Nat).length=n:=by simp
 simp only[J9,<-o];exact wZ;have c:=Ro H (i:=p.length-1) (by omega);have C:(((p.length-1:Nat):Int)+1)=p.length:=by omega
 have q:=H (p.length-1) (by omega);have F:((p.length-1:Nat):Int)=(p.length:Int)-1:=by omega
 rw[F]at q;obtain⟨n,o⟩:∃n,n=(AB L ((p.length:Int)-1)).toNat:=⟨_,rfl⟩;rw[C,<-o];generalize N:J9 L (p.length-1)=T at c;refine wW ?_;refine AN (λ_=>True) (λj=>[.u,.u,.u,.u,.s (T++List.replicate j 100),.u,.u,.n ((n:Int)-j),.u,.u,.u,.u]) n trivial ?_ (λj J _=>?_) (λ_=>?_);have:AB L ((p.length:Int)-1)=n:=by omega
 simp[this];have x:(List.replicate j 100:List Nat).length=j:=by simp
 rw[ASF,<-CO];refine wW ?_;have g:(n:Int)-(j:Int)-1=(n:Int)-((j:Int)+1):=by omega
 rw[g];exact wZ;have a:CB p=false:=by simpa using a
 rw[a]at f|-;refine qw AIY ?_;exact cZ f
end Go.Cat
namespace Go.Cat
set_option maxRecDepth 100000
theorem ALJ{b:Nat}:∀{ws:List (List Nat)}{x:List Nat},sep b (ws++[x])=sep b ws++(if 0<ws.length then [b]else [])++x
 |[],x=>by simp[sep]
 |[p],x=>by simp[sep]
 |p::q::t,x=>by have:=ALJ (b:=b) (ws:=q::t) (x:=x);simp only[List.cons_append]at this;simp only[List.cons_append,sep];rw[this];simp
theorem AGA{b:Nat}{ws:List (List Nat)}:∀i,i<=ws.length->BE [b] ws i=sep b (ws.take i)
 |0,_=>by simp[BE,sep]
 |i+1,h=>by
  have l:(ws.take i).length=i:=by simp;omega
  rw[BE,AGA i (by omega),YX (by omega),ALJ,l]
theorem Lg{b:Nat}{ws:List (List Nat)}:glue [b] ws=sep b ws:=by rw[glue,AGA _ (Nat.le_refl _),List.take_length]
theorem TG{b k:Nat}:∀{ps:List (List Nat)},(∀p∈ps,p.length<=k)->(sep b ps).length<=ps.length*(k+1)
 |[],_=>by simp[sep]
 |[p],h=>by have:=h p (by simp);simp only[sep,AO,A6];omega
 |p::q::t,h=>by have a:=h p (by simp);have c:=TG (b:=b) (ps:=q::t) (λx H=>h x (BN _ H));simp only[sep,A4,AO]at*;rw[Nat.add_mul,Nat.one_mul];omega
theorem Qe{p:List Nat}{c:Nat}(h:c∉p):AA p c=0:=List.count_eq_zero.2 h
theorem WX{b c k:Nat}(H:b≠c):∀{ps:List (List Nat)},(∀p∈ps,AA p c=k)->AA (sep b ps) c=ps.length*k
 |[],_=>by simp[sep,AA]
 |[p],h=>by have:=h p (by simp);simp only[sep,this,AO,A6];omega
 |p::q::t,h=>by have a:=h p (by simp);have e:=WX H (ps:=q::t) (λx f=>h x (BN _ f));rw[sep,JJ,Mq,a,e,if_neg H,show(p::q::t).length=(q::t).length+1 from rfl,Nat.add_mul];omega
theorem ALK{b:Nat}:∀{ps:List (List Nat)},(∀p∈ps,b∉p)->AA (sep b ps) b=ps.length-1
 |[],_=>by simp[sep,AA]
 |[p],h=>by have:=Qe (h p (by simp));simp only[sep,this,AO,A6]
 |p::q::t,h=>by have H:=Qe (h p (by simp));have a:=ALK (ps:=q::t) (λx c=>h x (BN _ c));rw[sep,JJ,Mq,H,a,if_pos rfl];simp only[AO];omega
theorem ARH{x:Int}:∀c∈AQ x,DU c=true\/(c=45/\x<0):=by intro c H;unfold AQ at H;split at H;rw[List.mem_singleton.1 H];exact .inl rfl;split at H;rename_i h;rcases A7.1 H with q|q;exact .inr ⟨q,h⟩;exact .inl (Sf _ q);exact .inl (Sf _ H)
theorem N7{x:Int}{c:Nat}(h:DU c=false)(H:c≠45):c∉AQ x:=by intro a;rcases ARH c a with q|q;rw[h]at q;cases q;exact H q.1
theorem T0{x:Int}(h:0<=x):45∉AQ x:=by
 intro c;rcases ARH 45 c with q|q
 cases q;omega
theorem Mv{x:Int}{k:Nat}(h0:0<=x)(H:0<k)(h:x.toNat<10^k):(AQ x).length<=k:=by
 unfold AQ;split;exact H;rw[if_neg (by omega)];have e:x.natAbs=x.toNat:=by omega
 rw[e];exact NO h
theorem KY{x:Int}(h0:0<=x)(H:x<=9):AQ x=[48+x.toNat]:=by
 unfold AQ;split;rename_i h;rw[h];rfl;rename_i h;have e:C9 0=[]:=by simp[C9]
 have a:x.natAbs/10=0:=by omega
 have b:x.natAbs%10=x.toNat:=by omega
 rw[if_neg (by omega),HR (by omega),a,e,b]<;>rfl
theorem AMT{b:Nat}{p q:List Nat}(a:b∉p)(c:b∉q):AP b (p++[b]++q)=[p,q]:=by
 have h:=Qy (b:=b) (ps:=[p,q]) (by simp) (by
  intro x H;simp only[A7,D4,or_false]at H;rcases H with rfl|rfl
  .exact a
  .exact c)
 simpa[sep]using h
theorem IY{f:List Nat->Bool}{l:List (List Nat)}{k m:Nat}(a:0<k)(g:l.length<=k*m)(h:∀j,j<m->((l.drop (k*j)).take k).all f=true):l.all f=true:=by refine Ao.2 λw b=>?_;obtain⟨i,hi,rfl⟩:=List.mem_iff_getElem.1 b;have H:i/k<m:=Nat.div_lt_of_lt_mul (by omega);refine Ao.1 (h _ H) _ (List.mem_iff_getElem.2 ⟨i%k,?_,?_⟩);have c:=Nat.mod_lt i a;have e:=Nat.div_add_mod i k;rw[List.length_take,List.length_drop];omega;rw[List.getElem_take,List.getElem_drop];congr 1;exact Nat.div_add_mod i k
theorem Pn:(AI 7).length<=143*3:=of_decide_eq_true (by kernel_rfl)
theorem P7:(AI 8).length<=143*10:=of_decide_eq_true (by kernel_rfl)
theorem Pj{f:List Nat->Bool}(a:BR 7 (λn=>(AI n).all f)=true)(b:(AI 7).all f=true)(c:(AI 8).all f=true){w:List Nat}(hd:AK w=true):f w=true:=by
 have H:=Nt hd;have h:w∈AI (w.length/2):=(Xy (by omega)).2 ⟨hd,by have:=H.1.2.1;omega⟩;rcases BS (w.length/2) 7 with q|q;exact Ao.1 (BY a _ q) w h;have e:w.length/2=7\/w.length/2=8:=by omega
 rcases e with e|e;rw[e]at h;exact Ao.1 b w h;rw[e]at h;exact Ao.1 c w h
def NQ:Nat->List Nat->BT×List Nat
 |0,w=>(.lf,w)
 |f+1,w=>if w.headD 0=117 then(BT.nd (NQ f w.tail).1 (NQ f (NQ f w.tail).2.tail).1,(NQ f (NQ f w.tail).2.tail).2)else(.lf,w)
def C3(w:List Nat):BT:=(NQ w.length w).1
def Fv(w:List Nat):Nat->List Int×List Nat
 |0=>(rep (w.length:Nat) 0,[])
 |i+1=>if AH w i=117 then((Fv w i).1,i::(Fv w i).2)else(BH (BH (Fv w i).1 i ((Fv w i).2.headD 0:Nat)) ((Fv w i).2.headD 0:Nat) i,(Fv w i).2.tail)
def Ca(w:List Nat):List Int:=(Fv w w.length).1
theorem ANE{w:List Nat}(hd:DY w):∀{i:Nat},i<=w.length->PS w i (Fv w i).1 (Fv w i).2
 |0,_=>⟨by simp[Fv,SO,FW],by simp[Fv,rep],by simp⟩
 |i+1,h=>by
  have I:=ANE hd (i:=i) (by omega);rcases hd.ud i (by omega)with H|H;rw[Fv,if_pos H];exact ABN I (by omega) H;rw[Fv,if_neg (by omega)];have s:=LR I.1;have e:=FO (w:=w) (i:=i) (by omega) H;have a:=hd.h0 (i+1) (by omega)
  cases hst:(Fv w i).2 with
  |nil=>rw[hst]at s;simp only[A6]at s;omega
  |cons j t=>
   rw[hst]at I
   exact AEZ I (by omega) H
theorem M7{w:List Nat}(f:AK w=true):E1 w=Ca w:=by
 have hd:=Af f;have h:=ANE hd (Nat.le_refl w.length);refine Qb ⟨h.2.1,λa c=>?_⟩;obtain⟨H,g,b⟩:=h;refine b a c λq=>?_;have:=LR H;rw[hd.he]at this;have e:(Fv w w.length).2=[]:=Dz (by omega);rw[e]at q
 cases q
def E6(w:List Nat):List Int:=DB (DK w (λa=>(EB w (AB (Ca w) a).toNat:Int)) w.length) (CT w w.length)
theorem Q0{w:List Nat}(h:AK w=true):Dw w=E6 w:=by rw[Dw,E6,M7 h]
end Go.Cat
