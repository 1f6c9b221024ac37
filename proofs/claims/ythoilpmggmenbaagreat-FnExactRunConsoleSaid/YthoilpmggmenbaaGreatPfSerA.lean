/-
 Series: products.
-/
import Derived.Test.YthoilpmggmenbaaGreatPfFrzS
import Derived.Test.YthoilpmggmenbaaGreatPfLFCl
set_option linter.unusedSimpArgs false
set_option linter.unusedVariables false
namespace Go.Cat
variable{K:Nat->List D->List D->Prop}
end Go.Cat
namespace Go.Cat
variable{K:Nat->List D->List D->Prop}
theorem AUC[HA K]{a b:List Int}(h:a.length<=1099511627776):K 72 [LI a,LI b] [.b (decide (a=b))]:=by
 refine qw I72 ?_;by_cases l:a.length=b.length;refine wW ?_;refine AN (λi=>∀j:Nat,j<i->AB a j=AB b j) (λi=>[LI a,LI b,.u,.u,.u,.n a.length,.n i,.u,.u]) a.length (by simp) rfl (λi hi P=>?_) (λP=>?_);by_cases he:AB a i=AB b i;refine wW ?_;exact Bf P he;refine wW ?_;have:a≠b:=by rintro rfl;exact he rfl
 simp[this];refine wW ?_;have:a=b:=HW l P;simp[this];have:a≠b:=by rintro rfl;exact l rfl
 refine wW ?_;simp[this]
end Go.Cat
namespace Go.Cat
variable{K:Nat->List D->List D->Prop}
class Hi(K:Nat->List D->List D->Prop):Prop where
 del:∀(l:List Int)(i:Nat),i<l.length->l.length<=1000->K 212 [LI l,.n i,.n ((i:Int)+1)] [LI (ID l i)]
theorem Zm{l:List Int}{i:Nat}(h:∀j:Nat,j<i->AB l j≠1)(hi:i<=l.length):i<=Bg l:=by
 rcases BS (Bg l) i with q|q;exact absurd (Yg (q:=l) (by omega)) (h _ q)
 exact q
theorem AS4{l:List Int}{i:Nat}(h:∀j:Nat,j<i->AB l j≠1)(hi:i<l.length)(H:AB l i=1):Bg l=i:=by
 have:=Zm h (by omega);have a:Bg l<=i:=by
  refine Nat.le_of_not_lt λq=>?_;have:=List.not_of_lt_findIdx q;have e:l[i]'(by omega)=AB l i:=by simp[AB,hi]
  rw[e,H]at this
  cases this
 omega
theorem ATC[HA K]{l:List Int}(h:l.length<=1000000):K 179 [LI l,.n 1] [.n (if Bg l<l.length then(Bg l:Int)else -1)]:=by refine qw I179 ?_;refine AN (λi=>∀j:Nat,j<i->AB l j≠1) (λi=>[LI l,.n 1,.u,.u,.n l.length,.n i,.u,.u]) l.length (by omega) rfl (λi hi P=>?_) (λP=>?_);by_cases x:AB l i=1;have e:=AS4 P hi x;refine wW ?_;rw[e,if_pos hi];refine wW ?_;exact Bf P x;have e:=Zm P (Nat.le_refl _);refine wW ?_;rw[if_neg (by omega)]
def dgQ(n:Nat)(c:List Int)(j:Nat):List Int:=[min (AB c (D9 n j:Nat)) (AB c (Ey n j:Nat)),max (AB c (D9 n j:Nat)) (AB c (Ey n j:Nat))]
def Hs:Nat->List Int->List Int->List (List Int)->Option (List (List Int)×List Int)
 |0,l,_,o=>some (o,l)
 |f+1,l,c,o=>if Bg l<l.length then Hs f (Hb l (Bg l)) (ID c (Bg l)) (o++[dgQ l.length c (Bg l)])else none
def K3(n:Nat):List Int:=(List.range n).map λi:Nat=>(i:Int)
def FM(q:List Int):Option (List (List Int)×List Int):=if DX q=true then Hs (q.length-3) q (K3 q.length) []else none
def I6(x:Option (List (List Int)×List Int)):Bool:=match x with
 |some x=>decide (x.2=[1,1,1])
 |none=>false
def ctL(x:Option (List (List Int)×List Int)):List (List Int):=match x with
 |some x=>x.1
 |none=>[]
theorem AIM:∀f (l c:List Int) (o:List (List Int)),I6 (Hs f l c o)=Hn f l
 |0,l,c,o=>by simp only[Hs,I6,Hn];by_cases h:l=[1,1,1]<;>simp[h]
 |f+1,l,c,o=>by simp only[Hs,Hn];by_cases h:Bg l<l.length;rw[if_pos h,AIM f,decide_eq_true h,Bool.true_and];rw[if_neg h,decide_eq_false h]<;>rfl
theorem AdJ{α:Type}{l:List α}{j:Nat}{x:α}(h:x∈ID l j):x∈l:=by rcases Ac.1 h with h|h;exact List.mem_of_mem_take h;exact List.mem_of_mem_drop h
theorem AV3{l:List Int}{i x y:Int}(h:y∈BH l i x):y=x\/y∈l:=by rcases List.mem_or_eq_of_mem_set h with h|h;exact .inr h;exact .inl h
theorem AeG{l:List Int}{j:Nat}{a b:Int}(g:3<=l.length)(f:j<l.length)(h:∀x∈l,a+1<=x/\x<=b):∀x∈Hb l j,a<=x/\x<=b:=by
 intro x o;obtain⟨k,H,e⟩:=List.mem_iff_getElem.1 (AdJ o);rw[LJ]at H;have c:AB (LF l j) (k:Int)=x:=by rw[<-e];simp[AB,LJ,H]
 rw[Qk g f]at c;have B:=h (AB l k) (by simp[AB,H]);have i:¬(k=D9 l.length j/\k=Ey l.length j):=by
  rintro⟨s,Q⟩;rw[s]at Q;have:=Qk (q:=l) (j:=j) (k:=D9 l.length j) g f;revert Q;unfold D9 Ey;generalize l.length=n at*;rcases BS (j+1) n with h|h;rw[Nat.mod_eq_of_lt h]
  cases j with
  |zero=>rw[Nat.mod_eq_of_lt (by omega)];omega
  |succ j=>rw[show j+1+n-1=j+n by omega,Nat.add_mod_right,Nat.mod_eq_of_lt (by omega)];omega
  obtain rfl:n=j+1:=by omega
  rw[Nat.mod_self,show j+(j+1)-1=j-1+(j+1) by omega,Nat.add_mod_right,Nat.mod_eq_of_lt (by omega)];omega
 split at c<;>split at c<;>omega
theorem AYD[HA K][Hi K]{q:List Int}(h:q.length<=1048576):K 204 [LI q] [LL (ctL (FM q)),.b (I6 (FM q))]:=by
 refine qw I204 ?_;refine cB Bq ?_
 cases B:AR 3 10 q.length;have e:FM q=none:=by rw[FM,if_neg (by simp[DX,B])]
 refine wW ?_;simp[e,ctL,I6,LL];have O:=A5.1 B;refine wW ?_;refine AN (λi=>∀j:Nat,j<i->AR 1 100 (AB q j)=true) (λi=>[LI q,.u,.u,.u,.u,.u,.u,.u,.u,.u,.u,.u,.u,LI q,.n q.length,.n i,.u,.u,.u,.u,.u,.u,.u]) q.length (by omega) rfl (λi hi P=>?_) (λP=>?_)
 .cases a:AR 1 100 (AB q i)
  .have e:FM q=none:=by rw[FM,if_neg (by simp[DX,Lr hi a])]
   refine wW ?_;repeat(refine cB Bq ?_;try simp(disch:=try exact dV) only[AD,a])
   simp[e,ctL,I6,LL]
  refine wW ?_;repeat(refine cB Bq ?_;try simp(disch:=try exact dV) only[AD,a])
  exact Bf P a
 have C:DX q=true:=by simp[DX,B,Ki P]
 obtain⟨z1,z2,z3⟩:=Gl.1 C;have R:FM q=Hs (q.length-3) q (K3 q.length) []:=by rw[FM,if_pos C]
 refine wW ?_;refine cW (Ps (by omega)) ?_;refine Aj (λi (r:List Int)=>r=K3 i) (λi r=>[.u,.u,.u,.u,LI q,LI r,.u,.u,.u,.u,.u,.u,.u,.u,.u,.u,.u,.u,.n q.length,.n i,.u,.u,.u]) q.length [] rfl rfl (λi r hi P=>?_) (λr P=>?_);have hr:r.length=i:=by rw[P];simp[K3]
 refine wW ?_;refine⟨_,?_,rfl⟩;rw[P,K3,K3,Ux];subst P;refine wW ?_
 refine Bj (λ(x:Nat×List Int×List Int×List (List Int))=>x.2.1.length=x.1+3/\x.2.2.1.length=x.1+3/\x.1<=7/\(∀y∈x.2.1,(x.1:Int)-10<=y/\y<=100)/\x.2.2.2.length+x.1<=7/\Hs x.1 x.2.1 x.2.2.1 x.2.2.2=FM q)
  (λx=>[.u,.u,.u,.u,LI x.2.1,LI x.2.2.1,.u,LL x.2.2.2,.u,.u,.u,.u,.u,.u,.u,.u,.u,.u,.u,.u,.u,.u,.u]) (λx=>x.1) (q.length-3,q,K3 q.length,[]) ⟨by simp only;omega,by simp[K3];omega,by simp only;omega,λy Q=>by have:=z1 y Q;simp only;omega,by simp only[A6];omega,R.symm⟩ rfl ?_
 rintro⟨f,l,c,o⟩ ⟨J,L,M,G,N,g⟩;simp only at J L M G N g|-
 cases f with
 |zero=>
  simp only[Hs]at g
  refine wW ?_
  refine cW (AUC (by omega)) ?_
  rw[<-g]<;>rfl
 |succ f=>
  refine wW ?_
  refine cB (ATC (by omega)) ?_
  by_cases H:Bg l<l.length
  .rw[if_pos H]
   have F:((Bg l:Int)+l.length-1)%(l.length:Int)=(D9 l.length (Bg l):Nat):=by
    rw[show(Bg l:Int)+l.length-1=((Bg l+l.length-1:Nat):Int) by omega];simp[D9,Int.natCast_emod]
   have I:((Bg l:Int)+1)%(l.length:Int)=(Ey l.length (Bg l):Nat):=by simp[Ey,Int.natCast_emod]
   have W:D9 l.length (Bg l)<l.length:=Nat.mod_lt _ (by omega)
   have Y:Ey l.length (Bg l)<l.length:=Nat.mod_lt _ (by omega)
   have m1:=G _ (Rn W)
   have Z:Ey l.length (Bg l)<(BH l (D9 l.length (Bg l):Nat) (AB l (D9 l.length (Bg l):Nat)-1)).length:=by rw[PH];exact Y
   have m2:(f:Int)-10<=AB (BH l (D9 l.length (Bg l):Nat) (AB l (D9 l.length (Bg l):Nat)-1)) (Ey l.length (Bg l):Nat)/\AB (BH l (D9 l.length (Bg l):Nat) (AB l (D9 l.length (Bg l):Nat)-1)) (Ey l.length (Bg l):Nat)<=100:=by
    rcases AV3 (Rn Z)with q|q
    .rw[q];omega
    .have:=G _ q;omega
   simp(disch:=try exact dV) only[AD,F,I,PH,Xs]
   have k:=Hi.del (K:=K) (LF l (Bg l)) (Bg l) (by rw[LJ];exact H) (by rw[LJ];omega)
   have s:=Hi.del (K:=K) c (Bg l) (by omega) (by omega)
   refine cW k ?_
   refine cW s ?_
   have T:(Hb l (Bg l)).length=f+3:=by rw[NY H];omega
   have U:(ID c (Bg l)).length=f+3:=by rw[AF9 (by omega)];omega
   have V:Hs f (Hb l (Bg l)) (ID c (Bg l)) (o++[dgQ l.length c (Bg l)])=FM q:=by
    rw[<-g,Hs,if_pos H]
   refine⟨(f,Hb l (Bg l),ID c (Bg l),o++[dgQ l.length c (Bg l)]),by simp,⟨T,U,by simp only;omega,?_,by simp only[A4,AO,A6];omega,V⟩,rfl⟩
   exact AeG (by omega) H λx a=>by have:=G x a;omega
  .rw[if_neg H]
   simp only[Hs,if_neg H]at g
   refine wW ?_
   rw[<-g]<;>rfl
end Go.Cat
namespace Go.Cat
variable{K:Nat->List D->List D->Prop}
theorem pow7:∀f:Nat,f<=7->(2:Int)^f<=100000:=by decide
theorem AVS{q:List Int}(h:DX q=true):I6 (FM q)=true↔GC q:=by
 obtain⟨H,g,j⟩:=Gl.1 h;have e:I6 (FM q)=Hn (q.length-3) q:=by rw[FM,if_pos h,AIM]
 have f:=Ve (q.length-3) q (by omega) (by omega);rw[e,AJG (by omega)];constructor;intro c;have:=(AN6 (by omega)).2 (f.1 c);intro i;obtain⟨F,a,f3⟩:=this i;refine⟨λm M b=>?_,a,f3⟩;have:=F m M b;have:=pow7 (q.length-3) (by omega);omega;intro c;exact f.2 100000 (by decide) ((AN6 (by omega)).1 c)
theorem qd_f{q:List Int}(h:DX q=false):I6 (FM q)=false:=by rw[FM,if_neg (by simp[h])];rfl
open Classical in
theorem Ag1{q:List Int}:I6 (FM q)=Fa q:=by
 cases h:DX q;rw[qd_f h];simp[Fa,h];have:=AVS h;unfold Fa;by_cases f:GC q;rw[this.2 f];simp[h,f];have H:I6 (FM q)=false:=by rw[Bool.eq_false_iff];exact λe=>f (this.1 e)
 rw[H];simp[f]
theorem AaC[HA K][Hi K]{q:List Int}(h:q.length<=1048576):K 183 [LI q] [.b (Fa q)]:=by refine qw I183 ?_;refine cW (AYD h) ?_;rw[Ag1]
open Classical in
theorem PW{q:List Int}:Fa q=true↔DX q=true/\GC q:=by unfold Fa;exact decide_eq_true_iff
theorem ff_i[HA K][Hi K]{q:List Int}(h:q.length<=1048576):K 140 [LI q] [LL (G2 q),.b (Fa q)]:=by
 refine qw I140 ?_;refine cB (AaC h) ?_
 cases hq:Fa q;have e:G2 q=[]:=by unfold G2;rw[if_neg λY=>by rw[PW.2 Y]at hq;cases hq]
 refine wW ?_;simp[e,LL];obtain⟨g,x⟩:=PW.1 hq;obtain⟨h1,h2,h3⟩:=Gl.1 g;have C:=K8 g x;have c:=Lm g C;have e:G2 q=Bk q (q.length+1):=by unfold G2;rw[if_pos ⟨g,x⟩]
 refine wW ?_;refine Aj (λi (r:List Int)=>r.length=q.length/\∀j:Nat,j<i->AB r j=1) (λi r=>[LI q,.u,.u,.n q.length,LI r,.u,.u,.u,.u,.u,.u,.n q.length,.n i,.u,.u,.u,.u,.u]) q.length (rep q.length 0) ⟨by simp[rep],by omega⟩ (by simp[rep]) (λi r hi P=>?_) (λr P=>?_);obtain⟨o,s⟩:=P;refine wW ?_;refine⟨_,⟨by rw[PH];exact o,λj H=>?_⟩,rfl⟩;rw[PL (by omega)];split;rfl;exact s j (by omega);have M:r=List.replicate q.length 1:=HW (by simp[P.1]) λj H=>by rw[P.1]at H;rw[P.2 j H];simp[AB,H]
 have O:[rep (q.length:Int) 0,r,q]=Bk q 3:=by rw[AR1,M];rfl
 refine wW ?_;refine cB (Ps (by omega)) ?_;simp(disch:=try exact dV) only[AD,AFY,O];refine Aj (λk (R:List (List Int))=>R=Bk q (k+3)) (λk R=>[.u,.u,.u,.n q.length,.u,.u,LL R,.n ((k:Int)+2),.u,.u,.u,.u,.u,.u,.u,.u,.u,.u]) (q.length-2) (Bk q 3) rfl rfl (λk R hk a=>?_) (λR a=>?_);have l:R.length=k+3:=by rw[a,JQ]
 have Q:AF R ((k:Int)+2)=BJ q (k+2):=by rw[a];exact K6 (r:=k+2) (by omega)
 have T:AF R ((k:Int)+2-1)=BJ q (k+1):=by rw[show(k:Int)+2-1=((k+1:Nat):Int) by omega,a];exact K6 (by omega)
 have la:(BJ q (k+2)).length=q.length:=ET;have lb:(BJ q (k+1)).length=q.length:=ET;refine wW ?_;refine Aj (λi (r:List Int)=>r.length=q.length/\∀j:Nat,j<i->AB r j=Am q (k+3) j) (λi r=>[.u,.u,.u,.n q.length,.u,.u,LL R,.n ((k:Int)+2),LI r,.u,.u,.u,.u,.u,.u,.n q.length,.n i,.u]) q.length (rep q.length 0) ⟨by simp[rep],by omega⟩ (by simp[rep]) (λi r hi P=>?_) (λr P=>?_);obtain⟨o,s⟩:=P;have U:((i:Int)+1)%(q.length:Int)=((i+1)%q.length:Nat):=by simp[Int.natCast_emod]
 have B:(i+1)%q.length<q.length:=Nat.mod_lt _ (by omega);have V:=c (k+2) (by omega) i;have W:=c (k+2) (by omega) (i+1);have g3:=(C k (by omega) i hi);have g4:=M8 V W;have Z:=Rx (q:=q) (r:=k+1) (i:=i) (by omega);have I:AB (BJ q (k+2)) (i:Int)=Am q (k+2) i:=E4 hi;have c2:AB (BJ q (k+2)) ((i+1)%q.length:Nat)=Am q (k+2) (i+1):=by rw[E4 B,Hm]
 have J:AB (BJ q (k+1)) ((i+1)%q.length:Nat)=Am q (k+1) (i+1):=by rw[E4 B,Hm]
 generalize Am q (k+2) i=F at*;generalize Am q (k+2) (i+1)=G at*;have L:F*G-1=Am q (k+1) (i+1)*Am q (k+3) i:=by have:Am q (k+1+2) i=Am q (k+3) i:=rfl;rw[this]at Z;omega
 have N:(F*G-1).tdiv (Am q (k+1) (i+1))=Am q (k+3) i:=by rw[L];exact Int.mul_tdiv_cancel_left _ (by omega)
 simp(disch:=try exact dV) only[AD,Q,T,U,I,c2,J,N];refine⟨_,⟨by rw[PH];exact o,λj H=>?_⟩,rfl⟩;rw[PL (by omega)];split;rename_i e;rw[e];exact s j (by omega);have f:r=BJ q (k+3):=HW (by rw[P.1,ET]) λj H=>by rw[P.1]at H;rw[P.2 j H,E4 H]
 simp(disch:=try exact dV) only[AD,GB,Xs];refine⟨_,?_,rfl⟩;rw[f,a];exact AG3.symm;have f:q.length-2+3=q.length+1:=by omega
 have l:R.length=q.length+1:=by rw[a,JQ,f]
 refine wW ?_;rw[e,a,f]
theorem AY9[HA K]{q:List Int}(o:DX q=true)(s:GC q):K 185 [LL (Bk q (q.length+1))] [.b true]:=by
 obtain⟨V,W,Y⟩:=Gl.1 o;have L:=K8 o s;have c:=Lm o L;have J:(Bk q (q.length+1)).length=q.length+1:=JQ;have H:∀r:Nat,r<q.length+1->AF (Bk q (q.length+1)) r=BJ q r:=λr l=>K6 l;generalize Bk q (q.length+1)=R at*;refine qw I185 ?_;refine cB Bq ?_;have g:AR 3 10 ((R.length:Int)-1)=true:=A5.2 (by omega);have j:(R.length:Int)-1=q.length:=by omega
 simp(disch:=try exact dV) only[AD,g,j];rw[j]at g;simp(disch:=try exact dV) only[AD,g];refine AN (λ_=>True) (λr=>[LL R,.u,.n q.length,.u,.u,.u,.u,.u,.u,.u,LL R,.n R.length,.n r,.u,.u,.u,.u,.u,.u,.u,.u,.u,.u,.u,.u,.u,.u,.u,.u]) R.length trivial rfl (λr l _=>?_) (λ_=>?_);have h:=H r (by omega);have k:(BJ q r).length=q.length:=ET;simp(disch:=try exact dV) only[AD,h];refine AN (λ_=>True) (λi=>[LL R,.u,.n q.length,.n r,.u,.u,.u,.u,.u,.u,LL R,.n R.length,.n r,.u,.u,LI (BJ q r),.n q.length,.n i,.u,.u,.u,.u,.u,.u,.u,.u,.u,.u,.u]) q.length trivial (by rw[k];rfl) (λi hi _=>?_) (λ_=>?_);have C:AB (BJ q r) i=Am q r i:=E4 hi;obtain⟨M,N,O⟩:=s r (by omega) i hi;have Q:=Bq (K:=K) (x:=Am q r i) (a:=1) (b:=100000);rcases(show r=0\/r=q.length\/r=1\/r+1=q.length/\1<r\/1<r/\r+1<q.length by omega)with e|e|e|e|e;have f:Am q r i=0:=by rw[e];rfl
 simp(disch:=try exact dV) only[AD,h,C,f];have f:=M e;simp(disch:=try exact dV) only[AD,h,C,f];have f:Am q r i=1:=by rw[e];rfl
 simp(disch:=try exact dV) only[AD,h,C,f];have f:=O e.1;simp(disch:=try exact dV) only[AD,h,C,f];have f:=A5.2 (N (by omega) (by omega));rw[f]at Q;simp(disch:=try exact dV) only[AD,h,C];exact cZ Q;exact wZ;refine wW ?_;refine AN (λ_=>True) (λr=>[LL R,.u,.n q.length,.u,.u,.u,.n ((r:Int)+1),.u,.u,.u,.u,.u,.u,.u,.u,.u,.u,.u,.u,.u,.u,.u,.u,.u,.u,.u,.u,.u,.u]) (q.length-1) trivial rfl (λr l _=>?_) (λ_=>?_);refine wW ?_;refine AN (λ_=>True) (λi=>[LL R,.u,.n q.length,.u,.u,.u,.n ((r:Int)+1),.u,.u,.u,.u,.u,.u,.u,.u,.u,.u,.u,.u,.u,.u,.u,.u,.u,.u,.n q.length,.n i,.u,.u]) q.length trivial rfl (λi hi _=>?_) (λ_=>?_);have T:AF R ((r:Int)+1)=BJ q (r+1):=H (r+1) (by omega);have P:AF R ((r:Int)+1-1)=BJ q r:=by rw[show(r:Int)+1-1=r by omega];exact H r (by omega)
 have U:AF R ((r:Int)+1+1)=BJ q (r+2):=H (r+2) (by omega);have Z:(BJ q r).length=q.length:=ET;have l1:(BJ q (r+1)).length=q.length:=ET;have l2:(BJ q (r+2)).length=q.length:=ET;have I:((i:Int)+1)%(q.length:Int)=((i+1)%q.length:Nat):=by simp[Int.natCast_emod]
 have B:(i+1)%q.length<q.length:=Nat.mod_lt _ (by omega);have C:AB (BJ q (r+1)) i=Am q (r+1) i:=E4 hi;have c2:AB (BJ q (r+1)) ((i+1)%q.length:Nat)=Am q (r+1) (i+1):=by rw[E4 B,Hm]
 have F:AB (BJ q r) ((i+1)%q.length:Nat)=Am q r (i+1):=by rw[E4 B,Hm]
 have G:AB (BJ q (r+2)) i=Am q (r+2) i:=E4 hi;have ru:=Rx (q:=q) (r:=r) (i:=i) (by omega);have m1:=M8 (c (r+1) (by omega) i) (c (r+1) (by omega) (i+1));have m2:=M8 (c r (by omega) (i+1)) (c (r+2) (by omega) i);simp(disch:=try exact dV) only[AD,T,P,U,I,C,c2,F,G];exact wZ;exact wZ
theorem AjO[HA K]{R:List (List Int)}(h:P0 R)(f:K 185 [LL R] [.b true]):K 144 [LL R] [.n (El R)]:=by have l:=h.1;refine qw I144 ?_;refine cW f ?_;refine Aj (λr (x:Int)=>x=El (R.take r)) (λr x=>[.u,.u,.n x,.u,.u,.u,LL R,.n R.length,.n r,.u,.u,.u,.u,.u]) R.length 0 rfl rfl (λr x a P=>?_) (λx P=>?_);have H:=h.2 _ (ALU a);have s:=AIJ a;have B:=W9 h r;refine wW ?_;refine Aj (λi (y:Int)=>y=x+((AF R r).take i).sum) (λi y=>[.u,.u,.n y,.u,.u,.u,LL R,.n R.length,.n r,.u,LI (AF R r),.n (AF R r).length,.n i,.u]) (AF R r).length x (by simp) rfl (λi y hi Q=>?_) (λy Q=>?_);have c:=Ys hi;have b1:=Vk (r:=(AF R r).take i) ⟨by simp;omega,λx e=>H.2 x (List.mem_of_mem_take e)⟩;have b2:=H.2 _ (Rn hi);refine wW ?_;refine⟨_,?_,rfl⟩;rw[c,Q];omega;rw[List.take_of_length_le (by omega)]at Q;refine wW ?_;refine⟨_,?_,rfl⟩;rw[s,Q,P];refine wW ?_;rw[P,List.take_of_length_le (by omega)]
theorem Ug{q:List Int}(H:DX q=true)(f:GC q):P0 (Bk q (q.length+1)):=by obtain⟨e,g,j⟩:=Gl.1 H;have h:=Lm H (K8 H f);refine⟨by rw[JQ];omega,λr a=>?_⟩;simp only[Bk,List.mem_map,List.mem_range]at a;obtain⟨k,c,rfl⟩:=a;refine⟨by rw[ET];omega,λx b=>?_⟩;simp only[BJ,List.mem_map,List.mem_range]at b;obtain⟨i,hi,rfl⟩:=b;exact h k c i
end Go.Cat
