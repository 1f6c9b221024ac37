/-
 Triangulations read back: BinaryOfTriangles and l32Diagonals of the reference, for any rows of two numbers and any text.
-/
import Derived.Test.YthoilpmggmenbaaGreatPfSch
set_option linter.unusedSimpArgs false
set_option linter.unusedVariables false
namespace Go.Cat
variable{K:Nat->List D->List D->Prop}
def FF(x:List Int):Prop:=x.length=2/\(-1000<=AB x 0/\AB x 0<=1000)/\(-1000<=AB x 1/\AB x 1<=1000)
def DX(a b:List Int):Bool:=(decide (AB a 0<AB b 0)&&(decide (AB b 0<AB a 1)&&decide (AB a 1<AB b 1)))||(decide (AB b 0<AB a 0)&&(decide (AB a 0<AB b 1)&&decide (AB b 1<AB a 1)))
theorem Qn[HA K]{a b:List Int}(g:FF a)(i:FF b):K 603 [LI a,LI b] [.b (DX a b)]:=by obtain⟨j,_,_⟩:=g;obtain⟨b1,_,_⟩:=i;refine qw I603 ?_;by_cases h:AB a 0<AB b 0;by_cases H:AB b 0<AB a 1;by_cases e:AB a 1<AB b 1;refine wW ?_;simp[DX,h,H,e];refine wW ?_;simp[DX,h,H,e];omega;refine wW ?_;simp[DX,h,H];omega;by_cases c:AB b 0<AB a 0;by_cases f:AB a 0<AB b 1;refine wW ?_;simp[DX,h,c,f];refine wW ?_;simp[DX,h,c,f];refine wW ?_;simp[DX,h,c]
def Dq(n:Int)(r:List Int):Bool:=A4 0 (n-1) (AB r 0)&&A4 (AB r 0+2) (n-1) (AB r 1)&&!(decide (AB r 0=0)&&decide (AB r 1=n-1))
def Cn(n:Int):List (List Int)->List (List Int)->Bool
 |_,[]=>true
 |done,r::t=>Dq n r&&(decide (done.length=0)||Bj (AF done ((done.length:Int)-1)) r)&&done.all (λq=>!DX q r)&&Cn n (done++[r]) t
def DU(n:Int)(d:List (List Int)):Bool:=A4 2 10 n&&decide ((d.length:Int)=max 0 (n-3))&&Cn n [] d
theorem ABO{d:List (List Int)}{i:Nat}(h:i<d.length):d.take (i+1)=d.take i++[AF d i]:=by rw[CO h];simp[AF,h]
theorem KK{d:List (List Int)}{i:Nat}(h:i<d.length):d.drop i=AF d i::d.drop (i+1):=by rw[List.drop_eq_getElem_cons h];simp[AF,h]
theorem Z0{n:Int}{d:List (List Int)}{i:Nat}(h:i<d.length):Cn n (d.take i) (d.drop i)=(Dq n (AF d i)&&(decide (i=0)||Bj (AF d ((i:Int)-1)) (AF d i))&&(d.take i).all (λq=>!DX q (AF d i))&&Cn n (d.take (i+1)) (d.drop (i+1))):=by
 have l:(d.take i).length=i:=by simp;omega
 rw[KK h,Cn,<-ABO h,l];by_cases h0:i=0;simp[h0];have e:AF (d.take i) ((i:Int)-1)=AF d ((i:Int)-1):=by
  have a:((i:Int)-1).toNat=i-1:=by omega
  simp only[AF,a,Ap,List.getElem?_take];rw[if_pos (by omega)]
 rw[e]
theorem AAV[HA K]{n:Int}{d:List (List Int)}(hn:-1000000000<=n/\n<=1000000000)(hd:d.length<=1000)(h:∀r∈d,FF r):K 600 [.n n,LL d] [.b (DU n d)]:=by
 have M:=Cl (K:=K) (x:=n) (a:=2) (b:=10);have c:∀i:Nat,i<d.length->FF (AF d i):=λi hi=>h _ (G8 hi);refine qb I600 ?_
 cases Q:A4 2 10 n;rw[Q]at M;refine wW ?_;refine cW M ?_;simp[DU,Q];rw[Q]at M;have qb:=Af.1 Q;by_cases W:(d.length:Int)=max 0 (n-3);have Y:DU n d=Cn n [] d:=by simp[DU,Q,W]
 rw[Y];refine wW ?_;refine cW M ?_;refine AR (λi=>Cn n [] d=Cn n (d.take i) (d.drop i)) (λi=>[.n n,LL d,.u,.n i,.u,.u,.u,.u,.u,.u,.u]) d.length (by simp) rfl (λi hi H=>?_) (λH=>?_);rw[Z0 hi]at H;have J:=c i hi;obtain⟨r,h⟩:∃r,r=AF d i:=⟨_,rfl⟩;rw[<-h]at H J;obtain⟨G,R,T⟩:=J;have j:=Cl (K:=K) (x:=AB r 0) (a:=0) (b:=n-1);have B:=Cl (K:=K) (x:=AB r 1) (a:=AB r 0+2) (b:=n-1)
 cases N:A4 0 (n-1) (AB r 0);rw[N]at j;have I:Dq n r=false:=by simp[Dq,N]
 rw[I]at H;simp(disch:=omega) only[AD,<-h];refine cB j ?_;simp(disch:=omega) only[AD,<-h];rw[H];simp;rw[N]at j
 cases O:A4 (AB r 0+2) (n-1) (AB r 1);rw[O]at B;have I:Dq n r=false:=by simp[Dq,O]
 rw[I]at H;simp(disch:=omega) only[AD,<-h];refine cB j ?_;simp(disch:=omega) only[AD,<-h];refine cB B ?_;simp(disch:=omega) only[AD,<-h];rw[H];simp;rw[O]at B;by_cases F:AB r 0=0/\AB r 1=n-1;have I:Dq n r=false:=by simp[Dq,F.1,F.2]
 rw[I]at H;simp(disch:=omega) only[AD,<-h];refine cB j ?_;simp(disch:=omega) only[AD,<-h];refine cB B ?_;simp(disch:=omega) only[AD,<-h,F.1,F.2];rw[H];simp;have Z:Dq n r=true:=by by_cases P:AB r 0=0;have V:¬AB r 1=n-1:=λq=>F ⟨P,q⟩;simp[Dq,N,O,V];simp[Dq,N,O,P]
 rw[Z,Bool.true_and]at H;by_cases P:AB r 0=0;have V:¬AB r 1=n-1:=λq=>F ⟨P,q⟩;by_cases L:i=0;have H:Cn n [] d=((d.take i).all (λq=>!DX q r)&&Cn n (d.take (i+1)) (d.drop (i+1))):=by rw[H];simp[L]
 simp(disch:=omega) only[AD,<-h];refine cB j ?_;simp(disch:=omega) only[AD,<-h];refine cB B ?_;simp(disch:=omega) only[AD,<-h,P];refine AR (λk=>Cn n [] d=((((d.take i).drop k).all λq=>!DX q r)&&Cn n (d.take (i+1)) (d.drop (i+1)))) (λk=>[.n n,LL d,.u,.n i,.n k,.u,.u,.u,.u,.u,.u]) i (by simpa using H) (by simp) (λk s C=>?_) (λC=>?_);have g:k<(d.take i).length:=by simp;omega
 have o:AF (d.take i) k=AF d k:=by simp only[AF,BM,Ap,List.getElem?_take];rw[if_pos s]
 rw[KK g,o,List.all_cons]at C;have f:=Qn (K:=K) (a:=AF d k) (b:=r) (c k (by omega)) ⟨G,R,T⟩
 cases hx:DX (AF d k) r;rw[hx]at f C;simp(disch:=omega) only[AD,<-h];refine cW f ?_;simpa using C;rw[hx]at f C;simp(disch:=omega) only[AD,<-h];refine cW f ?_;rw[C];simp;have e:(d.take i).drop i=[]:=List.drop_eq_nil_of_le (by simp;omega);rw[e]at C;refine wW ?_;simpa using C;have l:=Vm (K:=K) (x:=AF d ((i-1:Nat):Int)) (y:=r) (c (i-1) (by omega)).1 G;have U:((i-1:Nat):Int)=(i:Int)-1:=by omega
 rw[U]at l;have H:Cn n [] d=(Bj (AF d ((i:Int)-1)) r&&((d.take i).all (λq=>!DX q r)&&Cn n (d.take (i+1)) (d.drop (i+1)))):=by rw[H];simp[L,Bool.and_assoc]
 cases hlt:Bj (AF d ((i:Int)-1)) r;rw[hlt]at l H;simp(disch:=omega) only[AD,<-h];refine cB j ?_;simp(disch:=omega) only[AD,<-h];refine cB B ?_;simp(disch:=omega) only[AD,<-h,P];refine cW l ?_;rw[H];simp;rw[hlt,Bool.true_and]at H;rw[hlt]at l;simp(disch:=omega) only[AD,<-h];refine cB j ?_;simp(disch:=omega) only[AD,<-h];refine cB B ?_;simp(disch:=omega) only[AD,<-h,P];refine cW l ?_;refine AR (λk=>Cn n [] d=((((d.take i).drop k).all λq=>!DX q r)&&Cn n (d.take (i+1)) (d.drop (i+1)))) (λk=>[.n n,LL d,.u,.n i,.n k,.u,.u,.u,.u,.u,.u]) i (by simpa using H) (by simp) (λk s C=>?_) (λC=>?_);have g:k<(d.take i).length:=by simp;omega
 have o:AF (d.take i) k=AF d k:=by simp only[AF,BM,Ap,List.getElem?_take];rw[if_pos s]
 rw[KK g,o,List.all_cons]at C;have f:=Qn (K:=K) (a:=AF d k) (b:=r) (c k (by omega)) ⟨G,R,T⟩
 cases hx:DX (AF d k) r;rw[hx]at f C;simp(disch:=omega) only[AD,<-h];refine cW f ?_;simpa using C;rw[hx]at f C;simp(disch:=omega) only[AD,<-h];refine cW f ?_;rw[C];simp;have e:(d.take i).drop i=[]:=List.drop_eq_nil_of_le (by simp;omega);rw[e]at C;refine wW ?_;simpa using C;by_cases L:i=0;have H:Cn n [] d=((d.take i).all (λq=>!DX q r)&&Cn n (d.take (i+1)) (d.drop (i+1))):=by rw[H];simp[L]
 simp(disch:=omega) only[AD,<-h];refine cB j ?_;simp(disch:=omega) only[AD,<-h];refine cB B ?_;simp(disch:=omega) only[AD,<-h];refine AR (λk=>Cn n [] d=((((d.take i).drop k).all λq=>!DX q r)&&Cn n (d.take (i+1)) (d.drop (i+1)))) (λk=>[.n n,LL d,.u,.n i,.n k,.u,.u,.u,.u,.u,.u]) i (by simpa using H) (by simp) (λk s C=>?_) (λC=>?_);have g:k<(d.take i).length:=by simp;omega
 have o:AF (d.take i) k=AF d k:=by simp only[AF,BM,Ap,List.getElem?_take];rw[if_pos s]
 rw[KK g,o,List.all_cons]at C;have f:=Qn (K:=K) (a:=AF d k) (b:=r) (c k (by omega)) ⟨G,R,T⟩
 cases hx:DX (AF d k) r;rw[hx]at f C;simp(disch:=omega) only[AD,<-h];refine cW f ?_;simpa using C;rw[hx]at f C;simp(disch:=omega) only[AD,<-h];refine cW f ?_;rw[C];simp;have e:(d.take i).drop i=[]:=List.drop_eq_nil_of_le (by simp;omega);rw[e]at C;refine wW ?_;simpa using C;have l:=Vm (K:=K) (x:=AF d ((i-1:Nat):Int)) (y:=r) (c (i-1) (by omega)).1 G;have U:((i-1:Nat):Int)=(i:Int)-1:=by omega
 rw[U]at l;have H:Cn n [] d=(Bj (AF d ((i:Int)-1)) r&&((d.take i).all (λq=>!DX q r)&&Cn n (d.take (i+1)) (d.drop (i+1)))):=by rw[H];simp[L,Bool.and_assoc]
 cases hlt:Bj (AF d ((i:Int)-1)) r;rw[hlt]at l H;simp(disch:=omega) only[AD,<-h];refine cB j ?_;simp(disch:=omega) only[AD,<-h];refine cB B ?_;simp(disch:=omega) only[AD,<-h];refine cW l ?_;rw[H];simp;rw[hlt,Bool.true_and]at H;rw[hlt]at l;simp(disch:=omega) only[AD,<-h];refine cB j ?_;simp(disch:=omega) only[AD,<-h];refine cB B ?_;simp(disch:=omega) only[AD,<-h];refine cW l ?_;refine AR (λk=>Cn n [] d=((((d.take i).drop k).all λq=>!DX q r)&&Cn n (d.take (i+1)) (d.drop (i+1)))) (λk=>[.n n,LL d,.u,.n i,.n k,.u,.u,.u,.u,.u,.u]) i (by simpa using H) (by simp) (λk s C=>?_) (λC=>?_);have g:k<(d.take i).length:=by simp;omega
 have o:AF (d.take i) k=AF d k:=by simp only[AF,BM,Ap,List.getElem?_take];rw[if_pos s]
 rw[KK g,o,List.all_cons]at C;have f:=Qn (K:=K) (a:=AF d k) (b:=r) (c k (by omega)) ⟨G,R,T⟩
 cases hx:DX (AF d k) r;rw[hx]at f C;simp(disch:=omega) only[AD,<-h];refine cW f ?_;simpa using C;rw[hx]at f C;simp(disch:=omega) only[AD,<-h];refine cW f ?_;rw[C];simp;have e:(d.take i).drop i=[]:=List.drop_eq_nil_of_le (by simp;omega);rw[e]at C;refine wW ?_;simpa using C;refine wW ?_;rw[H];simp[Cn];refine wW ?_;refine cW M ?_;simp[DU,Q,W]
def HM(n:Int)(d:List (List Int))(a b:Int):Bool:=(decide (b=a+1)||(decide (a=0)&&decide (b=n-1)))||d.any (λr=>decide (AB r 0=a)&&decide (AB r 1=b))
theorem Yd[HA K]{n a b:Int}{d:List (List Int)}(I:-1000<=n/\n<=1000)(B:-1000<=a/\a<=1000)(F:-1000<=b/\b<=1000)(hd:d.length<=1000)(x:∀r∈d,FF r):K 604 [.n n,LL d,.n a,.n b] [.b (HM n d a b)]:=by
 have e:∀i:Nat,i<d.length->FF (AF d i):=λi hi=>x _ (G8 hi);refine qb I604 ?_;by_cases g:b=a+1;simp(disch:=omega) only[AD,<-g];simp[HM,g];by_cases f:a=0/\b=n-1;simp(disch:=omega) only[AD,f.1,f.2];simp[HM,f.1,f.2];have l:HM n d a b=d.any (λr=>decide (AB r 0=a)&&decide (AB r 1=b)):=by by_cases j:a=0;have k:¬b=n-1:=λq=>f ⟨j,q⟩;simp[HM,g,k];simp[HM,g,j]
 rw[l];by_cases j:a=0;have k:¬b=n-1:=λq=>f ⟨j,q⟩;refine wW ?_;refine AR (λi=>d.any (λr=>decide (AB r 0=a)&&decide (AB r 1=b))=(d.drop i).any (λr=>decide (AB r 0=a)&&decide (AB r 1=b))) (λi=>[.u,LL d,.n a,.n b,.u,.n i,.u,.u,.u]) d.length (by simp) (by simp) (λi hi P=>?_) (λP=>?_);have H:=e i hi;obtain⟨r,h⟩:∃r,r=AF d i:=⟨_,rfl⟩;rw[KK hi,List.any_cons]at P;rw[<-h]at P H;obtain⟨s,G,o⟩:=H;by_cases c:AB r 0=a;by_cases C:AB r 1=b;simp(disch:=omega) only[AD,<-h,c,C];rw[P];simp[c,C];simp(disch:=omega) only[AD,<-h,c];rw[P];simp[C];simp(disch:=omega) only[AD,<-h];rw[P];simp[c];rw[List.drop_length]at P;refine wW ?_;rw[P];simp;refine wW ?_;refine AR (λi=>d.any (λr=>decide (AB r 0=a)&&decide (AB r 1=b))=(d.drop i).any (λr=>decide (AB r 0=a)&&decide (AB r 1=b))) (λi=>[.u,LL d,.n a,.n b,.u,.n i,.u,.u,.u]) d.length (by simp) (by simp) (λi hi P=>?_) (λP=>?_);have H:=e i hi;obtain⟨r,h⟩:∃r,r=AF d i:=⟨_,rfl⟩;rw[KK hi,List.any_cons]at P;rw[<-h]at P H;obtain⟨s,G,o⟩:=H;by_cases c:AB r 0=a;by_cases C:AB r 1=b;simp(disch:=omega) only[AD,<-h,c,C];rw[P];simp[c,C];simp(disch:=omega) only[AD,<-h,c];rw[P];simp[C];simp(disch:=omega) only[AD,<-h];rw[P];simp[c];rw[List.drop_length]at P;refine wW ?_;rw[P];simp
def Gc(n:Int)(d:List (List Int))(a b:Int):Nat->Int->Option Int
 |0,_=>none
 |k+1,m=>if(HM n d a m&&HM n d m b)=true then some m else Gc n d a b k (m+1)
def F1(n:Int)(d:List (List Int)):Nat->Int->Int->BT
 |0,_,_=>.lf
 |f+1,a,b=>if b=a+1 then .lf else
  match Gc n d a b (b-a-1).toNat (a+1)with
  |some m=>.nd (F1 n d f a m) (F1 n d f m b)
  |none=>.lf
theorem AEX{n:Int}{d:List (List Int)}{a b:Int}:∀{k:Nat}{m x:Int},Gc n d a b k m=some x->m<=x/\x<m+k
 |0,m,x,h=>by simp[Gc]at h
 |k+1,m,x,h=>by rw[Gc]at h;split at h;injection h with h;omega;have:=AEX h;omega
theorem OC{n:Int}{d:List (List Int)}:∀{f:Nat}{a b:Int},a<b->((F1 n d f a b).n:Int)<=b-a-1
 |0,a,b,h=>by simp only[F1,BT.n];omega
 |f+1,a,b,h=>by rw[F1];split;simp only[BT.n];omega;split;rename_i m H;have:=AEX H;have c:=OC (n:=n) (d:=d) (f:=f) (a:=a) (b:=m) (by omega);have e:=OC (n:=n) (d:=d) (f:=f) (a:=m) (b:=b) (by omega);simp only[BT.n];omega;simp only[BT.n];omega
theorem Tz[HA K]{n:Int}{d:List (List Int)}(c:-1000<=n/\n<=1000)(hd:d.length<=1000)(g:∀r∈d,FF r):∀(f:Nat)(a b:Int),0<=a->a<b->b<=100->b-a<=f->K 601 [.n n,LL d,.n a,.n b] [.s (F1 n d f a b).t]
 |0,a,b,h0,B,C,F=>by omega
 |f+1,a,b,h0,B,C,F=>by
  refine qb I601 ?_;by_cases H:b=a+1;have e:F1 n d (f+1) a b=.lf:=by rw[F1,if_pos H]
  rw[e];simp(disch:=try exact dV) only[AD,<-H];rfl;obtain⟨k,I⟩:∃k,k=(b-a-1).toNat:=⟨_,rfl⟩;have e:F1 n d (f+1) a b=match Gc n d a b k (a+1)with
  |some m=>.nd (F1 n d f a m) (F1 n d f m b)
  |none=>.lf:=by rw[F1,if_neg H,I]
  rw[e];refine wW ?_;refine AR (λi=>Gc n d a b k (a+1)=Gc n d a b (k-i) (a+1+i)) (λi=>[.n n,LL d,.n a,.n b,.u,.n (a+1+i),.u,.u,.u]) k (by simp) (by simp) (λi hi h=>?_) (λh=>?_);obtain⟨m,o⟩:∃m,m=a+1+(i:Int):=⟨_,rfl⟩;obtain⟨j,G⟩:∃j,k-i=j+1:=⟨k-i-1,by omega⟩;have x:k-(i+1)=j:=by omega
  have l:a+1+((i:Int)+1)=m+1:=by omega
  rw[G,<-o,Gc]at h;rw[<-o,x];have s1:=Yd (K:=K) (n:=n) (a:=a) (b:=m) (d:=d) c (by omega) (by omega) hd g;have s2:=Yd (K:=K) (n:=n) (a:=m) (b:=b) (d:=d) c (by omega) (by omega) hd g
  cases q1:HM n d a m;rw[q1]at s1 h;refine wW ?_;refine cW s1 ?_;rw[l];exact⟨by simpa using h,rfl⟩;rw[q1]at s1 h
  cases q2:HM n d m b;rw[q2]at s2 h;refine wW ?_;refine cW s1 ?_;refine cW s2 ?_;rw[l];exact⟨by simpa using h,rfl⟩;rw[q2]at s2 h;have h:Gc n d a b k (a+1)=some m:=by simpa using h
  have J:=Tz c hd g f a m (by omega) (by omega) (by omega) (by omega);have L:=Tz c hd g f m b (by omega) (by omega) (by omega) (by omega);have T:=BT.tl (F1 n d f a m);have O:=BT.tl (F1 n d f m b);have N:=OC (n:=n) (d:=d) (f:=f) (a:=a) (b:=m) (by omega);have M:=OC (n:=n) (d:=d) (f:=f) (a:=m) (b:=b) (by omega);rw[h];simp only[BT.t];refine wW ?_;refine cW s1 ?_;refine cW s2 ?_;refine cW J ?_;refine cW L ?_;simp;have q:k-k=0:=by omega
  rw[q,Gc]at h;rw[h];exact wZ
def Je(n:Int)(d:List (List Int)):BT:=F1 n d (n-1).toNat 0 (n-1)
theorem AJH{n:Int}{d:List (List Int)}(h:DU n d=true):(Je n d).n<=8:=by simp only[DU,AU]at h;have:=Af.1 h.1.1;have:=OC (n:=n) (d:=d) (f:=(n-1).toNat) (a:=0) (b:=n-1) (by omega);unfold Je;omega
theorem AXP[HA K]{n:Int}{d:List (List Int)}(a:-1000000000<=n/\n<=1000000000)(hd:d.length<=1000)(h:∀r∈d,FF r):K 593 [.n n,LL d] [.s (if DU n d=true then(Je n d).t else []),.b (DU n d)]:=by
 have k:=AAV (K:=K) a hd h;refine qw I593 ?_;refine cB k ?_
 cases H:DU n d;exact wZ;have e:2<=n/\n<=10:=by simp only[DU,AU]at H;exact Af.1 H.1.1
 have c:=Tz (K:=K) (n:=n) (d:=d) (by omega) hd h (n-1).toNat 0 (n-1) (by omega) (by omega) (by omega) (by omega);refine wW ?_;exact cZ c
end Go.Cat
