/-
 FriezeLine answers as the reference does.
-/
import Derived.Test.YthoilpmggmenbaaGreatPfSerA
import Derived.Test.YthoilpmggmenbaaGreatPfRotC
import Derived.Test.YthoilpmggmenbaaGreatPfWrite
set_option linter.unusedSimpArgs false
set_option linter.unusedVariables false
namespace Go.Cat
variable{K:Nat->List D->List D->Prop}
def HB(q:List Int):Nat->List Nat
 |0=>[102,114,105,101,122,101]
 |k+1=>HB q k++[32]++EO (BJ q (k+1))
open Classical in
noncomputable def IQ(q:List Int):List Nat:=if Fa q=true then HB q (q.length-1)++[32,115,117,109,32]++AQ (El (Bk q (q.length+1)))else []
theorem Wc{q:List Int}{r:Nat}(h:Me q (q.length+1))(a:r<q.length+1):H4 (BJ q r):=by intro x H;simp only[BJ,List.mem_map,List.mem_range]at H;obtain⟨i,hi,rfl⟩:=H;have:=h r a i;omega
theorem MW{q:List Int}(h:Me q (q.length+1))(b:q.length<=10):∀k,k<q.length+1->(HB q k).length<=6+k*215
 |0,_=>by simp[HB]
 |k+1,a=>by have:=MW h b k (by omega);have H:=Jf (Wc h a);rw[ET]at H;simp only[HB,A4,AO,A6];omega
theorem VN{R:List (List Int)}(h:P0 R):0<=El R/\El R<=11000000:=by have:=W9 h R.length;rwa [List.take_length]at this
open Classical in
theorem AfG[HA K]{q:List Int}(H:DX q=true)(f:GC q):K 182 [LL (Bk q (q.length+1))] [.b true]:=by have h:=Zg (K:=K) H (K8 H f);rwa [decide_eq_true f]at h
theorem AYS(q:List Int):(IQ q).length<=100000:=by unfold IQ;split;rename_i a;obtain⟨h,f⟩:=PW.1 a;obtain⟨c,e,H⟩:=Gl.1 h;have s:=MW (Lm h (K8 h f)) H (q.length-1) (by omega);have b:=VN (Ug h f);have l:=Ax (n:=El (Bk q (q.length+1))) (by omega);simp only[A4,AO,A6];omega;simp
theorem AW9[HA K]{q:List Int}(h:q.length<=1048576):K 113 [LI q] [.s (IQ q)]:=by
 refine qw I113 ?_;refine cB (ff_s h) ?_
 cases hq:Fa q;refine wW ?_;simp[IQ,hq];obtain⟨a,f⟩:=PW.1 hq;obtain⟨C,F,i⟩:=Gl.1 a;have H:=Lm a (K8 a f);have e:G2 q=Bk q (q.length+1):=by unfold G2;rw[if_pos ⟨a,f⟩]
 have l:(Bk q (q.length+1)).length=q.length+1:=JQ;rw[e];refine wW ?_;refine Aj (λk (s:List Nat)=>s=HB q k) (λk s=>[.u,.u,LL (Bk q (q.length+1)),.u,.s s,.n ((k:Int)+1),.u,.u]) (q.length-1) _ rfl rfl (λk s G P=>?_) (λs P=>?_);have x:AF (Bk q (q.length+1)) ((k:Int)+1)=BJ q (k+1):=K6 (r:=k+1) (by omega);have j:=Wc (r:=k+1) H (by omega);have I:(BJ q (k+1)).length=q.length:=ET;have J:=Jf j;have g:=MW H i k (by omega);rw[<-P]at g;simp(disch:=try exact dV) only[AD,x];refine cW (Pq (by omega) j) ?_;refine⟨_,?_,rfl⟩;rw[P,HB];have g:=MW H i (q.length-1) (by omega);rw[<-P]at g;have b:=Ug a f;have B:=VN b;have c:=AfG (K:=K) a f;have o:=Ax (n:=El (Bk q (q.length+1))) (by omega);refine wW ?_;refine cW (AUP b c) ?_;refine cW (By (by omega)) ?_;rw[IQ,if_pos hq,P]
theorem AfS{q:List Int}(h:3<=q.length):(sub (Bk q (q.length+1)) 1 (q.length:Int)).length=q.length-1/\∀k:Nat,k<q.length-1->AF (sub (Bk q (q.length+1)) 1 (q.length:Int)) k=BJ q (k+1):=by refine⟨by rw[K9,JQ];omega,λk H=>?_⟩;have:AF (Bk q (q.length+1)) ((k+1:Nat):Int)=BJ q (k+1):=K6 (by omega);rw[<-this];simp only[AF,sub,BM,Ap,List.getElem?_drop,List.getElem?_take];rw[show Int.toNat 1+k=k+1 by simp;omega,if_pos (by omega)]
theorem AXV{s a b:List Nat}:glue s [a,b]=a++s++b:=by simp[glue,BE,AG]
theorem Ae0{a b:List Nat}:Dv [.s a,.s b]=some (LS [a,b]):=rfl
theorem AhW[HA K][Hi K]{q:List Int}(h:q.length<=1048576):K 114 [LI q] [.s (IQ q)]:=by
 refine qw I114 ?_;refine cB (ff_i h) ?_
 cases hq:Fa q;refine wW ?_;simp[IQ,hq];obtain⟨b,f⟩:=PW.1 hq;obtain⟨J,x,j⟩:=Gl.1 b;have H:=Lm b (K8 b f);have e:G2 q=Bk q (q.length+1):=by unfold G2;rw[if_pos ⟨b,f⟩]
 have B:(Bk q (q.length+1)).length=q.length+1:=JQ;obtain⟨sl,sa⟩:=AfS x;rw[e];have o:((Bk q (q.length+1)).length:Int)-1=q.length:=by omega
 simp(disch:=try exact dV) only[AD,o];refine Aj (λk (s:List Nat)=>s=HB q k) (λk s=>[.u,.u,LL (Bk q (q.length+1)),.u,.s s,.u,.u,LL (sub (Bk q (q.length+1)) 1 (q.length:Int)),.n (q.length-1:Nat),.n k,.u]) (q.length-1) (HB q 0) rfl (by rw[show(min ((q.length:Int)).toNat (Bk q (q.length+1)).length-Int.toNat 1)=q.length-1 by rw[<-K9,sl]];rfl) (λk s F P=>?_) (λs P=>?_);have G:=sa k F;have l:=Wc (r:=k+1) H (by omega);have L:(BJ q (k+1)).length=q.length:=ET;have M:=Jf l;have i:=MW H j k (by omega);rw[<-P]at i;simp(disch:=try exact dV) only[AD,G];refine cB (QF (by omega) l) ?_;simp(disch:=try exact dV) only[AD,Ae0];have a:=Hk (K:=K) (ws:=[s,EO (BJ q (k+1))]) (by simp) (by simp;omega);refine cW a ?_;refine⟨_,?_,rfl⟩;rw[AXV,P,HB];have i:=MW H j (q.length-1) (by omega);rw[<-P]at i;have c:=Ug b f;have I:=VN c;have g:=AY9 (K:=K) b f;have C:=Ax (n:=El (Bk q (q.length+1))) (by omega);refine wW ?_;refine cW (AjO c g) ?_;refine cB (C4 (by omega)) ?_;simp(disch:=try exact dV) only[AD,Vb];have a:=Hk (K:=K) (ws:=[s,[115,117,109],AQ (El (Bk q (q.length+1)))]) (by simp) (by simp;omega);refine cW a ?_;rw[IQ,if_pos hq,P,Uo];simp
end Go.Cat
namespace Go.Cat
variable{K:Nat->List D->List D->Prop}
def Gb(s:List Nat):List Nat:=s.map (Fx 40 117 100)
def F6(s:List Nat):Bool:=only 40 41 s&&AK (Gb s)
def F5(s:List Nat):List Nat:=if F6 s=true then Gb s else []
theorem Pp{s:List Nat}:(Gb s).length=s.length:=by simp[Gb]
theorem AXT{s:List Nat}{i:Nat}(h:i<s.length):Gb (s.take (i+1))=Gb (s.take i)++[Fx 40 117 100 (AH s i)]:=by rw[Wl h];simp[Gb]
theorem AcD{w:List Nat}(hd:AK w=true):F6 (Cv w)=true/\F5 (Cv w)=w:=by
 have h:=PU hd;have e:Gb (Cv w)=w:=WG h;have:F6 (Cv w)=true:=by simp[F6,UR h,e,hd]
 exact⟨this,by simp[F5,this,e]⟩
theorem AYR[HA K]{s:List Nat}(l:s.length<=1000000000):K 515 [.s s] [.s (F5 s),.b (F6 s)]:=by
 have k:=W8 (K:=K) (w:=s) (a:=40) (b:=41) (c:=117) (d:=100) (by omega) (by omega) (by omega);refine qw AIW ?_;refine cB k ?_;have H:=Pp (s:=s);have e:s.map (Fx 40 117 100)=Gb s:=rfl;by_cases h:only 40 41 s=true
 .simp(disch:=omega) only[AD,h,e];repeat refine cW (Bv (by omega)) ?_
  by_cases hd:AK (Gb s)=true;simp(disch:=omega) only[AD,hd];simp[F5,F6,h,hd];simp(disch:=omega) only[AD,hd];simp[F5,F6,h,hd]
 simp(disch:=omega) only[AD,h];simp[F5,F6,h]
theorem AVQ{s:List Nat}{i:Nat}(h:i<s.length)(H:AH s i≠40)(a:AH s i≠41):only 40 41 s=false:=by
 cases hc:only 40 41 s;rfl;have b:AH s i∈s:=by simp[AH,h]
 have:=Ao.1 hc _ b;simp[H,a]at this
theorem AeW[HA K]{s:List Nat}(k:s.length<=1000000000):K 320 [.s s] [.s (F5 s),.b (F6 s)]:=by
 refine qw AJP ?_;by_cases f:s.length<=16
 .refine AN (λi=>∀j:Nat,j<i->AH s j=40\/AH s j=41) (λi=>[.s s,.u,.u,.s (Gb (s.take i)),.n i,.u,.u,.u,.u,.u]) s.length (by simp) (by simp[Gb]) (λi hi P=>?_) (λP=>?_);have o:(Gb (s.take i)).length=i:=by rw[Pp];simp;omega
  have es:=AXT hi;rw[es];by_cases a:AH s i=40;simp(disch:=try exact dV) only[AD,a];refine⟨λj H=>?_,rfl⟩;rcases BS j i with q|q;exact P j q;obtain rfl:j=i:=by omega
  exact .inl a;by_cases c:AH s i=41;simp(disch:=try exact dV) only[AD,c];refine⟨λj H=>?_,rfl⟩;rcases BS j i with q|q;exact P j q;obtain rfl:j=i:=by omega
  exact .inr c;have h:=AVQ hi a c;refine wW ?_;simp[F5,F6,h];have h:only 40 41 s=true:=by refine Ao.2 λx g=>?_;obtain⟨j,H,rfl⟩:=List.mem_iff_getElem.1 g;have:=P j H;simpa[AH,H]using this
  have B:=Pp (s:=s);rw[List.take_length];refine wW ?_;repeat refine cW (Br (by omega)) ?_
  by_cases hd:AK (Gb s)=true;simp(disch:=try exact dV) only[AD,hd];simp[F5,F6,h,hd];simp(disch:=try exact dV) only[AD,hd];simp[F5,F6,h,hd]
 have h:F6 s=false:=by cases e:F6 s;rfl;simp only[F6,AV]at e;have:=(Af e.2).l;rw[Pp]at this;omega
 refine AN (λ_=>True) (λ_=>[.s s,.u,.u,.s [],.n 0,.u,.u,.u,.u,.u]) 0 trivial rfl (λi hi _=>absurd hi (by omega)) (λ_=>?_);refine wW ?_;simp[F5,h]
theorem Te[HA K]:∀{x:BT},x.n<=100000->K 583 [x.d] [.s x.p]
 |.lf,_=>by refine qb Zn ?_;simp only[BT.d,BT.p];exact wZ
 |.nd l r,h=>by have H:=h;simp only[BT.n]at H;have k:=Te (x:=l) (by omega);have a:=Te (x:=r) (by omega);have T:=BT.pl l;have b:=BT.pl r;refine qb Zn ?_;simp only[BT.d,BT.p];simp(disch:=try exact dV) only[AD,BT.Dc,KD];refine cB k ?_;simp(disch:=try exact dV) only[AD,BT.Dc];refine cW a ?_;simp
theorem Ad6[HA K]{x:BT}(h:x.n<=8):K 560 [.s x.t] [.s x.p,.b true]:=by refine qw AB7 ?_;refine cB (Ly h) ?_;simp(disch:=omega) only[AD,BT.Dc];exact cZ (Te (by omega))
theorem AiY[HA K]{s:List Nat}(h:Az s=false):K 560 [.s s] [.s [],.b false]:=by refine qw AB7 ?_;refine cW (Qu h) ?_;exact cZ (Te (x:=.lf) (by simp[BT.n]))
theorem Tq[HA K]:∀{x:BT},x.n<=100000->K 592 [.s x.t] [.s x.p]
 |.lf,_=>by refine qb AJE ?_;simp only[BT.t,BT.p];exact wZ
 |.nd a b,h=>by have H:=h;simp only[BT.n]at H;have g:=Tq (x:=a) (by omega);have i:=Tq (x:=b) (by omega);have T:=BT.tl a;have B:=BT.tl b;have P:=BT.pl a;have q:=BT.pl b;have l:=IJ (a:=a) (b:=b);have c:=J4 (a:=a) (b:=b);have k:=IZ (K:=K) (a:=a) (b:=b) (by omega);have e:=Kk (a:=a) (b:=b);have f:=JV (a:=a) (b:=b) (j:=(BT.nd a b).t.length-1) rfl;simp only[BT.p];generalize o:(BT.nd a b).t=w at l c f k e;refine qb AJE ?_;simp(disch:=try exact dV) only[AD,e];refine cB k ?_;simp(disch:=try exact dV) only[AD,c];refine cB g ?_;simp(disch:=try exact dV) only[AD,f];refine cW i ?_;simp
theorem Wt[HA K]{x:BT}(h:x.n<=8):K 577 [.s x.t] [.s x.p,.b true]:=by refine qw AE2 ?_;refine cB Ez ?_;simp(disch:=omega) only[AD,GF h];exact cZ (Tq (by omega))
theorem AFV[HA K]{s:List Nat}(h:Az s=false):K 577 [.s s] [.s [],.b false]:=by refine qw AE2 ?_;refine cB Ez ?_;simp(disch:=omega) only[AD,h]
end Go.Cat
namespace Go.Cat
variable{K:Nat->List D->List D->Prop}
def FE(x:List Int):Prop:=x.length=2/\(-1000<=AB x 0/\AB x 0<=1000)/\(-1000<=AB x 1/\AB x 1<=1000)
def Dj(a b:List Int):Bool:=(decide (AB a 0<AB b 0)&&(decide (AB b 0<AB a 1)&&decide (AB a 1<AB b 1)))||(decide (AB b 0<AB a 0)&&(decide (AB a 0<AB b 1)&&decide (AB b 1<AB a 1)))
theorem Tl[HA K]{a b:List Int}(g:FE a)(i:FE b):K 603 [LI a,LI b] [.b (Dj a b)]:=by obtain⟨j,_,_⟩:=g;obtain⟨b1,_,_⟩:=i;refine qw I603 ?_;by_cases h:AB a 0<AB b 0;by_cases H:AB b 0<AB a 1;by_cases e:AB a 1<AB b 1;refine wW ?_;simp[Dj,h,H,e];refine wW ?_;simp[Dj,h,H,e];omega;refine wW ?_;simp[Dj,h,H];omega;by_cases c:AB b 0<AB a 0;by_cases f:AB a 0<AB b 1;refine wW ?_;simp[Dj,h,c,f];refine wW ?_;simp[Dj,h,c,f];refine wW ?_;simp[Dj,h,c]
def EI(n:Int)(r:List Int):Bool:=AR 0 (n-1) (AB r 0)&&AR (AB r 0+2) (n-1) (AB r 1)&&!(decide (AB r 0=0)&&decide (AB r 1=n-1))
def DF(n:Int):List (List Int)->List (List Int)->Bool
 |_,[]=>true
 |done,r::t=>EI n r&&(decide (done.length=0)||Bz (AF done ((done.length:Int)-1)) r)&&done.all (λq=>!Dj q r)&&DF n (done++[r]) t
def Ck(n:Int)(d:List (List Int)):Bool:=AR 2 10 n&&decide ((d.length:Int)=max 0 (n-3))&&DF n [] d
theorem AFT{d:List (List Int)}{i:Nat}(h:i<d.length):d.take (i+1)=d.take i++[AF d i]:=by rw[CP h];simp[AF,h]
theorem Lv{d:List (List Int)}{i:Nat}(h:i<d.length):d.drop i=AF d i::d.drop (i+1):=by rw[List.drop_eq_getElem_cons h];simp[AF,h]
theorem AF8{n:Int}{d:List (List Int)}{i:Nat}(h:i<d.length):DF n (d.take i) (d.drop i)=(EI n (AF d i)&&(decide (i=0)||Bz (AF d ((i:Int)-1)) (AF d i))&&(d.take i).all (λq=>!Dj q (AF d i))&&DF n (d.take (i+1)) (d.drop (i+1))):=by
 have l:(d.take i).length=i:=by simp;omega
 rw[Lv h,DF,<-AFT h,l];by_cases h0:i=0;simp[h0];have e:AF (d.take i) ((i:Int)-1)=AF d ((i:Int)-1):=by
  have a:((i:Int)-1).toNat=i-1:=by omega
  simp only[AF,a,Ap,List.getElem?_take];rw[if_pos (by omega)]
 rw[e]
theorem AI1[HA K]{n:Int}{d:List (List Int)}(hn:-1000000000<=n/\n<=1000000000)(hd:d.length<=1000)(h:∀r∈d,FE r):K 600 [.n n,LL d] [.b (Ck n d)]:=by
 have M:=Bt (K:=K) (x:=n) (a:=2) (b:=10);have c:∀i:Nat,i<d.length->FE (AF d i):=λi hi=>h _ (HO hi);refine qb I600 ?_
 cases Q:AR 2 10 n;rw[Q]at M;refine wW ?_;refine cW M ?_;simp[Ck,Q];rw[Q]at M;have qb:=A5.1 Q;by_cases W:(d.length:Int)=max 0 (n-3);have Y:Ck n d=DF n [] d:=by simp[Ck,Q,W]
 rw[Y];refine wW ?_;refine cW M ?_;refine AN (λi=>DF n [] d=DF n (d.take i) (d.drop i)) (λi=>[.n n,LL d,.u,.n i,.u,.u,.u,.u,.u,.u,.u]) d.length (by simp) rfl (λi hi H=>?_) (λH=>?_);rw[AF8 hi]at H;have J:=c i hi;obtain⟨r,h⟩:∃r,r=AF d i:=⟨_,rfl⟩;rw[<-h]at H J;obtain⟨G,R,T⟩:=J;have j:=Bt (K:=K) (x:=AB r 0) (a:=0) (b:=n-1);have B:=Bt (K:=K) (x:=AB r 1) (a:=AB r 0+2) (b:=n-1)
 cases N:AR 0 (n-1) (AB r 0);rw[N]at j;have I:EI n r=false:=by simp[EI,N]
 rw[I]at H;simp(disch:=omega) only[AD,<-h];refine cB j ?_;simp(disch:=omega) only[AD,<-h];rw[H];simp;rw[N]at j
 cases O:AR (AB r 0+2) (n-1) (AB r 1);rw[O]at B;have I:EI n r=false:=by simp[EI,O]
 rw[I]at H;simp(disch:=omega) only[AD,<-h];refine cB j ?_;simp(disch:=omega) only[AD,<-h];refine cB B ?_;simp(disch:=omega) only[AD,<-h];rw[H];simp;rw[O]at B;by_cases F:AB r 0=0/\AB r 1=n-1;have I:EI n r=false:=by simp[EI,F.1,F.2]
 rw[I]at H;simp(disch:=omega) only[AD,<-h];refine cB j ?_;simp(disch:=omega) only[AD,<-h];refine cB B ?_;simp(disch:=omega) only[AD,<-h,F.1,F.2];rw[H];simp;have Z:EI n r=true:=by by_cases P:AB r 0=0;have V:¬AB r 1=n-1:=λq=>F ⟨P,q⟩;simp[EI,N,O,V];simp[EI,N,O,P]
 rw[Z,Bool.true_and]at H;by_cases P:AB r 0=0;have V:¬AB r 1=n-1:=λq=>F ⟨P,q⟩;by_cases L:i=0;have H:DF n [] d=((d.take i).all (λq=>!Dj q r)&&DF n (d.take (i+1)) (d.drop (i+1))):=by rw[H];simp[L]
 simp(disch:=omega) only[AD,<-h];refine cB j ?_;simp(disch:=omega) only[AD,<-h];refine cB B ?_;simp(disch:=omega) only[AD,<-h,P];refine AN (λk=>DF n [] d=((((d.take i).drop k).all λq=>!Dj q r)&&DF n (d.take (i+1)) (d.drop (i+1)))) (λk=>[.n n,LL d,.u,.n i,.n k,.u,.u,.u,.u,.u,.u]) i (by simpa using H) (by simp) (λk s C=>?_) (λC=>?_);have g:k<(d.take i).length:=by simp;omega
 have o:AF (d.take i) k=AF d k:=by simp only[AF,BM,Ap,List.getElem?_take];rw[if_pos s]
 rw[Lv g,o,List.all_cons]at C;have f:=Tl (K:=K) (a:=AF d k) (b:=r) (c k (by omega)) ⟨G,R,T⟩
 cases hx:Dj (AF d k) r;rw[hx]at f C;simp(disch:=omega) only[AD,<-h];refine cW f ?_;simpa using C;rw[hx]at f C;simp(disch:=omega) only[AD,<-h];refine cW f ?_;rw[C];simp;have e:(d.take i).drop i=[]:=List.drop_eq_nil_of_le (by simp;omega);rw[e]at C;refine wW ?_;simpa using C;have l:=Wj (K:=K) (x:=AF d ((i-1:Nat):Int)) (y:=r) (c (i-1) (by omega)).1 G;have U:((i-1:Nat):Int)=(i:Int)-1:=by omega
 rw[U]at l;have H:DF n [] d=(Bz (AF d ((i:Int)-1)) r&&((d.take i).all (λq=>!Dj q r)&&DF n (d.take (i+1)) (d.drop (i+1)))):=by rw[H];simp[L,Bool.and_assoc]
 cases hlt:Bz (AF d ((i:Int)-1)) r;rw[hlt]at l H;simp(disch:=omega) only[AD,<-h];refine cB j ?_;simp(disch:=omega) only[AD,<-h];refine cB B ?_;simp(disch:=omega) only[AD,<-h,P];refine cW l ?_;rw[H];simp;rw[hlt,Bool.true_and]at H;rw[hlt]at l;simp(disch:=omega) only[AD,<-h];refine cB j ?_;simp(disch:=omega) only[AD,<-h];refine cB B ?_;simp(disch:=omega) only[AD,<-h,P];refine cW l ?_;refine AN (λk=>DF n [] d=((((d.take i).drop k).all λq=>!Dj q r)&&DF n (d.take (i+1)) (d.drop (i+1)))) (λk=>[.n n,LL d,.u,.n i,.n k,.u,.u,.u,.u,.u,.u]) i (by simpa using H) (by simp) (λk s C=>?_) (λC=>?_);have g:k<(d.take i).length:=by simp;omega
 have o:AF (d.take i) k=AF d k:=by simp only[AF,BM,Ap,List.getElem?_take];rw[if_pos s]
 rw[Lv g,o,List.all_cons]at C;have f:=Tl (K:=K) (a:=AF d k) (b:=r) (c k (by omega)) ⟨G,R,T⟩
 cases hx:Dj (AF d k) r;rw[hx]at f C;simp(disch:=omega) only[AD,<-h];refine cW f ?_;simpa using C;rw[hx]at f C;simp(disch:=omega) only[AD,<-h];refine cW f ?_;rw[C];simp;have e:(d.take i).drop i=[]:=List.drop_eq_nil_of_le (by simp;omega);rw[e]at C;refine wW ?_;simpa using C;by_cases L:i=0;have H:DF n [] d=((d.take i).all (λq=>!Dj q r)&&DF n (d.take (i+1)) (d.drop (i+1))):=by rw[H];simp[L]
 simp(disch:=omega) only[AD,<-h];refine cB j ?_;simp(disch:=omega) only[AD,<-h];refine cB B ?_;simp(disch:=omega) only[AD,<-h];refine AN (λk=>DF n [] d=((((d.take i).drop k).all λq=>!Dj q r)&&DF n (d.take (i+1)) (d.drop (i+1)))) (λk=>[.n n,LL d,.u,.n i,.n k,.u,.u,.u,.u,.u,.u]) i (by simpa using H) (by simp) (λk s C=>?_) (λC=>?_);have g:k<(d.take i).length:=by simp;omega
 have o:AF (d.take i) k=AF d k:=by simp only[AF,BM,Ap,List.getElem?_take];rw[if_pos s]
 rw[Lv g,o,List.all_cons]at C;have f:=Tl (K:=K) (a:=AF d k) (b:=r) (c k (by omega)) ⟨G,R,T⟩
 cases hx:Dj (AF d k) r;rw[hx]at f C;simp(disch:=omega) only[AD,<-h];refine cW f ?_;simpa using C;rw[hx]at f C;simp(disch:=omega) only[AD,<-h];refine cW f ?_;rw[C];simp;have e:(d.take i).drop i=[]:=List.drop_eq_nil_of_le (by simp;omega);rw[e]at C;refine wW ?_;simpa using C;have l:=Wj (K:=K) (x:=AF d ((i-1:Nat):Int)) (y:=r) (c (i-1) (by omega)).1 G;have U:((i-1:Nat):Int)=(i:Int)-1:=by omega
 rw[U]at l;have H:DF n [] d=(Bz (AF d ((i:Int)-1)) r&&((d.take i).all (λq=>!Dj q r)&&DF n (d.take (i+1)) (d.drop (i+1)))):=by rw[H];simp[L,Bool.and_assoc]
 cases hlt:Bz (AF d ((i:Int)-1)) r;rw[hlt]at l H;simp(disch:=omega) only[AD,<-h];refine cB j ?_;simp(disch:=omega) only[AD,<-h];refine cB B ?_;simp(disch:=omega) only[AD,<-h];refine cW l ?_;rw[H];simp;rw[hlt,Bool.true_and]at H;rw[hlt]at l;simp(disch:=omega) only[AD,<-h];refine cB j ?_;simp(disch:=omega) only[AD,<-h];refine cB B ?_;simp(disch:=omega) only[AD,<-h];refine cW l ?_;refine AN (λk=>DF n [] d=((((d.take i).drop k).all λq=>!Dj q r)&&DF n (d.take (i+1)) (d.drop (i+1)))) (λk=>[.n n,LL d,.u,.n i,.n k,.u,.u,.u,.u,.u,.u]) i (by simpa using H) (by simp) (λk s C=>?_) (λC=>?_);have g:k<(d.take i).length:=by simp;omega
 have o:AF (d.take i) k=AF d k:=by simp only[AF,BM,Ap,List.getElem?_take];rw[if_pos s]
 rw[Lv g,o,List.all_cons]at C;have f:=Tl (K:=K) (a:=AF d k) (b:=r) (c k (by omega)) ⟨G,R,T⟩
 cases hx:Dj (AF d k) r;rw[hx]at f C;simp(disch:=omega) only[AD,<-h];refine cW f ?_;simpa using C;rw[hx]at f C;simp(disch:=omega) only[AD,<-h];refine cW f ?_;rw[C];simp;have e:(d.take i).drop i=[]:=List.drop_eq_nil_of_le (by simp;omega);rw[e]at C;refine wW ?_;simpa using C;refine wW ?_;rw[H];simp[DF];refine wW ?_;refine cW M ?_;simp[Ck,Q,W]
def Ip(n:Int)(d:List (List Int))(a b:Int):Bool:=(decide (b=a+1)||(decide (a=0)&&decide (b=n-1)))||d.any (λr=>decide (AB r 0=a)&&decide (AB r 1=b))
theorem ASG[HA K]{n a b:Int}{d:List (List Int)}(I:-1000<=n/\n<=1000)(B:-1000<=a/\a<=1000)(F:-1000<=b/\b<=1000)(hd:d.length<=1000)(x:∀r∈d,FE r):K 604 [.n n,LL d,.n a,.n b] [.b (Ip n d a b)]:=by
 have e:∀i:Nat,i<d.length->FE (AF d i):=λi hi=>x _ (HO hi);refine qb I604 ?_;by_cases g:b=a+1;simp(disch:=omega) only[AD,<-g];simp[Ip,g];by_cases f:a=0/\b=n-1;simp(disch:=omega) only[AD,f.1,f.2];simp[Ip,f.1,f.2];have l:Ip n d a b=d.any (λr=>decide (AB r 0=a)&&decide (AB r 1=b)):=by by_cases j:a=0;have k:¬b=n-1:=λq=>f ⟨j,q⟩;simp[Ip,g,k];simp[Ip,g,j]
 rw[l];by_cases j:a=0;have k:¬b=n-1:=λq=>f ⟨j,q⟩;refine wW ?_;refine AN (λi=>d.any (λr=>decide (AB r 0=a)&&decide (AB r 1=b))=(d.drop i).any (λr=>decide (AB r 0=a)&&decide (AB r 1=b))) (λi=>[.u,LL d,.n a,.n b,.u,.n i,.u,.u,.u]) d.length (by simp) (by simp) (λi hi P=>?_) (λP=>?_);have H:=e i hi;obtain⟨r,h⟩:∃r,r=AF d i:=⟨_,rfl⟩;rw[Lv hi,List.any_cons]at P;rw[<-h]at P H;obtain⟨s,G,o⟩:=H;by_cases c:AB r 0=a;by_cases C:AB r 1=b;simp(disch:=omega) only[AD,<-h,c,C];rw[P];simp[c,C];simp(disch:=omega) only[AD,<-h,c];rw[P];simp[C];simp(disch:=omega) only[AD,<-h];rw[P];simp[c];rw[List.drop_length]at P;refine wW ?_;rw[P];simp;refine wW ?_;refine AN (λi=>d.any (λr=>decide (AB r 0=a)&&decide (AB r 1=b))=(d.drop i).any (λr=>decide (AB r 0=a)&&decide (AB r 1=b))) (λi=>[.u,LL d,.n a,.n b,.u,.n i,.u,.u,.u]) d.length (by simp) (by simp) (λi hi P=>?_) (λP=>?_);have H:=e i hi;obtain⟨r,h⟩:∃r,r=AF d i:=⟨_,rfl⟩;rw[Lv hi,List.any_cons]at P;rw[<-h]at P H;obtain⟨s,G,o⟩:=H;by_cases c:AB r 0=a;by_cases C:AB r 1=b;simp(disch:=omega) only[AD,<-h,c,C];rw[P];simp[c,C];simp(disch:=omega) only[AD,<-h,c];rw[P];simp[C];simp(disch:=omega) only[AD,<-h];rw[P];simp[c];rw[List.drop_length]at P;refine wW ?_;rw[P];simp
def Hw(n:Int)(d:List (List Int))(a b:Int):Nat->Int->Option Int
 |0,_=>none
 |k+1,m=>if(Ip n d a m&&Ip n d m b)=true then some m else Hw n d a b k (m+1)
def GM(n:Int)(d:List (List Int)):Nat->Int->Int->BT
 |0,_,_=>.lf
 |f+1,a,b=>if b=a+1 then .lf else
  match Hw n d a b (b-a-1).toNat (a+1)with
  |some m=>.nd (GM n d f a m) (GM n d f m b)
  |none=>.lf
theorem AM8{n:Int}{d:List (List Int)}{a b:Int}:∀{k:Nat}{m x:Int},Hw n d a b k m=some x->m<=x/\x<m+k
 |0,m,x,h=>by simp[Hw]at h
 |k+1,m,x,h=>by rw[Hw]at h;split at h;injection h with h;omega;have:=AM8 h;omega
theorem OY{n:Int}{d:List (List Int)}:∀{f:Nat}{a b:Int},a<b->((GM n d f a b).n:Int)<=b-a-1
 |0,a,b,h=>by simp only[GM,BT.n];omega
 |f+1,a,b,h=>by rw[GM];split;simp only[BT.n];omega;split;rename_i m H;have:=AM8 H;have c:=OY (n:=n) (d:=d) (f:=f) (a:=a) (b:=m) (by omega);have e:=OY (n:=n) (d:=d) (f:=f) (a:=m) (b:=b) (by omega);simp only[BT.n];omega;simp only[BT.n];omega
theorem V0[HA K]{n:Int}{d:List (List Int)}(c:-1000<=n/\n<=1000)(hd:d.length<=1000)(g:∀r∈d,FE r):∀(f:Nat)(a b:Int),0<=a->a<b->b<=100->b-a<=f->K 601 [.n n,LL d,.n a,.n b] [.s (GM n d f a b).t]
 |0,a,b,h0,B,C,F=>by omega
 |f+1,a,b,h0,B,C,F=>by
  refine qb I601 ?_;by_cases H:b=a+1;have e:GM n d (f+1) a b=.lf:=by rw[GM,if_pos H]
  rw[e];simp(disch:=try exact dV) only[AD,<-H];rfl;obtain⟨k,I⟩:∃k,k=(b-a-1).toNat:=⟨_,rfl⟩;have e:GM n d (f+1) a b=match Hw n d a b k (a+1)with
  |some m=>.nd (GM n d f a m) (GM n d f m b)
  |none=>.lf:=by rw[GM,if_neg H,I]
  rw[e];refine wW ?_;refine AN (λi=>Hw n d a b k (a+1)=Hw n d a b (k-i) (a+1+i)) (λi=>[.n n,LL d,.n a,.n b,.u,.n (a+1+i),.u,.u,.u]) k (by simp) (by simp) (λi hi h=>?_) (λh=>?_);obtain⟨m,o⟩:∃m,m=a+1+(i:Int):=⟨_,rfl⟩;obtain⟨j,G⟩:∃j,k-i=j+1:=⟨k-i-1,by omega⟩;have x:k-(i+1)=j:=by omega
  have l:a+1+((i:Int)+1)=m+1:=by omega
  rw[G,<-o,Hw]at h;rw[<-o,x];have s1:=ASG (K:=K) (n:=n) (a:=a) (b:=m) (d:=d) c (by omega) (by omega) hd g;have s2:=ASG (K:=K) (n:=n) (a:=m) (b:=b) (d:=d) c (by omega) (by omega) hd g
  cases q1:Ip n d a m;rw[q1]at s1 h;refine wW ?_;refine cW s1 ?_;rw[l];exact⟨by simpa using h,rfl⟩;rw[q1]at s1 h
  cases q2:Ip n d m b;rw[q2]at s2 h;refine wW ?_;refine cW s1 ?_;refine cW s2 ?_;rw[l];exact⟨by simpa using h,rfl⟩;rw[q2]at s2 h;have h:Hw n d a b k (a+1)=some m:=by simpa using h
  have J:=V0 c hd g f a m (by omega) (by omega) (by omega) (by omega);have L:=V0 c hd g f m b (by omega) (by omega) (by omega) (by omega);have T:=BT.tl (GM n d f a m);have O:=BT.tl (GM n d f m b);have N:=OY (n:=n) (d:=d) (f:=f) (a:=a) (b:=m) (by omega);have M:=OY (n:=n) (d:=d) (f:=f) (a:=m) (b:=b) (by omega);rw[h];simp only[BT.t];refine wW ?_;refine cW s1 ?_;refine cW s2 ?_;refine cW J ?_;refine cW L ?_;simp;have q:k-k=0:=by omega
  rw[q,Hw]at h;rw[h];exact wZ
def Ij(n:Int)(d:List (List Int)):BT:=GM n d (n-1).toNat 0 (n-1)
theorem Vw{n:Int}{d:List (List Int)}(h:Ck n d=true):(Ij n d).n<=8:=by simp only[Ck,AV]at h;have:=A5.1 h.1.1;have:=OY (n:=n) (d:=d) (f:=(n-1).toNat) (a:=0) (b:=n-1) (by omega);unfold Ij;omega
theorem AOP[HA K]{n:Int}{d:List (List Int)}(a:-1000000000<=n/\n<=1000000000)(hd:d.length<=1000)(h:∀r∈d,FE r):K 593 [.n n,LL d] [.s (if Ck n d=true then(Ij n d).t else []),.b (Ck n d)]:=by
 have k:=AI1 (K:=K) a hd h;refine qw I593 ?_;refine cB k ?_
 cases H:Ck n d;exact wZ;have e:2<=n/\n<=10:=by simp only[Ck,AV]at H;exact A5.1 H.1.1
 have c:=V0 (K:=K) (n:=n) (d:=d) (by omega) hd h (n-1).toNat 0 (n-1) (by omega) (by omega) (by omega) (by omega);refine wW ?_;exact cZ c
end Go.Cat
