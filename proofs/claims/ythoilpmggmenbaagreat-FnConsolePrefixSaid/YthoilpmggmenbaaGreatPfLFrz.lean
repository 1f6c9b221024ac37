/-
 FriezeLine answers as the reference does.
-/
import Derived.Test.YthoilpmggmenbaaGreatPfFrzS
set_option linter.unusedSimpArgs false
set_option linter.unusedVariables false
namespace Go.Cat
variable{K:Nat->List D->List D->Prop}
def Gp(q:List Int):Nat->List Nat
 |0=>[102,114,105,101,122,101]
 |k+1=>Gp q k++[32]++EP (BJ q (k+1))
open Classical in
noncomputable def IT(q:List Int):List Nat:=if Fc q=true then Gp q (q.length-1)++[32,115,117,109,32]++AQ (FA (Bl q (q.length+1)))else []
theorem Xf{q:List Int}{r:Nat}(h:OM q (q.length+1))(a:r<q.length+1):HQ (BJ q r):=by intro x H;simp only[BJ,List.mem_map,List.mem_range]at H;obtain⟨i,hi,rfl⟩:=H;have:=h r a i;omega
theorem Mx{q:List Int}(h:OM q (q.length+1))(b:q.length<=10):∀k,k<q.length+1->(Gp q k).length<=6+k*215
 |0,_=>by simp[Gp]
 |k+1,a=>by have:=Mx h b k (by omega);have H:=JN (Xf h a);rw[EU]at H;simp only[Gp,AW,AP,A5];omega
theorem Un{R:List (List Int)}(h:PA R):0<=FA R/\FA R<=11000000:=by have:=VW h R.length;rwa [List.take_length]at this
open Classical in
theorem AaU[HA K]{q:List Int}(H:D5 q=true)(f:GB q):K 182 [LL (Bl q (q.length+1))] [.b true]:=by have h:=AJK (K:=K) H (Jt H f);rwa [decide_eq_true f]at h
theorem AY4(q:List Int):(IT q).length<=100000:=by unfold IT;split;rename_i a;obtain⟨h,f⟩:=QK.1 a;obtain⟨c,e,H⟩:=Gi.1 h;have s:=Mx (Ls h (Jt h f)) H (q.length-1) (by omega);have b:=Un (Wb h f);have l:=Aw (n:=FA (Bl q (q.length+1))) (by omega);simp only[AW,AP,A5];omega;simp
theorem AeC[HA K]{q:List Int}(h:q.length<=1048576):K 113 [LI q] [.s (IT q)]:=by
 refine qw I113 ?_;refine cB (ff_s h) ?_
 cases hq:Fc q;refine wW ?_;simp[IT,hq];obtain⟨a,f⟩:=QK.1 hq;obtain⟨C,F,i⟩:=Gi.1 a;have H:=Ls a (Jt a f);have e:G6 q=Bl q (q.length+1):=by unfold G6;rw[if_pos ⟨a,f⟩]
 have l:(Bl q (q.length+1)).length=q.length+1:=JO;rw[e];refine wW ?_;refine Ah (λk (s:List Nat)=>s=Gp q k) (λk s=>[.u,.u,LL (Bl q (q.length+1)),.u,.s s,.n ((k:Int)+1),.u,.u]) (q.length-1) _ rfl rfl (λk s G P=>?_) (λs P=>?_);have x:AG (Bl q (q.length+1)) ((k:Int)+1)=BJ q (k+1):=KB (r:=k+1) (by omega);have j:=Xf (r:=k+1) H (by omega);have I:(BJ q (k+1)).length=q.length:=EU;have J:=JN j;have g:=Mx H i k (by omega);rw[<-P]at g;simp(disch:=try exact dV) only[AD,x];refine cW (QU (by omega) j) ?_;refine⟨_,?_,rfl⟩;rw[P,Gp];have g:=Mx H i (q.length-1) (by omega);rw[<-P]at g;have b:=Wb a f;have B:=Un b;have c:=AaU (K:=K) a f;have o:=Aw (n:=FA (Bl q (q.length+1))) (by omega);refine wW ?_;refine cW (AiB b c) ?_;refine cW (CB (by omega)) ?_;rw[IT,if_pos hq,P]
theorem AUR{q:List Int}(h:3<=q.length):(sub (Bl q (q.length+1)) 1 (q.length:Int)).length=q.length-1/\∀k:Nat,k<q.length-1->AG (sub (Bl q (q.length+1)) 1 (q.length:Int)) k=BJ q (k+1):=by refine⟨by rw[J6,JO];omega,λk H=>?_⟩;have:AG (Bl q (q.length+1)) ((k+1:Nat):Int)=BJ q (k+1):=KB (by omega);rw[<-this];simp only[AG,sub,BM,Ap,List.getElem?_drop,List.getElem?_take];rw[show Int.toNat 1+k=k+1 by simp;omega,if_pos (by omega)]
theorem AcM{s a b:List Nat}:glue s [a,b]=a++s++b:=by simp[glue,BH,AF]
theorem AVM{a b:List Nat}:DK [.s a,.s b]=some (LS [a,b]):=rfl
theorem AZF[HA K][Hk K]{q:List Int}(h:q.length<=1048576):K 114 [LI q] [.s (IT q)]:=by
 refine qw I114 ?_;refine cB (ff_i h) ?_
 cases hq:Fc q;refine wW ?_;simp[IT,hq];obtain⟨b,f⟩:=QK.1 hq;obtain⟨J,x,j⟩:=Gi.1 b;have H:=Ls b (Jt b f);have e:G6 q=Bl q (q.length+1):=by unfold G6;rw[if_pos ⟨b,f⟩]
 have B:(Bl q (q.length+1)).length=q.length+1:=JO;obtain⟨sl,sa⟩:=AUR x;rw[e];have o:((Bl q (q.length+1)).length:Int)-1=q.length:=by omega
 simp(disch:=try exact dV) only[AD,o];refine Ah (λk (s:List Nat)=>s=Gp q k) (λk s=>[.u,.u,LL (Bl q (q.length+1)),.u,.s s,.u,.u,LL (sub (Bl q (q.length+1)) 1 (q.length:Int)),.n (q.length-1:Nat),.n k,.u]) (q.length-1) (Gp q 0) rfl (by rw[show(min ((q.length:Int)).toNat (Bl q (q.length+1)).length-Int.toNat 1)=q.length-1 by rw[<-J6,sl]];rfl) (λk s F P=>?_) (λs P=>?_);have G:=sa k F;have l:=Xf (r:=k+1) H (by omega);have L:(BJ q (k+1)).length=q.length:=EU;have M:=JN l;have i:=Mx H j k (by omega);rw[<-P]at i;simp(disch:=try exact dV) only[AD,G];refine cB (PY (by omega) l) ?_;simp(disch:=try exact dV) only[AD,AVM];have a:=IM (K:=K) (ws:=[s,EP (BJ q (k+1))]) (by simp) (by simp;omega);refine cW a ?_;refine⟨_,?_,rfl⟩;rw[AcM,P,Gp];have i:=Mx H j (q.length-1) (by omega);rw[<-P]at i;have c:=Wb b f;have I:=Un c;have g:=AVL (K:=K) b f;have C:=Aw (n:=FA (Bl q (q.length+1))) (by omega);refine wW ?_;refine cW (AkX c g) ?_;refine cB (C8 (by omega)) ?_;simp(disch:=try exact dV) only[AD,VY];have a:=IM (K:=K) (ws:=[s,[115,117,109],AQ (FA (Bl q (q.length+1)))]) (by simp) (by simp;omega);refine cW a ?_;rw[IT,if_pos hq,P,XJ];simp
end Go.Cat
namespace Go.Cat
variable{K:Nat->List D->List D->Prop}
def Ge(s:List Nat):List Nat:=s.map (GF 40 117 100)
def FM(s:List Nat):Bool:=only 40 41 s&&AK (Ge s)
def FO(s:List Nat):List Nat:=if FM s=true then Ge s else []
theorem P0{s:List Nat}:(Ge s).length=s.length:=by simp[Ge]
theorem AdH{s:List Nat}{i:Nat}(h:i<s.length):Ge (s.take (i+1))=Ge (s.take i)++[GF 40 117 100 (AH s i)]:=by rw[XL h];simp[Ge]
theorem AgH{w:List Nat}(hd:AK w=true):FM (Cv w)=true/\FO (Cv w)=w:=by
 have h:=Pj hd;have e:Ge (Cv w)=w:=WZ h;have:FM (Cv w)=true:=by simp[FM,WO h,e,hd]
 exact⟨this,by simp[FO,this,e]⟩
theorem AkY[HA K]{s:List Nat}(l:s.length<=1000000000):K 515 [.s s] [.s (FO s),.b (FM s)]:=by
 have k:=Wq (K:=K) (w:=s) (a:=40) (b:=41) (c:=117) (d:=100) (by omega) (by omega) (by omega);refine qw AA3 ?_;refine cB k ?_;have H:=P0 (s:=s);have e:s.map (GF 40 117 100)=Ge s:=rfl;by_cases h:only 40 41 s=true
 .simp(disch:=omega) only[AD,h,e];repeat refine cW (Bz (by omega)) ?_
  by_cases hd:AK (Ge s)=true;simp(disch:=omega) only[AD,hd];simp[FO,FM,h,hd];simp(disch:=omega) only[AD,hd];simp[FO,FM,h,hd]
 simp(disch:=omega) only[AD,h];simp[FO,FM,h]
theorem Ac6{s:List Nat}{i:Nat}(h:i<s.length)(H:AH s i≠40)(a:AH s i≠41):only 40 41 s=false:=by
 cases hc:only 40 41 s;rfl;have b:AH s i∈s:=by simp[AH,h]
 have:=Ao.1 hc _ b;simp[H,a]at this
theorem AhA[HA K]{s:List Nat}(k:s.length<=1000000000):K 320 [.s s] [.s (FO s),.b (FM s)]:=by
 refine qw ALQ ?_;by_cases f:s.length<=16
 .refine AN (λi=>∀j:Nat,j<i->AH s j=40\/AH s j=41) (λi=>[.s s,.u,.u,.s (Ge (s.take i)),.n i,.u,.u,.u,.u,.u]) s.length (by simp) (by simp[Ge]) (λi hi P=>?_) (λP=>?_);have o:(Ge (s.take i)).length=i:=by rw[P0];simp;omega
  have es:=AdH hi;rw[es];by_cases a:AH s i=40;simp(disch:=try exact dV) only[AD,a];refine⟨λj H=>?_,rfl⟩;rcases BQ j i with q|q;exact P j q;obtain rfl:j=i:=by omega
  exact .inl a;by_cases c:AH s i=41;simp(disch:=try exact dV) only[AD,c];refine⟨λj H=>?_,rfl⟩;rcases BQ j i with q|q;exact P j q;obtain rfl:j=i:=by omega
  exact .inr c;have h:=Ac6 hi a c;refine wW ?_;simp[FO,FM,h];have h:only 40 41 s=true:=by refine Ao.2 λx g=>?_;obtain⟨j,H,rfl⟩:=List.mem_iff_getElem.1 g;have:=P j H;simpa[AH,H]using this
  have B:=P0 (s:=s);rw[List.take_length];refine wW ?_;repeat refine cW (Bu (by omega)) ?_
  by_cases hd:AK (Ge s)=true;simp(disch:=try exact dV) only[AD,hd];simp[FO,FM,h,hd];simp(disch:=try exact dV) only[AD,hd];simp[FO,FM,h,hd]
 have h:FM s=false:=by cases e:FM s;rfl;simp only[FM,AV]at e;have:=(Af e.2).l;rw[P0]at this;omega
 refine AN (λ_=>True) (λ_=>[.s s,.u,.u,.s [],.n 0,.u,.u,.u,.u,.u]) 0 trivial rfl (λi hi _=>absurd hi (by omega)) (λ_=>?_);refine wW ?_;simp[FO,h]
theorem TR[HA K]:∀{x:BT},x.n<=100000->K 583 [x.d] [.s x.p]
 |.lf,_=>by refine qb ASS ?_;simp only[BT.d,BT.p];exact wZ
 |.nd l r,h=>by have H:=h;simp only[BT.n]at H;have k:=TR (x:=l) (by omega);have a:=TR (x:=r) (by omega);have T:=BT.pl l;have b:=BT.pl r;refine qb ASS ?_;simp only[BT.d,BT.p];simp(disch:=try exact dV) only[AD,BT.Dg,Ks];refine cB k ?_;simp(disch:=try exact dV) only[AD,BT.Dg];refine cW a ?_;simp
theorem AbS[HA K]{x:BT}(h:x.n<=8):K 560 [.s x.t] [.s x.p,.b true]:=by refine qw AE4 ?_;refine cB (Kz h) ?_;simp(disch:=omega) only[AD,BT.Dg];exact cZ (TR (by omega))
theorem AkH[HA K]{s:List Nat}(h:Az s=false):K 560 [.s s] [.s [],.b false]:=by refine qw AE4 ?_;refine cW (TH h) ?_;exact cZ (TR (x:=.lf) (by simp[BT.n]))
theorem XA[HA K]:∀{x:BT},x.n<=100000->K 592 [.s x.t] [.s x.p]
 |.lf,_=>by refine qb AJB ?_;simp only[BT.t,BT.p];exact wZ
 |.nd a b,h=>by have H:=h;simp only[BT.n]at H;have g:=XA (x:=a) (by omega);have i:=XA (x:=b) (by omega);have T:=BT.tl a;have B:=BT.tl b;have P:=BT.pl a;have q:=BT.pl b;have l:=Hx (a:=a) (b:=b);have c:=J3 (a:=a) (b:=b);have k:=JD (K:=K) (a:=a) (b:=b) (by omega);have e:=Lc (a:=a) (b:=b);have f:=J9 (a:=a) (b:=b) (j:=(BT.nd a b).t.length-1) rfl;simp only[BT.p];generalize o:(BT.nd a b).t=w at l c f k e;refine qb AJB ?_;simp(disch:=try exact dV) only[AD,e];refine cB k ?_;simp(disch:=try exact dV) only[AD,c];refine cB g ?_;simp(disch:=try exact dV) only[AD,f];refine cW i ?_;simp
theorem WN[HA K]{x:BT}(h:x.n<=8):K 577 [.s x.t] [.s x.p,.b true]:=by refine qw ANH ?_;refine cB Ev ?_;simp(disch:=omega) only[AD,GN h];exact cZ (XA (by omega))
theorem ABD[HA K]{s:List Nat}(h:Az s=false):K 577 [.s s] [.s [],.b false]:=by refine qw ANH ?_;refine cB Ev ?_;simp(disch:=omega) only[AD,h]
end Go.Cat
namespace Go.Cat
variable{K:Nat->List D->List D->Prop}
def FV(x:List Int):Prop:=x.length=2/\(-1000<=AB x 0/\AB x 0<=1000)/\(-1000<=AB x 1/\AB x 1<=1000)
def Du(a b:List Int):Bool:=(decide (AB a 0<AB b 0)&&(decide (AB b 0<AB a 1)&&decide (AB a 1<AB b 1)))||(decide (AB b 0<AB a 0)&&(decide (AB a 0<AB b 1)&&decide (AB b 1<AB a 1)))
theorem RB[HA K]{a b:List Int}(g:FV a)(i:FV b):K 603 [LI a,LI b] [.b (Du a b)]:=by obtain⟨j,_,_⟩:=g;obtain⟨b1,_,_⟩:=i;refine qw I603 ?_;by_cases h:AB a 0<AB b 0;by_cases H:AB b 0<AB a 1;by_cases e:AB a 1<AB b 1;refine wW ?_;simp[Du,h,H,e];refine wW ?_;simp[Du,h,H,e];omega;refine wW ?_;simp[Du,h,H];omega;by_cases c:AB b 0<AB a 0;by_cases f:AB a 0<AB b 1;refine wW ?_;simp[Du,h,c,f];refine wW ?_;simp[Du,h,c,f];refine wW ?_;simp[Du,h,c]
def EH(n:Int)(r:List Int):Bool:=AR 0 (n-1) (AB r 0)&&AR (AB r 0+2) (n-1) (AB r 1)&&!(decide (AB r 0=0)&&decide (AB r 1=n-1))
def DG(n:Int):List (List Int)->List (List Int)->Bool
 |_,[]=>true
 |done,r::t=>EH n r&&(decide (done.length=0)||CC (AG done ((done.length:Int)-1)) r)&&done.all (λq=>!Du q r)&&DG n (done++[r]) t
def Cp(n:Int)(d:List (List Int)):Bool:=AR 2 10 n&&decide ((d.length:Int)=max 0 (n-3))&&DG n [] d
theorem AQ0{d:List (List Int)}{i:Nat}(h:i<d.length):d.take (i+1)=d.take i++[AG d i]:=by rw[CQ h];simp[AG,h]
theorem MC{d:List (List Int)}{i:Nat}(h:i<d.length):d.drop i=AG d i::d.drop (i+1):=by rw[List.drop_eq_getElem_cons h];simp[AG,h]
theorem ADJ{n:Int}{d:List (List Int)}{i:Nat}(h:i<d.length):DG n (d.take i) (d.drop i)=(EH n (AG d i)&&(decide (i=0)||CC (AG d ((i:Int)-1)) (AG d i))&&(d.take i).all (λq=>!Du q (AG d i))&&DG n (d.take (i+1)) (d.drop (i+1))):=by
 have l:(d.take i).length=i:=by simp;omega
 rw[MC h,DG,<-AQ0 h,l];by_cases h0:i=0;simp[h0];have e:AG (d.take i) ((i:Int)-1)=AG d ((i:Int)-1):=by
  have a:((i:Int)-1).toNat=i-1:=by omega
  simp only[AG,a,Ap,List.getElem?_take];rw[if_pos (by omega)]
 rw[e]
theorem AK1[HA K]{n:Int}{d:List (List Int)}(hn:-1000000000<=n/\n<=1000000000)(hd:d.length<=1000)(h:∀r∈d,FV r):K 600 [.n n,LL d] [.b (Cp n d)]:=by
 have M:=Bt (K:=K) (x:=n) (a:=2) (b:=10);have c:∀i:Nat,i<d.length->FV (AG d i):=λi hi=>h _ (HR hi);refine qb I600 ?_
 cases Q:AR 2 10 n;rw[Q]at M;refine wW ?_;refine cW M ?_;simp[Cp,Q];rw[Q]at M;have qb:=A7.1 Q;by_cases W:(d.length:Int)=max 0 (n-3);have Y:Cp n d=DG n [] d:=by simp[Cp,Q,W]
 rw[Y];refine wW ?_;refine cW M ?_;refine AN (λi=>DG n [] d=DG n (d.take i) (d.drop i)) (λi=>[.n n,LL d,.u,.n i,.u,.u,.u,.u,.u,.u,.u]) d.length (by simp) rfl (λi hi H=>?_) (λH=>?_);rw[ADJ hi]at H;have J:=c i hi;obtain⟨r,h⟩:∃r,r=AG d i:=⟨_,rfl⟩;rw[<-h]at H J;obtain⟨G,R,T⟩:=J;have j:=Bt (K:=K) (x:=AB r 0) (a:=0) (b:=n-1);have B:=Bt (K:=K) (x:=AB r 1) (a:=AB r 0+2) (b:=n-1)
 cases N:AR 0 (n-1) (AB r 0);rw[N]at j;have I:EH n r=false:=by simp[EH,N]
 rw[I]at H;simp(disch:=omega) only[AD,<-h];refine cB j ?_;simp(disch:=omega) only[AD,<-h];rw[H];simp;rw[N]at j
 cases O:AR (AB r 0+2) (n-1) (AB r 1);rw[O]at B;have I:EH n r=false:=by simp[EH,O]
 rw[I]at H;simp(disch:=omega) only[AD,<-h];refine cB j ?_;simp(disch:=omega) only[AD,<-h];refine cB B ?_;simp(disch:=omega) only[AD,<-h];rw[H];simp;rw[O]at B;by_cases F:AB r 0=0/\AB r 1=n-1;have I:EH n r=false:=by simp[EH,F.1,F.2]
 rw[I]at H;simp(disch:=omega) only[AD,<-h];refine cB j ?_;simp(disch:=omega) only[AD,<-h];refine cB B ?_;simp(disch:=omega) only[AD,<-h,F.1,F.2];rw[H];simp;have Z:EH n r=true:=by by_cases P:AB r 0=0;have V:¬AB r 1=n-1:=λq=>F ⟨P,q⟩;simp[EH,N,O,V];simp[EH,N,O,P]
 rw[Z,Bool.true_and]at H;by_cases P:AB r 0=0;have V:¬AB r 1=n-1:=λq=>F ⟨P,q⟩;by_cases L:i=0;have H:DG n [] d=((d.take i).all (λq=>!Du q r)&&DG n (d.take (i+1)) (d.drop (i+1))):=by rw[H];simp[L]
 simp(disch:=omega) only[AD,<-h];refine cB j ?_;simp(disch:=omega) only[AD,<-h];refine cB B ?_;simp(disch:=omega) only[AD,<-h,P];refine AN (λk=>DG n [] d=((((d.take i).drop k).all λq=>!Du q r)&&DG n (d.take (i+1)) (d.drop (i+1)))) (λk=>[.n n,LL d,.u,.n i,.n k,.u,.u,.u,.u,.u,.u]) i (by simpa using H) (by simp) (λk s C=>?_) (λC=>?_);have g:k<(d.take i).length:=by simp;omega
 have o:AG (d.take i) k=AG d k:=by simp only[AG,BM,Ap,List.getElem?_take];rw[if_pos s]
 rw[MC g,o,List.all_cons]at C;have f:=RB (K:=K) (a:=AG d k) (b:=r) (c k (by omega)) ⟨G,R,T⟩
 cases hx:Du (AG d k) r;rw[hx]at f C;simp(disch:=omega) only[AD,<-h];refine cW f ?_;simpa using C;rw[hx]at f C;simp(disch:=omega) only[AD,<-h];refine cW f ?_;rw[C];simp;have e:(d.take i).drop i=[]:=List.drop_eq_nil_of_le (by simp;omega);rw[e]at C;refine wW ?_;simpa using C;have l:=W9 (K:=K) (x:=AG d ((i-1:Nat):Int)) (y:=r) (c (i-1) (by omega)).1 G;have U:((i-1:Nat):Int)=(i:Int)-1:=by omega
 rw[U]at l;have H:DG n [] d=(CC (AG d ((i:Int)-1)) r&&((d.take i).all (λq=>!Du q r)&&DG n (d.take (i+1)) (d.drop (i+1)))):=by rw[H];simp[L,Bool.and_assoc]
 cases hlt:CC (AG d ((i:Int)-1)) r;rw[hlt]at l H;simp(disch:=omega) only[AD,<-h];refine cB j ?_;simp(disch:=omega) only[AD,<-h];refine cB B ?_;simp(disch:=omega) only[AD,<-h,P];refine cW l ?_;rw[H];simp;rw[hlt,Bool.true_and]at H;rw[hlt]at l;simp(disch:=omega) only[AD,<-h];refine cB j ?_;simp(disch:=omega) only[AD,<-h];refine cB B ?_;simp(disch:=omega) only[AD,<-h,P];refine cW l ?_;refine AN (λk=>DG n [] d=((((d.take i).drop k).all λq=>!Du q r)&&DG n (d.take (i+1)) (d.drop (i+1)))) (λk=>[.n n,LL d,.u,.n i,.n k,.u,.u,.u,.u,.u,.u]) i (by simpa using H) (by simp) (λk s C=>?_) (λC=>?_);have g:k<(d.take i).length:=by simp;omega
 have o:AG (d.take i) k=AG d k:=by simp only[AG,BM,Ap,List.getElem?_take];rw[if_pos s]
 rw[MC g,o,List.all_cons]at C;have f:=RB (K:=K) (a:=AG d k) (b:=r) (c k (by omega)) ⟨G,R,T⟩
 cases hx:Du (AG d k) r;rw[hx]at f C;simp(disch:=omega) only[AD,<-h];refine cW f ?_;simpa using C;rw[hx]at f C;simp(disch:=omega) only[AD,<-h];refine cW f ?_;rw[C];simp;have e:(d.take i).drop i=[]:=List.drop_eq_nil_of_le (by simp;omega);rw[e]at C;refine wW ?_;simpa using C;by_cases L:i=0;have H:DG n [] d=((d.take i).all (λq=>!Du q r)&&DG n (d.take (i+1)) (d.drop (i+1))):=by rw[H];simp[L]
 simp(disch:=omega) only[AD,<-h];refine cB j ?_;simp(disch:=omega) only[AD,<-h];refine cB B ?_;simp(disch:=omega) only[AD,<-h];refine AN (λk=>DG n [] d=((((d.take i).drop k).all λq=>!Du q r)&&DG n (d.take (i+1)) (d.drop (i+1)))) (λk=>[.n n,LL d,.u,.n i,.n k,.u,.u,.u,.u,.u,.u]) i (by simpa using H) (by simp) (λk s C=>?_) (λC=>?_);have g:k<(d.take i).length:=by simp;omega
 have o:AG (d.take i) k=AG d k:=by simp only[AG,BM,Ap,List.getElem?_take];rw[if_pos s]
 rw[MC g,o,List.all_cons]at C;have f:=RB (K:=K) (a:=AG d k) (b:=r) (c k (by omega)) ⟨G,R,T⟩
 cases hx:Du (AG d k) r;rw[hx]at f C;simp(disch:=omega) only[AD,<-h];refine cW f ?_;simpa using C;rw[hx]at f C;simp(disch:=omega) only[AD,<-h];refine cW f ?_;rw[C];simp;have e:(d.take i).drop i=[]:=List.drop_eq_nil_of_le (by simp;omega);rw[e]at C;refine wW ?_;simpa using C;have l:=W9 (K:=K) (x:=AG d ((i-1:Nat):Int)) (y:=r) (c (i-1) (by omega)).1 G;have U:((i-1:Nat):Int)=(i:Int)-1:=by omega
 rw[U]at l;have H:DG n [] d=(CC (AG d ((i:Int)-1)) r&&((d.take i).all (λq=>!Du q r)&&DG n (d.take (i+1)) (d.drop (i+1)))):=by rw[H];simp[L,Bool.and_assoc]
 cases hlt:CC (AG d ((i:Int)-1)) r;rw[hlt]at l H;simp(disch:=omega) only[AD,<-h];refine cB j ?_;simp(disch:=omega) only[AD,<-h];refine cB B ?_;simp(disch:=omega) only[AD,<-h];refine cW l ?_;rw[H];simp;rw[hlt,Bool.true_and]at H;rw[hlt]at l;simp(disch:=omega) only[AD,<-h];refine cB j ?_;simp(disch:=omega) only[AD,<-h];refine cB B ?_;simp(disch:=omega) only[AD,<-h];refine cW l ?_;refine AN (λk=>DG n [] d=((((d.take i).drop k).all λq=>!Du q r)&&DG n (d.take (i+1)) (d.drop (i+1)))) (λk=>[.n n,LL d,.u,.n i,.n k,.u,.u,.u,.u,.u,.u]) i (by simpa using H) (by simp) (λk s C=>?_) (λC=>?_);have g:k<(d.take i).length:=by simp;omega
 have o:AG (d.take i) k=AG d k:=by simp only[AG,BM,Ap,List.getElem?_take];rw[if_pos s]
 rw[MC g,o,List.all_cons]at C;have f:=RB (K:=K) (a:=AG d k) (b:=r) (c k (by omega)) ⟨G,R,T⟩
 cases hx:Du (AG d k) r;rw[hx]at f C;simp(disch:=omega) only[AD,<-h];refine cW f ?_;simpa using C;rw[hx]at f C;simp(disch:=omega) only[AD,<-h];refine cW f ?_;rw[C];simp;have e:(d.take i).drop i=[]:=List.drop_eq_nil_of_le (by simp;omega);rw[e]at C;refine wW ?_;simpa using C;refine wW ?_;rw[H];simp[DG];refine wW ?_;refine cW M ?_;simp[Cp,Q,W]
def Ic(n:Int)(d:List (List Int))(a b:Int):Bool:=(decide (b=a+1)||(decide (a=0)&&decide (b=n-1)))||d.any (λr=>decide (AB r 0=a)&&decide (AB r 1=b))
theorem AMV[HA K]{n a b:Int}{d:List (List Int)}(I:-1000<=n/\n<=1000)(B:-1000<=a/\a<=1000)(F:-1000<=b/\b<=1000)(hd:d.length<=1000)(x:∀r∈d,FV r):K 604 [.n n,LL d,.n a,.n b] [.b (Ic n d a b)]:=by
 have e:∀i:Nat,i<d.length->FV (AG d i):=λi hi=>x _ (HR hi);refine qb I604 ?_;by_cases g:b=a+1;simp(disch:=omega) only[AD,<-g];simp[Ic,g];by_cases f:a=0/\b=n-1;simp(disch:=omega) only[AD,f.1,f.2];simp[Ic,f.1,f.2];have l:Ic n d a b=d.any (λr=>decide (AB r 0=a)&&decide (AB r 1=b)):=by by_cases j:a=0;have k:¬b=n-1:=λq=>f ⟨j,q⟩;simp[Ic,g,k];simp[Ic,g,j]
 rw[l];by_cases j:a=0;have k:¬b=n-1:=λq=>f ⟨j,q⟩;refine wW ?_;refine AN (λi=>d.any (λr=>decide (AB r 0=a)&&decide (AB r 1=b))=(d.drop i).any (λr=>decide (AB r 0=a)&&decide (AB r 1=b))) (λi=>[.u,LL d,.n a,.n b,.u,.n i,.u,.u,.u]) d.length (by simp) (by simp) (λi hi P=>?_) (λP=>?_);have H:=e i hi;obtain⟨r,h⟩:∃r,r=AG d i:=⟨_,rfl⟩;rw[MC hi,List.any_cons]at P;rw[<-h]at P H;obtain⟨s,G,o⟩:=H;by_cases c:AB r 0=a;by_cases C:AB r 1=b;simp(disch:=omega) only[AD,<-h,c,C];rw[P];simp[c,C];simp(disch:=omega) only[AD,<-h,c];rw[P];simp[C];simp(disch:=omega) only[AD,<-h];rw[P];simp[c];rw[List.drop_length]at P;refine wW ?_;rw[P];simp;refine wW ?_;refine AN (λi=>d.any (λr=>decide (AB r 0=a)&&decide (AB r 1=b))=(d.drop i).any (λr=>decide (AB r 0=a)&&decide (AB r 1=b))) (λi=>[.u,LL d,.n a,.n b,.u,.n i,.u,.u,.u]) d.length (by simp) (by simp) (λi hi P=>?_) (λP=>?_);have H:=e i hi;obtain⟨r,h⟩:∃r,r=AG d i:=⟨_,rfl⟩;rw[MC hi,List.any_cons]at P;rw[<-h]at P H;obtain⟨s,G,o⟩:=H;by_cases c:AB r 0=a;by_cases C:AB r 1=b;simp(disch:=omega) only[AD,<-h,c,C];rw[P];simp[c,C];simp(disch:=omega) only[AD,<-h,c];rw[P];simp[C];simp(disch:=omega) only[AD,<-h];rw[P];simp[c];rw[List.drop_length]at P;refine wW ?_;rw[P];simp
def IX(n:Int)(d:List (List Int))(a b:Int):Nat->Int->Option Int
 |0,_=>none
 |k+1,m=>if(Ic n d a m&&Ic n d m b)=true then some m else IX n d a b k (m+1)
def GG(n:Int)(d:List (List Int)):Nat->Int->Int->BT
 |0,_,_=>.lf
 |f+1,a,b=>if b=a+1 then .lf else
  match IX n d a b (b-a-1).toNat (a+1)with
  |some m=>.nd (GG n d f a m) (GG n d f m b)
  |none=>.lf
theorem AMK{n:Int}{d:List (List Int)}{a b:Int}:∀{k:Nat}{m x:Int},IX n d a b k m=some x->m<=x/\x<m+k
 |0,m,x,h=>by simp[IX]at h
 |k+1,m,x,h=>by rw[IX]at h;split at h;injection h with h;omega;have:=AMK h;omega
theorem Po{n:Int}{d:List (List Int)}:∀{f:Nat}{a b:Int},a<b->((GG n d f a b).n:Int)<=b-a-1
 |0,a,b,h=>by simp only[GG,BT.n];omega
 |f+1,a,b,h=>by rw[GG];split;simp only[BT.n];omega;split;rename_i m H;have:=AMK H;have c:=Po (n:=n) (d:=d) (f:=f) (a:=a) (b:=m) (by omega);have e:=Po (n:=n) (d:=d) (f:=f) (a:=m) (b:=b) (by omega);simp only[BT.n];omega;simp only[BT.n];omega
theorem U7[HA K]{n:Int}{d:List (List Int)}(c:-1000<=n/\n<=1000)(hd:d.length<=1000)(g:∀r∈d,FV r):∀(f:Nat)(a b:Int),0<=a->a<b->b<=100->b-a<=f->K 601 [.n n,LL d,.n a,.n b] [.s (GG n d f a b).t]
 |0,a,b,h0,B,C,F=>by omega
 |f+1,a,b,h0,B,C,F=>by
  refine qb I601 ?_;by_cases H:b=a+1;have e:GG n d (f+1) a b=.lf:=by rw[GG,if_pos H]
  rw[e];simp(disch:=try exact dV) only[AD,<-H];rfl;obtain⟨k,I⟩:∃k,k=(b-a-1).toNat:=⟨_,rfl⟩;have e:GG n d (f+1) a b=match IX n d a b k (a+1)with
  |some m=>.nd (GG n d f a m) (GG n d f m b)
  |none=>.lf:=by rw[GG,if_neg H,I]
  rw[e];refine wW ?_;refine AN (λi=>IX n d a b k (a+1)=IX n d a b (k-i) (a+1+i)) (λi=>[.n n,LL d,.n a,.n b,.u,.n (a+1+i),.u,.u,.u]) k (by simp) (by simp) (λi hi h=>?_) (λh=>?_);obtain⟨m,o⟩:∃m,m=a+1+(i:Int):=⟨_,rfl⟩;obtain⟨j,G⟩:∃j,k-i=j+1:=⟨k-i-1,by omega⟩;have x:k-(i+1)=j:=by omega
  have l:a+1+((i:Int)+1)=m+1:=by omega
  rw[G,<-o,IX]at h;rw[<-o,x];have s1:=AMV (K:=K) (n:=n) (a:=a) (b:=m) (d:=d) c (by omega) (by omega) hd g;have s2:=AMV (K:=K) (n:=n) (a:=m) (b:=b) (d:=d) c (by omega) (by omega) hd g
  cases q1:Ic n d a m;rw[q1]at s1 h;refine wW ?_;refine cW s1 ?_;rw[l];exact⟨by simpa using h,rfl⟩;rw[q1]at s1 h
  cases q2:Ic n d m b;rw[q2]at s2 h;refine wW ?_;refine cW s1 ?_;refine cW s2 ?_;rw[l];exact⟨by simpa using h,rfl⟩;rw[q2]at s2 h;have h:IX n d a b k (a+1)=some m:=by simpa using h
  have J:=U7 c hd g f a m (by omega) (by omega) (by omega) (by omega);have L:=U7 c hd g f m b (by omega) (by omega) (by omega) (by omega);have T:=BT.tl (GG n d f a m);have O:=BT.tl (GG n d f m b);have N:=Po (n:=n) (d:=d) (f:=f) (a:=a) (b:=m) (by omega);have M:=Po (n:=n) (d:=d) (f:=f) (a:=m) (b:=b) (by omega);rw[h];simp only[BT.t];refine wW ?_;refine cW s1 ?_;refine cW s2 ?_;refine cW J ?_;refine cW L ?_;simp;have q:k-k=0:=by omega
  rw[q,IX]at h;rw[h];exact wZ
def I2(n:Int)(d:List (List Int)):BT:=GG n d (n-1).toNat 0 (n-1)
theorem XX{n:Int}{d:List (List Int)}(h:Cp n d=true):(I2 n d).n<=8:=by simp only[Cp,AV]at h;have:=A7.1 h.1.1;have:=Po (n:=n) (d:=d) (f:=(n-1).toNat) (a:=0) (b:=n-1) (by omega);unfold I2;omega
theorem AGG[HA K]{n:Int}{d:List (List Int)}(a:-1000000000<=n/\n<=1000000000)(hd:d.length<=1000)(h:∀r∈d,FV r):K 593 [.n n,LL d] [.s (if Cp n d=true then(I2 n d).t else []),.b (Cp n d)]:=by
 have k:=AK1 (K:=K) a hd h;refine qw I593 ?_;refine cB k ?_
 cases H:Cp n d;exact wZ;have e:2<=n/\n<=10:=by simp only[Cp,AV]at H;exact A7.1 H.1.1
 have c:=U7 (K:=K) (n:=n) (d:=d) (by omega) hd h (n-1).toNat 0 (n-1) (by omega) (by omega) (by omega) (by omega);refine wW ?_;exact cZ c
end Go.Cat
