/-
 A search by breadth over rotations: what it reaches.
-/
import Derived.Test.YthoilpmggmenbaaGreatPfRotC
set_option linter.unusedSimpArgs false
set_option linter.unusedVariables false
namespace Go.Cat
theorem Wx:∀{x z:BT}{v:Nat},v<x.n->BB x (v:Nat)=some z->∃u:Nat,u<x.n/\CW z (u:Nat)=some x
 |.lf,_,v,h,_=>by simp[BT.n]at h
 |.nd l r,z,v,h,H=>by
  have f:=h;simp only[BT.n]at f;simp only[BB]at H;rw[if_neg (by omega)]at H;by_cases q:(v:Int)<l.n;rw[if_pos q]at H;obtain⟨y,c,rfl⟩:=Ag.1 H;obtain⟨u,g,e⟩:=Wx (by omega) c;have i:=Fx c;refine⟨u,by simp only[BT.n];omega,?_⟩;simp only[CW];rw[if_neg (by omega),if_pos (by omega),e]<;>rfl;rw[if_neg q]at H;by_cases Q:(v:Int)=l.n;rw[if_pos Q]at H
  cases l with
  |lf=>cases H
  |nd a b=>
   simp only[AL]at H
   subst H
   refine⟨a.n,by simp only[BT.n];omega,?_⟩
   simp only[CW]
   rw[if_neg (by omega),if_neg (by omega),if_pos trivial]
  rw[if_neg Q]at H;obtain⟨y,c,rfl⟩:=Ag.1 H;rw[show(v:Int)-l.n-1=((v-l.n-1:Nat):Int) by omega]at c;obtain⟨u,g,e⟩:=Wx (by omega) c;refine⟨u+l.n+1,by simp only[BT.n];omega,?_⟩;simp only[CW];rw[if_neg (by omega),if_neg (by omega),if_neg (by omega),show((u+l.n+1:Nat):Int)-l.n-1=(u:Nat) by omega,e]<;>rfl
theorem AUI{x z:BT}{v:Nat}(H:v<x.n)(h:BB x (v:Nat)=some z):z∈Df x:=by simp only[Df,CO,A9,List.mem_filterMap,List.mem_range];exact .inl ⟨v,H,h⟩
theorem Aa8{x z:BT}{v:Nat}(H:v<x.n)(h:CW x (v:Nat)=some z):z∈Df x:=by simp only[Df,CO,A9,List.mem_filterMap,List.mem_range];exact .inr ⟨v,H,h⟩
theorem Vz{x z:BT}(h:z∈Df x):z.n=x.n:=by simp only[Df,CO,A9,List.mem_filterMap,List.mem_range]at h;rcases h with⟨v,_,h⟩|⟨v,_,h⟩;exact Fx h;exact L9 h
def G7:Nat->BT
 |0=>.lf
 |n+1=>.nd .lf (G7 n)
theorem YC:∀{n:Nat},(G7 n).n=n
 |0=>rfl
 |n+1=>by simp only[G7,BT.n,YC];omega
theorem AP2:∀{n i:Nat},i<n->AB (G7 n).w (i:Nat)=(n:Int)-1-i
 |0,i,h=>by omega
 |n+1,0,_=>by simp[G7,BT.w,AB,YC]
 |n+1,i+1,h=>by have:=AP2 (n:=n) (i:=i) (by omega);simp[G7,BT.w,AB]at this|-;rw[this];omega
theorem AW1{x:BT}:Gy x (G7 x.n):=by refine⟨YC.symm,λi hi=>?_⟩;have:=HM hi;rw[AP2 hi];omega
theorem V5{P:BT->Prop}(c:∀z u,P z->u∈Df z->P u):∀(k:Nat)(x:BT),(G7 x.n).w.sum-x.w.sum<=k->(P x->P (G7 x.n))/\(P (G7 x.n)->P x)
 |k,x,j=>by
  by_cases q:x=G7 x.n;rw[<-q];exact⟨id,id⟩;obtain⟨v,z,a,H,l⟩:=AGD (x:=x) (y:=G7 x.n) AW1 (λe=>q (Ty e));have f:=AOC a H;have g:=XG l;have b:=Fx H;obtain⟨u,o,e⟩:=Wx a H
  cases k with
  |zero=>omega
  |succ k=>
   have i:=V5 c k z (by rw[b];omega)
   rw[b]at i
   exact⟨λh=>i.1 (c _ _ h (AUI a H)),λh=>c _ _ (i.2 h) (Aa8 (by omega) e)⟩
theorem conn{P:BT->Prop}(h:∀z u,P z->u∈Df z->P u){a b:BT}(e:P a)(f:b.n=a.n):P b:=by have H:=V5 h ((G7 a.n).w.sum-a.w.sum).toNat a (by omega);have c:=V5 h ((G7 b.n).w.sum-b.w.sum).toNat b (by omega);exact c.2 (by rw[f];exact H.1 e)
def Lo:Nat->Nat->List BT
 |0,_=>[]
 |_+1,0=>[.lf]
 |f+1,n+1=>(List.range (n+1)).flatMap λi=>(Lo f i).flatMap λl=>(Lo f (n-i)).map λr=>.nd l r
theorem Yk:∀{x:BT}{f:Nat},x.n<f->x∈Lo f x.n
 |.lf,f+1,_=>by simp[BT.n,Lo]
 |.nd l r,f+1,h=>by have H:=h;simp only[BT.n]at H;simp only[BT.n,Lo,List.mem_flatMap,List.mem_range,List.mem_map];refine⟨l.n,by omega,l,Yk (by omega),r,?_,rfl⟩;rw[show l.n+r.n-l.n=r.n by omega];exact Yk (by omega)
theorem AU9:∀n,n<=5->(Lo 6 n).length<=42:=by decide
theorem AJ5:∀{l m:List (List Nat)},l.Nodup->(∀x∈l,x∈m)->l.length<=m.length
 |[],m,_,_=>by simp
 |a::l,m,h,s=>by
  have c:=s a (List.mem_cons_self ..);have b:=List.nodup_cons.1 h;have:=AJ5 (l:=l) (m:=m.erase a) b.2 (λx f=>by
   have H:x≠a:=by rintro rfl;exact b.1 f
   exact(List.mem_erase_of_ne H).2 (s x (BP _ f)))
  have e:=List.length_erase_of_mem c;have:0<m.length:=List.length_pos_of_mem c;simp only[AP];omega
def Am(l:List BT)(i:Nat):BT:=l.getD i .lf
theorem Ii{l:List BT}{i:Nat}(h:i<l.length):Am l i=l[i]:=by simp[Am,h]
theorem Fu{l:List BT}{i:Nat}(h:i<l.length):Am l i∈l:=by rw[Ii h];exact List.getElem_mem h
theorem LQ{l m:List BT}{i:Nat}(h:i<l.length):Am (l++m) i=Am l i:=by simp only[Am,Ap];rw[D4 h]
theorem P1{l m:List Int}{i:Nat}(h:i<l.length):AB (l++m) (i:Nat)=AB l (i:Nat):=by simp only[AB,BM,Ap];rw[D4 h]
theorem G5{l:List BT}{i:Nat}(h:i<l.length):AF (l.map BT.t) (i:Nat)=(Am l i).t:=by simp[AF,Am,h]
def EE(i:Nat)(S:List BT×List Int)(u:BT):List BT×List Int:=if u.t∈S.1.map BT.t then S else(S.1++[u],S.2++[(i:Int)])
def bfR(i:Nat)(S:List BT×List Int):List BT×List Int:=(Df (Am S.1 i)).foldl (EE i) S
def AZ(a:BT):Nat->List BT×List Int
 |0=>([a],[-1])
 |i+1=>bfR i (AZ a i)
def F4(S T:List BT×List Int):Prop:=∃r q,T.1=S.1++r/\T.2=S.2++q
theorem F4.X3{S:List BT×List Int}:F4 S S:=⟨[],[],by simp,by simp⟩
theorem F4.tr{S T U:List BT×List Int}(h:F4 S T)(H:F4 T U):F4 S U:=by obtain⟨r,q,e,a⟩:=h;obtain⟨R,Q,b,c⟩:=H;exact⟨r++R,q++Q,by rw[b,e,CT],by rw[c,a,CT]⟩
theorem AS3{i:Nat}{S:List BT×List Int}{u:BT}:F4 S (EE i S u):=by unfold EE;split;exact F4.X3;exact⟨[u],[(i:Int)],rfl,rfl⟩
theorem SV{i:Nat}:∀{l:List BT}{S:List BT×List Int},F4 S (l.foldl (EE i) S)
 |[],S=>F4.X3
 |_::l,S=>AS3.tr (SV (l:=l))
theorem ASC{a:BT}{i:Nat}:∀{j:Nat},F4 (AZ a i) (AZ a (i+j))
 |0=>F4.X3
 |j+1=>(ASC (j:=j)).tr SV
theorem Ri{a:BT}{i j:Nat}(h:i<=j):F4 (AZ a i) (AZ a j):=by have:=ASC (a:=a) (i:=i) (j:=j-i);rwa [show i+(j-i)=j by omega]at this
structure BI(a:BT)(S:List BT×List Int):Prop where
 len:S.2.length=S.1.length
 ns:∀z∈S.1,z.n=a.n
 nd:(S.1.map BT.t).Nodup
 hd:Am S.1 0=a/\AB S.2 0=-1/\0<S.1.length
 par:∀k:Nat,0<k->k<S.1.length->0<=AB S.2 (k:Nat)/\AB S.2 (k:Nat)<k
theorem BI.add{a:BT}{S:List BT×List Int}{i:Nat}{u:BT}(h:BI a S)(F:u.n=a.n)(hi:i<S.1.length):BI a (EE i S u):=by
 obtain⟨b,c,f,⟨g,j,o⟩,s⟩:=h;unfold EE;split;exact⟨b,c,f,⟨g,j,o⟩,s⟩;rename_i C;refine⟨by simp[b],λz J=>?_,?_,⟨?_,?_,by simp⟩,λk B H=>?_⟩;rcases A9.1 J with q|q;exact c z q;rw[List.mem_singleton.1 q];exact F;simp only[List.map_append,List.map_cons,List.map_nil];refine List.nodup_append.2 ⟨f,by simp,?_⟩;intro x G y I;rw[List.mem_singleton.1 I];rintro rfl;exact C G;rw[LQ o];exact g;have:=P1 (l:=S.2) (m:=[(i:Int)]) (i:=0) (by omega);simp only[Int.ofNat_eq_natCast,Int.natCast_zero]at this;exact this.trans j;simp only[AW,AP,A5]at H;by_cases q:k<S.1.length;rw[P1 (by omega)];exact s k B q;have e:AB (S.2++[(i:Int)]) (k:Nat)=i:=by
  obtain rfl:k=S.2.length:=by omega
  simp[AB]
 rw[e];omega
theorem BI.fold{a:BT}{i:Nat}:∀{l:List BT}{S:List BT×List Int},BI a S->(∀u∈l,u.n=a.n)->i<S.1.length->BI a (l.foldl (EE i) S)
 |[],S,h,_,_=>h
 |u::l,S,h,H,hi=>by refine BI.fold (l:=l) (h.add (H u (List.mem_cons_self ..)) hi) (λx b=>H x (BP _ b)) ?_;obtain⟨r,q,e,_⟩:=AS3 (i:=i) (S:=S) (u:=u);rw[e,AW];omega
theorem AX7:Df .lf=[]:=rfl
theorem JJ{a:BT}:∀i,BI a (AZ a i)
 |0=>⟨rfl,by simp[AZ],by simp[AZ],⟨rfl,rfl,by simp[AZ]⟩,λk h H=>by simp[AZ]at H;omega⟩
 |i+1=>by
  have h:=JJ (a:=a) i;simp only[AZ,bfR];by_cases q:i<(AZ a i).1.length;exact h.fold (λu b=>(Vz b).trans (h.ns _ (Fu q))) q;have e:Am (AZ a i).1 i=.lf:=by simp[Am,Nat.le_of_not_lt q]
  rw[e,AX7];exact h
theorem BI.NI{a:BT}{S:List BT×List Int}(h:BI a S)(c:a.n<=5):S.1.length<=42:=by have b:=AJ5 (l:=S.1.map BT.t) (m:=(Lo 6 a.n).map BT.t) h.nd (λx e=>by obtain⟨z,H,rfl⟩:=List.mem_map.1 e;refine List.mem_map.2 ⟨z,?_,rfl⟩;have:=Yk (x:=z) (f:=6) (by have:=h.ns z H;omega);rw[h.ns z H]at this;exact this);have g:=AU9 a.n c;simp only[List.length_map]at b;omega
theorem AlQ{i:Nat}{S:List BT×List Int}{u:BT}:u.t∈(EE i S u).1.map BT.t:=by unfold EE;split;assumption;simp
theorem F4.mem{S T:List BT×List Int}(h:F4 S T){t:List Nat}(H:t∈S.1.map BT.t):t∈T.1.map BT.t:=by obtain⟨r,q,e,_⟩:=h;rw[e,List.map_append];exact BV _ H
theorem ABV{i:Nat}{u:BT}:∀{l:List BT}{S:List BT×List Int},u∈l->u.t∈(l.foldl (EE i) S).1.map BT.t
 |v::l,S,h=>by rcases A6.1 h with rfl|h;exact(SV (l:=l)).mem AlQ;exact ABV (l:=l) h
theorem Aa2{a:BT}{i j:Nat}(h:j<i)(c:j<(AZ a j).1.length){u:BT}(H:u∈Df (Am (AZ a i).1 j)):u.t∈(AZ a i).1.map BT.t:=by
 obtain⟨r,q,e,_⟩:=Ri (a:=a) (i:=j) (j:=i) (by omega);rw[e,LQ c]at H;have b:u.t∈(AZ a (j+1)).1.map BT.t:=by simp only[AZ,bfR];exact ABV H
 exact(Ri (a:=a) (i:=j+1) (j:=i) (by omega)).mem b
theorem QJ{P:Nat->Prop}:∀{n:Nat},P n->∃m,m<=n/\P m/\∀j,j<m->¬P j
 |n,h=>by by_cases q:∃j,j<n/\P j;obtain⟨j,a,H⟩:=q;obtain⟨m,e,b,c⟩:=QJ H;exact⟨m,by omega,b,c⟩;exact⟨n,Nat.le_refl _,h,λj a H=>q ⟨j,a,H⟩⟩
termination_by n=>n
theorem AYL{a:BT}(x:a.n<=5):∃N,N<=42/\(AZ a N).1.length=N/\(∀j,j<N->j<(AZ a j).1.length)/\∀b:BT,b.n=a.n->b.t∈(AZ a N).1.map BT.t:=by
 obtain⟨N,l,o,g⟩:=QJ (P:=λN=>(AZ a N).1.length<=N) (n:=42) ((JJ 42).NI x);have s:(AZ a N).1.length=N:=by
  have h0:N≠0:=by rintro rfl;simp[AZ]at o
  obtain⟨M,rfl⟩:∃M,N=M+1:=⟨N-1,by omega⟩;have G:=g M (by omega);obtain⟨r,q,e,_⟩:=Ri (a:=a) (i:=M) (j:=M+1) (by omega);have H:(AZ a (M+1)).1.length=(AZ a M).1.length+r.length:=by rw[e,AW]
  omega
 have h:∀j,j<N->j<(AZ a j).1.length:=λj c=>by have:=g j c;omega
 refine⟨N,l,s,h,λb B=>?_⟩;refine conn (P:=λz=>z.t∈(AZ a N).1.map BT.t) (λz u F f=>?_) (a:=a) ?_ B;obtain⟨y,C,e⟩:=List.mem_map.1 F;rw[<-XB e]at f;obtain⟨j,c,k⟩:=List.getElem_of_mem C;rw[<-k,<-Ii c]at f;exact Aa2 (by omega) (h j (by omega)) f;have:=(JJ (a:=a) N).hd;have H:=Fu this.2.2;rw[this.1]at H;exact List.mem_map.2 ⟨a,H,rfl⟩
def Dd(S:List BT×List Int):Nat->Nat->List (List Nat)
 |0,_=>[]
 |f+1,k=>(if AB S.2 (k:Nat)<0 then []else Dd S f (AB S.2 (k:Nat)).toNat)++[(Am S.1 k).t]
theorem TL{S:List BT×List Int}:∀{f k:Nat},(Dd S f k).length<=f
 |0,_=>by simp[Dd]
 |f+1,k=>by simp only[Dd,AW,AP,A5];split;simp;have:=TL (S:=S) (f:=f) (k:=(AB S.2 (k:Nat)).toNat);omega
theorem T8{a:BT}{S:List BT×List Int}(h:BI a S):∀{f k:Nat},k<f->k<S.1.length->Dd S f k=Dd S (k+1) k
 |f+1,k,c,b=>by
  simp only[Dd]
  by_cases q:AB S.2 (k:Nat)<0
  rw[if_pos q,if_pos q]
  rw[if_neg q,if_neg q]
  have H:0<k:=by
   rcases Nat.eq_zero_or_pos k with rfl|h0
   exact absurd (show AB S.2 ((0:Nat):Int)<0 by have:=h.hd.2.1;simp only[Int.ofNat_eq_natCast,Int.natCast_zero];omega) q
   exact h0
  have e:=h.par k H b
  rw[T8 h (f:=f) (by omega) (by omega),T8 h (f:=k) (by omega) (by omega)]
termination_by f=>f
theorem AGP{a:BT}{S T:List BT×List Int}(h:BI a S)(j:F4 S T):∀{f k:Nat},k<S.1.length->Dd S f k=Dd T f k
 |0,_,_=>rfl
 |f+1,k,c=>by
  obtain⟨r,q,e,b⟩:=j
  simp only[Dd]
  have o:=h.len
  have g:AB T.2 (k:Nat)=AB S.2 (k:Nat):=by rw[b,P1 (by omega)]
  have i:Am T.1 k=Am S.1 k:=by rw[e,LQ c]
  rw[g,i]
  by_cases q:AB S.2 (k:Nat)<0
  rw[if_pos q,if_pos q]
  rw[if_neg q,if_neg q]
  have H:0<k:=by
   rcases Nat.eq_zero_or_pos k with rfl|h0
   exact absurd (show AB S.2 ((0:Nat):Int)<0 by have:=h.hd.2.1;simp only[Int.ofNat_eq_natCast,Int.natCast_zero];omega) q
   exact h0
  have l:=h.par k H c
  rw[AGP h ⟨r,_,e,b⟩ (f:=f) (by omega)]
end Go.Cat
namespace Go.Cat
variable{K:Nat->List D->List D->Prop}
theorem AlD{l r:BT}{j:Nat}(h:j<l.n):AB (BT.nd l r).w (j:Nat)=AB l.w (j:Nat):=by rw[<-Bv]at h;simp only[BT.w,CT];exact P1 h
theorem Aj7{l r:BT}{j:Nat}:AB (BT.nd l r).w ((l.n+1+j:Nat):Int)=AB r.w (j:Nat):=by
 have e:(l.w++[(r.n:Int)]).length=l.n+1:=by simp[Bv]
 simp only[BT.w,AB,BM,Ap];rw[GX (by omega),e,Nat.add_sub_cancel_left]
theorem AYE{l r:BT}:sub (BT.nd l r).w 0 (l.n:Nat)=l.w:=by have e:=Bv (x:=l);simp only[BT.w,sub,BM,Int.toNat_zero,List.drop_zero,CT];rw[<-e,List.take_left]
theorem AfU{l r:BT}{k:Nat}(h:k=(BT.nd l r).w.length):sub (BT.nd l r).w ((l.n:Int)+1) (k:Nat)=r.w:=by
 have e:(l.w++[(r.n:Int)]).length=l.n+1:=by simp[Bv]
 have a:((l.n:Int)+1).toNat=l.n+1:=by omega
 subst h;simp only[sub,BM,List.take_length,a];rw[<-e];simp only[BT.w];rw[List.drop_left]
theorem AiN{m:List Int}{i j:Nat}(h:j<i)(hi:i<=m.length):AB (sub m 0 (i:Nat)) (j:Nat)=AB m (j:Nat):=by simp[sub,AB,List.getElem?_take,h]
theorem AiK{m:List Int}{i k j:Nat}(h:k=m.length):AB (sub m ((i:Int)+1) (k:Nat)) (j:Nat)=AB m ((i+1+j:Nat):Int):=by
 subst h;have e:((i:Int)+1).toNat=i+1:=by omega
 simp only[sub,AB,BM,List.take_length,e,Ap,List.getElem?_drop]
theorem U8[HA K]:∀(d:Nat)(m:List Int),m.length=d->d<=8->(∀j:Nat,j<d->0<=AB m (j:Nat)/\AB m (j:Nat)<=8)->∃x:BT,x.n<=d/\K 621 [LI m] [.s x.t]/\∀y:BT,m=y.w->x=y
 |d,m,G,Y,g=>by
  by_cases c:∃i:Nat,i<d/\(d:Int)-1<=i+AB m (i:Nat)
  obtain⟨Z,h0,k⟩:=c
  obtain⟨i,L,⟨B,M⟩,e⟩:=QJ (P:=λi:Nat=>i<d/\(d:Int)-1<=i+AB m (i:Nat)) ⟨h0,k⟩
  have T:(sub m 0 (i:Nat)).length=i:=by simp[sub];omega
  have U:(sub m ((i:Int)+1) (m.length:Nat)).length=d-i-1:=by simp[sub];omega
  obtain⟨I,n1,Q,V⟩:=U8 i (sub m 0 (i:Nat)) T (by omega) (λj f=>by rw[AiN f (by omega)];exact g j (by omega))
  obtain⟨J,n2,R,W⟩:=U8 (d-i-1) (sub m ((i:Int)+1) (m.length:Nat)) U (by omega) (λj f=>by rw[AiK rfl];exact g _ (by omega))
  have t1:=BT.tl I
  have t2:=BT.tl J
  refine⟨.nd I J,by simp only[BT.n];omega,?_,λy h=>?_⟩
  have N:=g i B
  refine qw Zd ?_
  refine AN (λ_=>True) (λi=>[LI m,.u,.n i,.u,.u]) i trivial rfl (λj f _=>?_) (λ_=>?_)
  have F:=g j (by omega)
  have O:¬(d:Int)-1<=j+AB m (j:Nat):=λq=>e j f ⟨by omega,q⟩
  exact wZ
  refine wW ?_
  refine cW Q ?_
  refine cW R ?_
  simp[BT.t]
  have hd:y.n=d:=by rw[<-G,h,Bv]
  cases y with
  |lf=>simp only[BT.n]at hd;omega
  |nd a b=>
   have H:=hd
   simp only[BT.n]at H
   have C:i=a.n:=by
    have o:=Nf (l:=a) (r:=b)
    rw[<-h]at o
    rcases Nat.lt_trichotomy i a.n with q|q|q
    .have:=Rh (l:=a) (r:=b) q
     rw[<-h]at this
     omega
    .exact q
    .exact absurd ⟨by omega,by omega⟩ (e a.n q)
   subst C
   rw[V a (by rw[h];exact AYE),W b (by rw[h];exact AfU rfl)]
  refine⟨.lf,by simp only[BT.n];omega,?_,λy h=>?_⟩
  refine qw Zd ?_
  refine AN (λ_=>True) (λi=>[LI m,.u,.n i,.u,.u]) d trivial rfl (λj f _=>?_) (λ_=>?_)
  have F:=g j (by omega)
  have O:¬(d:Int)-1<=j+AB m (j:Nat):=λq=>c ⟨j,by omega,q⟩
  exact wZ
  exact wZ
  cases y with
  |lf=>rfl
  |nd a b=>
   have hd:(BT.nd a b).n=d:=by rw[<-G,h,Bv]
   have H:=hd
   simp only[BT.n]at H
   have o:=Nf (l:=a) (r:=b)
   rw[<-h]at o
   exact absurd ⟨a.n,by omega,by omega⟩ c
termination_by d=>d
theorem YQ[HA K]:∀(d:Nat)(l:List Int)(f:Nat),f+d<=l.length->l.length<=8->(∀j:Nat,j<l.length->0<=AB l (j:Nat)/\AB l (j:Nat)<=8)->∃x:BT,x.n<=d/\K 622 [LI l,.n f,.n ((f+d:Nat):Int)] [x.d]/\∀y:BT,y.n=d->(∀j:Nat,j<d->AB l ((f+j:Nat):Int)=AB y.w (j:Nat))->x=y
 |d,l,f,W,G,k=>by
  by_cases c:∃i:Nat,i<d/\AB l ((f+i:Nat):Int)=(d:Int)-1-i
  obtain⟨Y,h0,s⟩:=c
  obtain⟨i,M,⟨N,O⟩,e⟩:=QJ (P:=λi:Nat=>i<d/\AB l ((f+i:Nat):Int)=(d:Int)-1-i) ⟨h0,s⟩
  obtain⟨T,Z,Q,U⟩:=YQ i l f (by omega) G k
  obtain⟨V,n2,J,R⟩:=YQ (d-i-1) l (f+i+1) (by omega) G k
  rw[show f+i+1+(d-i-1)=f+d by omega]at J
  refine⟨.nd T V,by simp only[BT.n];omega,?_,λy o h=>?_⟩
  refine qw ASK ?_
  refine AN (λ_=>True) (λi=>[LI l,.n f,.n ((f+d:Nat):Int),.u,.n ((f+i:Nat):Int),.u,.u]) i trivial rfl (λj g _=>?_) (λ_=>?_)
  have F:=k (f+j) (by omega)
  have I:¬AB l ((f+j:Nat):Int)=((f+d:Nat):Int)-1-((f+j:Nat):Int):=λq=>e j g ⟨by omega,by omega⟩
  exact wZ
  have I:AB l ((f+i:Nat):Int)=((f+d:Nat):Int)-1-((f+i:Nat):Int):=by omega
  refine wW ?_
  refine cW Q ?_
  have L:((f+i:Nat):Int)+1=((f+i+1:Nat):Int):=by omega
  rw[L]
  refine cB J ?_
  simp(disch:=try exact dV) only[AD,BT.RI]
  rfl
  cases y with
  |lf=>simp only[BT.n]at o;omega
  |nd a b=>
   have H:=o
   simp only[BT.n]at H
   have C:i=a.n:=by
    have B:=Nf (l:=a) (r:=b)
    rw[<-h a.n (by omega)]at B
    rcases Nat.lt_trichotomy i a.n with q|q|q
    .have:=Rh (l:=a) (r:=b) q
     rw[<-h i (by omega)]at this
     omega
    .exact q
    .exact absurd ⟨by omega,by omega⟩ (e a.n q)
   subst C
   rw[U a rfl (λj g=>by rw[h j (by omega),AlD g]),R b (by omega) (λj g=>by rw[show f+a.n+1+j=f+(a.n+1+j) by omega,h _ (by omega),Aj7])]
  refine⟨.lf,by simp only[BT.n];omega,?_,λy o h=>?_⟩
  refine qw ASK ?_
  refine AN (λ_=>True) (λi=>[LI l,.n f,.n ((f+d:Nat):Int),.u,.n ((f+i:Nat):Int),.u,.u]) d trivial rfl (λj g _=>?_) (λ_=>?_)
  have F:=k (f+j) (by omega)
  have I:¬AB l ((f+j:Nat):Int)=((f+d:Nat):Int)-1-((f+j:Nat):Int):=λq=>c ⟨j,by omega,by omega⟩
  exact wZ
  exact wZ
  cases y with
  |lf=>rfl
  |nd a b=>
   have H:=o
   simp only[BT.n]at H
   have B:=Nf (l:=a) (r:=b)
   rw[<-h a.n (by omega)]at B
   exact absurd ⟨a.n,by omega,by omega⟩ c
termination_by d=>d
theorem AXO[HA K]{l:List Int}(g:l.length<=8)(f:∀j:Nat,j<l.length->0<=AB l (j:Nat)/\AB l (j:Nat)<=(l.length:Int)-1-j):∃r:Option BT,(∀x,r=some x->x.w=l)/\K 620 [LI l] (Em r)/\K 619 [LI l] (Em r):=by
 obtain⟨a,N,k,U⟩:=YQ (K:=K) l.length l 0 (by omega) g (λj H=>by have:=f j H;omega);obtain⟨xs,ns,ks,us⟩:=U8 (K:=K) l.length l rfl g (λj H=>by have:=f j H;omega);have W:=Bv (x:=a);have ws:=Bv (x:=xs);simp only[Nat.zero_add]at k U;refine⟨if a.w=l then some a else none,λx b=>?_,?_,?_⟩;split at b;injection b with b;subst b;assumption
 cases b;refine qw I620 ?_;have o:((0:Nat):Int)=0:=rfl;rw[o]at k;refine cW k ?_;refine cW (KZ (by omega)) ?_;refine cW (Mn (by omega)) ?_;refine cB (ATG (by omega)) ?_;by_cases h:a.w=l;rw[decide_eq_true h,if_pos h];exact wZ;rw[decide_eq_false h,if_neg h];exact wZ;refine qw I619 ?_;refine AN (λ_=>True) (λi=>[LI l,.u,.u,.n i,.u,.u,.u,.u,.u]) l.length trivial rfl (λj H _=>?_) (λ_=>?_);have B:=f j H;have c:AR 0 ((l.length:Int)-1-j) (AB l (j:Nat))=true:=A7.2 (by omega);refine wW ?_;refine cB Bt ?_;rw[c];exact wZ;refine wW ?_;refine cW ks ?_;refine cW (Nh (by omega)) ?_;refine cB (AbH (by omega)) ?_;by_cases h:a.w=l;have e:=us a h.symm;subst e;rw[decide_eq_true h,if_pos h];exact wZ;have s:¬xs.w=l:=by
  intro q;have C:xs.n=l.length:=by rw[<-Bv,q]
  have:=U xs C (λj H=>by rw[<-q]);rw[this]at h;exact h q
 rw[decide_eq_false s,if_neg h];exact wZ
def Ia(x y:BT)(k:Nat):List Int:=(List.range k).map λi:Nat=>min (AB x.w (i:Nat)) (AB y.w (i:Nat))
theorem PN{x y:BT}{k:Nat}:(Ia x y k).length=k:=by simp[Ia]
theorem AeO{x y:BT}{k:Nat}:Ia x y (k+1)=Ia x y k++[min (AB x.w (k:Nat)) (AB y.w (k:Nat))]:=by simp[Ia,List.range_succ]
theorem Zf{x y:BT}{k i:Nat}(h:i<k):AB (Ia x y k) (i:Nat)=min (AB x.w (i:Nat)) (AB y.w (i:Nat)):=by simp[Ia,AB,h]
theorem ZZ[HA K]{x y:BT}(a:x.n<=8)(h:x.n=y.n):∃r:Option BT,(∀z,r=some z->z.n=x.n)/\K 614 [.s x.t,.s y.t] (Em r)/\K 609 [.s x.t,.s y.t] (Em r):=by
 have L:=Bv (x:=x);have I:=Bv (x:=y);obtain⟨r,R,g,ks⟩:=AXO (K:=K) (l:=Ia x y x.n) (by rw[PN];exact a) (λj H=>by rw[PN]at H|-;rw[Zf H];have C:=HM (x:=x) (i:=j) H;have F:=HM (x:=y) (i:=j) (by omega);omega);refine⟨r,λz B=>by rw[<-Bv,R z B,PN],?_,?_⟩;have b:=J5 (K:=K) (x:=x) (y:=y) (m:=8) a (by omega) (by omega);rw[decide_eq_true (p:=(x.n:Int)<=8) (by omega),decide_eq_true h,Bool.and_self]at b;rw[Em]at g|-;refine qw I614 ?_;refine cW b ?_;refine cW (Mn a) ?_;refine cW (Mn (by omega)) ?_;refine Ah (λi (z:List Int)=>z.length=x.n/\∀j:Nat,j<x.n->AB z (j:Nat)=if j<i then min (AB x.w (j:Nat)) (AB y.w (j:Nat))else AB x.w (j:Nat)) (λi z=>[.u,.u,.u,.u,LI z,LI y.w,.u,.u,.n x.w.length,.n i,.u]) x.w.length x.w ⟨L,λj H=>by rw[if_neg (by omega)]⟩ rfl (λi z hi c=>?_) (λz c=>?_);obtain⟨e,P⟩:=c;have f:=P i (by omega);rw[if_neg (by omega)]at f;simp(disch:=try exact dV) only[AD,f];refine⟨_,⟨by rw[DN];exact e,λj H=>?_⟩,rfl⟩;rw[Hc (by omega),P j H];by_cases q:i=j;subst q;rw[if_pos rfl,if_pos (by omega)];rw[if_neg q];by_cases Q:j<i;rw[if_pos Q,if_pos (by omega)];rw[if_neg Q,if_neg (by omega)];obtain⟨e,P⟩:=c;have o:z=Ia x y x.n:=by refine AK6 (by rw[PN];exact e) λj H=>?_;rw[P j (by omega),if_pos (by omega),Zf (by omega)]
 rw[o];refine wW ?_;exact cZ g;have b:=JY (K:=K) (x:=x) (y:=y) a (by omega);rw[decide_eq_true h]at b;rw[Em]at ks|-;refine qw I609 ?_;refine cW b ?_;refine cW (Nh a) ?_;refine cW (Nh (by omega)) ?_;refine AN (λ_=>True) (λi=>[.u,.u,.u,.u,LI x.w,LI y.w,LI (Ia x y i),.n i,.u,.u,.u,.u]) x.w.length trivial rfl (λi hi _=>?_) (λ_=>?_);have G:=PN (x:=x) (y:=y) (k:=i);refine wW ?_;rw[AeO];rw[L];refine wW ?_;exact cZ ks
theorem Ae9[HA K]{x y:BT}(H:x.n<=8)(h:x.n=y.n):∃r:Option BT,(∀z,r=some z->z.n=x.n)/\K 615 [.s x.t,.s y.t] (Em r)/\K 610 [.s x.t,.s y.t] (Em r):=by
 have mx:=Hg (x:=x);have M:=Hg (x:=y);obtain⟨r,R,k,ks⟩:=ZZ (K:=K) (x:=x.DS) (y:=y.DS) (by omega) (by omega);have b:=JY (K:=K) (x:=x) (y:=y) H (by omega);rw[decide_eq_true h]at b
 cases r with
 |none=>
  refine⟨none,by simp,?_,?_⟩
  .rw[Em]at k|-
   simp only[Option.isSome_none,Option.elim_none]at k|-
   refine qw AEL ?_
   refine cW (N4 H) ?_
   refine cW (N4 (by omega)) ?_
   exact cZ k
  .rw[Em]at ks|-
   simp only[Option.isSome_none,Option.elim_none]at ks|-
   refine qw ASH ?_
   refine cW b ?_
   refine cW (K1 H) ?_
   refine cW (K1 (by omega)) ?_
   exact cZ ks
 |some z=>
  have e:=R z rfl
  have c:=Hg (x:=z)
  refine⟨some z.DS,λu a=>by injection a with a;subst a;omega,?_,?_⟩
  .rw[Em]at k|-
   simp only[Option.isSome_some,Option.elim_some]at k|-
   refine qw AEL ?_
   refine cW (N4 H) ?_
   refine cW (N4 (by omega)) ?_
   refine cW k ?_
   exact cZ (N4 (by omega))
  .rw[Em]at ks|-
   simp only[Option.isSome_some,Option.elim_some]at ks|-
   refine qw ASH ?_
   refine cW b ?_
   refine cW (K1 H) ?_
   refine cW (K1 (by omega)) ?_
   refine cW ks ?_
   exact cZ (K1 (by omega))
end Go.Cat
