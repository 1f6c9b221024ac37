/-
 A search by breadth over rotations: what it reaches.
-/
import Derived.Test.YthoilpmggmenbaaGreatPfRotC
set_option linter.unusedSimpArgs false
set_option linter.unusedVariables false
namespace Go.Cat
theorem Ud:∀{x z:BT}{v:Nat},v<x.n->Av x (v:Nat)=some z->∃u:Nat,u<x.n/\CC z (u:Nat)=some x
 |.lf,_,v,h,_=>by simp[BT.n]at h
 |.nd l r,z,v,h,H=>by
  have f:=h;simp only[BT.n]at f;simp only[Av]at H;rw[if_neg (by omega)]at H;by_cases q:(v:Int)<l.n;rw[if_pos q]at H;obtain⟨y,c,rfl⟩:=Ae.1 H;obtain⟨u,g,e⟩:=Ud (by omega) c;have i:=FU c;refine⟨u,by simp only[BT.n];omega,?_⟩;simp only[CC];rw[if_neg (by omega),if_pos (by omega),e]<;>rfl;rw[if_neg q]at H;by_cases Q:(v:Int)=l.n;rw[if_pos Q]at H
  cases l with
  |lf=>cases H
  |nd a b=>
   simp only[AL]at H
   subst H
   refine⟨a.n,by simp only[BT.n];omega,?_⟩
   simp only[CC]
   rw[if_neg (by omega),if_neg (by omega),if_pos trivial]
  rw[if_neg Q]at H;obtain⟨y,c,rfl⟩:=Ae.1 H;rw[show(v:Int)-l.n-1=((v-l.n-1:Nat):Int) by omega]at c;obtain⟨u,g,e⟩:=Ud (by omega) c;refine⟨u+l.n+1,by simp only[BT.n];omega,?_⟩;simp only[CC];rw[if_neg (by omega),if_neg (by omega),if_neg (by omega),show((u+l.n+1:Nat):Int)-l.n-1=(u:Nat) by omega,e]<;>rfl
theorem AU8{x z:BT}{v:Nat}(H:v<x.n)(h:Av x (v:Nat)=some z):z∈DQ x:=by simp only[DQ,Bt,Ac,List.mem_filterMap,List.mem_range];exact .inl ⟨v,H,h⟩
theorem Ab3{x z:BT}{v:Nat}(H:v<x.n)(h:CC x (v:Nat)=some z):z∈DQ x:=by simp only[DQ,Bt,Ac,List.mem_filterMap,List.mem_range];exact .inr ⟨v,H,h⟩
theorem St{x z:BT}(h:z∈DQ x):z.n=x.n:=by simp only[DQ,Bt,Ac,List.mem_filterMap,List.mem_range]at h;rcases h with⟨v,_,h⟩|⟨v,_,h⟩;exact FU h;exact J9 h
def Fi:Nat->BT
 |0=>.lf
 |n+1=>.nd .lf (Fi n)
theorem SZ:∀{n:Nat},(Fi n).n=n
 |0=>rfl
 |n+1=>by simp only[Fi,BT.n,SZ];omega
theorem AD5:∀{n i:Nat},i<n->AB (Fi n).w (i:Nat)=(n:Int)-1-i
 |0,i,h=>by omega
 |n+1,0,_=>by simp[Fi,BT.w,AB,SZ]
 |n+1,i+1,h=>by have:=AD5 (n:=n) (i:=i) (by omega);simp[Fi,BT.w,AB]at this|-;rw[this];omega
theorem AT3{x:BT}:GA x (Fi x.n):=by refine⟨SZ.symm,λi hi=>?_⟩;have:=Fz hi;rw[AD5 hi];omega
theorem SV{P:BT->Prop}(c:∀z u,P z->u∈DQ z->P u):∀(k:Nat)(x:BT),(Fi x.n).w.sum-x.w.sum<=k->(P x->P (Fi x.n))/\(P (Fi x.n)->P x)
 |k,x,j=>by
  by_cases q:x=Fi x.n;rw[<-q];exact⟨id,id⟩;obtain⟨v,z,a,H,l⟩:=AK2 (x:=x) (y:=Fi x.n) AT3 (λe=>q (Pc e));have f:=AAJ a H;have g:=Ub l;have b:=FU H;obtain⟨u,o,e⟩:=Ud a H
  cases k with
  |zero=>omega
  |succ k=>
   have i:=SV c k z (by rw[b];omega)
   rw[b]at i
   exact⟨λh=>i.1 (c _ _ h (AU8 a H)),λh=>c _ _ (i.2 h) (Ab3 (by omega) e)⟩
theorem conn{P:BT->Prop}(h:∀z u,P z->u∈DQ z->P u){a b:BT}(e:P a)(f:b.n=a.n):P b:=by have H:=SV h ((Fi a.n).w.sum-a.w.sum).toNat a (by omega);have c:=SV h ((Fi b.n).w.sum-b.w.sum).toNat b (by omega);exact c.2 (by rw[f];exact H.1 e)
def Jx:Nat->Nat->List BT
 |0,_=>[]
 |_+1,0=>[.lf]
 |f+1,n+1=>(List.range (n+1)).flatMap λi=>(Jx f i).flatMap λl=>(Jx f (n-i)).map λr=>.nd l r
theorem VZ:∀{x:BT}{f:Nat},x.n<f->x∈Jx f x.n
 |.lf,f+1,_=>by simp[BT.n,Jx]
 |.nd l r,f+1,h=>by have H:=h;simp only[BT.n]at H;simp only[BT.n,Jx,List.mem_flatMap,List.mem_range,List.mem_map];refine⟨l.n,by omega,l,VZ (by omega),r,?_,rfl⟩;rw[show l.n+r.n-l.n=r.n by omega];exact VZ (by omega)
theorem AVU:∀n,n<=5->(Jx 6 n).length<=42:=by decide
theorem ANT:∀{l m:List (List Nat)},l.Nodup->(∀x∈l,x∈m)->l.length<=m.length
 |[],m,_,_=>by simp
 |a::l,m,h,s=>by
  have c:=s a (List.mem_cons_self ..);have b:=List.nodup_cons.1 h;have:=ANT (l:=l) (m:=m.erase a) b.2 (λx f=>by
   have H:x≠a:=by rintro rfl;exact b.1 f
   exact(List.mem_erase_of_ne H).2 (s x (BL _ f)))
  have e:=List.length_erase_of_mem c;have:0<m.length:=List.length_pos_of_mem c;simp only[AO];omega
def Ah(l:List BT)(i:Nat):BT:=l.getD i .lf
theorem HS{l:List BT}{i:Nat}(h:i<l.length):Ah l i=l[i]:=by simp[Ah,h]
theorem FV{l:List BT}{i:Nat}(h:i<l.length):Ah l i∈l:=by rw[HS h];exact List.getElem_mem h
theorem K9{l m:List BT}{i:Nat}(h:i<l.length):Ah (l++m) i=Ah l i:=by simp only[Ah,Ap];rw[DP h]
theorem Mw{l m:List Int}{i:Nat}(h:i<l.length):AB (l++m) (i:Nat)=AB l (i:Nat):=by simp only[AB,BM,Ap];rw[DP h]
theorem Fe{l:List BT}{i:Nat}(h:i<l.length):AH (l.map BT.t) (i:Nat)=(Ah l i).t:=by simp[AH,Ah,h]
def D5(i:Nat)(S:List BT×List Int)(u:BT):List BT×List Int:=if u.t∈S.1.map BT.t then S else(S.1++[u],S.2++[(i:Int)])
def bfR(i:Nat)(S:List BT×List Int):List BT×List Int:=(DQ (Ah S.1 i)).foldl (D5 i) S
def AX(a:BT):Nat->List BT×List Int
 |0=>([a],[-1])
 |i+1=>bfR i (AX a i)
def Et(S T:List BT×List Int):Prop:=∃r q,T.1=S.1++r/\T.2=S.2++q
theorem Et.SE{S:List BT×List Int}:Et S S:=⟨[],[],by simp,by simp⟩
theorem Et.tr{S T U:List BT×List Int}(h:Et S T)(H:Et T U):Et S U:=by obtain⟨r,q,e,a⟩:=h;obtain⟨R,Q,b,c⟩:=H;exact⟨r++R,q++Q,by rw[b,e,CE],by rw[c,a,CE]⟩
theorem AMZ{i:Nat}{S:List BT×List Int}{u:BT}:Et S (D5 i S u):=by unfold D5;split;exact Et.SE;exact⟨[u],[(i:Int)],rfl,rfl⟩
theorem PF{i:Nat}:∀{l:List BT}{S:List BT×List Int},Et S (l.foldl (D5 i) S)
 |[],S=>Et.SE
 |_::l,S=>AMZ.tr (PF (l:=l))
theorem ADV{a:BT}{i:Nat}:∀{j:Nat},Et (AX a i) (AX a (i+j))
 |0=>Et.SE
 |j+1=>(ADV (j:=j)).tr PF
theorem OK{a:BT}{i j:Nat}(h:i<=j):Et (AX a i) (AX a j):=by have:=ADV (a:=a) (i:=i) (j:=j-i);rwa [show i+(j-i)=j by omega]at this
structure BI(a:BT)(S:List BT×List Int):Prop where
 len:S.2.length=S.1.length
 ns:∀z∈S.1,z.n=a.n
 nd:(S.1.map BT.t).Nodup
 hd:Ah S.1 0=a/\AB S.2 0=-1/\0<S.1.length
 par:∀k:Nat,0<k->k<S.1.length->0<=AB S.2 (k:Nat)/\AB S.2 (k:Nat)<k
theorem BI.add{a:BT}{S:List BT×List Int}{i:Nat}{u:BT}(h:BI a S)(F:u.n=a.n)(hi:i<S.1.length):BI a (D5 i S u):=by
 obtain⟨b,c,f,⟨g,j,o⟩,s⟩:=h;unfold D5;split;exact⟨b,c,f,⟨g,j,o⟩,s⟩;rename_i C;refine⟨by simp[b],λz J=>?_,?_,⟨?_,?_,by simp⟩,λk B H=>?_⟩;rcases Ac.1 J with q|q;exact c z q;rw[List.mem_singleton.1 q];exact F;simp only[List.map_append,List.map_cons,List.map_nil];refine List.nodup_append.2 ⟨f,by simp,?_⟩;intro x G y I;rw[List.mem_singleton.1 I];rintro rfl;exact C G;rw[K9 o];exact g;have:=Mw (l:=S.2) (m:=[(i:Int)]) (i:=0) (by omega);simp only[Int.ofNat_eq_natCast,Int.natCast_zero]at this;exact this.trans j;simp only[AZ,AO,Aa]at H;by_cases q:k<S.1.length;rw[Mw (by omega)];exact s k B q;have e:AB (S.2++[(i:Int)]) (k:Nat)=i:=by
  obtain rfl:k=S.2.length:=by omega
  simp[AB]
 rw[e];omega
theorem BI.fold{a:BT}{i:Nat}:∀{l:List BT}{S:List BT×List Int},BI a S->(∀u∈l,u.n=a.n)->i<S.1.length->BI a (l.foldl (D5 i) S)
 |[],S,h,_,_=>h
 |u::l,S,h,H,hi=>by refine BI.fold (l:=l) (h.add (H u (List.mem_cons_self ..)) hi) (λx b=>H x (BL _ b)) ?_;obtain⟨r,q,e,_⟩:=AMZ (i:=i) (S:=S) (u:=u);rw[e,AZ];omega
theorem Ad1:DQ .lf=[]:=rfl
theorem Hl{a:BT}:∀i,BI a (AX a i)
 |0=>⟨rfl,by simp[AX],by simp[AX],⟨rfl,rfl,by simp[AX]⟩,λk h H=>by simp[AX]at H;omega⟩
 |i+1=>by
  have h:=Hl (a:=a) i;simp only[AX,bfR];by_cases q:i<(AX a i).1.length;exact h.fold (λu b=>(St b).trans (h.ns _ (FV q))) q;have e:Ah (AX a i).1 i=.lf:=by simp[Ah,Nat.le_of_not_lt q]
  rw[e,Ad1];exact h
theorem BI.Lv{a:BT}{S:List BT×List Int}(h:BI a S)(c:a.n<=5):S.1.length<=42:=by have b:=ANT (l:=S.1.map BT.t) (m:=(Jx 6 a.n).map BT.t) h.nd (λx e=>by obtain⟨z,H,rfl⟩:=List.mem_map.1 e;refine List.mem_map.2 ⟨z,?_,rfl⟩;have:=VZ (x:=z) (f:=6) (by have:=h.ns z H;omega);rw[h.ns z H]at this;exact this);have g:=AVU a.n c;simp only[List.length_map]at b;omega
theorem AX4{i:Nat}{S:List BT×List Int}{u:BT}:u.t∈(D5 i S u).1.map BT.t:=by unfold D5;split;assumption;simp
theorem Et.mem{S T:List BT×List Int}(h:Et S T){t:List Nat}(H:t∈S.1.map BT.t):t∈T.1.map BT.t:=by obtain⟨r,q,e,_⟩:=h;rw[e,List.map_append];exact BN _ H
theorem Xm{i:Nat}{u:BT}:∀{l:List BT}{S:List BT×List Int},u∈l->u.t∈(l.foldl (D5 i) S).1.map BT.t
 |v::l,S,h=>by rcases AY.1 h with rfl|h;exact(PF (l:=l)).mem AX4;exact Xm (l:=l) h
theorem AXC{a:BT}{i j:Nat}(h:j<i)(c:j<(AX a j).1.length){u:BT}(H:u∈DQ (Ah (AX a i).1 j)):u.t∈(AX a i).1.map BT.t:=by
 obtain⟨r,q,e,_⟩:=OK (a:=a) (i:=j) (j:=i) (by omega);rw[e,K9 c]at H;have b:u.t∈(AX a (j+1)).1.map BT.t:=by simp only[AX,bfR];exact Xm H
 exact(OK (a:=a) (i:=j+1) (j:=i) (by omega)).mem b
theorem NW{P:Nat->Prop}:∀{n:Nat},P n->∃m,m<=n/\P m/\∀j,j<m->¬P j
 |n,h=>by by_cases q:∃j,j<n/\P j;obtain⟨j,a,H⟩:=q;obtain⟨m,e,b,c⟩:=NW H;exact⟨m,by omega,b,c⟩;exact⟨n,Nat.le_refl _,h,λj a H=>q ⟨j,a,H⟩⟩
termination_by n=>n
theorem AY1{a:BT}(x:a.n<=5):∃N,N<=42/\(AX a N).1.length=N/\(∀j,j<N->j<(AX a j).1.length)/\∀b:BT,b.n=a.n->b.t∈(AX a N).1.map BT.t:=by
 obtain⟨N,l,o,g⟩:=NW (P:=λN=>(AX a N).1.length<=N) (n:=42) ((Hl 42).Lv x);have s:(AX a N).1.length=N:=by
  have h0:N≠0:=by rintro rfl;simp[AX]at o
  obtain⟨M,rfl⟩:∃M,N=M+1:=⟨N-1,by omega⟩;have G:=g M (by omega);obtain⟨r,q,e,_⟩:=OK (a:=a) (i:=M) (j:=M+1) (by omega);have H:(AX a (M+1)).1.length=(AX a M).1.length+r.length:=by rw[e,AZ]
  omega
 have h:∀j,j<N->j<(AX a j).1.length:=λj c=>by have:=g j c;omega
 refine⟨N,l,s,h,λb B=>?_⟩;refine conn (P:=λz=>z.t∈(AX a N).1.map BT.t) (λz u F f=>?_) (a:=a) ?_ B;obtain⟨y,C,e⟩:=List.mem_map.1 F;rw[<-WJ e]at f;obtain⟨j,c,k⟩:=List.getElem_of_mem C;rw[<-k,<-HS c]at f;exact AXC (by omega) (h j (by omega)) f;have:=(Hl (a:=a) N).hd;have H:=FV this.2.2;rw[this.1]at H;exact List.mem_map.2 ⟨a,H,rfl⟩
def DK(S:List BT×List Int):Nat->Nat->List (List Nat)
 |0,_=>[]
 |f+1,k=>(if AB S.2 (k:Nat)<0 then []else DK S f (AB S.2 (k:Nat)).toNat)++[(Ah S.1 k).t]
theorem P5{S:List BT×List Int}:∀{f k:Nat},(DK S f k).length<=f
 |0,_=>by simp[DK]
 |f+1,k=>by simp only[DK,AZ,AO,Aa];split;simp;have:=P5 (S:=S) (f:=f) (k:=(AB S.2 (k:Nat)).toNat);omega
theorem Q1{a:BT}{S:List BT×List Int}(h:BI a S):∀{f k:Nat},k<f->k<S.1.length->DK S f k=DK S (k+1) k
 |f+1,k,c,b=>by
  simp only[DK]
  by_cases q:AB S.2 (k:Nat)<0
  rw[if_pos q,if_pos q]
  rw[if_neg q,if_neg q]
  have H:0<k:=by
   rcases Nat.eq_zero_or_pos k with rfl|h0
   exact absurd (show AB S.2 ((0:Nat):Int)<0 by have:=h.hd.2.1;simp only[Int.ofNat_eq_natCast,Int.natCast_zero];omega) q
   exact h0
  have e:=h.par k H b
  rw[Q1 h (f:=f) (by omega) (by omega),Q1 h (f:=k) (by omega) (by omega)]
termination_by f=>f
theorem AMS{a:BT}{S T:List BT×List Int}(h:BI a S)(j:Et S T):∀{f k:Nat},k<S.1.length->DK S f k=DK T f k
 |0,_,_=>rfl
 |f+1,k,c=>by
  obtain⟨r,q,e,b⟩:=j
  simp only[DK]
  have o:=h.len
  have g:AB T.2 (k:Nat)=AB S.2 (k:Nat):=by rw[b,Mw (by omega)]
  have i:Ah T.1 k=Ah S.1 k:=by rw[e,K9 c]
  rw[g,i]
  by_cases q:AB S.2 (k:Nat)<0
  rw[if_pos q,if_pos q]
  rw[if_neg q,if_neg q]
  have H:0<k:=by
   rcases Nat.eq_zero_or_pos k with rfl|h0
   exact absurd (show AB S.2 ((0:Nat):Int)<0 by have:=h.hd.2.1;simp only[Int.ofNat_eq_natCast,Int.natCast_zero];omega) q
   exact h0
  have l:=h.par k H c
  rw[AMS h ⟨r,_,e,b⟩ (f:=f) (by omega)]
end Go.Cat
namespace Go.Cat
variable{K:Nat->List D->List D->Prop}
theorem AXK{l r:BT}{j:Nat}(h:j<l.n):AB (BT.nd l r).w (j:Nat)=AB l.w (j:Nat):=by rw[<-Be]at h;simp only[BT.w,CE];exact Mw h
theorem AUX{l r:BT}{j:Nat}:AB (BT.nd l r).w ((l.n+1+j:Nat):Int)=AB r.w (j:Nat):=by
 have e:(l.w++[(r.n:Int)]).length=l.n+1:=by simp[Be]
 simp only[BT.w,AB,BM,Ap];rw[GK (by omega),e,Nat.add_sub_cancel_left]
theorem AV0{l r:BT}:sub (BT.nd l r).w 0 (l.n:Nat)=l.w:=by have e:=Be (x:=l);simp only[BT.w,sub,BM,Int.toNat_zero,List.drop_zero,CE];rw[<-e,List.take_left]
theorem AO6{l r:BT}{k:Nat}(h:k=(BT.nd l r).w.length):sub (BT.nd l r).w ((l.n:Int)+1) (k:Nat)=r.w:=by
 have e:(l.w++[(r.n:Int)]).length=l.n+1:=by simp[Be]
 have a:((l.n:Int)+1).toNat=l.n+1:=by omega
 subst h;simp only[sub,BM,List.take_length,a];rw[<-e];simp only[BT.w];rw[List.drop_left]
theorem AVB{m:List Int}{i j:Nat}(h:j<i)(hi:i<=m.length):AB (sub m 0 (i:Nat)) (j:Nat)=AB m (j:Nat):=by simp[sub,AB,List.getElem?_take,h]
theorem ARS{m:List Int}{i k j:Nat}(h:k=m.length):AB (sub m ((i:Int)+1) (k:Nat)) (j:Nat)=AB m ((i+1+j:Nat):Int):=by
 subst h;have e:((i:Int)+1).toNat=i+1:=by omega
 simp only[sub,AB,BM,List.take_length,e,Ap,List.getElem?_drop]
theorem SK[HA K]:∀(d:Nat)(m:List Int),m.length=d->d<=8->(∀j:Nat,j<d->0<=AB m (j:Nat)/\AB m (j:Nat)<=8)->∃x:BT,x.n<=d/\K 621 [LI m] [.s x.t]/\∀y:BT,m=y.w->x=y
 |d,m,G,Y,g=>by
  by_cases c:∃i:Nat,i<d/\(d:Int)-1<=i+AB m (i:Nat)
  obtain⟨Z,h0,k⟩:=c
  obtain⟨i,L,⟨B,M⟩,e⟩:=NW (P:=λi:Nat=>i<d/\(d:Int)-1<=i+AB m (i:Nat)) ⟨h0,k⟩
  have T:(sub m 0 (i:Nat)).length=i:=by simp[sub];omega
  have U:(sub m ((i:Int)+1) (m.length:Nat)).length=d-i-1:=by simp[sub];omega
  obtain⟨I,n1,Q,V⟩:=SK i (sub m 0 (i:Nat)) T (by omega) (λj f=>by rw[AVB f (by omega)];exact g j (by omega))
  obtain⟨J,n2,R,W⟩:=SK (d-i-1) (sub m ((i:Int)+1) (m.length:Nat)) U (by omega) (λj f=>by rw[ARS rfl];exact g _ (by omega))
  have t1:=BT.tl I
  have t2:=BT.tl J
  refine⟨.nd I J,by simp only[BT.n];omega,?_,λy h=>?_⟩
  have N:=g i B
  refine qw Ws ?_
  refine AR (λ_=>True) (λi=>[LI m,.u,.n i,.u,.u]) i trivial rfl (λj f _=>?_) (λ_=>?_)
  have F:=g j (by omega)
  have O:¬(d:Int)-1<=j+AB m (j:Nat):=λq=>e j f ⟨by omega,q⟩
  exact wZ
  refine wW ?_
  refine cW Q ?_
  refine cW R ?_
  simp[BT.t]
  have hd:y.n=d:=by rw[<-G,h,Be]
  cases y with
  |lf=>simp only[BT.n]at hd;omega
  |nd a b=>
   have H:=hd
   simp only[BT.n]at H
   have C:i=a.n:=by
    have o:=MT (l:=a) (r:=b)
    rw[<-h]at o
    rcases Nat.lt_trichotomy i a.n with q|q|q
    .have:=RA (l:=a) (r:=b) q
     rw[<-h]at this
     omega
    .exact q
    .exact absurd ⟨by omega,by omega⟩ (e a.n q)
   subst C
   rw[V a (by rw[h];exact AV0),W b (by rw[h];exact AO6 rfl)]
  refine⟨.lf,by simp only[BT.n];omega,?_,λy h=>?_⟩
  refine qw Ws ?_
  refine AR (λ_=>True) (λi=>[LI m,.u,.n i,.u,.u]) d trivial rfl (λj f _=>?_) (λ_=>?_)
  have F:=g j (by omega)
  have O:¬(d:Int)-1<=j+AB m (j:Nat):=λq=>c ⟨j,by omega,q⟩
  exact wZ
  exact wZ
  cases y with
  |lf=>rfl
  |nd a b=>
   have hd:(BT.nd a b).n=d:=by rw[<-G,h,Be]
   have H:=hd
   simp only[BT.n]at H
   have o:=MT (l:=a) (r:=b)
   rw[<-h]at o
   exact absurd ⟨a.n,by omega,by omega⟩ c
termination_by d=>d
theorem WO[HA K]:∀(d:Nat)(l:List Int)(f:Nat),f+d<=l.length->l.length<=8->(∀j:Nat,j<l.length->0<=AB l (j:Nat)/\AB l (j:Nat)<=8)->∃x:BT,x.n<=d/\K 622 [LI l,.n f,.n ((f+d:Nat):Int)] [x.d]/\∀y:BT,y.n=d->(∀j:Nat,j<d->AB l ((f+j:Nat):Int)=AB y.w (j:Nat))->x=y
 |d,l,f,W,G,k=>by
  by_cases c:∃i:Nat,i<d/\AB l ((f+i:Nat):Int)=(d:Int)-1-i
  obtain⟨Y,h0,s⟩:=c
  obtain⟨i,M,⟨N,O⟩,e⟩:=NW (P:=λi:Nat=>i<d/\AB l ((f+i:Nat):Int)=(d:Int)-1-i) ⟨h0,s⟩
  obtain⟨T,Z,Q,U⟩:=WO i l f (by omega) G k
  obtain⟨V,n2,J,R⟩:=WO (d-i-1) l (f+i+1) (by omega) G k
  rw[show f+i+1+(d-i-1)=f+d by omega]at J
  refine⟨.nd T V,by simp only[BT.n];omega,?_,λy o h=>?_⟩
  refine qw AB4 ?_
  refine AR (λ_=>True) (λi=>[LI l,.n f,.n ((f+d:Nat):Int),.u,.n ((f+i:Nat):Int),.u,.u]) i trivial rfl (λj g _=>?_) (λ_=>?_)
  have F:=k (f+j) (by omega)
  have I:¬AB l ((f+j:Nat):Int)=((f+d:Nat):Int)-1-((f+j:Nat):Int):=λq=>e j g ⟨by omega,by omega⟩
  exact wZ
  have I:AB l ((f+i:Nat):Int)=((f+d:Nat):Int)-1-((f+i:Nat):Int):=by omega
  refine wW ?_
  refine cW Q ?_
  have L:((f+i:Nat):Int)+1=((f+i+1:Nat):Int):=by omega
  rw[L]
  refine cB J ?_
  simp(disch:=try exact dV) only[AD,BT.P6]
  rfl
  cases y with
  |lf=>simp only[BT.n]at o;omega
  |nd a b=>
   have H:=o
   simp only[BT.n]at H
   have C:i=a.n:=by
    have B:=MT (l:=a) (r:=b)
    rw[<-h a.n (by omega)]at B
    rcases Nat.lt_trichotomy i a.n with q|q|q
    .have:=RA (l:=a) (r:=b) q
     rw[<-h i (by omega)]at this
     omega
    .exact q
    .exact absurd ⟨by omega,by omega⟩ (e a.n q)
   subst C
   rw[U a rfl (λj g=>by rw[h j (by omega),AXK g]),R b (by omega) (λj g=>by rw[show f+a.n+1+j=f+(a.n+1+j) by omega,h _ (by omega),AUX])]
  refine⟨.lf,by simp only[BT.n];omega,?_,λy o h=>?_⟩
  refine qw AB4 ?_
  refine AR (λ_=>True) (λi=>[LI l,.n f,.n ((f+d:Nat):Int),.u,.n ((f+i:Nat):Int),.u,.u]) d trivial rfl (λj g _=>?_) (λ_=>?_)
  have F:=k (f+j) (by omega)
  have I:¬AB l ((f+j:Nat):Int)=((f+d:Nat):Int)-1-((f+j:Nat):Int):=λq=>c ⟨j,by omega,by omega⟩
  exact wZ
  exact wZ
  cases y with
  |lf=>rfl
  |nd a b=>
   have H:=o
   simp only[BT.n]at H
   have B:=MT (l:=a) (r:=b)
   rw[<-h a.n (by omega)]at B
   exact absurd ⟨a.n,by omega,by omega⟩ c
termination_by d=>d
theorem AXL[HA K]{l:List Int}(g:l.length<=8)(f:∀j:Nat,j<l.length->0<=AB l (j:Nat)/\AB l (j:Nat)<=(l.length:Int)-1-j):∃r:Option BT,(∀x,r=some x->x.w=l)/\K 620 [LI l] (ER r)/\K 619 [LI l] (ER r):=by
 obtain⟨a,N,k,U⟩:=WO (K:=K) l.length l 0 (by omega) g (λj H=>by have:=f j H;omega);obtain⟨xs,ns,ks,us⟩:=SK (K:=K) l.length l rfl g (λj H=>by have:=f j H;omega);have W:=Be (x:=a);have ws:=Be (x:=xs);simp only[Nat.zero_add]at k U;refine⟨if a.w=l then some a else none,λx b=>?_,?_,?_⟩;split at b;injection b with b;subst b;assumption
 cases b;refine qw I620 ?_;have o:((0:Nat):Int)=0:=rfl;rw[o]at k;refine cW k ?_;refine cW (I9 (by omega)) ?_;refine cW (Ke (by omega)) ?_;refine cB (ANI (by omega)) ?_;by_cases h:a.w=l;rw[decide_eq_true h,if_pos h];exact wZ;rw[decide_eq_false h,if_neg h];exact wZ;refine qw I619 ?_;refine AR (λ_=>True) (λi=>[LI l,.u,.u,.n i,.u,.u,.u,.u,.u]) l.length trivial rfl (λj H _=>?_) (λ_=>?_);have B:=f j H;have c:A4 0 ((l.length:Int)-1-j) (AB l (j:Nat))=true:=Af.2 (by omega);refine wW ?_;refine cB Cl ?_;rw[c];exact wZ;refine wW ?_;refine cW ks ?_;refine cW (Kl (by omega)) ?_;refine cB (AS5 (by omega)) ?_;by_cases h:a.w=l;have e:=us a h.symm;subst e;rw[decide_eq_true h,if_pos h];exact wZ;have s:¬xs.w=l:=by
  intro q;have C:xs.n=l.length:=by rw[<-Be,q]
  have:=U xs C (λj H=>by rw[<-q]);rw[this]at h;exact h q
 rw[decide_eq_false s,if_neg h];exact wZ
def Ha(x y:BT)(k:Nat):List Int:=(List.range k).map λi:Nat=>min (AB x.w (i:Nat)) (AB y.w (i:Nat))
theorem NZ{x y:BT}{k:Nat}:(Ha x y k).length=k:=by simp[Ha]
theorem AZO{x y:BT}{k:Nat}:Ha x y (k+1)=Ha x y k++[min (AB x.w (k:Nat)) (AB y.w (k:Nat))]:=by simp[Ha,List.range_succ]
theorem AIA{x y:BT}{k i:Nat}(h:i<k):AB (Ha x y k) (i:Nat)=min (AB x.w (i:Nat)) (AB y.w (i:Nat)):=by simp[Ha,AB,h]
theorem AKX[HA K]{x y:BT}(a:x.n<=8)(h:x.n=y.n):∃r:Option BT,(∀z,r=some z->z.n=x.n)/\K 614 [.s x.t,.s y.t] (ER r)/\K 609 [.s x.t,.s y.t] (ER r):=by
 have L:=Be (x:=x);have I:=Be (x:=y);obtain⟨r,R,g,ks⟩:=AXL (K:=K) (l:=Ha x y x.n) (by rw[NZ];exact a) (λj H=>by rw[NZ]at H|-;rw[AIA H];have C:=Fz (x:=x) (i:=j) H;have F:=Fz (x:=y) (i:=j) (by omega);omega);refine⟨r,λz B=>by rw[<-Be,R z B,NZ],?_,?_⟩;have b:=Is (K:=K) (x:=x) (y:=y) (m:=8) a (by omega) (by omega);rw[decide_eq_true (p:=(x.n:Int)<=8) (by omega),decide_eq_true h,Bool.and_self]at b;rw[ER]at g|-;refine qw I614 ?_;refine cW b ?_;refine cW (Ke a) ?_;refine cW (Ke (by omega)) ?_;refine BE (λi (z:List Int)=>z.length=x.n/\∀j:Nat,j<x.n->AB z (j:Nat)=if j<i then min (AB x.w (j:Nat)) (AB y.w (j:Nat))else AB x.w (j:Nat)) (λi z=>[.u,.u,.u,.u,LI z,LI y.w,.u,.u,.n x.w.length,.n i,.u]) x.w.length x.w ⟨L,λj H=>by rw[if_neg (by omega)]⟩ rfl (λi z hi c=>?_) (λz c=>?_);obtain⟨e,P⟩:=c;have f:=P i (by omega);rw[if_neg (by omega)]at f;simp(disch:=try exact dV) only[AD,f];refine⟨_,⟨by rw[DD];exact e,λj H=>?_⟩,rfl⟩;rw[Gb (by omega),P j H];by_cases q:i=j;subst q;rw[if_pos rfl,if_pos (by omega)];rw[if_neg q];by_cases Q:j<i;rw[if_pos Q,if_pos (by omega)];rw[if_neg Q,if_neg (by omega)];obtain⟨e,P⟩:=c;have o:z=Ha x y x.n:=by refine AIR (by rw[NZ];exact e) λj H=>?_;rw[P j (by omega),if_pos (by omega),AIA (by omega)]
 rw[o];refine wW ?_;exact cZ g;have b:=Io (K:=K) (x:=x) (y:=y) a (by omega);rw[decide_eq_true h]at b;rw[ER]at ks|-;refine qw I609 ?_;refine cW b ?_;refine cW (Kl a) ?_;refine cW (Kl (by omega)) ?_;refine AR (λ_=>True) (λi=>[.u,.u,.u,.u,LI x.w,LI y.w,LI (Ha x y i),.n i,.u,.u,.u,.u]) x.w.length trivial rfl (λi hi _=>?_) (λ_=>?_);have G:=NZ (x:=x) (y:=y) (k:=i);refine wW ?_;rw[AZO];rw[L];refine wW ?_;exact cZ ks
theorem AUD[HA K]{x y:BT}(H:x.n<=8)(h:x.n=y.n):∃r:Option BT,(∀z,r=some z->z.n=x.n)/\K 615 [.s x.t,.s y.t] (ER r)/\K 610 [.s x.t,.s y.t] (ER r):=by
 have mx:=Gh (x:=x);have M:=Gh (x:=y);obtain⟨r,R,k,ks⟩:=AKX (K:=K) (x:=x.DB) (y:=y.DB) (by omega) (by omega);have b:=Io (K:=K) (x:=x) (y:=y) H (by omega);rw[decide_eq_true h]at b
 cases r with
 |none=>
  refine⟨none,by simp,?_,?_⟩
  .rw[ER]at k|-
   simp only[Option.isSome_none,Option.elim_none]at k|-
   refine qw AJY ?_
   refine cW (MA H) ?_
   refine cW (MA (by omega)) ?_
   exact cZ k
  .rw[ER]at ks|-
   simp only[Option.isSome_none,Option.elim_none]at ks|-
   refine qw X3 ?_
   refine cW b ?_
   refine cW (Iv H) ?_
   refine cW (Iv (by omega)) ?_
   exact cZ ks
 |some z=>
  have e:=R z rfl
  have c:=Gh (x:=z)
  refine⟨some z.DB,λu a=>by injection a with a;subst a;omega,?_,?_⟩
  .rw[ER]at k|-
   simp only[Option.isSome_some,Option.elim_some]at k|-
   refine qw AJY ?_
   refine cW (MA H) ?_
   refine cW (MA (by omega)) ?_
   refine cW k ?_
   exact cZ (MA (by omega))
  .rw[ER]at ks|-
   simp only[Option.isSome_some,Option.elim_some]at ks|-
   refine qw X3 ?_
   refine cW b ?_
   refine cW (Iv H) ?_
   refine cW (Iv (by omega)) ?_
   refine cW ks ?_
   exact cZ (Iv (by omega))
end Go.Cat
