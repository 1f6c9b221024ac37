/-
 A search by breadth over rotations: what it reaches.
-/
import Derived.Test.YthoilpmggmenbaaGreatPfOrdM
set_option linter.unusedSimpArgs false
set_option linter.unusedVariables false
namespace Go.Cat
theorem Xd:∀{x z:BT}{v:Nat},v<x.n->BB x (v:Nat)=some z->∃u:Nat,u<x.n/\CU z (u:Nat)=some x
 |.lf,_,v,h,_=>by simp[BT.n]at h
 |.nd l r,z,v,h,H=>by
  have f:=h;simp only[BT.n]at f;simp only[BB]at H;rw[if_neg (by omega)]at H;by_cases q:(v:Int)<l.n;rw[if_pos q]at H;obtain⟨y,c,rfl⟩:=Ag.1 H;obtain⟨u,g,e⟩:=Xd (by omega) c;have i:=GK c;refine⟨u,by simp only[BT.n];omega,?_⟩;simp only[CU];rw[if_neg (by omega),if_pos (by omega),e]<;>rfl;rw[if_neg q]at H;by_cases Q:(v:Int)=l.n;rw[if_pos Q]at H
  cases l with
  |lf=>cases H
  |nd a b=>
   simp only[AL]at H
   subst H
   refine⟨a.n,by simp only[BT.n];omega,?_⟩
   simp only[CU]
   rw[if_neg (by omega),if_neg (by omega),if_pos trivial]
  rw[if_neg Q]at H;obtain⟨y,c,rfl⟩:=Ag.1 H;rw[show(v:Int)-l.n-1=((v-l.n-1:Nat):Int) by omega]at c;obtain⟨u,g,e⟩:=Xd (by omega) c;refine⟨u+l.n+1,by simp only[BT.n];omega,?_⟩;simp only[CU];rw[if_neg (by omega),if_neg (by omega),if_neg (by omega),show((u+l.n+1:Nat):Int)-l.n-1=(u:Nat) by omega,e]<;>rfl
theorem AjG{x z:BT}{v:Nat}(H:v<x.n)(h:BB x (v:Nat)=some z):z∈D7 x:=by simp only[D7,CK,Ac,List.mem_filterMap,List.mem_range];exact .inl ⟨v,H,h⟩
theorem AiS{x z:BT}{v:Nat}(H:v<x.n)(h:CU x (v:Nat)=some z):z∈D7 x:=by simp only[D7,CK,Ac,List.mem_filterMap,List.mem_range];exact .inr ⟨v,H,h⟩
theorem XM{x z:BT}(h:z∈D7 x):z.n=x.n:=by simp only[D7,CK,Ac,List.mem_filterMap,List.mem_range]at h;rcases h with⟨v,_,h⟩|⟨v,_,h⟩;exact GK h;exact LK h
def GZ:Nat->BT
 |0=>.lf
 |n+1=>.nd .lf (GZ n)
theorem YB:∀{n:Nat},(GZ n).n=n
 |0=>rfl
 |n+1=>by simp only[GZ,BT.n,YB];omega
theorem AD6:∀{n i:Nat},i<n->AB (GZ n).w (i:Nat)=(n:Int)-1-i
 |0,i,h=>by omega
 |n+1,0,_=>by simp[GZ,BT.w,AB,YB]
 |n+1,i+1,h=>by have:=AD6 (n:=n) (i:=i) (by omega);simp[GZ,BT.w,AB]at this|-;rw[this];omega
theorem AdW{x:BT}:Gf x (GZ x.n):=by refine⟨YB.symm,λi hi=>?_⟩;have:=Gv hi;rw[AD6 hi];omega
theorem Vz{P:BT->Prop}(c:∀z u,P z->u∈D7 z->P u):∀(k:Nat)(x:BT),(GZ x.n).w.sum-x.w.sum<=k->(P x->P (GZ x.n))/\(P (GZ x.n)->P x)
 |k,x,j=>by
  by_cases q:x=GZ x.n;rw[<-q];exact⟨id,id⟩;obtain⟨v,z,a,H,l⟩:=AK2 (x:=x) (y:=GZ x.n) AdW (λe=>q (SZ e));have f:=AC7 a H;have g:=YZ l;have b:=GK H;obtain⟨u,o,e⟩:=Xd a H
  cases k with
  |zero=>omega
  |succ k=>
   have i:=Vz c k z (by rw[b];omega)
   rw[b]at i
   exact⟨λh=>i.1 (c _ _ h (AjG a H)),λh=>c _ _ (i.2 h) (AiS (by omega) e)⟩
theorem conn{P:BT->Prop}(h:∀z u,P z->u∈D7 z->P u){a b:BT}(e:P a)(f:b.n=a.n):P b:=by have H:=Vz h ((GZ a.n).w.sum-a.w.sum).toNat a (by omega);have c:=Vz h ((GZ b.n).w.sum-b.w.sum).toNat b (by omega);exact c.2 (by rw[f];exact H.1 e)
def Kq:Nat->Nat->List BT
 |0,_=>[]
 |_+1,0=>[.lf]
 |f+1,n+1=>(List.range (n+1)).flatMap λi=>(Kq f i).flatMap λl=>(Kq f (n-i)).map λr=>.nd l r
theorem Uy:∀{x:BT}{f:Nat},x.n<f->x∈Kq f x.n
 |.lf,f+1,_=>by simp[BT.n,Kq]
 |.nd l r,f+1,h=>by have H:=h;simp only[BT.n]at H;simp only[BT.n,Kq,List.mem_flatMap,List.mem_range,List.mem_map];refine⟨l.n,by omega,l,Uy (by omega),r,?_,rfl⟩;rw[show l.n+r.n-l.n=r.n by omega];exact Uy (by omega)
theorem Ab1:∀n,n<=5->(Kq 6 n).length<=42:=by decide
theorem AAN:∀{l m:List (List Nat)},l.Nodup->(∀x∈l,x∈m)->l.length<=m.length
 |[],m,_,_=>by simp
 |a::l,m,h,s=>by
  have c:=s a (List.mem_cons_self ..);have b:=List.nodup_cons.1 h;have:=AAN (l:=l) (m:=m.erase a) b.2 (λx f=>by
   have H:x≠a:=by rintro rfl;exact b.1 f
   exact(List.mem_erase_of_ne H).2 (s x (BN _ f)))
  have e:=List.length_erase_of_mem c;have:0<m.length:=List.length_pos_of_mem c;simp only[AO];omega
def An(l:List BT)(i:Nat):BT:=l.getD i .lf
theorem IX{l:List BT}{i:Nat}(h:i<l.length):An l i=l[i]:=by simp[An,h]
theorem Fz{l:List BT}{i:Nat}(h:i<l.length):An l i∈l:=by rw[IX h];exact List.getElem_mem h
theorem Ks{l m:List BT}{i:Nat}(h:i<l.length):An (l++m) i=An l i:=by simp only[An,Ap];rw[DW h]
theorem Oi{l m:List Int}{i:Nat}(h:i<l.length):AB (l++m) (i:Nat)=AB l (i:Nat):=by simp only[AB,BM,Ap];rw[DW h]
theorem Gc{l:List BT}{i:Nat}(h:i<l.length):AG (l.map BT.t) (i:Nat)=(An l i).t:=by simp[AG,An,h]
def Dy(i:Nat)(S:List BT×List Int)(u:BT):List BT×List Int:=if u.t∈S.1.map BT.t then S else(S.1++[u],S.2++[(i:Int)])
def bfR(i:Nat)(S:List BT×List Int):List BT×List Int:=(D7 (An S.1 i)).foldl (Dy i) S
def AZ(a:BT):Nat->List BT×List Int
 |0=>([a],[-1])
 |i+1=>bfR i (AZ a i)
def FP(S T:List BT×List Int):Prop:=∃r q,T.1=S.1++r/\T.2=S.2++q
theorem FP.WB{S:List BT×List Int}:FP S S:=⟨[],[],by simp,by simp⟩
theorem FP.tr{S T U:List BT×List Int}(h:FP S T)(H:FP T U):FP S U:=by obtain⟨r,q,e,a⟩:=h;obtain⟨R,Q,b,c⟩:=H;exact⟨r++R,q++Q,by rw[b,e,CO],by rw[c,a,CO]⟩
theorem AQY{i:Nat}{S:List BT×List Int}{u:BT}:FP S (Dy i S u):=by unfold Dy;split;exact FP.WB;exact⟨[u],[(i:Int)],rfl,rfl⟩
theorem RJ{i:Nat}:∀{l:List BT}{S:List BT×List Int},FP S (l.foldl (Dy i) S)
 |[],S=>FP.WB
 |_::l,S=>AQY.tr (RJ (l:=l))
theorem AD2{a:BT}{i:Nat}:∀{j:Nat},FP (AZ a i) (AZ a (i+j))
 |0=>FP.WB
 |j+1=>(AD2 (j:=j)).tr RJ
theorem TB{a:BT}{i j:Nat}(h:i<=j):FP (AZ a i) (AZ a j):=by have:=AD2 (a:=a) (i:=i) (j:=j-i);rwa [show i+(j-i)=j by omega]at this
structure BI(a:BT)(S:List BT×List Int):Prop where
 len:S.2.length=S.1.length
 ns:∀z∈S.1,z.n=a.n
 nd:(S.1.map BT.t).Nodup
 hd:An S.1 0=a/\AB S.2 0=-1/\0<S.1.length
 par:∀k:Nat,0<k->k<S.1.length->0<=AB S.2 (k:Nat)/\AB S.2 (k:Nat)<k
theorem BI.add{a:BT}{S:List BT×List Int}{i:Nat}{u:BT}(h:BI a S)(F:u.n=a.n)(hi:i<S.1.length):BI a (Dy i S u):=by
 obtain⟨b,c,f,⟨g,j,o⟩,s⟩:=h;unfold Dy;split;exact⟨b,c,f,⟨g,j,o⟩,s⟩;rename_i C;refine⟨by simp[b],λz J=>?_,?_,⟨?_,?_,by simp⟩,λk B H=>?_⟩;rcases Ac.1 J with q|q;exact c z q;rw[List.mem_singleton.1 q];exact F;simp only[List.map_append,List.map_cons,List.map_nil];refine List.nodup_append.2 ⟨f,by simp,?_⟩;intro x G y I;rw[List.mem_singleton.1 I];rintro rfl;exact C G;rw[Ks o];exact g;have:=Oi (l:=S.2) (m:=[(i:Int)]) (i:=0) (by omega);simp only[Int.ofNat_eq_natCast,Int.natCast_zero]at this;exact this.trans j;simp only[A4,AO,A6]at H;by_cases q:k<S.1.length;rw[Oi (by omega)];exact s k B q;have e:AB (S.2++[(i:Int)]) (k:Nat)=i:=by
  obtain rfl:k=S.2.length:=by omega
  simp[AB]
 rw[e];omega
theorem BI.fold{a:BT}{i:Nat}:∀{l:List BT}{S:List BT×List Int},BI a S->(∀u∈l,u.n=a.n)->i<S.1.length->BI a (l.foldl (Dy i) S)
 |[],S,h,_,_=>h
 |u::l,S,h,H,hi=>by refine BI.fold (l:=l) (h.add (H u (List.mem_cons_self ..)) hi) (λx b=>H x (BN _ b)) ?_;obtain⟨r,q,e,_⟩:=AQY (i:=i) (S:=S) (u:=u);rw[e,A4];omega
theorem AjB:D7 .lf=[]:=rfl
theorem J7{a:BT}:∀i,BI a (AZ a i)
 |0=>⟨rfl,by simp[AZ],by simp[AZ],⟨rfl,rfl,by simp[AZ]⟩,λk h H=>by simp[AZ]at H;omega⟩
 |i+1=>by
  have h:=J7 (a:=a) i;simp only[AZ,bfR];by_cases q:i<(AZ a i).1.length;exact h.fold (λu b=>(XM b).trans (h.ns _ (Fz q))) q;have e:An (AZ a i).1 i=.lf:=by simp[An,Nat.le_of_not_lt q]
  rw[e,AjB];exact h
theorem BI.My{a:BT}{S:List BT×List Int}(h:BI a S)(c:a.n<=5):S.1.length<=42:=by have b:=AAN (l:=S.1.map BT.t) (m:=(Kq 6 a.n).map BT.t) h.nd (λx e=>by obtain⟨z,H,rfl⟩:=List.mem_map.1 e;refine List.mem_map.2 ⟨z,?_,rfl⟩;have:=Uy (x:=z) (f:=6) (by have:=h.ns z H;omega);rw[h.ns z H]at this;exact this);have g:=Ab1 a.n c;simp only[List.length_map]at b;omega
theorem AY8{i:Nat}{S:List BT×List Int}{u:BT}:u.t∈(Dy i S u).1.map BT.t:=by unfold Dy;split;assumption;simp
theorem FP.mem{S T:List BT×List Int}(h:FP S T){t:List Nat}(H:t∈S.1.map BT.t):t∈T.1.map BT.t:=by obtain⟨r,q,e,_⟩:=h;rw[e,List.map_append];exact BX _ H
theorem ACI{i:Nat}{u:BT}:∀{l:List BT}{S:List BT×List Int},u∈l->u.t∈(l.foldl (Dy i) S).1.map BT.t
 |v::l,S,h=>by rcases A7.1 h with rfl|h;exact(RJ (l:=l)).mem AY8;exact ACI (l:=l) h
theorem AYE{a:BT}{i j:Nat}(h:j<i)(c:j<(AZ a j).1.length){u:BT}(H:u∈D7 (An (AZ a i).1 j)):u.t∈(AZ a i).1.map BT.t:=by
 obtain⟨r,q,e,_⟩:=TB (a:=a) (i:=j) (j:=i) (by omega);rw[e,Ks c]at H;have b:u.t∈(AZ a (j+1)).1.map BT.t:=by simp only[AZ,bfR];exact ACI H
 exact(TB (a:=a) (i:=j+1) (j:=i) (by omega)).mem b
theorem QL{P:Nat->Prop}:∀{n:Nat},P n->∃m,m<=n/\P m/\∀j,j<m->¬P j
 |n,h=>by by_cases q:∃j,j<n/\P j;obtain⟨j,a,H⟩:=q;obtain⟨m,e,b,c⟩:=QL H;exact⟨m,by omega,b,c⟩;exact⟨n,Nat.le_refl _,h,λj a H=>q ⟨j,a,H⟩⟩
termination_by n=>n
theorem AdA{a:BT}(x:a.n<=5):∃N,N<=42/\(AZ a N).1.length=N/\(∀j,j<N->j<(AZ a j).1.length)/\∀b:BT,b.n=a.n->b.t∈(AZ a N).1.map BT.t:=by
 obtain⟨N,l,o,g⟩:=QL (P:=λN=>(AZ a N).1.length<=N) (n:=42) ((J7 42).My x);have s:(AZ a N).1.length=N:=by
  have h0:N≠0:=by rintro rfl;simp[AZ]at o
  obtain⟨M,rfl⟩:∃M,N=M+1:=⟨N-1,by omega⟩;have G:=g M (by omega);obtain⟨r,q,e,_⟩:=TB (a:=a) (i:=M) (j:=M+1) (by omega);have H:(AZ a (M+1)).1.length=(AZ a M).1.length+r.length:=by rw[e,A4]
  omega
 have h:∀j,j<N->j<(AZ a j).1.length:=λj c=>by have:=g j c;omega
 refine⟨N,l,s,h,λb B=>?_⟩;refine conn (P:=λz=>z.t∈(AZ a N).1.map BT.t) (λz u F f=>?_) (a:=a) ?_ B;obtain⟨y,C,e⟩:=List.mem_map.1 F;rw[<-VZ e]at f;obtain⟨j,c,k⟩:=List.getElem_of_mem C;rw[<-k,<-IX c]at f;exact AYE (by omega) (h j (by omega)) f;have:=(J7 (a:=a) N).hd;have H:=Fz this.2.2;rw[this.1]at H;exact List.mem_map.2 ⟨a,H,rfl⟩
def Dd(S:List BT×List Int):Nat->Nat->List (List Nat)
 |0,_=>[]
 |f+1,k=>(if AB S.2 (k:Nat)<0 then []else Dd S f (AB S.2 (k:Nat)).toNat)++[(An S.1 k).t]
theorem Qi{S:List BT×List Int}:∀{f k:Nat},(Dd S f k).length<=f
 |0,_=>by simp[Dd]
 |f+1,k=>by simp only[Dd,A4,AO,A6];split;simp;have:=Qi (S:=S) (f:=f) (k:=(AB S.2 (k:Nat)).toNat);omega
theorem Rz{a:BT}{S:List BT×List Int}(h:BI a S):∀{f k:Nat},k<f->k<S.1.length->Dd S f k=Dd S (k+1) k
 |f+1,k,c,b=>by
  simp only[Dd]
  by_cases q:AB S.2 (k:Nat)<0
  rw[if_pos q,if_pos q]
  rw[if_neg q,if_neg q]
  have H:0<k:=by
   rcases Nat.eq_zero_or_pos k with rfl|h0
   exact absurd (show AB S.2 ((0:Nat):Int)<0 by have:=h.hd.2.1;simp only[Int.ofNat_eq_natCast,Int.natCast_zero];omega) q
   exact h0
  have e:=h.par k H b
  rw[Rz h (f:=f) (by omega) (by omega),Rz h (f:=k) (by omega) (by omega)]
termination_by f=>f
theorem AC9{a:BT}{S T:List BT×List Int}(h:BI a S)(j:FP S T):∀{f k:Nat},k<S.1.length->Dd S f k=Dd T f k
 |0,_,_=>rfl
 |f+1,k,c=>by
  obtain⟨r,q,e,b⟩:=j
  simp only[Dd]
  have o:=h.len
  have g:AB T.2 (k:Nat)=AB S.2 (k:Nat):=by rw[b,Oi (by omega)]
  have i:An T.1 k=An S.1 k:=by rw[e,Ks c]
  rw[g,i]
  by_cases q:AB S.2 (k:Nat)<0
  rw[if_pos q,if_pos q]
  rw[if_neg q,if_neg q]
  have H:0<k:=by
   rcases Nat.eq_zero_or_pos k with rfl|h0
   exact absurd (show AB S.2 ((0:Nat):Int)<0 by have:=h.hd.2.1;simp only[Int.ofNat_eq_natCast,Int.natCast_zero];omega) q
   exact h0
  have l:=h.par k H c
  rw[AC9 h ⟨r,_,e,b⟩ (f:=f) (by omega)]
end Go.Cat
namespace Go.Cat
variable{K:Nat->List D->List D->Prop}
theorem AfT{l r:BT}{j:Nat}(h:j<l.n):AB (BT.nd l r).w (j:Nat)=AB l.w (j:Nat):=by rw[<-Bu]at h;simp only[BT.w,CO];exact Oi h
theorem AZW{l r:BT}{j:Nat}:AB (BT.nd l r).w ((l.n+1+j:Nat):Int)=AB r.w (j:Nat):=by
 have e:(l.w++[(r.n:Int)]).length=l.n+1:=by simp[Bu]
 simp only[BT.w,AB,BM,Ap];rw[G7 (by omega),e,Nat.add_sub_cancel_left]
theorem AdV{l r:BT}:sub (BT.nd l r).w 0 (l.n:Nat)=l.w:=by have e:=Bu (x:=l);simp only[BT.w,sub,BM,Int.toNat_zero,List.drop_zero,CO];rw[<-e,List.take_left]
theorem AbJ{l r:BT}{k:Nat}(h:k=(BT.nd l r).w.length):sub (BT.nd l r).w ((l.n:Int)+1) (k:Nat)=r.w:=by
 have e:(l.w++[(r.n:Int)]).length=l.n+1:=by simp[Bu]
 have a:((l.n:Int)+1).toNat=l.n+1:=by omega
 subst h;simp only[sub,BM,List.take_length,a];rw[<-e];simp only[BT.w];rw[List.drop_left]
theorem AWA{m:List Int}{i j:Nat}(h:j<i)(hi:i<=m.length):AB (sub m 0 (i:Nat)) (j:Nat)=AB m (j:Nat):=by simp[sub,AB,List.getElem?_take,h]
theorem AYT{m:List Int}{i k j:Nat}(h:k=m.length):AB (sub m ((i:Int)+1) (k:Nat)) (j:Nat)=AB m ((i+1+j:Nat):Int):=by
 subst h;have e:((i:Int)+1).toNat=i+1:=by omega
 simp only[sub,AB,BM,List.take_length,e,Ap,List.getElem?_drop]
theorem Ub[HA K]:∀(d:Nat)(m:List Int),m.length=d->d<=8->(∀j:Nat,j<d->0<=AB m (j:Nat)/\AB m (j:Nat)<=8)->∃x:BT,x.n<=d/\K 621 [LI m] [.s x.t]/\∀y:BT,m=y.w->x=y
 |d,m,G,Y,g=>by
  by_cases c:∃i:Nat,i<d/\(d:Int)-1<=i+AB m (i:Nat)
  obtain⟨Z,h0,k⟩:=c
  obtain⟨i,L,⟨B,M⟩,e⟩:=QL (P:=λi:Nat=>i<d/\(d:Int)-1<=i+AB m (i:Nat)) ⟨h0,k⟩
  have T:(sub m 0 (i:Nat)).length=i:=by simp[sub];omega
  have U:(sub m ((i:Int)+1) (m.length:Nat)).length=d-i-1:=by simp[sub];omega
  obtain⟨I,n1,Q,V⟩:=Ub i (sub m 0 (i:Nat)) T (by omega) (λj f=>by rw[AWA f (by omega)];exact g j (by omega))
  obtain⟨J,n2,R,W⟩:=Ub (d-i-1) (sub m ((i:Int)+1) (m.length:Nat)) U (by omega) (λj f=>by rw[AYT rfl];exact g _ (by omega))
  have t1:=BT.tl I
  have t2:=BT.tl J
  refine⟨.nd I J,by simp only[BT.n];omega,?_,λy h=>?_⟩
  have N:=g i B
  refine qw ZU ?_
  refine AN (λ_=>True) (λi=>[LI m,.u,.n i,.u,.u]) i trivial rfl (λj f _=>?_) (λ_=>?_)
  have F:=g j (by omega)
  have O:¬(d:Int)-1<=j+AB m (j:Nat):=λq=>e j f ⟨by omega,q⟩
  exact wZ
  refine wW ?_
  refine cW Q ?_
  refine cW R ?_
  simp[BT.t]
  have hd:y.n=d:=by rw[<-G,h,Bu]
  cases y with
  |lf=>simp only[BT.n]at hd;omega
  |nd a b=>
   have H:=hd
   simp only[BT.n]at H
   have C:i=a.n:=by
    have o:=MZ (l:=a) (r:=b)
    rw[<-h]at o
    rcases Nat.lt_trichotomy i a.n with q|q|q
    .have:=Rk (l:=a) (r:=b) q
     rw[<-h]at this
     omega
    .exact q
    .exact absurd ⟨by omega,by omega⟩ (e a.n q)
   subst C
   rw[V a (by rw[h];exact AdV),W b (by rw[h];exact AbJ rfl)]
  refine⟨.lf,by simp only[BT.n];omega,?_,λy h=>?_⟩
  refine qw ZU ?_
  refine AN (λ_=>True) (λi=>[LI m,.u,.n i,.u,.u]) d trivial rfl (λj f _=>?_) (λ_=>?_)
  have F:=g j (by omega)
  have O:¬(d:Int)-1<=j+AB m (j:Nat):=λq=>c ⟨j,by omega,q⟩
  exact wZ
  exact wZ
  cases y with
  |lf=>rfl
  |nd a b=>
   have hd:(BT.nd a b).n=d:=by rw[<-G,h,Bu]
   have H:=hd
   simp only[BT.n]at H
   have o:=MZ (l:=a) (r:=b)
   rw[<-h]at o
   exact absurd ⟨a.n,by omega,by omega⟩ c
termination_by d=>d
theorem Y3[HA K]:∀(d:Nat)(l:List Int)(f:Nat),f+d<=l.length->l.length<=8->(∀j:Nat,j<l.length->0<=AB l (j:Nat)/\AB l (j:Nat)<=8)->∃x:BT,x.n<=d/\K 622 [LI l,.n f,.n ((f+d:Nat):Int)] [x.d]/\∀y:BT,y.n=d->(∀j:Nat,j<d->AB l ((f+j:Nat):Int)=AB y.w (j:Nat))->x=y
 |d,l,f,W,G,k=>by
  by_cases c:∃i:Nat,i<d/\AB l ((f+i:Nat):Int)=(d:Int)-1-i
  obtain⟨Y,h0,s⟩:=c
  obtain⟨i,M,⟨N,O⟩,e⟩:=QL (P:=λi:Nat=>i<d/\AB l ((f+i:Nat):Int)=(d:Int)-1-i) ⟨h0,s⟩
  obtain⟨T,Z,Q,U⟩:=Y3 i l f (by omega) G k
  obtain⟨V,n2,J,R⟩:=Y3 (d-i-1) l (f+i+1) (by omega) G k
  rw[show f+i+1+(d-i-1)=f+d by omega]at J
  refine⟨.nd T V,by simp only[BT.n];omega,?_,λy o h=>?_⟩
  refine qw AIV ?_
  refine AN (λ_=>True) (λi=>[LI l,.n f,.n ((f+d:Nat):Int),.u,.n ((f+i:Nat):Int),.u,.u]) i trivial rfl (λj g _=>?_) (λ_=>?_)
  have F:=k (f+j) (by omega)
  have I:¬AB l ((f+j:Nat):Int)=((f+d:Nat):Int)-1-((f+j:Nat):Int):=λq=>e j g ⟨by omega,by omega⟩
  exact wZ
  have I:AB l ((f+i:Nat):Int)=((f+d:Nat):Int)-1-((f+i:Nat):Int):=by omega
  refine wW ?_
  refine cW Q ?_
  have L:((f+i:Nat):Int)+1=((f+i+1:Nat):Int):=by omega
  rw[L]
  refine cB J ?_
  simp(disch:=try exact dV) only[AD,BT.SN]
  rfl
  cases y with
  |lf=>simp only[BT.n]at o;omega
  |nd a b=>
   have H:=o
   simp only[BT.n]at H
   have C:i=a.n:=by
    have B:=MZ (l:=a) (r:=b)
    rw[<-h a.n (by omega)]at B
    rcases Nat.lt_trichotomy i a.n with q|q|q
    .have:=Rk (l:=a) (r:=b) q
     rw[<-h i (by omega)]at this
     omega
    .exact q
    .exact absurd ⟨by omega,by omega⟩ (e a.n q)
   subst C
   rw[U a rfl (λj g=>by rw[h j (by omega),AfT g]),R b (by omega) (λj g=>by rw[show f+a.n+1+j=f+(a.n+1+j) by omega,h _ (by omega),AZW])]
  refine⟨.lf,by simp only[BT.n];omega,?_,λy o h=>?_⟩
  refine qw AIV ?_
  refine AN (λ_=>True) (λi=>[LI l,.n f,.n ((f+d:Nat):Int),.u,.n ((f+i:Nat):Int),.u,.u]) d trivial rfl (λj g _=>?_) (λ_=>?_)
  have F:=k (f+j) (by omega)
  have I:¬AB l ((f+j:Nat):Int)=((f+d:Nat):Int)-1-((f+j:Nat):Int):=λq=>c ⟨j,by omega,by omega⟩
  exact wZ
  exact wZ
  cases y with
  |lf=>rfl
  |nd a b=>
   have H:=o
   simp only[BT.n]at H
   have B:=MZ (l:=a) (r:=b)
   rw[<-h a.n (by omega)]at B
   exact absurd ⟨a.n,by omega,by omega⟩ c
termination_by d=>d
theorem AiV[HA K]{l:List Int}(g:l.length<=8)(f:∀j:Nat,j<l.length->0<=AB l (j:Nat)/\AB l (j:Nat)<=(l.length:Int)-1-j):∃r:Option BT,(∀x,r=some x->x.w=l)/\K 620 [LI l] (Ef r)/\K 619 [LI l] (Ef r):=by
 obtain⟨a,N,k,U⟩:=Y3 (K:=K) l.length l 0 (by omega) g (λj H=>by have:=f j H;omega);obtain⟨xs,ns,ks,us⟩:=Ub (K:=K) l.length l rfl g (λj H=>by have:=f j H;omega);have W:=Bu (x:=a);have ws:=Bu (x:=xs);simp only[Nat.zero_add]at k U;refine⟨if a.w=l then some a else none,λx b=>?_,?_,?_⟩;split at b;injection b with b;subst b;assumption
 cases b;refine qw I620 ?_;have o:((0:Nat):Int)=0:=rfl;rw[o]at k;refine cW k ?_;refine cW (K4 (by omega)) ?_;refine cW (Ms (by omega)) ?_;refine cB (AJF (by omega)) ?_;by_cases h:a.w=l;rw[decide_eq_true h,if_pos h];exact wZ;rw[decide_eq_false h,if_neg h];exact wZ;refine qw I619 ?_;refine AN (λ_=>True) (λi=>[LI l,.u,.u,.n i,.u,.u,.u,.u,.u]) l.length trivial rfl (λj H _=>?_) (λ_=>?_);have B:=f j H;have c:AR 0 ((l.length:Int)-1-j) (AB l (j:Nat))=true:=A5.2 (by omega);refine wW ?_;refine cB Bt ?_;rw[c];exact wZ;refine wW ?_;refine cW ks ?_;refine cW (MT (by omega)) ?_;refine cB (Ag5 (by omega)) ?_;by_cases h:a.w=l;have e:=us a h.symm;subst e;rw[decide_eq_true h,if_pos h];exact wZ;have s:¬xs.w=l:=by
  intro q;have C:xs.n=l.length:=by rw[<-Bu,q]
  have:=U xs C (λj H=>by rw[<-q]);rw[this]at h;exact h q
 rw[decide_eq_false s,if_neg h];exact wZ
def I5(x y:BT)(k:Nat):List Int:=(List.range k).map λi:Nat=>min (AB x.w (i:Nat)) (AB y.w (i:Nat))
theorem O8{x y:BT}{k:Nat}:(I5 x y k).length=k:=by simp[I5]
theorem AjX{x y:BT}{k:Nat}:I5 x y (k+1)=I5 x y k++[min (AB x.w (k:Nat)) (AB y.w (k:Nat))]:=by simp[I5,List.range_succ]
theorem Zv{x y:BT}{k i:Nat}(h:i<k):AB (I5 x y k) (i:Nat)=min (AB x.w (i:Nat)) (AB y.w (i:Nat)):=by simp[I5,AB,h]
theorem AIH[HA K]{x y:BT}(a:x.n<=8)(h:x.n=y.n):∃r:Option BT,(∀z,r=some z->z.n=x.n)/\K 614 [.s x.t,.s y.t] (Ef r)/\K 609 [.s x.t,.s y.t] (Ef r):=by
 have L:=Bu (x:=x);have I:=Bu (x:=y);obtain⟨r,R,g,ks⟩:=AiV (K:=K) (l:=I5 x y x.n) (by rw[O8];exact a) (λj H=>by rw[O8]at H|-;rw[Zv H];have C:=Gv (x:=x) (i:=j) H;have F:=Gv (x:=y) (i:=j) (by omega);omega);refine⟨r,λz B=>by rw[<-Bu,R z B,O8],?_,?_⟩;have b:=Je (K:=K) (x:=x) (y:=y) (m:=8) a (by omega) (by omega);rw[decide_eq_true (p:=(x.n:Int)<=8) (by omega),decide_eq_true h,Bool.and_self]at b;rw[Ef]at g|-;refine qw I614 ?_;refine cW b ?_;refine cW (Ms a) ?_;refine cW (Ms (by omega)) ?_;refine Aj (λi (z:List Int)=>z.length=x.n/\∀j:Nat,j<x.n->AB z (j:Nat)=if j<i then min (AB x.w (j:Nat)) (AB y.w (j:Nat))else AB x.w (j:Nat)) (λi z=>[.u,.u,.u,.u,LI z,LI y.w,.u,.u,.n x.w.length,.n i,.u]) x.w.length x.w ⟨L,λj H=>by rw[if_neg (by omega)]⟩ rfl (λi z hi c=>?_) (λz c=>?_);obtain⟨e,P⟩:=c;have f:=P i (by omega);rw[if_neg (by omega)]at f;simp(disch:=try exact dV) only[AD,f];refine⟨_,⟨by rw[DO];exact e,λj H=>?_⟩,rfl⟩;rw[H6 (by omega),P j H];by_cases q:i=j;subst q;rw[if_pos rfl,if_pos (by omega)];rw[if_neg q];by_cases Q:j<i;rw[if_pos Q,if_pos (by omega)];rw[if_neg Q,if_neg (by omega)];obtain⟨e,P⟩:=c;have o:z=I5 x y x.n:=by refine AKA (by rw[O8];exact e) λj H=>?_;rw[P j (by omega),if_pos (by omega),Zv (by omega)]
 rw[o];refine wW ?_;exact cZ g;have b:=JY (K:=K) (x:=x) (y:=y) a (by omega);rw[decide_eq_true h]at b;rw[Ef]at ks|-;refine qw I609 ?_;refine cW b ?_;refine cW (MT a) ?_;refine cW (MT (by omega)) ?_;refine AN (λ_=>True) (λi=>[.u,.u,.u,.u,LI x.w,LI y.w,LI (I5 x y i),.n i,.u,.u,.u,.u]) x.w.length trivial rfl (λi hi _=>?_) (λ_=>?_);have G:=O8 (x:=x) (y:=y) (k:=i);refine wW ?_;rw[AjX];rw[L];refine wW ?_;exact cZ ks
theorem ATL[HA K]{x y:BT}(H:x.n<=8)(h:x.n=y.n):∃r:Option BT,(∀z,r=some z->z.n=x.n)/\K 615 [.s x.t,.s y.t] (Ef r)/\K 610 [.s x.t,.s y.t] (Ef r):=by
 have mx:=Hz (x:=x);have M:=Hz (x:=y);obtain⟨r,R,k,ks⟩:=AIH (K:=K) (x:=x.DP) (y:=y.DP) (by omega) (by omega);have b:=JY (K:=K) (x:=x) (y:=y) H (by omega);rw[decide_eq_true h]at b
 cases r with
 |none=>
  refine⟨none,by simp,?_,?_⟩
  .rw[Ef]at k|-
   simp only[Option.isSome_none,Option.elim_none]at k|-
   refine qw ACW ?_
   refine cW (MV H) ?_
   refine cW (MV (by omega)) ?_
   exact cZ k
  .rw[Ef]at ks|-
   simp only[Option.isSome_none,Option.elim_none]at ks|-
   refine qw ARP ?_
   refine cW b ?_
   refine cW (KH H) ?_
   refine cW (KH (by omega)) ?_
   exact cZ ks
 |some z=>
  have e:=R z rfl
  have c:=Hz (x:=z)
  refine⟨some z.DP,λu a=>by injection a with a;subst a;omega,?_,?_⟩
  .rw[Ef]at k|-
   simp only[Option.isSome_some,Option.elim_some]at k|-
   refine qw ACW ?_
   refine cW (MV H) ?_
   refine cW (MV (by omega)) ?_
   refine cW k ?_
   exact cZ (MV (by omega))
  .rw[Ef]at ks|-
   simp only[Option.isSome_some,Option.elim_some]at ks|-
   refine qw ARP ?_
   refine cW b ?_
   refine cW (KH H) ?_
   refine cW (KH (by omega)) ?_
   refine cW ks ?_
   exact cZ (KH (by omega))
end Go.Cat
