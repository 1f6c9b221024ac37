/-
 Levels of leaves, heights.
-/
import Derived.Test.YthoilpmggmenbaaGreatPfRotA
set_option linter.unusedSimpArgs false
set_option linter.unusedVariables false
namespace Go.Cat
variable{K:Nat->List D->List D->Prop}
def ER(s:Int×List Int)(c:Nat):Int×List Int:=if c=40 then(s.1+1,s.2)else if c=41 then(s.1-1,s.2)else(s.1,s.2++[s.1])
theorem Uy:∀{x:BT}{h:Int}{o:List Int},x.t.foldl ER (h,o)=(h,o++DA x h)
 |.lf,h,o=>by simp[BT.t,ER,DA]
 |.nd l r,h,o=>by have e:(BT.nd l r).t=40::(l.t++(r.t++[41])):=rfl;rw[e,List.foldl_cons,List.foldl_append,List.foldl_append,show ER (h,o) 40=(h+1,o)from rfl,Uy (x:=l),Uy (x:=r)];simp[ER,DA]
theorem AVS:∀{s:List Nat},-(s.length:Int)<=(s.foldl ER (0,[])).1/\(s.foldl ER (0,[])).1<=s.length/\(s.foldl ER (0,[])).2.length<=s.length:=by
 intro s;have key:∀(s:List Nat)(a:Int×List Int),a.1-s.length<=(s.foldl ER a).1/\(s.foldl ER a).1<=a.1+s.length/\(s.foldl ER a).2.length<=a.2.length+s.length:=by
  intro s;induction s with
  |nil=>intro a;simp
  |cons c s i=>
   intro a
   have:=i (ER a c)
   rw[List.foldl_cons,AP]
   have h:a.1-1<=(ER a c).1/\(ER a c).1<=a.1+1/\(ER a c).2.length<=a.2.length+1:=by
    unfold ER
    split
    .simp only;omega
    .split
     .simp only;omega
     .simp only[AW,AP,A5];omega
   omega
 have:=key s (0,[]);simp only[A5]at this;omega
theorem ll_s[HA K]{x:BT}(h:x.n<=8):K 190 [.s x.t] [LI (DA x 0)]:=by
 have j:=BT.tl x;have f:=Uy (x:=x) (h:=0) (o:=[]);have k:=Ev (K:=K) (s:=x.t);rw[GN h]at k;have H:=BT.M8 x;generalize x.t=w at j f k H|-;refine qw I190 ?_;refine Ah (λi (r:Int×List Int)=>r=(w.take i).foldl ER (0,[])) (λi r=>[.s w,.u,LI r.2,.n r.1,.n i,.u,.u,.u,.u]) w.length (0,[]) rfl rfl (λi r hi P=>?_) (λr P=>?_);have g:=AVS (s:=w.take i);rw[<-P,List.length_take]at g;have a:(w.take (i+1)).foldl ER (0,[])=ER r (w[i]'hi):=by rw[CQ hi,List.foldl_append,<-P]<;>rfl
 have c:w[i]'hi=AH w i:=by simp[AH,hi]
 rw[c]at a;by_cases b:AH w i=40;refine wW ?_;refine cW k ?_;refine⟨(r.1+1,r.2),?_,rfl⟩;rw[a,ER,if_pos b];by_cases e:AH w i=41;refine wW ?_;refine cW k ?_;refine⟨(r.1-1,r.2),?_,rfl⟩;rw[a,ER,if_neg b,if_pos e];refine wW ?_;refine cW k ?_;refine⟨(r.1,r.2++[r.1]),?_,rfl⟩;rw[a,ER,if_neg b,if_neg e];refine wW ?_;rw[P,List.take_of_length_le (Nat.le_refl _),f]<;>rfl
theorem ll_i[HA K]{x:BT}(h:x.n<=8):K 198 [.s x.t] [LI (DA x 0)]:=by have k:=YK (K:=K) (x:=x) (d:=0) (o:=[]) h (by omega) (by omega) (by simp only[A5];omega);refine qw I198 ?_;refine cB (Kz h) ?_;simp(disch:=try exact dV) only[AD,BT.Dg];exact cZ k
def Ib(x:BT):Int:=(DA x 0).foldl max 0
theorem foldl_max{l:List Int}{a:Int}(h:∀y∈l,0<=y)(H:l≠[])(b:a<=0):l.foldl max a=l.foldl max 0:=by
 cases l with
 |nil=>exact(H rfl).elim
 |cons y l=>
  have:=h y (by simp)
  rw[List.foldl_cons,List.foldl_cons]
  congr 1;omega
theorem WC{l:List Int}{a m:Int}(h:∀y∈l,0<=y/\y<=m)(H:-1<=a/\a<=m):-1<=l.foldl max a/\l.foldl max a<=m:=by
 induction l generalizing a with
 |nil=>exact H
 |cons y l i=>
  rw[List.foldl_cons]
  have:=h y (by simp)
  exact i (λz b=>h z (by simp[b])) (by omega)
theorem ADI{l:List Int}{i:Nat}{a:Int}(h:i<l.length):(l.take (i+1)).foldl max a=max ((l.take i).foldl max a) (AB l (i:Nat)):=by rw[CQ h,List.foldl_append];simp[AB,h]
theorem ht_i[HA K]{x:BT}(h:x.n<=8):K 170 [.s x.t] [.n (Ib x)]:=by
 have f:=PK (x:=x) (d:=0);have c:∀y∈DA x 0,0<=y/\y<=8:=λy H=>by have:=QH H;omega
 refine qw I170 ?_;refine cB Ka ?_;simp(disch:=try exact dV) only[AD,GN h];refine cW (ll_i h) ?_;refine Ah (λi (r:Int)=>r=((DA x 0).take i).foldl max 0) (λi r=>[.u,.u,.n r,.u,.u,LI (DA x 0),.n (DA x 0).length,.n i,.u]) (DA x 0).length 0 rfl rfl (λi r hi P=>?_) (λr P=>?_);have b:=WC (l:=(DA x 0).take i) (a:=0) (m:=8) (λy H=>c y (List.mem_of_mem_take H)) (by omega);rw[<-P]at b;have e:=ADI (a:=0) hi;refine wW ?_;refine⟨_,?_,rfl⟩;rw[e,P];refine wW ?_;rw[P,List.take_of_length_le (Nat.le_refl _)]<;>rfl
theorem ht_s[HA K]{x:BT}(h:x.n<=8):K 163 [.s x.t] [.n (Ib x)]:=by
 have b:=PK (x:=x) (d:=0);have c:∀y∈DA x 0,0<=y/\y<=8:=λy H=>by have:=QH H;omega
 have f:(DA x 0).foldl max (-1)=Ib x:=foldl_max (λy H=>(c y H).1) (by intro q;rw[q]at b;cases b) (by omega);refine qw I163 ?_;refine cW (ll_s h) ?_;refine Ah (λi (r:Int)=>r=((DA x 0).take i).foldl max (-1)) (λi r=>[.u,.u,LI (DA x 0),.n r,.n i,.u]) (DA x 0).length (-1) rfl rfl (λi r hi P=>?_) (λr P=>?_);have e:=WC (l:=(DA x 0).take i) (a:=-1) (m:=8) (λy H=>c y (List.mem_of_mem_take H)) (by omega);rw[<-P]at e;have g:=ADI (a:=-1) hi;refine wW ?_;refine⟨_,?_,rfl⟩;rw[g,P];refine wW ?_;rw[P,List.take_of_length_le (Nat.le_refl _),f]
end Go.Cat
namespace Go.Cat
variable{K:Nat->List D->List D->Prop}
def EP(l:List Int):List Nat:=if l=[]then [110,111,110,101]else glue [44] (l.map AQ)
def HQ(l:List Int):Prop:=∀x∈l,-9223372036854775808<=x/\x<=9223372036854775807
theorem ASI{l:List Int}(h:HQ l){i:Nat}(hi:i<l.length):-9223372036854775808<=AB l i/\AB l i<=9223372036854775807:=h _ (by simp[AB,hi])
theorem YM{α:Type}{l:List Int}{f:Int->α}{i:Nat}(h:i<l.length):(l.take (i+1)).map f=(l.take i).map f++[f (AB l i)]:=by rw[CQ h,List.map_append];simp[AB,h]
theorem JN{l:List Int}(h:HQ l):(EP l).length<=l.length*21+4:=by
 unfold EP;split;simp;have:=Np (sep:=[44]) (ws:=l.map AQ) (b:=20) λx H=>by obtain⟨y,a,rfl⟩:=List.mem_map.1 H;exact Aw (h y a)
 simp only[List.length_map,AP,A5]at this;omega
theorem PY[HA K]{l:List Int}(h:l.length<=1000)(H:HQ l):K 142 [LI l] [.s (EP l)]:=by
 refine qb I142 ?_;by_cases h0:l=[];subst h0;have e:(([]:List Int).length:Int)=0:=rfl;simp(disch:=try exact dV) only[AD,e];rfl;have j:0<l.length:=List.length_pos_iff.2 h0;refine wW ?_;refine Ah (λi (r:List (List Nat))=>r=(l.take i).map AQ) (λi r=>[.u,.u,LS r,.u,.u,LI l,.n l.length,.n i,.u]) l.length [] rfl rfl (λi r hi P=>?_) (λr P=>?_);have k:r.length=i:=by rw[P];simp;omega
 have f:=ASI H hi;refine wW ?_;refine cW (C8 f) ?_;refine⟨_,?_,rfl⟩;rw[P,YM hi];rw[List.take_of_length_le (by omega)]at P;have b:∀x∈r,x.length<=100000:=λx a=>by rw[P]at a;obtain⟨y,g,rfl⟩:=List.mem_map.1 a;have:=Aw (H y g);omega
 have c:r.length<=100000:=by rw[P];simp;omega
 refine wW ?_;refine cW (JW c b (by simp)) ?_;rw[EP,if_neg h0,P]
theorem QU[HA K]{l:List Int}(h:l.length<=1000)(f:HQ l):K 137 [LI l] [.s (EP l)]:=by
 refine qw I137 ?_;have a:∀i,(glue [44] ((l.take i).map AQ)).length<=21000:=λi=>by
  have:=Np (sep:=[44]) (ws:=(l.take i).map AQ) (b:=20) λx g=>by obtain⟨y,j,rfl⟩:=List.mem_map.1 g;exact Aw (f y (List.mem_of_mem_take j))
  simp only[List.length_map,AP,A5,List.length_take]at this;omega
 refine Ah (λi (s:List Nat)=>s=glue [44] ((l.take i).map AQ)) (λi s=>[LI l,.u,.s s,.n i,.u,.u,.u]) l.length [] rfl rfl (λi s hi P=>?_) (λs P=>?_);have H:=ASI f hi;have k:=Aw H;have c:=a i;rw[<-P]at c;by_cases h0:0<i;refine wW ?_;refine cW (CB H) ?_;refine⟨_,?_,rfl⟩;rw[YM hi,R7,<-P,if_pos (by simp;omega)];refine wW ?_;refine cW (CB H) ?_;refine⟨_,?_,rfl⟩;rw[YM hi,R7,<-P,if_neg (by simp;omega)];simp;rw[List.take_of_length_le (by omega)]at P;by_cases h0:l=[];have c:s=[]:=by rw[P,h0];rfl
 subst c;refine wW ?_;rw[EP,if_pos h0];have c:s≠[]:=by obtain⟨L,x,rfl⟩:∃L x,l=L++[x]:=⟨l.dropLast,l.getLast h0,(List.dropLast_concat_getLast h0).symm⟩;rw[P,List.map_append,List.map_cons,List.map_nil,R7];intro e;have:=congrArg List.length e;have:=Tl (n:=x);simp only[AW,A5]at*;omega
 have H:(s==[])=false:=by simpa using c
 simp(disch:=try exact dV) only[AD,H];rw[EP,if_neg h0,P]
end Go.Cat
namespace Go.Cat
set_option maxRecDepth 100000
def Nw(v:List Nat):Prop:=v.length<=100000/\10∉v
theorem AOR:∀{n:Nat},10∉Cd n:=by
 intro n;induction n using Nat.strongRecOn with
 |_ n i=>
  by_cases h0:n=0
  .subst h0;simp[Cd]
  .rw[Hf h0,A9,List.mem_singleton]
   rintro(q|q)
   .exact i (n/10) (by omega) q
   .omega
theorem Fh{n:Int}:10∉AQ n:=by unfold AQ;split;decide;split;rw[A6];rintro(q|q);omega;exact AOR q;exact AOR
theorem RL{ws:List (List Nat)}{i:Int}(h:∀x∈ws,10∉x):10∉AF ws i:=by
 rcases BQ i.toNat ws.length with q|q;exact h _ (by simp[AF,q])
 simp[AF,q]
theorem KU{s:List Nat}{ws:List (List Nat)}(H:10∉s)(h:∀x∈ws,10∉x):∀i,10∉BH s ws i
 |0=>by simp[BH]
 |i+1=>by simp only[BH,A9,not_or];refine⟨⟨KU H h i,?_⟩,RL h⟩;split;exact H;simp
theorem NW{α:Type}{l:List α}{f:α->List Nat}(h:∀x,10∉f x):∀x∈l.map f,10∉x:=λx H=>by
 obtain⟨y,_,rfl⟩:=List.mem_map.1 H
 exact h y
theorem Su{l:List Int}:10∉EP l:=by unfold EP;split;decide;exact KU (by decide) (NW λ_=>Fh) _
theorem UU{l:List Int}:10∉D7 l:=by unfold D7;split;decide;exact KU (by decide) (NW λ_=>Fh) _
theorem Lr:∀{x:BT},10∉x.t
 |.lf=>by decide
 |.nd l r=>by simp[BT.t,Lr (x:=l),Lr (x:=r)]
theorem AF6{d:List (List Int)}:10∉Cc d:=by unfold Cc;split;decide;split;decide;split;exact KU (by decide) (NW λ_=>by simp[Fh]) _;decide
end Go.Cat
namespace Go.Cat
variable{K:Nat->List D->List D->Prop}
set_option maxRecDepth 100000
theorem AXN:∀{p st:List Int}{n:Int},∀c∈Dk p st n,c<256:=by
 have pop:∀(st:List Int)(n:Int),∀c∈(Cq st n).1,c<256:=by
  intro st;induction st with
  |nil=>intro n c h;simp[Cq]at h
  |cons y st i=>
   intro n c h
   unfold Cq at h
   split at h
   .rcases A6.1 h with rfl|h
    .omega
    .exact i _ c h
   .simp at h
 intro p;induction p with
 |nil=>intro st n c h;simp[Dk]at h
 |cons x p i=>
  intro st n c h
  simp only[Dk,A6,A9]at h
  rcases h with rfl|h|h
  .omega
  .exact pop _ _ c h
  .exact i c h
theorem AiY[HA K]{p:List Int}(h:p.length<=1048576):K 157 [LI p] [.s (DT p),.b (DH p)]:=by
 refine qb I157 ?_;simp(disch:=first|omega|simp only[vl];omega) only[AD];refine DU (Pc (K:=K) (p:=p) (by omega)) rfl ?_
 cases f:Cb p;have e:DH p=false:=by simp[DH,f]
 simp only[DT,e];simp(disch:=first|omega|simp only[vl];omega) only[AD];rfl;have Z:=(Qb f).1;simp(disch:=first|omega|simp only[vl];omega) only[AD];refine DU (AbZ (K:=K) (p:=p) (by omega)) rfl ?_;have V:FH p=FD p:=by simp[FH,f]
 rw[V]
 cases o:FD p;have e:DH p=true:=by simp[DH,f,o]
 simp only[DT,e,if_true];simp(disch:=first|omega|simp only[vl];omega) only[AD];rw[show D.l []=LB []from rfl];have key:∀(q:List D),q=q:=λ_=>rfl;refine Ah (λi (x:List Nat×List Int×Int)=>x.1++Dk (p.drop i) (x.2.1.map λj=>AB p j) x.2.2=Dk p [] 0/\x.1.length+x.2.1.length=2*i/\x.2.2+x.2.1.length=i/\∀j∈x.2.1,0<=j/\j<p.length) (λi x=>[LI p,.u,.u,LB x.1,LI x.2.1.reverse,.n x.2.2,.u,.u,.n p.length,.n i,.u,.u]) p.length ([],[],0) ⟨by simp,by simp,by simp,by simp⟩ rfl (λi x hi P=>?_) (λx P=>?_);obtain⟨w,st,n⟩:=x;obtain⟨g,M,O,T⟩:=P;simp only at g M O T;rw[Kk hi]at g;simp only[Dk]at g;obtain⟨R,C⟩:∃R,R=Cq (AB p i::st.map λj=>AB p j) n:=⟨_,rfl⟩;rw[<-C]at g;simp(disch:=first|omega|simp only[vl];omega) only[AD];refine Bd (λ(x:List Nat×List Int×Int)=>x.1++(Cq (x.2.1.map λj=>AB p j) x.2.2).1=w++[117]++R.1/\(Cq (x.2.1.map λj=>AB p j) x.2.2).2=R.2/\x.1.length+x.2.1.length=2*i+2/\x.2.2+x.2.1.length=i+1/\∀j∈x.2.1,0<=j/\j<p.length) (λx=>[LI p,.u,.u,LB x.1,LI x.2.1.reverse,.n x.2.2,.u,.u,.n p.length,.n i,.u,.u]) (λx=>x.2.1.length) (w++[117],(i:Int)::st,n) ⟨by rw[C];rfl,by rw[C];rfl,by simp;omega,by simp;omega,λj H=>by
  rcases A6.1 H with rfl|H
  .omega
  .exact T j H⟩ (by simp) ?_
 rintro⟨W,s1,N⟩ ⟨Q,a,F,G,B⟩;simp only at Q a F G B|-
 cases s1 with
 |nil=>
  simp only[List.map_nil,Cq,List.append_nil]at Q a
  simp only[List.reverse_nil]
  simp only[A5]at F G
  simp(disch:=first|omega|simp only[vl];omega) only[AD]
  refine⟨(W,[],N),⟨?_,by simp;omega,by simp;omega,by simp⟩,rfl⟩
  show W++Dk (p.drop (i+1)) [] N=_
  rw[<-g,<-a,Q];simp
 |cons y t=>
  have hy:=B y (List.mem_cons_self ..)
  have U:t.reverse.length=t.length:=by simp
  have I:AB (t.reverse++[y]) t.length=y:=by rw[<-U];exact LA
  have J:sub (t.reverse++[y]) 0 t.length=t.reverse:=by rw[<-U];exact MG
  have L:(((t.reverse++[y]).length:Nat):Int)=(t.length:Int)+1:=by simp
  simp only[List.reverse_cons]
  simp only[AP]at F G
  by_cases k:AB p y=N
  .simp only[List.map_cons,Cq,if_pos k]at Q a
   simp(disch:=first|omega|simp only[vl];omega) only[AD,L,I,J,Bq]
   refine⟨(W++[100],t,N+1),by simp,⟨by rw[<-Q];simp,a,by simp;omega,by simp only;omega,λj H=>B j (BP _ H)⟩,rfl⟩
  .simp only[List.map_cons,Cq,if_neg k,List.append_nil]at Q a
   simp(disch:=first|omega|simp only[vl];omega) only[AD,L,I,J,Bq]
   refine⟨(W,y::t,N),⟨?_,by simp;omega,by simp;omega,B⟩,by simp⟩
   show W++Dk (p.drop (i+1)) (AB p y::t.map λj=>AB p j) N=_
   rw[<-g,<-a,Q];simp
 obtain⟨w,st,n⟩:=x;obtain⟨g,M,O,_⟩:=P;rw[List.drop_length]at g;simp only[Dk,List.append_nil]at g;have Y:∀c∈w,c<256:=by rw[g];exact λc o=>AXN c o
 rw[<-g];simp(disch:=first|omega|simp only[vl];omega) only[AD,NU Y];have e:DH p=false:=by simp[DH,f,o]
 simp only[DT,e];simp(disch:=first|omega|simp only[vl];omega) only[AD];rfl
structure CLs(t:List (List Nat))(n o:List Int)(r:List (List Int)):Prop where
 lt:t.length<=1000
 ln:n.length<=1000
 lo:o.length<=1000
 lr:r.length<=1000
 lrs:∀x∈r,x.length<=1000
end Go.Cat
namespace Go.Cat
variable{K:Nat->List D->List D->Prop}
def MN(x:BT):List Nat:=[116,114,101,101,32]++x.t++[32,110,111,100,101,115,32]++AQ x.n++[32,104,101,105,103,104,116,32]++AQ (Ib x)++[32,119,101,105,103,104,116,115,32]++EP x.w++[32,117,112,32]++AQ (CO BB x x.n).length++[32,110,101,105,103,104,98,111,117,114,115,32]++AQ (Df x).length++[32,109,105,114,114,111,114,32]++x.DS.t
theorem Aa4{f g a2 h i j k l o q a b c e:List Nat}:DK [.s f,.s g,.s a2,.s h,.s i,.s j,.s k,.s l,.s o,.s q,.s a,.s b,.s c,.s e]=some (LS [f,g,a2,h,i,j,k,l,o,q,a,b,c,e]):=rfl
theorem Xv{x:BT}(h:x.n<=8):-1<=Ib x/\Ib x<=8:=WC (λy H=>by have:=QH H;omega) (by omega)
theorem OW:∀{x:BT}{y:Int},y∈x.w->0<=y/\y<=x.n
 |.lf,y,h=>by simp[BT.w]at h
 |.nd l r,y,h=>by simp only[BT.w,A9,List.mem_singleton]at h;simp only[BT.n];rcases h with(h|rfl)|h;have:=OW h;omega;omega;have:=OW h;omega
theorem AeA[HA K][Da K]{x:BT}(h:x.n<=8):K 125 [.s x.t] [.s (MN x)]:=by
 have q:=BT.tl x;have o:=BT.tl x.DS;have a:=Hg (x:=x);have j:=Xv h;have B:=Bv (x:=x);have hi:HQ x.w:=λy c=>by have:=OW c;omega
 have l:=Fl (f:=BB) (x:=x) (k:=x.n);have b:=PZ (x:=x);have F:=Aw (n:=(x.n:Int)) (by omega);have e:=Aw (n:=Ib x) (by omega);have f3:=Aw (n:=((CO BB x x.n).length:Int)) (by omega);have g:=Aw (n:=((Df x).length:Int)) (by omega);have i:=JN hi;refine qw AT4 ?_;refine cB Ka ?_;simp(disch:=try exact dV) only[AD,GN h];refine cW (N4 h) ?_;refine cW (HE h) ?_;refine cW (C8 (by omega)) ?_;refine cW (ht_i h) ?_;refine cW (C8 (by omega)) ?_;refine cW (Mn h) ?_;refine cW (PY (by omega) hi) ?_;refine cW (cr_i h) ?_;refine cW (C8 (by omega)) ?_;refine cW (AH2 h) ?_;rw[List.length_map];refine cB (C8 (by omega)) ?_;simp(disch:=try exact dV) only[AD,Aa4];have H:=IM (K:=K) (ws:=[[116,114,101,101],x.t,[110,111,100,101,115],AQ x.n,[104,101,105,103,104,116],AQ (Ib x),[119,101,105,103,104,116,115],EP x.w,[117,112],AQ (CO BB x x.n).length,[110,101,105,103,104,98,111,117,114,115],AQ (Df x).length,[109,105,114,114,111,114],x.DS.t]) (by simp) (by simp;omega);refine cW H ?_;simp[MN,glue,BH,AF]
theorem AcJ[HA K]{x:BT}(h:x.n<=8):K 124 [.s x.t] [.s (MN x)]:=by
 have o:=BT.tl x;have l:=BT.tl x.DS;have H:=Hg (x:=x);have i:=Xv h;have q:=Bv (x:=x);have hi:HQ x.w:=λy a=>by have:=OW a;omega
 have j:=Fl (f:=BB) (x:=x) (k:=x.n);have b:=PZ (x:=x);have F:=Aw (n:=(x.n:Int)) (by omega);have c:=Aw (n:=Ib x) (by omega);have f3:=Aw (n:=((CO BB x x.n).length:Int)) (by omega);have e:=Aw (n:=((Df x).length:Int)) (by omega);have g:=JN hi;refine qw ATT ?_;refine cB Ev ?_;simp(disch:=try exact dV) only[AD,GN h];refine cW (AiE h) ?_;refine cW (Ee h) ?_;refine cW (CB (by omega)) ?_;refine cW (ht_s h) ?_;refine cW (CB (by omega)) ?_;refine cW (Nh h) ?_;refine cW (QU (by omega) hi) ?_;refine cW (cr_s h) ?_;refine cW (CB (by omega)) ?_;refine cW (Zk h) ?_;rw[List.length_map];refine cW (CB (by omega)) ?_;simp[MN]
theorem Ae4[HA K]{s:List Nat}(h:Az s=false):K 125 [.s s] [.s []]/\K 124 [.s s] [.s []]:=by constructor;refine qw AT4 ?_;refine cB Ka ?_;simp(disch:=try exact dV) only[AD,h];refine qw ATT ?_;refine cB Ev ?_;simp(disch:=try exact dV) only[AD,h]
theorem AkW{x:BT}(h:x.n<=8):(MN x).length<=100000:=by
 have o:=BT.tl x;have l:=BT.tl x.DS;have H:=Hg (x:=x);have i:=Xv h;have q:=Bv (x:=x);have hi:HQ x.w:=λy a=>by have:=OW a;omega
 have j:=Fl (f:=BB) (x:=x) (k:=x.n);have b:=PZ (x:=x);have F:=Aw (n:=(x.n:Int)) (by omega);have c:=Aw (n:=Ib x) (by omega);have f3:=Aw (n:=((CO BB x x.n).length:Int)) (by omega);have e:=Aw (n:=((Df x).length:Int)) (by omega);have g:=JN hi;simp only[MN,AW,AP,A5];omega
theorem AW5[HA K][Da K](s:List Nat):∃v,Nw v/\K 125 [.s s] [.s v]/\K 124 [.s s] [.s v]:=by
 cases hb:Az s with
 |false=>exact⟨_,⟨by simp,by simp⟩,Ae4 (K:=K) hb⟩
 |true=>
  obtain⟨x,rfl,h⟩:=FX hb
  exact⟨_,⟨AkW h,by simp[MN,Lr,Fh,Su]⟩,AeA h,AcJ h⟩
end Go.Cat
namespace Go.Cat
theorem HM:∀{x:BT}{i:Nat},i<x.n->(i:Int)+AB x.w (i:Nat)<x.n/\0<=AB x.w (i:Nat)
 |.lf,i,h=>by simp[BT.n]at h
 |.nd l r,i,h=>by have H:=h;simp only[BT.n]at H;rw[DF h];simp only[BT.at,BT.n];by_cases q:i<l.n;have:=HM (x:=l) q;rw[DF q]at this;rw[if_pos (by omega)];omega;rw[if_neg (by omega)];by_cases Q:l.n<i;have:=HM (x:=r) (i:=i-l.n-1) (by omega);rw[DF (by omega)]at this;rw[if_pos (by omega),show((i:Nat):Int)-l.n-1=((i-l.n-1:Nat):Int) by omega];omega;rw[if_neg (by omega)];simp only[J2];omega
theorem SE:∀{x:BT}{i k:Nat},k<x.n->i<k->(k:Int)<=i+AB x.w (i:Nat)->(k:Int)+AB x.w (k:Nat)<=i+AB x.w (i:Nat)
 |.lf,i,k,h,_,_=>by simp[BT.n]at h
 |.nd l r,i,k,h,b,H=>by
  have c:=h;simp only[BT.n]at c;have hi:i<(BT.nd l r).n:=by omega
  rw[DF hi]at H;rw[DF h,DF hi];simp only[BT.at]at H|-;by_cases q:i<l.n;rw[if_pos (show((i:Nat):Int)<l.n by omega)]at H|-;have e:=HM (x:=l) q;rw[DF q]at e;have a:k<l.n:=by omega
  rw[if_pos (show((k:Nat):Int)<l.n by omega)];have:=SE (x:=l) a b (by rw[DF q];exact H);rw[DF q,DF a]at this;exact this;rw[if_neg (show ¬((i:Nat):Int)<l.n by omega)]at H|-;rw[if_neg (show ¬((k:Nat):Int)<l.n by omega),if_pos (show(l.n:Int)<(k:Nat) by omega)];have W:=HM (x:=r) (i:=k-l.n-1) (by omega);rw[DF (by omega)]at W;rw[show((k:Nat):Int)-l.n-1=((k-l.n-1:Nat):Int) by omega];by_cases Q:l.n<i;rw[if_pos (show(l.n:Int)<(i:Nat) by omega),show((i:Nat):Int)-l.n-1=((i-l.n-1:Nat):Int) by omega]at H|-;have:=SE (x:=r) (i:=i-l.n-1) (k:=k-l.n-1) (by omega) (by omega) (by rw[DF (by omega)];omega);rw[DF (by omega),DF (by omega)]at this;omega;rw[if_neg (show ¬(l.n:Int)<(i:Nat) by omega)]at H|-;rw[show J2 (BT.nd l r)=r.n from rfl]at H|-;omega
theorem left_at:∀{x:BT}{i v:Nat},v<x.n->i<v->(i:Int)+AB x.w (i:Nat)+1=v->∃a b c,x.at (v:Nat)=.nd (.nd a b) c/\b.n+1<=v/\v<=i+b.n+1
 |.lf,i,v,h,_,_=>by simp[BT.n]at h
 |.nd l r,i,v,h,e,hi=>by
  have j:=h;simp only[BT.n]at j;have H:i<(BT.nd l r).n:=by omega
  rw[DF H]at hi;simp only[BT.at]at hi|-;by_cases q:i<l.n;rw[if_pos (show((i:Nat):Int)<l.n by omega)]at hi;have o:=HM (x:=l) q;rw[DF q]at o;by_cases Q:v<l.n;rw[if_pos (show((v:Nat):Int)<l.n by omega)];exact left_at Q e (by rw[DF q];exact hi);obtain rfl:v=l.n:=by omega
  rw[if_neg (show ¬((l.n:Nat):Int)<l.n by omega),if_neg (show ¬(l.n:Int)<(l.n:Nat) by omega)]
  cases l with
  |lf=>simp[BT.n]at q
  |nd a b=>
   refine⟨a,b,r,rfl,by simp only[BT.n];omega,?_⟩
   have k:=q
   simp only[BT.n]at k hi|-
   simp only[BT.at]at hi
   by_cases f:i<a.n
   .have W:=HM (x:=a) f
    rw[DF f]at W
    rw[if_pos (show((i:Nat):Int)<a.n by omega)]at hi
    omega
   .omega
  rw[if_neg (show ¬((i:Nat):Int)<l.n by omega)]at hi;rw[if_neg (show ¬((v:Nat):Int)<l.n by omega),if_pos (show(l.n:Int)<(v:Nat) by omega),show((v:Nat):Int)-l.n-1=((v-l.n-1:Nat):Int) by omega];by_cases Q:l.n<i;rw[if_pos (show(l.n:Int)<(i:Nat) by omega),show((i:Nat):Int)-l.n-1=((i-l.n-1:Nat):Int) by omega]at hi;obtain⟨a,b,c,g,s,B⟩:=left_at (x:=r) (i:=i-l.n-1) (v:=v-l.n-1) (by omega) (by omega) (by rw[DF (by omega)];omega);exact⟨a,b,c,g,by omega,by omega⟩;rw[if_neg (show ¬(l.n:Int)<(i:Nat) by omega),show J2 (BT.nd l r)=r.n from rfl]at hi;omega
theorem OG:∀{x:BT}{v:Nat}{a b c:BT},v<x.n->x.at (v:Nat)=.nd (.nd a b) c->b.n+1<=v
 |.lf,v,_,_,_,h,_=>by simp[BT.n]at h
 |.nd l r,v,a,b,c,h,H=>by have e:=h;simp only[BT.n]at e;simp only[BT.at]at H;by_cases q:v<l.n;rw[if_pos (by omega)]at H;exact OG q H;rw[if_neg (by omega)]at H;by_cases Q:l.n<v;rw[if_pos (by omega),show((v:Nat):Int)-l.n-1=((v-l.n-1:Nat):Int) by omega]at H;have:=OG (x:=r) (by omega) H;omega;rw[if_neg (by omega)]at H;injection H with f _;rw[f]at q;simp only[BT.n]at q;omega
theorem UG:∀{x:BT}{v:Nat}{a b c:BT},v<x.n->x.at (v:Nat)=.nd (.nd a b) c->(x.rep (v:Nat) (.nd a (.nd b c))).w=x.w.set (v-b.n-1) ((b.n:Int)+c.n+1)
 |.lf,v,_,_,_,h,_=>by simp[BT.n]at h
 |.nd l r,v,a,b,c,h,H=>by
  have f:=h;have o:=OG h H;have s:=Bv (x:=l);simp only[BT.n]at f;have e:=Fx (OF (by omega) (by omega) H);simp only[BT.at]at H;simp only[BT.rep]at e|-;by_cases q:v<l.n;rw[if_pos (by omega)]at H|-;simp only[BT.w];rw[UG q H,CT,CT,List.set_append_left _ _ (by omega)];rw[if_neg (by omega)]at H e|-;by_cases Q:l.n<v;rw[if_pos (by omega),show((v:Nat):Int)-l.n-1=((v-l.n-1:Nat):Int) by omega]at H e|-;have j:=OG (x:=r) (by omega) H;simp only[BT.n]at e;simp only[BT.w];rw[UG (by omega) H,List.set_append_right _ _ (by simp only[AW,AP,A5];omega)];simp only[AW,AP,A5];rw[show v-b.n-1-(l.w.length+(0+1))=v-l.n-1-b.n-1 by omega,show(r.rep ((v-l.n-1:Nat):Int) (a.nd (b.nd c))).n=r.n by omega];rw[if_neg (by omega)]at H|-;injection H with g i;subst g i;have k:=Bv (x:=a);obtain rfl:v=(BT.nd a b).n:=by omega
  simp only[BT.w,BT.n];rw[show a.n+b.n+1-b.n-1=a.w.length by omega];simp only[CT,List.set_append_right _ _ (Nat.le_refl _),Nat.sub_self,List.cons_append,List.nil_append,List.set_cons_zero];rw[show((b.n+r.n+1:Nat):Int)=(b.n:Int)+r.n+1 by omega]
theorem Rl:∀{x:BT}{v:Nat}{a b c:BT},v<x.n->x.at (v:Nat)=.nd (.nd a b) c->x.at ((v-b.n-1:Nat):Int)=.nd a b
 |.lf,v,_,_,_,h,_=>by simp[BT.n]at h
 |.nd l r,v,a,b,c,h,H=>by
  have e:=h;have k:=OG h H;simp only[BT.n]at e;simp only[BT.at]at H|-;by_cases q:v<l.n;rw[if_pos (by omega)]at H;rw[if_pos (by omega)];exact Rl q H;rw[if_neg (by omega)]at H;by_cases Q:l.n<v;rw[if_pos (by omega),show((v:Nat):Int)-l.n-1=((v-l.n-1:Nat):Int) by omega]at H;have i:=OG (x:=r) (by omega) H;have:=Rl (x:=r) (by omega) H;rw[if_neg (by omega),if_pos (by omega),show((v-b.n-1:Nat):Int)-l.n-1=((v-l.n-1-b.n-1:Nat):Int) by omega];exact this;rw[if_neg (by omega)]at H;injection H with f g;subst f g;obtain rfl:v=(BT.nd a b).n:=by omega
  have j:(BT.nd a b).n=a.n+b.n+1:=rfl;rw[if_pos (by omega)];simp only[BT.at];rw[if_neg (by omega),if_neg (by omega)]
def Gy(x y:BT):Prop:=x.n=y.n/\∀i:Nat,i<x.n->AB x.w (i:Nat)<=AB y.w (i:Nat)
theorem AGD{x y:BT}(h:Gy x y)(o:x.w≠y.w):∃(v:Nat)(z:BT),v<x.n/\BB x v=some z/\Gy z y:=by
 obtain⟨C,l⟩:=h;have T:=Bv (x:=x);have U:=Bv (x:=y);obtain⟨i,hi,F⟩:∃i:Nat,i<x.n/\AB x.w (i:Nat)<AB y.w (i:Nat):=by refine Classical.byContradiction λq=>o (AK6 (by omega) λi hi=>?_);have V:¬AB x.w (i:Nat)<AB y.w (i:Nat):=λQ=>q ⟨i,by omega,Q⟩;have:=l i (by omega);omega
 have P:=HM (x:=x) hi;have R:=HM (x:=y) (i:=i) (by omega);obtain⟨v,L⟩:∃v:Nat,(i:Int)+AB x.w (i:Nat)+1=v:=⟨((i:Int)+AB x.w (i:Nat)+1).toNat,by omega⟩;have H:v<x.n:=by omega
 obtain⟨a,b,c,j,N,O⟩:=left_at H (by omega) L;have s:=OF (x:=x) (v:=(v:Nat)) (by omega) (by omega) j;refine⟨v,_,H,s,by rw[Fx s];exact C,λk B=>?_⟩;rw[Fx s]at B;rw[UG H j];have wv:=DF (x:=x) H;rw[j]at wv;simp only[J2]at wv;have M:=l v H;have I:=Rl H j;have g:v-b.n-1<x.n:=by omega
 have W:=DF (x:=x) g;rw[I]at W;simp only[J2]at W;by_cases f:k=v-b.n-1;subst f;have e:AB (x.w.set (v-b.n-1) ((b.n:Int)+c.n+1)) ((v-b.n-1:Nat):Int)=(b.n:Int)+c.n+1:=by simp[AB,show v-b.n-1<x.w.length by omega]
 rw[e];have J:=l _ g;have G:(v:Int)<=((v-b.n-1:Nat):Int)+AB y.w ((v-b.n-1:Nat):Int):=by by_cases q:v-b.n-1=i;rw[q]at W|-;omega;have:=SE (x:=y) (i:=v-b.n-1) (k:=i) (by omega) (by omega) (by omega);omega
 have:=SE (x:=y) (i:=v-b.n-1) (k:=v) (by omega) (by omega) G;omega;have e:AB (x.w.set (v-b.n-1) ((b.n:Int)+c.n+1)) (k:Int)=AB x.w (k:Nat):=by simp only[AB,BM,Ap];rw[List.getElem?_set_ne (Ne.symm f)]
 rw[e];exact l k B
theorem Rh{l r:BT}{i:Nat}(h:i<l.n):(i:Int)+AB (BT.nd l r).w (i:Nat)<l.n:=by have:=HM (x:=l) h;rw[DF h]at this;rw[DF (by simp only[BT.n];omega)];simp only[BT.at];rw[if_pos (by omega)];exact this.1
theorem Nf{l r:BT}:AB (BT.nd l r).w (l.n:Nat)=r.n:=by rw[DF (by simp only[BT.n];omega)];simp only[BT.at];rw[if_neg (by omega),if_neg (by omega)]<;>rfl
theorem Ty:∀{x y:BT},x.w=y.w->x=y
 |.lf,.lf,_=>rfl
 |.lf,.nd l r,h=>by have:=congrArg List.length h;rw[Bv,Bv]at this;simp[BT.n]at this
 |.nd l r,.lf,h=>by have:=congrArg List.length h;rw[Bv,Bv]at this;simp[BT.n]at this
 |.nd l r,.nd L R,h=>by
  have b:=congrArg List.length h
  rw[Bv,Bv]at b
  have a:=b
  simp only[BT.n]at a
  have f:l.n=L.n:=by
   rcases Nat.lt_trichotomy l.n L.n with q|q|q
   have H:=Rh (l:=L) (r:=R) q
   rw[<-h,Nf]at H
   omega
   exact q
   have H:=Rh (l:=l) (r:=r) q
   rw[h,Nf]at H
   omega
  simp only[BT.w,CT]at h
  obtain⟨H,c⟩:=List.append_inj h (by rw[Bv,Bv];exact f)
  obtain⟨_,e⟩:=List.append_inj c rfl
  rw[Ty H,Ty e]
end Go.Cat
namespace Go.Cat
variable{K:Nat->List D->List D->Prop}
def Cy(x y:BT):Bool:=decide (x.n=y.n)&&(List.range x.n).all λi:Nat=>decide (AB x.w (i:Nat)<=AB y.w (i:Nat))
theorem Jm{x y:BT}:Cy x y=true↔Gy x y:=by simp only[Cy,Gy,AV,Ac,Ao,List.mem_range]
theorem ANW{x y:BT}{i:Nat}(h:i<x.n)(H:AB y.w (i:Nat)<AB x.w (i:Nat)):Cy x y=false:=by rw[Bool.eq_false_iff];intro q;have:=(Jm.1 q).2 i h;omega
theorem AAX{x y:BT}(h:x.n≠y.n):Cy x y=false:=by rw[Bool.eq_false_iff];exact λq=>h (Jm.1 q).1
theorem J5[HA K]{x y:BT}{m:Int}(h:x.n<=8)(c:y.n<=8)(e:0<=m/\m<=8):K 367 [.s x.t,.s y.t,.n m] [.b (decide ((x.n:Int)<=m)&&decide (x.n=y.n))]:=by refine qw PJ ?_;refine cB (HE h) ?_;by_cases H:(x.n:Int)<=m;refine wW ?_;refine cW (HE c) ?_;by_cases a:x.n=y.n;simp[H,a];simp[H,a];omega;rw[decide_eq_false H];exact wZ
theorem N5[HA K]{x y:BT}(h:x.n<=8)(c:y.n<=8):K 350 [.s x.t,.s y.t] [.b (Cy x y)]:=by have l:=Bv (x:=x);have L:=Bv (x:=y);refine qw YU ?_;refine cB (J5 h c (by omega)) ?_;have a:decide ((x.n:Int)<=8)=true:=decide_eq_true (by omega);by_cases H:x.n=y.n;have e:decide (x.n=y.n)=true:=decide_eq_true H;rw[a,e];refine wW ?_;refine cW (Mn h) ?_;refine cW (Mn c) ?_;refine AN (λi=>∀j:Nat,j<i->AB x.w (j:Nat)<=AB y.w (j:Nat)) (λi=>[.u,.u,.u,LI x.w,LI y.w,.u,.u,.n x.w.length,.n i,.u,.u]) x.w.length (by omega) rfl (λi hi P=>?_) (λP=>?_);by_cases q:AB x.w (i:Nat)<=AB y.w (i:Nat);refine wW ?_;exact Bg P q;refine wW ?_;rw[ANW (i:=i) (by omega) (by omega)];refine wW ?_;rw[Jm.2 ⟨H,λi hi=>P i (by omega)⟩];have e:decide (x.n=y.n)=false:=decide_eq_false H;rw[a,e];refine wW ?_;rw[AAX H]
theorem JY[HA K]{x y:BT}(h:x.n<=8)(a:y.n<=8):K 365 [.s x.t,.s y.t] [.b (decide (x.n=y.n))]:=by have T:=BT.tl x;have ty:=BT.tl y;refine qw YN ?_;refine cB Ev ?_;simp(disch:=omega) only[AD,GN h];refine cB Ev ?_;simp(disch:=omega) only[AD,GN a];by_cases H:x.n=y.n;simp[H,T,ty];simp[H,T,ty];omega
theorem NA[HA K]{x y:BT}(h:x.n<=8)(a:y.n<=8):K 349 [.s x.t,.s y.t] [.b (Cy x y)]:=by have l:=Bv (x:=x);have L:=Bv (x:=y);refine qw Wj ?_;refine cB (JY h a) ?_;by_cases H:x.n=y.n;have e:decide (x.n=y.n)=true:=decide_eq_true H;rw[e];refine wW ?_;refine cW (Nh h) ?_;refine cW (Nh a) ?_;refine AN (λi=>∀j:Nat,j<i->AB x.w (j:Nat)<=AB y.w (j:Nat)) (λi=>[.u,.u,.u,LI x.w,LI y.w,.n i,.u,.u,.u]) x.w.length (by omega) rfl (λi hi P=>?_) (λP=>?_);by_cases q:AB x.w (i:Nat)<=AB y.w (i:Nat);refine wW ?_;exact Bg P q;refine wW ?_;rw[ANW (i:=i) (by omega) (by omega)];refine wW ?_;rw[Jm.2 ⟨H,λi hi=>P i (by omega)⟩];have e:decide (x.n=y.n)=false:=decide_eq_false H;rw[e];refine wW ?_;rw[AAX H]
theorem AEH[HA K]{a b:List Nat}{m:Int}(h:Az a=false):K 367 [.s a,.s b,.n m] [.b false]:=by refine qw PJ ?_;exact cZ (RF h)
theorem AB3[HA K]{x:BT}{b:List Nat}(H:x.n<=8)(h:Az b=false):K 367 [.s x.t,.s b,.n 8] [.b false]:=by refine qw PJ ?_;refine cW (HE H) ?_;exact cZ (RF h)
theorem US[HA K]{a b:List Nat}(h:Az a=false):K 365 [.s a,.s b] [.b false]:=by refine qw YN ?_;refine cB Ev ?_;simp(disch:=omega) only[AD,h]
theorem YA[HA K]{x:BT}{b:List Nat}(H:x.n<=8)(h:Az b=false):K 365 [.s x.t,.s b] [.b false]:=by refine qw YN ?_;refine cB Ev ?_;simp(disch:=omega) only[AD,GN H];refine cB Ev ?_;simp(disch:=omega) only[AD,h]
end Go.Cat
namespace Go.Cat
theorem Vy:∀{x y:BT}{a b:List Nat},x.t++a=y.t++b->x=y/\a=b
 |.lf,.lf,a,b,h=>by simpa[BT.t]using h
 |.lf,.nd _ _,a,b,h=>by simp[BT.t]at h
 |.nd _ _,.lf,a,b,h=>by simp[BT.t]at h
 |.nd l r,.nd L R,a,b,h=>by simp only[BT.t,List.cons_append,CT,List.cons.injEq,true_and,List.nil_append]at h;obtain⟨c,e⟩:=Vy h;obtain⟨f,H⟩:=Vy e;subst c;subst f;simp only[List.cons.injEq,true_and]at H;exact⟨rfl,H⟩
theorem XB{x y:BT}(h:x.t=y.t):x=y:=(Vy (a:=[]) (b:=[]) (by rw[h])).1
theorem AG3:∀{l:List Int}{i:Nat}{v:Int},i<l.length->AB l (i:Nat)<v->l.sum<(l.set i v).sum
 |[],i,v,h,_=>by simp at h
 |a::l,0,v,_,h=>by simp[AB]at h;simp only[List.set_cons_zero,List.sum_cons];omega
 |a::l,i+1,v,h,H=>by have:=AG3 (l:=l) (i:=i) (v:=v) (by simpa using h) (by simpa[AB]using H);simp only[List.set_cons_succ,List.sum_cons];omega
theorem AJV:∀{a b:List Int},a.length=b.length->(∀i:Nat,i<a.length->AB a (i:Nat)<=AB b (i:Nat))->a.sum<=b.sum
 |[],[],_,_=>by simp
 |a::l,b::m,h,H=>by have h0:=H 0 (by simp);have:=AJV (a:=l) (b:=m) (by simpa using h) (λi hi=>by have:=H (i+1) (by simpa using hi);simpa[AB]using this);simp[AB]at h0;simp only[List.sum_cons];omega
theorem AGI:∀{l:List Int},(∀i:Nat,i<l.length->0<=AB l (i:Nat)/\AB l (i:Nat)<=8)->0<=l.sum/\l.sum<=8*l.length
 |[],_=>by simp
 |a::l,h=>by have h0:=h 0 (by simp);have:=AGI (l:=l) (λi hi=>by have:=h (i+1) (by simpa using hi);simpa[AB]using this);simp[AB]at h0;simp only[List.sum_cons,AP];omega
theorem XG{x y:BT}(h:Gy x y):x.w.sum<=y.w.sum:=by refine AJV (by rw[Bv,Bv];exact h.1) (λi hi=>h.2 i ?_);rw[Bv]at hi;exact hi
theorem RE{x:BT}(h:x.n<=8):0<=x.w.sum/\x.w.sum<=64:=by have:=AGI (l:=x.w) (λi hi=>by rw[Bv]at hi;have:=HM hi;omega);rw[Bv]at this;omega
theorem AOC{x z:BT}{v:Nat}(f:v<x.n)(h:BB x (v:Nat)=some z):x.w.sum<z.w.sum:=by
 obtain⟨a,c,H⟩:=Nj (x:=x) (v:=(v:Nat)) (by omega) (by omega)
 cases a with
 |lf=>rw[Qt (by omega) (by omega) H]at h;cases h
 |nd a b=>
  rw[OF (by omega) (by omega) H]at h
  injection h with h
  subst h
  rw[UG f H]
  have e:=DF (x:=x) (v:=v-b.n-1) (by omega)
  rw[Rl f H]at e
  simp only[J2]at e
  refine AG3 (by rw[Bv];omega) ?_
  rw[e]
  omega
end Go.Cat
