/-
 Levels of leaves, heights.
-/
import Derived.Test.YthoilpmggmenbaaGreatPfRotA
import Derived.Test.YthoilpmggmenbaaGreatPfWr1
set_option linter.unusedSimpArgs false
set_option linter.unusedVariables false
namespace Go.Cat
variable{K:Nat->List D->List D->Prop}
def EL(s:Int×List Int)(c:Nat):Int×List Int:=if c=40 then(s.1+1,s.2)else if c=41 then(s.1-1,s.2)else(s.1,s.2++[s.1])
theorem U7:∀{x:BT}{h:Int}{o:List Int},x.t.foldl EL (h,o)=(h,o++Cy x h)
 |.lf,h,o=>by simp[BT.t,EL,Cy]
 |.nd l r,h,o=>by have e:(BT.nd l r).t=40::(l.t++(r.t++[41])):=rfl;rw[e,List.foldl_cons,List.foldl_append,List.foldl_append,show EL (h,o) 40=(h+1,o)from rfl,U7 (x:=l),U7 (x:=r)];simp[EL,Cy]
theorem AgD:∀{s:List Nat},-(s.length:Int)<=(s.foldl EL (0,[])).1/\(s.foldl EL (0,[])).1<=s.length/\(s.foldl EL (0,[])).2.length<=s.length:=by
 intro s;have key:∀(s:List Nat)(a:Int×List Int),a.1-s.length<=(s.foldl EL a).1/\(s.foldl EL a).1<=a.1+s.length/\(s.foldl EL a).2.length<=a.2.length+s.length:=by
  intro s;induction s with
  |nil=>intro a;simp
  |cons c s i=>
   intro a
   have:=i (EL a c)
   rw[List.foldl_cons,AO]
   have h:a.1-1<=(EL a c).1/\(EL a c).1<=a.1+1/\(EL a c).2.length<=a.2.length+1:=by
    unfold EL
    split
    .simp only;omega
    .split
     .simp only;omega
     .simp only[A4,AO,A6];omega
   omega
 have:=key s (0,[]);simp only[A6]at this;omega
theorem ll_s[HA K]{x:BT}(h:x.n<=8):K 190 [.s x.t] [LI (Cy x 0)]:=by
 have j:=BT.tl x;have f:=U7 (x:=x) (h:=0) (o:=[]);have k:=Ez (K:=K) (s:=x.t);rw[GF h]at k;have H:=BT.N6 x;generalize x.t=w at j f k H|-;refine qw I190 ?_;refine Aj (λi (r:Int×List Int)=>r=(w.take i).foldl EL (0,[])) (λi r=>[.s w,.u,LI r.2,.n r.1,.n i,.u,.u,.u,.u]) w.length (0,[]) rfl rfl (λi r hi P=>?_) (λr P=>?_);have g:=AgD (s:=w.take i);rw[<-P,List.length_take]at g;have a:(w.take (i+1)).foldl EL (0,[])=EL r (w[i]'hi):=by rw[CP hi,List.foldl_append,<-P]<;>rfl
 have c:w[i]'hi=AH w i:=by simp[AH,hi]
 rw[c]at a;by_cases b:AH w i=40;refine wW ?_;refine cW k ?_;refine⟨(r.1+1,r.2),?_,rfl⟩;rw[a,EL,if_pos b];by_cases e:AH w i=41;refine wW ?_;refine cW k ?_;refine⟨(r.1-1,r.2),?_,rfl⟩;rw[a,EL,if_neg b,if_pos e];refine wW ?_;refine cW k ?_;refine⟨(r.1,r.2++[r.1]),?_,rfl⟩;rw[a,EL,if_neg b,if_neg e];refine wW ?_;rw[P,List.take_of_length_le (Nat.le_refl _),f]<;>rfl
theorem ll_i[HA K]{x:BT}(h:x.n<=8):K 198 [.s x.t] [LI (Cy x 0)]:=by have k:=X9 (K:=K) (x:=x) (d:=0) (o:=[]) h (by omega) (by omega) (by simp only[A6];omega);refine qw I198 ?_;refine cB (Ly h) ?_;simp(disch:=try exact dV) only[AD,BT.Dc];exact cZ k
def Ih(x:BT):Int:=(Cy x 0).foldl max 0
theorem foldl_max{l:List Int}{a:Int}(h:∀y∈l,0<=y)(H:l≠[])(b:a<=0):l.foldl max a=l.foldl max 0:=by
 cases l with
 |nil=>exact(H rfl).elim
 |cons y l=>
  have:=h y (by simp)
  rw[List.foldl_cons,List.foldl_cons]
  congr 1;omega
theorem UJ{l:List Int}{a m:Int}(h:∀y∈l,0<=y/\y<=m)(H:-1<=a/\a<=m):-1<=l.foldl max a/\l.foldl max a<=m:=by
 induction l generalizing a with
 |nil=>exact H
 |cons y l i=>
  rw[List.foldl_cons]
  have:=h y (by simp)
  exact i (λz b=>h z (by simp[b])) (by omega)
theorem AF4{l:List Int}{i:Nat}{a:Int}(h:i<l.length):(l.take (i+1)).foldl max a=max ((l.take i).foldl max a) (AB l (i:Nat)):=by rw[CP h,List.foldl_append];simp[AB,h]
theorem ht_i[HA K]{x:BT}(h:x.n<=8):K 170 [.s x.t] [.n (Ih x)]:=by
 have f:=Pu (x:=x) (d:=0);have c:∀y∈Cy x 0,0<=y/\y<=8:=λy H=>by have:=Ph H;omega
 refine qw I170 ?_;refine cB Jk ?_;simp(disch:=try exact dV) only[AD,GF h];refine cW (ll_i h) ?_;refine Aj (λi (r:Int)=>r=((Cy x 0).take i).foldl max 0) (λi r=>[.u,.u,.n r,.u,.u,LI (Cy x 0),.n (Cy x 0).length,.n i,.u]) (Cy x 0).length 0 rfl rfl (λi r hi P=>?_) (λr P=>?_);have b:=UJ (l:=(Cy x 0).take i) (a:=0) (m:=8) (λy H=>c y (List.mem_of_mem_take H)) (by omega);rw[<-P]at b;have e:=AF4 (a:=0) hi;refine wW ?_;refine⟨_,?_,rfl⟩;rw[e,P];refine wW ?_;rw[P,List.take_of_length_le (Nat.le_refl _)]<;>rfl
theorem ht_s[HA K]{x:BT}(h:x.n<=8):K 163 [.s x.t] [.n (Ih x)]:=by
 have b:=Pu (x:=x) (d:=0);have c:∀y∈Cy x 0,0<=y/\y<=8:=λy H=>by have:=Ph H;omega
 have f:(Cy x 0).foldl max (-1)=Ih x:=foldl_max (λy H=>(c y H).1) (by intro q;rw[q]at b;cases b) (by omega);refine qw I163 ?_;refine cW (ll_s h) ?_;refine Aj (λi (r:Int)=>r=((Cy x 0).take i).foldl max (-1)) (λi r=>[.u,.u,LI (Cy x 0),.n r,.n i,.u]) (Cy x 0).length (-1) rfl rfl (λi r hi P=>?_) (λr P=>?_);have e:=UJ (l:=(Cy x 0).take i) (a:=-1) (m:=8) (λy H=>c y (List.mem_of_mem_take H)) (by omega);rw[<-P]at e;have g:=AF4 (a:=-1) hi;refine wW ?_;refine⟨_,?_,rfl⟩;rw[g,P];refine wW ?_;rw[P,List.take_of_length_le (Nat.le_refl _),f]
end Go.Cat
namespace Go.Cat
variable{K:Nat->List D->List D->Prop}
def EO(l:List Int):List Nat:=if l=[]then [110,111,110,101]else glue [44] (l.map AQ)
def H4(l:List Int):Prop:=∀x∈l,-9223372036854775808<=x/\x<=9223372036854775807
theorem AE3{l:List Int}(h:H4 l){i:Nat}(hi:i<l.length):-9223372036854775808<=AB l i/\AB l i<=9223372036854775807:=h _ (by simp[AB,hi])
theorem Y1{α:Type}{l:List Int}{f:Int->α}{i:Nat}(h:i<l.length):(l.take (i+1)).map f=(l.take i).map f++[f (AB l i)]:=by rw[CP h,List.map_append];simp[AB,h]
theorem Jf{l:List Int}(h:H4 l):(EO l).length<=l.length*21+4:=by
 unfold EO;split;simp;have:=NA (sep:=[44]) (ws:=l.map AQ) (b:=20) λx H=>by obtain⟨y,a,rfl⟩:=List.mem_map.1 H;exact Ax (h y a)
 simp only[List.length_map,AO,A6]at this;omega
theorem QF[HA K]{l:List Int}(h:l.length<=1000)(H:H4 l):K 142 [LI l] [.s (EO l)]:=by
 refine qb I142 ?_;by_cases h0:l=[];subst h0;have e:(([]:List Int).length:Int)=0:=rfl;simp(disch:=try exact dV) only[AD,e];rfl;have j:0<l.length:=List.length_pos_iff.2 h0;refine wW ?_;refine Aj (λi (r:List (List Nat))=>r=(l.take i).map AQ) (λi r=>[.u,.u,LS r,.u,.u,LI l,.n l.length,.n i,.u]) l.length [] rfl rfl (λi r hi P=>?_) (λr P=>?_);have k:r.length=i:=by rw[P];simp;omega
 have f:=AE3 H hi;refine wW ?_;refine cW (C4 f) ?_;refine⟨_,?_,rfl⟩;rw[P,Y1 hi];rw[List.take_of_length_le (by omega)]at P;have b:∀x∈r,x.length<=100000:=λx a=>by rw[P]at a;obtain⟨y,g,rfl⟩:=List.mem_map.1 a;have:=Ax (H y g);omega
 have c:r.length<=100000:=by rw[P];simp;omega
 refine wW ?_;refine cW (J1 c b (by simp)) ?_;rw[EO,if_neg h0,P]
theorem Pq[HA K]{l:List Int}(h:l.length<=1000)(f:H4 l):K 137 [LI l] [.s (EO l)]:=by
 refine qw I137 ?_;have a:∀i,(glue [44] ((l.take i).map AQ)).length<=21000:=λi=>by
  have:=NA (sep:=[44]) (ws:=(l.take i).map AQ) (b:=20) λx g=>by obtain⟨y,j,rfl⟩:=List.mem_map.1 g;exact Ax (f y (List.mem_of_mem_take j))
  simp only[List.length_map,AO,A6,List.length_take]at this;omega
 refine Aj (λi (s:List Nat)=>s=glue [44] ((l.take i).map AQ)) (λi s=>[LI l,.u,.s s,.n i,.u,.u,.u]) l.length [] rfl rfl (λi s hi P=>?_) (λs P=>?_);have H:=AE3 f hi;have k:=Ax H;have c:=a i;rw[<-P]at c;by_cases h0:0<i;refine wW ?_;refine cW (By H) ?_;refine⟨_,?_,rfl⟩;rw[Y1 hi,Qj,<-P,if_pos (by simp;omega)];refine wW ?_;refine cW (By H) ?_;refine⟨_,?_,rfl⟩;rw[Y1 hi,Qj,<-P,if_neg (by simp;omega)];simp;rw[List.take_of_length_le (by omega)]at P;by_cases h0:l=[];have c:s=[]:=by rw[P,h0];rfl
 subst c;refine wW ?_;rw[EO,if_pos h0];have c:s≠[]:=by obtain⟨L,x,rfl⟩:∃L x,l=L++[x]:=⟨l.dropLast,l.getLast h0,(List.dropLast_concat_getLast h0).symm⟩;rw[P,List.map_append,List.map_cons,List.map_nil,Qj];intro e;have:=congrArg List.length e;have:=Sd (n:=x);simp only[A4,A6]at*;omega
 have H:(s==[])=false:=by simpa using c
 simp(disch:=try exact dV) only[AD,H];rw[EO,if_neg h0,P]
end Go.Cat
namespace Go.Cat
set_option maxRecDepth 100000
def Nw(v:List Nat):Prop:=v.length<=100000/\10∉v
theorem AG8:∀{n:Nat},10∉C9 n:=by
 intro n;induction n using Nat.strongRecOn with
 |_ n i=>
  by_cases h0:n=0
  .subst h0;simp[C9]
  .rw[HR h0,Ac,List.mem_singleton]
   rintro(q|q)
   .exact i (n/10) (by omega) q
   .omega
theorem Fp{n:Int}:10∉AQ n:=by unfold AQ;split;decide;split;rw[A7];rintro(q|q);omega;exact AG8 q;exact AG8
theorem TY{ws:List (List Nat)}{i:Int}(h:∀x∈ws,10∉x):10∉AG ws i:=by
 rcases BS i.toNat ws.length with q|q;exact h _ (by simp[AG,q])
 simp[AG,q]
theorem Kh{s:List Nat}{ws:List (List Nat)}(H:10∉s)(h:∀x∈ws,10∉x):∀i,10∉BE s ws i
 |0=>by simp[BE]
 |i+1=>by simp only[BE,Ac,not_or];refine⟨⟨Kh H h i,?_⟩,TY h⟩;split;exact H;simp
theorem MX{α:Type}{l:List α}{f:α->List Nat}(h:∀x,10∉f x):∀x∈l.map f,10∉x:=λx H=>by
 obtain⟨y,_,rfl⟩:=List.mem_map.1 H
 exact h y
theorem Td{l:List Int}:10∉EO l:=by unfold EO;split;decide;exact Kh (by decide) (MX λ_=>Fp) _
theorem Xw{l:List Int}:10∉D6 l:=by unfold D6;split;decide;exact Kh (by decide) (MX λ_=>Fp) _
theorem MG:∀{x:BT},10∉x.t
 |.lf=>by decide
 |.nd l r=>by simp[BT.t,MG (x:=l),MG (x:=r)]
theorem AC6{d:List (List Int)}:10∉Cc d:=by unfold Cc;split;decide;split;decide;split;exact Kh (by decide) (MX λ_=>by simp[Fp]) _;decide
end Go.Cat
namespace Go.Cat
variable{K:Nat->List D->List D->Prop}
set_option maxRecDepth 100000
theorem AVR:∀{p st:List Int}{n:Int},∀c∈Dh p st n,c<256:=by
 have pop:∀(st:List Int)(n:Int),∀c∈(Cm st n).1,c<256:=by
  intro st;induction st with
  |nil=>intro n c h;simp[Cm]at h
  |cons y st i=>
   intro n c h
   unfold Cm at h
   split at h
   .rcases A7.1 h with rfl|h
    .omega
    .exact i _ c h
   .simp at h
 intro p;induction p with
 |nil=>intro st n c h;simp[Dh]at h
 |cons x p i=>
  intro st n c h
  simp only[Dh,A7,Ac]at h
  rcases h with rfl|h|h
  .omega
  .exact pop _ _ c h
  .exact i c h
theorem AUE[HA K]{p:List Int}(h:p.length<=1048576):K 157 [LI p] [.s (DR p),.b (DE p)]:=by
 refine qb I157 ?_;simp(disch:=first|omega|simp only[vl];omega) only[AD];refine Eu (Oj (K:=K) (p:=p) (by omega)) rfl ?_
 cases f:C2 p;have e:DE p=false:=by simp[DE,f]
 simp only[DR,e];simp(disch:=first|omega|simp only[vl];omega) only[AD];rfl;have Z:=(Qz f).1;simp(disch:=first|omega|simp only[vl];omega) only[AD];refine Eu (AX8 (K:=K) (p:=p) (by omega)) rfl ?_;have V:FC p=Er p:=by simp[FC,f]
 rw[V]
 cases o:Er p;have e:DE p=true:=by simp[DE,f,o]
 simp only[DR,e,if_true];simp(disch:=first|omega|simp only[vl];omega) only[AD];rw[show D.l []=LB []from rfl];have key:∀(q:List D),q=q:=λ_=>rfl;refine Aj (λi (x:List Nat×List Int×Int)=>x.1++Dh (p.drop i) (x.2.1.map λj=>AB p j) x.2.2=Dh p [] 0/\x.1.length+x.2.1.length=2*i/\x.2.2+x.2.1.length=i/\∀j∈x.2.1,0<=j/\j<p.length) (λi x=>[LI p,.u,.u,LB x.1,LI x.2.1.reverse,.n x.2.2,.u,.u,.n p.length,.n i,.u,.u]) p.length ([],[],0) ⟨by simp,by simp,by simp,by simp⟩ rfl (λi x hi P=>?_) (λx P=>?_);obtain⟨w,st,n⟩:=x;obtain⟨g,M,O,T⟩:=P;simp only at g M O T;rw[Jw hi]at g;simp only[Dh]at g;obtain⟨R,C⟩:∃R,R=Cm (AB p i::st.map λj=>AB p j) n:=⟨_,rfl⟩;rw[<-C]at g;simp(disch:=first|omega|simp only[vl];omega) only[AD];refine Bj (λ(x:List Nat×List Int×Int)=>x.1++(Cm (x.2.1.map λj=>AB p j) x.2.2).1=w++[117]++R.1/\(Cm (x.2.1.map λj=>AB p j) x.2.2).2=R.2/\x.1.length+x.2.1.length=2*i+2/\x.2.2+x.2.1.length=i+1/\∀j∈x.2.1,0<=j/\j<p.length) (λx=>[LI p,.u,.u,LB x.1,LI x.2.1.reverse,.n x.2.2,.u,.u,.n p.length,.n i,.u,.u]) (λx=>x.2.1.length) (w++[117],(i:Int)::st,n) ⟨by rw[C];rfl,by rw[C];rfl,by simp;omega,by simp;omega,λj H=>by
  rcases A7.1 H with rfl|H
  .omega
  .exact T j H⟩ (by simp) ?_
 rintro⟨W,s1,N⟩ ⟨Q,a,F,G,B⟩;simp only at Q a F G B|-
 cases s1 with
 |nil=>
  simp only[List.map_nil,Cm,List.append_nil]at Q a
  simp only[List.reverse_nil]
  simp only[A6]at F G
  simp(disch:=first|omega|simp only[vl];omega) only[AD]
  refine⟨(W,[],N),⟨?_,by simp;omega,by simp;omega,by simp⟩,rfl⟩
  show W++Dh (p.drop (i+1)) [] N=_
  rw[<-g,<-a,Q];simp
 |cons y t=>
  have hy:=B y (List.mem_cons_self ..)
  have U:t.reverse.length=t.length:=by simp
  have I:AB (t.reverse++[y]) t.length=y:=by rw[<-U];exact Kr
  have J:sub (t.reverse++[y]) 0 t.length=t.reverse:=by rw[<-U];exact L7
  have L:(((t.reverse++[y]).length:Nat):Int)=(t.length:Int)+1:=by simp
  simp only[List.reverse_cons]
  simp only[AO]at F G
  by_cases k:AB p y=N
  .simp only[List.map_cons,Cm,if_pos k]at Q a
   simp(disch:=first|omega|simp only[vl];omega) only[AD,L,I,J,Bm]
   refine⟨(W++[100],t,N+1),by simp,⟨by rw[<-Q];simp,a,by simp;omega,by simp only;omega,λj H=>B j (BN _ H)⟩,rfl⟩
  .simp only[List.map_cons,Cm,if_neg k,List.append_nil]at Q a
   simp(disch:=first|omega|simp only[vl];omega) only[AD,L,I,J,Bm]
   refine⟨(W,y::t,N),⟨?_,by simp;omega,by simp;omega,B⟩,by simp⟩
   show W++Dh (p.drop (i+1)) (AB p y::t.map λj=>AB p j) N=_
   rw[<-g,<-a,Q];simp
 obtain⟨w,st,n⟩:=x;obtain⟨g,M,O,_⟩:=P;rw[List.drop_length]at g;simp only[Dh,List.append_nil]at g;have Y:∀c∈w,c<256:=by rw[g];exact λc o=>AVR c o
 rw[<-g];simp(disch:=first|omega|simp only[vl];omega) only[AD,Py Y];have e:DE p=false:=by simp[DE,f,o]
 simp only[DR,e];simp(disch:=first|omega|simp only[vl];omega) only[AD];rfl
structure CLs(t:List (List Nat))(n o:List Int)(r:List (List Int)):Prop where
 lt:t.length<=1000
 ln:n.length<=1000
 lo:o.length<=1000
 lr:r.length<=1000
 lrs:∀x∈r,x.length<=1000
end Go.Cat
namespace Go.Cat
variable{K:Nat->List D->List D->Prop}
def ML(x:BT):List Nat:=[116,114,101,101,32]++x.t++[32,110,111,100,101,115,32]++AQ x.n++[32,104,101,105,103,104,116,32]++AQ (Ih x)++[32,119,101,105,103,104,116,115,32]++EO x.w++[32,117,112,32]++AQ (CK BB x x.n).length++[32,110,101,105,103,104,98,111,117,114,115,32]++AQ (D7 x).length++[32,109,105,114,114,111,114,32]++x.DP.t
theorem AeN{f g a2 h i j k l o q a b c e:List Nat}:Dv [.s f,.s g,.s a2,.s h,.s i,.s j,.s k,.s l,.s o,.s q,.s a,.s b,.s c,.s e]=some (LS [f,g,a2,h,i,j,k,l,o,q,a,b,c,e]):=rfl
theorem XO{x:BT}(h:x.n<=8):-1<=Ih x/\Ih x<=8:=UJ (λy H=>by have:=Ph H;omega) (by omega)
theorem OD:∀{x:BT}{y:Int},y∈x.w->0<=y/\y<=x.n
 |.lf,y,h=>by simp[BT.w]at h
 |.nd l r,y,h=>by simp only[BT.w,Ac,List.mem_singleton]at h;simp only[BT.n];rcases h with(h|rfl)|h;have:=OD h;omega;omega;have:=OD h;omega
theorem AdR[HA K][Ds K]{x:BT}(h:x.n<=8):K 125 [.s x.t] [.s (ML x)]:=by
 have q:=BT.tl x;have o:=BT.tl x.DP;have a:=Hz (x:=x);have j:=XO h;have B:=Bu (x:=x);have hi:H4 x.w:=λy c=>by have:=OD c;omega
 have l:=Fj (f:=BB) (x:=x) (k:=x.n);have b:=Ou (x:=x);have F:=Ax (n:=(x.n:Int)) (by omega);have e:=Ax (n:=Ih x) (by omega);have f3:=Ax (n:=((CK BB x x.n).length:Int)) (by omega);have g:=Ax (n:=((D7 x).length:Int)) (by omega);have i:=Jf hi;refine qw ZY ?_;refine cB Jk ?_;simp(disch:=try exact dV) only[AD,GF h];refine cW (MV h) ?_;refine cW (Gn h) ?_;refine cW (C4 (by omega)) ?_;refine cW (ht_i h) ?_;refine cW (C4 (by omega)) ?_;refine cW (Ms h) ?_;refine cW (QF (by omega) hi) ?_;refine cW (cr_i h) ?_;refine cW (C4 (by omega)) ?_;refine cW (AAL h) ?_;rw[List.length_map];refine cB (C4 (by omega)) ?_;simp(disch:=try exact dV) only[AD,AeN];have H:=Hk (K:=K) (ws:=[[116,114,101,101],x.t,[110,111,100,101,115],AQ x.n,[104,101,105,103,104,116],AQ (Ih x),[119,101,105,103,104,116,115],EO x.w,[117,112],AQ (CK BB x x.n).length,[110,101,105,103,104,98,111,117,114,115],AQ (D7 x).length,[109,105,114,114,111,114],x.DP.t]) (by simp) (by simp;omega);refine cW H ?_;simp[ML,glue,BE,AG]
theorem AZG[HA K]{x:BT}(h:x.n<=8):K 124 [.s x.t] [.s (ML x)]:=by
 have o:=BT.tl x;have l:=BT.tl x.DP;have H:=Hz (x:=x);have i:=XO h;have q:=Bu (x:=x);have hi:H4 x.w:=λy a=>by have:=OD a;omega
 have j:=Fj (f:=BB) (x:=x) (k:=x.n);have b:=Ou (x:=x);have F:=Ax (n:=(x.n:Int)) (by omega);have c:=Ax (n:=Ih x) (by omega);have f3:=Ax (n:=((CK BB x x.n).length:Int)) (by omega);have e:=Ax (n:=((D7 x).length:Int)) (by omega);have g:=Jf hi;refine qw ADM ?_;refine cB Ez ?_;simp(disch:=try exact dV) only[AD,GF h];refine cW (AT8 h) ?_;refine cW (EV h) ?_;refine cW (By (by omega)) ?_;refine cW (ht_s h) ?_;refine cW (By (by omega)) ?_;refine cW (MT h) ?_;refine cW (Pq (by omega) hi) ?_;refine cW (cr_s h) ?_;refine cW (By (by omega)) ?_;refine cW (AIN h) ?_;rw[List.length_map];refine cW (By (by omega)) ?_;simp[ML]
theorem AcI[HA K]{s:List Nat}(h:Az s=false):K 125 [.s s] [.s []]/\K 124 [.s s] [.s []]:=by constructor;refine qw ZY ?_;refine cB Jk ?_;simp(disch:=try exact dV) only[AD,h];refine qw ADM ?_;refine cB Ez ?_;simp(disch:=try exact dV) only[AD,h]
theorem AWT{x:BT}(h:x.n<=8):(ML x).length<=100000:=by
 have o:=BT.tl x;have l:=BT.tl x.DP;have H:=Hz (x:=x);have i:=XO h;have q:=Bu (x:=x);have hi:H4 x.w:=λy a=>by have:=OD a;omega
 have j:=Fj (f:=BB) (x:=x) (k:=x.n);have b:=Ou (x:=x);have F:=Ax (n:=(x.n:Int)) (by omega);have c:=Ax (n:=Ih x) (by omega);have f3:=Ax (n:=((CK BB x x.n).length:Int)) (by omega);have e:=Ax (n:=((D7 x).length:Int)) (by omega);have g:=Jf hi;simp only[ML,A4,AO,A6];omega
theorem AUV[HA K][Ds K](s:List Nat):∃v,Nw v/\K 125 [.s s] [.s v]/\K 124 [.s s] [.s v]:=by
 cases hb:Az s with
 |false=>exact⟨_,⟨by simp,by simp⟩,AcI (K:=K) hb⟩
 |true=>
  obtain⟨x,rfl,h⟩:=FL hb
  exact⟨_,⟨AWT h,by simp[ML,MG,Fp,Td]⟩,AdR h,AZG h⟩
end Go.Cat
