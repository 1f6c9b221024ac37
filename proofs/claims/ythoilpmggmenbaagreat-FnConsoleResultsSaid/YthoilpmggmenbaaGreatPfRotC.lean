/-
 Levels of leaves, heights.
-/
import Derived.Test.YthoilpmggmenbaaGreatPfRotA
set_option linter.unusedSimpArgs false
set_option linter.unusedVariables false
namespace Go.Cat
variable{K:Nat->List D->List D->Prop}
def Dk(s:Int×List Int)(c:Nat):Int×List Int:=if c=40 then(s.1+1,s.2)else if c=41 then(s.1-1,s.2)else(s.1,s.2++[s.1])
theorem Uq:∀{x:BT}{h:Int}{o:List Int},x.t.foldl Dk (h,o)=(h,o++Cg x h)
 |.lf,h,o=>by simp[BT.t,Dk,Cg]
 |.nd l r,h,o=>by have e:(BT.nd l r).t=40::(l.t++(r.t++[41])):=rfl;rw[e,List.foldl_cons,List.foldl_append,List.foldl_append,show Dk (h,o) 40=(h+1,o)from rfl,Uq (x:=l),Uq (x:=r)];simp[Dk,Cg]
theorem AbP:∀{s:List Nat},-(s.length:Int)<=(s.foldl Dk (0,[])).1/\(s.foldl Dk (0,[])).1<=s.length/\(s.foldl Dk (0,[])).2.length<=s.length:=by
 intro s;have key:∀(s:List Nat)(a:Int×List Int),a.1-s.length<=(s.foldl Dk a).1/\(s.foldl Dk a).1<=a.1+s.length/\(s.foldl Dk a).2.length<=a.2.length+s.length:=by
  intro s;induction s with
  |nil=>intro a;simp
  |cons c s i=>
   intro a
   have:=i (Dk a c)
   rw[List.foldl_cons,AO]
   have h:a.1-1<=(Dk a c).1/\(Dk a c).1<=a.1+1/\(Dk a c).2.length<=a.2.length+1:=by
    unfold Dk
    split
    .simp only;omega
    .split
     .simp only;omega
     .simp only[AZ,AO,Aa];omega
   omega
 have:=key s (0,[]);simp only[Aa]at this;omega
theorem ll_s[HA K]{x:BT}(h:x.n<=8):K 190 [.s x.t] [LI (Cg x 0)]:=by
 have j:=BT.tl x;have f:=Uq (x:=x) (h:=0) (o:=[]);have k:=Fo (K:=K) (s:=x.t);rw[FO h]at k;have H:=BT.MG x;generalize x.t=w at j f k H|-;refine qw I190 ?_;refine BE (λi (r:Int×List Int)=>r=(w.take i).foldl Dk (0,[])) (λi r=>[.s w,.u,LI r.2,.n r.1,.n i,.u,.u,.u,.u]) w.length (0,[]) rfl rfl (λi r hi P=>?_) (λr P=>?_);have g:=AbP (s:=w.take i);rw[<-P,List.length_take]at g;have a:(w.take (i+1)).foldl Dk (0,[])=Dk r (w[i]'hi):=by rw[CO hi,List.foldl_append,<-P]<;>rfl
 have c:w[i]'hi=AI w i:=by simp[AI,hi]
 rw[c]at a;by_cases b:AI w i=40;refine wW ?_;refine cW k ?_;refine⟨(r.1+1,r.2),?_,rfl⟩;rw[a,Dk,if_pos b];by_cases e:AI w i=41;refine wW ?_;refine cW k ?_;refine⟨(r.1-1,r.2),?_,rfl⟩;rw[a,Dk,if_neg b,if_pos e];refine wW ?_;refine cW k ?_;refine⟨(r.1,r.2++[r.1]),?_,rfl⟩;rw[a,Dk,if_neg b,if_neg e];refine wW ?_;rw[P,List.take_of_length_le (Nat.le_refl _),f]<;>rfl
theorem ll_i[HA K]{x:BT}(h:x.n<=8):K 198 [.s x.t] [LI (Cg x 0)]:=by have k:=Sd (K:=K) (x:=x) (d:=0) (o:=[]) h (by omega) (by omega) (by simp only[Aa];omega);refine qw I198 ?_;refine cB (Jl h) ?_;simp(disch:=try exact dV) only[AD,BT.DL];exact cZ k
def HP(x:BT):Int:=(Cg x 0).foldl max 0
theorem foldl_max{l:List Int}{a:Int}(h:∀y∈l,0<=y)(H:l≠[])(b:a<=0):l.foldl max a=l.foldl max 0:=by
 cases l with
 |nil=>exact(H rfl).elim
 |cons y l=>
  have:=h y (by simp)
  rw[List.foldl_cons,List.foldl_cons]
  congr 1;omega
theorem Uk{l:List Int}{a m:Int}(h:∀y∈l,0<=y/\y<=m)(H:-1<=a/\a<=m):-1<=l.foldl max a/\l.foldl max a<=m:=by
 induction l generalizing a with
 |nil=>exact H
 |cons y l i=>
  rw[List.foldl_cons]
  have:=h y (by simp)
  exact i (λz b=>h z (by simp[b])) (by omega)
theorem AMP{l:List Int}{i:Nat}{a:Int}(h:i<l.length):(l.take (i+1)).foldl max a=max ((l.take i).foldl max a) (AB l (i:Nat)):=by rw[CO h,List.foldl_append];simp[AB,h]
theorem ht_i[HA K]{x:BT}(h:x.n<=8):K 170 [.s x.t] [.n (HP x)]:=by
 have f:=NC (x:=x) (d:=0);have c:∀y∈Cg x 0,0<=y/\y<=8:=λy H=>by have:=Na H;omega
 refine qw I170 ?_;refine cB Hx ?_;simp(disch:=try exact dV) only[AD,FO h];refine cW (ll_i h) ?_;refine BE (λi (r:Int)=>r=((Cg x 0).take i).foldl max 0) (λi r=>[.u,.u,.n r,.u,.u,LI (Cg x 0),.n (Cg x 0).length,.n i,.u]) (Cg x 0).length 0 rfl rfl (λi r hi P=>?_) (λr P=>?_);have b:=Uk (l:=(Cg x 0).take i) (a:=0) (m:=8) (λy H=>c y (List.mem_of_mem_take H)) (by omega);rw[<-P]at b;have e:=AMP (a:=0) hi;refine wW ?_;refine⟨_,?_,rfl⟩;rw[e,P];refine wW ?_;rw[P,List.take_of_length_le (Nat.le_refl _)]<;>rfl
theorem ht_s[HA K]{x:BT}(h:x.n<=8):K 163 [.s x.t] [.n (HP x)]:=by
 have b:=NC (x:=x) (d:=0);have c:∀y∈Cg x 0,0<=y/\y<=8:=λy H=>by have:=Na H;omega
 have f:(Cg x 0).foldl max (-1)=HP x:=foldl_max (λy H=>(c y H).1) (by intro q;rw[q]at b;cases b) (by omega);refine qw I163 ?_;refine cW (ll_s h) ?_;refine BE (λi (r:Int)=>r=((Cg x 0).take i).foldl max (-1)) (λi r=>[.u,.u,LI (Cg x 0),.n r,.n i,.u]) (Cg x 0).length (-1) rfl rfl (λi r hi P=>?_) (λr P=>?_);have e:=Uk (l:=(Cg x 0).take i) (a:=-1) (m:=8) (λy H=>c y (List.mem_of_mem_take H)) (by omega);rw[<-P]at e;have g:=AMP (a:=-1) hi;refine wW ?_;refine⟨_,?_,rfl⟩;rw[g,P];refine wW ?_;rw[P,List.take_of_length_le (Nat.le_refl _),f]
end Go.Cat
namespace Go.Cat
variable{K:Nat->List D->List D->Prop}
def EP(l:List Int):List Nat:=if l=[]then [110,111,110,101]else glue [44] (l.map AN)
def Gz(l:List Int):Prop:=∀x∈l,-9223372036854775808<=x/\x<=9223372036854775807
theorem Xj{l:List Int}(h:Gz l){i:Nat}(hi:i<l.length):-9223372036854775808<=AB l i/\AB l i<=9223372036854775807:=h _ (by simp[AB,hi])
theorem Vv{α:Type}{l:List Int}{f:Int->α}{i:Nat}(h:i<l.length):(l.take (i+1)).map f=(l.take i).map f++[f (AB l i)]:=by rw[CO h,List.map_append];simp[AB,h]
theorem Lo{l:List Int}(h:Gz l):(EP l).length<=l.length*21+4:=by
 unfold EP;split;simp;have:=LW (sep:=[44]) (ws:=l.map AN) (b:=20) λx H=>by obtain⟨y,a,rfl⟩:=List.mem_map.1 H;exact Ar (h y a)
 simp only[List.length_map,AO,Aa]at this;omega
theorem P9[HA K]{l:List Int}(h:l.length<=1000)(H:Gz l):K 142 [LI l] [.s (EP l)]:=by
 refine qb I142 ?_;by_cases h0:l=[];subst h0;have e:(([]:List Int).length:Int)=0:=rfl;simp(disch:=try exact dV) only[AD,e];rfl;have j:0<l.length:=List.length_pos_iff.2 h0;refine wW ?_;refine BE (λi (r:List (List Nat))=>r=(l.take i).map AN) (λi r=>[.u,.u,LS r,.u,.u,LI l,.n l.length,.n i,.u]) l.length [] rfl rfl (λi r hi P=>?_) (λr P=>?_);have k:r.length=i:=by rw[P];simp;omega
 have f:=Xj H hi;refine wW ?_;refine cW (C4 f) ?_;refine⟨_,?_,rfl⟩;rw[P,Vv hi];rw[List.take_of_length_le (by omega)]at P;have b:∀x∈r,x.length<=100000:=λx a=>by rw[P]at a;obtain⟨y,g,rfl⟩:=List.mem_map.1 a;have:=Ar (H y g);omega
 have c:r.length<=100000:=by rw[P];simp;omega
 refine wW ?_;refine cW (Hs c b (by simp)) ?_;rw[EP,if_neg h0,P]
theorem Q6[HA K]{l:List Int}(h:l.length<=1000)(f:Gz l):K 137 [LI l] [.s (EP l)]:=by
 refine qw I137 ?_;have a:∀i,(glue [44] ((l.take i).map AN)).length<=21000:=λi=>by
  have:=LW (sep:=[44]) (ws:=(l.take i).map AN) (b:=20) λx g=>by obtain⟨y,j,rfl⟩:=List.mem_map.1 g;exact Ar (f y (List.mem_of_mem_take j))
  simp only[List.length_map,AO,Aa,List.length_take]at this;omega
 refine BE (λi (s:List Nat)=>s=glue [44] ((l.take i).map AN)) (λi s=>[LI l,.u,.s s,.n i,.u,.u,.u]) l.length [] rfl rfl (λi s hi P=>?_) (λs P=>?_);have H:=Xj f hi;have k:=Ar H;have c:=a i;rw[<-P]at c;by_cases h0:0<i;refine wW ?_;refine cW (Bk H) ?_;refine⟨_,?_,rfl⟩;rw[Vv hi,RC,<-P,if_pos (by simp;omega)];refine wW ?_;refine cW (Bk H) ?_;refine⟨_,?_,rfl⟩;rw[Vv hi,RC,<-P,if_neg (by simp;omega)];simp;rw[List.take_of_length_le (by omega)]at P;by_cases h0:l=[];have c:s=[]:=by rw[P,h0];rfl
 subst c;refine wW ?_;rw[EP,if_pos h0];have c:s≠[]:=by obtain⟨L,x,rfl⟩:∃L x,l=L++[x]:=⟨l.dropLast,l.getLast h0,(List.dropLast_concat_getLast h0).symm⟩;rw[P,List.map_append,List.map_cons,List.map_nil,RC];intro e;have:=congrArg List.length e;have:=Ph (n:=x);simp only[AZ,Aa]at*;omega
 have H:(s==[])=false:=by simpa using c
 simp(disch:=try exact dV) only[AD,H];rw[EP,if_neg h0,P]
end Go.Cat
namespace Go.Cat
set_option maxRecDepth 100000
def Nw(v:List Nat):Prop:=v.length<=100000/\10∉v
theorem AJX:∀{n:Nat},10∉CQ n:=by
 intro n;induction n using Nat.strongRecOn with
 |_ n i=>
  by_cases h0:n=0
  .subst h0;simp[CQ]
  .rw[GW h0,Ac,List.mem_singleton]
   rintro(q|q)
   .exact i (n/10) (by omega) q
   .omega
theorem JA{n:Int}:10∉AN n:=by unfold AN;split;decide;split;rw[AY];rintro(q|q);omega;exact AJX q;exact AJX
theorem YK{ws:List (List Nat)}{i:Int}(h:∀x∈ws,10∉x):10∉AH ws i:=by
 rcases B7 i.toNat ws.length with q|q;exact h _ (by simp[AH,q])
 simp[AH,q]
theorem N6{s:List Nat}{ws:List (List Nat)}(H:10∉s)(h:∀x∈ws,10∉x):∀i,10∉BC s ws i
 |0=>by simp[BC]
 |i+1=>by simp only[BC,Ac,not_or];refine⟨⟨N6 H h i,?_⟩,YK h⟩;split;exact H;simp
theorem Qr{α:Type}{l:List α}{f:α->List Nat}(h:∀x,10∉f x):∀x∈l.map f,10∉x:=λx H=>by
 obtain⟨y,_,rfl⟩:=List.mem_map.1 H
 exact h y
theorem Sb{l:List Int}:10∉EP l:=by unfold EP;split;decide;exact N6 (by decide) (Qr λ_=>JA) _
theorem UF{l:List Int}:10∉DO l:=by unfold DO;split;decide;exact N6 (by decide) (Qr λ_=>JA) _
theorem Jm:∀{x:BT},10∉x.t
 |.lf=>by decide
 |.nd l r=>by simp[BT.t,Jm (x:=l),Jm (x:=r)]
theorem AWW{d:List (List Int)}:10∉C0 d:=by unfold C0;split;decide;split;decide;split;exact N6 (by decide) (Qr λ_=>by simp[JA]) _;decide
end Go.Cat
namespace Go.Cat
variable{K:Nat->List D->List D->Prop}
set_option maxRecDepth 100000
end Go.Cat
namespace Go.Cat
variable{K:Nat->List D->List D->Prop}
def Jf(x:BT):List Nat:=[116,114,101,101,32]++x.t++[32,110,111,100,101,115,32]++AN x.n++[32,104,101,105,103,104,116,32]++AN (HP x)++[32,119,101,105,103,104,116,115,32]++EP x.w++[32,117,112,32]++AN (Bt Av x x.n).length++[32,110,101,105,103,104,98,111,117,114,115,32]++AN (DQ x).length++[32,109,105,114,114,111,114,32]++x.DB.t
theorem AWS{f g a2 h i j k l o q a b c e:List Nat}:EK [.s f,.s g,.s a2,.s h,.s i,.s j,.s k,.s l,.s o,.s q,.s a,.s b,.s c,.s e]=some (LS [f,g,a2,h,i,j,k,l,o,q,a,b,c,e]):=rfl
theorem Vi{x:BT}(h:x.n<=8):-1<=HP x/\HP x<=8:=Uk (λy H=>by have:=Na H;omega) (by omega)
theorem NG:∀{x:BT}{y:Int},y∈x.w->0<=y/\y<=x.n
 |.lf,y,h=>by simp[BT.w]at h
 |.nd l r,y,h=>by simp only[BT.w,Ac,List.mem_singleton]at h;simp only[BT.n];rcases h with(h|rfl)|h;have:=NG h;omega;omega;have:=NG h;omega
theorem AVM[HA K][E3 K]{x:BT}(h:x.n<=8):K 125 [.s x.t] [.s (Jf x)]:=by
 have q:=BT.tl x;have o:=BT.tl x.DB;have a:=Gh (x:=x);have j:=Vi h;have B:=Be (x:=x);have hi:Gz x.w:=λy c=>by have:=NG c;omega
 have l:=FD (f:=Av) (x:=x) (k:=x.n);have b:=MX (x:=x);have F:=Ar (n:=(x.n:Int)) (by omega);have e:=Ar (n:=HP x) (by omega);have f3:=Ar (n:=((Bt Av x x.n).length:Int)) (by omega);have g:=Ar (n:=((DQ x).length:Int)) (by omega);have i:=Lo hi;refine qw ACI ?_;refine cB Hx ?_;simp(disch:=try exact dV) only[AD,FO h];refine cW (MA h) ?_;refine cW (Fu h) ?_;refine cW (C4 (by omega)) ?_;refine cW (ht_i h) ?_;refine cW (C4 (by omega)) ?_;refine cW (Ke h) ?_;refine cW (P9 (by omega) hi) ?_;refine cW (cr_i h) ?_;refine cW (C4 (by omega)) ?_;refine cW (ACS h) ?_;rw[List.length_map];refine cB (C4 (by omega)) ?_;simp(disch:=try exact dV) only[AD,AWS];have H:=IP (K:=K) (ws:=[[116,114,101,101],x.t,[110,111,100,101,115],AN x.n,[104,101,105,103,104,116],AN (HP x),[119,101,105,103,104,116,115],EP x.w,[117,112],AN (Bt Av x x.n).length,[110,101,105,103,104,98,111,117,114,115],AN (DQ x).length,[109,105,114,114,111,114],x.DB.t]) (by simp) (by simp;omega);refine cW H ?_;simp[Jf,glue,BC,AH]
theorem AYY[HA K]{x:BT}(h:x.n<=8):K 124 [.s x.t] [.s (Jf x)]:=by
 have o:=BT.tl x;have l:=BT.tl x.DB;have H:=Gh (x:=x);have i:=Vi h;have q:=Be (x:=x);have hi:Gz x.w:=λy a=>by have:=NG a;omega
 have j:=FD (f:=Av) (x:=x) (k:=x.n);have b:=MX (x:=x);have F:=Ar (n:=(x.n:Int)) (by omega);have c:=Ar (n:=HP x) (by omega);have f3:=Ar (n:=((Bt Av x x.n).length:Int)) (by omega);have e:=Ar (n:=((DQ x).length:Int)) (by omega);have g:=Lo hi;refine qw AM2 ?_;refine cB Fo ?_;simp(disch:=try exact dV) only[AD,FO h];refine cW (AUJ h) ?_;refine cW (EL h) ?_;refine cW (Bk (by omega)) ?_;refine cW (ht_s h) ?_;refine cW (Bk (by omega)) ?_;refine cW (Kl h) ?_;refine cW (Q6 (by omega) hi) ?_;refine cW (cr_s h) ?_;refine cW (Bk (by omega)) ?_;refine cW (ANR h) ?_;rw[List.length_map];refine cW (Bk (by omega)) ?_;simp[Jf]
theorem ASW[HA K]{s:List Nat}(h:Bq s=false):K 125 [.s s] [.s []]/\K 124 [.s s] [.s []]:=by constructor;refine qw ACI ?_;refine cB Hx ?_;simp(disch:=try exact dV) only[AD,h];refine qw AM2 ?_;refine cB Fo ?_;simp(disch:=try exact dV) only[AD,h]
theorem AaL{x:BT}(h:x.n<=8):(Jf x).length<=100000:=by
 have o:=BT.tl x;have l:=BT.tl x.DB;have H:=Gh (x:=x);have i:=Vi h;have q:=Be (x:=x);have hi:Gz x.w:=λy a=>by have:=NG a;omega
 have j:=FD (f:=Av) (x:=x) (k:=x.n);have b:=MX (x:=x);have F:=Ar (n:=(x.n:Int)) (by omega);have c:=Ar (n:=HP x) (by omega);have f3:=Ar (n:=((Bt Av x x.n).length:Int)) (by omega);have e:=Ar (n:=((DQ x).length:Int)) (by omega);have g:=Lo hi;simp only[Jf,AZ,AO,Aa];omega
theorem ARJ[HA K][E3 K](s:List Nat):∃v,Nw v/\K 125 [.s s] [.s v]/\K 124 [.s s] [.s v]:=by
 cases hb:Bq s with
 |false=>exact⟨_,⟨by simp,by simp⟩,ASW (K:=K) hb⟩
 |true=>
  obtain⟨x,rfl,h⟩:=GF hb
  exact⟨_,⟨AaL h,by simp[Jf,Jm,JA,Sb]⟩,AVM h,AYY h⟩
end Go.Cat
namespace Go.Cat
theorem Fz:∀{x:BT}{i:Nat},i<x.n->(i:Int)+AB x.w (i:Nat)<x.n/\0<=AB x.w (i:Nat)
 |.lf,i,h=>by simp[BT.n]at h
 |.nd l r,i,h=>by have H:=h;simp only[BT.n]at H;rw[Cp h];simp only[BT.at,BT.n];by_cases q:i<l.n;have:=Fz (x:=l) q;rw[Cp q]at this;rw[if_pos (by omega)];omega;rw[if_neg (by omega)];by_cases Q:l.n<i;have:=Fz (x:=r) (i:=i-l.n-1) (by omega);rw[Cp (by omega)]at this;rw[if_pos (by omega),show((i:Nat):Int)-l.n-1=((i-l.n-1:Nat):Int) by omega];omega;rw[if_neg (by omega)];simp only[Hn];omega
theorem R8:∀{x:BT}{i k:Nat},k<x.n->i<k->(k:Int)<=i+AB x.w (i:Nat)->(k:Int)+AB x.w (k:Nat)<=i+AB x.w (i:Nat)
 |.lf,i,k,h,_,_=>by simp[BT.n]at h
 |.nd l r,i,k,h,b,H=>by
  have c:=h;simp only[BT.n]at c;have hi:i<(BT.nd l r).n:=by omega
  rw[Cp hi]at H;rw[Cp h,Cp hi];simp only[BT.at]at H|-;by_cases q:i<l.n;rw[if_pos (show((i:Nat):Int)<l.n by omega)]at H|-;have e:=Fz (x:=l) q;rw[Cp q]at e;have a:k<l.n:=by omega
  rw[if_pos (show((k:Nat):Int)<l.n by omega)];have:=R8 (x:=l) a b (by rw[Cp q];exact H);rw[Cp q,Cp a]at this;exact this;rw[if_neg (show ¬((i:Nat):Int)<l.n by omega)]at H|-;rw[if_neg (show ¬((k:Nat):Int)<l.n by omega),if_pos (show(l.n:Int)<(k:Nat) by omega)];have W:=Fz (x:=r) (i:=k-l.n-1) (by omega);rw[Cp (by omega)]at W;rw[show((k:Nat):Int)-l.n-1=((k-l.n-1:Nat):Int) by omega];by_cases Q:l.n<i;rw[if_pos (show(l.n:Int)<(i:Nat) by omega),show((i:Nat):Int)-l.n-1=((i-l.n-1:Nat):Int) by omega]at H|-;have:=R8 (x:=r) (i:=i-l.n-1) (k:=k-l.n-1) (by omega) (by omega) (by rw[Cp (by omega)];omega);rw[Cp (by omega),Cp (by omega)]at this;omega;rw[if_neg (show ¬(l.n:Int)<(i:Nat) by omega)]at H|-;rw[show Hn (BT.nd l r)=r.n from rfl]at H|-;omega
theorem left_at:∀{x:BT}{i v:Nat},v<x.n->i<v->(i:Int)+AB x.w (i:Nat)+1=v->∃a b c,x.at (v:Nat)=.nd (.nd a b) c/\b.n+1<=v/\v<=i+b.n+1
 |.lf,i,v,h,_,_=>by simp[BT.n]at h
 |.nd l r,i,v,h,e,hi=>by
  have j:=h;simp only[BT.n]at j;have H:i<(BT.nd l r).n:=by omega
  rw[Cp H]at hi;simp only[BT.at]at hi|-;by_cases q:i<l.n;rw[if_pos (show((i:Nat):Int)<l.n by omega)]at hi;have o:=Fz (x:=l) q;rw[Cp q]at o;by_cases Q:v<l.n;rw[if_pos (show((v:Nat):Int)<l.n by omega)];exact left_at Q e (by rw[Cp q];exact hi);obtain rfl:v=l.n:=by omega
  rw[if_neg (show ¬((l.n:Nat):Int)<l.n by omega),if_neg (show ¬(l.n:Int)<(l.n:Nat) by omega)]
  cases l with
  |lf=>simp[BT.n]at q
  |nd a b=>
   refine⟨a,b,r,rfl,by simp only[BT.n];omega,?_⟩
   have k:=q
   simp only[BT.n]at k hi|-
   simp only[BT.at]at hi
   by_cases f:i<a.n
   .have W:=Fz (x:=a) f
    rw[Cp f]at W
    rw[if_pos (show((i:Nat):Int)<a.n by omega)]at hi
    omega
   .omega
  rw[if_neg (show ¬((i:Nat):Int)<l.n by omega)]at hi;rw[if_neg (show ¬((v:Nat):Int)<l.n by omega),if_pos (show(l.n:Int)<(v:Nat) by omega),show((v:Nat):Int)-l.n-1=((v-l.n-1:Nat):Int) by omega];by_cases Q:l.n<i;rw[if_pos (show(l.n:Int)<(i:Nat) by omega),show((i:Nat):Int)-l.n-1=((i-l.n-1:Nat):Int) by omega]at hi;obtain⟨a,b,c,g,s,B⟩:=left_at (x:=r) (i:=i-l.n-1) (v:=v-l.n-1) (by omega) (by omega) (by rw[Cp (by omega)];omega);exact⟨a,b,c,g,by omega,by omega⟩;rw[if_neg (show ¬(l.n:Int)<(i:Nat) by omega),show Hn (BT.nd l r)=r.n from rfl]at hi;omega
theorem Le:∀{x:BT}{v:Nat}{a b c:BT},v<x.n->x.at (v:Nat)=.nd (.nd a b) c->b.n+1<=v
 |.lf,v,_,_,_,h,_=>by simp[BT.n]at h
 |.nd l r,v,a,b,c,h,H=>by have e:=h;simp only[BT.n]at e;simp only[BT.at]at H;by_cases q:v<l.n;rw[if_pos (by omega)]at H;exact Le q H;rw[if_neg (by omega)]at H;by_cases Q:l.n<v;rw[if_pos (by omega),show((v:Nat):Int)-l.n-1=((v-l.n-1:Nat):Int) by omega]at H;have:=Le (x:=r) (by omega) H;omega;rw[if_neg (by omega)]at H;injection H with f _;rw[f]at q;simp only[BT.n]at q;omega
theorem Oy:∀{x:BT}{v:Nat}{a b c:BT},v<x.n->x.at (v:Nat)=.nd (.nd a b) c->(x.rep (v:Nat) (.nd a (.nd b c))).w=x.w.set (v-b.n-1) ((b.n:Int)+c.n+1)
 |.lf,v,_,_,_,h,_=>by simp[BT.n]at h
 |.nd l r,v,a,b,c,h,H=>by
  have f:=h;have o:=Le h H;have s:=Be (x:=l);simp only[BT.n]at f;have e:=FU (L6 (by omega) (by omega) H);simp only[BT.at]at H;simp only[BT.rep]at e|-;by_cases q:v<l.n;rw[if_pos (by omega)]at H|-;simp only[BT.w];rw[Oy q H,CE,CE,List.set_append_left _ _ (by omega)];rw[if_neg (by omega)]at H e|-;by_cases Q:l.n<v;rw[if_pos (by omega),show((v:Nat):Int)-l.n-1=((v-l.n-1:Nat):Int) by omega]at H e|-;have j:=Le (x:=r) (by omega) H;simp only[BT.n]at e;simp only[BT.w];rw[Oy (by omega) H,List.set_append_right _ _ (by simp only[AZ,AO,Aa];omega)];simp only[AZ,AO,Aa];rw[show v-b.n-1-(l.w.length+(0+1))=v-l.n-1-b.n-1 by omega,show(r.rep ((v-l.n-1:Nat):Int) (a.nd (b.nd c))).n=r.n by omega];rw[if_neg (by omega)]at H|-;injection H with g i;subst g i;have k:=Be (x:=a);obtain rfl:v=(BT.nd a b).n:=by omega
  simp only[BT.w,BT.n];rw[show a.n+b.n+1-b.n-1=a.w.length by omega];simp only[CE,List.set_append_right _ _ (Nat.le_refl _),Nat.sub_self,List.cons_append,List.nil_append,List.set_cons_zero];rw[show((b.n+r.n+1:Nat):Int)=(b.n:Int)+r.n+1 by omega]
theorem O0:∀{x:BT}{v:Nat}{a b c:BT},v<x.n->x.at (v:Nat)=.nd (.nd a b) c->x.at ((v-b.n-1:Nat):Int)=.nd a b
 |.lf,v,_,_,_,h,_=>by simp[BT.n]at h
 |.nd l r,v,a,b,c,h,H=>by
  have e:=h;have k:=Le h H;simp only[BT.n]at e;simp only[BT.at]at H|-;by_cases q:v<l.n;rw[if_pos (by omega)]at H;rw[if_pos (by omega)];exact O0 q H;rw[if_neg (by omega)]at H;by_cases Q:l.n<v;rw[if_pos (by omega),show((v:Nat):Int)-l.n-1=((v-l.n-1:Nat):Int) by omega]at H;have i:=Le (x:=r) (by omega) H;have:=O0 (x:=r) (by omega) H;rw[if_neg (by omega),if_pos (by omega),show((v-b.n-1:Nat):Int)-l.n-1=((v-l.n-1-b.n-1:Nat):Int) by omega];exact this;rw[if_neg (by omega)]at H;injection H with f g;subst f g;obtain rfl:v=(BT.nd a b).n:=by omega
  have j:(BT.nd a b).n=a.n+b.n+1:=rfl;rw[if_pos (by omega)];simp only[BT.at];rw[if_neg (by omega),if_neg (by omega)]
def GA(x y:BT):Prop:=x.n=y.n/\∀i:Nat,i<x.n->AB x.w (i:Nat)<=AB y.w (i:Nat)
theorem AK2{x y:BT}(h:GA x y)(o:x.w≠y.w):∃(v:Nat)(z:BT),v<x.n/\Av x v=some z/\GA z y:=by
 obtain⟨C,l⟩:=h;have T:=Be (x:=x);have U:=Be (x:=y);obtain⟨i,hi,F⟩:∃i:Nat,i<x.n/\AB x.w (i:Nat)<AB y.w (i:Nat):=by refine Classical.byContradiction λq=>o (AIR (by omega) λi hi=>?_);have V:¬AB x.w (i:Nat)<AB y.w (i:Nat):=λQ=>q ⟨i,by omega,Q⟩;have:=l i (by omega);omega
 have P:=Fz (x:=x) hi;have R:=Fz (x:=y) (i:=i) (by omega);obtain⟨v,L⟩:∃v:Nat,(i:Int)+AB x.w (i:Nat)+1=v:=⟨((i:Int)+AB x.w (i:Nat)+1).toNat,by omega⟩;have H:v<x.n:=by omega
 obtain⟨a,b,c,j,N,O⟩:=left_at H (by omega) L;have s:=L6 (x:=x) (v:=(v:Nat)) (by omega) (by omega) j;refine⟨v,_,H,s,by rw[FU s];exact C,λk B=>?_⟩;rw[FU s]at B;rw[Oy H j];have wv:=Cp (x:=x) H;rw[j]at wv;simp only[Hn]at wv;have M:=l v H;have I:=O0 H j;have g:v-b.n-1<x.n:=by omega
 have W:=Cp (x:=x) g;rw[I]at W;simp only[Hn]at W;by_cases f:k=v-b.n-1;subst f;have e:AB (x.w.set (v-b.n-1) ((b.n:Int)+c.n+1)) ((v-b.n-1:Nat):Int)=(b.n:Int)+c.n+1:=by simp[AB,show v-b.n-1<x.w.length by omega]
 rw[e];have J:=l _ g;have G:(v:Int)<=((v-b.n-1:Nat):Int)+AB y.w ((v-b.n-1:Nat):Int):=by by_cases q:v-b.n-1=i;rw[q]at W|-;omega;have:=R8 (x:=y) (i:=v-b.n-1) (k:=i) (by omega) (by omega) (by omega);omega
 have:=R8 (x:=y) (i:=v-b.n-1) (k:=v) (by omega) (by omega) G;omega;have e:AB (x.w.set (v-b.n-1) ((b.n:Int)+c.n+1)) (k:Int)=AB x.w (k:Nat):=by simp only[AB,BM,Ap];rw[List.getElem?_set_ne (Ne.symm f)]
 rw[e];exact l k B
theorem RA{l r:BT}{i:Nat}(h:i<l.n):(i:Int)+AB (BT.nd l r).w (i:Nat)<l.n:=by have:=Fz (x:=l) h;rw[Cp h]at this;rw[Cp (by simp only[BT.n];omega)];simp only[BT.at];rw[if_pos (by omega)];exact this.1
theorem MT{l r:BT}:AB (BT.nd l r).w (l.n:Nat)=r.n:=by rw[Cp (by simp only[BT.n];omega)];simp only[BT.at];rw[if_neg (by omega),if_neg (by omega)]<;>rfl
theorem Pc:∀{x y:BT},x.w=y.w->x=y
 |.lf,.lf,_=>rfl
 |.lf,.nd l r,h=>by have:=congrArg List.length h;rw[Be,Be]at this;simp[BT.n]at this
 |.nd l r,.lf,h=>by have:=congrArg List.length h;rw[Be,Be]at this;simp[BT.n]at this
 |.nd l r,.nd L R,h=>by
  have b:=congrArg List.length h
  rw[Be,Be]at b
  have a:=b
  simp only[BT.n]at a
  have f:l.n=L.n:=by
   rcases Nat.lt_trichotomy l.n L.n with q|q|q
   have H:=RA (l:=L) (r:=R) q
   rw[<-h,MT]at H
   omega
   exact q
   have H:=RA (l:=l) (r:=r) q
   rw[h,MT]at H
   omega
  simp only[BT.w,CE]at h
  obtain⟨H,c⟩:=List.append_inj h (by rw[Be,Be];exact f)
  obtain⟨_,e⟩:=List.append_inj c rfl
  rw[Pc H,Pc e]
end Go.Cat
namespace Go.Cat
variable{K:Nat->List D->List D->Prop}
def Ch(x y:BT):Bool:=decide (x.n=y.n)&&(List.range x.n).all λi:Nat=>decide (AB x.w (i:Nat)<=AB y.w (i:Nat))
theorem IQ{x y:BT}:Ch x y=true↔GA x y:=by simp only[Ch,GA,AU,Ad,Aj,List.mem_range]
theorem AMQ{x y:BT}{i:Nat}(h:i<x.n)(H:AB y.w (i:Nat)<AB x.w (i:Nat)):Ch x y=false:=by rw[Bool.eq_false_iff];intro q;have:=(IQ.1 q).2 i h;omega
theorem AJ2{x y:BT}(h:x.n≠y.n):Ch x y=false:=by rw[Bool.eq_false_iff];exact λq=>h (IQ.1 q).1
theorem Is[HA K]{x y:BT}{m:Int}(h:x.n<=8)(c:y.n<=8)(e:0<=m/\m<=8):K 367 [.s x.t,.s y.t,.n m] [.b (decide ((x.n:Int)<=m)&&decide (x.n=y.n))]:=by refine qw Me ?_;refine cB (Fu h) ?_;by_cases H:(x.n:Int)<=m;refine wW ?_;refine cW (Fu c) ?_;by_cases a:x.n=y.n;simp[H,a];simp[H,a];omega;rw[decide_eq_false H];exact wZ
theorem MR[HA K]{x y:BT}(h:x.n<=8)(c:y.n<=8):K 350 [.s x.t,.s y.t] [.b (Ch x y)]:=by have l:=Be (x:=x);have L:=Be (x:=y);refine qw U1 ?_;refine cB (Is h c (by omega)) ?_;have a:decide ((x.n:Int)<=8)=true:=decide_eq_true (by omega);by_cases H:x.n=y.n;have e:decide (x.n=y.n)=true:=decide_eq_true H;rw[a,e];refine wW ?_;refine cW (Ke h) ?_;refine cW (Ke c) ?_;refine AR (λi=>∀j:Nat,j<i->AB x.w (j:Nat)<=AB y.w (j:Nat)) (λi=>[.u,.u,.u,LI x.w,LI y.w,.u,.u,.n x.w.length,.n i,.u,.u]) x.w.length (by omega) rfl (λi hi P=>?_) (λP=>?_);by_cases q:AB x.w (i:Nat)<=AB y.w (i:Nat);refine wW ?_;exact Cw P q;refine wW ?_;rw[AMQ (i:=i) (by omega) (by omega)];refine wW ?_;rw[IQ.2 ⟨H,λi hi=>P i (by omega)⟩];have e:decide (x.n=y.n)=false:=decide_eq_false H;rw[a,e];refine wW ?_;rw[AJ2 H]
theorem Io[HA K]{x y:BT}(h:x.n<=8)(a:y.n<=8):K 365 [.s x.t,.s y.t] [.b (decide (x.n=y.n))]:=by have T:=BT.tl x;have ty:=BT.tl y;refine qw V4 ?_;refine cB Fo ?_;simp(disch:=omega) only[AD,FO h];refine cB Fo ?_;simp(disch:=omega) only[AD,FO a];by_cases H:x.n=y.n;simp[H,T,ty];simp[H,T,ty];omega
theorem Kw[HA K]{x y:BT}(h:x.n<=8)(a:y.n<=8):K 349 [.s x.t,.s y.t] [.b (Ch x y)]:=by have l:=Be (x:=x);have L:=Be (x:=y);refine qw Tk ?_;refine cB (Io h a) ?_;by_cases H:x.n=y.n;have e:decide (x.n=y.n)=true:=decide_eq_true H;rw[e];refine wW ?_;refine cW (Kl h) ?_;refine cW (Kl a) ?_;refine AR (λi=>∀j:Nat,j<i->AB x.w (j:Nat)<=AB y.w (j:Nat)) (λi=>[.u,.u,.u,LI x.w,LI y.w,.n i,.u,.u,.u]) x.w.length (by omega) rfl (λi hi P=>?_) (λP=>?_);by_cases q:AB x.w (i:Nat)<=AB y.w (i:Nat);refine wW ?_;exact Cw P q;refine wW ?_;rw[AMQ (i:=i) (by omega) (by omega)];refine wW ?_;rw[IQ.2 ⟨H,λi hi=>P i (by omega)⟩];have e:decide (x.n=y.n)=false:=decide_eq_false H;rw[e];refine wW ?_;rw[AJ2 H]
theorem Ac0[HA K]{a b:List Nat}{m:Int}(h:Bq a=false):K 367 [.s a,.s b,.n m] [.b false]:=by refine qw Me ?_;exact cZ (Po h)
theorem AVN[HA K]{x:BT}{b:List Nat}(H:x.n<=8)(h:Bq b=false):K 367 [.s x.t,.s b,.n 8] [.b false]:=by refine qw Me ?_;refine cW (Fu H) ?_;exact cZ (Po h)
theorem Y4[HA K]{a b:List Nat}(h:Bq a=false):K 365 [.s a,.s b] [.b false]:=by refine qw V4 ?_;refine cB Fo ?_;simp(disch:=omega) only[AD,h]
theorem AHS[HA K]{x:BT}{b:List Nat}(H:x.n<=8)(h:Bq b=false):K 365 [.s x.t,.s b] [.b false]:=by refine qw V4 ?_;refine cB Fo ?_;simp(disch:=omega) only[AD,FO H];refine cB Fo ?_;simp(disch:=omega) only[AD,h]
end Go.Cat
namespace Go.Cat
theorem SD:∀{x y:BT}{a b:List Nat},x.t++a=y.t++b->x=y/\a=b
 |.lf,.lf,a,b,h=>by simpa[BT.t]using h
 |.lf,.nd _ _,a,b,h=>by simp[BT.t]at h
 |.nd _ _,.lf,a,b,h=>by simp[BT.t]at h
 |.nd l r,.nd L R,a,b,h=>by simp only[BT.t,List.cons_append,CE,List.cons.injEq,true_and,List.nil_append]at h;obtain⟨c,e⟩:=SD h;obtain⟨f,H⟩:=SD e;subst c;subst f;simp only[List.cons.injEq,true_and]at H;exact⟨rfl,H⟩
theorem WJ{x y:BT}(h:x.t=y.t):x=y:=(SD (a:=[]) (b:=[]) (by rw[h])).1
theorem YF:∀{l:List Int}{i:Nat}{v:Int},i<l.length->AB l (i:Nat)<v->l.sum<(l.set i v).sum
 |[],i,v,h,_=>by simp at h
 |a::l,0,v,_,h=>by simp[AB]at h;simp only[List.set_cons_zero,List.sum_cons];omega
 |a::l,i+1,v,h,H=>by have:=YF (l:=l) (i:=i) (v:=v) (by simpa using h) (by simpa[AB]using H);simp only[List.set_cons_succ,List.sum_cons];omega
theorem AM6:∀{a b:List Int},a.length=b.length->(∀i:Nat,i<a.length->AB a (i:Nat)<=AB b (i:Nat))->a.sum<=b.sum
 |[],[],_,_=>by simp
 |a::l,b::m,h,H=>by have h0:=H 0 (by simp);have:=AM6 (a:=l) (b:=m) (by simpa using h) (λi hi=>by have:=H (i+1) (by simpa using hi);simpa[AB]using this);simp[AB]at h0;simp only[List.sum_cons];omega
theorem AHY:∀{l:List Int},(∀i:Nat,i<l.length->0<=AB l (i:Nat)/\AB l (i:Nat)<=8)->0<=l.sum/\l.sum<=8*l.length
 |[],_=>by simp
 |a::l,h=>by have h0:=h 0 (by simp);have:=AHY (l:=l) (λi hi=>by have:=h (i+1) (by simpa using hi);simpa[AB]using this);simp[AB]at h0;simp only[List.sum_cons,AO];omega
theorem Ub{x y:BT}(h:GA x y):x.w.sum<=y.w.sum:=by refine AM6 (by rw[Be,Be];exact h.1) (λi hi=>h.2 i ?_);rw[Be]at hi;exact hi
theorem Pk{x:BT}(h:x.n<=8):0<=x.w.sum/\x.w.sum<=64:=by have:=AHY (l:=x.w) (λi hi=>by rw[Be]at hi;have:=Fz hi;omega);rw[Be]at this;omega
theorem AAJ{x z:BT}{v:Nat}(f:v<x.n)(h:Av x (v:Nat)=some z):x.w.sum<z.w.sum:=by
 obtain⟨a,c,H⟩:=LZ (x:=x) (v:=(v:Nat)) (by omega) (by omega)
 cases a with
 |lf=>rw[Oa (by omega) (by omega) H]at h;cases h
 |nd a b=>
  rw[L6 (by omega) (by omega) H]at h
  injection h with h
  subst h
  rw[Oy f H]
  have e:=Cp (x:=x) (v:=v-b.n-1) (by omega)
  rw[O0 f H]at e
  simp only[Hn]at e
  refine YF (by rw[Be];omega) ?_
  rw[e]
  omega
end Go.Cat
