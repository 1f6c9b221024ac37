/-
 Ways of rotations of any two texts; distances.
-/
import Derived.Test.YthoilpmggmenbaaGreatPfWayK
set_option linter.unusedSimpArgs false
set_option linter.unusedVariables false
namespace Go.Cat
variable{K:Nat->List D->List D->Prop}
theorem Q9[HA K]{a b:List Nat}(h:K 367 [.s a,.s b,.n 5] [.b false]):K 348 [.s a,.s b] [LS [],.b false]:=by refine qw AA1 ?_;exact cZ h
theorem AND[HA K][E3 K]{x y:BT}(e:x.n<=5)(j:x.n=y.n):∃t:List (List Nat),t.length<=43/\0<t.length/\K 348 [.s x.t,.s y.t] [LS t,.b true]/\K 347 [.s x.t,.s y.t] [LS t,.b true]:=by obtain⟨N,l,c,o,q⟩:=AY1 e;have h:=q y j.symm;obtain⟨k,g,H,i⟩:=ADO (Hl (a:=x) N) h;rw[c]at g;have B:=P5 (S:=AX x N) (f:=k+1) (k:=k);exact⟨DK (AX x N) (k+1) k,by omega,by simp[DK],Ad7 e j.symm l c o g H h,Aa0 e j.symm l c o g H i⟩
theorem RF[HA K][E3 K](a b:List Nat):∃(t:List (List Nat))(r:Bool),t.length<=43/\(r=true->0<t.length)/\K 348 [.s a,.s b] [LS t,.b r]/\K 347 [.s a,.s b] [LS t,.b r]:=by
 cases ha:Bq a with
 |false=>
  refine⟨[],false,by simp,by simp,Q9 ?_,?_⟩
  .refine qw Me ?_
   exact cZ (Po ha)
  .refine qw MW ?_
   exact cZ (Y4 ha)
 |true=>
  obtain⟨x,rfl,h⟩:=GF ha
  cases hb:Bq b with
  |false=>
   refine⟨[],false,by simp,by simp,Q9 ?_,?_⟩
   .refine qw Me ?_
    refine cB (Fu h) ?_
    by_cases g:(x.n:Int)<=5
    .refine wW ?_
     exact cZ (Po hb)
    .exact wZ
   .refine qw MW ?_
    exact cZ (AHS h hb)
  |true=>
   obtain⟨y,rfl,e⟩:=GF hb
   by_cases g:x.n<=5
   .by_cases H:x.n=y.n
    .obtain⟨t,i,j,k⟩:=AND (K:=K) g H
     exact⟨t,true,i,λ_=>j,k⟩
    .have c:=Is (K:=K) (x:=x) (y:=y) (m:=5) h e (by omega)
     rw[decide_eq_false H,Bool.and_false]at c
     refine⟨[],false,by simp,by simp,Q9 c,?_⟩
     have f:=Io (K:=K) h e
     rw[decide_eq_false H]at f
     refine qw MW ?_
     exact cZ f
   .have c:=Is (K:=K) (x:=x) (y:=y) (m:=5) h e (by omega)
    rw[decide_eq_false (p:=(x.n:Int)<=5) (by omega),Bool.false_and]at c
    refine⟨[],false,by simp,by simp,Q9 c,?_⟩
    have f:=Io (K:=K) h e
    refine qw MW ?_
    refine cB f ?_
    by_cases H:x.n=y.n
    .rw[decide_eq_true H]
     refine wW ?_
     exact cZ (EL h)
    .rw[decide_eq_false H]
     exact wZ
theorem AW0[HA K][E3 K](a b:List Nat):∃v:Int,-1<=v/\v<=43/\K 617 [.s a,.s b] [.n v]/\K 612 [.s a,.s b] [.n v]:=by
 obtain⟨t,r,h,H,k,ks⟩:=RF (K:=K) a b
 cases r with
 |false=>
  refine⟨-1,by omega,by omega,?_,?_⟩
  .refine qw AK1 ?_
   exact cZ k
  .refine qw AGE ?_
   exact cZ ks
 |true=>
  refine⟨(t.length:Int)-1,by omega,by omega,?_,?_⟩
  .refine qw AK1 ?_
   exact cZ k
  .refine qw AGE ?_
   exact cZ ks
end Go.Cat
namespace Go.Cat
variable{K:Nat->List D->List D->Prop}
theorem AU7{d:List (List Int)}(h:∀y∈d,C7 y):∀y∈D1 d,C7 y:=by
 have key:∀(n:Nat)(d:List (List Int)),d.length=n->(∀y∈d,C7 y)->∀y∈D1 d,C7 y:=by
  intro n;induction n with
  |zero=>
   intro d hd _ y H
   rw[List.length_eq_zero_iff.1 hd]at H
   simp[D1,Hu]at H
  |succ n i=>
   intro d hd a y H
   obtain⟨e,x,rfl⟩:∃e x,d=e++[x]:=⟨d.dropLast,d.getLast (by rintro rfl;simp at hd),(List.dropLast_concat_getLast _).symm⟩
   rw[show D1 (e++[x])=(BY x (D1 e).reverse).reverse by simp only[D1,Hu,List.foldl_append,List.foldl_cons,List.foldl_nil,List.reverse_reverse],List.mem_reverse]at H
   rcases OS.1 H with q|q
   .rw[q];exact a x (by simp)
   .exact i e (by simpa using hd) (λz b=>a z (by simp[b])) y (List.mem_reverse.1 q)
 exact key _ d rfl h
theorem Oh{x:BT}:∀y∈BG x,C7 y:=AU7 L9
theorem Kv{x:BT}:(BG x).length<=x.n:=by have:=NU (x:=x) (l:=0) (r:=(x.n:Int)+1);rw[ADQ];omega
def Hc(d:List Int)(Y:List (List Int))(j:Nat):Nat:=((List.range j).filter λk:Nat=>decide (d=AF Y (k:Nat))).length
theorem Wb{d:List Int}{Y:List (List Int)}{j:Nat}:Hc d Y (j+1)=Hc d Y j+if d=AF Y (j:Nat)then 1 else 0:=by simp only[Hc,List.range_succ,List.filter_append,AZ];by_cases h:d=AF Y (j:Nat);simp[h];simp[h]
theorem Vl{d:List Int}{Y:List (List Int)}{j:Nat}:Hc d Y j<=j:=by have:=List.length_filter_le (λk:Nat=>decide (d=AF Y (k:Nat))) (List.range j);simpa[Hc]using this
def GX(X Y:List (List Int)):Nat->Nat
 |0=>0
 |i+1=>GX X Y i+Hc (AF X (i:Nat)) Y Y.length
theorem AJQ{X Y:List (List Int)}:∀{i:Nat},GX X Y i<=i*Y.length
 |0=>by simp[GX]
 |i+1=>by have h:=AJQ (X:=X) (Y:=Y) (i:=i);have H:=Vl (d:=AF X (i:Nat)) (Y:=Y) (j:=Y.length);simp only[GX,Nat.add_mul,Nat.one_mul];omega
theorem WV{X Y:List (List Int)}{i:Nat}(hi:i<=8)(h:Y.length<=8):GX X Y i<=64:=by have H:=AJQ (X:=X) (Y:=Y) (i:=i);have a:i*Y.length<=8*8:=Nat.mul_le_mul hi h;omega
theorem cd_i[HA K]{x y:BT}(b:x.n<=8)(h:x.n=y.n):K 616 [.s x.t,.s y.t] [.n (GX (BG x) (BG y) (BG x).length)]:=by have bx:=Kv (x:=x);have B:=Kv (x:=y);have k:=Is (K:=K) (x:=x) (y:=y) (m:=8) b (by omega) (by omega);rw[decide_eq_true (p:=(x.n:Int)<=8) (by omega),decide_eq_true h,Bool.and_self]at k;have R:=Oh (x:=x);have l:=Oh (x:=y);have g:=Ql (K:=K) (x:=x) b;have ky:=Ql (K:=K) (x:=y) (by omega);generalize BG x=X at*;generalize BG y=Y at*;refine qw I616 ?_;refine cW k ?_;refine cW g ?_;refine cW ky ?_;refine BE (λi (c:Int)=>c=GX X Y i) (λi c=>[.u,.u,.u,.u,LL Y,.n c,.u,.u,.u,LL X,.n X.length,.n i,.u,.u,.u,.u,.u,.u]) X.length 0 rfl rfl (λi c hi a=>?_) (λc a=>?_);have b1:=WV (X:=X) (Y:=Y) (i:=i) (by omega) (by omega);refine wW ?_;refine BE (λj (e:Int)=>e=c+Hc (AF X (i:Nat)) Y j) (λj e=>[.u,.u,.u,.u,LL Y,.n e,LI (AF X (i:Nat)),.u,.u,LL X,.n X.length,.n i,.u,LL Y,.n Y.length,.n j,.u,.u]) Y.length c (by simp[Hc]) rfl (λj e f he=>?_) (λe he=>?_);have b2:=Vl (d:=AF X (i:Nat)) (Y:=Y) (j:=j);have o:(AF X (i:Nat)).length=2:=R _ (G8 hi);have C:(AF Y (j:Nat)).length=2:=l _ (G8 f);refine wW ?_;refine cB (ANI (by omega)) ?_;have H:=Wb (d:=AF X (i:Nat)) (Y:=Y) (j:=j);by_cases q:AF X (i:Nat)=AF Y (j:Nat);rw[if_pos q]at H;rw[decide_eq_true q];refine wW ?_;exact⟨_,by rw[H,he];omega,rfl⟩;rw[if_neg q]at H;rw[decide_eq_false q];refine wW ?_;exact⟨_,by rw[H,he];omega,rfl⟩;refine wW ?_;exact⟨_,by rw[he,a];simp only[GX];omega,rfl⟩;refine wW ?_;rw[a]
theorem cd_s[HA K]{x y:BT}(g:x.n<=8)(h:x.n=y.n):K 611 [.s x.t,.s y.t] [.n (GX (BG x) (BG y) (BG x).length)]:=by
 have bx:=Kv (x:=x);have B:=Kv (x:=y);have T:=BT.tl x;have ty:=BT.tl y;have o:=Oh (x:=x);have C:=Oh (x:=y);have k:=QF (K:=K) (x:=x) g;have ky:=QF (K:=K) (x:=y) (by omega);generalize BG x=X at*;generalize BG y=Y at*;refine qw I611 ?_;refine cW k ?_;refine cW ky ?_;refine BE (λi (c:Int)=>c=GX X Y i) (λi c=>[.u,.u,.u,LL X,.u,LL Y,.u,.n c,.n i,.u,.u,.u,.u,.u]) X.length 0 rfl rfl (λi c hi a=>?_) (λc a=>?_);have b1:=WV (X:=X) (Y:=Y) (i:=i) (by omega) (by omega);refine wW ?_;refine BE (λj (e:Int)=>e=c+Hc (AF X (i:Nat)) Y j) (λj e=>[.u,.u,.u,LL X,.u,LL Y,.u,.n e,.n i,.n j,.u,.u,.u,.u]) Y.length c (by simp[Hc]) rfl (λj e f he=>?_) (λe he=>?_);have b2:=Vl (d:=AF X (i:Nat)) (Y:=Y) (j:=j);have R:(AF X (i:Nat)).length=2:=o _ (G8 hi);have l:(AF Y (j:Nat)).length=2:=C _ (G8 f);have H:=Wb (d:=AF X (i:Nat)) (Y:=Y) (j:=j);by_cases Q:AB (AF X (i:Nat)) 0=AB (AF Y (j:Nat)) 0;by_cases b:AB (AF X (i:Nat)) 1=AB (AF Y (j:Nat)) 1;have q:AF X (i:Nat)=AF Y (j:Nat):=by rw[OP R,OP l,Q,b]
 rw[if_pos q]at H;refine wW ?_;exact⟨_,by rw[H,he];omega,rfl⟩;have q:¬AF X (i:Nat)=AF Y (j:Nat):=λe=>b (by rw[e]);rw[if_neg q]at H;refine wW ?_;exact⟨_,by rw[H,he];omega,rfl⟩;have q:¬AF X (i:Nat)=AF Y (j:Nat):=λe=>Q (by rw[e]);rw[if_neg q]at H;refine wW ?_;exact⟨_,by rw[H,he];omega,rfl⟩;refine wW ?_;exact⟨_,by rw[he,a];simp only[GX];omega,rfl⟩;refine wW ?_;rw[a]
theorem AH5:∀(l:List (List Nat)),(∀w∈l,AK w=true)->∃t:List BT,t.map BT.p=l
 |[],_=>⟨[],rfl⟩
 |w::l,h=>by obtain⟨t,H⟩:=AH5 l (λw a=>h w (BL _ a));obtain⟨x,rfl,_⟩:=Hq (h w (List.mem_cons_self ..));exact⟨x::t,by simp[H]⟩
theorem ASZ:∀n:Nat,n<6->(AG n).length<=42/\∀w∈AG n,AK w=true:=by decide
theorem ZT{l:List BT}{i:Nat}(h:i<l.length):AH (l.map BT.p) (i:Nat)=(Ah l i).p:=by simp[AH,Ah,h]
theorem XZ[HA K]{n:Nat}(h:n<=5):∃t:List BT,t.length<=42/\(∀z∈t,z.n<=8)/\K 506 [.n n] [DN t]/\K 504 [.n n] [DN t]:=by
 obtain⟨j,hd⟩:=ASZ n (by omega);obtain⟨t,a⟩:=AH5 (AG n) hd;have q:t.length=(AG n).length:=by rw[<-a,List.length_map]
 have f:∀z∈t,z.n<=8:=λz H=>by
  have g:z.p∈AG n:=by rw[<-a];exact List.mem_map.2 ⟨z,H,rfl⟩
  obtain⟨y,e,o⟩:=Hq (hd _ g);rw[BT.AAC e];exact o
 refine⟨t,by omega,f,?_,?_⟩;have k:=AKO (K:=K) (n:=n) (by omega);rw[<-a]at k;refine qw I506 ?_;refine cB k ?_;simp(disch:=try exact dV) only[AD,List.length_map];refine AR (λ_=>True) (λi=>[.u,.u,DN (t.take i),.u,LS (t.map BT.p),.n t.length,.n i,.u]) t.length trivial rfl (λi hi _=>?_) (λ_=>?_);have b:=ZT hi;have H:=f _ (FV hi);have c:t.take (i+1)=t.take i++[Ah t i]:=by rw[CO hi,HS hi]
 have l:(t.take i).length<=42:=by rw[List.length_take];omega
 simp(disch:=try exact dV) only[AD,List.length_map,b];refine cW (Nf H) ?_;refine cB (I9 (by omega)) ?_;simp(disch:=try exact dV) only[AD,List.length_map];rw[c,DN,List.map_append]<;>rfl;rw[List.take_length];exact wZ;have k:=OQ (K:=K) (n:=n) (by omega);rw[<-a]at k;refine qw I504 ?_;refine cB k ?_;simp(disch:=try exact dV) only[AD,List.length_map];refine AR (λ_=>True) (λi=>[.u,.u,DN (t.take i),LS (t.map BT.p),.n i,.u]) t.length trivial rfl (λi hi _=>?_) (λ_=>?_);have b:=ZT hi;have H:=f _ (FV hi);have c:t.take (i+1)=t.take i++[Ah t i]:=by rw[CO hi,HS hi]
 have l:(t.take i).length<=42:=by rw[List.length_take];omega
 simp(disch:=try exact dV) only[AD,List.length_map,b];refine cB (Mf H) ?_;simp(disch:=try exact dV) only[AD,List.length_map];rw[c,DN,List.map_append]<;>rfl;rw[List.take_length];simp(disch:=try exact dV) only[AD,List.length_map]
def Ij(x y:BT)(t:List BT)(i:Nat):Nat:=((List.range i).filter λk:Nat=>Ch x (Ah t k)&&Ch (Ah t k) y).length
theorem Z7{x y:BT}{t:List BT}{i:Nat}:Ij x y t (i+1)=Ij x y t i+if(Ch x (Ah t i)&&Ch (Ah t i) y)=true then 1 else 0:=by simp only[Ij,List.range_succ,List.filter_append,AZ];by_cases h:(Ch x (Ah t i)&&Ch (Ah t i) y)=true;simp[h];simp[h]
theorem Tv{x y:BT}{t:List BT}{i:Nat}:Ij x y t i<=i:=by have:=List.length_filter_le (λk:Nat=>Ch x (Ah t k)&&Ch (Ah t k) y) (List.range i);simpa[Ij]using this
theorem AP2[HA K]{x y:BT}(g:x.n<=5)(h:x.n=y.n):∃v:Int,0<=v/\v<=42/\K 618 [.s x.t,.s y.t] [.n v]/\K 613 [.s x.t,.s y.t] [.n v]:=by
 obtain⟨t,o,T,j,ks⟩:=XZ (K:=K) (n:=x.n) g;have f:=Tv (x:=x) (y:=y) (t:=t) (i:=t.length);refine⟨Ij x y t t.length,by omega,by omega,?_,?_⟩;have k:=Is (K:=K) (x:=x) (y:=y) (m:=5) (by omega) (by omega) (by omega);rw[decide_eq_true (p:=(x.n:Int)<=5) (by omega),decide_eq_true h,Bool.and_self]at k;refine qw I618 ?_;refine cW k ?_;refine cW (Fu (by omega)) ?_;refine cB j ?_;simp(disch:=try exact dV) only[AD,List.length_map];refine BE (λi (c:Int)=>c=Ij x y t i) (λi c=>[.s x.t,.s y.t,.u,.n c,.u,.u,DN t,.n t.length,.n i,.u,.u]) t.length 0 rfl rfl (λi c hi a=>?_) (λc a=>?_);have e:=Fe hi;have b:=T _ (FV hi);have H:=Z7 (x:=x) (y:=y) (t:=t) (i:=i);have l:=Tv (x:=x) (y:=y) (t:=t) (i:=i);simp(disch:=try exact dV) only[AD,List.length_map,e];refine cB (MR (by omega) b) ?_
 cases q1:Ch x (Ah t i)with
 |false=>
  rw[q1,Bool.false_and,if_neg (by simp)]at H
  refine wW ?_
  exact⟨_,by rw[H,a];omega,rfl⟩
 |true=>
  refine wW ?_
  refine cB (MR b (by omega)) ?_
  cases q2:Ch (Ah t i) y with
  |false=>
   rw[q1,q2,Bool.and_false,if_neg (by simp)]at H
   refine wW ?_
   exact⟨_,by rw[H,a];omega,rfl⟩
  |true=>
   rw[q1,q2,Bool.and_self,if_pos rfl]at H
   refine wW ?_
   exact⟨_,by rw[H,a];omega,rfl⟩
 refine wW ?_;rw[a];have k:=Io (K:=K) (x:=x) (y:=y) (by omega) (by omega);rw[decide_eq_true h]at k;refine qw I613 ?_;refine cW k ?_;refine cW (EL (by omega)) ?_;refine cW (EL (by omega)) ?_;refine cW ks ?_;refine BE (λi (c:Int)=>c=Ij x y t i) (λi c=>[.s x.t,.s y.t,.u,DN t,.n c,.n i,.u,.u,.u]) t.length 0 rfl rfl (λi c hi a=>?_) (λc a=>?_);have e:=Fe hi;have b:=T _ (FV hi);have H:=Z7 (x:=x) (y:=y) (t:=t) (i:=i);have l:=Tv (x:=x) (y:=y) (t:=t) (i:=i);simp(disch:=try exact dV) only[AD,List.length_map,e];refine cB (Kw (by omega) b) ?_
 cases q1:Ch x (Ah t i)with
 |false=>
  rw[q1,Bool.false_and,if_neg (by simp)]at H
  simp(disch:=try exact dV) only[AD,List.length_map,e]
  exact⟨_,by rw[H,a];omega,rfl⟩
 |true=>
  simp(disch:=try exact dV) only[AD,List.length_map,e]
  refine cB (Kw b (by omega)) ?_
  cases q2:Ch (Ah t i) y with
  |false=>
   rw[q1,q2,Bool.and_false,if_neg (by simp)]at H
   refine wW ?_
   exact⟨_,by rw[H,a];omega,rfl⟩
  |true=>
   rw[q1,q2,Bool.and_self,if_pos rfl]at H
   refine wW ?_
   exact⟨_,by rw[H,a];omega,rfl⟩
 simp(disch:=try exact dV) only[AD,List.length_map];rw[a]
theorem AJJ{a b c d e f:List Nat}:EK [.s a,.s b,.s c,.s d,.s e,.s f]=some (LS [a,b,c,d,e,f]):=rfl
theorem AZ1{a b c d e:List Nat}:EK [.s a,.s b,.s c,.s d,.s e]=some (LS [a,b,c,d,e]):=rfl
theorem AeA[HA K][E3 K]{x y:BT}(a:x.n<=8)(h:x.n=y.n):∃v,(v≠[]/\Nw v)/\K 608 [.s x.t,.s y.t] [.s v]/\K 607 [.s x.t,.s y.t] [.s v]:=by
 obtain⟨m,F,M,ms⟩:=AKX (K:=K) a h;obtain⟨j,j1,J,e⟩:=AUD (K:=K) a h;have lm:(m.elim [] BT.t).length<=25:=by
  cases m with
  |none=>simp
  |some z=>have:=F z rfl;have:=BT.tl z;simp only[Option.elim_some];omega
 have lj:(j.elim [] BT.t).length<=25:=by
  cases j with
  |none=>simp
  |some z=>have:=j1 z rfl;have:=BT.tl z;simp only[Option.elim_some];omega
 have O:10∉m.elim [] BT.t:=by cases m<;>simp[Jm]
 have I:10∉j.elim [] BT.t:=by cases j<;>simp[Jm]
 rw[ER]at M ms J e;generalize m.elim [] BT.t=sm at*;generalize j.elim [] BT.t=b at*;generalize m.isSome=R at*;generalize j.isSome=Q at*;have k:=Is (K:=K) (x:=x) (y:=y) (m:=8) a (by omega) (by omega);rw[decide_eq_true (p:=(x.n:Int)<=8) (by omega),decide_eq_true h,Bool.and_self]at k;have f:=Io (K:=K) (x:=x) (y:=y) a (by omega);rw[decide_eq_true h]at f;have P:=WV (X:=BG x) (Y:=BG y) (i:=(BG x).length) (by have:=Kv (x:=x);omega) (by have:=Kv (x:=y);omega);have C:=cd_i (K:=K) a h;have cs:=cd_s (K:=K) a h;generalize GX (BG x) (BG y) (BG x).length=c at*;have W:=Ar (n:=(c:Int)) (by omega);have G:glue [32] [[112,97,105,114,32,109,101,101,116],sm,[106,111,105,110],b,[99,111,109,109,111,110],AN c]=[112,97,105,114,32,109,101,101,116,32]++sm++[32,106,111,105,110,32]++b++[32,99,111,109,109,111,110,32]++AN c:=by simp[glue,BC,AH]
 have l:=IP (K:=K) (ws:=[[112,97,105,114,32,109,101,101,116],sm,[106,111,105,110],b,[99,111,109,109,111,110],AN c]) (by simp) (by simp;omega);rw[G]at l;obtain⟨s1,H⟩:∃s,s=[112,97,105,114,32,109,101,101,116,32]++sm++[32,106,111,105,110,32]++b++[32,99,111,109,109,111,110,32]++AN c:=⟨_,rfl⟩;have B:s1.length<=1000:=by rw[H];simp;omega
 have N:s1≠[]/\10∉s1:=by rw[H];exact⟨by simp,by simp[O,I,JA]⟩
 rw[<-H]at l;by_cases q:x.n<=5
 .obtain⟨d,T,U,g,o⟩:=AW0 (K:=K) x.t y.t;obtain⟨v,v1,v2,V,vs⟩:=AP2 (K:=K) q h;have Z:=Ar (n:=d) (by omega);have f3:=Ar (n:=v) (by omega);have L:=IP (K:=K) (ws:=[s1,[100,105,115,116,97,110,99,101],AN d,[98,101,116,119,101,101,110],AN v]) (by simp) (by simp;omega);refine⟨s1++[32,100,105,115,116,97,110,99,101,32]++AN d++[32,98,101,116,119,101,101,110,32]++AN v,⟨by simp,by simp;omega,by simp[N.2,JA]⟩,?_,?_⟩;rotate_left 1;refine qw YY ?_;refine cW f ?_;refine cW ms ?_;refine cW e ?_;refine cW cs ?_;refine cW (Bk (by omega)) ?_;refine cW (EL (by omega)) ?_;refine cW o ?_;refine cW (Bk (by omega)) ?_;refine cW vs ?_;refine cW (Bk (by omega)) ?_;simp[H];refine qw AIQ ?_;refine cW k ?_;refine cW M ?_;refine cW J ?_;refine cW C ?_;refine cB (C4 (by omega)) ?_;simp(disch:=try exact dV) only[AD,AJJ];refine cW l ?_;refine cW (Fu (by omega)) ?_;refine cW g ?_;refine cW (C4 (by omega)) ?_;refine cW V ?_;refine cB (C4 (by omega)) ?_;simp(disch:=try exact dV) only[AD,AZ1];refine cW L ?_;simp[glue,BC,AH]
 refine⟨s1,⟨N.1,by omega,N.2⟩,?_,?_⟩;refine qw AIQ ?_;refine cW k ?_;refine cW M ?_;refine cW J ?_;refine cW C ?_;refine cB (C4 (by omega)) ?_;simp(disch:=try exact dV) only[AD,AJJ];refine cW l ?_;exact cZ (Fu (by omega));refine qw YY ?_;refine cW f ?_;refine cW ms ?_;refine cW e ?_;refine cW cs ?_;refine cW (Bk (by omega)) ?_;refine cW (EL (by omega)) ?_;simp[H]
end Go.Cat
