/-
 Ways of rotations of any two texts; distances.
-/
import Derived.Test.YthoilpmggmenbaaGreatPfWayK
set_option linter.unusedSimpArgs false
set_option linter.unusedVariables false
namespace Go.Cat
variable{K:Nat->List D->List D->Prop}
theorem Tf[HA K]{a b:List Nat}(h:K 367 [.s a,.s b,.n 5] [.b false]):K 348 [.s a,.s b] [LS [],.b false]:=by refine qw ADH ?_;exact cZ h
theorem AkX[HA K][Ds K]{x y:BT}(e:x.n<=5)(j:x.n=y.n):∃t:List (List Nat),t.length<=43/\0<t.length/\K 348 [.s x.t,.s y.t] [LS t,.b true]/\K 347 [.s x.t,.s y.t] [LS t,.b true]:=by obtain⟨N,l,c,o,q⟩:=AdA e;have h:=q y j.symm;obtain⟨k,g,H,i⟩:=AFH (J7 (a:=x) N) h;rw[c]at g;have B:=Qi (S:=AZ x N) (f:=k+1) (k:=k);exact⟨Dd (AZ x N) (k+1) k,by omega,by simp[Dd],AVD e j.symm l c o g H h,AhB e j.symm l c o g H i⟩
theorem OG[HA K][Ds K](a b:List Nat):∃(t:List (List Nat))(r:Bool),t.length<=43/\(r=true->0<t.length)/\K 348 [.s a,.s b] [LS t,.b r]/\K 347 [.s a,.s b] [LS t,.b r]:=by
 cases ha:Az a with
 |false=>
  refine⟨[],false,by simp,by simp,Tf ?_,?_⟩
  .refine qw OM ?_
   exact cZ (RV ha)
  .refine qw QJ ?_
   exact cZ (YG ha)
 |true=>
  obtain⟨x,rfl,h⟩:=FL ha
  cases hb:Az b with
  |false=>
   refine⟨[],false,by simp,by simp,Tf ?_,?_⟩
   .refine qw OM ?_
    refine cB (Gn h) ?_
    by_cases g:(x.n:Int)<=5
    .refine wW ?_
     exact cZ (RV hb)
    .exact wZ
   .refine qw QJ ?_
    exact cZ (YJ h hb)
  |true=>
   obtain⟨y,rfl,e⟩:=FL hb
   by_cases g:x.n<=5
   .by_cases H:x.n=y.n
    .obtain⟨t,i,j,k⟩:=AkX (K:=K) g H
     exact⟨t,true,i,λ_=>j,k⟩
    .have c:=Je (K:=K) (x:=x) (y:=y) (m:=5) h e (by omega)
     rw[decide_eq_false H,Bool.and_false]at c
     refine⟨[],false,by simp,by simp,Tf c,?_⟩
     have f:=JY (K:=K) h e
     rw[decide_eq_false H]at f
     refine qw QJ ?_
     exact cZ f
   .have c:=Je (K:=K) (x:=x) (y:=y) (m:=5) h e (by omega)
    rw[decide_eq_false (p:=(x.n:Int)<=5) (by omega),Bool.false_and]at c
    refine⟨[],false,by simp,by simp,Tf c,?_⟩
    have f:=JY (K:=K) h e
    refine qw QJ ?_
    refine cB f ?_
    by_cases H:x.n=y.n
    .rw[decide_eq_true H]
     refine wW ?_
     exact cZ (EV h)
    .rw[decide_eq_false H]
     exact wZ
theorem AcW[HA K][Ds K](a b:List Nat):∃v:Int,-1<=v/\v<=43/\K 617 [.s a,.s b] [.n v]/\K 612 [.s a,.s b] [.n v]:=by
 obtain⟨t,r,h,H,k,ks⟩:=OG (K:=K) a b
 cases r with
 |false=>
  refine⟨-1,by omega,by omega,?_,?_⟩
  .refine qw AR8 ?_
   exact cZ k
  .refine qw AKT ?_
   exact cZ ks
 |true=>
  refine⟨(t.length:Int)-1,by omega,by omega,?_,?_⟩
  .refine qw AR8 ?_
   exact cZ k
  .refine qw AKT ?_
   exact cZ ks
end Go.Cat
namespace Go.Cat
variable{K:Nat->List D->List D->Prop}
theorem AeV{d:List (List Int)}(h:∀y∈d,Ce y):∀y∈Dt d,Ce y:=by
 have key:∀(n:Nat)(d:List (List Int)),d.length=n->(∀y∈d,Ce y)->∀y∈Dt d,Ce y:=by
  intro n;induction n with
  |zero=>
   intro d hd _ y H
   rw[List.length_eq_zero_iff.1 hd]at H
   simp[Dt,J3]at H
  |succ n i=>
   intro d hd a y H
   obtain⟨e,x,rfl⟩:∃e x,d=e++[x]:=⟨d.dropLast,d.getLast (by rintro rfl;simp at hd),(List.dropLast_concat_getLast _).symm⟩
   rw[show Dt (e++[x])=(Bb x (Dt e).reverse).reverse by simp only[Dt,J3,List.foldl_append,List.foldl_cons,List.foldl_nil,List.reverse_reverse],List.mem_reverse]at H
   rcases Q5.1 H with q|q
   .rw[q];exact a x (by simp)
   .exact i e (by simpa using hd) (λz b=>a z (by simp[b])) y (List.mem_reverse.1 q)
 exact key _ d rfl h
theorem SF{x:BT}:∀y∈BO x,Ce y:=AeV NB
theorem Nm{x:BT}:(BO x).length<=x.n:=by have:=Pg (x:=x) (l:=0) (r:=(x.n:Int)+1);rw[AQN];omega
def I3(d:List Int)(Y:List (List Int))(j:Nat):Nat:=((List.range j).filter λk:Nat=>decide (d=AF Y (k:Nat))).length
theorem AFU{d:List Int}{Y:List (List Int)}{j:Nat}:I3 d Y (j+1)=I3 d Y j+if d=AF Y (j:Nat)then 1 else 0:=by simp only[I3,List.range_succ,List.filter_append,A4];by_cases h:d=AF Y (j:Nat);simp[h];simp[h]
theorem Xx{d:List Int}{Y:List (List Int)}{j:Nat}:I3 d Y j<=j:=by have:=List.length_filter_le (λk:Nat=>decide (d=AF Y (k:Nat))) (List.range j);simpa[I3]using this
def HJ(X Y:List (List Int)):Nat->Nat
 |0=>0
 |i+1=>HJ X Y i+I3 (AF X (i:Nat)) Y Y.length
theorem ADE{X Y:List (List Int)}:∀{i:Nat},HJ X Y i<=i*Y.length
 |0=>by simp[HJ]
 |i+1=>by have h:=ADE (X:=X) (Y:=Y) (i:=i);have H:=Xx (d:=AF X (i:Nat)) (Y:=Y) (j:=Y.length);simp only[HJ,Nat.add_mul,Nat.one_mul];omega
theorem UL{X Y:List (List Int)}{i:Nat}(hi:i<=8)(h:Y.length<=8):HJ X Y i<=64:=by have H:=ADE (X:=X) (Y:=Y) (i:=i);have a:i*Y.length<=8*8:=Nat.mul_le_mul hi h;omega
theorem cd_i[HA K]{x y:BT}(b:x.n<=8)(h:x.n=y.n):K 616 [.s x.t,.s y.t] [.n (HJ (BO x) (BO y) (BO x).length)]:=by have bx:=Nm (x:=x);have B:=Nm (x:=y);have k:=Je (K:=K) (x:=x) (y:=y) (m:=8) b (by omega) (by omega);rw[decide_eq_true (p:=(x.n:Int)<=8) (by omega),decide_eq_true h,Bool.and_self]at k;have R:=SF (x:=x);have l:=SF (x:=y);have g:=SH (K:=K) (x:=x) b;have ky:=SH (K:=K) (x:=y) (by omega);generalize BO x=X at*;generalize BO y=Y at*;refine qw I616 ?_;refine cW k ?_;refine cW g ?_;refine cW ky ?_;refine Aj (λi (c:Int)=>c=HJ X Y i) (λi c=>[.u,.u,.u,.u,LL Y,.n c,.u,.u,.u,LL X,.n X.length,.n i,.u,.u,.u,.u,.u,.u]) X.length 0 rfl rfl (λi c hi a=>?_) (λc a=>?_);have b1:=UL (X:=X) (Y:=Y) (i:=i) (by omega) (by omega);refine wW ?_;refine Aj (λj (e:Int)=>e=c+I3 (AF X (i:Nat)) Y j) (λj e=>[.u,.u,.u,.u,LL Y,.n e,LI (AF X (i:Nat)),.u,.u,LL X,.n X.length,.n i,.u,LL Y,.n Y.length,.n j,.u,.u]) Y.length c (by simp[I3]) rfl (λj e f he=>?_) (λe he=>?_);have b2:=Xx (d:=AF X (i:Nat)) (Y:=Y) (j:=j);have o:(AF X (i:Nat)).length=2:=R _ (HO hi);have C:(AF Y (j:Nat)).length=2:=l _ (HO f);refine wW ?_;refine cB (AJF (by omega)) ?_;have H:=AFU (d:=AF X (i:Nat)) (Y:=Y) (j:=j);by_cases q:AF X (i:Nat)=AF Y (j:Nat);rw[if_pos q]at H;rw[decide_eq_true q];refine wW ?_;exact⟨_,by rw[H,he];omega,rfl⟩;rw[if_neg q]at H;rw[decide_eq_false q];refine wW ?_;exact⟨_,by rw[H,he];omega,rfl⟩;refine wW ?_;exact⟨_,by rw[he,a];simp only[HJ];omega,rfl⟩;refine wW ?_;rw[a]
theorem cd_s[HA K]{x y:BT}(g:x.n<=8)(h:x.n=y.n):K 611 [.s x.t,.s y.t] [.n (HJ (BO x) (BO y) (BO x).length)]:=by
 have bx:=Nm (x:=x);have B:=Nm (x:=y);have T:=BT.tl x;have ty:=BT.tl y;have o:=SF (x:=x);have C:=SF (x:=y);have k:=S0 (K:=K) (x:=x) g;have ky:=S0 (K:=K) (x:=y) (by omega);generalize BO x=X at*;generalize BO y=Y at*;refine qw I611 ?_;refine cW k ?_;refine cW ky ?_;refine Aj (λi (c:Int)=>c=HJ X Y i) (λi c=>[.u,.u,.u,LL X,.u,LL Y,.u,.n c,.n i,.u,.u,.u,.u,.u]) X.length 0 rfl rfl (λi c hi a=>?_) (λc a=>?_);have b1:=UL (X:=X) (Y:=Y) (i:=i) (by omega) (by omega);refine wW ?_;refine Aj (λj (e:Int)=>e=c+I3 (AF X (i:Nat)) Y j) (λj e=>[.u,.u,.u,LL X,.u,LL Y,.u,.n e,.n i,.n j,.u,.u,.u,.u]) Y.length c (by simp[I3]) rfl (λj e f he=>?_) (λe he=>?_);have b2:=Xx (d:=AF X (i:Nat)) (Y:=Y) (j:=j);have R:(AF X (i:Nat)).length=2:=o _ (HO hi);have l:(AF Y (j:Nat)).length=2:=C _ (HO f);have H:=AFU (d:=AF X (i:Nat)) (Y:=Y) (j:=j);by_cases Q:AB (AF X (i:Nat)) 0=AB (AF Y (j:Nat)) 0;by_cases b:AB (AF X (i:Nat)) 1=AB (AF Y (j:Nat)) 1;have q:AF X (i:Nat)=AF Y (j:Nat):=by rw[Rt R,Rt l,Q,b]
 rw[if_pos q]at H;refine wW ?_;exact⟨_,by rw[H,he];omega,rfl⟩;have q:¬AF X (i:Nat)=AF Y (j:Nat):=λe=>b (by rw[e]);rw[if_neg q]at H;refine wW ?_;exact⟨_,by rw[H,he];omega,rfl⟩;have q:¬AF X (i:Nat)=AF Y (j:Nat):=λe=>Q (by rw[e]);rw[if_neg q]at H;refine wW ?_;exact⟨_,by rw[H,he];omega,rfl⟩;refine wW ?_;exact⟨_,by rw[he,a];simp only[HJ];omega,rfl⟩;refine wW ?_;rw[a]
theorem Z2:∀(l:List (List Nat)),(∀w∈l,AK w=true)->∃t:List BT,t.map BT.p=l
 |[],_=>⟨[],rfl⟩
 |w::l,h=>by obtain⟨t,H⟩:=Z2 l (λw a=>h w (BN _ a));obtain⟨x,rfl,_⟩:=Jp (h w (List.mem_cons_self ..));exact⟨x::t,by simp[H]⟩
theorem AVJ:∀n:Nat,n<6->(AI n).length<=42/\∀w∈AI n,AK w=true:=by decide
theorem Z5{l:List BT}{i:Nat}(h:i<l.length):AG (l.map BT.p) (i:Nat)=(An l i).p:=by simp[AG,An,h]
theorem AIU[HA K]{n:Nat}(h:n<=5):∃t:List BT,t.length<=42/\(∀z∈t,z.n<=8)/\K 506 [.n n] [D3 t]/\K 504 [.n n] [D3 t]:=by
 obtain⟨j,hd⟩:=AVJ n (by omega);obtain⟨t,a⟩:=Z2 (AI n) hd;have q:t.length=(AI n).length:=by rw[<-a,List.length_map]
 have f:∀z∈t,z.n<=8:=λz H=>by
  have g:z.p∈AI n:=by rw[<-a];exact List.mem_map.2 ⟨z,H,rfl⟩
  obtain⟨y,e,o⟩:=Jp (hd _ g);rw[BT.AQS e];exact o
 refine⟨t,by omega,f,?_,?_⟩;have k:=AHB (K:=K) (n:=n) (by omega);rw[<-a]at k;refine qw I506 ?_;refine cB k ?_;simp(disch:=try exact dV) only[AD,List.length_map];refine AN (λ_=>True) (λi=>[.u,.u,D3 (t.take i),.u,LS (t.map BT.p),.n t.length,.n i,.u]) t.length trivial rfl (λi hi _=>?_) (λ_=>?_);have b:=Z5 hi;have H:=f _ (Fz hi);have c:t.take (i+1)=t.take i++[An t i]:=by rw[CP hi,IX hi]
 have l:(t.take i).length<=42:=by rw[List.length_take];omega
 simp(disch:=try exact dV) only[AD,List.length_map,b];refine cW (Oo H) ?_;refine cB (K4 (by omega)) ?_;simp(disch:=try exact dV) only[AD,List.length_map];rw[c,D3,List.map_append]<;>rfl;rw[List.take_length];exact wZ;have k:=Q7 (K:=K) (n:=n) (by omega);rw[<-a]at k;refine qw I504 ?_;refine cB k ?_;simp(disch:=try exact dV) only[AD,List.length_map];refine AN (λ_=>True) (λi=>[.u,.u,D3 (t.take i),LS (t.map BT.p),.n i,.u]) t.length trivial rfl (λi hi _=>?_) (λ_=>?_);have b:=Z5 hi;have H:=f _ (Fz hi);have c:t.take (i+1)=t.take i++[An t i]:=by rw[CP hi,IX hi]
 have l:(t.take i).length<=42:=by rw[List.length_take];omega
 simp(disch:=try exact dV) only[AD,List.length_map,b];refine cB (Oy H) ?_;simp(disch:=try exact dV) only[AD,List.length_map];rw[c,D3,List.map_append]<;>rfl;rw[List.take_length];simp(disch:=try exact dV) only[AD,List.length_map]
def KI(x y:BT)(t:List BT)(i:Nat):Nat:=((List.range i).filter λk:Nat=>Cr x (An t k)&&Cr (An t k) y).length
theorem AE5{x y:BT}{t:List BT}{i:Nat}:KI x y t (i+1)=KI x y t i+if(Cr x (An t i)&&Cr (An t i) y)=true then 1 else 0:=by simp only[KI,List.range_succ,List.filter_append,A4];by_cases h:(Cr x (An t i)&&Cr (An t i) y)=true;simp[h];simp[h]
theorem Vx{x y:BT}{t:List BT}{i:Nat}:KI x y t i<=i:=by have:=List.length_filter_le (λk:Nat=>Cr x (An t k)&&Cr (An t k) y) (List.range i);simpa[KI]using this
theorem AV7[HA K]{x y:BT}(g:x.n<=5)(h:x.n=y.n):∃v:Int,0<=v/\v<=42/\K 618 [.s x.t,.s y.t] [.n v]/\K 613 [.s x.t,.s y.t] [.n v]:=by
 obtain⟨t,o,T,j,ks⟩:=AIU (K:=K) (n:=x.n) g;have f:=Vx (x:=x) (y:=y) (t:=t) (i:=t.length);refine⟨KI x y t t.length,by omega,by omega,?_,?_⟩;have k:=Je (K:=K) (x:=x) (y:=y) (m:=5) (by omega) (by omega) (by omega);rw[decide_eq_true (p:=(x.n:Int)<=5) (by omega),decide_eq_true h,Bool.and_self]at k;refine qw I618 ?_;refine cW k ?_;refine cW (Gn (by omega)) ?_;refine cB j ?_;simp(disch:=try exact dV) only[AD,List.length_map];refine Aj (λi (c:Int)=>c=KI x y t i) (λi c=>[.s x.t,.s y.t,.u,.n c,.u,.u,D3 t,.n t.length,.n i,.u,.u]) t.length 0 rfl rfl (λi c hi a=>?_) (λc a=>?_);have e:=Gc hi;have b:=T _ (Fz hi);have H:=AE5 (x:=x) (y:=y) (t:=t) (i:=i);have l:=Vx (x:=x) (y:=y) (t:=t) (i:=i);simp(disch:=try exact dV) only[AD,List.length_map,e];refine cB (Nc (by omega) b) ?_
 cases q1:Cr x (An t i)with
 |false=>
  rw[q1,Bool.false_and,if_neg (by simp)]at H
  refine wW ?_
  exact⟨_,by rw[H,a];omega,rfl⟩
 |true=>
  refine wW ?_
  refine cB (Nc b (by omega)) ?_
  cases q2:Cr (An t i) y with
  |false=>
   rw[q1,q2,Bool.and_false,if_neg (by simp)]at H
   refine wW ?_
   exact⟨_,by rw[H,a];omega,rfl⟩
  |true=>
   rw[q1,q2,Bool.and_self,if_pos rfl]at H
   refine wW ?_
   exact⟨_,by rw[H,a];omega,rfl⟩
 refine wW ?_;rw[a];have k:=JY (K:=K) (x:=x) (y:=y) (by omega) (by omega);rw[decide_eq_true h]at k;refine qw I613 ?_;refine cW k ?_;refine cW (EV (by omega)) ?_;refine cW (EV (by omega)) ?_;refine cW ks ?_;refine Aj (λi (c:Int)=>c=KI x y t i) (λi c=>[.s x.t,.s y.t,.u,D3 t,.n c,.n i,.u,.u,.u]) t.length 0 rfl rfl (λi c hi a=>?_) (λc a=>?_);have e:=Gc hi;have b:=T _ (Fz hi);have H:=AE5 (x:=x) (y:=y) (t:=t) (i:=i);have l:=Vx (x:=x) (y:=y) (t:=t) (i:=i);simp(disch:=try exact dV) only[AD,List.length_map,e];refine cB (N0 (by omega) b) ?_
 cases q1:Cr x (An t i)with
 |false=>
  rw[q1,Bool.false_and,if_neg (by simp)]at H
  simp(disch:=try exact dV) only[AD,List.length_map,e]
  exact⟨_,by rw[H,a];omega,rfl⟩
 |true=>
  simp(disch:=try exact dV) only[AD,List.length_map,e]
  refine cB (N0 b (by omega)) ?_
  cases q2:Cr (An t i) y with
  |false=>
   rw[q1,q2,Bool.and_false,if_neg (by simp)]at H
   refine wW ?_
   exact⟨_,by rw[H,a];omega,rfl⟩
  |true=>
   rw[q1,q2,Bool.and_self,if_pos rfl]at H
   refine wW ?_
   exact⟨_,by rw[H,a];omega,rfl⟩
 simp(disch:=try exact dV) only[AD,List.length_map];rw[a]
theorem Za{a b c d e f:List Nat}:Dv [.s a,.s b,.s c,.s d,.s e,.s f]=some (LS [a,b,c,d,e,f]):=rfl
theorem AVW{a b c d e:List Nat}:Dv [.s a,.s b,.s c,.s d,.s e]=some (LS [a,b,c,d,e]):=rfl
theorem Ac6[HA K][Ds K]{x y:BT}(a:x.n<=8)(h:x.n=y.n):∃v,(v≠[]/\Nw v)/\K 608 [.s x.t,.s y.t] [.s v]/\K 607 [.s x.t,.s y.t] [.s v]:=by
 obtain⟨m,F,M,ms⟩:=AIH (K:=K) a h;obtain⟨j,j1,J,e⟩:=ATL (K:=K) a h;have lm:(m.elim [] BT.t).length<=25:=by
  cases m with
  |none=>simp
  |some z=>have:=F z rfl;have:=BT.tl z;simp only[Option.elim_some];omega
 have lj:(j.elim [] BT.t).length<=25:=by
  cases j with
  |none=>simp
  |some z=>have:=j1 z rfl;have:=BT.tl z;simp only[Option.elim_some];omega
 have O:10∉m.elim [] BT.t:=by cases m<;>simp[MG]
 have I:10∉j.elim [] BT.t:=by cases j<;>simp[MG]
 rw[Ef]at M ms J e;generalize m.elim [] BT.t=sm at*;generalize j.elim [] BT.t=b at*;generalize m.isSome=R at*;generalize j.isSome=Q at*;have k:=Je (K:=K) (x:=x) (y:=y) (m:=8) a (by omega) (by omega);rw[decide_eq_true (p:=(x.n:Int)<=8) (by omega),decide_eq_true h,Bool.and_self]at k;have f:=JY (K:=K) (x:=x) (y:=y) a (by omega);rw[decide_eq_true h]at f;have P:=UL (X:=BO x) (Y:=BO y) (i:=(BO x).length) (by have:=Nm (x:=x);omega) (by have:=Nm (x:=y);omega);have C:=cd_i (K:=K) a h;have cs:=cd_s (K:=K) a h;generalize HJ (BO x) (BO y) (BO x).length=c at*;have W:=Ax (n:=(c:Int)) (by omega);have G:glue [32] [[112,97,105,114,32,109,101,101,116],sm,[106,111,105,110],b,[99,111,109,109,111,110],AQ c]=[112,97,105,114,32,109,101,101,116,32]++sm++[32,106,111,105,110,32]++b++[32,99,111,109,109,111,110,32]++AQ c:=by simp[glue,BE,AG]
 have l:=Hk (K:=K) (ws:=[[112,97,105,114,32,109,101,101,116],sm,[106,111,105,110],b,[99,111,109,109,111,110],AQ c]) (by simp) (by simp;omega);rw[G]at l;obtain⟨s1,H⟩:∃s,s=[112,97,105,114,32,109,101,101,116,32]++sm++[32,106,111,105,110,32]++b++[32,99,111,109,109,111,110,32]++AQ c:=⟨_,rfl⟩;have B:s1.length<=1000:=by rw[H];simp;omega
 have N:s1≠[]/\10∉s1:=by rw[H];exact⟨by simp,by simp[O,I,Fp]⟩
 rw[<-H]at l;by_cases q:x.n<=5
 .obtain⟨d,T,U,g,o⟩:=AcW (K:=K) x.t y.t;obtain⟨v,v1,v2,V,vs⟩:=AV7 (K:=K) q h;have Z:=Ax (n:=d) (by omega);have f3:=Ax (n:=v) (by omega);have L:=Hk (K:=K) (ws:=[s1,[100,105,115,116,97,110,99,101],AQ d,[98,101,116,119,101,101,110],AQ v]) (by simp) (by simp;omega);refine⟨s1++[32,100,105,115,116,97,110,99,101,32]++AQ d++[32,98,101,116,119,101,101,110,32]++AQ v,⟨by simp,by simp;omega,by simp[N.2,Fp]⟩,?_,?_⟩;rotate_left 1;refine qw Us ?_;refine cW f ?_;refine cW ms ?_;refine cW e ?_;refine cW cs ?_;refine cW (By (by omega)) ?_;refine cW (EV (by omega)) ?_;refine cW o ?_;refine cW (By (by omega)) ?_;refine cW vs ?_;refine cW (By (by omega)) ?_;simp[H];refine qw V3 ?_;refine cW k ?_;refine cW M ?_;refine cW J ?_;refine cW C ?_;refine cB (C4 (by omega)) ?_;simp(disch:=try exact dV) only[AD,Za];refine cW l ?_;refine cW (Gn (by omega)) ?_;refine cW g ?_;refine cW (C4 (by omega)) ?_;refine cW V ?_;refine cB (C4 (by omega)) ?_;simp(disch:=try exact dV) only[AD,AVW];refine cW L ?_;simp[glue,BE,AG]
 refine⟨s1,⟨N.1,by omega,N.2⟩,?_,?_⟩;refine qw V3 ?_;refine cW k ?_;refine cW M ?_;refine cW J ?_;refine cW C ?_;refine cB (C4 (by omega)) ?_;simp(disch:=try exact dV) only[AD,Za];refine cW l ?_;exact cZ (Gn (by omega));refine qw Us ?_;refine cW f ?_;refine cW ms ?_;refine cW e ?_;refine cW cs ?_;refine cW (By (by omega)) ?_;refine cW (EV (by omega)) ?_;simp[H]
theorem AW5[HA K][Ds K](a b:List Nat):∃v,Nw v/\K 608 [.s a,.s b] [.s v]/\K 607 [.s a,.s b] [.s v]:=by
 have o:∀r:Bool,r=false->K 367 [.s a,.s b,.n 8] [.b r]->K 365 [.s a,.s b] [.b r]->∃v,Nw v/\K 608 [.s a,.s b] [.s v]/\K 607 [.s a,.s b] [.s v]:=by
  rintro r rfl c e;refine⟨[],⟨by simp,by simp⟩,?_,?_⟩
  .refine qw V3 ?_;exact cZ c
  .refine qw Us ?_;exact cZ e
 cases ha:Az a with
 |false=>exact o false rfl (APD (K:=K) (m:=8) ha) (YG (K:=K) ha)
 |true=>
  obtain⟨x,rfl,H⟩:=FL ha
  cases hb:Az b with
  |false=>exact o false rfl (ZT (K:=K) H hb) (YJ (K:=K) H hb)
  |true=>
   obtain⟨y,rfl,f⟩:=FL hb
   by_cases h:x.n=y.n
   .obtain⟨v,g,k⟩:=Ac6 (K:=K) H h
    exact⟨v,g.2,k⟩
   .have c:=Je (K:=K) (x:=x) (y:=y) (m:=8) H f (by omega)
    have e:=JY (K:=K) H f
    rw[decide_eq_false h,Bool.and_false]at c
    rw[decide_eq_false h]at e
    exact o false rfl c e
end Go.Cat
