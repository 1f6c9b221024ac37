/-
 Sorting of rows: insertion, as the library does it for short lists.
-/
import Derived.Test.YthoilpmggmenbaaGreatPfDraw
set_option linter.unusedSimpArgs false
set_option linter.unusedVariables false
namespace Go.Cat
variable{K:Nat->List D->List D->Prop}
def Bj(x y:List Int):Bool:=decide (AB x 0<AB y 0)||(decide (AB x 0=AB y 0)&&decide (AB x 1<AB y 1))
def C7(x:List Int):Prop:=x.length=2
theorem OP{x:List Int}(h:C7 x):x=[AB x 0,AB x 1]:=by
 obtain⟨a,b,rfl⟩:∃a b,x=[a,b]:=by
  match x,h with
  |[a,b],_=>exact⟨a,b,rfl⟩
 rfl
theorem AFV{x y z:List Int}(h:Bj x z=false)(H:Bj y z=true):Bj y x=true:=by simp only[Bj,Bool.or_eq_true,AU,Ad,Bool.or_eq_false_iff,Bool.and_eq_false_iff,decide_eq_false_iff_not]at*;omega
theorem Uv{x y:List Int}(h:Bj x y=true):Bj y x=false:=by simp only[Bj,Bool.or_eq_true,AU,Ad,Bool.or_eq_false_iff,Bool.and_eq_false_iff,decide_eq_false_iff_not]at*;omega
theorem AL5{x y:List Int}(h:C7 x)(H:C7 y)(c:Bj x y=false)(e:Bj y x=false):x=y:=by
 simp only[Bj,Bool.or_eq_false_iff,Bool.and_eq_false_iff,decide_eq_false_iff_not]at*;have a:AB x 0=AB y 0:=by omega
 have b:AB x 1=AB y 1:=by omega
 rw[OP h,OP H,a,b]
def BY(x:List Int):List (List Int)->List (List Int)
 |[]=>[x]
 |y::t=>if Bj x y=true then y::BY x t else x::y::t
theorem Vo{x:List Int}:∀t,(BY x t).length=t.length+1
 |[]=>rfl
 |y::t=>by unfold BY;split;simp[Vo t];rfl
theorem OS{x z:List Int}:∀{t},z∈BY x t↔z=x\/z∈t
 |[]=>by simp[BY]
 |y::t=>by unfold BY;split;simp only[AY,OS (t:=t)];constructor<;>rintro(h|h|h)<;>simp[h];simp
theorem AIO{x y:List Int}(h:C7 x)(H:C7 y):∀t,BY x (BY y t)=BY y (BY x t)
 |[]=>by
  simp only[BY]
  cases h1:Bj x y
  cases h2:Bj y x;rw[AL5 h H h1 h2];simp;simp[Uv h1]
 |z::t=>by
  have i:=AIO h H t;simp only[BY]
  cases h1:Bj y z<;>cases h2:Bj x z;simp only[Gw,if_false,BY,h1,h2]
  cases h3:Bj x y
  cases h4:Bj y x;rw[AL5 h H h3 h4];simp;simp[Uv h3];have:=AFV h1 h2;simp[BY,h1,h2,this];have:=AFV h2 h1;simp[BY,h1,h2,this];simp[BY,h1,h2,i]
def Hu(d:List (List Int)):List (List Int):=d.foldl (λt x=>BY x t) []
def D1(d:List (List Int)):List (List Int):=(Hu d).reverse
theorem AN8{d e:List (List Int)}(h:d.Perm e)(H:∀x∈d,C7 x):Hu d=Hu e:=
 List.Perm.foldl_eq' h (λx a y b z=>(AIO (H x a) (H y b) z).symm) []
theorem AOK{d e:List (List Int)}(h:d.Perm e)(H:∀x∈d,C7 x):D1 d=D1 e:=by rw[D1,D1,AN8 h H]
theorem Ob:∀(d t:List (List Int)),(d.foldl (λt x=>BY x t) t).length=t.length+d.length
 |[],t=>rfl
 |x::d,t=>by rw[List.foldl_cons,Ob d,Vo,AO];omega
theorem AcD{d:List (List Int)}:(Hu d).length=d.length:=by rw[Hu,Ob];simp
theorem AET{d:List (List Int)}:(D1 d).length=d.length:=by rw[D1,List.length_reverse,AcD]
theorem RY{z:List Int}:∀{d t:List (List Int)},z∈d.foldl (λt x=>BY x t) t↔z∈d\/z∈t
 |[],t=>by simp
 |x::d,t=>by rw[List.foldl_cons,RY (d:=d),OS,AY];constructor;rintro(h|h|h);exact .inl (.inr h);exact .inl (.inl h);exact .inr h;rintro((h|h)|h);exact .inr (.inl h);exact .inl h;exact .inr (.inr h)
theorem UA{z:List Int}{d:List (List Int)}:z∈D1 d↔z∈d:=by rw[D1,List.mem_reverse,Hu,RY];simp
theorem ABB[HA K]{x:Int}:K 211 [.n x] [.b false]:=by exact qz I211
theorem AZV[HA K]{x y:Int}:K 377 [.n x,.n y] [.n (if x<y then -1 else if y<x then 1 else 0)]:=by refine qw I377 ?_;refine cW ABB ?_;refine cB ABB ?_;by_cases h:x<y;refine wW ?_;rw[if_pos h];by_cases H:y<x;refine wW ?_;rw[if_neg h,if_pos H];refine wW ?_;rw[if_neg h,if_neg H]
def JE(x y:List Int):Int:=if Bj x y=true then -1 else if Bj y x=true then 1 else 0
theorem ADM{x y:List Int}:decide (JE x y<0)=Bj x y:=by
 unfold JE
 cases Bj x y
 cases Bj y x<;>rfl;rfl
theorem X7[HA K]{x y:List Int}(f:C7 x)(g:C7 y):K 364 [LI x,LI y] [.n (JE x y)]:=by
 have l:x.length=2:=f;have L:y.length=2:=g;refine qw I364 ?_;refine AR (λi=>∀j:Nat,j<i->AB x j=AB y j) (λi=>[LI x,LI y,.u,.u,.u,.u,.u,LI x,.n x.length,.n i,.u,.u,.u,.u]) 2 (by simp) rfl (λi hi P=>?_) (λP=>?_);refine wW ?_;refine cB AZV ?_;have c:i=0\/i=1:=by omega
 have h0:i=1->AB x 0=AB y 0:=λq=>P 0 (by omega);by_cases h:AB x i<AB y i;rw[if_pos h];refine wW ?_;have e:Bj x y=true:=by rcases c with q|q;subst q;have h:AB x 0<AB y 0:=h;simp[Bj,h];have:=h0 q;subst q;have h:AB x 1<AB y 1:=h;simp[Bj,h,this]
 simp[JE,e];rw[if_neg h];by_cases H:AB y i<AB x i;rw[if_pos H];refine wW ?_;have e:Bj y x=true:=by rcases c with q|q;subst q;have H:AB y 0<AB x 0:=H;simp[Bj,H];have:=h0 q;subst q;have H:AB y 1<AB x 1:=H;simp[Bj,H,this]
 simp[JE,e,Uv e];rw[if_neg H];refine wW ?_;exact Cw P (by omega);have a:AB x 0=AB y 0:=P 0 (by omega);have b:AB x 1=AB y 1:=P 1 (by omega);refine wW ?_;simp[JE,Bj,a,b]
theorem wrap_u64{x:Int}(h:0<=x/\x<=1000000):IntKind.u64.wrap x=x:=by have e:x%18446744073709551616=x:=Int.emod_eq_of_lt h.1 (by omega);simp[IntKind.wrap,IntKind.bits,IntKind.signed,e]
def Ru(o:Option (List D)):Bool:=match o with
 |some [.i .i64 _]=>true
 |_=>false
theorem AUW{o:Option (List D)}(h:Ru o=true):∃v:Int,o=some [.n v]:=by
 unfold Ru at h;split at h;exact⟨_,rfl⟩
 cases h
abbrev Wz:List (Nat×IF):=[(391,I391.v)]
theorem len0:BH 13 (λn=>Ru (EC (Dx Wz) 60 8 391 [.i .u64 (n:Nat)]))=true:=by kernel_rfl
theorem AdA[HA K]{n:Nat}(h:n<=12):∃v:Int,K 391 [.i .u64 (n:Nat)] [.n v]:=by obtain⟨v,H⟩:=AUW (BQ len0 n (by omega));exact⟨v,run Wz 60 8 391 H⟩
theorem AVG[HA K]{n:Nat}(h:n<=12):∃v:Int,K 376 [.i .u64 (n:Nat)] [.n v]:=by obtain⟨v,H⟩:=AdA (K:=K) h;refine⟨v,?_⟩;refine qw I376 ?_;exact cZ H
theorem AIW{a b:List (List Int)}{x:List Int}:AF (a++x::b) a.length=x:=by simp[AF]
theorem AD0{a b:List (List Int)}{x y:List Int}:D9 (a++x::b) a.length y=a++y::b:=by simp[D9]
theorem APX[HA K]{d:List (List Int)}(hl:d.length<=12)(P:∀x∈d,C7 x):K 382 [LL d,.n 0,.n d.length,.f 364 []] [LL (D1 d)]:=by
 have e:∀i,((d.take i).foldl (λt x=>BY x t) []).length=min i d.length:=λi=>by rw[Ob];simp
 have B:∀i,∀x∈(d.take i).foldl (λt x=>BY x t) [],C7 x:=λi x F=>by
  rcases RY.1 F with q|q;exact P x (List.mem_of_mem_take q)
  cases q
 refine qw I382 ?_;refine Bd (λ(i:Nat)=>i<=d.length\/i=1) (λi=>[LL (((d.take i).foldl (λt x=>BY x t) []).reverse++d.drop i),.n 0,.n d.length,.f 364 [],.n i,.u,.u,.u]) (λi=>d.length-i) 1 (.inr rfl) ?_ ?_
 cases d with
 |nil=>rfl
 |cons x d=>simp[BY]
 intro i hi;by_cases c:i<d.length;have C:((d.take (i+1)).foldl (λt x=>BY x t) [])=BY (d[i]) ((d.take i).foldl (λt x=>BY x t) []):=by rw[CO c,List.foldl_append]<;>rfl
 have hd:=List.drop_eq_getElem_cons c;have H:=e i;have s:=B i;have F:C7 (d[i]):=P _ (List.getElem_mem c);rw[hd];generalize d[i]=x at C F hd|-;obtain⟨post,h⟩:∃post,post=d.drop (i+1):=⟨_,rfl⟩;rw[<-h]at hd|-;have W:i+1+post.length=d.length:=by have:=congrArg List.length hd;simp only[List.length_drop,AO]at this;omega
 rw[show min i d.length=i by omega]at H;generalize hT:(d.take i).foldl (λt x=>BY x t) []=T at C H s;refine wW ?_;refine Bd (λ(y:Nat×List (List Int)×List (List Int))=>y.1=y.2.1.length/\(∀z∈y.2.1,C7 z)/\y.2.1.length+1+y.2.2.length=d.length/\(BY x y.2.1).reverse++y.2.2=(BY x T).reverse++post) (λy=>[LL (y.2.1.reverse++x::y.2.2),.n 0,.n d.length,.f 364 [],.n i,.n y.1,.u,.u]) (λy=>y.1) (i,T,post) ⟨H.symm,s,by simp only;omega,rfl⟩ rfl ?_;rintro⟨j,t,o⟩ ⟨N,G,I,g⟩;simp only at N G I g|-;subst N;have l:(t.reverse++x::o).length=d.length:=by simp;omega
 cases t with
 |nil=>
  simp only[Aa,List.reverse_nil,List.nil_append]at I l g|-
  refine wW ?_
  refine⟨i+1,by omega,.inl (by omega),?_⟩
  rw[C,<-h,<-g]
  have Y:IntKind.i64.wrap ((i:Int)+1)=(i:Int)+1:=wrap_i64 (by omega)
  simp only[Y,W7,S2,Uw,VL,Tb,BY]
  simp
 |cons y t=>
  have J:((y::t).reverse++x::o)=t.reverse++y::x::o:=by simp
  have L:AF (t.reverse++y::x::o) t.length=y:=by
   have:=AIW (a:=t.reverse) (b:=x::o) (x:=y)
   rwa [List.length_reverse]at this
  have M:AF (t.reverse++y::x::o) ((t.length:Int)+1)=x:=by
   have:=AIW (a:=t.reverse++[y]) (b:=o) (x:=x)
   simp only[AZ,List.length_reverse,AO,Aa,CE,List.singleton_append]at this
   exact this
  have U:D9 (t.reverse++y::x::o) ((t.length:Int)+1) y=t.reverse++y::y::o:=by
   have:=AD0 (a:=t.reverse++[y]) (b:=o) (x:=x) (y:=y)
   simp only[AZ,List.length_reverse,AO,Aa,CE,List.singleton_append]at this
   exact this
  have V:D9 (t.reverse++y::y::o) t.length x=t.reverse++x::y::o:=by
   have:=AD0 (a:=t.reverse) (b:=y::o) (x:=y) (y:=x)
   rwa [List.length_reverse]at this
  have k:(t.reverse++y::x::o).length=d.length:=by rw[<-J];exact l
  have O:(t.reverse++y::y::o).length=d.length:=by rw[<-k];simp
  simp only[AO]at I|-
  rw[J]
  have ky:K 364 [LI x,LI y] [.n (JE x y)]:=X7 F (G y (by simp))
  simp(disch:=omega) only[AD,Bl,L,M]
  refine cB ky ?_
  simp(disch:=omega) only[AD,ADM]
  cases hc:Bj x y
  .refine wW ?_
   refine⟨i+1,by omega,.inl (by omega),?_⟩
   rw[C]
   rw[BY,hc]at g
   simp only[Gw,if_false,List.reverse_cons,CE,List.singleton_append]at g
   rw[<-h,<-g]
   simp
  .simp(disch:=omega) only[AD,Bl,L,M,U,V]
   refine⟨(t.length,t,y::o),by simp only;omega,⟨rfl,λz Z=>G z (by simp[Z]),by simp only[AO];omega,?_⟩,by simp⟩
   rw[BY,if_pos hc]at g
   simpa using g
 refine wW ?_;have Q:d.take i=d:=List.take_of_length_le (by omega);have R:d.drop i=[]:=List.drop_of_length_le (by omega);rw[Q,R,List.append_nil]<;>rfl
theorem AP9[HA K]{d:List (List Int)}{v:Int}(h:d.length<=12)(H:∀x∈d,C7 x):K 375 [LL d,.n 0,.n d.length,.n v,.f 364 []] [LL (D1 d)]:=by refine qw I375 ?_;refine Bd (λ(_:Unit)=>True) (λ_=>[LL d,.n 0,.n d.length,.n v,.f 364 [],.b true,.b true,.u,.u,.u,.u,.u,.u,.u,.u,.u,.u,.u,.u,.u,.u,.u,.u,.u]) (λ_=>0) () trivial rfl (λ_ _=>?_);refine wW ?_;exact cZ (APX h H)
theorem AAB[HA K]{d:List (List Int)}(h:d.length<=12)(H:∀x∈d,C7 x):K 363 [LL d,.f 364 []] [LL (D1 d)]:=by obtain⟨v,a⟩:=AVG (K:=K) (n:=d.length) h;refine qb I363 ?_;simp(disch:=omega) only[AD,wrap_u64];refine cW a ?_;exact cZ (AP9 h H)
end Go.Cat
namespace Go.Cat
variable{K:Nat->List D->List D->Prop}
def BT.FP:BT->Bool
 |.lf=>true
 |.nd _ _=>false
theorem BT.nz{x:BT}:Jy x.d=some x.FP:=by cases x<;>rfl
theorem BT.AWR{x:BT}:x.FP=decide (x.n=0):=by cases x<;>simp[BT.FP,BT.n]
def DA:BT->Int->Int->List (List Int)
 |.lf,_,_=>[]
 |.nd a b,l,r=>(if a.FP=true then []else [[l,l+a.n+1]])++((if b.FP=true then []else [[l+a.n+1,r]])++(DA a l (l+a.n+1)++DA b (l+a.n+1) r))
def JO:BT->Int->Int->List (List Int)
 |.lf,_,_=>[]
 |.nd a b,l,r=>[[l,l+a.n+1,r]]++(JO a l (l+a.n+1)++JO b (l+a.n+1) r)
theorem TX:∀{x:BT}{l r:Int},(DA x l r).length<=2*x.n
 |.lf,_,_=>by simp[DA]
 |.nd a b,l,r=>by
  have h:=TX (x:=a) (l:=l) (r:=l+a.n+1);have H:=TX (x:=b) (l:=l+a.n+1) (r:=r);simp only[DA,AZ,BT.n];have:(if a.FP=true then []else [[l,l+(a.n:Int)+1]]).length<=1:=by split<;>simp
  have:(if b.FP=true then []else [[l+(a.n:Int)+1,r]]).length<=1:=by split<;>simp
  omega
theorem NU:∀{x:BT}{l r:Int},(DA x l r).length<=x.n-1
 |.lf,_,_=>by simp[DA]
 |.nd a b,l,r=>by
  have h:=NU (x:=a) (l:=l) (r:=l+a.n+1);have H:=NU (x:=b) (l:=l+a.n+1) (r:=r);simp only[DA,AZ,BT.n,BT.AWR,Ad];have e:(if a.n=0 then []else [[l,l+(a.n:Int)+1]]).length=if a.n=0 then 0 else 1:=by split<;>rfl
  have c:(if b.n=0 then []else [[l+(a.n:Int)+1,r]]).length=if b.n=0 then 0 else 1:=by split<;>rfl
  rw[e,c];split<;>split<;>omega
theorem Zk:∀{x:BT}{l r:Int},(JO x l r).length=x.n
 |.lf,_,_=>rfl
 |.nd a b,l,r=>by simp only[JO,AZ,BT.n,AO,Aa,Zk];omega
theorem L9:∀{x:BT}{l r:Int},∀z∈DA x l r,C7 z
 |.lf,_,_,z,h=>by simp[DA]at h
 |.nd a b,l,r,z,h=>by
  simp only[DA,Ac]at h;rcases h with h|h|h|h;split at h
  cases h;simp at h;subst h;rfl;split at h
  cases h;simp at h;subst h;rfl;exact L9 z h;exact L9 z h
theorem b_tf:(true==false)=false:=rfl
theorem QY{a b:List (List Int)}(h:a.length+b.length<=1099511627776):Ev false (LL a) (LL b)=some (LL (a++b)):=KU ⟨h,rfl⟩
theorem UD[HA K]:∀{x:BT}{l r:Int}{c s:List (List Int)},x.n<=1000->0<=l->l+x.n<=100000->r=l+x.n+1->c.length+x.n<=1000000->s.length+2*x.n<=1000000->
  K 541 [x.d,.n l,.n r,LL c,LL s] [LL (c++JO x l r),LL (s++DA x l r)]
 |.lf,l,r,c,s,_,_,_,_,_,_=>by refine qb AFZ ?_;simp only[BT.d,JO,DA,List.append_nil];exact wZ
 |.nd a b,l,r,c,s,h,h0,e,g,f,i=>by
  simp only[BT.n]at h e g f i;have L:=Zk (x:=a) (l:=l) (r:=l+a.n+1);have B:=TX (x:=a) (l:=l) (r:=l+a.n+1);have o:=JZ (K:=K) a (by omega);refine qb AFZ ?_;simp only[BT.d];simp(disch:=try exact dV) only[AD,BT.DL,I4];refine cB o ?_;simp(disch:=try exact dV) only[AD,Uy,HI,QY];have q:(l+(a.n:Int)+1)=l+a.n+1:=rfl;have k:=λ(s':List (List Int))(H:s'.length<=s.length+2)=>UD (x:=a) (l:=l) (r:=l+a.n+1) (c:=c++[[l,l+(a.n:Int)+1,r]]) (s:=s') (by omega) h0 (by omega) rfl (by simp;omega) (by omega);have j:=λ(s':List (List Int))(H:s'.length<=s.length+2+2*a.n)=>UD (x:=b) (l:=l+a.n+1) (r:=r) (c:=(c++[[l,l+(a.n:Int)+1,r]])++JO a l (l+a.n+1)) (s:=s') (by omega) (by omega) (by omega) (by omega) (by simp;omega) (by omega)
  cases hla:a.FP<;>cases hlb:b.FP
  all_goals
   simp(disch:=try exact dV) only[AD,BT.DL,BT.nz,hla,hlb,I4,b_tf,Mk,HI,QY]
   refine cB (k _ (by first|omega|(simp only[AZ,AO,Aa];omega))) ?_
   simp(disch:=try exact dV) only[AD,BT.DL]
   refine cW (j _ (by first|omega|(simp only[AZ,AO,Aa];omega))) ?_
   refine D2 ?_ ?_
   .simp[JO]
   .simp[DA,hla,hlb]
end Go.Cat
namespace Go.Cat
variable{K:Nat->List D->List D->Prop}
theorem Fu[HA K]{x:BT}(h:x.n<=8):K 169 [.s x.t] [.n x.n]:=by refine qw Wa ?_;refine cB (Jl h) ?_;simp(disch:=omega) only[AD,BT.DL];exact cZ (JZ x (by omega))
theorem Po[HA K]{s:List Nat}(h:Bq s=false):K 169 [.s s] [.n (-1)]:=by refine qw Wa ?_;exact cZ (PL h)
theorem EL[HA K]{x:BT}(h:x.n<=8):K 162 [.s x.t] [.n x.n]:=by have l:=BT.tl x;refine qw I162 ?_;refine cB Fo ?_;simp(disch:=omega) only[AD,FO h];exact Dn (by omega)
def BG(x:BT):List (List Int):=D1 (DA x 0 ((x.n:Int)+1))
theorem ADQ{x:BT}:(BG x).length=(DA x 0 ((x.n:Int)+1)).length:=AET
theorem Ql[HA K]{x:BT}(h:x.n<=8):K 536 [.s x.t] [LL (BG x),.b true]:=by have H:=NU (x:=x) (l:=0) (r:=(x.n:Int)+1);refine qw I536 ?_;refine cB (Jl h) ?_;simp(disch:=omega) only[AD,BT.DL];refine cB (JZ x (by omega)) ?_;simp(disch:=omega) only[AD,PH];have k:=UD (K:=K) (x:=x) (l:=0) (r:=(x.n:Int)+1) (c:=[]) (s:=[]) (by omega) (by omega) (by omega) (by omega) (by simp;omega) (by simp;omega);rw[List.nil_append,List.nil_append]at k;refine cW k ?_;exact cZ (AAB (by omega) L9)
theorem Vm[HA K]{x y:List Int}(a:C7 x)(c:C7 y):K 374 [LI x,LI y] [.b (Bj x y)]:=by have l:x.length=2:=a;have L:y.length=2:=c;refine qw I374 ?_;by_cases H:AB x 0<AB y 0;refine wW ?_;simp[Bj,H];by_cases h:AB x 0=AB y 0;simp(disch:=omega) only[AD,h];simp[Bj,h];refine wW ?_;simp[Bj,H,h]
theorem AXM{b:List (List Int)}{i:Nat}(h:i<b.length):AF b i∈b:=by simp[AF,h]
theorem AQ0{l:List (List Int)}{k:Nat}(h:k<l.length):l.take (k+1)=l.take k++[AF l k]:=by rw[CO h];simp[AF,h]
theorem ARQ{l:List (List Int)}{k:Nat}(h:k<l.length):l.drop k=AF l k::l.drop (k+1):=by rw[List.drop_eq_getElem_cons h];simp[AF,h]
theorem AN9{l:List (List Int)}{k:Nat}:sub l 0 k=l.take k:=by simp[sub]
theorem AdF{l:List (List Int)}{k:Nat}:sub l k l.length=l.drop k:=by simp[sub]
theorem AHX{rs:List (List Int)}{j:Int}(h:0<=j/\j<=rs.length):Ec (LL rs) none (some (.n j))=some (LL (sub rs 0 j)):=IV LI JS (FG (by omega)) (by omega) (by omega)
theorem AF9[HA K]{l:List (List Int)}{x:List Int}(C:l.length<=100000)(g:∀z∈l,C7 z)(i:C7 x):K 362 [LL l,LI x] [LL (BY x l.reverse).reverse]:=by
 refine qw I362 ?_;refine Bd (λ(k:Nat)=>k<=l.length/\(BY x (l.take k).reverse).reverse++l.drop k=(BY x l.reverse).reverse) (λk=>[LL l,LI x,.u,.n k,.u]) (λk=>k) l.length ⟨Nat.le_refl _,by rw[List.take_length,List.drop_length,List.append_nil]⟩ rfl ?_;intro k f;obtain⟨B,h⟩:=f
 cases k with
 |zero=>
  have e:sub l 0 (0:Int)=[]:=by simp[sub]
  have a:sub l 0 (l.length:Int)=l:=by simp[sub]
  rw[List.take_zero,List.drop_zero]at h
  simp(disch:=try exact dV) only[AD,PH,HI,QY,AHX,e,a]
  rw[<-h]
  simp[BY]
 |succ k=>
  have H:k<l.length:=by omega
  have j:=g _ (AXM H)
  have o:=Vm (K:=K) i j
  have b:=AQ0 H
  rw[b,List.reverse_append,List.reverse_singleton,List.singleton_append]at h
  simp(disch:=try exact dV) only[AD,Bl]
  refine cB o ?_
  cases hc:Bj x (AF l k)
  .rw[BY,hc]at h
   have c:sub l 0 ((k:Int)+1)=l.take (k+1):=by rw[show(k:Int)+1=((k+1:Nat):Int) by omega,AN9]
   have a:sub l ((k:Int)+1) (l.length:Nat)=l.drop (k+1):=by rw[show(k:Int)+1=((k+1:Nat):Int) by omega,AdF]
   have q:(l.take (k+1)).length=k+1:=by simp;omega
   have s:(l.drop (k+1)).length<=l.length:=by simp
   simp(disch:=try exact dV) only[AD,Bl,PH,HI,QY,AHX,c,a]
   rw[<-h,b]
   simp
  .rw[BY,if_pos hc,List.reverse_cons,CE,List.singleton_append,<-ARQ H]at h
   simp(disch:=try exact dV) only[AD,Bl]
   exact⟨k,by omega,⟨by omega,h⟩,rfl⟩
def DI(N:Int):BT->Int->Int->List (List Int)
 |.lf,_,_=>[]
 |.nd a b,l,r=>(if 1<r-l/\¬(l=0/\r=N-1)then [[l,r]]else [])++(DI N a l (l+1+a.n)++DI N b (l+1+a.n) r)
theorem QV{N:Int}:∀{x:BT}{l r:Int},∀z∈DI N x l r,C7 z
 |.lf,_,_,z,h=>by simp[DI]at h
 |.nd a b,l,r,z,h=>by
  simp only[DI,Ac]at h;rcases h with h|h|h;split at h;simp at h;subst h;rfl
  cases h;exact QV z h;exact QV z h
theorem Tp{N:Int}:∀{x:BT}{l r:Int},(DI N x l r).length<=x.n
 |.lf,_,_=>by simp[DI]
 |.nd a b,l,r=>by
  have h:=Tp (N:=N) (x:=a) (l:=l) (r:=l+1+a.n);have H:=Tp (N:=N) (x:=b) (l:=l+1+a.n) (r:=r);simp only[DI,AZ,BT.n];have:(if 1<r-l/\¬(l=0/\r=N-1)then [[l,r]]else []).length<=1:=by split<;>simp
  omega
theorem Qi{N:Int}:∀{x:BT}{l r:Int},r=l+x.n+1->¬(l=0/\r=N-1)->0<=l->r<=N-1->(DI N x l r).Perm ((if x.FP=true then []else [[l,r]])++DA x l r)
 |.lf,l,r,_,_,_,_=>by simp[DI,DA,BT.FP]
 |.nd a b,l,r,e,H,h0,h=>by
  simp only[BT.n]at e;have P:=Qi (N:=N) (x:=a) (l:=l) (r:=l+a.n+1) rfl (by omega) h0 (by omega);have f:=Qi (N:=N) (x:=b) (l:=l+a.n+1) (r:=r) (by omega) (by omega) (by omega) h;have c:l+1+(a.n:Int)=l+a.n+1:=by omega
  rw[show(BT.nd a b).FP=false from rfl];simp only[DI,DA,c,Gw,if_false];rw[if_pos ⟨by omega,H⟩];refine List.Perm.append_left _ ?_;refine(P.append f).trans ?_;generalize (if a.FP=true then []else [[l,l+(a.n:Int)+1]])=A;generalize (if b.FP=true then []else [[l+(a.n:Int)+1,r]])=B;generalize DA a l (l+a.n+1)=IA;generalize DA b (l+a.n+1) r=IB;rw[CE];refine List.Perm.append_left A ?_;rw[<-CE,<-CE];exact List.Perm.append_right IB List.perm_append_comm
theorem AVS{x:BT}:(DI ((x.n:Int)+2) x 0 ((x.n:Int)+1)).Perm (DA x 0 ((x.n:Int)+1)):=by
 cases x with
 |lf=>simp[DI,DA]
 |nd a b=>
  have P:=Qi (N:=((BT.nd a b).n:Int)+2) (x:=a) (l:=0) (r:=0+(a.n:Int)+1) rfl (by simp only[BT.n];omega) (by omega) (by simp only[BT.n];omega)
  have c:=Qi (N:=((BT.nd a b).n:Int)+2) (x:=b) (l:=0+(a.n:Int)+1) (r:=((BT.nd a b).n:Int)+1) (by simp only[BT.n];omega) (by omega) (by omega) (by omega)
  have e:(0:Int)+1+(a.n:Int)=0+a.n+1:=by omega
  rw[DI,DA,if_neg (by omega),List.nil_append,e]
  refine(P.append c).trans ?_
  generalize (if a.FP=true then []else [[(0:Int),0+(a.n:Int)+1]])=A
  generalize (if b.FP=true then []else [[0+(a.n:Int)+1,((BT.nd a b).n:Int)+1]])=B
  generalize DA a 0 (0+a.n+1)=IA
  generalize DA b (0+a.n+1) (((BT.nd a b).n:Int)+1)=IB
  rw[CE]
  refine List.Perm.append_left A ?_
  rw[<-CE,<-CE]
  exact List.Perm.append_right IB List.perm_append_comm
theorem Ga{a b:BT}:(BT.nd a b).t.length=a.t.length+b.t.length+2:=by simp[BT.t];omega
theorem I0{a b:BT}:sub (BT.nd a b).t 1 (1+(a.t.length:Int))=a.t:=by
 have e:(1+(a.t.length:Int)).toNat=a.t.length+1:=by omega
 show(List.take (1+(a.t.length:Int)).toNat (BT.nd a b).t).drop (1:Int).toNat=_;rw[e];simp[BT.t]
theorem II{a b:BT}{j:Int}(h:j=(BT.nd a b).t.length-1):sub (BT.nd a b).t (1+(a.t.length:Int)) j=b.t:=by
 have e:(1+(a.t.length:Int)).toNat=(40::a.t).length:=by simp;omega
 have l:=Ga (a:=a) (b:=b);have c:j.toNat=(40::a.t++b.t).length:=by simp;omega
 have f:(BT.nd a b).t=(40::a.t++b.t)++[41]:=by simp[BT.t]
 show(List.take j.toNat (BT.nd a b).t).drop (1+(a.t.length:Int)).toNat=_;rw[e,c,f,List.take_left,List.drop_left]
theorem HQ[HA K]{a b:BT}(h:(BT.nd a b).n<=1000000):K 188 [.s (BT.nd a b).t,.n 1] [.n (1+a.t.length)]:=by have l:=BT.tl (.nd a b);exact KY (K:=K) (s:=(BT.nd a b).t) (by omega) a 1 (b.t++[41]) (by simp[BT.t])
theorem Jc{a b:BT}:((BT.nd a b).t==[46])=false:=by simp[BT.t]
theorem Va[HA K]:∀{x:BT}{l r N:Int}{d:List (List Int)},x.n<=8->0<=l->l+x.n<=1000->0<=r->r<=1000->0<=N->N<=1000->d.length+x.n<=100000->(∀z∈d,C7 z)->
  K 540 [.s x.t,.n l,.n r,LL d,.n N] [LL ((DI N x l r).foldl (λt x=>BY x t) d.reverse).reverse]
 |.lf,l,r,N,d,_,_,_,_,_,_,_,_,_=>by
  refine qb Yt ?_
  simp only[BT.t,DI,List.foldl_nil,List.reverse_reverse]
  exact wZ
 |.nd a b,l,r,N,d,h,h0,h1,h2,h3,V,W,h6,Q=>by
  have h':=h
  simp only[BT.n]at h h1 h6
  have hl:=Ga (a:=a) (b:=b)
  have ta:=BT.tl a
  have tb:=BT.tl b
  have f:=I0 (a:=a) (b:=b)
  have B:=II (a:=a) (b:=b) (j:=(BT.nd a b).t.length-1) rfl
  have O:=EL (K:=K) (x:=a) (by omega)
  have L:=HQ (K:=K) (a:=a) (b:=b) (by simp only[BT.n];omega)
  have la:=Tp (N:=N) (x:=a) (l:=l) (r:=l+1+a.n)
  have ra:=QV (N:=N) (x:=a) (l:=l) (r:=l+1+a.n)
  have o:=Jc (a:=a) (b:=b)
  obtain⟨e,c⟩:∃e,e=(if 1<r-l/\¬(l=0/\r=N-1)then(BY [l,r] d.reverse).reverse else d):=⟨_,rfl⟩
  have Y:e.length<=d.length+1:=by rw[c];split<;>simp[Vo]
  have i:∀z∈e,C7 z:=by
   intro z H
   rw[c]at H
   split at H
   rw[List.mem_reverse,OS,List.mem_reverse]at H
   rcases H with H|H
   rw[H]<;>rfl
   exact Q z H
   exact Q z H
  have I:(DI N (.nd a b) l r).foldl (λt x=>BY x t) d.reverse=(DI N b (l+1+a.n) r).foldl (λt x=>BY x t) ((DI N a l (l+1+a.n)).foldl (λt x=>BY x t) e.reverse):=by
   rw[DI,List.foldl_append,List.foldl_append,c]
   congr 2
   split
   rw[List.reverse_reverse]<;>rfl
   rfl
  rw[I]
  obtain⟨k,g⟩:∃k,k=((DI N a l (l+1+a.n)).foldl (λt x=>BY x t) e.reverse).reverse:=⟨_,rfl⟩
  have Z:k.length=e.length+(DI N a l (l+1+a.n)).length:=by rw[g,List.length_reverse,Ob,List.length_reverse]
  have G:∀z∈k,C7 z:=by
   intro z H
   rw[g,List.mem_reverse,RY,List.mem_reverse]at H
   rcases H with H|H
   exact ra z H
   exact i z H
  have J:=Va (x:=a) (l:=l) (r:=l+1+a.n) (N:=N) (d:=e) (by omega) h0 (by omega) (by omega) (by omega) V W (by omega) i
  have M:=Va (x:=b) (l:=l+1+a.n) (r:=r) (N:=N) (d:=k) (by omega) (by omega) (by omega) h2 h3 V W (by omega) G
  rw[<-g]at J
  have F:(DI N a l (l+1+a.n)).foldl (λt x=>BY x t) e.reverse=k.reverse:=by rw[g,List.reverse_reverse]
  rw[F]
  generalize hw:(BT.nd a b).t=w at hl f B L o
  refine qb Yt ?_
  by_cases C:1<r-l/\¬(l=0/\r=N-1)
  rw[if_pos C]at c
  have R:=AF9 (K:=K) (l:=d) (x:=[l,r]) (by omega) Q rfl
  rw[<-c]at R
  obtain⟨P,c2⟩:=C
  by_cases U:l=0
  have c4:¬r=N-1:=λq=>c2 ⟨U,q⟩
  simp(disch:=omega) only[AD,o,Mk]
  refine cW R ?_
  refine cB L ?_
  simp(disch:=omega) only[AD,f]
  refine cB O ?_
  simp(disch:=omega) only[AD,f]
  refine cB J ?_
  simp(disch:=omega) only[AD,B]
  exact cZ M
  simp(disch:=omega) only[AD,o,Mk]
  refine cW R ?_
  refine cB L ?_
  simp(disch:=omega) only[AD,f]
  refine cB O ?_
  simp(disch:=omega) only[AD,f]
  refine cB J ?_
  simp(disch:=omega) only[AD,B]
  exact cZ M
  rw[if_neg C]at c
  subst c
  by_cases P:1<r-l
  have U:l=0:=by
   refine Classical.byContradiction λq=>C ⟨P,λT=>q T.1⟩
  have c4:r=N-1:=by
   refine Classical.byContradiction λq=>C ⟨P,λT=>q T.2⟩
  simp(disch:=omega) only[AD,o]
  refine cB L ?_
  simp(disch:=omega) only[AD,f]
  refine cB O ?_
  simp(disch:=omega) only[AD,f]
  refine cB J ?_
  simp(disch:=omega) only[AD,B]
  exact cZ M
  simp(disch:=omega) only[AD,o]
  refine cB L ?_
  simp(disch:=omega) only[AD,f]
  refine cB O ?_
  simp(disch:=omega) only[AD,f]
  refine cB J ?_
  simp(disch:=omega) only[AD,B]
  exact cZ M
theorem QF[HA K]{x:BT}(h:x.n<=8):K 531 [.s x.t] [LL (BG x),.b true]:=by
 have k:=Va (K:=K) (x:=x) (l:=0) (r:=(x.n:Int)+1) (N:=(x.n:Int)+2) (d:=[]) h (by omega) (by omega) (by omega) (by omega) (by omega) (by omega) (by simp;omega) (by simp);have e:((DI ((x.n:Int)+2) x 0 ((x.n:Int)+1)).foldl (λt x=>BY x t) ([]:List (List Int)).reverse).reverse=BG x:=by have:=AOK (AVS (x:=x)) QV;rw[BG,<-this]<;>rfl
 rw[e]at k;refine qw I531 ?_;refine cB Fo ?_;simp(disch:=omega) only[AD,FO h];refine cB (EL h) ?_;have a:(x.n:Int)+2-1=(x.n:Int)+1:=by omega
 simp(disch:=omega) only[AD,PH,a];exact cZ k
end Go.Cat
