/-
 Sorting of rows: insertion, as the library does it for short lists.
-/
import Derived.Test.YthoilpmggmenbaaGreatPfCat
set_option linter.unusedSimpArgs false
set_option linter.unusedVariables false
namespace Go.Cat
variable{K:Nat->List D->List D->Prop}
def CC(x y:List Int):Bool:=decide (AB x 0<AB y 0)||(decide (AB x 0=AB y 0)&&decide (AB x 1<AB y 1))
def Cg(x:List Int):Prop:=x.length=2
theorem UI{x:List Int}(h:Cg x):x=[AB x 0,AB x 1]:=by
 obtain⟨a,b,rfl⟩:∃a b,x=[a,b]:=by
  match x,h with
  |[a,b],_=>exact⟨a,b,rfl⟩
 rfl
theorem ACH{x y z:List Int}(h:CC x z=false)(H:CC y z=true):CC y x=true:=by simp only[CC,Bool.or_eq_true,AV,Ac,Bool.or_eq_false_iff,Bool.and_eq_false_iff,decide_eq_false_iff_not]at*;omega
theorem Up{x y:List Int}(h:CC x y=true):CC y x=false:=by simp only[CC,Bool.or_eq_true,AV,Ac,Bool.or_eq_false_iff,Bool.and_eq_false_iff,decide_eq_false_iff_not]at*;omega
theorem AML{x y:List Int}(h:Cg x)(H:Cg y)(c:CC x y=false)(e:CC y x=false):x=y:=by
 simp only[CC,Bool.or_eq_false_iff,Bool.and_eq_false_iff,decide_eq_false_iff_not]at*;have a:AB x 0=AB y 0:=by omega
 have b:AB x 1=AB y 1:=by omega
 rw[UI h,UI H,a,b]
def Bh(x:List Int):List (List Int)->List (List Int)
 |[]=>[x]
 |y::t=>if CC x y=true then y::Bh x t else x::y::t
theorem V3{x:List Int}:∀t,(Bh x t).length=t.length+1
 |[]=>rfl
 |y::t=>by unfold Bh;split;simp[V3 t];rfl
theorem Tj{x z:List Int}:∀{t},z∈Bh x t↔z=x\/z∈t
 |[]=>by simp[Bh]
 |y::t=>by unfold Bh;split;simp only[A6,Tj (t:=t)];constructor<;>rintro(h|h|h)<;>simp[h];simp
theorem AGF{x y:List Int}(h:Cg x)(H:Cg y):∀t,Bh x (Bh y t)=Bh y (Bh x t)
 |[]=>by
  simp only[Bh]
  cases h1:CC x y
  cases h2:CC y x;rw[AML h H h1 h2];simp;simp[Up h1]
 |z::t=>by
  have i:=AGF h H t;simp only[Bh]
  cases h1:CC y z<;>cases h2:CC x z;simp only[Ig,if_false,Bh,h1,h2]
  cases h3:CC x y
  cases h4:CC y x;rw[AML h H h3 h4];simp;simp[Up h3];have:=ACH h1 h2;simp[Bh,h1,h2,this];have:=ACH h2 h1;simp[Bh,h1,h2,this];simp[Bh,h1,h2,i]
def J1(d:List (List Int)):List (List Int):=d.foldl (λt x=>Bh x t) []
def Dv(d:List (List Int)):List (List Int):=(J1 d).reverse
theorem AlS{d e:List (List Int)}(h:d.Perm e)(H:∀x∈d,Cg x):J1 d=J1 e:=
 List.Perm.foldl_eq' h (λx a y b z=>(AGF (H x a) (H y b) z).symm) []
theorem AkU{d e:List (List Int)}(h:d.Perm e)(H:∀x∈d,Cg x):Dv d=Dv e:=by rw[Dv,Dv,AlS h H]
theorem UB:∀(d t:List (List Int)),(d.foldl (λt x=>Bh x t) t).length=t.length+d.length
 |[],t=>rfl
 |x::d,t=>by rw[List.foldl_cons,UB d,V3,AP];omega
theorem AaS{d:List (List Int)}:(J1 d).length=d.length:=by rw[J1,UB];simp
theorem AIV{d:List (List Int)}:(Dv d).length=d.length:=by rw[Dv,List.length_reverse,AaS]
theorem SF{z:List Int}:∀{d t:List (List Int)},z∈d.foldl (λt x=>Bh x t) t↔z∈d\/z∈t
 |[],t=>by simp
 |x::d,t=>by rw[List.foldl_cons,SF (d:=d),Tj,A6];constructor;rintro(h|h|h);exact .inl (.inr h);exact .inl (.inl h);exact .inr h;rintro((h|h)|h);exact .inr (.inl h);exact .inl h;exact .inr (.inr h)
theorem UO{z:List Int}{d:List (List Int)}:z∈Dv d↔z∈d:=by rw[Dv,List.mem_reverse,J1,SF];simp
theorem AE3[HA K]{x:Int}:K 211 [.n x] [.b false]:=by exact qz I211
theorem AkJ[HA K]{x y:Int}:K 377 [.n x,.n y] [.n (if x<y then -1 else if y<x then 1 else 0)]:=by refine qw I377 ?_;refine cW AE3 ?_;refine cB AE3 ?_;by_cases h:x<y;refine wW ?_;rw[if_pos h];by_cases H:y<x;refine wW ?_;rw[if_neg h,if_pos H];refine wW ?_;rw[if_neg h,if_neg H]
def Jy(x y:List Int):Int:=if CC x y=true then -1 else if CC y x=true then 1 else 0
theorem AD1{x y:List Int}:decide (Jy x y<0)=CC x y:=by
 unfold Jy
 cases CC x y
 cases CC y x<;>rfl;rfl
theorem ASY[HA K]{x y:List Int}(f:Cg x)(g:Cg y):K 364 [LI x,LI y] [.n (Jy x y)]:=by
 have l:x.length=2:=f;have L:y.length=2:=g;refine qw I364 ?_;refine AN (λi=>∀j:Nat,j<i->AB x j=AB y j) (λi=>[LI x,LI y,.u,.u,.u,.u,.u,LI x,.n x.length,.n i,.u,.u,.u,.u]) 2 (by simp) rfl (λi hi P=>?_) (λP=>?_);refine wW ?_;refine cB AkJ ?_;have c:i=0\/i=1:=by omega
 have h0:i=1->AB x 0=AB y 0:=λq=>P 0 (by omega);by_cases h:AB x i<AB y i;rw[if_pos h];refine wW ?_;have e:CC x y=true:=by rcases c with q|q;subst q;have h:AB x 0<AB y 0:=h;simp[CC,h];have:=h0 q;subst q;have h:AB x 1<AB y 1:=h;simp[CC,h,this]
 simp[Jy,e];rw[if_neg h];by_cases H:AB y i<AB x i;rw[if_pos H];refine wW ?_;have e:CC y x=true:=by rcases c with q|q;subst q;have H:AB y 0<AB x 0:=H;simp[CC,H];have:=h0 q;subst q;have H:AB y 1<AB x 1:=H;simp[CC,H,this]
 simp[Jy,e,Up e];rw[if_neg H];refine wW ?_;exact Bg P (by omega);have a:AB x 0=AB y 0:=P 0 (by omega);have b:AB x 1=AB y 1:=P 1 (by omega);refine wW ?_;simp[Jy,CC,a,b]
theorem wrap_u64{x:Int}(h:0<=x/\x<=1000000):IntKind.u64.wrap x=x:=by have e:x%18446744073709551616=x:=Int.emod_eq_of_lt h.1 (by omega);simp[IntKind.wrap,IntKind.bits,IntKind.signed,e]
def Vr(o:Option (List D)):Bool:=match o with
 |some [.i .i64 _]=>true
 |_=>false
theorem AU6{o:Option (List D)}(h:Vr o=true):∃v:Int,o=some [.n v]:=by
 unfold Vr at h;split at h;exact⟨_,rfl⟩
 cases h
abbrev AOJ:List (Nat×IF):=[(391,I391.v)]
theorem len0:BR 13 (λn=>Vr (Ec (E8 AOJ) 60 8 391 [.i .u64 (n:Nat)]))=true:=by kernel_rfl
theorem AWD[HA K]{n:Nat}(h:n<=12):∃v:Int,K 391 [.i .u64 (n:Nat)] [.n v]:=by obtain⟨v,H⟩:=AU6 (BY len0 n (by omega));exact⟨v,run AOJ 60 8 391 H⟩
theorem AY5[HA K]{n:Nat}(h:n<=12):∃v:Int,K 376 [.i .u64 (n:Nat)] [.n v]:=by obtain⟨v,H⟩:=AWD (K:=K) h;refine⟨v,?_⟩;refine qw I376 ?_;exact cZ H
theorem AHJ{a b:List (List Int)}{x:List Int}:AG (a++x::b) a.length=x:=by simp[AG]
theorem ABP{a b:List (List Int)}{x y:List Int}:Dz (a++x::b) a.length y=a++y::b:=by simp[Dz]
theorem AdF[HA K]{d:List (List Int)}(hl:d.length<=12)(P:∀x∈d,Cg x):K 382 [LL d,.n 0,.n d.length,.f 364 []] [LL (Dv d)]:=by
 have e:∀i,((d.take i).foldl (λt x=>Bh x t) []).length=min i d.length:=λi=>by rw[UB];simp
 have B:∀i,∀x∈(d.take i).foldl (λt x=>Bh x t) [],Cg x:=λi x F=>by
  rcases SF.1 F with q|q;exact P x (List.mem_of_mem_take q)
  cases q
 refine qw I382 ?_;refine Bd (λ(i:Nat)=>i<=d.length\/i=1) (λi=>[LL (((d.take i).foldl (λt x=>Bh x t) []).reverse++d.drop i),.n 0,.n d.length,.f 364 [],.n i,.u,.u,.u]) (λi=>d.length-i) 1 (.inr rfl) ?_ ?_
 cases d with
 |nil=>rfl
 |cons x d=>simp[Bh]
 intro i hi;by_cases c:i<d.length;have C:((d.take (i+1)).foldl (λt x=>Bh x t) [])=Bh (d[i]) ((d.take i).foldl (λt x=>Bh x t) []):=by rw[CQ c,List.foldl_append]<;>rfl
 have hd:=List.drop_eq_getElem_cons c;have H:=e i;have s:=B i;have F:Cg (d[i]):=P _ (List.getElem_mem c);rw[hd];generalize d[i]=x at C F hd|-;obtain⟨post,h⟩:∃post,post=d.drop (i+1):=⟨_,rfl⟩;rw[<-h]at hd|-;have W:i+1+post.length=d.length:=by have:=congrArg List.length hd;simp only[List.length_drop,AP]at this;omega
 rw[show min i d.length=i by omega]at H;generalize hT:(d.take i).foldl (λt x=>Bh x t) []=T at C H s;refine wW ?_;refine Bd (λ(y:Nat×List (List Int)×List (List Int))=>y.1=y.2.1.length/\(∀z∈y.2.1,Cg z)/\y.2.1.length+1+y.2.2.length=d.length/\(Bh x y.2.1).reverse++y.2.2=(Bh x T).reverse++post) (λy=>[LL (y.2.1.reverse++x::y.2.2),.n 0,.n d.length,.f 364 [],.n i,.n y.1,.u,.u]) (λy=>y.1) (i,T,post) ⟨H.symm,s,by simp only;omega,rfl⟩ rfl ?_;rintro⟨j,t,o⟩ ⟨N,G,I,g⟩;simp only at N G I g|-;subst N;have l:(t.reverse++x::o).length=d.length:=by simp;omega
 cases t with
 |nil=>
  simp only[A5,List.reverse_nil,List.nil_append]at I l g|-
  refine wW ?_
  refine⟨i+1,by omega,.inl (by omega),?_⟩
  rw[C,<-h,<-g]
  have Y:IntKind.i64.wrap ((i:Int)+1)=(i:Int)+1:=wrap_i64 (by omega)
  simp only[Y,Ww,Vk,VI,Vd,Wy,Bh]
  simp
 |cons y t=>
  have J:((y::t).reverse++x::o)=t.reverse++y::x::o:=by simp
  have L:AG (t.reverse++y::x::o) t.length=y:=by
   have:=AHJ (a:=t.reverse) (b:=x::o) (x:=y)
   rwa [List.length_reverse]at this
  have M:AG (t.reverse++y::x::o) ((t.length:Int)+1)=x:=by
   have:=AHJ (a:=t.reverse++[y]) (b:=o) (x:=x)
   simp only[AW,List.length_reverse,AP,A5,CT,List.singleton_append]at this
   exact this
  have U:Dz (t.reverse++y::x::o) ((t.length:Int)+1) y=t.reverse++y::y::o:=by
   have:=ABP (a:=t.reverse++[y]) (b:=o) (x:=x) (y:=y)
   simp only[AW,List.length_reverse,AP,A5,CT,List.singleton_append]at this
   exact this
  have V:Dz (t.reverse++y::y::o) t.length x=t.reverse++x::y::o:=by
   have:=ABP (a:=t.reverse) (b:=y::o) (x:=y) (y:=x)
   rwa [List.length_reverse]at this
  have k:(t.reverse++y::x::o).length=d.length:=by rw[<-J];exact l
  have O:(t.reverse++y::y::o).length=d.length:=by rw[<-k];simp
  simp only[AP]at I|-
  rw[J]
  have ky:K 364 [LI x,LI y] [.n (Jy x y)]:=ASY F (G y (by simp))
  simp(disch:=omega) only[AD,Bq,L,M]
  refine cB ky ?_
  simp(disch:=omega) only[AD,AD1]
  cases hc:CC x y
  .refine wW ?_
   refine⟨i+1,by omega,.inl (by omega),?_⟩
   rw[C]
   rw[Bh,hc]at g
   simp only[Ig,if_false,List.reverse_cons,CT,List.singleton_append]at g
   rw[<-h,<-g]
   simp
  .simp(disch:=omega) only[AD,Bq,L,M,U,V]
   refine⟨(t.length,t,y::o),by simp only;omega,⟨rfl,λz Z=>G z (by simp[Z]),by simp only[AP];omega,?_⟩,by simp⟩
   rw[Bh,if_pos hc]at g
   simpa using g
 refine wW ?_;have Q:d.take i=d:=List.take_of_length_le (by omega);have R:d.drop i=[]:=List.drop_of_length_le (by omega);rw[Q,R,List.append_nil]<;>rfl
theorem AjL[HA K]{d:List (List Int)}{v:Int}(h:d.length<=12)(H:∀x∈d,Cg x):K 375 [LL d,.n 0,.n d.length,.n v,.f 364 []] [LL (Dv d)]:=by refine qw I375 ?_;refine Bd (λ(_:Unit)=>True) (λ_=>[LL d,.n 0,.n d.length,.n v,.f 364 [],.b true,.b true,.u,.u,.u,.u,.u,.u,.u,.u,.u,.u,.u,.u,.u,.u,.u,.u,.u]) (λ_=>0) () trivial rfl (λ_ _=>?_);refine wW ?_;exact cZ (AdF h H)
theorem AAW[HA K]{d:List (List Int)}(h:d.length<=12)(H:∀x∈d,Cg x):K 363 [LL d,.f 364 []] [LL (Dv d)]:=by obtain⟨v,a⟩:=AY5 (K:=K) (n:=d.length) h;refine qb I363 ?_;simp(disch:=omega) only[AD,wrap_u64];refine cW a ?_;exact cZ (AjL h H)
end Go.Cat
namespace Go.Cat
variable{K:Nat->List D->List D->Prop}
def BT.Ff:BT->Bool
 |.lf=>true
 |.nd _ _=>false
theorem BT.nz{x:BT}:Lp x.d=some x.Ff:=by cases x<;>rfl
theorem BT.AkM{x:BT}:x.Ff=decide (x.n=0):=by cases x<;>simp[BT.Ff,BT.n]
def DR:BT->Int->Int->List (List Int)
 |.lf,_,_=>[]
 |.nd a b,l,r=>(if a.Ff=true then []else [[l,l+a.n+1]])++((if b.Ff=true then []else [[l+a.n+1,r]])++(DR a l (l+a.n+1)++DR b (l+a.n+1) r))
def Ju:BT->Int->Int->List (List Int)
 |.lf,_,_=>[]
 |.nd a b,l,r=>[[l,l+a.n+1,r]]++(Ju a l (l+a.n+1)++Ju b (l+a.n+1) r)
theorem Yg:∀{x:BT}{l r:Int},(DR x l r).length<=2*x.n
 |.lf,_,_=>by simp[DR]
 |.nd a b,l,r=>by
  have h:=Yg (x:=a) (l:=l) (r:=l+a.n+1);have H:=Yg (x:=b) (l:=l+a.n+1) (r:=r);simp only[DR,AW,BT.n];have:(if a.Ff=true then []else [[l,l+(a.n:Int)+1]]).length<=1:=by split<;>simp
  have:(if b.Ff=true then []else [[l+(a.n:Int)+1,r]]).length<=1:=by split<;>simp
  omega
theorem O1:∀{x:BT}{l r:Int},(DR x l r).length<=x.n-1
 |.lf,_,_=>by simp[DR]
 |.nd a b,l,r=>by
  have h:=O1 (x:=a) (l:=l) (r:=l+a.n+1);have H:=O1 (x:=b) (l:=l+a.n+1) (r:=r);simp only[DR,AW,BT.n,BT.AkM,Ac];have e:(if a.n=0 then []else [[l,l+(a.n:Int)+1]]).length=if a.n=0 then 0 else 1:=by split<;>rfl
  have c:(if b.n=0 then []else [[l+(a.n:Int)+1,r]]).length=if b.n=0 then 0 else 1:=by split<;>rfl
  rw[e,c];split<;>split<;>omega
theorem ASA:∀{x:BT}{l r:Int},(Ju x l r).length=x.n
 |.lf,_,_=>rfl
 |.nd a b,l,r=>by simp only[Ju,AW,BT.n,AP,A5,ASA];omega
theorem N6:∀{x:BT}{l r:Int},∀z∈DR x l r,Cg z
 |.lf,_,_,z,h=>by simp[DR]at h
 |.nd a b,l,r,z,h=>by
  simp only[DR,A9]at h;rcases h with h|h|h|h;split at h
  cases h;simp at h;subst h;rfl;split at h
  cases h;simp at h;subst h;rfl;exact N6 z h;exact N6 z h
theorem b_tf:(true==false)=false:=rfl
theorem T7{a b:List (List Int)}(h:a.length+b.length<=1099511627776):EG false (LL a) (LL b)=some (LL (a++b)):=KG ⟨h,rfl⟩
theorem Wc[HA K]:∀{x:BT}{l r:Int}{c s:List (List Int)},x.n<=1000->0<=l->l+x.n<=100000->r=l+x.n+1->c.length+x.n<=1000000->s.length+2*x.n<=1000000->
  K 541 [x.d,.n l,.n r,LL c,LL s] [LL (c++Ju x l r),LL (s++DR x l r)]
 |.lf,l,r,c,s,_,_,_,_,_,_=>by refine qb AA1 ?_;simp only[BT.d,Ju,DR,List.append_nil];exact wZ
 |.nd a b,l,r,c,s,h,h0,e,g,f,i=>by
  simp only[BT.n]at h e g f i;have L:=ASA (x:=a) (l:=l) (r:=l+a.n+1);have B:=Yg (x:=a) (l:=l) (r:=l+a.n+1);have o:=KH (K:=K) a (by omega);refine qb AA1 ?_;simp only[BT.d];simp(disch:=try exact dV) only[AD,BT.Dg,Ks];refine cB o ?_;simp(disch:=try exact dV) only[AD,Wp,Fv,T7];have q:(l+(a.n:Int)+1)=l+a.n+1:=rfl;have k:=λ(s':List (List Int))(H:s'.length<=s.length+2)=>Wc (x:=a) (l:=l) (r:=l+a.n+1) (c:=c++[[l,l+(a.n:Int)+1,r]]) (s:=s') (by omega) h0 (by omega) rfl (by simp;omega) (by omega);have j:=λ(s':List (List Int))(H:s'.length<=s.length+2+2*a.n)=>Wc (x:=b) (l:=l+a.n+1) (r:=r) (c:=(c++[[l,l+(a.n:Int)+1,r]])++Ju a l (l+a.n+1)) (s:=s') (by omega) (by omega) (by omega) (by omega) (by simp;omega) (by omega)
  cases hla:a.Ff<;>cases hlb:b.Ff
  all_goals
   simp(disch:=try exact dV) only[AD,BT.Dg,BT.nz,hla,hlb,Ks,b_tf,QN,Fv,T7]
   refine cB (k _ (by first|omega|(simp only[AW,AP,A5];omega))) ?_
   simp(disch:=try exact dV) only[AD,BT.Dg]
   refine cW (j _ (by first|omega|(simp only[AW,AP,A5];omega))) ?_
   refine D2 ?_ ?_
   .simp[Ju]
   .simp[DR,hla,hlb]
end Go.Cat
namespace Go.Cat
variable{K:Nat->List D->List D->Prop}
theorem HE[HA K]{x:BT}(h:x.n<=8):K 169 [.s x.t] [.n x.n]:=by refine qw ANU ?_;refine cB (Kz h) ?_;simp(disch:=omega) only[AD,BT.Dg];exact cZ (KH x (by omega))
theorem RF[HA K]{s:List Nat}(h:Az s=false):K 169 [.s s] [.n (-1)]:=by refine qw ANU ?_;exact cZ (TH h)
theorem Ee[HA K]{x:BT}(h:x.n<=8):K 162 [.s x.t] [.n x.n]:=by have l:=BT.tl x;refine qw I162 ?_;refine cB Ev ?_;simp(disch:=omega) only[AD,GN h];exact Dn (by omega)
def BO(x:BT):List (List Int):=Dv (DR x 0 ((x.n:Int)+1))
theorem AR4{x:BT}:(BO x).length=(DR x 0 ((x.n:Int)+1)).length:=AIV
theorem Ro[HA K]{x:BT}(h:x.n<=8):K 536 [.s x.t] [LL (BO x),.b true]:=by have H:=O1 (x:=x) (l:=0) (r:=(x.n:Int)+1);refine qw I536 ?_;refine cB (Kz h) ?_;simp(disch:=omega) only[AD,BT.Dg];refine cB (KH x (by omega)) ?_;simp(disch:=omega) only[AD,RD];have k:=Wc (K:=K) (x:=x) (l:=0) (r:=(x.n:Int)+1) (c:=[]) (s:=[]) (by omega) (by omega) (by omega) (by omega) (by simp;omega) (by simp;omega);rw[List.nil_append,List.nil_append]at k;refine cW k ?_;exact cZ (AAW (by omega) N6)
theorem W9[HA K]{x y:List Int}(a:Cg x)(c:Cg y):K 374 [LI x,LI y] [.b (CC x y)]:=by have l:x.length=2:=a;have L:y.length=2:=c;refine qw I374 ?_;by_cases H:AB x 0<AB y 0;refine wW ?_;simp[CC,H];by_cases h:AB x 0=AB y 0;simp(disch:=omega) only[AD,h];simp[CC,h];refine wW ?_;simp[CC,H,h]
theorem Aj9{b:List (List Int)}{i:Nat}(h:i<b.length):AG b i∈b:=by simp[AG,h]
theorem AgW{l:List (List Int)}{k:Nat}(h:k<l.length):l.take (k+1)=l.take k++[AG l k]:=by rw[CQ h];simp[AG,h]
theorem AWS{l:List (List Int)}{k:Nat}(h:k<l.length):l.drop k=AG l k::l.drop (k+1):=by rw[List.drop_eq_getElem_cons h];simp[AG,h]
theorem AVI{l:List (List Int)}{k:Nat}:sub l 0 k=l.take k:=by simp[sub]
theorem AYQ{l:List (List Int)}{k:Nat}:sub l k l.length=l.drop k:=by simp[sub]
theorem ARW{rs:List (List Int)}{j:Int}(h:0<=j/\j<=rs.length):FC (LL rs) none (some (.n j))=some (LL (sub rs 0 j)):=Jq LI Jv (Fp (by omega)) (by omega) (by omega)
theorem AMJ[HA K]{l:List (List Int)}{x:List Int}(C:l.length<=100000)(g:∀z∈l,Cg z)(i:Cg x):K 362 [LL l,LI x] [LL (Bh x l.reverse).reverse]:=by
 refine qw I362 ?_;refine Bd (λ(k:Nat)=>k<=l.length/\(Bh x (l.take k).reverse).reverse++l.drop k=(Bh x l.reverse).reverse) (λk=>[LL l,LI x,.u,.n k,.u]) (λk=>k) l.length ⟨Nat.le_refl _,by rw[List.take_length,List.drop_length,List.append_nil]⟩ rfl ?_;intro k f;obtain⟨B,h⟩:=f
 cases k with
 |zero=>
  have e:sub l 0 (0:Int)=[]:=by simp[sub]
  have a:sub l 0 (l.length:Int)=l:=by simp[sub]
  rw[List.take_zero,List.drop_zero]at h
  simp(disch:=try exact dV) only[AD,RD,Fv,T7,ARW,e,a]
  rw[<-h]
  simp[Bh]
 |succ k=>
  have H:k<l.length:=by omega
  have j:=g _ (Aj9 H)
  have o:=W9 (K:=K) i j
  have b:=AgW H
  rw[b,List.reverse_append,List.reverse_singleton,List.singleton_append]at h
  simp(disch:=try exact dV) only[AD,Bq]
  refine cB o ?_
  cases hc:CC x (AG l k)
  .rw[Bh,hc]at h
   have c:sub l 0 ((k:Int)+1)=l.take (k+1):=by rw[show(k:Int)+1=((k+1:Nat):Int) by omega,AVI]
   have a:sub l ((k:Int)+1) (l.length:Nat)=l.drop (k+1):=by rw[show(k:Int)+1=((k+1:Nat):Int) by omega,AYQ]
   have q:(l.take (k+1)).length=k+1:=by simp;omega
   have s:(l.drop (k+1)).length<=l.length:=by simp
   simp(disch:=try exact dV) only[AD,Bq,RD,Fv,T7,ARW,c,a]
   rw[<-h,b]
   simp
  .rw[Bh,if_pos hc,List.reverse_cons,CT,List.singleton_append,<-AWS H]at h
   simp(disch:=try exact dV) only[AD,Bq]
   exact⟨k,by omega,⟨by omega,h⟩,rfl⟩
def D6(N:Int):BT->Int->Int->List (List Int)
 |.lf,_,_=>[]
 |.nd a b,l,r=>(if 1<r-l/\¬(l=0/\r=N-1)then [[l,r]]else [])++(D6 N a l (l+1+a.n)++D6 N b (l+1+a.n) r)
theorem SD{N:Int}:∀{x:BT}{l r:Int},∀z∈D6 N x l r,Cg z
 |.lf,_,_,z,h=>by simp[D6]at h
 |.nd a b,l,r,z,h=>by
  simp only[D6,A9]at h;rcases h with h|h|h;split at h;simp at h;subst h;rfl
  cases h;exact SD z h;exact SD z h
theorem X4{N:Int}:∀{x:BT}{l r:Int},(D6 N x l r).length<=x.n
 |.lf,_,_=>by simp[D6]
 |.nd a b,l,r=>by
  have h:=X4 (N:=N) (x:=a) (l:=l) (r:=l+1+a.n);have H:=X4 (N:=N) (x:=b) (l:=l+1+a.n) (r:=r);simp only[D6,AW,BT.n];have:(if 1<r-l/\¬(l=0/\r=N-1)then [[l,r]]else []).length<=1:=by split<;>simp
  omega
theorem TV{N:Int}:∀{x:BT}{l r:Int},r=l+x.n+1->¬(l=0/\r=N-1)->0<=l->r<=N-1->(D6 N x l r).Perm ((if x.Ff=true then []else [[l,r]])++DR x l r)
 |.lf,l,r,_,_,_,_=>by simp[D6,DR,BT.Ff]
 |.nd a b,l,r,e,H,h0,h=>by
  simp only[BT.n]at e;have P:=TV (N:=N) (x:=a) (l:=l) (r:=l+a.n+1) rfl (by omega) h0 (by omega);have f:=TV (N:=N) (x:=b) (l:=l+a.n+1) (r:=r) (by omega) (by omega) (by omega) h;have c:l+1+(a.n:Int)=l+a.n+1:=by omega
  rw[show(BT.nd a b).Ff=false from rfl];simp only[D6,DR,c,Ig,if_false];rw[if_pos ⟨by omega,H⟩];refine List.Perm.append_left _ ?_;refine(P.append f).trans ?_;generalize (if a.Ff=true then []else [[l,l+(a.n:Int)+1]])=A;generalize (if b.Ff=true then []else [[l+(a.n:Int)+1,r]])=B;generalize DR a l (l+a.n+1)=IA;generalize DR b (l+a.n+1) r=IB;rw[CT];refine List.Perm.append_left A ?_;rw[<-CT,<-CT];exact List.Perm.append_right IB List.perm_append_comm
theorem AfB{x:BT}:(D6 ((x.n:Int)+2) x 0 ((x.n:Int)+1)).Perm (DR x 0 ((x.n:Int)+1)):=by
 cases x with
 |lf=>simp[D6,DR]
 |nd a b=>
  have P:=TV (N:=((BT.nd a b).n:Int)+2) (x:=a) (l:=0) (r:=0+(a.n:Int)+1) rfl (by simp only[BT.n];omega) (by omega) (by simp only[BT.n];omega)
  have c:=TV (N:=((BT.nd a b).n:Int)+2) (x:=b) (l:=0+(a.n:Int)+1) (r:=((BT.nd a b).n:Int)+1) (by simp only[BT.n];omega) (by omega) (by omega) (by omega)
  have e:(0:Int)+1+(a.n:Int)=0+a.n+1:=by omega
  rw[D6,DR,if_neg (by omega),List.nil_append,e]
  refine(P.append c).trans ?_
  generalize (if a.Ff=true then []else [[(0:Int),0+(a.n:Int)+1]])=A
  generalize (if b.Ff=true then []else [[0+(a.n:Int)+1,((BT.nd a b).n:Int)+1]])=B
  generalize DR a 0 (0+a.n+1)=IA
  generalize DR b (0+a.n+1) (((BT.nd a b).n:Int)+1)=IB
  rw[CT]
  refine List.Perm.append_left A ?_
  rw[<-CT,<-CT]
  exact List.Perm.append_right IB List.perm_append_comm
theorem Hx{a b:BT}:(BT.nd a b).t.length=a.t.length+b.t.length+2:=by simp[BT.t];omega
theorem J3{a b:BT}:sub (BT.nd a b).t 1 (1+(a.t.length:Int))=a.t:=by
 have e:(1+(a.t.length:Int)).toNat=a.t.length+1:=by omega
 show(List.take (1+(a.t.length:Int)).toNat (BT.nd a b).t).drop (1:Int).toNat=_;rw[e];simp[BT.t]
theorem J9{a b:BT}{j:Int}(h:j=(BT.nd a b).t.length-1):sub (BT.nd a b).t (1+(a.t.length:Int)) j=b.t:=by
 have e:(1+(a.t.length:Int)).toNat=(40::a.t).length:=by simp;omega
 have l:=Hx (a:=a) (b:=b);have c:j.toNat=(40::a.t++b.t).length:=by simp;omega
 have f:(BT.nd a b).t=(40::a.t++b.t)++[41]:=by simp[BT.t]
 show(List.take j.toNat (BT.nd a b).t).drop (1+(a.t.length:Int)).toNat=_;rw[e,c,f,List.take_left,List.drop_left]
theorem JD[HA K]{a b:BT}(h:(BT.nd a b).n<=1000000):K 188 [.s (BT.nd a b).t,.n 1] [.n (1+a.t.length)]:=by have l:=BT.tl (.nd a b);exact La (K:=K) (s:=(BT.nd a b).t) (by omega) a 1 (b.t++[41]) (by simp[BT.t])
theorem Lc{a b:BT}:((BT.nd a b).t==[46])=false:=by simp[BT.t]
theorem Ys[HA K]:∀{x:BT}{l r N:Int}{d:List (List Int)},x.n<=8->0<=l->l+x.n<=1000->0<=r->r<=1000->0<=N->N<=1000->d.length+x.n<=100000->(∀z∈d,Cg z)->
  K 540 [.s x.t,.n l,.n r,LL d,.n N] [LL ((D6 N x l r).foldl (λt x=>Bh x t) d.reverse).reverse]
 |.lf,l,r,N,d,_,_,_,_,_,_,_,_,_=>by
  refine qb Zw ?_
  simp only[BT.t,D6,List.foldl_nil,List.reverse_reverse]
  exact wZ
 |.nd a b,l,r,N,d,h,h0,h1,h2,h3,V,W,h6,Q=>by
  have h':=h
  simp only[BT.n]at h h1 h6
  have hl:=Hx (a:=a) (b:=b)
  have ta:=BT.tl a
  have tb:=BT.tl b
  have f:=J3 (a:=a) (b:=b)
  have B:=J9 (a:=a) (b:=b) (j:=(BT.nd a b).t.length-1) rfl
  have O:=Ee (K:=K) (x:=a) (by omega)
  have L:=JD (K:=K) (a:=a) (b:=b) (by simp only[BT.n];omega)
  have la:=X4 (N:=N) (x:=a) (l:=l) (r:=l+1+a.n)
  have ra:=SD (N:=N) (x:=a) (l:=l) (r:=l+1+a.n)
  have o:=Lc (a:=a) (b:=b)
  obtain⟨e,c⟩:∃e,e=(if 1<r-l/\¬(l=0/\r=N-1)then(Bh [l,r] d.reverse).reverse else d):=⟨_,rfl⟩
  have Y:e.length<=d.length+1:=by rw[c];split<;>simp[V3]
  have i:∀z∈e,Cg z:=by
   intro z H
   rw[c]at H
   split at H
   rw[List.mem_reverse,Tj,List.mem_reverse]at H
   rcases H with H|H
   rw[H]<;>rfl
   exact Q z H
   exact Q z H
  have I:(D6 N (.nd a b) l r).foldl (λt x=>Bh x t) d.reverse=(D6 N b (l+1+a.n) r).foldl (λt x=>Bh x t) ((D6 N a l (l+1+a.n)).foldl (λt x=>Bh x t) e.reverse):=by
   rw[D6,List.foldl_append,List.foldl_append,c]
   congr 2
   split
   rw[List.reverse_reverse]<;>rfl
   rfl
  rw[I]
  obtain⟨k,g⟩:∃k,k=((D6 N a l (l+1+a.n)).foldl (λt x=>Bh x t) e.reverse).reverse:=⟨_,rfl⟩
  have Z:k.length=e.length+(D6 N a l (l+1+a.n)).length:=by rw[g,List.length_reverse,UB,List.length_reverse]
  have G:∀z∈k,Cg z:=by
   intro z H
   rw[g,List.mem_reverse,SF,List.mem_reverse]at H
   rcases H with H|H
   exact ra z H
   exact i z H
  have J:=Ys (x:=a) (l:=l) (r:=l+1+a.n) (N:=N) (d:=e) (by omega) h0 (by omega) (by omega) (by omega) V W (by omega) i
  have M:=Ys (x:=b) (l:=l+1+a.n) (r:=r) (N:=N) (d:=k) (by omega) (by omega) (by omega) h2 h3 V W (by omega) G
  rw[<-g]at J
  have F:(D6 N a l (l+1+a.n)).foldl (λt x=>Bh x t) e.reverse=k.reverse:=by rw[g,List.reverse_reverse]
  rw[F]
  generalize hw:(BT.nd a b).t=w at hl f B L o
  refine qb Zw ?_
  by_cases C:1<r-l/\¬(l=0/\r=N-1)
  rw[if_pos C]at c
  have R:=AMJ (K:=K) (l:=d) (x:=[l,r]) (by omega) Q rfl
  rw[<-c]at R
  obtain⟨P,c2⟩:=C
  by_cases U:l=0
  have c4:¬r=N-1:=λq=>c2 ⟨U,q⟩
  simp(disch:=omega) only[AD,o,QN]
  refine cW R ?_
  refine cB L ?_
  simp(disch:=omega) only[AD,f]
  refine cB O ?_
  simp(disch:=omega) only[AD,f]
  refine cB J ?_
  simp(disch:=omega) only[AD,B]
  exact cZ M
  simp(disch:=omega) only[AD,o,QN]
  refine cW R ?_
  refine cB L ?_
  simp(disch:=omega) only[AD,f]
  refine cB O ?_
  simp(disch:=omega) only[AD,f]
  refine cB J ?_
  simp(disch:=omega) only[AD,B]
  exact cZ M
  rw[if_neg C]at c
  subst c
  by_cases P:1<r-l
  have U:l=0:=by
   refine Classical.byContradiction λq=>C ⟨P,λT=>q T.1⟩
  have c4:r=N-1:=by
   refine Classical.byContradiction λq=>C ⟨P,λT=>q T.2⟩
  simp(disch:=omega) only[AD,o]
  refine cB L ?_
  simp(disch:=omega) only[AD,f]
  refine cB O ?_
  simp(disch:=omega) only[AD,f]
  refine cB J ?_
  simp(disch:=omega) only[AD,B]
  exact cZ M
  simp(disch:=omega) only[AD,o]
  refine cB L ?_
  simp(disch:=omega) only[AD,f]
  refine cB O ?_
  simp(disch:=omega) only[AD,f]
  refine cB J ?_
  simp(disch:=omega) only[AD,B]
  exact cZ M
theorem RW[HA K]{x:BT}(h:x.n<=8):K 531 [.s x.t] [LL (BO x),.b true]:=by
 have k:=Ys (K:=K) (x:=x) (l:=0) (r:=(x.n:Int)+1) (N:=(x.n:Int)+2) (d:=[]) h (by omega) (by omega) (by omega) (by omega) (by omega) (by omega) (by simp;omega) (by simp);have e:((D6 ((x.n:Int)+2) x 0 ((x.n:Int)+1)).foldl (λt x=>Bh x t) ([]:List (List Int)).reverse).reverse=BO x:=by have:=AkU (AfB (x:=x)) SD;rw[BO,<-this]<;>rfl
 rw[e]at k;refine qw I531 ?_;refine cB Ev ?_;simp(disch:=omega) only[AD,GN h];refine cB (Ee h) ?_;have a:(x.n:Int)+2-1=(x.n:Int)+1:=by omega
 simp(disch:=omega) only[AD,RD,a];exact cZ k
end Go.Cat
