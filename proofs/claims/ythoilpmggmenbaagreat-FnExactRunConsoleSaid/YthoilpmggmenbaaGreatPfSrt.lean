/-
 Sorting of rows: insertion, as the library does it for short lists.
-/
import Derived.Test.YthoilpmggmenbaaGreatPfDraw
set_option linter.unusedSimpArgs false
set_option linter.unusedVariables false
namespace Go.Cat
variable{K:Nat->List D->List D->Prop}
def Bz(x y:List Int):Bool:=decide (AB x 0<AB y 0)||(decide (AB x 0=AB y 0)&&decide (AB x 1<AB y 1))
def Ce(x:List Int):Prop:=x.length=2
theorem Rt{x:List Int}(h:Ce x):x=[AB x 0,AB x 1]:=by
 obtain⟨a,b,rfl⟩:∃a b,x=[a,b]:=by
  match x,h with
  |[a,b],_=>exact⟨a,b,rfl⟩
 rfl
theorem AN1{x y z:List Int}(h:Bz x z=false)(H:Bz y z=true):Bz y x=true:=by simp only[Bz,Bool.or_eq_true,AV,Aa,Bool.or_eq_false_iff,Bool.and_eq_false_iff,decide_eq_false_iff_not]at*;omega
theorem XP{x y:List Int}(h:Bz x y=true):Bz y x=false:=by simp only[Bz,Bool.or_eq_true,AV,Aa,Bool.or_eq_false_iff,Bool.and_eq_false_iff,decide_eq_false_iff_not]at*;omega
theorem AIK{x y:List Int}(h:Ce x)(H:Ce y)(c:Bz x y=false)(e:Bz y x=false):x=y:=by
 simp only[Bz,Bool.or_eq_false_iff,Bool.and_eq_false_iff,decide_eq_false_iff_not]at*;have a:AB x 0=AB y 0:=by omega
 have b:AB x 1=AB y 1:=by omega
 rw[Rt h,Rt H,a,b]
def Bb(x:List Int):List (List Int)->List (List Int)
 |[]=>[x]
 |y::t=>if Bz x y=true then y::Bb x t else x::y::t
theorem XX{x:List Int}:∀t,(Bb x t).length=t.length+1
 |[]=>rfl
 |y::t=>by unfold Bb;split;simp[XX t];rfl
theorem Q5{x z:List Int}:∀{t},z∈Bb x t↔z=x\/z∈t
 |[]=>by simp[Bb]
 |y::t=>by unfold Bb;split;simp only[A7,Q5 (t:=t)];constructor<;>rintro(h|h|h)<;>simp[h];simp
theorem AND{x y:List Int}(h:Ce x)(H:Ce y):∀t,Bb x (Bb y t)=Bb y (Bb x t)
 |[]=>by
  simp only[Bb]
  cases h1:Bz x y
  cases h2:Bz y x;rw[AIK h H h1 h2];simp;simp[XP h1]
 |z::t=>by
  have i:=AND h H t;simp only[Bb]
  cases h1:Bz y z<;>cases h2:Bz x z;simp only[I1,if_false,Bb,h1,h2]
  cases h3:Bz x y
  cases h4:Bz y x;rw[AIK h H h3 h4];simp;simp[XP h3];have:=AN1 h1 h2;simp[Bb,h1,h2,this];have:=AN1 h2 h1;simp[Bb,h1,h2,this];simp[Bb,h1,h2,i]
def J3(d:List (List Int)):List (List Int):=d.foldl (λt x=>Bb x t) []
def Dt(d:List (List Int)):List (List Int):=(J3 d).reverse
theorem AYN{d e:List (List Int)}(h:d.Perm e)(H:∀x∈d,Ce x):J3 d=J3 e:=
 List.Perm.foldl_eq' h (λx a y b z=>(AND (H x a) (H y b) z).symm) []
theorem Ab4{d e:List (List Int)}(h:d.Perm e)(H:∀x∈d,Ce x):Dt d=Dt e:=by rw[Dt,Dt,AYN h H]
theorem SL:∀(d t:List (List Int)),(d.foldl (λt x=>Bb x t) t).length=t.length+d.length
 |[],t=>rfl
 |x::d,t=>by rw[List.foldl_cons,SL d,XX,AO];omega
theorem ATG{d:List (List Int)}:(J3 d).length=d.length:=by rw[J3,SL];simp
theorem APS{d:List (List Int)}:(Dt d).length=d.length:=by rw[Dt,List.length_reverse,ATG]
theorem Q2{z:List Int}:∀{d t:List (List Int)},z∈d.foldl (λt x=>Bb x t) t↔z∈d\/z∈t
 |[],t=>by simp
 |x::d,t=>by rw[List.foldl_cons,Q2 (d:=d),Q5,A7];constructor;rintro(h|h|h);exact .inl (.inr h);exact .inl (.inl h);exact .inr h;rintro((h|h)|h);exact .inr (.inl h);exact .inl h;exact .inr (.inr h)
theorem Wg{z:List Int}{d:List (List Int)}:z∈Dt d↔z∈d:=by rw[Dt,List.mem_reverse,J3,Q2];simp
theorem AEF[HA K]{x:Int}:K 211 [.n x] [.b false]:=by exact qz I211
theorem AcX[HA K]{x y:Int}:K 377 [.n x,.n y] [.n (if x<y then -1 else if y<x then 1 else 0)]:=by refine qw I377 ?_;refine cW AEF ?_;refine cB AEF ?_;by_cases h:x<y;refine wW ?_;rw[if_pos h];by_cases H:y<x;refine wW ?_;rw[if_neg h,if_pos H];refine wW ?_;rw[if_neg h,if_neg H]
def KK(x y:List Int):Int:=if Bz x y=true then -1 else if Bz y x=true then 1 else 0
theorem ACA{x y:List Int}:decide (KK x y<0)=Bz x y:=by
 unfold KK
 cases Bz x y
 cases Bz y x<;>rfl;rfl
theorem ACP[HA K]{x y:List Int}(f:Ce x)(g:Ce y):K 364 [LI x,LI y] [.n (KK x y)]:=by
 have l:x.length=2:=f;have L:y.length=2:=g;refine qw I364 ?_;refine AN (λi=>∀j:Nat,j<i->AB x j=AB y j) (λi=>[LI x,LI y,.u,.u,.u,.u,.u,LI x,.n x.length,.n i,.u,.u,.u,.u]) 2 (by simp) rfl (λi hi P=>?_) (λP=>?_);refine wW ?_;refine cB AcX ?_;have c:i=0\/i=1:=by omega
 have h0:i=1->AB x 0=AB y 0:=λq=>P 0 (by omega);by_cases h:AB x i<AB y i;rw[if_pos h];refine wW ?_;have e:Bz x y=true:=by rcases c with q|q;subst q;have h:AB x 0<AB y 0:=h;simp[Bz,h];have:=h0 q;subst q;have h:AB x 1<AB y 1:=h;simp[Bz,h,this]
 simp[KK,e];rw[if_neg h];by_cases H:AB y i<AB x i;rw[if_pos H];refine wW ?_;have e:Bz y x=true:=by rcases c with q|q;subst q;have H:AB y 0<AB x 0:=H;simp[Bz,H];have:=h0 q;subst q;have H:AB y 1<AB x 1:=H;simp[Bz,H,this]
 simp[KK,e,XP e];rw[if_neg H];refine wW ?_;exact Bf P (by omega);have a:AB x 0=AB y 0:=P 0 (by omega);have b:AB x 1=AB y 1:=P 1 (by omega);refine wW ?_;simp[KK,Bz,a,b]
theorem wrap_u64{x:Int}(h:0<=x/\x<=1000000):IntKind.u64.wrap x=x:=by have e:x%18446744073709551616=x:=Int.emod_eq_of_lt h.1 (by omega);simp[IntKind.wrap,IntKind.bits,IntKind.signed,e]
def YS(o:Option (List D)):Bool:=match o with
 |some [.i .i64 _]=>true
 |_=>false
theorem AjY{o:Option (List D)}(h:YS o=true):∃v:Int,o=some [.n v]:=by
 unfold YS at h;split at h;exact⟨_,rfl⟩
 cases h
abbrev AH2:List (Nat×IF):=[(391,I391.v)]
theorem len0:BR 13 (λn=>YS (E2 (EU AH2) 60 8 391 [.i .u64 (n:Nat)]))=true:=by kernel_rfl
theorem AYH[HA K]{n:Nat}(h:n<=12):∃v:Int,K 391 [.i .u64 (n:Nat)] [.n v]:=by obtain⟨v,H⟩:=AjY (BY len0 n (by omega));exact⟨v,run AH2 60 8 391 H⟩
theorem AeU[HA K]{n:Nat}(h:n<=12):∃v:Int,K 376 [.i .u64 (n:Nat)] [.n v]:=by obtain⟨v,H⟩:=AYH (K:=K) h;refine⟨v,?_⟩;refine qw I376 ?_;exact cZ H
theorem AI9{a b:List (List Int)}{x:List Int}:AF (a++x::b) a.length=x:=by simp[AF]
theorem ABG{a b:List (List Int)}{x y:List Int}:Du (a++x::b) a.length y=a++y::b:=by simp[Du]
theorem Ai2[HA K]{d:List (List Int)}(hl:d.length<=12)(P:∀x∈d,Ce x):K 382 [LL d,.n 0,.n d.length,.f 364 []] [LL (Dt d)]:=by
 have e:∀i,((d.take i).foldl (λt x=>Bb x t) []).length=min i d.length:=λi=>by rw[SL];simp
 have B:∀i,∀x∈(d.take i).foldl (λt x=>Bb x t) [],Ce x:=λi x F=>by
  rcases Q2.1 F with q|q;exact P x (List.mem_of_mem_take q)
  cases q
 refine qw I382 ?_;refine Bj (λ(i:Nat)=>i<=d.length\/i=1) (λi=>[LL (((d.take i).foldl (λt x=>Bb x t) []).reverse++d.drop i),.n 0,.n d.length,.f 364 [],.n i,.u,.u,.u]) (λi=>d.length-i) 1 (.inr rfl) ?_ ?_
 cases d with
 |nil=>rfl
 |cons x d=>simp[Bb]
 intro i hi;by_cases c:i<d.length;have C:((d.take (i+1)).foldl (λt x=>Bb x t) [])=Bb (d[i]) ((d.take i).foldl (λt x=>Bb x t) []):=by rw[CP c,List.foldl_append]<;>rfl
 have hd:=List.drop_eq_getElem_cons c;have H:=e i;have s:=B i;have F:Ce (d[i]):=P _ (List.getElem_mem c);rw[hd];generalize d[i]=x at C F hd|-;obtain⟨post,h⟩:∃post,post=d.drop (i+1):=⟨_,rfl⟩;rw[<-h]at hd|-;have W:i+1+post.length=d.length:=by have:=congrArg List.length hd;simp only[List.length_drop,AO]at this;omega
 rw[show min i d.length=i by omega]at H;generalize hT:(d.take i).foldl (λt x=>Bb x t) []=T at C H s;refine wW ?_;refine Bj (λ(y:Nat×List (List Int)×List (List Int))=>y.1=y.2.1.length/\(∀z∈y.2.1,Ce z)/\y.2.1.length+1+y.2.2.length=d.length/\(Bb x y.2.1).reverse++y.2.2=(Bb x T).reverse++post) (λy=>[LL (y.2.1.reverse++x::y.2.2),.n 0,.n d.length,.f 364 [],.n i,.n y.1,.u,.u]) (λy=>y.1) (i,T,post) ⟨H.symm,s,by simp only;omega,rfl⟩ rfl ?_;rintro⟨j,t,o⟩ ⟨N,G,I,g⟩;simp only at N G I g|-;subst N;have l:(t.reverse++x::o).length=d.length:=by simp;omega
 cases t with
 |nil=>
  simp only[A6,List.reverse_nil,List.nil_append]at I l g|-
  refine wW ?_
  refine⟨i+1,by omega,.inl (by omega),?_⟩
  rw[C,<-h,<-g]
  have Y:IntKind.i64.wrap ((i:Int)+1)=(i:Int)+1:=wrap_i64 (by omega)
  simp only[Y,Tu,V6,Vr,Um,VD,Bb]
  simp
 |cons y t=>
  have J:((y::t).reverse++x::o)=t.reverse++y::x::o:=by simp
  have L:AF (t.reverse++y::x::o) t.length=y:=by
   have:=AI9 (a:=t.reverse) (b:=x::o) (x:=y)
   rwa [List.length_reverse]at this
  have M:AF (t.reverse++y::x::o) ((t.length:Int)+1)=x:=by
   have:=AI9 (a:=t.reverse++[y]) (b:=o) (x:=x)
   simp only[A4,List.length_reverse,AO,A6,CO,List.singleton_append]at this
   exact this
  have U:Du (t.reverse++y::x::o) ((t.length:Int)+1) y=t.reverse++y::y::o:=by
   have:=ABG (a:=t.reverse++[y]) (b:=o) (x:=x) (y:=y)
   simp only[A4,List.length_reverse,AO,A6,CO,List.singleton_append]at this
   exact this
  have V:Du (t.reverse++y::y::o) t.length x=t.reverse++x::y::o:=by
   have:=ABG (a:=t.reverse) (b:=y::o) (x:=y) (y:=x)
   rwa [List.length_reverse]at this
  have k:(t.reverse++y::x::o).length=d.length:=by rw[<-J];exact l
  have O:(t.reverse++y::y::o).length=d.length:=by rw[<-k];simp
  simp only[AO]at I|-
  rw[J]
  have ky:K 364 [LI x,LI y] [.n (KK x y)]:=ACP F (G y (by simp))
  simp(disch:=omega) only[AD,Bm,L,M]
  refine cB ky ?_
  simp(disch:=omega) only[AD,ACA]
  cases hc:Bz x y
  .refine wW ?_
   refine⟨i+1,by omega,.inl (by omega),?_⟩
   rw[C]
   rw[Bb,hc]at g
   simp only[I1,if_false,List.reverse_cons,CO,List.singleton_append]at g
   rw[<-h,<-g]
   simp
  .simp(disch:=omega) only[AD,Bm,L,M,U,V]
   refine⟨(t.length,t,y::o),by simp only;omega,⟨rfl,λz Z=>G z (by simp[Z]),by simp only[AO];omega,?_⟩,by simp⟩
   rw[Bb,if_pos hc]at g
   simpa using g
 refine wW ?_;have Q:d.take i=d:=List.take_of_length_le (by omega);have R:d.drop i=[]:=List.drop_of_length_le (by omega);rw[Q,R,List.append_nil]<;>rfl
theorem AbF[HA K]{d:List (List Int)}{v:Int}(h:d.length<=12)(H:∀x∈d,Ce x):K 375 [LL d,.n 0,.n d.length,.n v,.f 364 []] [LL (Dt d)]:=by refine qw I375 ?_;refine Bj (λ(_:Unit)=>True) (λ_=>[LL d,.n 0,.n d.length,.n v,.f 364 [],.b true,.b true,.u,.u,.u,.u,.u,.u,.u,.u,.u,.u,.u,.u,.u,.u,.u,.u,.u]) (λ_=>0) () trivial rfl (λ_ _=>?_);refine wW ?_;exact cZ (Ai2 h H)
theorem AF5[HA K]{d:List (List Int)}(h:d.length<=12)(H:∀x∈d,Ce x):K 363 [LL d,.f 364 []] [LL (Dt d)]:=by obtain⟨v,a⟩:=AeU (K:=K) (n:=d.length) h;refine qb I363 ?_;simp(disch:=omega) only[AD,wrap_u64];refine cW a ?_;exact cZ (AbF h H)
end Go.Cat
namespace Go.Cat
variable{K:Nat->List D->List D->Prop}
def BT.Fo:BT->Bool
 |.lf=>true
 |.nd _ _=>false
theorem BT.nz{x:BT}:MM x.d=some x.Fo:=by cases x<;>rfl
theorem BT.AiU{x:BT}:x.Fo=decide (x.n=0):=by cases x<;>simp[BT.Fo,BT.n]
def DQ:BT->Int->Int->List (List Int)
 |.lf,_,_=>[]
 |.nd a b,l,r=>(if a.Fo=true then []else [[l,l+a.n+1]])++((if b.Fo=true then []else [[l+a.n+1,r]])++(DQ a l (l+a.n+1)++DQ b (l+a.n+1) r))
def Jh:BT->Int->Int->List (List Int)
 |.lf,_,_=>[]
 |.nd a b,l,r=>[[l,l+a.n+1,r]]++(Jh a l (l+a.n+1)++Jh b (l+a.n+1) r)
theorem Ur:∀{x:BT}{l r:Int},(DQ x l r).length<=2*x.n
 |.lf,_,_=>by simp[DQ]
 |.nd a b,l,r=>by
  have h:=Ur (x:=a) (l:=l) (r:=l+a.n+1);have H:=Ur (x:=b) (l:=l+a.n+1) (r:=r);simp only[DQ,A4,BT.n];have:(if a.Fo=true then []else [[l,l+(a.n:Int)+1]]).length<=1:=by split<;>simp
  have:(if b.Fo=true then []else [[l+(a.n:Int)+1,r]]).length<=1:=by split<;>simp
  omega
theorem Pg:∀{x:BT}{l r:Int},(DQ x l r).length<=x.n-1
 |.lf,_,_=>by simp[DQ]
 |.nd a b,l,r=>by
  have h:=Pg (x:=a) (l:=l) (r:=l+a.n+1);have H:=Pg (x:=b) (l:=l+a.n+1) (r:=r);simp only[DQ,A4,BT.n,BT.AiU,Aa];have e:(if a.n=0 then []else [[l,l+(a.n:Int)+1]]).length=if a.n=0 then 0 else 1:=by split<;>rfl
  have c:(if b.n=0 then []else [[l+(a.n:Int)+1,r]]).length=if b.n=0 then 0 else 1:=by split<;>rfl
  rw[e,c];split<;>split<;>omega
theorem ANP:∀{x:BT}{l r:Int},(Jh x l r).length=x.n
 |.lf,_,_=>rfl
 |.nd a b,l,r=>by simp only[Jh,A4,BT.n,AO,A6,ANP];omega
theorem NB:∀{x:BT}{l r:Int},∀z∈DQ x l r,Ce z
 |.lf,_,_,z,h=>by simp[DQ]at h
 |.nd a b,l,r,z,h=>by
  simp only[DQ,Ac]at h;rcases h with h|h|h|h;split at h
  cases h;simp at h;subst h;rfl;split at h
  cases h;simp at h;subst h;rfl;exact NB z h;exact NB z h
theorem b_tf:(true==false)=false:=rfl
theorem Qo{a b:List (List Int)}(h:a.length+b.length<=1099511627776):ED false (LL a) (LL b)=some (LL (a++b)):=KA ⟨h,rfl⟩
theorem XF[HA K]:∀{x:BT}{l r:Int}{c s:List (List Int)},x.n<=1000->0<=l->l+x.n<=100000->r=l+x.n+1->c.length+x.n<=1000000->s.length+2*x.n<=1000000->
  K 541 [x.d,.n l,.n r,LL c,LL s] [LL (c++Jh x l r),LL (s++DQ x l r)]
 |.lf,l,r,c,s,_,_,_,_,_,_=>by refine qb AGR ?_;simp only[BT.d,Jh,DQ,List.append_nil];exact wZ
 |.nd a b,l,r,c,s,h,h0,e,g,f,i=>by
  simp only[BT.n]at h e g f i;have L:=ANP (x:=a) (l:=l) (r:=l+a.n+1);have B:=Ur (x:=a) (l:=l) (r:=l+a.n+1);have o:=KM (K:=K) a (by omega);refine qb AGR ?_;simp only[BT.d];simp(disch:=try exact dV) only[AD,BT.Dc,KD];refine cB o ?_;simp(disch:=try exact dV) only[AD,Yf,GB,Qo];have q:(l+(a.n:Int)+1)=l+a.n+1:=rfl;have k:=λ(s':List (List Int))(H:s'.length<=s.length+2)=>XF (x:=a) (l:=l) (r:=l+a.n+1) (c:=c++[[l,l+(a.n:Int)+1,r]]) (s:=s') (by omega) h0 (by omega) rfl (by simp;omega) (by omega);have j:=λ(s':List (List Int))(H:s'.length<=s.length+2+2*a.n)=>XF (x:=b) (l:=l+a.n+1) (r:=r) (c:=(c++[[l,l+(a.n:Int)+1,r]])++Jh a l (l+a.n+1)) (s:=s') (by omega) (by omega) (by omega) (by omega) (by simp;omega) (by omega)
  cases hla:a.Fo<;>cases hlb:b.Fo
  all_goals
   simp(disch:=try exact dV) only[AD,BT.Dc,BT.nz,hla,hlb,KD,b_tf,ON,GB,Qo]
   refine cB (k _ (by first|omega|(simp only[A4,AO,A6];omega))) ?_
   simp(disch:=try exact dV) only[AD,BT.Dc]
   refine cW (j _ (by first|omega|(simp only[A4,AO,A6];omega))) ?_
   refine D2 ?_ ?_
   .simp[Jh]
   .simp[DQ,hla,hlb]
end Go.Cat
namespace Go.Cat
variable{K:Nat->List D->List D->Prop}
theorem Gn[HA K]{x:BT}(h:x.n<=8):K 169 [.s x.t] [.n x.n]:=by refine qw ZP ?_;refine cB (Ly h) ?_;simp(disch:=omega) only[AD,BT.Dc];exact cZ (KM x (by omega))
theorem RV[HA K]{s:List Nat}(h:Az s=false):K 169 [.s s] [.n (-1)]:=by refine qw ZP ?_;exact cZ (Qu h)
theorem EV[HA K]{x:BT}(h:x.n<=8):K 162 [.s x.t] [.n x.n]:=by have l:=BT.tl x;refine qw I162 ?_;refine cB Ez ?_;simp(disch:=omega) only[AD,GF h];exact Dn (by omega)
def BO(x:BT):List (List Int):=Dt (DQ x 0 ((x.n:Int)+1))
theorem AQN{x:BT}:(BO x).length=(DQ x 0 ((x.n:Int)+1)).length:=APS
theorem SH[HA K]{x:BT}(h:x.n<=8):K 536 [.s x.t] [LL (BO x),.b true]:=by have H:=Pg (x:=x) (l:=0) (r:=(x.n:Int)+1);refine qw I536 ?_;refine cB (Ly h) ?_;simp(disch:=omega) only[AD,BT.Dc];refine cB (KM x (by omega)) ?_;simp(disch:=omega) only[AD,RZ];have k:=XF (K:=K) (x:=x) (l:=0) (r:=(x.n:Int)+1) (c:=[]) (s:=[]) (by omega) (by omega) (by omega) (by omega) (by simp;omega) (by simp;omega);rw[List.nil_append,List.nil_append]at k;refine cW k ?_;exact cZ (AF5 (by omega) NB)
theorem Wj[HA K]{x y:List Int}(a:Ce x)(c:Ce y):K 374 [LI x,LI y] [.b (Bz x y)]:=by have l:x.length=2:=a;have L:y.length=2:=c;refine qw I374 ?_;by_cases H:AB x 0<AB y 0;refine wW ?_;simp[Bz,H];by_cases h:AB x 0=AB y 0;simp(disch:=omega) only[AD,h];simp[Bz,h];refine wW ?_;simp[Bz,H,h]
theorem AkD{b:List (List Int)}{i:Nat}(h:i<b.length):AF b i∈b:=by simp[AF,h]
theorem AUD{l:List (List Int)}{k:Nat}(h:k<l.length):l.take (k+1)=l.take k++[AF l k]:=by rw[CP h];simp[AF,h]
theorem AS5{l:List (List Int)}{k:Nat}(h:k<l.length):l.drop k=AF l k::l.drop (k+1):=by rw[List.drop_eq_getElem_cons h];simp[AF,h]
theorem AUN{l:List (List Int)}{k:Nat}:sub l 0 k=l.take k:=by simp[sub]
theorem AUU{l:List (List Int)}{k:Nat}:sub l k l.length=l.drop k:=by simp[sub]
theorem ALO{rs:List (List Int)}{j:Int}(h:0<=j/\j<=rs.length):Ep (LL rs) none (some (.n j))=some (LL (sub rs 0 j)):=JO LI KX (Fe (by omega)) (by omega) (by omega)
theorem Z1[HA K]{l:List (List Int)}{x:List Int}(C:l.length<=100000)(g:∀z∈l,Ce z)(i:Ce x):K 362 [LL l,LI x] [LL (Bb x l.reverse).reverse]:=by
 refine qw I362 ?_;refine Bj (λ(k:Nat)=>k<=l.length/\(Bb x (l.take k).reverse).reverse++l.drop k=(Bb x l.reverse).reverse) (λk=>[LL l,LI x,.u,.n k,.u]) (λk=>k) l.length ⟨Nat.le_refl _,by rw[List.take_length,List.drop_length,List.append_nil]⟩ rfl ?_;intro k f;obtain⟨B,h⟩:=f
 cases k with
 |zero=>
  have e:sub l 0 (0:Int)=[]:=by simp[sub]
  have a:sub l 0 (l.length:Int)=l:=by simp[sub]
  rw[List.take_zero,List.drop_zero]at h
  simp(disch:=try exact dV) only[AD,RZ,GB,Qo,ALO,e,a]
  rw[<-h]
  simp[Bb]
 |succ k=>
  have H:k<l.length:=by omega
  have j:=g _ (AkD H)
  have o:=Wj (K:=K) i j
  have b:=AUD H
  rw[b,List.reverse_append,List.reverse_singleton,List.singleton_append]at h
  simp(disch:=try exact dV) only[AD,Bm]
  refine cB o ?_
  cases hc:Bz x (AF l k)
  .rw[Bb,hc]at h
   have c:sub l 0 ((k:Int)+1)=l.take (k+1):=by rw[show(k:Int)+1=((k+1:Nat):Int) by omega,AUN]
   have a:sub l ((k:Int)+1) (l.length:Nat)=l.drop (k+1):=by rw[show(k:Int)+1=((k+1:Nat):Int) by omega,AUU]
   have q:(l.take (k+1)).length=k+1:=by simp;omega
   have s:(l.drop (k+1)).length<=l.length:=by simp
   simp(disch:=try exact dV) only[AD,Bm,RZ,GB,Qo,ALO,c,a]
   rw[<-h,b]
   simp
  .rw[Bb,if_pos hc,List.reverse_cons,CO,List.singleton_append,<-AS5 H]at h
   simp(disch:=try exact dV) only[AD,Bm]
   exact⟨k,by omega,⟨by omega,h⟩,rfl⟩
def D5(N:Int):BT->Int->Int->List (List Int)
 |.lf,_,_=>[]
 |.nd a b,l,r=>(if 1<r-l/\¬(l=0/\r=N-1)then [[l,r]]else [])++(D5 N a l (l+1+a.n)++D5 N b (l+1+a.n) r)
theorem RK{N:Int}:∀{x:BT}{l r:Int},∀z∈D5 N x l r,Ce z
 |.lf,_,_,z,h=>by simp[D5]at h
 |.nd a b,l,r,z,h=>by
  simp only[D5,Ac]at h;rcases h with h|h|h;split at h;simp at h;subst h;rfl
  cases h;exact RK z h;exact RK z h
theorem Y5{N:Int}:∀{x:BT}{l r:Int},(D5 N x l r).length<=x.n
 |.lf,_,_=>by simp[D5]
 |.nd a b,l,r=>by
  have h:=Y5 (N:=N) (x:=a) (l:=l) (r:=l+1+a.n);have H:=Y5 (N:=N) (x:=b) (l:=l+1+a.n) (r:=r);simp only[D5,A4,BT.n];have:(if 1<r-l/\¬(l=0/\r=N-1)then [[l,r]]else []).length<=1:=by split<;>simp
  omega
theorem TS{N:Int}:∀{x:BT}{l r:Int},r=l+x.n+1->¬(l=0/\r=N-1)->0<=l->r<=N-1->(D5 N x l r).Perm ((if x.Fo=true then []else [[l,r]])++DQ x l r)
 |.lf,l,r,_,_,_,_=>by simp[D5,DQ,BT.Fo]
 |.nd a b,l,r,e,H,h0,h=>by
  simp only[BT.n]at e;have P:=TS (N:=N) (x:=a) (l:=l) (r:=l+a.n+1) rfl (by omega) h0 (by omega);have f:=TS (N:=N) (x:=b) (l:=l+a.n+1) (r:=r) (by omega) (by omega) (by omega) h;have c:l+1+(a.n:Int)=l+a.n+1:=by omega
  rw[show(BT.nd a b).Fo=false from rfl];simp only[D5,DQ,c,I1,if_false];rw[if_pos ⟨by omega,H⟩];refine List.Perm.append_left _ ?_;refine(P.append f).trans ?_;generalize (if a.Fo=true then []else [[l,l+(a.n:Int)+1]])=A;generalize (if b.Fo=true then []else [[l+(a.n:Int)+1,r]])=B;generalize DQ a l (l+a.n+1)=IA;generalize DQ b (l+a.n+1) r=IB;rw[CO];refine List.Perm.append_left A ?_;rw[<-CO,<-CO];exact List.Perm.append_right IB List.perm_append_comm
theorem AgU{x:BT}:(D5 ((x.n:Int)+2) x 0 ((x.n:Int)+1)).Perm (DQ x 0 ((x.n:Int)+1)):=by
 cases x with
 |lf=>simp[D5,DQ]
 |nd a b=>
  have P:=TS (N:=((BT.nd a b).n:Int)+2) (x:=a) (l:=0) (r:=0+(a.n:Int)+1) rfl (by simp only[BT.n];omega) (by omega) (by simp only[BT.n];omega)
  have c:=TS (N:=((BT.nd a b).n:Int)+2) (x:=b) (l:=0+(a.n:Int)+1) (r:=((BT.nd a b).n:Int)+1) (by simp only[BT.n];omega) (by omega) (by omega) (by omega)
  have e:(0:Int)+1+(a.n:Int)=0+a.n+1:=by omega
  rw[D5,DQ,if_neg (by omega),List.nil_append,e]
  refine(P.append c).trans ?_
  generalize (if a.Fo=true then []else [[(0:Int),0+(a.n:Int)+1]])=A
  generalize (if b.Fo=true then []else [[0+(a.n:Int)+1,((BT.nd a b).n:Int)+1]])=B
  generalize DQ a 0 (0+a.n+1)=IA
  generalize DQ b (0+a.n+1) (((BT.nd a b).n:Int)+1)=IB
  rw[CO]
  refine List.Perm.append_left A ?_
  rw[<-CO,<-CO]
  exact List.Perm.append_right IB List.perm_append_comm
theorem IJ{a b:BT}:(BT.nd a b).t.length=a.t.length+b.t.length+2:=by simp[BT.t];omega
theorem J4{a b:BT}:sub (BT.nd a b).t 1 (1+(a.t.length:Int))=a.t:=by
 have e:(1+(a.t.length:Int)).toNat=a.t.length+1:=by omega
 show(List.take (1+(a.t.length:Int)).toNat (BT.nd a b).t).drop (1:Int).toNat=_;rw[e];simp[BT.t]
theorem JV{a b:BT}{j:Int}(h:j=(BT.nd a b).t.length-1):sub (BT.nd a b).t (1+(a.t.length:Int)) j=b.t:=by
 have e:(1+(a.t.length:Int)).toNat=(40::a.t).length:=by simp;omega
 have l:=IJ (a:=a) (b:=b);have c:j.toNat=(40::a.t++b.t).length:=by simp;omega
 have f:(BT.nd a b).t=(40::a.t++b.t)++[41]:=by simp[BT.t]
 show(List.take j.toNat (BT.nd a b).t).drop (1+(a.t.length:Int)).toNat=_;rw[e,c,f,List.take_left,List.drop_left]
theorem IZ[HA K]{a b:BT}(h:(BT.nd a b).n<=1000000):K 188 [.s (BT.nd a b).t,.n 1] [.n (1+a.t.length)]:=by have l:=BT.tl (.nd a b);exact MC (K:=K) (s:=(BT.nd a b).t) (by omega) a 1 (b.t++[41]) (by simp[BT.t])
theorem Kk{a b:BT}:((BT.nd a b).t==[46])=false:=by simp[BT.t]
theorem Xe[HA K]:∀{x:BT}{l r N:Int}{d:List (List Int)},x.n<=8->0<=l->l+x.n<=1000->0<=r->r<=1000->0<=N->N<=1000->d.length+x.n<=100000->(∀z∈d,Ce z)->
  K 540 [.s x.t,.n l,.n r,LL d,.n N] [LL ((D5 N x l r).foldl (λt x=>Bb x t) d.reverse).reverse]
 |.lf,l,r,N,d,_,_,_,_,_,_,_,_,_=>by
  refine qb AP8 ?_
  simp only[BT.t,D5,List.foldl_nil,List.reverse_reverse]
  exact wZ
 |.nd a b,l,r,N,d,h,h0,h1,h2,h3,V,W,h6,Q=>by
  have h':=h
  simp only[BT.n]at h h1 h6
  have hl:=IJ (a:=a) (b:=b)
  have ta:=BT.tl a
  have tb:=BT.tl b
  have f:=J4 (a:=a) (b:=b)
  have B:=JV (a:=a) (b:=b) (j:=(BT.nd a b).t.length-1) rfl
  have O:=EV (K:=K) (x:=a) (by omega)
  have L:=IZ (K:=K) (a:=a) (b:=b) (by simp only[BT.n];omega)
  have la:=Y5 (N:=N) (x:=a) (l:=l) (r:=l+1+a.n)
  have ra:=RK (N:=N) (x:=a) (l:=l) (r:=l+1+a.n)
  have o:=Kk (a:=a) (b:=b)
  obtain⟨e,c⟩:∃e,e=(if 1<r-l/\¬(l=0/\r=N-1)then(Bb [l,r] d.reverse).reverse else d):=⟨_,rfl⟩
  have Y:e.length<=d.length+1:=by rw[c];split<;>simp[XX]
  have i:∀z∈e,Ce z:=by
   intro z H
   rw[c]at H
   split at H
   rw[List.mem_reverse,Q5,List.mem_reverse]at H
   rcases H with H|H
   rw[H]<;>rfl
   exact Q z H
   exact Q z H
  have I:(D5 N (.nd a b) l r).foldl (λt x=>Bb x t) d.reverse=(D5 N b (l+1+a.n) r).foldl (λt x=>Bb x t) ((D5 N a l (l+1+a.n)).foldl (λt x=>Bb x t) e.reverse):=by
   rw[D5,List.foldl_append,List.foldl_append,c]
   congr 2
   split
   rw[List.reverse_reverse]<;>rfl
   rfl
  rw[I]
  obtain⟨k,g⟩:∃k,k=((D5 N a l (l+1+a.n)).foldl (λt x=>Bb x t) e.reverse).reverse:=⟨_,rfl⟩
  have Z:k.length=e.length+(D5 N a l (l+1+a.n)).length:=by rw[g,List.length_reverse,SL,List.length_reverse]
  have G:∀z∈k,Ce z:=by
   intro z H
   rw[g,List.mem_reverse,Q2,List.mem_reverse]at H
   rcases H with H|H
   exact ra z H
   exact i z H
  have J:=Xe (x:=a) (l:=l) (r:=l+1+a.n) (N:=N) (d:=e) (by omega) h0 (by omega) (by omega) (by omega) V W (by omega) i
  have M:=Xe (x:=b) (l:=l+1+a.n) (r:=r) (N:=N) (d:=k) (by omega) (by omega) (by omega) h2 h3 V W (by omega) G
  rw[<-g]at J
  have F:(D5 N a l (l+1+a.n)).foldl (λt x=>Bb x t) e.reverse=k.reverse:=by rw[g,List.reverse_reverse]
  rw[F]
  generalize hw:(BT.nd a b).t=w at hl f B L o
  refine qb AP8 ?_
  by_cases C:1<r-l/\¬(l=0/\r=N-1)
  rw[if_pos C]at c
  have R:=Z1 (K:=K) (l:=d) (x:=[l,r]) (by omega) Q rfl
  rw[<-c]at R
  obtain⟨P,c2⟩:=C
  by_cases U:l=0
  have c4:¬r=N-1:=λq=>c2 ⟨U,q⟩
  simp(disch:=omega) only[AD,o,ON]
  refine cW R ?_
  refine cB L ?_
  simp(disch:=omega) only[AD,f]
  refine cB O ?_
  simp(disch:=omega) only[AD,f]
  refine cB J ?_
  simp(disch:=omega) only[AD,B]
  exact cZ M
  simp(disch:=omega) only[AD,o,ON]
  refine cW R ?_
  refine cB L ?_
  simp(disch:=omega) only[AD,f]
  refine cB O ?_
  simp(disch:=omega) only[AD,f]
  refine cB J ?_
  simp(disch:=omega) only[AD,B]
  exact cZ M
  rw[if_neg C]at c
  subst c
  by_cases P:1<r-l
  have U:l=0:=by
   refine Classical.byContradiction λq=>C ⟨P,λT=>q T.1⟩
  have c4:r=N-1:=by
   refine Classical.byContradiction λq=>C ⟨P,λT=>q T.2⟩
  simp(disch:=omega) only[AD,o]
  refine cB L ?_
  simp(disch:=omega) only[AD,f]
  refine cB O ?_
  simp(disch:=omega) only[AD,f]
  refine cB J ?_
  simp(disch:=omega) only[AD,B]
  exact cZ M
  simp(disch:=omega) only[AD,o]
  refine cB L ?_
  simp(disch:=omega) only[AD,f]
  refine cB O ?_
  simp(disch:=omega) only[AD,f]
  refine cB J ?_
  simp(disch:=omega) only[AD,B]
  exact cZ M
theorem S0[HA K]{x:BT}(h:x.n<=8):K 531 [.s x.t] [LL (BO x),.b true]:=by
 have k:=Xe (K:=K) (x:=x) (l:=0) (r:=(x.n:Int)+1) (N:=(x.n:Int)+2) (d:=[]) h (by omega) (by omega) (by omega) (by omega) (by omega) (by omega) (by simp;omega) (by simp);have e:((D5 ((x.n:Int)+2) x 0 ((x.n:Int)+1)).foldl (λt x=>Bb x t) ([]:List (List Int)).reverse).reverse=BO x:=by have:=Ab4 (AgU (x:=x)) RK;rw[BO,<-this]<;>rfl
 rw[e]at k;refine qw I531 ?_;refine cB Ez ?_;simp(disch:=omega) only[AD,GF h];refine cB (EV h) ?_;have a:(x.n:Int)+2-1=(x.n:Int)+1:=by omega
 simp(disch:=omega) only[AD,RZ,a];exact cZ k
end Go.Cat
