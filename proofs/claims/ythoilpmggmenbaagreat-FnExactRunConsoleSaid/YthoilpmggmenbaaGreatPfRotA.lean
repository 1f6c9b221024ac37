/-
 Rotations at the level of texts.
-/
import Derived.Test.YthoilpmggmenbaaGreatPfRotM
import Derived.Test.YthoilpmggmenbaaGreatPfSrt
set_option linter.unusedSimpArgs false
set_option linter.unusedVariables false
namespace Go.Cat
variable{K:Nat->List D->List D->Prop}
def BT.at:BT->Int->BT
 |.lf,_=>.lf
 |.nd l r,v=>if v<l.n then l.at v else if(l.n:Int)<v then r.at (v-l.n-1)else .nd l r
def BT.rep:BT->Int->BT->BT
 |.lf,_,_=>.lf
 |.nd l r,v,y=>if v<l.n then .nd (l.rep v y) r else if(l.n:Int)<v then .nd l (r.rep (v-l.n-1) y)else y
theorem NR:∀{x:BT}{v:Int},0<=v->v<x.n->∃a b,x.at v=.nd a b
 |.lf,v,H,h=>by simp only[BT.n]at h;omega
 |.nd l r,v,H,h=>by simp only[BT.n]at h;simp only[BT.at];split;exact NR H (by omega);split;exact NR (by omega) (by omega);exact⟨_,_,rfl⟩
theorem QI:∀{x:BT}{v:Int},(x.at v).n<=x.n
 |.lf,_=>Nat.le_refl _
 |.nd l r,v=>by simp only[BT.at];split;have:=QI (x:=l) (v:=v);simp only[BT.n];omega;split;have:=QI (x:=r) (v:=v-l.n-1);simp only[BT.n];omega;exact Nat.le_refl _
theorem Zw:∀{x:BT}{v:Int},v<0\/(x.n:Int)<=v->BB x v=none
 |.lf,_,_=>rfl
 |.nd l r,v,h=>by simp only[BT.n]at h;simp only[BB];split;rfl;rw[if_neg (by omega),if_neg (by omega),Zw (by omega)]<;>rfl
theorem AHY:∀{x:BT}{v:Int},v<0\/(x.n:Int)<=v->CU x v=none
 |.lf,_,_=>rfl
 |.nd l r,v,h=>by simp only[BT.n]at h;simp only[CU];split;rfl;rw[if_neg (by omega),if_neg (by omega),AHY (by omega)]<;>rfl
theorem Ss:∀{x:BT}{v:Int}{c:BT},0<=v->v<x.n->x.at v=.nd .lf c->BB x v=none
 |.lf,_,_,_,_,_=>rfl
 |.nd l r,v,c,H,a,h=>by simp only[BT.n]at a;simp only[BT.at]at h;simp only[BB];rw[if_neg (by omega)];by_cases q:v<(l.n:Int);rw[if_pos q]at h|-;rw[Ss H q h]<;>rfl;rw[if_neg q]at h|-;by_cases Q:(l.n:Int)<v;rw[if_pos Q]at h;rw[if_neg (by omega),Ss (by omega) (by omega) h]<;>rfl;rw[if_neg Q]at h;rw[if_pos (by omega)];injection h with b _;subst b;rfl
theorem ND:∀{x:BT}{v:Int}{a b c:BT},0<=v->v<x.n->x.at v=.nd (.nd a b) c->BB x v=some (x.rep v (.nd a (.nd b c)))
 |.lf,v,_,_,_,e,H,_=>by simp only[BT.n]at H;omega
 |.nd l r,v,a,b,c,e,H,h=>by simp only[BT.n]at H;simp only[BT.at]at h;simp only[BB,BT.rep];rw[if_neg (by omega)];by_cases q:v<(l.n:Int);rw[if_pos q]at h|-;rw[ND e q h,if_pos q]<;>rfl;rw[if_neg q]at h|-;rw[if_neg q];by_cases Q:(l.n:Int)<v;rw[if_pos Q]at h|-;rw[if_neg (by omega),ND (by omega) (by omega) h]<;>rfl;rw[if_neg Q]at h|-;rw[if_pos (by omega)];injection h with f g;subst f g;rfl
theorem Wh:∀{x:BT}{v:Int}{c:BT},0<=v->v<x.n->x.at v=.nd c .lf->CU x v=none
 |.lf,_,_,_,_,_=>rfl
 |.nd l r,v,c,H,a,h=>by simp only[BT.n]at a;simp only[BT.at]at h;simp only[CU];rw[if_neg (by omega)];by_cases q:v<(l.n:Int);rw[if_pos q]at h|-;rw[Wh H q h]<;>rfl;rw[if_neg q]at h|-;by_cases Q:(l.n:Int)<v;rw[if_pos Q]at h;rw[if_neg (by omega),Wh (by omega) (by omega) h]<;>rfl;rw[if_neg Q]at h;rw[if_pos (by omega)];injection h with e b;subst b;rfl
theorem UQ:∀{x:BT}{v:Int}{a b c:BT},0<=v->v<x.n->x.at v=.nd a (.nd b c)->CU x v=some (x.rep v (.nd (.nd a b) c))
 |.lf,v,_,_,_,e,H,_=>by simp only[BT.n]at H;omega
 |.nd l r,v,a,b,c,e,H,h=>by simp only[BT.n]at H;simp only[BT.at]at h;simp only[CU,BT.rep];rw[if_neg (by omega)];by_cases q:v<(l.n:Int);rw[if_pos q]at h|-;rw[UQ e q h,if_pos q]<;>rfl;rw[if_neg q]at h|-;rw[if_neg q];by_cases Q:(l.n:Int)<v;rw[if_pos Q]at h|-;rw[if_neg (by omega),UQ (by omega) (by omega) h]<;>rfl;rw[if_neg Q]at h|-;rw[if_pos (by omega)];injection h with f g;subst f g;rfl
theorem AQI{a:BT}:((a.t.length:Int)-1).tdiv 3=a.n:=by rw[BT.tl,Int.tdiv_eq_ediv_of_nonneg (by omega)];omega
theorem Zd{a:BT}:((a.t.length:Int)-1)/3=a.n:=by rw[BT.tl];omega
theorem RE:∀{x:BT}{v:Int}{y:BT},(x.rep v y).n<=x.n+y.n
 |.lf,_,_=>by simp[BT.rep,BT.n]
 |.nd l r,v,y=>by simp only[BT.rep];split;have:=RE (x:=l) (v:=v) (y:=y);simp only[BT.n];omega;split;have:=RE (x:=r) (v:=v-l.n-1) (y:=y);simp only[BT.n];omega;omega
theorem Px[HA K]:∀{x:BT}{v:Int},x.n<=8->0<=v->v<x.n->K 191 [.s x.t,.n v] [.s (x.at v).t]
 |.lf,v,_,B,g=>by simp only[BT.n]at g;omega
 |.nd a b,v,h,B,g=>by have F:=h;have i:=g;simp only[BT.n]at F i;have T:=BT.tl a;have J:=BT.tl b;have l:=IJ (a:=a) (b:=b);have c:=J4 (a:=a) (b:=b);have k:=IZ (K:=K) (a:=a) (b:=b) (by omega);have e:=Kk (a:=a) (b:=b);have f:=JV (a:=a) (b:=b) (j:=(BT.nd a b).t.length-1) rfl;have o:=AQI (a:=a);have H:=Zd (a:=a);simp only[BT.at];by_cases q:v<(a.n:Int);have G:=Px (x:=a) (v:=v) (by omega) B q;rw[if_pos q];generalize C:(BT.nd a b).t=w at l c f k e;refine qb X4 ?_;simp(disch:=omega) only[AD,e];refine cB k ?_;simp(disch:=omega) only[AD,c,o,H];exact cZ G;rw[if_neg q];by_cases Q:(a.n:Int)<v;have I:=Px (x:=b) (v:=v-a.n-1) (by omega) (by omega) (by omega);rw[if_pos Q];generalize C:(BT.nd a b).t=w at l c f k e;refine qb X4 ?_;simp(disch:=omega) only[AD,e];refine cB k ?_;simp(disch:=omega) only[AD,c,o,H,f];exact cZ I;rw[if_neg Q];generalize C:(BT.nd a b).t=w at l c f k e;refine qb X4 ?_;simp(disch:=omega) only[AD,e];refine cB k ?_;simp(disch:=omega) only[AD,c,o,H]
theorem SP[HA K]:∀{x:BT}{v:Int}{y:BT},x.n<=8->y.n<=8->0<=v->v<x.n->K 207 [.s x.t,.n v,.s y.t] [.s (x.rep v y).t]
 |.lf,v,_,_,_,C,i=>by simp only[BT.n]at i;omega
 |.nd a b,v,y,h,F,C,i=>by have G:=h;have l:=i;simp only[BT.n]at G l;have L:=BT.tl a;have M:=BT.tl b;have o:=IJ (a:=a) (b:=b);have c:=J4 (a:=a) (b:=b);have k:=IZ (K:=K) (a:=a) (b:=b) (by omega);have e:=Kk (a:=a) (b:=b);have f:=JV (a:=a) (b:=b) (j:=(BT.nd a b).t.length-1) rfl;have B:=AQI (a:=a);have H:=Zd (a:=a);simp only[BT.rep];by_cases q:v<(a.n:Int);have I:=SP (x:=a) (v:=v) (y:=y) (by omega) F C q;have N:=RE (x:=a) (v:=v) (y:=y);have T:=BT.tl (a.rep v y);rw[if_pos q];simp only[BT.t];generalize g:(BT.nd a b).t=w at o c f k e;simp only[BT.t]at g;rw[g];refine qb Xm ?_;simp(disch:=try exact dV) only[AD,e];refine cB k ?_;simp(disch:=try exact dV) only[AD,c,B,H,f];refine cW I ?_;simp;rw[if_neg q];by_cases Q:(a.n:Int)<v;have J:=SP (x:=b) (v:=v-a.n-1) (y:=y) (by omega) F (by omega) (by omega);have N:=RE (x:=b) (v:=v-a.n-1) (y:=y);have T:=BT.tl (b.rep (v-a.n-1) y);rw[if_pos Q];simp only[BT.t];generalize g:(BT.nd a b).t=w at o c f k e;simp only[BT.t]at g;rw[g];refine qb Xm ?_;simp(disch:=try exact dV) only[AD,e];refine cB k ?_;simp(disch:=try exact dV) only[AD,c,B,H,f];refine cW J ?_;simp;rw[if_neg Q];generalize g:(BT.nd a b).t=w at o c f k e;refine qb Xm ?_;simp(disch:=try exact dV) only[AD,e];refine cB k ?_;simp(disch:=try exact dV) only[AD,c,B,H,f]
def Ef(y:Option BT):List D:=[.s (y.elim [] BT.t),.b y.isSome]
theorem UZ{a b:BT}:¬(BT.nd a b).t=[46]:=by simp[BT.t]
theorem US[HA K]{x:BT}{v:Int}(h:x.n<=8)(P:-1000000000<=v/\v<=1000000000):K 192 [.s x.t,.n v] (Ef (BB x v)):=by
 refine qw I192 ?_;refine cW (EV h) ?_;refine cB Bt ?_
 cases hi:AR 0 ((x.n:Int)-1) v;have:v<0\/(x.n:Int)<=v:=by have:=JB.1 hi;omega
 refine wW ?_;rw[Zw this]<;>rfl;have I:=A5.1 hi;obtain⟨a,b,H⟩:=NR (x:=x) (v:=v) (by omega) (by omega);have B:=Px (K:=K) (x:=x) (v:=v) h (by omega) (by omega);have q:=QI (x:=x) (v:=v);rw[H]at B q;have e:=q;simp only[BT.n]at e;have Q:=BT.tl a;have R:=BT.tl b;have O:=IJ (a:=a) (b:=b);have o:=J4 (a:=a) (b:=b);have M:=IZ (K:=K) (a:=a) (b:=b) (by omega);have F:=JV (a:=a) (b:=b) (j:=(BT.nd a b).t.length-1) rfl;refine wW ?_;refine cW B ?_;refine cB M ?_
 cases a with
 |lf=>
  have f:(BT.lf.t==[46])=true:=rfl
  simp(disch:=try exact dV) only[AD,o,f]
  rw[Ss (by omega) (by omega) H]<;>rfl
 |nd c a2=>
  have f:=Kk (a:=c) (b:=a2)
  have C:=UZ (a:=c) (b:=a2)
  have k:=e
  simp only[BT.n]at k
  have T:=BT.tl c
  have N:=BT.tl a2
  have J:=IJ (a:=c) (b:=a2)
  have g:=J4 (a:=c) (b:=a2)
  have l:=IZ (K:=K) (a:=c) (b:=a2) (by omega)
  have i:=JV (a:=c) (b:=a2) (j:=(BT.nd c a2).t.length-1) rfl
  have L:=SP (K:=K) (x:=x) (v:=v) (y:=.nd c (.nd a2 b)) h (by simp only[BT.n];omega) (by omega) (by omega)
  rw[ND (by omega) (by omega) H]
  simp(disch:=try exact dV) only[AD,o,f,C]
  refine cB l ?_
  simp(disch:=try exact dV) only[AD,g,i,F]
  have G:(40::(c.t++[40]++a2.t++b.t++[41,41]))=(BT.nd c (.nd a2 b)).t:=by simp[BT.t]
  rw[G]
  exact cZ L
theorem rl_s[HA K]{x:BT}{v:Int}(h:x.n<=8)(P:-1000000000<=v/\v<=1000000000):K 193 [.s x.t,.n v] (Ef (CU x v)):=by
 refine qw I193 ?_;refine cW (EV h) ?_;refine cB Bt ?_
 cases hi:AR 0 ((x.n:Int)-1) v;have:v<0\/(x.n:Int)<=v:=by have:=JB.1 hi;omega
 refine wW ?_;rw[AHY this]<;>rfl;have I:=A5.1 hi;obtain⟨b,a,H⟩:=NR (x:=x) (v:=v) (by omega) (by omega);have B:=Px (K:=K) (x:=x) (v:=v) h (by omega) (by omega);have q:=QI (x:=x) (v:=v);rw[H]at B q;have e:=q;simp only[BT.n]at e;have Q:=BT.tl a;have R:=BT.tl b;have O:=IJ (a:=b) (b:=a);have F:=J4 (a:=b) (b:=a);have M:=IZ (K:=K) (a:=b) (b:=a) (by omega);have i:=JV (a:=b) (b:=a) (j:=(BT.nd b a).t.length-1) rfl;refine wW ?_;refine cW B ?_;refine cB M ?_
 cases a with
 |lf=>
  have f:(BT.lf.t==[46])=true:=rfl
  simp(disch:=try exact dV) only[AD,i,f]
  rw[Wh (by omega) (by omega) H]<;>rfl
 |nd c a2=>
  have f:=Kk (a:=c) (b:=a2)
  have C:=UZ (a:=c) (b:=a2)
  have l:=e
  simp only[BT.n]at l
  have T:=BT.tl c
  have N:=BT.tl a2
  have J:=IJ (a:=c) (b:=a2)
  have g:=J4 (a:=c) (b:=a2)
  have o:=IZ (K:=K) (a:=c) (b:=a2) (by omega)
  have k:=JV (a:=c) (b:=a2) (j:=(BT.nd c a2).t.length-1) rfl
  have L:=SP (K:=K) (x:=x) (v:=v) (y:=.nd (.nd b c) a2) h (by simp only[BT.n];omega) (by omega) (by omega)
  rw[UQ (by omega) (by omega) H]
  simp(disch:=try exact dV) only[AD,i,f,C]
  refine cB o ?_
  simp(disch:=try exact dV) only[AD,F,g,k,i]
  have G:(40::40::(b.t++c.t++[41]++a2.t++[41]))=(BT.nd (.nd b c) a2).t:=by simp[BT.t]
  rw[G]
  exact cZ L
def CK(f:BT->Int->Option BT)(x:BT)(k:Nat):List BT:=(List.range k).filterMap λi:Nat=>f x i
theorem JC{f:BT->Int->Option BT}{x:BT}{k:Nat}:CK f x (k+1)=CK f x k++(f x (k:Nat)).toList:=by simp only[CK,List.range_succ,List.filterMap_append];congr 1
theorem Fj{f:BT->Int->Option BT}{x:BT}{k:Nat}:(CK f x k).length<=k:=by have:=List.length_filterMap_le (λi:Nat=>f x i) (List.range k);simpa[CK]using this
abbrev D3(l:List BT):D:=LS (l.map BT.t)
theorem ANI[HA K][Ds K]{x:BT}(h:x.n<=8):K 201 [.s x.t,.f 200 []] [D3 (CK BB x x.n)]:=by
 refine qw I201 ?_;refine Aj (λi (r:List (List Nat))=>r=(CK BB x i).map BT.t) (λi r=>[.s x.t,.f 200 [],.u,LS r,.n i,.u,.u,.u,.u]) x.n [] rfl rfl (λi r hi P=>?_) (λr P=>?_);have l:=Fj (f:=BB) (x:=x) (k:=i);have b:r.length<=i:=by rw[P,List.length_map];exact l
 refine wW ?_;refine cB (Gn h) ?_;have a:=Ds.rr (K:=K) x (i:Nat) h (by omega) (by omega);refine wW ?_;refine cB a ?_
 cases hy:BB x (i:Nat)with
 |none=>
  simp only[Option.isSome_none,Option.elim_none]
  refine wW ?_
  refine⟨_,?_,rfl⟩
  rw[P,JC,hy]
  simp
 |some y=>
  simp only[Option.isSome_some,Option.elim_some]
  have T:=BT.tl y
  have H:=GK hy
  refine wW ?_
  refine⟨_,?_,rfl⟩
  rw[P,JC,hy]
  simp
 refine wW ?_;refine cW (Gn h) ?_;rw[P]
theorem AhO[HA K][Ds K]{x:BT}(h:x.n<=8):K 201 [.s x.t,.f 202 []] [D3 (CK CU x x.n)]:=by
 refine qw AhY ?_;refine Aj (λi (r:List (List Nat))=>r=(CK CU x i).map BT.t) (λi r=>[.s x.t,.f 202 [],.u,LS r,.n i,.u,.u,.u,.u]) x.n [] rfl rfl (λi r hi P=>?_) (λr P=>?_);have l:=Fj (f:=CU) (x:=x) (k:=i);have b:r.length<=i:=by rw[P,List.length_map];exact l
 refine wW ?_;refine cB (Gn h) ?_;have a:=Ds.rl (K:=K) x (i:Nat) h (by omega) (by omega);refine wW ?_;refine cB a ?_
 cases hy:CU x (i:Nat)with
 |none=>
  simp only[Option.isSome_none,Option.elim_none]
  refine wW ?_
  refine⟨_,?_,rfl⟩
  rw[P,JC,hy]
  simp
 |some y=>
  simp only[Option.isSome_some,Option.elim_some]
  have T:=BT.tl y
  have H:=LK hy
  refine wW ?_
  refine⟨_,?_,rfl⟩
  rw[P,JC,hy]
  simp
 refine wW ?_;refine cW (Gn h) ?_;rw[P]
end Go.Cat
namespace Go.Cat
variable{K:Nat->List D->List D->Prop}
theorem AP5{f:BT->Int->Option BT}{x:BT}{k:Nat}:((CK f x (k+1)).length:Int)=(CK f x k).length+(if(f x (k:Nat)).isSome then 1 else 0):=by
 rw[JC,A4]
 cases f x (k:Nat)<;>simp
theorem cr_i[HA K][Ds K]{x:BT}(h:x.n<=8):K 172 [.s x.t] [.n (CK BB x x.n).length]:=by
 refine qw I172 ?_;refine cB Jk ?_;simp(disch:=omega) only[AD,GF h];refine cW (Gn h) ?_;refine Aj (λi (r:Int)=>r=(CK BB x i).length) (λi r=>[.s x.t,.u,.n r,.u,.u,.u,.n x.n,.n i,.u,.u]) x.n 0 rfl rfl (λi r hi P=>?_) (λr P=>?_);have l:=Fj (f:=BB) (x:=x) (k:=i);have a:=Ds.rr (K:=K) x (i:Nat) h (by omega) (by omega);have H:=AP5 (f:=BB) (x:=x) (k:=i);refine wW ?_;refine cB a ?_
 cases hy:(BB x (i:Nat)).isSome;refine wW ?_;refine⟨_,?_,rfl⟩;rw[P,H,hy];simp;refine wW ?_;refine⟨_,?_,rfl⟩;rw[P,H,hy];simp;refine wW ?_;rw[P]
theorem cr_s[HA K]{x:BT}(h:x.n<=8):K 165 [.s x.t] [.n (CK BB x x.n).length]:=by
 refine qw I165 ?_;refine cB Ez ?_;simp(disch:=omega) only[AD,GF h];refine Aj (λi (r:Int)=>r=(CK BB x i).length) (λi r=>[.s x.t,.u,.n r,.n i,.u,.u,.u,.u]) x.n 0 rfl rfl (λi r hi P=>?_) (λr P=>?_);have l:=Fj (f:=BB) (x:=x) (k:=i);have a:=US (K:=K) (x:=x) (v:=(i:Nat)) h (by omega);have H:=AP5 (f:=BB) (x:=x) (k:=i);refine wW ?_;refine cW (EV h) ?_;rw[Ef]at a;refine cB a ?_
 cases hy:(BB x (i:Nat)).isSome;refine wW ?_;refine⟨_,?_,rfl⟩;rw[P,H,hy];simp;refine wW ?_;refine⟨_,?_,rfl⟩;rw[P,H,hy];simp;refine wW ?_;refine cW (EV h) ?_;rw[P]
def D7(x:BT):List BT:=CK BB x x.n++CK CU x x.n
theorem Ou{x:BT}:(D7 x).length<=2*x.n:=by have h:=Fj (f:=BB) (x:=x) (k:=x.n);have H:=Fj (f:=CU) (x:=x) (k:=x.n);rw[D7,A4];omega
theorem AAL[HA K][Ds K]{x:BT}(h:x.n<=8):K 173 [.s x.t] [D3 (D7 x)]:=by have H:=Fj (f:=BB) (x:=x) (k:=x.n);have a:=Fj (f:=CU) (x:=x) (k:=x.n);refine qw I173 ?_;refine cW (ANI h) ?_;refine cW (AhO h) ?_;rw[D7,D3,List.map_append]
theorem AIN[HA K]{x:BT}(h:x.n<=8):K 166 [.s x.t] [D3 (D7 x)]:=by
 have H:=Fj (f:=BB) (x:=x) (k:=x.n);have e:=Fj (f:=CU) (x:=x) (k:=x.n);refine qw I166 ?_;refine Aj (λi (r:List (List Nat))=>r=(CK BB x i).map BT.t) (λi r=>[.s x.t,.u,LS r,.n i,.u,.u,.u,.u,.u,.u,.u,.u,.u]) x.n [] rfl rfl (λi r hi P=>?_) (λr P=>?_);have l:=Fj (f:=BB) (x:=x) (k:=i);have j:r.length<=i:=by rw[P,List.length_map];exact l
 have a:=US (K:=K) (x:=x) (v:=(i:Nat)) h (by omega);refine wW ?_;refine cW (EV h) ?_;rw[Ef]at a;refine cB a ?_
 cases hy:BB x (i:Nat)with
 |none=>
  simp only[Option.isSome_none,Option.elim_none]
  refine wW ?_
  refine⟨_,?_,rfl⟩
  rw[P,JC,hy]
  simp
 |some y=>
  simp only[Option.isSome_some,Option.elim_some]
  have T:=BT.tl y
  have b:=GK hy
  refine wW ?_
  refine⟨_,?_,rfl⟩
  rw[P,JC,hy]
  simp
 have c:r.length<=x.n:=by rw[P,List.length_map];exact H
 refine wW ?_;refine cW (EV h) ?_;refine Aj (λi (q:List (List Nat))=>q=r++(CK CU x i).map BT.t) (λi q=>[.s x.t,.u,LS q,.u,.u,.u,.n i,.u,.u,.u,.u,.u,.u]) x.n r (by simp[CK]) rfl (λi q hi Q=>?_) (λq Q=>?_);have l:=Fj (f:=CU) (x:=x) (k:=i);have g:q.length<=x.n+i:=by rw[Q,A4,List.length_map];omega
 have a:=rl_s (K:=K) (x:=x) (v:=(i:Nat)) h (by omega);refine wW ?_;refine cW (EV h) ?_;rw[Ef]at a;refine cB a ?_
 cases hy:CU x (i:Nat)with
 |none=>
  simp only[Option.isSome_none,Option.elim_none]
  refine wW ?_
  refine⟨_,?_,rfl⟩
  rw[Q,JC,hy]
  simp
 |some y=>
  simp only[Option.isSome_some,Option.elim_some]
  have T:=BT.tl y
  have b:=LK hy
  refine wW ?_
  refine⟨_,?_,rfl⟩
  rw[Q,JC,hy]
  simp
 refine wW ?_;refine cW (EV h) ?_;rw[Q,P,D7,D3,List.map_append]
def BT.DP:BT->BT
 |.lf=>.lf
 |.nd l r=>.nd r.DP l.DP
theorem Hz:∀{x:BT},x.DP.n=x.n
 |.lf=>rfl
 |.nd l r=>by simp only[BT.DP,BT.n,Hz (x:=l),Hz (x:=r)];omega
theorem Y4[HA K]:∀{x:BT},x.n<=100000->K 195 [x.d] [x.DP.d]
 |.lf,_=>by refine qb AAJ ?_;simp only[BT.d,BT.DP];exact wZ
 |.nd l r,h=>by simp only[BT.n]at h;have k:=Y4 (x:=r) (by omega);have a:=Y4 (x:=l) (by omega);refine qb AAJ ?_;simp only[BT.d,BT.DP];simp(disch:=omega) only[AD,BT.Dc,KD];refine cB k ?_;simp(disch:=omega) only[AD,BT.Dc];refine cB a ?_;simp(disch:=omega) only[AD,BT.Dc,BT.SN]
theorem MV[HA K]{x:BT}(h:x.n<=8):K 168 [.s x.t] [.s x.DP.t,.b true]:=by have H:=Hz (x:=x);refine qw I168 ?_;refine cB (Ly h) ?_;simp(disch:=omega) only[AD,BT.Dc];refine cW (Y4 (by omega)) ?_;exact cZ (K4 (by omega))
theorem KH[HA K]:∀{x:BT},x.n<=8->K 189 [.s x.t] [.s x.DP.t]
 |.lf,_=>by refine qb AA0 ?_;simp only[BT.t,BT.DP];exact wZ
 |.nd a b,h=>by have H:=h;simp only[BT.n]at H;have i:=KH (x:=a) (by omega);have o:=KH (x:=b) (by omega);have C:=BT.tl a;have F:=BT.tl b;have N:=Hz (x:=a);have nb:=Hz (x:=b);have T:=BT.tl a.DP;have q:=BT.tl b.DP;have l:=IJ (a:=a) (b:=b);have f:=J4 (a:=a) (b:=b);have k:=IZ (K:=K) (a:=a) (b:=b) (by omega);have e:=Kk (a:=a) (b:=b);have c:=UZ (a:=a) (b:=b);have g:=JV (a:=a) (b:=b) (j:=(BT.nd a b).t.length-1) rfl;simp only[BT.DP];rw[show(BT.nd b.DP a.DP).t=40::(b.DP.t++(a.DP.t++[41]))from rfl];generalize B:(BT.nd a b).t=w at l f g k e c;refine qb AA0 ?_;simp(disch:=try exact dV) only[AD,e,c];refine cB k ?_;simp(disch:=try exact dV) only[AD,g];refine cB o ?_;simp(disch:=try exact dV) only[AD,f];refine cW i ?_;simp
theorem AT8[HA K]{x:BT}(h:x.n<=8):K 161 [.s x.t] [.s x.DP.t,.b true]:=by refine qw I161 ?_;refine cB Ez ?_;simp(disch:=omega) only[AD,GF h];exact cZ (KH h)
def BT.w:BT->List Int
 |.lf=>[]
 |.nd l r=>l.w++[(r.n:Int)]++r.w
theorem Bu:∀{x:BT},x.w.length=x.n
 |.lf=>rfl
 |.nd l r=>by simp only[BT.w,BT.n,A4,Bu (x:=l),Bu (x:=r),AO,A6];omega
theorem UD[HA K]:∀{x:BT}{o:List Int},x.n<=8->o.length+x.n<=100->K 199 [x.d,LI o] [LI (o++x.w)]
 |.lf,o,_,_=>by refine qb ASB ?_;simp only[BT.d,BT.w,List.append_nil];exact wZ
 |.nd l r,o,h,H=>by simp only[BT.n]at h H;have c:=Bu (x:=l);have k:=UD (x:=l) (o:=o) (by omega) (by omega);have a:=KM (K:=K) r (by omega);have b:=UD (x:=r) (o:=o++l.w++[(r.n:Int)]) (by omega) (by simp only[A4,AO,A6];omega);refine qb ASB ?_;simp only[BT.d,BT.w];simp(disch:=try exact dV) only[AD,BT.Dc,KD];refine cB k ?_;simp(disch:=try exact dV) only[AD,BT.Dc];refine cB a ?_;simp(disch:=try exact dV) only[AD,BT.Dc];refine cW b ?_;simp
theorem Ms[HA K]{x:BT}(h:x.n<=8):K 171 [.s x.t] [LI x.w]:=by have k:=UD (K:=K) (x:=x) (o:=[]) h (by simp only[A6];omega);refine qw I171 ?_;refine cB (Ly h) ?_;simp(disch:=omega) only[AD,BT.Dc];exact cZ k
def J5:BT->Nat
 |.lf=>0
 |.nd _ r=>r.n
theorem DA:∀{x:BT}{v:Nat},v<x.n->AB x.w (v:Nat)=J5 (x.at (v:Nat))
 |.lf,v,h=>by simp[BT.n]at h
 |.nd l r,v,h=>by
  simp only[BT.n]at h;have H:=Bu (x:=l);have a:=Bu (x:=r);simp only[BT.w,BT.at];by_cases q:v<l.n;rw[if_pos (by omega),<-DA q];simp only[AB,BM,Ap];rw[CO,DW (by omega)];rw[if_neg (by omega)];by_cases Q:l.n<v;rw[if_pos (by omega),show((v:Nat):Int)-l.n-1=((v-l.n-1:Nat):Int) by omega,<-DA (x:=r) (v:=v-l.n-1) (by omega)];simp only[AB,BM,Ap];rw[G7 (by simp only[A4,AO,A6];omega)];simp only[A4,AO,A6,H];congr 2;obtain rfl:v=l.n:=by omega
  rw[if_neg (by omega)];simp only[AB,BM,Ap,J5];rw[DW (by simp only[A4,AO,A6];omega),G7 (by omega)];simp[H]
theorem AKA{a b:List Int}(h:a.length=b.length)(c:∀i:Nat,i<a.length->AB a i=AB b i):a=b:=by refine List.ext_getElem h λi H e=>?_;have:=c i H;simpa[AB,H,e]using this
theorem AUK{x:BT}{i:Nat}(h:i<x.n):x.w.take (i+1)=x.w.take i++[AB x.w (i:Nat)]:=by have l:=Bu (x:=x);rw[CP (by omega)];congr 1;simp[AB,show i<x.w.length by omega]
theorem MT[HA K]{x:BT}(h:x.n<=8):K 164 [.s x.t] [LI x.w]:=by
 have F:=Bu (x:=x);refine qw I164 ?_;refine Aj (λi (r:List Int)=>r=x.w.take i) (λi r=>[.s x.t,.u,LI r,.n i,.u,.u,.u]) x.n [] rfl rfl (λi r hi P=>?_) (λr P=>?_);have C:r.length=i:=by rw[P,List.length_take];omega
 obtain⟨a,b,c⟩:=NR (x:=x) (v:=(i:Nat)) (by omega) (by omega);have k:=Px (K:=K) (x:=x) (v:=(i:Nat)) h (by omega) (by omega);have g:=QI (x:=x) (v:=(i:Nat));have H:=DA (x:=x) (v:=i) hi;rw[c]at k g H;simp only[J5]at H;have e:=g;simp only[BT.n]at e;have T:=BT.tl a;have G:=BT.tl b;have l:=IJ (a:=a) (b:=b);have j:=IZ (K:=K) (a:=a) (b:=b) (by omega);have f:((BT.nd a b).t.length:Int)-1-(1+(a.t.length:Int))-1=3*b.n:=by rw[l];omega
 have o:(3*(b.n:Int)).tdiv 3=b.n:=by rw[Int.mul_comm];exact Int.mul_tdiv_cancel _ (by omega)
 have q:(3*(b.n:Int))/3=b.n:=by omega
 generalize B:(BT.nd a b).t=w at l j f;rw[B]at k;refine wW ?_;refine cW (EV h) ?_;refine cW k ?_;refine cB j ?_;simp(disch:=try exact dV) only[AD,f,o,q];refine⟨_,?_,rfl⟩;rw[AUK hi,H,P];refine wW ?_;refine cW (EV h) ?_;rw[P,List.take_of_length_le (by omega)]
def Cy:BT->Int->List Int
 |.lf,d=>[d]
 |.nd l r,d=>Cy l (d+1)++Cy r (d+1)
theorem Pu:∀{x:BT}{d:Int},(Cy x d).length=x.n+1
 |.lf,_=>rfl
 |.nd l r,d=>by simp only[Cy,BT.n,A4,Pu (x:=l),Pu (x:=r)];omega
theorem Ph:∀{x:BT}{d y:Int},y∈Cy x d->d<=y/\y<=d+x.n
 |.lf,d,y,h=>by simp[Cy]at h;simp only[BT.n];omega
 |.nd l r,d,y,h=>by simp only[Cy,Ac]at h;simp only[BT.n];rcases h with h|h;have:=Ph h;omega;have:=Ph h;omega
theorem X9[HA K]:∀{x:BT}{d:Int}{o:List Int},x.n<=8->0<=d->d+x.n<=1000->o.length+x.n<=100->K 209 [x.d,.n d,LI o] [LI (o++Cy x d)]
 |.lf,d,o,_,_,H,a=>by simp only[BT.n]at a H;refine qb ZL ?_;simp only[BT.d,Cy];exact wZ
 |.nd l r,d,o,h,hd,H,a=>by simp only[BT.n]at h a H;have c:=Pu (x:=l) (d:=d+1);have k:=X9 (x:=l) (d:=d+1) (o:=o) (by omega) (by omega) (by omega) (by omega);have b:=X9 (x:=r) (d:=d+1) (o:=o++Cy l (d+1)) (by omega) (by omega) (by omega) (by rw[A4];omega);refine qb ZL ?_;simp only[BT.d,Cy];simp(disch:=try exact dV) only[AD,BT.Dc,KD];refine cB k ?_;simp(disch:=try exact dV) only[AD,BT.Dc];refine cW b ?_;simp
end Go.Cat
