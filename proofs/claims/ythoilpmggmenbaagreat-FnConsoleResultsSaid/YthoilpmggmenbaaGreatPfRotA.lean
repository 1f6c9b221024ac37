/-
 Rotations at the level of texts.
-/
import Derived.Test.YthoilpmggmenbaaGreatPfWrite
set_option linter.unusedSimpArgs false
set_option linter.unusedVariables false
namespace Go.Cat
variable{K:Nat->List D->List D->Prop}
def BT.at:BT->Int->BT
 |.lf,_=>.lf
 |.nd l r,v=>if v<l.n then l.at v else if(l.n:Int)<v then r.at (v-l.n-1)else .nd l r
def BT.rep:BT->Int->BT->BT
 |.lf,_,_=>.lf
 |.nd l r,v,y=>if v<l.n then .nd (l.rep v y) r else if(l.n:Int)<v then .nd l (r.rep (v-l.n-1) y)else y
theorem LZ:∀{x:BT}{v:Int},0<=v->v<x.n->∃a b,x.at v=.nd a b
 |.lf,v,H,h=>by simp only[BT.n]at h;omega
 |.nd l r,v,H,h=>by simp only[BT.n]at h;simp only[BT.at];split;exact LZ H (by omega);split;exact LZ (by omega) (by omega);exact⟨_,_,rfl⟩
theorem Nj:∀{x:BT}{v:Int},(x.at v).n<=x.n
 |.lf,_=>Nat.le_refl _
 |.nd l r,v=>by simp only[BT.at];split;have:=Nj (x:=l) (v:=v);simp only[BT.n];omega;split;have:=Nj (x:=r) (v:=v-l.n-1);simp only[BT.n];omega;exact Nat.le_refl _
theorem Zl:∀{x:BT}{v:Int},v<0\/(x.n:Int)<=v->Av x v=none
 |.lf,_,_=>rfl
 |.nd l r,v,h=>by simp only[BT.n]at h;simp only[Av];split;rfl;rw[if_neg (by omega),if_neg (by omega),Zl (by omega)]<;>rfl
theorem Wh:∀{x:BT}{v:Int},v<0\/(x.n:Int)<=v->CC x v=none
 |.lf,_,_=>rfl
 |.nd l r,v,h=>by simp only[BT.n]at h;simp only[CC];split;rfl;rw[if_neg (by omega),if_neg (by omega),Wh (by omega)]<;>rfl
theorem Oa:∀{x:BT}{v:Int}{c:BT},0<=v->v<x.n->x.at v=.nd .lf c->Av x v=none
 |.lf,_,_,_,_,_=>rfl
 |.nd l r,v,c,H,a,h=>by simp only[BT.n]at a;simp only[BT.at]at h;simp only[Av];rw[if_neg (by omega)];by_cases q:v<(l.n:Int);rw[if_pos q]at h|-;rw[Oa H q h]<;>rfl;rw[if_neg q]at h|-;by_cases Q:(l.n:Int)<v;rw[if_pos Q]at h;rw[if_neg (by omega),Oa (by omega) (by omega) h]<;>rfl;rw[if_neg Q]at h;rw[if_pos (by omega)];injection h with b _;subst b;rfl
theorem L6:∀{x:BT}{v:Int}{a b c:BT},0<=v->v<x.n->x.at v=.nd (.nd a b) c->Av x v=some (x.rep v (.nd a (.nd b c)))
 |.lf,v,_,_,_,e,H,_=>by simp only[BT.n]at H;omega
 |.nd l r,v,a,b,c,e,H,h=>by simp only[BT.n]at H;simp only[BT.at]at h;simp only[Av,BT.rep];rw[if_neg (by omega)];by_cases q:v<(l.n:Int);rw[if_pos q]at h|-;rw[L6 e q h,if_pos q]<;>rfl;rw[if_neg q]at h|-;rw[if_neg q];by_cases Q:(l.n:Int)<v;rw[if_pos Q]at h|-;rw[if_neg (by omega),L6 (by omega) (by omega) h]<;>rfl;rw[if_neg Q]at h|-;rw[if_pos (by omega)];injection h with f g;subst f g;rfl
theorem T7:∀{x:BT}{v:Int}{c:BT},0<=v->v<x.n->x.at v=.nd c .lf->CC x v=none
 |.lf,_,_,_,_,_=>rfl
 |.nd l r,v,c,H,a,h=>by simp only[BT.n]at a;simp only[BT.at]at h;simp only[CC];rw[if_neg (by omega)];by_cases q:v<(l.n:Int);rw[if_pos q]at h|-;rw[T7 H q h]<;>rfl;rw[if_neg q]at h|-;by_cases Q:(l.n:Int)<v;rw[if_pos Q]at h;rw[if_neg (by omega),T7 (by omega) (by omega) h]<;>rfl;rw[if_neg Q]at h;rw[if_pos (by omega)];injection h with e b;subst b;rfl
theorem U2:∀{x:BT}{v:Int}{a b c:BT},0<=v->v<x.n->x.at v=.nd a (.nd b c)->CC x v=some (x.rep v (.nd (.nd a b) c))
 |.lf,v,_,_,_,e,H,_=>by simp only[BT.n]at H;omega
 |.nd l r,v,a,b,c,e,H,h=>by simp only[BT.n]at H;simp only[BT.at]at h;simp only[CC,BT.rep];rw[if_neg (by omega)];by_cases q:v<(l.n:Int);rw[if_pos q]at h|-;rw[U2 e q h,if_pos q]<;>rfl;rw[if_neg q]at h|-;rw[if_neg q];by_cases Q:(l.n:Int)<v;rw[if_pos Q]at h|-;rw[if_neg (by omega),U2 (by omega) (by omega) h]<;>rfl;rw[if_neg Q]at h|-;rw[if_pos (by omega)];injection h with f g;subst f g;rfl
theorem XX{a:BT}:((a.t.length:Int)-1).tdiv 3=a.n:=by rw[BT.tl,Int.tdiv_eq_ediv_of_nonneg (by omega)];omega
theorem ABP{a:BT}:((a.t.length:Int)-1)/3=a.n:=by rw[BT.tl];omega
theorem Om:∀{x:BT}{v:Int}{y:BT},(x.rep v y).n<=x.n+y.n
 |.lf,_,_=>by simp[BT.rep,BT.n]
 |.nd l r,v,y=>by simp only[BT.rep];split;have:=Om (x:=l) (v:=v) (y:=y);simp only[BT.n];omega;split;have:=Om (x:=r) (v:=v-l.n-1) (y:=y);simp only[BT.n];omega;omega
theorem Np[HA K]:∀{x:BT}{v:Int},x.n<=8->0<=v->v<x.n->K 191 [.s x.t,.n v] [.s (x.at v).t]
 |.lf,v,_,B,g=>by simp only[BT.n]at g;omega
 |.nd a b,v,h,B,g=>by have F:=h;have i:=g;simp only[BT.n]at F i;have T:=BT.tl a;have J:=BT.tl b;have l:=Ga (a:=a) (b:=b);have c:=I0 (a:=a) (b:=b);have k:=HQ (K:=K) (a:=a) (b:=b) (by omega);have e:=Jc (a:=a) (b:=b);have f:=II (a:=a) (b:=b) (j:=(BT.nd a b).t.length-1) rfl;have o:=XX (a:=a);have H:=ABP (a:=a);simp only[BT.at];by_cases q:v<(a.n:Int);have G:=Np (x:=a) (v:=v) (by omega) B q;rw[if_pos q];generalize C:(BT.nd a b).t=w at l c f k e;refine qb TU ?_;simp(disch:=omega) only[AD,e];refine cB k ?_;simp(disch:=omega) only[AD,c,o,H];exact cZ G;rw[if_neg q];by_cases Q:(a.n:Int)<v;have I:=Np (x:=b) (v:=v-a.n-1) (by omega) (by omega) (by omega);rw[if_pos Q];generalize C:(BT.nd a b).t=w at l c f k e;refine qb TU ?_;simp(disch:=omega) only[AD,e];refine cB k ?_;simp(disch:=omega) only[AD,c,o,H,f];exact cZ I;rw[if_neg Q];generalize C:(BT.nd a b).t=w at l c f k e;refine qb TU ?_;simp(disch:=omega) only[AD,e];refine cB k ?_;simp(disch:=omega) only[AD,c,o,H]
theorem O8[HA K]:∀{x:BT}{v:Int}{y:BT},x.n<=8->y.n<=8->0<=v->v<x.n->K 207 [.s x.t,.n v,.s y.t] [.s (x.rep v y).t]
 |.lf,v,_,_,_,C,i=>by simp only[BT.n]at i;omega
 |.nd a b,v,y,h,F,C,i=>by have G:=h;have l:=i;simp only[BT.n]at G l;have L:=BT.tl a;have M:=BT.tl b;have o:=Ga (a:=a) (b:=b);have c:=I0 (a:=a) (b:=b);have k:=HQ (K:=K) (a:=a) (b:=b) (by omega);have e:=Jc (a:=a) (b:=b);have f:=II (a:=a) (b:=b) (j:=(BT.nd a b).t.length-1) rfl;have B:=XX (a:=a);have H:=ABP (a:=a);simp only[BT.rep];by_cases q:v<(a.n:Int);have I:=O8 (x:=a) (v:=v) (y:=y) (by omega) F C q;have N:=Om (x:=a) (v:=v) (y:=y);have T:=BT.tl (a.rep v y);rw[if_pos q];simp only[BT.t];generalize g:(BT.nd a b).t=w at o c f k e;simp only[BT.t]at g;rw[g];refine qb WS ?_;simp(disch:=try exact dV) only[AD,e];refine cB k ?_;simp(disch:=try exact dV) only[AD,c,B,H,f];refine cW I ?_;simp;rw[if_neg q];by_cases Q:(a.n:Int)<v;have J:=O8 (x:=b) (v:=v-a.n-1) (y:=y) (by omega) F (by omega) (by omega);have N:=Om (x:=b) (v:=v-a.n-1) (y:=y);have T:=BT.tl (b.rep (v-a.n-1) y);rw[if_pos Q];simp only[BT.t];generalize g:(BT.nd a b).t=w at o c f k e;simp only[BT.t]at g;rw[g];refine qb WS ?_;simp(disch:=try exact dV) only[AD,e];refine cB k ?_;simp(disch:=try exact dV) only[AD,c,B,H,f];refine cW J ?_;simp;rw[if_neg Q];generalize g:(BT.nd a b).t=w at o c f k e;refine qb WS ?_;simp(disch:=try exact dV) only[AD,e];refine cB k ?_;simp(disch:=try exact dV) only[AD,c,B,H,f]
def ER(y:Option BT):List D:=[.s (y.elim [] BT.t),.b y.isSome]
theorem US{a b:BT}:¬(BT.nd a b).t=[46]:=by simp[BT.t]
theorem T3[HA K]{x:BT}{v:Int}(h:x.n<=8)(P:-1000000000<=v/\v<=1000000000):K 192 [.s x.t,.n v] (ER (Av x v)):=by
 refine qw I192 ?_;refine cW (EL h) ?_;refine cB Cl ?_
 cases hi:A4 0 ((x.n:Int)-1) v;have:v<0\/(x.n:Int)<=v:=by have:=I3.1 hi;omega
 refine wW ?_;rw[Zl this]<;>rfl;have I:=Af.1 hi;obtain⟨a,b,H⟩:=LZ (x:=x) (v:=v) (by omega) (by omega);have B:=Np (K:=K) (x:=x) (v:=v) h (by omega) (by omega);have q:=Nj (x:=x) (v:=v);rw[H]at B q;have e:=q;simp only[BT.n]at e;have Q:=BT.tl a;have R:=BT.tl b;have O:=Ga (a:=a) (b:=b);have o:=I0 (a:=a) (b:=b);have M:=HQ (K:=K) (a:=a) (b:=b) (by omega);have F:=II (a:=a) (b:=b) (j:=(BT.nd a b).t.length-1) rfl;refine wW ?_;refine cW B ?_;refine cB M ?_
 cases a with
 |lf=>
  have f:(BT.lf.t==[46])=true:=rfl
  simp(disch:=try exact dV) only[AD,o,f]
  rw[Oa (by omega) (by omega) H]<;>rfl
 |nd c a2=>
  have f:=Jc (a:=c) (b:=a2)
  have C:=US (a:=c) (b:=a2)
  have k:=e
  simp only[BT.n]at k
  have T:=BT.tl c
  have N:=BT.tl a2
  have J:=Ga (a:=c) (b:=a2)
  have g:=I0 (a:=c) (b:=a2)
  have l:=HQ (K:=K) (a:=c) (b:=a2) (by omega)
  have i:=II (a:=c) (b:=a2) (j:=(BT.nd c a2).t.length-1) rfl
  have L:=O8 (K:=K) (x:=x) (v:=v) (y:=.nd c (.nd a2 b)) h (by simp only[BT.n];omega) (by omega) (by omega)
  rw[L6 (by omega) (by omega) H]
  simp(disch:=try exact dV) only[AD,o,f,C]
  refine cB l ?_
  simp(disch:=try exact dV) only[AD,g,i,F]
  have G:(40::(c.t++[40]++a2.t++b.t++[41,41]))=(BT.nd c (.nd a2 b)).t:=by simp[BT.t]
  rw[G]
  exact cZ L
theorem rl_s[HA K]{x:BT}{v:Int}(h:x.n<=8)(P:-1000000000<=v/\v<=1000000000):K 193 [.s x.t,.n v] (ER (CC x v)):=by
 refine qw I193 ?_;refine cW (EL h) ?_;refine cB Cl ?_
 cases hi:A4 0 ((x.n:Int)-1) v;have:v<0\/(x.n:Int)<=v:=by have:=I3.1 hi;omega
 refine wW ?_;rw[Wh this]<;>rfl;have I:=Af.1 hi;obtain⟨b,a,H⟩:=LZ (x:=x) (v:=v) (by omega) (by omega);have B:=Np (K:=K) (x:=x) (v:=v) h (by omega) (by omega);have q:=Nj (x:=x) (v:=v);rw[H]at B q;have e:=q;simp only[BT.n]at e;have Q:=BT.tl a;have R:=BT.tl b;have O:=Ga (a:=b) (b:=a);have F:=I0 (a:=b) (b:=a);have M:=HQ (K:=K) (a:=b) (b:=a) (by omega);have i:=II (a:=b) (b:=a) (j:=(BT.nd b a).t.length-1) rfl;refine wW ?_;refine cW B ?_;refine cB M ?_
 cases a with
 |lf=>
  have f:(BT.lf.t==[46])=true:=rfl
  simp(disch:=try exact dV) only[AD,i,f]
  rw[T7 (by omega) (by omega) H]<;>rfl
 |nd c a2=>
  have f:=Jc (a:=c) (b:=a2)
  have C:=US (a:=c) (b:=a2)
  have l:=e
  simp only[BT.n]at l
  have T:=BT.tl c
  have N:=BT.tl a2
  have J:=Ga (a:=c) (b:=a2)
  have g:=I0 (a:=c) (b:=a2)
  have o:=HQ (K:=K) (a:=c) (b:=a2) (by omega)
  have k:=II (a:=c) (b:=a2) (j:=(BT.nd c a2).t.length-1) rfl
  have L:=O8 (K:=K) (x:=x) (v:=v) (y:=.nd (.nd b c) a2) h (by simp only[BT.n];omega) (by omega) (by omega)
  rw[U2 (by omega) (by omega) H]
  simp(disch:=try exact dV) only[AD,i,f,C]
  refine cB o ?_
  simp(disch:=try exact dV) only[AD,F,g,k,i]
  have G:(40::40::(b.t++c.t++[41]++a2.t++[41]))=(BT.nd (.nd b c) a2).t:=by simp[BT.t]
  rw[G]
  exact cZ L
def Bt(f:BT->Int->Option BT)(x:BT)(k:Nat):List BT:=(List.range k).filterMap λi:Nat=>f x i
theorem IN{f:BT->Int->Option BT}{x:BT}{k:Nat}:Bt f x (k+1)=Bt f x k++(f x (k:Nat)).toList:=by simp only[Bt,List.range_succ,List.filterMap_append];congr 1
theorem FD{f:BT->Int->Option BT}{x:BT}{k:Nat}:(Bt f x k).length<=k:=by have:=List.length_filterMap_le (λi:Nat=>f x i) (List.range k);simpa[Bt]using this
abbrev DN(l:List BT):D:=LS (l.map BT.t)
theorem ACP[HA K][E3 K]{x:BT}(h:x.n<=8):K 201 [.s x.t,.f 200 []] [DN (Bt Av x x.n)]:=by
 refine qw I201 ?_;refine BE (λi (r:List (List Nat))=>r=(Bt Av x i).map BT.t) (λi r=>[.s x.t,.f 200 [],.u,LS r,.n i,.u,.u,.u,.u]) x.n [] rfl rfl (λi r hi P=>?_) (λr P=>?_);have l:=FD (f:=Av) (x:=x) (k:=i);have b:r.length<=i:=by rw[P,List.length_map];exact l
 refine wW ?_;refine cB (Fu h) ?_;have a:=E3.rr (K:=K) x (i:Nat) h (by omega) (by omega);refine wW ?_;refine cB a ?_
 cases hy:Av x (i:Nat)with
 |none=>
  simp only[Option.isSome_none,Option.elim_none]
  refine wW ?_
  refine⟨_,?_,rfl⟩
  rw[P,IN,hy]
  simp
 |some y=>
  simp only[Option.isSome_some,Option.elim_some]
  have T:=BT.tl y
  have H:=FU hy
  refine wW ?_
  refine⟨_,?_,rfl⟩
  rw[P,IN,hy]
  simp
 refine wW ?_;refine cW (Fu h) ?_;rw[P]
theorem AOP[HA K][E3 K]{x:BT}(h:x.n<=8):K 201 [.s x.t,.f 202 []] [DN (Bt CC x x.n)]:=by
 refine qw AWZ ?_;refine BE (λi (r:List (List Nat))=>r=(Bt CC x i).map BT.t) (λi r=>[.s x.t,.f 202 [],.u,LS r,.n i,.u,.u,.u,.u]) x.n [] rfl rfl (λi r hi P=>?_) (λr P=>?_);have l:=FD (f:=CC) (x:=x) (k:=i);have b:r.length<=i:=by rw[P,List.length_map];exact l
 refine wW ?_;refine cB (Fu h) ?_;have a:=E3.rl (K:=K) x (i:Nat) h (by omega) (by omega);refine wW ?_;refine cB a ?_
 cases hy:CC x (i:Nat)with
 |none=>
  simp only[Option.isSome_none,Option.elim_none]
  refine wW ?_
  refine⟨_,?_,rfl⟩
  rw[P,IN,hy]
  simp
 |some y=>
  simp only[Option.isSome_some,Option.elim_some]
  have T:=BT.tl y
  have H:=J9 hy
  refine wW ?_
  refine⟨_,?_,rfl⟩
  rw[P,IN,hy]
  simp
 refine wW ?_;refine cW (Fu h) ?_;rw[P]
end Go.Cat
namespace Go.Cat
variable{K:Nat->List D->List D->Prop}
theorem ADK{f:BT->Int->Option BT}{x:BT}{k:Nat}:((Bt f x (k+1)).length:Int)=(Bt f x k).length+(if(f x (k:Nat)).isSome then 1 else 0):=by
 rw[IN,AZ]
 cases f x (k:Nat)<;>simp
theorem cr_i[HA K][E3 K]{x:BT}(h:x.n<=8):K 172 [.s x.t] [.n (Bt Av x x.n).length]:=by
 refine qw I172 ?_;refine cB Hx ?_;simp(disch:=omega) only[AD,FO h];refine cW (Fu h) ?_;refine BE (λi (r:Int)=>r=(Bt Av x i).length) (λi r=>[.s x.t,.u,.n r,.u,.u,.u,.n x.n,.n i,.u,.u]) x.n 0 rfl rfl (λi r hi P=>?_) (λr P=>?_);have l:=FD (f:=Av) (x:=x) (k:=i);have a:=E3.rr (K:=K) x (i:Nat) h (by omega) (by omega);have H:=ADK (f:=Av) (x:=x) (k:=i);refine wW ?_;refine cB a ?_
 cases hy:(Av x (i:Nat)).isSome;refine wW ?_;refine⟨_,?_,rfl⟩;rw[P,H,hy];simp;refine wW ?_;refine⟨_,?_,rfl⟩;rw[P,H,hy];simp;refine wW ?_;rw[P]
theorem cr_s[HA K]{x:BT}(h:x.n<=8):K 165 [.s x.t] [.n (Bt Av x x.n).length]:=by
 refine qw I165 ?_;refine cB Fo ?_;simp(disch:=omega) only[AD,FO h];refine BE (λi (r:Int)=>r=(Bt Av x i).length) (λi r=>[.s x.t,.u,.n r,.n i,.u,.u,.u,.u]) x.n 0 rfl rfl (λi r hi P=>?_) (λr P=>?_);have l:=FD (f:=Av) (x:=x) (k:=i);have a:=T3 (K:=K) (x:=x) (v:=(i:Nat)) h (by omega);have H:=ADK (f:=Av) (x:=x) (k:=i);refine wW ?_;refine cW (EL h) ?_;rw[ER]at a;refine cB a ?_
 cases hy:(Av x (i:Nat)).isSome;refine wW ?_;refine⟨_,?_,rfl⟩;rw[P,H,hy];simp;refine wW ?_;refine⟨_,?_,rfl⟩;rw[P,H,hy];simp;refine wW ?_;refine cW (EL h) ?_;rw[P]
def DQ(x:BT):List BT:=Bt Av x x.n++Bt CC x x.n
theorem MX{x:BT}:(DQ x).length<=2*x.n:=by have h:=FD (f:=Av) (x:=x) (k:=x.n);have H:=FD (f:=CC) (x:=x) (k:=x.n);rw[DQ,AZ];omega
theorem ACS[HA K][E3 K]{x:BT}(h:x.n<=8):K 173 [.s x.t] [DN (DQ x)]:=by have H:=FD (f:=Av) (x:=x) (k:=x.n);have a:=FD (f:=CC) (x:=x) (k:=x.n);refine qw I173 ?_;refine cW (ACP h) ?_;refine cW (AOP h) ?_;rw[DQ,DN,List.map_append]
theorem ANR[HA K]{x:BT}(h:x.n<=8):K 166 [.s x.t] [DN (DQ x)]:=by
 have H:=FD (f:=Av) (x:=x) (k:=x.n);have e:=FD (f:=CC) (x:=x) (k:=x.n);refine qw I166 ?_;refine BE (λi (r:List (List Nat))=>r=(Bt Av x i).map BT.t) (λi r=>[.s x.t,.u,LS r,.n i,.u,.u,.u,.u,.u,.u,.u,.u,.u]) x.n [] rfl rfl (λi r hi P=>?_) (λr P=>?_);have l:=FD (f:=Av) (x:=x) (k:=i);have j:r.length<=i:=by rw[P,List.length_map];exact l
 have a:=T3 (K:=K) (x:=x) (v:=(i:Nat)) h (by omega);refine wW ?_;refine cW (EL h) ?_;rw[ER]at a;refine cB a ?_
 cases hy:Av x (i:Nat)with
 |none=>
  simp only[Option.isSome_none,Option.elim_none]
  refine wW ?_
  refine⟨_,?_,rfl⟩
  rw[P,IN,hy]
  simp
 |some y=>
  simp only[Option.isSome_some,Option.elim_some]
  have T:=BT.tl y
  have b:=FU hy
  refine wW ?_
  refine⟨_,?_,rfl⟩
  rw[P,IN,hy]
  simp
 have c:r.length<=x.n:=by rw[P,List.length_map];exact H
 refine wW ?_;refine cW (EL h) ?_;refine BE (λi (q:List (List Nat))=>q=r++(Bt CC x i).map BT.t) (λi q=>[.s x.t,.u,LS q,.u,.u,.u,.n i,.u,.u,.u,.u,.u,.u]) x.n r (by simp[Bt]) rfl (λi q hi Q=>?_) (λq Q=>?_);have l:=FD (f:=CC) (x:=x) (k:=i);have g:q.length<=x.n+i:=by rw[Q,AZ,List.length_map];omega
 have a:=rl_s (K:=K) (x:=x) (v:=(i:Nat)) h (by omega);refine wW ?_;refine cW (EL h) ?_;rw[ER]at a;refine cB a ?_
 cases hy:CC x (i:Nat)with
 |none=>
  simp only[Option.isSome_none,Option.elim_none]
  refine wW ?_
  refine⟨_,?_,rfl⟩
  rw[Q,IN,hy]
  simp
 |some y=>
  simp only[Option.isSome_some,Option.elim_some]
  have T:=BT.tl y
  have b:=J9 hy
  refine wW ?_
  refine⟨_,?_,rfl⟩
  rw[Q,IN,hy]
  simp
 refine wW ?_;refine cW (EL h) ?_;rw[Q,P,DQ,DN,List.map_append]
def BT.DB:BT->BT
 |.lf=>.lf
 |.nd l r=>.nd r.DB l.DB
theorem Gh:∀{x:BT},x.DB.n=x.n
 |.lf=>rfl
 |.nd l r=>by simp only[BT.DB,BT.n,Gh (x:=l),Gh (x:=r)];omega
theorem Vn[HA K]:∀{x:BT},x.n<=100000->K 195 [x.d] [x.DB.d]
 |.lf,_=>by refine qb AKN ?_;simp only[BT.d,BT.DB];exact wZ
 |.nd l r,h=>by simp only[BT.n]at h;have k:=Vn (x:=r) (by omega);have a:=Vn (x:=l) (by omega);refine qb AKN ?_;simp only[BT.d,BT.DB];simp(disch:=omega) only[AD,BT.DL,I4];refine cB k ?_;simp(disch:=omega) only[AD,BT.DL];refine cB a ?_;simp(disch:=omega) only[AD,BT.DL,BT.P6]
theorem MA[HA K]{x:BT}(h:x.n<=8):K 168 [.s x.t] [.s x.DB.t,.b true]:=by have H:=Gh (x:=x);refine qw I168 ?_;refine cB (Jl h) ?_;simp(disch:=omega) only[AD,BT.DL];refine cW (Vn (by omega)) ?_;exact cZ (I9 (by omega))
theorem Iv[HA K]:∀{x:BT},x.n<=8->K 189 [.s x.t] [.s x.DB.t]
 |.lf,_=>by refine qb AM5 ?_;simp only[BT.t,BT.DB];exact wZ
 |.nd a b,h=>by have H:=h;simp only[BT.n]at H;have i:=Iv (x:=a) (by omega);have o:=Iv (x:=b) (by omega);have C:=BT.tl a;have F:=BT.tl b;have N:=Gh (x:=a);have nb:=Gh (x:=b);have T:=BT.tl a.DB;have q:=BT.tl b.DB;have l:=Ga (a:=a) (b:=b);have f:=I0 (a:=a) (b:=b);have k:=HQ (K:=K) (a:=a) (b:=b) (by omega);have e:=Jc (a:=a) (b:=b);have c:=US (a:=a) (b:=b);have g:=II (a:=a) (b:=b) (j:=(BT.nd a b).t.length-1) rfl;simp only[BT.DB];rw[show(BT.nd b.DB a.DB).t=40::(b.DB.t++(a.DB.t++[41]))from rfl];generalize B:(BT.nd a b).t=w at l f g k e c;refine qb AM5 ?_;simp(disch:=try exact dV) only[AD,e,c];refine cB k ?_;simp(disch:=try exact dV) only[AD,g];refine cB o ?_;simp(disch:=try exact dV) only[AD,f];refine cW i ?_;simp
theorem AUJ[HA K]{x:BT}(h:x.n<=8):K 161 [.s x.t] [.s x.DB.t,.b true]:=by refine qw I161 ?_;refine cB Fo ?_;simp(disch:=omega) only[AD,FO h];exact cZ (Iv h)
def BT.w:BT->List Int
 |.lf=>[]
 |.nd l r=>l.w++[(r.n:Int)]++r.w
theorem Be:∀{x:BT},x.w.length=x.n
 |.lf=>rfl
 |.nd l r=>by simp only[BT.w,BT.n,AZ,Be (x:=l),Be (x:=r),AO,Aa];omega
theorem Su[HA K]:∀{x:BT}{o:List Int},x.n<=8->o.length+x.n<=100->K 199 [x.d,LI o] [LI (o++x.w)]
 |.lf,o,_,_=>by refine qb YU ?_;simp only[BT.d,BT.w,List.append_nil];exact wZ
 |.nd l r,o,h,H=>by simp only[BT.n]at h H;have c:=Be (x:=l);have k:=Su (x:=l) (o:=o) (by omega) (by omega);have a:=JZ (K:=K) r (by omega);have b:=Su (x:=r) (o:=o++l.w++[(r.n:Int)]) (by omega) (by simp only[AZ,AO,Aa];omega);refine qb YU ?_;simp only[BT.d,BT.w];simp(disch:=try exact dV) only[AD,BT.DL,I4];refine cB k ?_;simp(disch:=try exact dV) only[AD,BT.DL];refine cB a ?_;simp(disch:=try exact dV) only[AD,BT.DL];refine cW b ?_;simp
theorem Ke[HA K]{x:BT}(h:x.n<=8):K 171 [.s x.t] [LI x.w]:=by have k:=Su (K:=K) (x:=x) (o:=[]) h (by simp only[Aa];omega);refine qw I171 ?_;refine cB (Jl h) ?_;simp(disch:=omega) only[AD,BT.DL];exact cZ k
def Hn:BT->Nat
 |.lf=>0
 |.nd _ r=>r.n
theorem Cp:∀{x:BT}{v:Nat},v<x.n->AB x.w (v:Nat)=Hn (x.at (v:Nat))
 |.lf,v,h=>by simp[BT.n]at h
 |.nd l r,v,h=>by
  simp only[BT.n]at h;have H:=Be (x:=l);have a:=Be (x:=r);simp only[BT.w,BT.at];by_cases q:v<l.n;rw[if_pos (by omega),<-Cp q];simp only[AB,BM,Ap];rw[CE,DP (by omega)];rw[if_neg (by omega)];by_cases Q:l.n<v;rw[if_pos (by omega),show((v:Nat):Int)-l.n-1=((v-l.n-1:Nat):Int) by omega,<-Cp (x:=r) (v:=v-l.n-1) (by omega)];simp only[AB,BM,Ap];rw[GK (by simp only[AZ,AO,Aa];omega)];simp only[AZ,AO,Aa,H];congr 2;obtain rfl:v=l.n:=by omega
  rw[if_neg (by omega)];simp only[AB,BM,Ap,Hn];rw[DP (by simp only[AZ,AO,Aa];omega),GK (by omega)];simp[H]
theorem AIR{a b:List Int}(h:a.length=b.length)(c:∀i:Nat,i<a.length->AB a i=AB b i):a=b:=by refine List.ext_getElem h λi H e=>?_;have:=c i H;simpa[AB,H,e]using this
theorem AXS{x:BT}{i:Nat}(h:i<x.n):x.w.take (i+1)=x.w.take i++[AB x.w (i:Nat)]:=by have l:=Be (x:=x);rw[CO (by omega)];congr 1;simp[AB,show i<x.w.length by omega]
theorem Kl[HA K]{x:BT}(h:x.n<=8):K 164 [.s x.t] [LI x.w]:=by
 have F:=Be (x:=x);refine qw I164 ?_;refine BE (λi (r:List Int)=>r=x.w.take i) (λi r=>[.s x.t,.u,LI r,.n i,.u,.u,.u]) x.n [] rfl rfl (λi r hi P=>?_) (λr P=>?_);have C:r.length=i:=by rw[P,List.length_take];omega
 obtain⟨a,b,c⟩:=LZ (x:=x) (v:=(i:Nat)) (by omega) (by omega);have k:=Np (K:=K) (x:=x) (v:=(i:Nat)) h (by omega) (by omega);have g:=Nj (x:=x) (v:=(i:Nat));have H:=Cp (x:=x) (v:=i) hi;rw[c]at k g H;simp only[Hn]at H;have e:=g;simp only[BT.n]at e;have T:=BT.tl a;have G:=BT.tl b;have l:=Ga (a:=a) (b:=b);have j:=HQ (K:=K) (a:=a) (b:=b) (by omega);have f:((BT.nd a b).t.length:Int)-1-(1+(a.t.length:Int))-1=3*b.n:=by rw[l];omega
 have o:(3*(b.n:Int)).tdiv 3=b.n:=by rw[Int.mul_comm];exact Int.mul_tdiv_cancel _ (by omega)
 have q:(3*(b.n:Int))/3=b.n:=by omega
 generalize B:(BT.nd a b).t=w at l j f;rw[B]at k;refine wW ?_;refine cW (EL h) ?_;refine cW k ?_;refine cB j ?_;simp(disch:=try exact dV) only[AD,f,o,q];refine⟨_,?_,rfl⟩;rw[AXS hi,H,P];refine wW ?_;refine cW (EL h) ?_;rw[P,List.take_of_length_le (by omega)]
def Cg:BT->Int->List Int
 |.lf,d=>[d]
 |.nd l r,d=>Cg l (d+1)++Cg r (d+1)
theorem NC:∀{x:BT}{d:Int},(Cg x d).length=x.n+1
 |.lf,_=>rfl
 |.nd l r,d=>by simp only[Cg,BT.n,AZ,NC (x:=l),NC (x:=r)];omega
theorem Na:∀{x:BT}{d y:Int},y∈Cg x d->d<=y/\y<=d+x.n
 |.lf,d,y,h=>by simp[Cg]at h;simp only[BT.n];omega
 |.nd l r,d,y,h=>by simp only[Cg,Ac]at h;simp only[BT.n];rcases h with h|h;have:=Na h;omega;have:=Na h;omega
theorem Sd[HA K]:∀{x:BT}{d:Int}{o:List Int},x.n<=8->0<=d->d+x.n<=1000->o.length+x.n<=100->K 209 [x.d,.n d,LI o] [LI (o++Cg x d)]
 |.lf,d,o,_,_,H,a=>by simp only[BT.n]at a H;refine qb XU ?_;simp only[BT.d,Cg];exact wZ
 |.nd l r,d,o,h,hd,H,a=>by simp only[BT.n]at h a H;have c:=NC (x:=l) (d:=d+1);have k:=Sd (x:=l) (d:=d+1) (o:=o) (by omega) (by omega) (by omega) (by omega);have b:=Sd (x:=r) (d:=d+1) (o:=o++Cg l (d+1)) (by omega) (by omega) (by omega) (by rw[AZ];omega);refine qb XU ?_;simp only[BT.d,Cg];simp(disch:=try exact dV) only[AD,BT.DL,I4];refine cB k ?_;simp(disch:=try exact dV) only[AD,BT.DL];refine cW b ?_;simp
end Go.Cat
