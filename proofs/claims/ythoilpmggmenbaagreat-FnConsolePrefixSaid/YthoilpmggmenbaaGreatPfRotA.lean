/-
 Rotations at the level of texts.
-/
import Derived.Test.YthoilpmggmenbaaGreatPfWrite
set_option linter.unusedSimpArgs false
set_option linter.unusedVariables false
namespace Go.Cat
variable{K:Nat->List D->List D->Prop}
def BT.at:BT->Int->BT
 |.lf,_=>.lf
 |.nd l r,v=>if v<l.n then l.at v else if(l.n:Int)<v then r.at (v-l.n-1)else .nd l r
def BT.rep:BT->Int->BT->BT
 |.lf,_,_=>.lf
 |.nd l r,v,y=>if v<l.n then .nd (l.rep v y) r else if(l.n:Int)<v then .nd l (r.rep (v-l.n-1) y)else y
theorem Nj:∀{x:BT}{v:Int},0<=v->v<x.n->∃a b,x.at v=.nd a b
 |.lf,v,H,h=>by simp only[BT.n]at h;omega
 |.nd l r,v,H,h=>by simp only[BT.n]at h;simp only[BT.at];split;exact Nj H (by omega);split;exact Nj (by omega) (by omega);exact⟨_,_,rfl⟩
theorem P4:∀{x:BT}{v:Int},(x.at v).n<=x.n
 |.lf,_=>Nat.le_refl _
 |.nd l r,v=>by simp only[BT.at];split;have:=P4 (x:=l) (v:=v);simp only[BT.n];omega;split;have:=P4 (x:=r) (v:=v-l.n-1);simp only[BT.n];omega;exact Nat.le_refl _
theorem AQK:∀{x:BT}{v:Int},v<0\/(x.n:Int)<=v->BB x v=none
 |.lf,_,_=>rfl
 |.nd l r,v,h=>by simp only[BT.n]at h;simp only[BB];split;rfl;rw[if_neg (by omega),if_neg (by omega),AQK (by omega)]<;>rfl
theorem AA2:∀{x:BT}{v:Int},v<0\/(x.n:Int)<=v->CW x v=none
 |.lf,_,_=>rfl
 |.nd l r,v,h=>by simp only[BT.n]at h;simp only[CW];split;rfl;rw[if_neg (by omega),if_neg (by omega),AA2 (by omega)]<;>rfl
theorem Qt:∀{x:BT}{v:Int}{c:BT},0<=v->v<x.n->x.at v=.nd .lf c->BB x v=none
 |.lf,_,_,_,_,_=>rfl
 |.nd l r,v,c,H,a,h=>by simp only[BT.n]at a;simp only[BT.at]at h;simp only[BB];rw[if_neg (by omega)];by_cases q:v<(l.n:Int);rw[if_pos q]at h|-;rw[Qt H q h]<;>rfl;rw[if_neg q]at h|-;by_cases Q:(l.n:Int)<v;rw[if_pos Q]at h;rw[if_neg (by omega),Qt (by omega) (by omega) h]<;>rfl;rw[if_neg Q]at h;rw[if_pos (by omega)];injection h with b _;subst b;rfl
theorem OF:∀{x:BT}{v:Int}{a b c:BT},0<=v->v<x.n->x.at v=.nd (.nd a b) c->BB x v=some (x.rep v (.nd a (.nd b c)))
 |.lf,v,_,_,_,e,H,_=>by simp only[BT.n]at H;omega
 |.nd l r,v,a,b,c,e,H,h=>by simp only[BT.n]at H;simp only[BT.at]at h;simp only[BB,BT.rep];rw[if_neg (by omega)];by_cases q:v<(l.n:Int);rw[if_pos q]at h|-;rw[OF e q h,if_pos q]<;>rfl;rw[if_neg q]at h|-;rw[if_neg q];by_cases Q:(l.n:Int)<v;rw[if_pos Q]at h|-;rw[if_neg (by omega),OF (by omega) (by omega) h]<;>rfl;rw[if_neg Q]at h|-;rw[if_pos (by omega)];injection h with f g;subst f g;rfl
theorem WQ:∀{x:BT}{v:Int}{c:BT},0<=v->v<x.n->x.at v=.nd c .lf->CW x v=none
 |.lf,_,_,_,_,_=>rfl
 |.nd l r,v,c,H,a,h=>by simp only[BT.n]at a;simp only[BT.at]at h;simp only[CW];rw[if_neg (by omega)];by_cases q:v<(l.n:Int);rw[if_pos q]at h|-;rw[WQ H q h]<;>rfl;rw[if_neg q]at h|-;by_cases Q:(l.n:Int)<v;rw[if_pos Q]at h;rw[if_neg (by omega),WQ (by omega) (by omega) h]<;>rfl;rw[if_neg Q]at h;rw[if_pos (by omega)];injection h with e b;subst b;rfl
theorem Ye:∀{x:BT}{v:Int}{a b c:BT},0<=v->v<x.n->x.at v=.nd a (.nd b c)->CW x v=some (x.rep v (.nd (.nd a b) c))
 |.lf,v,_,_,_,e,H,_=>by simp only[BT.n]at H;omega
 |.nd l r,v,a,b,c,e,H,h=>by simp only[BT.n]at H;simp only[BT.at]at h;simp only[CW,BT.rep];rw[if_neg (by omega)];by_cases q:v<(l.n:Int);rw[if_pos q]at h|-;rw[Ye e q h,if_pos q]<;>rfl;rw[if_neg q]at h|-;rw[if_neg q];by_cases Q:(l.n:Int)<v;rw[if_pos Q]at h|-;rw[if_neg (by omega),Ye (by omega) (by omega) h]<;>rfl;rw[if_neg Q]at h|-;rw[if_pos (by omega)];injection h with f g;subst f g;rfl
theorem AL1{a:BT}:((a.t.length:Int)-1).tdiv 3=a.n:=by rw[BT.tl,Int.tdiv_eq_ediv_of_nonneg (by omega)];omega
theorem ALO{a:BT}:((a.t.length:Int)-1)/3=a.n:=by rw[BT.tl];omega
theorem T6:∀{x:BT}{v:Int}{y:BT},(x.rep v y).n<=x.n+y.n
 |.lf,_,_=>by simp[BT.rep,BT.n]
 |.nd l r,v,y=>by simp only[BT.rep];split;have:=T6 (x:=l) (v:=v) (y:=y);simp only[BT.n];omega;split;have:=T6 (x:=r) (v:=v-l.n-1) (y:=y);simp only[BT.n];omega;omega
theorem OX[HA K]:∀{x:BT}{v:Int},x.n<=8->0<=v->v<x.n->K 191 [.s x.t,.n v] [.s (x.at v).t]
 |.lf,v,_,B,g=>by simp only[BT.n]at g;omega
 |.nd a b,v,h,B,g=>by have F:=h;have i:=g;simp only[BT.n]at F i;have T:=BT.tl a;have J:=BT.tl b;have l:=Hx (a:=a) (b:=b);have c:=J3 (a:=a) (b:=b);have k:=JD (K:=K) (a:=a) (b:=b) (by omega);have e:=Lc (a:=a) (b:=b);have f:=J9 (a:=a) (b:=b) (j:=(BT.nd a b).t.length-1) rfl;have o:=AL1 (a:=a);have H:=ALO (a:=a);simp only[BT.at];by_cases q:v<(a.n:Int);have G:=OX (x:=a) (v:=v) (by omega) B q;rw[if_pos q];generalize C:(BT.nd a b).t=w at l c f k e;refine qb XV ?_;simp(disch:=omega) only[AD,e];refine cB k ?_;simp(disch:=omega) only[AD,c,o,H];exact cZ G;rw[if_neg q];by_cases Q:(a.n:Int)<v;have I:=OX (x:=b) (v:=v-a.n-1) (by omega) (by omega) (by omega);rw[if_pos Q];generalize C:(BT.nd a b).t=w at l c f k e;refine qb XV ?_;simp(disch:=omega) only[AD,e];refine cB k ?_;simp(disch:=omega) only[AD,c,o,H,f];exact cZ I;rw[if_neg Q];generalize C:(BT.nd a b).t=w at l c f k e;refine qb XV ?_;simp(disch:=omega) only[AD,e];refine cB k ?_;simp(disch:=omega) only[AD,c,o,H]
theorem TQ[HA K]:∀{x:BT}{v:Int}{y:BT},x.n<=8->y.n<=8->0<=v->v<x.n->K 207 [.s x.t,.n v,.s y.t] [.s (x.rep v y).t]
 |.lf,v,_,_,_,C,i=>by simp only[BT.n]at i;omega
 |.nd a b,v,y,h,F,C,i=>by have G:=h;have l:=i;simp only[BT.n]at G l;have L:=BT.tl a;have M:=BT.tl b;have o:=Hx (a:=a) (b:=b);have c:=J3 (a:=a) (b:=b);have k:=JD (K:=K) (a:=a) (b:=b) (by omega);have e:=Lc (a:=a) (b:=b);have f:=J9 (a:=a) (b:=b) (j:=(BT.nd a b).t.length-1) rfl;have B:=AL1 (a:=a);have H:=ALO (a:=a);simp only[BT.rep];by_cases q:v<(a.n:Int);have I:=TQ (x:=a) (v:=v) (y:=y) (by omega) F C q;have N:=T6 (x:=a) (v:=v) (y:=y);have T:=BT.tl (a.rep v y);rw[if_pos q];simp only[BT.t];generalize g:(BT.nd a b).t=w at o c f k e;simp only[BT.t]at g;rw[g];refine qb XH ?_;simp(disch:=try exact dV) only[AD,e];refine cB k ?_;simp(disch:=try exact dV) only[AD,c,B,H,f];refine cW I ?_;simp;rw[if_neg q];by_cases Q:(a.n:Int)<v;have J:=TQ (x:=b) (v:=v-a.n-1) (y:=y) (by omega) F (by omega) (by omega);have N:=T6 (x:=b) (v:=v-a.n-1) (y:=y);have T:=BT.tl (b.rep (v-a.n-1) y);rw[if_pos Q];simp only[BT.t];generalize g:(BT.nd a b).t=w at o c f k e;simp only[BT.t]at g;rw[g];refine qb XH ?_;simp(disch:=try exact dV) only[AD,e];refine cB k ?_;simp(disch:=try exact dV) only[AD,c,B,H,f];refine cW J ?_;simp;rw[if_neg Q];generalize g:(BT.nd a b).t=w at o c f k e;refine qb XH ?_;simp(disch:=try exact dV) only[AD,e];refine cB k ?_;simp(disch:=try exact dV) only[AD,c,B,H,f]
def Em(y:Option BT):List D:=[.s (y.elim [] BT.t),.b y.isSome]
theorem XY{a b:BT}:¬(BT.nd a b).t=[46]:=by simp[BT.t]
theorem VO[HA K]{x:BT}{v:Int}(h:x.n<=8)(P:-1000000000<=v/\v<=1000000000):K 192 [.s x.t,.n v] (Em (BB x v)):=by
 refine qw I192 ?_;refine cW (Ee h) ?_;refine cB Bt ?_
 cases hi:AR 0 ((x.n:Int)-1) v;have:v<0\/(x.n:Int)<=v:=by have:=JS.1 hi;omega
 refine wW ?_;rw[AQK this]<;>rfl;have I:=A7.1 hi;obtain⟨a,b,H⟩:=Nj (x:=x) (v:=v) (by omega) (by omega);have B:=OX (K:=K) (x:=x) (v:=v) h (by omega) (by omega);have q:=P4 (x:=x) (v:=v);rw[H]at B q;have e:=q;simp only[BT.n]at e;have Q:=BT.tl a;have R:=BT.tl b;have O:=Hx (a:=a) (b:=b);have o:=J3 (a:=a) (b:=b);have M:=JD (K:=K) (a:=a) (b:=b) (by omega);have F:=J9 (a:=a) (b:=b) (j:=(BT.nd a b).t.length-1) rfl;refine wW ?_;refine cW B ?_;refine cB M ?_
 cases a with
 |lf=>
  have f:(BT.lf.t==[46])=true:=rfl
  simp(disch:=try exact dV) only[AD,o,f]
  rw[Qt (by omega) (by omega) H]<;>rfl
 |nd c a2=>
  have f:=Lc (a:=c) (b:=a2)
  have C:=XY (a:=c) (b:=a2)
  have k:=e
  simp only[BT.n]at k
  have T:=BT.tl c
  have N:=BT.tl a2
  have J:=Hx (a:=c) (b:=a2)
  have g:=J3 (a:=c) (b:=a2)
  have l:=JD (K:=K) (a:=c) (b:=a2) (by omega)
  have i:=J9 (a:=c) (b:=a2) (j:=(BT.nd c a2).t.length-1) rfl
  have L:=TQ (K:=K) (x:=x) (v:=v) (y:=.nd c (.nd a2 b)) h (by simp only[BT.n];omega) (by omega) (by omega)
  rw[OF (by omega) (by omega) H]
  simp(disch:=try exact dV) only[AD,o,f,C]
  refine cB l ?_
  simp(disch:=try exact dV) only[AD,g,i,F]
  have G:(40::(c.t++[40]++a2.t++b.t++[41,41]))=(BT.nd c (.nd a2 b)).t:=by simp[BT.t]
  rw[G]
  exact cZ L
theorem rl_s[HA K]{x:BT}{v:Int}(h:x.n<=8)(P:-1000000000<=v/\v<=1000000000):K 193 [.s x.t,.n v] (Em (CW x v)):=by
 refine qw I193 ?_;refine cW (Ee h) ?_;refine cB Bt ?_
 cases hi:AR 0 ((x.n:Int)-1) v;have:v<0\/(x.n:Int)<=v:=by have:=JS.1 hi;omega
 refine wW ?_;rw[AA2 this]<;>rfl;have I:=A7.1 hi;obtain⟨b,a,H⟩:=Nj (x:=x) (v:=v) (by omega) (by omega);have B:=OX (K:=K) (x:=x) (v:=v) h (by omega) (by omega);have q:=P4 (x:=x) (v:=v);rw[H]at B q;have e:=q;simp only[BT.n]at e;have Q:=BT.tl a;have R:=BT.tl b;have O:=Hx (a:=b) (b:=a);have F:=J3 (a:=b) (b:=a);have M:=JD (K:=K) (a:=b) (b:=a) (by omega);have i:=J9 (a:=b) (b:=a) (j:=(BT.nd b a).t.length-1) rfl;refine wW ?_;refine cW B ?_;refine cB M ?_
 cases a with
 |lf=>
  have f:(BT.lf.t==[46])=true:=rfl
  simp(disch:=try exact dV) only[AD,i,f]
  rw[WQ (by omega) (by omega) H]<;>rfl
 |nd c a2=>
  have f:=Lc (a:=c) (b:=a2)
  have C:=XY (a:=c) (b:=a2)
  have l:=e
  simp only[BT.n]at l
  have T:=BT.tl c
  have N:=BT.tl a2
  have J:=Hx (a:=c) (b:=a2)
  have g:=J3 (a:=c) (b:=a2)
  have o:=JD (K:=K) (a:=c) (b:=a2) (by omega)
  have k:=J9 (a:=c) (b:=a2) (j:=(BT.nd c a2).t.length-1) rfl
  have L:=TQ (K:=K) (x:=x) (v:=v) (y:=.nd (.nd b c) a2) h (by simp only[BT.n];omega) (by omega) (by omega)
  rw[Ye (by omega) (by omega) H]
  simp(disch:=try exact dV) only[AD,i,f,C]
  refine cB o ?_
  simp(disch:=try exact dV) only[AD,F,g,k,i]
  have G:(40::40::(b.t++c.t++[41]++a2.t++[41]))=(BT.nd (.nd b c) a2).t:=by simp[BT.t]
  rw[G]
  exact cZ L
def CO(f:BT->Int->Option BT)(x:BT)(k:Nat):List BT:=(List.range k).filterMap λi:Nat=>f x i
theorem Jp{f:BT->Int->Option BT}{x:BT}{k:Nat}:CO f x (k+1)=CO f x k++(f x (k:Nat)).toList:=by simp only[CO,List.range_succ,List.filterMap_append];congr 1
theorem Fl{f:BT->Int->Option BT}{x:BT}{k:Nat}:(CO f x k).length<=k:=by have:=List.length_filterMap_le (λi:Nat=>f x i) (List.range k);simpa[CO]using this
abbrev D9(l:List BT):D:=LS (l.map BT.t)
theorem AFZ[HA K][Da K]{x:BT}(h:x.n<=8):K 201 [.s x.t,.f 200 []] [D9 (CO BB x x.n)]:=by
 refine qw I201 ?_;refine Ah (λi (r:List (List Nat))=>r=(CO BB x i).map BT.t) (λi r=>[.s x.t,.f 200 [],.u,LS r,.n i,.u,.u,.u,.u]) x.n [] rfl rfl (λi r hi P=>?_) (λr P=>?_);have l:=Fl (f:=BB) (x:=x) (k:=i);have b:r.length<=i:=by rw[P,List.length_map];exact l
 refine wW ?_;refine cB (HE h) ?_;have a:=Da.rr (K:=K) x (i:Nat) h (by omega) (by omega);refine wW ?_;refine cB a ?_
 cases hy:BB x (i:Nat)with
 |none=>
  simp only[Option.isSome_none,Option.elim_none]
  refine wW ?_
  refine⟨_,?_,rfl⟩
  rw[P,Jp,hy]
  simp
 |some y=>
  simp only[Option.isSome_some,Option.elim_some]
  have T:=BT.tl y
  have H:=Fx hy
  refine wW ?_
  refine⟨_,?_,rfl⟩
  rw[P,Jp,hy]
  simp
 refine wW ?_;refine cW (HE h) ?_;rw[P]
theorem AcE[HA K][Da K]{x:BT}(h:x.n<=8):K 201 [.s x.t,.f 202 []] [D9 (CO CW x x.n)]:=by
 refine qw AdN ?_;refine Ah (λi (r:List (List Nat))=>r=(CO CW x i).map BT.t) (λi r=>[.s x.t,.f 202 [],.u,LS r,.n i,.u,.u,.u,.u]) x.n [] rfl rfl (λi r hi P=>?_) (λr P=>?_);have l:=Fl (f:=CW) (x:=x) (k:=i);have b:r.length<=i:=by rw[P,List.length_map];exact l
 refine wW ?_;refine cB (HE h) ?_;have a:=Da.rl (K:=K) x (i:Nat) h (by omega) (by omega);refine wW ?_;refine cB a ?_
 cases hy:CW x (i:Nat)with
 |none=>
  simp only[Option.isSome_none,Option.elim_none]
  refine wW ?_
  refine⟨_,?_,rfl⟩
  rw[P,Jp,hy]
  simp
 |some y=>
  simp only[Option.isSome_some,Option.elim_some]
  have T:=BT.tl y
  have H:=L9 hy
  refine wW ?_
  refine⟨_,?_,rfl⟩
  rw[P,Jp,hy]
  simp
 refine wW ?_;refine cW (HE h) ?_;rw[P]
end Go.Cat
namespace Go.Cat
variable{K:Nat->List D->List D->Prop}
theorem ARG{f:BT->Int->Option BT}{x:BT}{k:Nat}:((CO f x (k+1)).length:Int)=(CO f x k).length+(if(f x (k:Nat)).isSome then 1 else 0):=by
 rw[Jp,AW]
 cases f x (k:Nat)<;>simp
theorem cr_i[HA K][Da K]{x:BT}(h:x.n<=8):K 172 [.s x.t] [.n (CO BB x x.n).length]:=by
 refine qw I172 ?_;refine cB Ka ?_;simp(disch:=omega) only[AD,GN h];refine cW (HE h) ?_;refine Ah (λi (r:Int)=>r=(CO BB x i).length) (λi r=>[.s x.t,.u,.n r,.u,.u,.u,.n x.n,.n i,.u,.u]) x.n 0 rfl rfl (λi r hi P=>?_) (λr P=>?_);have l:=Fl (f:=BB) (x:=x) (k:=i);have a:=Da.rr (K:=K) x (i:Nat) h (by omega) (by omega);have H:=ARG (f:=BB) (x:=x) (k:=i);refine wW ?_;refine cB a ?_
 cases hy:(BB x (i:Nat)).isSome;refine wW ?_;refine⟨_,?_,rfl⟩;rw[P,H,hy];simp;refine wW ?_;refine⟨_,?_,rfl⟩;rw[P,H,hy];simp;refine wW ?_;rw[P]
theorem cr_s[HA K]{x:BT}(h:x.n<=8):K 165 [.s x.t] [.n (CO BB x x.n).length]:=by
 refine qw I165 ?_;refine cB Ev ?_;simp(disch:=omega) only[AD,GN h];refine Ah (λi (r:Int)=>r=(CO BB x i).length) (λi r=>[.s x.t,.u,.n r,.n i,.u,.u,.u,.u]) x.n 0 rfl rfl (λi r hi P=>?_) (λr P=>?_);have l:=Fl (f:=BB) (x:=x) (k:=i);have a:=VO (K:=K) (x:=x) (v:=(i:Nat)) h (by omega);have H:=ARG (f:=BB) (x:=x) (k:=i);refine wW ?_;refine cW (Ee h) ?_;rw[Em]at a;refine cB a ?_
 cases hy:(BB x (i:Nat)).isSome;refine wW ?_;refine⟨_,?_,rfl⟩;rw[P,H,hy];simp;refine wW ?_;refine⟨_,?_,rfl⟩;rw[P,H,hy];simp;refine wW ?_;refine cW (Ee h) ?_;rw[P]
def Df(x:BT):List BT:=CO BB x x.n++CO CW x x.n
theorem PZ{x:BT}:(Df x).length<=2*x.n:=by have h:=Fl (f:=BB) (x:=x) (k:=x.n);have H:=Fl (f:=CW) (x:=x) (k:=x.n);rw[Df,AW];omega
theorem AH2[HA K][Da K]{x:BT}(h:x.n<=8):K 173 [.s x.t] [D9 (Df x)]:=by have H:=Fl (f:=BB) (x:=x) (k:=x.n);have a:=Fl (f:=CW) (x:=x) (k:=x.n);refine qw I173 ?_;refine cW (AFZ h) ?_;refine cW (AcE h) ?_;rw[Df,D9,List.map_append]
theorem Zk[HA K]{x:BT}(h:x.n<=8):K 166 [.s x.t] [D9 (Df x)]:=by
 have H:=Fl (f:=BB) (x:=x) (k:=x.n);have e:=Fl (f:=CW) (x:=x) (k:=x.n);refine qw I166 ?_;refine Ah (λi (r:List (List Nat))=>r=(CO BB x i).map BT.t) (λi r=>[.s x.t,.u,LS r,.n i,.u,.u,.u,.u,.u,.u,.u,.u,.u]) x.n [] rfl rfl (λi r hi P=>?_) (λr P=>?_);have l:=Fl (f:=BB) (x:=x) (k:=i);have j:r.length<=i:=by rw[P,List.length_map];exact l
 have a:=VO (K:=K) (x:=x) (v:=(i:Nat)) h (by omega);refine wW ?_;refine cW (Ee h) ?_;rw[Em]at a;refine cB a ?_
 cases hy:BB x (i:Nat)with
 |none=>
  simp only[Option.isSome_none,Option.elim_none]
  refine wW ?_
  refine⟨_,?_,rfl⟩
  rw[P,Jp,hy]
  simp
 |some y=>
  simp only[Option.isSome_some,Option.elim_some]
  have T:=BT.tl y
  have b:=Fx hy
  refine wW ?_
  refine⟨_,?_,rfl⟩
  rw[P,Jp,hy]
  simp
 have c:r.length<=x.n:=by rw[P,List.length_map];exact H
 refine wW ?_;refine cW (Ee h) ?_;refine Ah (λi (q:List (List Nat))=>q=r++(CO CW x i).map BT.t) (λi q=>[.s x.t,.u,LS q,.u,.u,.u,.n i,.u,.u,.u,.u,.u,.u]) x.n r (by simp[CO]) rfl (λi q hi Q=>?_) (λq Q=>?_);have l:=Fl (f:=CW) (x:=x) (k:=i);have g:q.length<=x.n+i:=by rw[Q,AW,List.length_map];omega
 have a:=rl_s (K:=K) (x:=x) (v:=(i:Nat)) h (by omega);refine wW ?_;refine cW (Ee h) ?_;rw[Em]at a;refine cB a ?_
 cases hy:CW x (i:Nat)with
 |none=>
  simp only[Option.isSome_none,Option.elim_none]
  refine wW ?_
  refine⟨_,?_,rfl⟩
  rw[Q,Jp,hy]
  simp
 |some y=>
  simp only[Option.isSome_some,Option.elim_some]
  have T:=BT.tl y
  have b:=L9 hy
  refine wW ?_
  refine⟨_,?_,rfl⟩
  rw[Q,Jp,hy]
  simp
 refine wW ?_;refine cW (Ee h) ?_;rw[Q,P,Df,D9,List.map_append]
def BT.DS:BT->BT
 |.lf=>.lf
 |.nd l r=>.nd r.DS l.DS
theorem Hg:∀{x:BT},x.DS.n=x.n
 |.lf=>rfl
 |.nd l r=>by simp only[BT.DS,BT.n,Hg (x:=l),Hg (x:=r)];omega
theorem WR[HA K]:∀{x:BT},x.n<=100000->K 195 [x.d] [x.DS.d]
 |.lf,_=>by refine qb AB2 ?_;simp only[BT.d,BT.DS];exact wZ
 |.nd l r,h=>by simp only[BT.n]at h;have k:=WR (x:=r) (by omega);have a:=WR (x:=l) (by omega);refine qb AB2 ?_;simp only[BT.d,BT.DS];simp(disch:=omega) only[AD,BT.Dg,Ks];refine cB k ?_;simp(disch:=omega) only[AD,BT.Dg];refine cB a ?_;simp(disch:=omega) only[AD,BT.Dg,BT.RI]
theorem N4[HA K]{x:BT}(h:x.n<=8):K 168 [.s x.t] [.s x.DS.t,.b true]:=by have H:=Hg (x:=x);refine qw I168 ?_;refine cB (Kz h) ?_;simp(disch:=omega) only[AD,BT.Dg];refine cW (WR (by omega)) ?_;exact cZ (KZ (by omega))
theorem K1[HA K]:∀{x:BT},x.n<=8->K 189 [.s x.t] [.s x.DS.t]
 |.lf,_=>by refine qb ARZ ?_;simp only[BT.t,BT.DS];exact wZ
 |.nd a b,h=>by have H:=h;simp only[BT.n]at H;have i:=K1 (x:=a) (by omega);have o:=K1 (x:=b) (by omega);have C:=BT.tl a;have F:=BT.tl b;have N:=Hg (x:=a);have nb:=Hg (x:=b);have T:=BT.tl a.DS;have q:=BT.tl b.DS;have l:=Hx (a:=a) (b:=b);have f:=J3 (a:=a) (b:=b);have k:=JD (K:=K) (a:=a) (b:=b) (by omega);have e:=Lc (a:=a) (b:=b);have c:=XY (a:=a) (b:=b);have g:=J9 (a:=a) (b:=b) (j:=(BT.nd a b).t.length-1) rfl;simp only[BT.DS];rw[show(BT.nd b.DS a.DS).t=40::(b.DS.t++(a.DS.t++[41]))from rfl];generalize B:(BT.nd a b).t=w at l f g k e c;refine qb ARZ ?_;simp(disch:=try exact dV) only[AD,e,c];refine cB k ?_;simp(disch:=try exact dV) only[AD,g];refine cB o ?_;simp(disch:=try exact dV) only[AD,f];refine cW i ?_;simp
theorem AiE[HA K]{x:BT}(h:x.n<=8):K 161 [.s x.t] [.s x.DS.t,.b true]:=by refine qw I161 ?_;refine cB Ev ?_;simp(disch:=omega) only[AD,GN h];exact cZ (K1 h)
def BT.w:BT->List Int
 |.lf=>[]
 |.nd l r=>l.w++[(r.n:Int)]++r.w
theorem Bv:∀{x:BT},x.w.length=x.n
 |.lf=>rfl
 |.nd l r=>by simp only[BT.w,BT.n,AW,Bv (x:=l),Bv (x:=r),AP,A5];omega
theorem Ui[HA K]:∀{x:BT}{o:List Int},x.n<=8->o.length+x.n<=100->K 199 [x.d,LI o] [LI (o++x.w)]
 |.lf,o,_,_=>by refine qb AQR ?_;simp only[BT.d,BT.w,List.append_nil];exact wZ
 |.nd l r,o,h,H=>by simp only[BT.n]at h H;have c:=Bv (x:=l);have k:=Ui (x:=l) (o:=o) (by omega) (by omega);have a:=KH (K:=K) r (by omega);have b:=Ui (x:=r) (o:=o++l.w++[(r.n:Int)]) (by omega) (by simp only[AW,AP,A5];omega);refine qb AQR ?_;simp only[BT.d,BT.w];simp(disch:=try exact dV) only[AD,BT.Dg,Ks];refine cB k ?_;simp(disch:=try exact dV) only[AD,BT.Dg];refine cB a ?_;simp(disch:=try exact dV) only[AD,BT.Dg];refine cW b ?_;simp
theorem Mn[HA K]{x:BT}(h:x.n<=8):K 171 [.s x.t] [LI x.w]:=by have k:=Ui (K:=K) (x:=x) (o:=[]) h (by simp only[A5];omega);refine qw I171 ?_;refine cB (Kz h) ?_;simp(disch:=omega) only[AD,BT.Dg];exact cZ k
def J2:BT->Nat
 |.lf=>0
 |.nd _ r=>r.n
theorem DF:∀{x:BT}{v:Nat},v<x.n->AB x.w (v:Nat)=J2 (x.at (v:Nat))
 |.lf,v,h=>by simp[BT.n]at h
 |.nd l r,v,h=>by
  simp only[BT.n]at h;have H:=Bv (x:=l);have a:=Bv (x:=r);simp only[BT.w,BT.at];by_cases q:v<l.n;rw[if_pos (by omega),<-DF q];simp only[AB,BM,Ap];rw[CT,D4 (by omega)];rw[if_neg (by omega)];by_cases Q:l.n<v;rw[if_pos (by omega),show((v:Nat):Int)-l.n-1=((v-l.n-1:Nat):Int) by omega,<-DF (x:=r) (v:=v-l.n-1) (by omega)];simp only[AB,BM,Ap];rw[GX (by simp only[AW,AP,A5];omega)];simp only[AW,AP,A5,H];congr 2;obtain rfl:v=l.n:=by omega
  rw[if_neg (by omega)];simp only[AB,BM,Ap,J2];rw[D4 (by simp only[AW,AP,A5];omega),GX (by omega)];simp[H]
theorem AK6{a b:List Int}(h:a.length=b.length)(c:∀i:Nat,i<a.length->AB a i=AB b i):a=b:=by refine List.ext_getElem h λi H e=>?_;have:=c i H;simpa[AB,H,e]using this
theorem AgL{x:BT}{i:Nat}(h:i<x.n):x.w.take (i+1)=x.w.take i++[AB x.w (i:Nat)]:=by have l:=Bv (x:=x);rw[CQ (by omega)];congr 1;simp[AB,show i<x.w.length by omega]
theorem Nh[HA K]{x:BT}(h:x.n<=8):K 164 [.s x.t] [LI x.w]:=by
 have F:=Bv (x:=x);refine qw I164 ?_;refine Ah (λi (r:List Int)=>r=x.w.take i) (λi r=>[.s x.t,.u,LI r,.n i,.u,.u,.u]) x.n [] rfl rfl (λi r hi P=>?_) (λr P=>?_);have C:r.length=i:=by rw[P,List.length_take];omega
 obtain⟨a,b,c⟩:=Nj (x:=x) (v:=(i:Nat)) (by omega) (by omega);have k:=OX (K:=K) (x:=x) (v:=(i:Nat)) h (by omega) (by omega);have g:=P4 (x:=x) (v:=(i:Nat));have H:=DF (x:=x) (v:=i) hi;rw[c]at k g H;simp only[J2]at H;have e:=g;simp only[BT.n]at e;have T:=BT.tl a;have G:=BT.tl b;have l:=Hx (a:=a) (b:=b);have j:=JD (K:=K) (a:=a) (b:=b) (by omega);have f:((BT.nd a b).t.length:Int)-1-(1+(a.t.length:Int))-1=3*b.n:=by rw[l];omega
 have o:(3*(b.n:Int)).tdiv 3=b.n:=by rw[Int.mul_comm];exact Int.mul_tdiv_cancel _ (by omega)
 have q:(3*(b.n:Int))/3=b.n:=by omega
 generalize B:(BT.nd a b).t=w at l j f;rw[B]at k;refine wW ?_;refine cW (Ee h) ?_;refine cW k ?_;refine cB j ?_;simp(disch:=try exact dV) only[AD,f,o,q];refine⟨_,?_,rfl⟩;rw[AgL hi,H,P];refine wW ?_;refine cW (Ee h) ?_;rw[P,List.take_of_length_le (by omega)]
def DA:BT->Int->List Int
 |.lf,d=>[d]
 |.nd l r,d=>DA l (d+1)++DA r (d+1)
theorem PK:∀{x:BT}{d:Int},(DA x d).length=x.n+1
 |.lf,_=>rfl
 |.nd l r,d=>by simp only[DA,BT.n,AW,PK (x:=l),PK (x:=r)];omega
theorem QH:∀{x:BT}{d y:Int},y∈DA x d->d<=y/\y<=d+x.n
 |.lf,d,y,h=>by simp[DA]at h;simp only[BT.n];omega
 |.nd l r,d,y,h=>by simp only[DA,A9]at h;simp only[BT.n];rcases h with h|h;have:=QH h;omega;have:=QH h;omega
theorem YK[HA K]:∀{x:BT}{d:Int}{o:List Int},x.n<=8->0<=d->d+x.n<=1000->o.length+x.n<=100->K 209 [x.d,.n d,LI o] [LI (o++DA x d)]
 |.lf,d,o,_,_,H,a=>by simp only[BT.n]at a H;refine qb Z3 ?_;simp only[BT.d,DA];exact wZ
 |.nd l r,d,o,h,hd,H,a=>by simp only[BT.n]at h a H;have c:=PK (x:=l) (d:=d+1);have k:=YK (x:=l) (d:=d+1) (o:=o) (by omega) (by omega) (by omega) (by omega);have b:=YK (x:=r) (d:=d+1) (o:=o++DA l (d+1)) (by omega) (by omega) (by omega) (by rw[AW];omega);refine qb Z3 ?_;simp only[BT.d,DA];simp(disch:=try exact dV) only[AD,BT.Dg,Ks];refine cB k ?_;simp(disch:=try exact dV) only[AD,BT.Dg];refine cW b ?_;simp
end Go.Cat
