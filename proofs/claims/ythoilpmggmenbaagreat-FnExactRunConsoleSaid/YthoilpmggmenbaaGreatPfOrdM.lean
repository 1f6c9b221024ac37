/-
 Weights and rotations to the right.
-/
import Derived.Test.YthoilpmggmenbaaGreatPfRotC
set_option linter.unusedSimpArgs false
set_option linter.unusedVariables false
namespace Go.Cat
theorem Gv:∀{x:BT}{i:Nat},i<x.n->(i:Int)+AB x.w (i:Nat)<x.n/\0<=AB x.w (i:Nat)
 |.lf,i,h=>by simp[BT.n]at h
 |.nd l r,i,h=>by have H:=h;simp only[BT.n]at H;rw[DA h];simp only[BT.at,BT.n];by_cases q:i<l.n;have:=Gv (x:=l) q;rw[DA q]at this;rw[if_pos (by omega)];omega;rw[if_neg (by omega)];by_cases Q:l.n<i;have:=Gv (x:=r) (i:=i-l.n-1) (by omega);rw[DA (by omega)]at this;rw[if_pos (by omega),show((i:Nat):Int)-l.n-1=((i-l.n-1:Nat):Int) by omega];omega;rw[if_neg (by omega)];simp only[J5];omega
theorem TV:∀{x:BT}{i k:Nat},k<x.n->i<k->(k:Int)<=i+AB x.w (i:Nat)->(k:Int)+AB x.w (k:Nat)<=i+AB x.w (i:Nat)
 |.lf,i,k,h,_,_=>by simp[BT.n]at h
 |.nd l r,i,k,h,b,H=>by
  have c:=h;simp only[BT.n]at c;have hi:i<(BT.nd l r).n:=by omega
  rw[DA hi]at H;rw[DA h,DA hi];simp only[BT.at]at H|-;by_cases q:i<l.n;rw[if_pos (show((i:Nat):Int)<l.n by omega)]at H|-;have e:=Gv (x:=l) q;rw[DA q]at e;have a:k<l.n:=by omega
  rw[if_pos (show((k:Nat):Int)<l.n by omega)];have:=TV (x:=l) a b (by rw[DA q];exact H);rw[DA q,DA a]at this;exact this;rw[if_neg (show ¬((i:Nat):Int)<l.n by omega)]at H|-;rw[if_neg (show ¬((k:Nat):Int)<l.n by omega),if_pos (show(l.n:Int)<(k:Nat) by omega)];have W:=Gv (x:=r) (i:=k-l.n-1) (by omega);rw[DA (by omega)]at W;rw[show((k:Nat):Int)-l.n-1=((k-l.n-1:Nat):Int) by omega];by_cases Q:l.n<i;rw[if_pos (show(l.n:Int)<(i:Nat) by omega),show((i:Nat):Int)-l.n-1=((i-l.n-1:Nat):Int) by omega]at H|-;have:=TV (x:=r) (i:=i-l.n-1) (k:=k-l.n-1) (by omega) (by omega) (by rw[DA (by omega)];omega);rw[DA (by omega),DA (by omega)]at this;omega;rw[if_neg (show ¬(l.n:Int)<(i:Nat) by omega)]at H|-;rw[show J5 (BT.nd l r)=r.n from rfl]at H|-;omega
theorem left_at:∀{x:BT}{i v:Nat},v<x.n->i<v->(i:Int)+AB x.w (i:Nat)+1=v->∃a b c,x.at (v:Nat)=.nd (.nd a b) c/\b.n+1<=v/\v<=i+b.n+1
 |.lf,i,v,h,_,_=>by simp[BT.n]at h
 |.nd l r,i,v,h,e,hi=>by
  have j:=h;simp only[BT.n]at j;have H:i<(BT.nd l r).n:=by omega
  rw[DA H]at hi;simp only[BT.at]at hi|-;by_cases q:i<l.n;rw[if_pos (show((i:Nat):Int)<l.n by omega)]at hi;have o:=Gv (x:=l) q;rw[DA q]at o;by_cases Q:v<l.n;rw[if_pos (show((v:Nat):Int)<l.n by omega)];exact left_at Q e (by rw[DA q];exact hi);obtain rfl:v=l.n:=by omega
  rw[if_neg (show ¬((l.n:Nat):Int)<l.n by omega),if_neg (show ¬(l.n:Int)<(l.n:Nat) by omega)]
  cases l with
  |lf=>simp[BT.n]at q
  |nd a b=>
   refine⟨a,b,r,rfl,by simp only[BT.n];omega,?_⟩
   have k:=q
   simp only[BT.n]at k hi|-
   simp only[BT.at]at hi
   by_cases f:i<a.n
   .have W:=Gv (x:=a) f
    rw[DA f]at W
    rw[if_pos (show((i:Nat):Int)<a.n by omega)]at hi
    omega
   .omega
  rw[if_neg (show ¬((i:Nat):Int)<l.n by omega)]at hi;rw[if_neg (show ¬((v:Nat):Int)<l.n by omega),if_pos (show(l.n:Int)<(v:Nat) by omega),show((v:Nat):Int)-l.n-1=((v-l.n-1:Nat):Int) by omega];by_cases Q:l.n<i;rw[if_pos (show(l.n:Int)<(i:Nat) by omega),show((i:Nat):Int)-l.n-1=((i-l.n-1:Nat):Int) by omega]at hi;obtain⟨a,b,c,g,s,B⟩:=left_at (x:=r) (i:=i-l.n-1) (v:=v-l.n-1) (by omega) (by omega) (by rw[DA (by omega)];omega);exact⟨a,b,c,g,by omega,by omega⟩;rw[if_neg (show ¬(l.n:Int)<(i:Nat) by omega),show J5 (BT.nd l r)=r.n from rfl]at hi;omega
theorem N4:∀{x:BT}{v:Nat}{a b c:BT},v<x.n->x.at (v:Nat)=.nd (.nd a b) c->b.n+1<=v
 |.lf,v,_,_,_,h,_=>by simp[BT.n]at h
 |.nd l r,v,a,b,c,h,H=>by have e:=h;simp only[BT.n]at e;simp only[BT.at]at H;by_cases q:v<l.n;rw[if_pos (by omega)]at H;exact N4 q H;rw[if_neg (by omega)]at H;by_cases Q:l.n<v;rw[if_pos (by omega),show((v:Nat):Int)-l.n-1=((v-l.n-1:Nat):Int) by omega]at H;have:=N4 (x:=r) (by omega) H;omega;rw[if_neg (by omega)]at H;injection H with f _;rw[f]at q;simp only[BT.n]at q;omega
theorem TL:∀{x:BT}{v:Nat}{a b c:BT},v<x.n->x.at (v:Nat)=.nd (.nd a b) c->(x.rep (v:Nat) (.nd a (.nd b c))).w=x.w.set (v-b.n-1) ((b.n:Int)+c.n+1)
 |.lf,v,_,_,_,h,_=>by simp[BT.n]at h
 |.nd l r,v,a,b,c,h,H=>by
  have f:=h;have o:=N4 h H;have s:=Bu (x:=l);simp only[BT.n]at f;have e:=GK (ND (by omega) (by omega) H);simp only[BT.at]at H;simp only[BT.rep]at e|-;by_cases q:v<l.n;rw[if_pos (by omega)]at H|-;simp only[BT.w];rw[TL q H,CO,CO,List.set_append_left _ _ (by omega)];rw[if_neg (by omega)]at H e|-;by_cases Q:l.n<v;rw[if_pos (by omega),show((v:Nat):Int)-l.n-1=((v-l.n-1:Nat):Int) by omega]at H e|-;have j:=N4 (x:=r) (by omega) H;simp only[BT.n]at e;simp only[BT.w];rw[TL (by omega) H,List.set_append_right _ _ (by simp only[A4,AO,A6];omega)];simp only[A4,AO,A6];rw[show v-b.n-1-(l.w.length+(0+1))=v-l.n-1-b.n-1 by omega,show(r.rep ((v-l.n-1:Nat):Int) (a.nd (b.nd c))).n=r.n by omega];rw[if_neg (by omega)]at H|-;injection H with g i;subst g i;have k:=Bu (x:=a);obtain rfl:v=(BT.nd a b).n:=by omega
  simp only[BT.w,BT.n];rw[show a.n+b.n+1-b.n-1=a.w.length by omega];simp only[CO,List.set_append_right _ _ (Nat.le_refl _),Nat.sub_self,List.cons_append,List.nil_append,List.set_cons_zero];rw[show((b.n+r.n+1:Nat):Int)=(b.n:Int)+r.n+1 by omega]
theorem Qh:∀{x:BT}{v:Nat}{a b c:BT},v<x.n->x.at (v:Nat)=.nd (.nd a b) c->x.at ((v-b.n-1:Nat):Int)=.nd a b
 |.lf,v,_,_,_,h,_=>by simp[BT.n]at h
 |.nd l r,v,a,b,c,h,H=>by
  have e:=h;have k:=N4 h H;simp only[BT.n]at e;simp only[BT.at]at H|-;by_cases q:v<l.n;rw[if_pos (by omega)]at H;rw[if_pos (by omega)];exact Qh q H;rw[if_neg (by omega)]at H;by_cases Q:l.n<v;rw[if_pos (by omega),show((v:Nat):Int)-l.n-1=((v-l.n-1:Nat):Int) by omega]at H;have i:=N4 (x:=r) (by omega) H;have:=Qh (x:=r) (by omega) H;rw[if_neg (by omega),if_pos (by omega),show((v-b.n-1:Nat):Int)-l.n-1=((v-l.n-1-b.n-1:Nat):Int) by omega];exact this;rw[if_neg (by omega)]at H;injection H with f g;subst f g;obtain rfl:v=(BT.nd a b).n:=by omega
  have j:(BT.nd a b).n=a.n+b.n+1:=rfl;rw[if_pos (by omega)];simp only[BT.at];rw[if_neg (by omega),if_neg (by omega)]
def Gf(x y:BT):Prop:=x.n=y.n/\∀i:Nat,i<x.n->AB x.w (i:Nat)<=AB y.w (i:Nat)
theorem AK2{x y:BT}(h:Gf x y)(o:x.w≠y.w):∃(v:Nat)(z:BT),v<x.n/\BB x v=some z/\Gf z y:=by
 obtain⟨C,l⟩:=h;have T:=Bu (x:=x);have U:=Bu (x:=y);obtain⟨i,hi,F⟩:∃i:Nat,i<x.n/\AB x.w (i:Nat)<AB y.w (i:Nat):=by refine Classical.byContradiction λq=>o (AKA (by omega) λi hi=>?_);have V:¬AB x.w (i:Nat)<AB y.w (i:Nat):=λQ=>q ⟨i,by omega,Q⟩;have:=l i (by omega);omega
 have P:=Gv (x:=x) hi;have R:=Gv (x:=y) (i:=i) (by omega);obtain⟨v,L⟩:∃v:Nat,(i:Int)+AB x.w (i:Nat)+1=v:=⟨((i:Int)+AB x.w (i:Nat)+1).toNat,by omega⟩;have H:v<x.n:=by omega
 obtain⟨a,b,c,j,N,O⟩:=left_at H (by omega) L;have s:=ND (x:=x) (v:=(v:Nat)) (by omega) (by omega) j;refine⟨v,_,H,s,by rw[GK s];exact C,λk B=>?_⟩;rw[GK s]at B;rw[TL H j];have wv:=DA (x:=x) H;rw[j]at wv;simp only[J5]at wv;have M:=l v H;have I:=Qh H j;have g:v-b.n-1<x.n:=by omega
 have W:=DA (x:=x) g;rw[I]at W;simp only[J5]at W;by_cases f:k=v-b.n-1;subst f;have e:AB (x.w.set (v-b.n-1) ((b.n:Int)+c.n+1)) ((v-b.n-1:Nat):Int)=(b.n:Int)+c.n+1:=by simp[AB,show v-b.n-1<x.w.length by omega]
 rw[e];have J:=l _ g;have G:(v:Int)<=((v-b.n-1:Nat):Int)+AB y.w ((v-b.n-1:Nat):Int):=by by_cases q:v-b.n-1=i;rw[q]at W|-;omega;have:=TV (x:=y) (i:=v-b.n-1) (k:=i) (by omega) (by omega) (by omega);omega
 have:=TV (x:=y) (i:=v-b.n-1) (k:=v) (by omega) (by omega) G;omega;have e:AB (x.w.set (v-b.n-1) ((b.n:Int)+c.n+1)) (k:Int)=AB x.w (k:Nat):=by simp only[AB,BM,Ap];rw[List.getElem?_set_ne (Ne.symm f)]
 rw[e];exact l k B
theorem Rk{l r:BT}{i:Nat}(h:i<l.n):(i:Int)+AB (BT.nd l r).w (i:Nat)<l.n:=by have:=Gv (x:=l) h;rw[DA h]at this;rw[DA (by simp only[BT.n];omega)];simp only[BT.at];rw[if_pos (by omega)];exact this.1
theorem MZ{l r:BT}:AB (BT.nd l r).w (l.n:Nat)=r.n:=by rw[DA (by simp only[BT.n];omega)];simp only[BT.at];rw[if_neg (by omega),if_neg (by omega)]<;>rfl
theorem SZ:∀{x y:BT},x.w=y.w->x=y
 |.lf,.lf,_=>rfl
 |.lf,.nd l r,h=>by have:=congrArg List.length h;rw[Bu,Bu]at this;simp[BT.n]at this
 |.nd l r,.lf,h=>by have:=congrArg List.length h;rw[Bu,Bu]at this;simp[BT.n]at this
 |.nd l r,.nd L R,h=>by
  have b:=congrArg List.length h
  rw[Bu,Bu]at b
  have a:=b
  simp only[BT.n]at a
  have f:l.n=L.n:=by
   rcases Nat.lt_trichotomy l.n L.n with q|q|q
   have H:=Rk (l:=L) (r:=R) q
   rw[<-h,MZ]at H
   omega
   exact q
   have H:=Rk (l:=l) (r:=r) q
   rw[h,MZ]at H
   omega
  simp only[BT.w,CO]at h
  obtain⟨H,c⟩:=List.append_inj h (by rw[Bu,Bu];exact f)
  obtain⟨_,e⟩:=List.append_inj c rfl
  rw[SZ H,SZ e]
end Go.Cat
namespace Go.Cat
variable{K:Nat->List D->List D->Prop}
def Cr(x y:BT):Bool:=decide (x.n=y.n)&&(List.range x.n).all λi:Nat=>decide (AB x.w (i:Nat)<=AB y.w (i:Nat))
theorem J6{x y:BT}:Cr x y=true↔Gf x y:=by simp only[Cr,Gf,AV,Aa,Ao,List.mem_range]
theorem AO5{x y:BT}{i:Nat}(h:i<x.n)(H:AB y.w (i:Nat)<AB x.w (i:Nat)):Cr x y=false:=by rw[Bool.eq_false_iff];intro q;have:=(J6.1 q).2 i h;omega
theorem AJK{x y:BT}(h:x.n≠y.n):Cr x y=false:=by rw[Bool.eq_false_iff];exact λq=>h (J6.1 q).1
theorem Je[HA K]{x y:BT}{m:Int}(h:x.n<=8)(c:y.n<=8)(e:0<=m/\m<=8):K 367 [.s x.t,.s y.t,.n m] [.b (decide ((x.n:Int)<=m)&&decide (x.n=y.n))]:=by refine qw OM ?_;refine cB (Gn h) ?_;by_cases H:(x.n:Int)<=m;refine wW ?_;refine cW (Gn c) ?_;by_cases a:x.n=y.n;simp[H,a];simp[H,a];omega;rw[decide_eq_false H];exact wZ
theorem Nc[HA K]{x y:BT}(h:x.n<=8)(c:y.n<=8):K 350 [.s x.t,.s y.t] [.b (Cr x y)]:=by have l:=Bu (x:=x);have L:=Bu (x:=y);refine qw VM ?_;refine cB (Je h c (by omega)) ?_;have a:decide ((x.n:Int)<=8)=true:=decide_eq_true (by omega);by_cases H:x.n=y.n;have e:decide (x.n=y.n)=true:=decide_eq_true H;rw[a,e];refine wW ?_;refine cW (Ms h) ?_;refine cW (Ms c) ?_;refine AN (λi=>∀j:Nat,j<i->AB x.w (j:Nat)<=AB y.w (j:Nat)) (λi=>[.u,.u,.u,LI x.w,LI y.w,.u,.u,.n x.w.length,.n i,.u,.u]) x.w.length (by omega) rfl (λi hi P=>?_) (λP=>?_);by_cases q:AB x.w (i:Nat)<=AB y.w (i:Nat);refine wW ?_;exact Bf P q;refine wW ?_;rw[AO5 (i:=i) (by omega) (by omega)];refine wW ?_;rw[J6.2 ⟨H,λi hi=>P i (by omega)⟩];have e:decide (x.n=y.n)=false:=decide_eq_false H;rw[a,e];refine wW ?_;rw[AJK H]
theorem JY[HA K]{x y:BT}(h:x.n<=8)(a:y.n<=8):K 365 [.s x.t,.s y.t] [.b (decide (x.n=y.n))]:=by have T:=BT.tl x;have ty:=BT.tl y;refine qw U1 ?_;refine cB Ez ?_;simp(disch:=omega) only[AD,GF h];refine cB Ez ?_;simp(disch:=omega) only[AD,GF a];by_cases H:x.n=y.n;simp[H,T,ty];simp[H,T,ty];omega
theorem N0[HA K]{x y:BT}(h:x.n<=8)(a:y.n<=8):K 349 [.s x.t,.s y.t] [.b (Cr x y)]:=by have l:=Bu (x:=x);have L:=Bu (x:=y);refine qw Vn ?_;refine cB (JY h a) ?_;by_cases H:x.n=y.n;have e:decide (x.n=y.n)=true:=decide_eq_true H;rw[e];refine wW ?_;refine cW (MT h) ?_;refine cW (MT a) ?_;refine AN (λi=>∀j:Nat,j<i->AB x.w (j:Nat)<=AB y.w (j:Nat)) (λi=>[.u,.u,.u,LI x.w,LI y.w,.n i,.u,.u,.u]) x.w.length (by omega) rfl (λi hi P=>?_) (λP=>?_);by_cases q:AB x.w (i:Nat)<=AB y.w (i:Nat);refine wW ?_;exact Bf P q;refine wW ?_;rw[AO5 (i:=i) (by omega) (by omega)];refine wW ?_;rw[J6.2 ⟨H,λi hi=>P i (by omega)⟩];have e:decide (x.n=y.n)=false:=decide_eq_false H;rw[e];refine wW ?_;rw[AJK H]
theorem APD[HA K]{a b:List Nat}{m:Int}(h:Az a=false):K 367 [.s a,.s b,.n m] [.b false]:=by refine qw OM ?_;exact cZ (RV h)
theorem ZT[HA K]{x:BT}{b:List Nat}(H:x.n<=8)(h:Az b=false):K 367 [.s x.t,.s b,.n 8] [.b false]:=by refine qw OM ?_;refine cW (Gn H) ?_;exact cZ (RV h)
theorem YG[HA K]{a b:List Nat}(h:Az a=false):K 365 [.s a,.s b] [.b false]:=by refine qw U1 ?_;refine cB Ez ?_;simp(disch:=omega) only[AD,h]
theorem YJ[HA K]{x:BT}{b:List Nat}(H:x.n<=8)(h:Az b=false):K 365 [.s x.t,.s b] [.b false]:=by refine qw U1 ?_;refine cB Ez ?_;simp(disch:=omega) only[AD,GF H];refine cB Ez ?_;simp(disch:=omega) only[AD,h]
end Go.Cat
namespace Go.Cat
theorem UG:∀{x y:BT}{a b:List Nat},x.t++a=y.t++b->x=y/\a=b
 |.lf,.lf,a,b,h=>by simpa[BT.t]using h
 |.lf,.nd _ _,a,b,h=>by simp[BT.t]at h
 |.nd _ _,.lf,a,b,h=>by simp[BT.t]at h
 |.nd l r,.nd L R,a,b,h=>by simp only[BT.t,List.cons_append,CO,List.cons.injEq,true_and,List.nil_append]at h;obtain⟨c,e⟩:=UG h;obtain⟨f,H⟩:=UG e;subst c;subst f;simp only[List.cons.injEq,true_and]at H;exact⟨rfl,H⟩
theorem VZ{x y:BT}(h:x.t=y.t):x=y:=(UG (a:=[]) (b:=[]) (by rw[h])).1
theorem AMX:∀{l:List Int}{i:Nat}{v:Int},i<l.length->AB l (i:Nat)<v->l.sum<(l.set i v).sum
 |[],i,v,h,_=>by simp at h
 |a::l,0,v,_,h=>by simp[AB]at h;simp only[List.set_cons_zero,List.sum_cons];omega
 |a::l,i+1,v,h,H=>by have:=AMX (l:=l) (i:=i) (v:=v) (by simpa using h) (by simpa[AB]using H);simp only[List.set_cons_succ,List.sum_cons];omega
theorem Ze:∀{a b:List Int},a.length=b.length->(∀i:Nat,i<a.length->AB a (i:Nat)<=AB b (i:Nat))->a.sum<=b.sum
 |[],[],_,_=>by simp
 |a::l,b::m,h,H=>by have h0:=H 0 (by simp);have:=Ze (a:=l) (b:=m) (by simpa using h) (λi hi=>by have:=H (i+1) (by simpa using hi);simpa[AB]using this);simp[AB]at h0;simp only[List.sum_cons];omega
theorem AHM:∀{l:List Int},(∀i:Nat,i<l.length->0<=AB l (i:Nat)/\AB l (i:Nat)<=8)->0<=l.sum/\l.sum<=8*l.length
 |[],_=>by simp
 |a::l,h=>by have h0:=h 0 (by simp);have:=AHM (l:=l) (λi hi=>by have:=h (i+1) (by simpa using hi);simpa[AB]using this);simp[AB]at h0;simp only[List.sum_cons,AO];omega
theorem YZ{x y:BT}(h:Gf x y):x.w.sum<=y.w.sum:=by refine Ze (by rw[Bu,Bu];exact h.1) (λi hi=>h.2 i ?_);rw[Bu]at hi;exact hi
theorem Rs{x:BT}(h:x.n<=8):0<=x.w.sum/\x.w.sum<=64:=by have:=AHM (l:=x.w) (λi hi=>by rw[Bu]at hi;have:=Gv hi;omega);rw[Bu]at this;omega
theorem AC7{x z:BT}{v:Nat}(f:v<x.n)(h:BB x (v:Nat)=some z):x.w.sum<z.w.sum:=by
 obtain⟨a,c,H⟩:=NR (x:=x) (v:=(v:Nat)) (by omega) (by omega)
 cases a with
 |lf=>rw[Ss (by omega) (by omega) H]at h;cases h
 |nd a b=>
  rw[ND (by omega) (by omega) H]at h
  injection h with h
  subst h
  rw[TL f H]
  have e:=DA (x:=x) (v:=v-b.n-1) (by omega)
  rw[Qh f H]at e
  simp only[J5]at e
  refine AMX (by rw[Bu];omega) ?_
  rw[e]
  omega
end Go.Cat
