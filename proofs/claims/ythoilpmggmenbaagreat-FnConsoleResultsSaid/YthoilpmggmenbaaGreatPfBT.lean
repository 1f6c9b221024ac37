/-
 Binary trees and paths.
-/
import Derived.Test.YthoilpmggmenbaaGreatPfPI
import Derived.Test.YthoilpmggmenbaaGreatPfStat
set_option linter.unusedSimpArgs false
set_option linter.unusedVariables false
namespace Go.Cat
variable{K:Nat->List D->List D->Prop}
def BT.p:BT->List Nat
 |.lf=>[]
 |.nd l r=>117::(l.p++100::r.p)
theorem BT.pl:∀x:BT,x.p.length=2*x.n
 |.lf=>rfl
 |.nd l r=>by have:=BT.pl l;have:=BT.pl r;simp only[BT.p,BT.n,AO,AZ];omega
theorem Ul:∀(x:BT)(r:List Nat)(h:Int),0<=h->Bb (x.p++r) h=Bb r h
 |.lf,r,h,_=>rfl
 |.nd a b,r,h,h0=>by simp only[BT.p,List.cons_append,CE];rw[Bb,if_pos rfl,Ul a _ _ (by omega),Bb,if_neg (by omega),if_pos rfl,if_neg (by omega),Ul b _ _ (by omega)];congr 1;omega
theorem T9(x:BT):Bb x.p 0=some 0:=by have:=Ul x [] 0 (by omega);rw[List.append_nil]at this;rw[this]<;>rfl
theorem ZJ{x:BT}(h:x.n<=8):AK x.p=true:=by have:=BT.pl x;simp only[AK,T9,AU,Ad];exact⟨trivial,by omega⟩
theorem S9:∀(n:Nat)(w:List Nat)(k:Int),w.length<=n->0<=k->Bb w (k+1)=some 0->∃(x:BT)(b:List Nat),w=x.p++100::b/\Bb b k=some 0
 |_,[],k,_,f,h=>by simp[Bb]at h;omega
 |0,c::w,k,H,_,_=>by simp at H
 |n+1,c::w,k,H,f,h=>by
  simp only[AO]at H
  simp only[Bb]at h
  by_cases a:c=117
  rw[if_pos a]at h
  obtain⟨l,b1,e,i⟩:=S9 n w (k+1) (by omega) (by omega) h
  have o:b1.length<=n:=by
   have:=congrArg List.length e
   simp only[AZ,AO]at this
   omega
  obtain⟨r,b2,g,j⟩:=S9 n b1 k o f i
  refine⟨.nd l r,b2,?_,j⟩
  rw[a,e,g]
  simp[BT.p]
  rw[if_neg a]at h
  by_cases hd:c=100
  rw[if_pos hd,if_neg (by omega)]at h
  refine⟨.lf,w,by simp[BT.p,hd],?_⟩
  rw[<-h];congr 1;omega
  rw[if_neg hd]at h;cases h
theorem ZA:∀(n:Nat)(w:List Nat),w.length<=n->Bb w 0=some 0->∃x:BT,w=x.p
 |_,[],_,_=>⟨.lf,rfl⟩
 |0,c::w,H,_=>by simp at H
 |n+1,c::w,H,h=>by
  simp only[AO]at H
  simp only[Bb]at h
  by_cases a:c=117
  rw[if_pos a]at h
  obtain⟨l,b,e,g⟩:=S9 n w 0 (by omega) (by omega) h
  have i:b.length<=n:=by
   have:=congrArg List.length e
   simp only[AZ,AO]at this
   omega
  obtain⟨r,f⟩:=ZA n b i g
  exact⟨.nd l r,by rw[a,e,f];rfl⟩
  rw[if_neg a]at h
  by_cases hd:c=100
  rw[if_pos hd,if_pos (by omega)]at h;cases h
  rw[if_neg hd]at h;cases h
theorem Hq{w:List Nat}(hd:AK w=true):∃x:BT,w=x.p/\x.n<=8:=by simp only[AK,AU,Ad]at hd;obtain⟨x,e⟩:=ZA w.length w (Nat.le_refl _) hd.1;have:=BT.pl x;exact⟨x,e,by rw[<-e]at this;omega⟩
theorem BT.Si:∀{x y:BT}{a b:List Nat},x.p++100::a=y.p++100::b->x=y/\a=b
 |.lf,.lf,a,b,h=>by simpa[BT.p]using h
 |.lf,.nd _ _,a,b,h=>by simp[BT.p]at h
 |.nd _ _,.lf,a,b,h=>by simp[BT.p]at h
 |.nd l r,.nd L R,a,b,h=>by simp only[BT.p,List.cons_append,CE,List.cons.injEq,true_and]at h;obtain⟨H,c⟩:=BT.Si h;obtain⟨e,f⟩:=BT.Si c;subst H;subst e;exact⟨rfl,f⟩
theorem BT.AAC{x y:BT}(h:x.p=y.p):x=y:=(BT.Si (a:=[]) (b:=[]) (by rw[h])).1
open Classical in
noncomputable def Ft(w:List Nat):BT:=if h:∃x:BT,w=x.p then h.choose else .lf
theorem GO{x:BT}:Ft x.p=x:=by have h:∃y:BT,x.p=y.p:=⟨x,rfl⟩;simp only[Ft,dif_pos h];exact(BT.AAC h.choose_spec).symm
theorem hp_0{x:BT}{i:Nat}(h:i<=2*x.n):0<=Hh x.p i:=by have H:=(Lu x.p 0 0 (Int.le_refl _)).1 (T9 x);have:=H.2.1 i (by rw[BT.pl];exact h);omega
theorem hp_l{x:BT}:Hh x.p (2*x.n)=0:=by have h:=(Lu x.p 0 0 (Int.le_refl _)).1 (T9 x);have:=h.2.2;rw[BT.pl]at this;omega
theorem AXG{l r:BT}{i:Nat}(h:i<=2*l.n):Hh (BT.nd l r).p (i+1)=1+Hh l.p i:=by simp only[BT.p];rw[KV,AO4 (by rw[BT.pl];exact h)];simp
theorem AMC{l r:BT}:Hh (BT.nd l r).p (2*l.n+2)=0:=by simp only[BT.p];rw[KV,show 2*l.n+1=l.p.length+1 by rw[BT.pl],Ab4,BT.pl,hp_l,KV,Ef];simp
theorem ZG{l r:BT}{i:Nat}(h0:1<=i)(h:i<=2*l.n+1):0<Hh (BT.nd l r).p i:=by obtain⟨j,rfl⟩:∃j,i=j+1:=⟨i-1,by omega⟩;rw[AXG (by omega)];have:=hp_0 (x:=l) (i:=j) (by omega);omega
theorem AE9{l r:BT}:sub (BT.nd l r).p 1 ((2*l.n+2:Nat)-1:Int)=l.p:=by
 have e:(((2*l.n+2:Nat):Int)-1).toNat=l.p.length+1:=by rw[BT.pl];omega
 show(List.take (((2*l.n+2:Nat):Int)-1).toNat (BT.nd l r).p).drop (1:Int).toNat=_;rw[e];simp[BT.p]
theorem ALG{l r:BT}{j:Int}(h:j=2*(l.n+r.n+1)):sub (BT.nd l r).p ((2*l.n+2:Nat):Int) j=r.p:=by
 have e:(2*l.n+2)=l.p.length+1+1:=by rw[BT.pl]
 have a:(BT.nd l r).p=(117::l.p++[100])++r.p:=by simp[BT.p]
 have b:(117::l.p++[100]).length=2*l.n+2:=by simp[BT.pl]
 have c:j.toNat=(BT.nd l r).p.length:=by rw[BT.pl,BT.n];omega
 simp only[sub,c,List.take_length,BM];rw[a,<-b,List.drop_left]
theorem fr_i[HA K]{l r:BT}(h:(BT.nd l r).n<=8):K 519 [.s (BT.nd l r).p] [.s l.p,.s r.p,.b true]:=by
 have hd:=ZJ h;have k:=BT.pl (.nd l r);simp only[BT.n]at h k;have H:=Ht (w:=(BT.nd l r).p);have a:((BT.nd l r).p==[])=false:=by simp[BT.p]
 have f:=AE9 (l:=l) (r:=r);have g:=ALG (l:=l) (r:=r) (j:=((BT.nd l r).p.length:Nat)) (by omega);generalize o:(BT.nd l r).p=w at hd k H a f g|-;refine qw AI4 ?_;repeat(refine cB (Bf (by omega)) ?_;try simp(disch:=omega) only[AD,hd,a])
 refine cW (Qs hd) ?_;refine Bd (λ(i:Nat)=>1<=i/\i<=2*l.n+2) (λi=>[.s w,.u,.u,.u,LI (hL w),.n i,.u,.u]) (λi=>2*l.n+2-i) 1 (by omega) rfl ?_;intro i hi;have e:=HV (w:=w) (i:=i) (by omega);by_cases q:i=2*l.n+2;have c:Hh w i=0:=by rw[<-o,q];exact AMC
 rw[c]at e;simp(disch:=omega) only[AD,e];subst q;rw[f,g];have c:0<Hh w i:=by rw[<-o];exact ZG hi.1 (by omega)
 simp(disch:=omega) only[AD,e];exact⟨i+1,by omega,by omega,by simp⟩
theorem ASL[HA K]:K 519 [.s []] [.s [],.s [],.b false]:=by refine qw AI4 ?_;repeat(first|(refine Aq (Bf (K:=K) (w:=[]) (by simp)) rfl ?_;try simp(disch:=omega) only[AD,show AK []=true from rfl]))
theorem Nf[HA K]:∀{x:BT},x.n<=8->K 514 [.s x.p] [x.d]
 |.lf,_=>by refine qb AJ1 ?_;simp only[BT.p];refine wW ?_;exact cZ ASL
 |.nd l r,h=>by have H:=h;simp only[BT.n]at H;have k:=Nf (x:=l) (by omega);have a:=Nf (x:=r) (by omega);refine qw AJ1 ?_;refine cW (fr_i h) ?_;refine cW k ?_;refine cB a ?_;simp(disch:=omega) only[AD,BT.P6];rfl
theorem I9[HA K]:∀{x:BT},x.n<=100000->K 196 [x.d] [.s x.t]
 |.lf,_=>by refine qb AGZ ?_;simp only[BT.d,BT.t];exact wZ
 |.nd l r,h=>by have H:=h;simp only[BT.n]at H;have k:=I9 (x:=l) (by omega);have a:=I9 (x:=r) (by omega);have T:=BT.tl l;have b:=BT.tl r;refine qb AGZ ?_;simp only[BT.d,BT.t];simp(disch:=try exact dV) only[AD,BT.DL,I4];refine cB k ?_;simp(disch:=try exact dV) only[AD,BT.DL];refine cW a ?_;simp
theorem AX8[HA K]{l r:BT}(h:(BT.nd l r).n<=8):K 518 [.s (BT.nd l r).p] [.n (2*l.n+1:Nat)]:=by
 have hd:=ZJ h;have g:=A8 hd;have o:=BT.pl (.nd l r);simp only[BT.n]at h o;have e:∀i:Nat,1<=i->i<=2*l.n+1->0<Hh (BT.nd l r).p i:=λi x B=>ZG x B;have b:=AMC (l:=l) (r:=r);generalize F:(BT.nd l r).p=w at hd g o e b|-;have b:Hh w (2*l.n+1+1)=0:=b;have j:2*l.n+1<w.length:=by omega
 generalize 2*l.n+1=c at e b j|-;refine qw I518 ?_;refine Bd (λ(i:Nat)=>i<=c) (λi=>[.s w,.u,.n (Hh w i),.n i,.u,.u,.u]) (λi=>c+1-i) 0 (by omega) (by simp[Ef]) ?_;intro i hi;have C:=Fx (w:=w) (i:=i);have a:i<w.length:=by omega
 by_cases q:i=c;subst q;rcases g.ud _ a with H|H;rw[F6 a H]at b;have:=e i;by_cases Q:i=0;subst Q;rw[Ef]at b;omega;have:=e i (by omega) (by omega);omega;rw[Ej a H]at b;simp(disch:=omega) only[AD,H];have k:=e (i+1) (by omega) (by omega);rcases g.ud _ a with H|H;rw[F6 a H]at k;have f:=F6 a H;simp(disch:=omega) only[AD,H];exact⟨i+1,by omega,by omega,by rw[f];simp⟩;rw[Ej a H]at k;have f:=Ej a H;simp(disch:=omega) only[AD,H];exact⟨i+1,by omega,by omega,by rw[f];simp⟩
theorem Mf[HA K]:∀{x:BT},x.n<=8->K 513 [.s x.p] [.s x.t]
 |.lf,_=>by refine qb AB9 ?_;simp only[BT.p,BT.t];exact wZ
 |.nd l r,h=>by
  have B:=h;simp only[BT.n]at B;have C:=Mf (x:=l) (by omega);have F:=Mf (x:=r) (by omega);have T:=BT.tl l;have I:=BT.tl r;have i:=BT.pl (.nd l r);simp only[BT.n]at i;have k:=AX8 (K:=K) h;have f:((BT.nd l r).p==[])=false:=by simp[BT.p]
  have o:=AE9 (l:=l) (r:=r);have e:sub (BT.nd l r).p 1 ((2*l.n+1:Nat):Int)=l.p:=by rw[<-o];congr 1;omega
  have q:=ALG (l:=l) (r:=r) (j:=((BT.nd l r).p.length:Nat)) (by omega);have a:sub (BT.nd l r).p (((2*l.n+1:Nat):Int)+1) ((BT.nd l r).p.length:Nat)=r.p:=by rw[<-q];congr 1
  generalize G:(BT.nd l r).p=w at k i f e a|-;have b:2*l.n+1<w.length:=by omega
  have g:w.length<=16:=by omega
  have H:1<=2*l.n+1:=by omega
  generalize 2*l.n+1=c at k e a b H;refine qb AB9 ?_;simp(disch:=try exact dV) only[AD,f];refine cW k ?_;rw[e];refine cW C ?_;rw[a];refine cW F ?_;simp[BT.t]
end Go.Cat
