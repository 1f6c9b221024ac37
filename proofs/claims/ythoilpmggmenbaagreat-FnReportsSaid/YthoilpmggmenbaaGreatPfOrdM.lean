/-
 Weights and rotations to the right.
-/
import Derived.Test.YthoilpmggmenbaaGreatQd0LawReports
import Derived.Test.YthoilpmggmenbaaGreatQd1LawReports
import Derived.Test.YthoilpmggmenbaaGreatQd2LawReports
import Derived.Test.YthoilpmggmenbaaGreatQd3LawReports
import Derived.Test.YthoilpmggmenbaaGreatPfRotC
set_option linter.unusedSimpArgs false
set_option linter.unusedVariables false
namespace Go.Cat
theorem Fs:∀{x:BT}{i:Nat},i<x.n→(i:Int)+AE x.w (i:Nat)<x.n∧0≤AE x.w (i:Nat)
 |.lf,i,h=>by simp[BT.n]at h
 |.nd l r,i,h=>by
  have h':=h
  simp only[BT.n]at h'
  rw[Ca h]
  simp only[BT.at,BT.n]
  by_cases q:i<l.n
  ·have:=Fs (x:=l) q
   rw[Ca q]at this
   rw[if_pos (by omega)];omega
  ·rw[if_neg (by omega)]
   by_cases q2:l.n<i
   ·have:=Fs (x:=r) (i:=i-l.n-1) (by omega)
    rw[Ca (by omega)]at this
    rw[if_pos (by omega),show((i:Nat):Int)-l.n-1=((i-l.n-1:Nat):Int) by omega];omega
   ·rw[if_neg (by omega)];simp only[Hq];omega
theorem RD:∀{x:BT}{i k:Nat},k<x.n→i<k→(k:Int)≤i+AE x.w (i:Nat)→(k:Int)+AE x.w (k:Nat)≤i+AE x.w (i:Nat)
 |.lf,i,k,h,_,_=>by simp[BT.n]at h
 |.nd l r,i,k,h,hik,hk=>by
  have h':=h
  simp only[BT.n]at h'
  have hi:i<(BT.nd l r).n:=by omega
  rw[Ca hi]at hk
  rw[Ca h,Ca hi]
  simp only[BT.at]at hk⊢
  by_cases q:i<l.n
  ·rw[if_pos (show((i:Nat):Int)<l.n by omega)]at hk⊢
   have we:=Fs (x:=l) q
   rw[Ca q]at we
   have hkl:k<l.n:=by omega
   rw[if_pos (show((k:Nat):Int)<l.n by omega)]
   have:=RD (x:=l) hkl hik (by rw[Ca q];exact hk)
   rw[Ca q,Ca hkl]at this
   exact this
  ·rw[if_neg (show ¬((i:Nat):Int)<l.n by omega)]at hk⊢
   rw[if_neg (show ¬((k:Nat):Int)<l.n by omega),if_pos (show(l.n:Int)<(k:Nat) by omega)]
   have wk:=Fs (x:=r) (i:=k-l.n-1) (by omega)
   rw[Ca (by omega)]at wk
   rw[show((k:Nat):Int)-l.n-1=((k-l.n-1:Nat):Int) by omega]
   by_cases q2:l.n<i
   ·rw[if_pos (show(l.n:Int)<(i:Nat) by omega),show((i:Nat):Int)-l.n-1=((i-l.n-1:Nat):Int) by omega]at hk⊢
    have:=RD (x:=r) (i:=i-l.n-1) (k:=k-l.n-1) (by omega) (by omega) (by rw[Ca (by omega)];omega)
    rw[Ca (by omega),Ca (by omega)]at this
    omega
   ·rw[if_neg (show ¬(l.n:Int)<(i:Nat) by omega)]at hk⊢
    rw[show Hq (BT.nd l r)=r.n from rfl]at hk⊢
    omega
theorem left_at:∀{x:BT}{i v:Nat},v<x.n→i<v→(i:Int)+AE x.w (i:Nat)+1=v→∃a b c,x.at (v:Nat)=.nd (.nd a b) c∧b.n+1≤v∧v≤i+b.n+1
 |.lf,i,v,h,_,_=>by simp[BT.n]at h
 |.nd l r,i,v,h,hiv,hi=>by
  have h':=h
  simp only[BT.n]at h'
  have hin:i<(BT.nd l r).n:=by omega
  rw[Ca hin]at hi
  simp only[BT.at]at hi⊢
  by_cases q:i<l.n
  ·rw[if_pos (show((i:Nat):Int)<l.n by omega)]at hi
   have we:=Fs (x:=l) q
   rw[Ca q]at we
   by_cases q2:v<l.n
   ·rw[if_pos (show((v:Nat):Int)<l.n by omega)]
    exact left_at q2 hiv (by rw[Ca q];exact hi)
   ·obtain rfl:v=l.n:=by omega
    rw[if_neg (show ¬((l.n:Nat):Int)<l.n by omega),if_neg (show ¬(l.n:Int)<(l.n:Nat) by omega)]
    cases l with
    |lf=>simp[BT.n]at q
    |nd a b=>
     refine⟨a,b,r,rfl,by simp only[BT.n];omega,?_⟩
     have q':=q
     simp only[BT.n]at q' hi⊢
     simp only[BT.at]at hi
     by_cases q3:i<a.n
     ·have we2:=Fs (x:=a) q3
      rw[Ca q3]at we2
      rw[if_pos (show((i:Nat):Int)<a.n by omega)]at hi
      omega
     ·omega
  ·rw[if_neg (show ¬((i:Nat):Int)<l.n by omega)]at hi
   rw[if_neg (show ¬((v:Nat):Int)<l.n by omega),if_pos (show(l.n:Int)<(v:Nat) by omega),show((v:Nat):Int)-l.n-1=((v-l.n-1:Nat):Int) by omega]
   by_cases q2:l.n<i
   ·rw[if_pos (show(l.n:Int)<(i:Nat) by omega),show((i:Nat):Int)-l.n-1=((i-l.n-1:Nat):Int) by omega]at hi
    obtain⟨a,b,c,e1,e2,e3⟩:=left_at (x:=r) (i:=i-l.n-1) (v:=v-l.n-1) (by omega) (by omega) (by rw[Ca (by omega)];omega)
    exact⟨a,b,c,e1,by omega,by omega⟩
   ·rw[if_neg (show ¬(l.n:Int)<(i:Nat) by omega),show Hq (BT.nd l r)=r.n from rfl]at hi
    omega
theorem L4:∀{x:BT}{v:Nat}{a b c:BT},v<x.n→x.at (v:Nat)=.nd (.nd a b) c→b.n+1≤v
 |.lf,v,_,_,_,h,_=>by simp[BT.n]at h
 |.nd l r,v,a,b,c,h,hab=>by
  have h':=h
  simp only[BT.n]at h'
  simp only[BT.at]at hab
  by_cases q:v<l.n
  ·rw[if_pos (by omega)]at hab
   exact L4 q hab
  ·rw[if_neg (by omega)]at hab
   by_cases q2:l.n<v
   ·rw[if_pos (by omega),show((v:Nat):Int)-l.n-1=((v-l.n-1:Nat):Int) by omega]at hab
    have:=L4 (x:=r) (by omega) hab
    omega
   ·rw[if_neg (by omega)]at hab
    injection hab with h1 _
    rw[h1]at q
    simp only[BT.n]at q
    omega
theorem OK:∀{x:BT}{v:Nat}{a b c:BT},v<x.n→x.at (v:Nat)=.nd (.nd a b) c→(x.rep (v:Nat) (.nd a (.nd b c))).w=x.w.set (v-b.n-1) ((b.n:Int)+c.n+1)
 |.lf,v,_,_,_,h,_=>by simp[BT.n]at h
 |.nd l r,v,a,b,c,h,hab=>by
  have h':=h
  have hb:=L4 h hab
  have hl:=Bm (x:=l)
  simp only[BT.n]at h'
  have hn:=Fa (LO (by omega) (by omega) hab)
  simp only[BT.at]at hab
  simp only[BT.rep]at hn⊢
  by_cases q:v<l.n
  ·rw[if_pos (by omega)]at hab⊢
   simp only[BT.w]
   rw[OK q hab,CI,CI,List.set_append_left _ _ (by omega)]
  ·rw[if_neg (by omega)]at hab hn⊢
   by_cases q2:l.n<v
   ·rw[if_pos (by omega),show((v:Nat):Int)-l.n-1=((v-l.n-1:Nat):Int) by omega]at hab hn⊢
    have hb2:=L4 (x:=r) (by omega) hab
    simp only[BT.n]at hn
    simp only[BT.w]
    rw[OK (by omega) hab,List.set_append_right _ _ (by simp only[A7,AY,Ap];omega)]
    simp only[A7,AY,Ap]
    rw[show v-b.n-1-(l.w.length+(0+1))=v-l.n-1-b.n-1 by omega,show(r.rep ((v-l.n-1:Nat):Int) (a.nd (b.nd c))).n=r.n by omega]
   ·rw[if_neg (by omega)]at hab⊢
    injection hab with h1 h2
    subst h1 h2
    have ha:=Bm (x:=a)
    obtain rfl:v=(BT.nd a b).n:=by omega
    simp only[BT.w,BT.n]
    rw[show a.n+b.n+1-b.n-1=a.w.length by omega]
    simp only[CI,List.set_append_right _ _ (Nat.le_refl _),Nat.sub_self,List.cons_append,List.nil_append,List.set_cons_zero]
    rw[show((b.n+r.n+1:Nat):Int)=(b.n:Int)+r.n+1 by omega]
theorem QQ:∀{x:BT}{v:Nat}{a b c:BT},v<x.n→x.at (v:Nat)=.nd (.nd a b) c→x.at ((v-b.n-1:Nat):Int)=.nd a b
 |.lf,v,_,_,_,h,_=>by simp[BT.n]at h
 |.nd l r,v,a,b,c,h,hab=>by
  have h':=h
  have hb:=L4 h hab
  simp only[BT.n]at h'
  simp only[BT.at]at hab⊢
  by_cases q:v<l.n
  ·rw[if_pos (by omega)]at hab
   rw[if_pos (by omega)]
   exact QQ q hab
  ·rw[if_neg (by omega)]at hab
   by_cases q2:l.n<v
   ·rw[if_pos (by omega),show((v:Nat):Int)-l.n-1=((v-l.n-1:Nat):Int) by omega]at hab
    have hb2:=L4 (x:=r) (by omega) hab
    have:=QQ (x:=r) (by omega) hab
    rw[if_neg (by omega),if_pos (by omega),show((v-b.n-1:Nat):Int)-l.n-1=((v-l.n-1-b.n-1:Nat):Int) by omega]
    exact this
   ·rw[if_neg (by omega)]at hab
    injection hab with h1 h2
    subst h1 h2
    obtain rfl:v=(BT.nd a b).n:=by omega
    have hnn:(BT.nd a b).n=a.n+b.n+1:=rfl
    rw[if_pos (by omega)]
    simp only[BT.at]
    rw[if_neg (by omega),if_neg (by omega)]
def Ll(x y:BT):Prop:=x.n=y.n∧∀i:Nat,i<x.n→AE x.w (i:Nat)≤AE y.w (i:Nat)
theorem AdY{x y:BT}(h:Ll x y)(hne:x.w≠y.w):∃(v:Nat)(z:BT),v<x.n∧BF x v=some z∧Ll z y:=by
 obtain⟨h1,h2⟩:=h;have lx:=Bm (x:=x);have ly:=Bm (x:=y);obtain⟨i,hi,hlt⟩:∃i:Nat,i<x.n∧AE x.w (i:Nat)<AE y.w (i:Nat):=by refine Classical.byContradiction fun q=>hne (AE3 (by omega) fun i hi=>?_);have q1:¬AE x.w (i:Nat)<AE y.w (i:Nat):=fun q2=>q ⟨i,by omega,q2⟩;have:=h2 i (by omega);omega
 have ei:=Fs (x:=x) hi;have ey:=Fs (x:=y) (i:=i) (by omega);obtain⟨v,hv⟩:∃v:Nat,(i:Int)+AE x.w (i:Nat)+1=v:=⟨((i:Int)+AE x.w (i:Nat)+1).toNat,by omega⟩;have hvn:v<x.n:=by omega
 obtain⟨a,b,c,e1,e2,e3⟩:=left_at hvn (by omega) hv;have hz:=LO (x:=x) (v:=(v:Nat)) (by omega) (by omega) e1;refine⟨v,_,hvn,hz,by rw[Fa hz];exact h1,fun k hk=>?_⟩;rw[Fa hz]at hk;rw[OK hvn e1];have wv:=Ca (x:=x) hvn;rw[e1]at wv;simp only[Hq]at wv;have hv2:=h2 v hvn;have hp:=QQ hvn e1;have hpn:v-b.n-1<x.n:=by omega
 have wpz:=Ca (x:=x) hpn;rw[hp]at wpz;simp only[Hq]at wpz;by_cases hk2:k=v-b.n-1
 ·subst hk2;have e:AE (x.w.set (v-b.n-1) ((b.n:Int)+c.n+1)) ((v-b.n-1:Nat):Int)=(b.n:Int)+c.n+1:=by simp[AE,show v-b.n-1<x.w.length by omega]
  rw[e];have hpy:=h2 _ hpn;have g1:(v:Int)≤((v-b.n-1:Nat):Int)+AE y.w ((v-b.n-1:Nat):Int):=by
   by_cases q:v-b.n-1=i
   ·rw[q]at wpz⊢;omega
   ·have:=RD (x:=y) (i:=v-b.n-1) (k:=i) (by omega) (by omega) (by omega);omega
  have:=RD (x:=y) (i:=v-b.n-1) (k:=v) (by omega) (by omega) g1;omega
 ·have e:AE (x.w.set (v-b.n-1) ((b.n:Int)+c.n+1)) (k:Int)=AE x.w (k:Nat):=by
   simp only[AE,BH,Al]
   rw[List.getElem?_set_ne (Ne.symm hk2)]
  rw[e]
  exact h2 k hk
theorem QR{l r:BT}{i:Nat}(h:i<l.n):(i:Int)+AE (BT.nd l r).w (i:Nat)<l.n:=by have:=Fs (x:=l) h;rw[Ca h]at this;rw[Ca (by simp only[BT.n];omega)];simp only[BT.at];rw[if_pos (by omega)];exact this.1
theorem L6{l r:BT}:AE (BT.nd l r).w (l.n:Nat)=r.n:=by rw[Ca (by simp only[BT.n];omega)];simp only[BT.at];rw[if_neg (by omega),if_neg (by omega)];rfl
theorem VK:∀{x y:BT},x.w=y.w→x=y
 |.lf,.lf,_=>rfl
 |.lf,.nd l r,h=>by have:=congrArg List.length h;rw[Bm,Bm]at this;simp[BT.n]at this
 |.nd l r,.lf,h=>by have:=congrArg List.length h;rw[Bm,Bm]at this;simp[BT.n]at this
 |.nd l r,.nd l' r',h=>by
  have hn:=congrArg List.length h
  rw[Bm,Bm]at hn
  have hn':=hn
  simp only[BT.n]at hn'
  have hl:l.n=l'.n:=by
   rcases Nat.lt_trichotomy l.n l'.n with q|q|q
   ·have h1:=QR (l:=l') (r:=r') q
    rw[←h,L6]at h1
    omega
   ·exact q
   ·have h1:=QR (l:=l) (r:=r) q
    rw[h,L6]at h1
    omega
  simp only[BT.w,CI]at h
  obtain⟨h1,h2⟩:=List.append_inj h (by rw[Bm,Bm];exact hl)
  obtain⟨_,h3⟩:=List.append_inj h2 rfl
  rw[VK h1,VK h3]
end Go.Cat
namespace Go.Cat
variable{K:Nat→List D→List D→Prop}
def DE(x y:BT):Bool:=decide (x.n=y.n)&&(List.range x.n).all fun i:Nat=>decide (AE x.w (i:Nat)≤AE y.w (i:Nat))
theorem Of{x y:BT}:DE x y=true↔Ll x y:=by simp only[DE,Ll,AX,Aj,Aw,List.mem_range]
theorem AFV{x y:BT}{i:Nat}(h:i<x.n)(h2:AE y.w (i:Nat)<AE x.w (i:Nat)):DE x y=false:=by rw[Bool.eq_false_iff];intro q;have:=(Of.1 q).2 i h;omega
theorem AIE{x y:BT}(h:x.n≠y.n):DE x y=false:=by rw[Bool.eq_false_iff];exact fun q=>h (Of.1 q).1
theorem Hv[HA K]{x y:BT}{m:Int}(h:x.n≤8)(h2:y.n≤8)(hm:0≤m∧m≤8):K 367 [.s x.t,.s y.t,.n m] [.b (decide ((x.n:Int)≤m)&&decide (x.n=y.n))]:=by
 refine qb Gp rfl ?_;simp only[Gp];simp(disch:=omega) only[AA];refine AD (Fk (K:=K) h) rfl ?_;by_cases h3:(x.n:Int)≤m
 ·simp(disch:=omega) only[AA];refine AD (Fk (K:=K) h2) rfl ?_;simp(disch:=omega) only[AA];by_cases h4:x.n=y.n
  ·simp[h3,h4]
  ·simp[h3,h4];omega
 ·rw[decide_eq_false h3];simp(disch:=omega) only[AA]
theorem UW[HA K]{x y:BT}(h:x.n≤8)(h2:y.n≤8):K 350 [.s x.t,.s y.t] [.b (DE x y)]:=by
 have lx:=Bm (x:=x);have ly:=Bm (x:=y);refine qb AIY rfl ?_;simp only[AIY];simp(disch:=omega) only[AA];refine AD (Hv (K:=K) (m:=8) h h2 (by omega)) rfl ?_;have e8:decide ((x.n:Int)≤8)=true:=decide_eq_true (by omega);by_cases h3:x.n=y.n
 ·have e9:decide (x.n=y.n)=true:=decide_eq_true h3;rw[e8,e9];simp(disch:=omega) only[AA];refine AD (KY (K:=K) h) rfl ?_;simp(disch:=omega) only[AA];refine AD (KY (K:=K) h2) rfl ?_;simp(disch:=omega) only[AA];refine AL (fun i=>∀j:Nat,j<i→AE x.w (j:Nat)≤AE y.w (j:Nat)) (fun i=>[.u,.u,.u,LI x.w,LI y.w,.u,.u,.n x.w.length,.n i,.u,.u]) x.w.length (by omega) rfl (fun i hi hP=>?_) (fun hP=>?_)
  ·by_cases q:AE x.w (i:Nat)≤AE y.w (i:Nat)
   ·simp(disch:=omega) only[AA];exact CB hP q
   ·simp(disch:=omega) only[AA];rw[AFV (i:=i) (by omega) (by omega)]
  ·simp(disch:=omega) only[AA];rw[Of.2 ⟨h3,fun i hi=>hP i (by omega)⟩]
 ·have e9:decide (x.n=y.n)=false:=decide_eq_false h3;rw[e8,e9];simp(disch:=omega) only[AA];rw[AIE h3]
theorem Hu[HA K]{x y:BT}(h:x.n≤8)(h2:y.n≤8):K 365 [.s x.t,.s y.t] [.b (decide (x.n=y.n))]:=by
 have tx:=BT.tl x;have ty:=BT.tl y;refine qb Kz rfl ?_;simp only[Kz];simp(disch:=omega) only[AA];refine AD (F8 (K:=K) (s:=x.t)) rfl ?_;simp(disch:=omega) only[AA,F7 h];refine AD (F8 (K:=K) (s:=y.t)) rfl ?_;simp(disch:=omega) only[AA,F7 h2];by_cases h4:x.n=y.n
 ·simp[h4,tx,ty]
 ·simp[h4,tx,ty];omega
theorem Uj[HA K]{x y:BT}(h:x.n≤8)(h2:y.n≤8):K 349 [.s x.t,.s y.t] [.b (DE x y)]:=by
 have lx:=Bm (x:=x);have ly:=Bm (x:=y);refine qb AGV rfl ?_;simp only[AGV];simp(disch:=omega) only[AA];refine AD (Hu (K:=K) h h2) rfl ?_;by_cases h3:x.n=y.n
 ·have e9:decide (x.n=y.n)=true:=decide_eq_true h3;rw[e9];simp(disch:=omega) only[AA];refine AD (Lk (K:=K) h) rfl ?_;simp(disch:=omega) only[AA];refine AD (Lk (K:=K) h2) rfl ?_;simp(disch:=omega) only[AA];refine AL (fun i=>∀j:Nat,j<i→AE x.w (j:Nat)≤AE y.w (j:Nat)) (fun i=>[.u,.u,.u,LI x.w,LI y.w,.n i,.u,.u,.u]) x.w.length (by omega) rfl (fun i hi hP=>?_) (fun hP=>?_)
  ·by_cases q:AE x.w (i:Nat)≤AE y.w (i:Nat)
   ·simp(disch:=omega) only[AA];exact CB hP q
   ·simp(disch:=omega) only[AA];rw[AFV (i:=i) (by omega) (by omega)]
  ·simp(disch:=omega) only[AA];rw[Of.2 ⟨h3,fun i hi=>hP i (by omega)⟩]
 ·have e9:decide (x.n=y.n)=false:=decide_eq_false h3;rw[e9];simp(disch:=omega) only[AA];rw[AIE h3]
theorem ARB[HA K]{a b:List Nat}{m:Int}(h:Ct a=false):K 367 [.s a,.s b,.n m] [.b false]:=by refine qb Gp rfl ?_;simp only[Gp];simp(disch:=omega) only[AA];refine AD (N8 (K:=K) h) rfl ?_;simp(disch:=omega) only[AA]
theorem AT0[HA K]{x:BT}{b:List Nat}(hx:x.n≤8)(h:Ct b=false):K 367 [.s x.t,.s b,.n 8] [.b false]:=by refine qb Gp rfl ?_;simp only[Gp];simp(disch:=omega) only[AA];refine AD (Fk (K:=K) hx) rfl ?_;simp(disch:=omega) only[AA];refine AD (N8 (K:=K) h) rfl ?_;simp(disch:=omega) only[AA]
theorem AFW[HA K]{a b:List Nat}(h:Ct a=false):K 365 [.s a,.s b] [.b false]:=by refine qb Kz rfl ?_;simp only[Kz];simp(disch:=omega) only[AA];refine AD (F8 (K:=K) (s:=a)) rfl ?_;simp(disch:=omega) only[AA,h]
theorem ACA[HA K]{x:BT}{b:List Nat}(hx:x.n≤8)(h:Ct b=false):K 365 [.s x.t,.s b] [.b false]:=by refine qb Kz rfl ?_;simp only[Kz];simp(disch:=omega) only[AA];refine AD (F8 (K:=K) (s:=x.t)) rfl ?_;simp(disch:=omega) only[AA,F7 hx];refine AD (F8 (K:=K) (s:=b)) rfl ?_;simp(disch:=omega) only[AA,h]
end Go.Cat
namespace Go.Cat
theorem Rg:∀{x y:BT}{a b:List Nat},x.t++a=y.t++b→x=y∧a=b
 |.lf,.lf,a,b,h=>by simpa[BT.t]using h
 |.lf,.nd _ _,a,b,h=>by simp[BT.t]at h
 |.nd _ _,.lf,a,b,h=>by simp[BT.t]at h
 |.nd l r,.nd l' r',a,b,h=>by
  simp only[BT.t,List.cons_append,CI,List.cons.injEq,true_and,List.nil_append]at h
  obtain⟨h1,h2⟩:=Rg h
  obtain⟨h3,h4⟩:=Rg h2
  subst h1;subst h3
  simp only[List.cons.injEq,true_and]at h4
  exact⟨rfl,h4⟩
theorem Uk{x y:BT}(h:x.t=y.t):x=y:=(Rg (a:=[]) (b:=[]) (by rw[h])).1
theorem AKT:∀{l:List Int}{i:Nat}{v:Int},i<l.length→AE l (i:Nat)<v→l.sum<(l.set i v).sum
 |[],i,v,h,_=>by simp at h
 |a::l,0,v,_,h=>by
  simp[AE]at h
  simp only[List.set_cons_zero,List.sum_cons]
  omega
 |a::l,i+1,v,h,h2=>by
  have:=AKT (l:=l) (i:=i) (v:=v) (by simpa using h) (by simpa[AE]using h2)
  simp only[List.set_cons_succ,List.sum_cons]
  omega
theorem W5:∀{a b:List Int},a.length=b.length→(∀i:Nat,i<a.length→AE a (i:Nat)≤AE b (i:Nat))→a.sum≤b.sum
 |[],[],_,_=>by simp
 |a::l,b::m,h,h2=>by
  have h0:=h2 0 (by simp)
  have:=W5 (a:=l) (b:=m) (by simpa using h) (fun i hi=>by
   have:=h2 (i+1) (by simpa using hi)
   simpa[AE]using this)
  simp[AE]at h0
  simp only[List.sum_cons]
  omega
theorem Ab3{x y:BT}(h:Ll x y):x.w.sum≤y.w.sum:=by refine W5 (by rw[Bm,Bm];exact h.1) (fun i hi=>h.2 i ?_);rw[Bm]at hi;exact hi
theorem AbY{x z:BT}{v:Nat}(hv:v<x.n)(h:BF x (v:Nat)=some z):x.w.sum<z.w.sum:=by
 obtain⟨a,c,hab⟩:=KQ (x:=x) (v:=(v:Nat)) (by omega) (by omega)
 cases a with
 |lf=>rw[OO (by omega) (by omega) hab]at h;cases h
 |nd a b=>
  rw[LO (by omega) (by omega) hab]at h
  injection h with h
  subst h
  rw[OK hv hab]
  have e:=Ca (x:=x) (v:=v-b.n-1) (by omega)
  rw[QQ hv hab]at e
  simp only[Hq]at e
  refine AKT (by rw[Bm];omega) ?_
  rw[e]
  omega
end Go.Cat
