/-
 Weights and rotations to the right.
-/
import Derived.Test.YtnjjceodpbhlmaaGreatPfClE
set_option linter.unusedSimpArgs false
set_option linter.unusedVariables false
namespace Go.Cat
theorem FK:∀ {x:BT} {i:Nat},i<x.n→(i:Int)+AD x.w (i:Nat)<x.n∧0≤AD x.w (i:Nat)
 | .lf,i,h=>by simp [BT.n] at h
 | .nd l r,i,h=>by
  have h':=h
  simp only [BT.n] at h'
  rw [CP h]
  simp only [BT.at,BT.n]
  by_cases q:i<l.n
  ·have:=FK (x:=l) q
   rw [CP q] at this
   rw [if_pos (by omega)]; omega
  ·rw [if_neg (by omega)]
   by_cases q2:l.n<i
   ·have:=FK (x:=r) (i:=i-l.n-1) (by omega)
    rw [CP (by omega)] at this
    rw [if_pos (by omega),show ((i:Nat):Int)-l.n-1=((i-l.n-1:Nat):Int) by omega]; omega
   ·rw [if_neg (by omega)]; simp only [Fl]; omega
theorem Oo:∀ {x:BT} {i k:Nat},k<x.n→i<k→(k:Int)≤i+AD x.w (i:Nat)→(k:Int)+AD x.w (k:Nat)≤i+AD x.w (i:Nat)
 | .lf,i,k,h,_,_=>by simp [BT.n] at h
 | .nd l r,i,k,h,hik,hk=>by
  have h':=h
  simp only [BT.n] at h'
  have hi:i<(BT.nd l r).n:=by omega
  rw [CP hi] at hk
  rw [CP h,CP hi]
  simp only [BT.at] at hk ⊢
  by_cases q:i<l.n
  ·rw [if_pos (show ((i:Nat):Int)<l.n by omega)] at hk ⊢
   have we:=FK (x:=l) q
   rw [CP q] at we
   have hkl:k<l.n:=by omega
   rw [if_pos (show ((k:Nat):Int)<l.n by omega)]
   have:=Oo (x:=l) hkl hik (by rw [CP q]; exact hk)
   rw [CP q,CP hkl] at this
   exact this
  ·rw [if_neg (show ¬ ((i:Nat):Int)<l.n by omega)] at hk ⊢
   rw [if_neg (show ¬ ((k:Nat):Int)<l.n by omega),if_pos (show (l.n:Int)<(k:Nat) by omega)]
   have wk:=FK (x:=r) (i:=k-l.n-1) (by omega)
   rw [CP (by omega)] at wk
   rw [show ((k:Nat):Int)-l.n-1=((k-l.n-1:Nat):Int) by omega]
   by_cases q2:l.n<i
   ·rw [if_pos (show (l.n:Int)<(i:Nat) by omega),show ((i:Nat):Int)-l.n-1=((i-l.n-1:Nat):Int) by omega] at hk ⊢
    have:=Oo (x:=r) (i:=i-l.n-1) (k:=k-l.n-1) (by omega) (by omega) (by rw [CP (by omega)]; omega)
    rw [CP (by omega),CP (by omega)] at this
    omega
   ·rw [if_neg (show ¬ (l.n:Int)<(i:Nat) by omega)] at hk ⊢
    rw [show Fl (BT.nd l r)=r.n from rfl] at hk ⊢
    omega
theorem left_at:∀ {x:BT} {i v:Nat},v<x.n→i<v→(i:Int)+AD x.w (i:Nat)+1=v→∃ a b c,x.at (v:Nat)=.nd (.nd a b) c∧b.n+1≤v∧v≤i+b.n+1
 | .lf,i,v,h,_,_=>by simp [BT.n] at h
 | .nd l r,i,v,h,hiv,hi=>by
  have h':=h
  simp only [BT.n] at h'
  have hin:i<(BT.nd l r).n:=by omega
  rw [CP hin] at hi
  simp only [BT.at] at hi ⊢
  by_cases q:i<l.n
  ·rw [if_pos (show ((i:Nat):Int)<l.n by omega)] at hi
   have we:=FK (x:=l) q
   rw [CP q] at we
   by_cases q2:v<l.n
   ·rw [if_pos (show ((v:Nat):Int)<l.n by omega)]
    exact left_at q2 hiv (by rw [CP q]; exact hi)
   ·obtain rfl:v=l.n:=by omega
    rw [if_neg (show ¬ ((l.n:Nat):Int)<l.n by omega),if_neg (show ¬ (l.n:Int)<(l.n:Nat) by omega)]
    cases l with
    | lf=>simp [BT.n] at q
    | nd a b=>
     refine ⟨a,b,r,rfl,by simp only [BT.n]; omega,?_⟩
     have q':=q
     simp only [BT.n] at q' hi ⊢
     simp only [BT.at] at hi
     by_cases q3:i<a.n
     ·have we2:=FK (x:=a) q3
      rw [CP q3] at we2
      rw [if_pos (show ((i:Nat):Int)<a.n by omega)] at hi
      omega
     ·omega
  ·rw [if_neg (show ¬ ((i:Nat):Int)<l.n by omega)] at hi
   rw [if_neg (show ¬ ((v:Nat):Int)<l.n by omega),if_pos (show (l.n:Int)<(v:Nat) by omega),show ((v:Nat):Int)-l.n-1=((v-l.n-1:Nat):Int) by omega]
   by_cases q2:l.n<i
   ·rw [if_pos (show (l.n:Int)<(i:Nat) by omega),show ((i:Nat):Int)-l.n-1=((i-l.n-1:Nat):Int) by omega] at hi
    obtain ⟨a,b,c,e1,e2,e3⟩:=left_at (x:=r) (i:=i-l.n-1) (v:=v-l.n-1) (by omega) (by omega) (by rw [CP (by omega)]; omega)
    exact ⟨a,b,c,e1,by omega,by omega⟩
   ·rw [if_neg (show ¬ (l.n:Int)<(i:Nat) by omega),show Fl (BT.nd l r)=r.n from rfl] at hi
    omega
theorem Jt:∀ {x:BT} {v:Nat} {a b c:BT},v<x.n→x.at (v:Nat)=.nd (.nd a b) c→b.n+1≤v
 | .lf,v,_,_,_,h,_=>by simp [BT.n] at h
 | .nd l r,v,a,b,c,h,hab=>by
  have h':=h
  simp only [BT.n] at h'
  simp only [BT.at] at hab
  by_cases q:v<l.n
  ·rw [if_pos (by omega)] at hab
   exact Jt q hab
  ·rw [if_neg (by omega)] at hab
   by_cases q2:l.n<v
   ·rw [if_pos (by omega),show ((v:Nat):Int)-l.n-1=((v-l.n-1:Nat):Int) by omega] at hab
    have:=Jt (x:=r) (by omega) hab
    omega
   ·rw [if_neg (by omega)] at hab
    injection hab with h1 _
    rw [h1] at q
    simp only [BT.n] at q
    omega
theorem Lw:∀ {x:BT} {v:Nat} {a b c:BT},v<x.n→x.at (v:Nat)=.nd (.nd a b) c→(x.rep (v:Nat) (.nd a (.nd b c))).w=x.w.set (v-b.n-1) ((b.n:Int)+c.n+1)
 | .lf,v,_,_,_,h,_=>by simp [BT.n] at h
 | .nd l r,v,a,b,c,h,hab=>by
  have h':=h
  have hb:=Jt h hab
  have hl:=CJ (x:=l)
  simp only [BT.n] at h'
  have hn:=Dx (IU (by omega) (by omega) hab)
  simp only [BT.at] at hab
  simp only [BT.rep] at hn ⊢
  by_cases q:v<l.n
  ·rw [if_pos (by omega)] at hab ⊢
   simp only [BT.w]
   rw [Lw q hab,Bw,Bw,List.set_append_left _ _ (by omega)]
  ·rw [if_neg (by omega)] at hab hn ⊢
   by_cases q2:l.n<v
   ·rw [if_pos (by omega),show ((v:Nat):Int)-l.n-1=((v-l.n-1:Nat):Int) by omega] at hab hn ⊢
    have hb2:=Jt (x:=r) (by omega) hab
    simp only [BT.n] at hn
    simp only [BT.w]
    rw [Lw (by omega) hab,List.set_append_right _ _ (by simp only [Ad,A6,Aq]; omega)]
    simp only [Ad,A6,Aq]
    rw [show v-b.n-1-(l.w.length+(0+1))=v-l.n-1-b.n-1 by omega,show (r.rep ((v-l.n-1:Nat):Int) (a.nd (b.nd c))).n=r.n by omega]
   ·rw [if_neg (by omega)] at hab ⊢
    injection hab with h1 h2
    subst h1 h2
    have ha:=CJ (x:=a)
    obtain rfl:v=(BT.nd a b).n:=by omega
    simp only [BT.w,BT.n]
    rw [show a.n+b.n+1-b.n-1=a.w.length by omega]
    simp only [Bw,List.set_append_right _ _ (Nat.le_refl _),Nat.sub_self,List.cons_append,List.nil_append,List.set_cons_zero]
    rw [show ((b.n+r.n+1:Nat):Int)=(b.n:Int)+r.n+1 by omega]
theorem NY:∀ {x:BT} {v:Nat} {a b c:BT},v<x.n→x.at (v:Nat)=.nd (.nd a b) c→x.at ((v-b.n-1:Nat):Int)=.nd a b
 | .lf,v,_,_,_,h,_=>by simp [BT.n] at h
 | .nd l r,v,a,b,c,h,hab=>by
  have h':=h
  have hb:=Jt h hab
  simp only [BT.n] at h'
  simp only [BT.at] at hab ⊢
  by_cases q:v<l.n
  ·rw [if_pos (by omega)] at hab
   rw [if_pos (by omega)]
   exact NY q hab
  ·rw [if_neg (by omega)] at hab
   by_cases q2:l.n<v
   ·rw [if_pos (by omega),show ((v:Nat):Int)-l.n-1=((v-l.n-1:Nat):Int) by omega] at hab
    have hb2:=Jt (x:=r) (by omega) hab
    have:=NY (x:=r) (by omega) hab
    rw [if_neg (by omega),if_pos (by omega),show ((v-b.n-1:Nat):Int)-l.n-1=((v-l.n-1-b.n-1:Nat):Int) by omega]
    exact this
   ·rw [if_neg (by omega)] at hab
    injection hab with h1 h2
    subst h1 h2
    obtain rfl:v=(BT.nd a b).n:=by omega
    have hnn:(BT.nd a b).n=a.n+b.n+1:=rfl
    rw [if_pos (by omega)]
    simp only [BT.at]
    rw [if_neg (by omega),if_neg (by omega)]
def C9 (x y:BT):Prop:=x.n=y.n∧∀ i:Nat,i<x.n→AD x.w (i:Nat)≤AD y.w (i:Nat)
theorem Vo {x y:BT} (h:C9 x y) (hne:x.w≠y.w):∃ (v:Nat) (z:BT),v<x.n∧BB x v=some z∧C9 z y:=by
 obtain ⟨h1,h2⟩:=h
 have lx:=CJ (x:=x)
 have ly:=CJ (x:=y)
 obtain ⟨i,hi,hlt⟩:∃ i:Nat,i<x.n∧AD x.w (i:Nat)<AD y.w (i:Nat):=by
  refine Classical.byContradiction fun q=>hne (AK4 (by omega) fun i hi=>?_)
  have q1:¬ AD x.w (i:Nat)<AD y.w (i:Nat):=fun q2=>q ⟨i,by omega,q2⟩
  have:=h2 i (by omega)
  omega
 have ei:=FK (x:=x) hi
 have ey:=FK (x:=y) (i:=i) (by omega)
 obtain ⟨v,hv⟩:∃ v:Nat,(i:Int)+AD x.w (i:Nat)+1=v:=⟨((i:Int)+AD x.w (i:Nat)+1).toNat,by omega⟩
 have hvn:v<x.n:=by omega
 obtain ⟨a,b,c,e1,e2,e3⟩:=left_at hvn (by omega) hv
 have hz:=IU (x:=x) (v:=(v:Nat)) (by omega) (by omega) e1
 refine ⟨v,_,hvn,hz,by rw [Dx hz]; exact h1,fun k hk=>?_⟩
 rw [Dx hz] at hk
 rw [Lw hvn e1]
 -- the left part's root in x
 have wv:=CP (x:=x) hvn
 rw [e1] at wv
 simp only [Fl] at wv
 have hv2:=h2 v hvn
 have hp:=NY hvn e1
 have hpn:v-b.n-1<x.n:=by omega
 have wpz:=CP (x:=x) hpn
 rw [hp] at wpz
 simp only [Fl] at wpz
 by_cases hk2:k=v-b.n-1
 ·subst hk2
  have e:AD (x.w.set (v-b.n-1) ((b.n:Int)+c.n+1)) ((v-b.n-1:Nat):Int)=(b.n:Int)+c.n+1:=by simp [AD,show v-b.n-1<x.w.length by omega]
  rw [e]
  have hpy:=h2 _ hpn
  have g1:(v:Int)≤((v-b.n-1:Nat):Int)+AD y.w ((v-b.n-1:Nat):Int):=by
   by_cases q:v-b.n-1=i
   ·rw [q] at wpz ⊢
    omega
   ·have:=Oo (x:=y) (i:=v-b.n-1) (k:=i) (by omega) (by omega) (by omega)
    omega
  have:=Oo (x:=y) (i:=v-b.n-1) (k:=v) (by omega) (by omega) g1
  omega
 ·have e:AD (x.w.set (v-b.n-1) ((b.n:Int)+c.n+1)) (k:Int)=AD x.w (k:Nat):=by
   simp only [AD,CB,BP]
   rw [List.getElem?_set_ne (Ne.symm hk2)]
  rw [e]
  exact h2 k hk
theorem YM {l r:BT} {i:Nat} (h:i<l.n):(i:Int)+AD (BT.nd l r).w (i:Nat)<l.n:=by
 have:=FK (x:=l) h
 rw [CP h] at this
 rw [CP (by simp only [BT.n]; omega)]
 simp only [BT.at]
 rw [if_pos (by omega)]
 exact this.1
theorem AFZ {l r:BT}:AD (BT.nd l r).w (l.n:Nat)=r.n:=by
 rw [CP (by simp only [BT.n]; omega)]
 simp only [BT.at]
 rw [if_neg (by omega),if_neg (by omega)]
 rfl
theorem PU:∀ {x y:BT},x.w=y.w→x=y
 | .lf,.lf,_=>rfl
 | .lf,.nd l r,h=>by have:=congrArg List.length h; rw [CJ,CJ] at this; simp [BT.n] at this
 | .nd l r,.lf,h=>by have:=congrArg List.length h; rw [CJ,CJ] at this; simp [BT.n] at this
 | .nd l r,.nd l' r',h=>by
  have hn:=congrArg List.length h
  rw [CJ,CJ] at hn
  have hn':=hn
  simp only [BT.n] at hn'
  have hl:l.n=l'.n:=by
   rcases Nat.lt_trichotomy l.n l'.n with q | q | q
   ·have h1:=YM (l:=l') (r:=r') q
    rw [← h,AFZ] at h1
    omega
   ·exact q
   ·have h1:=YM (l:=l) (r:=r) q
    rw [h,AFZ] at h1
    omega
  simp only [BT.w,Bw] at h
  obtain ⟨h1,h2⟩:=List.append_inj h (by rw [CJ,CJ]; exact hl)
  obtain ⟨_,h3⟩:=List.append_inj h2 rfl
  rw [PU h1,PU h3]
end Go.Cat
namespace Go.Cat
theorem Rg:∀ {x y:BT} {a b:List Nat},x.t++a=y.t++b→x=y∧a=b
 | .lf,.lf,a,b,h=>by simpa [BT.t] using h
 | .lf,.nd _ _,a,b,h=>by simp [BT.t] at h
 | .nd _ _,.lf,a,b,h=>by simp [BT.t] at h
 | .nd l r,.nd l' r',a,b,h=>by
  simp only [BT.t,List.cons_append,Bw,List.cons.injEq,true_and,List.nil_append] at h
  obtain ⟨h1,h2⟩:=Rg h
  obtain ⟨h3,h4⟩:=Rg h2
  subst h1; subst h3
  simp only [List.cons.injEq,true_and] at h4
  exact ⟨rfl,h4⟩
theorem Jq {x y:BT} (h:x.t=y.t):x=y:=(Rg (a:=[]) (b:=[]) (by rw [h])).1
theorem Vk:∀ {l:List Int} {i:Nat} {v:Int},i<l.length→AD l (i:Nat)<v→l.sum<(l.set i v).sum
 | [],i,v,h,_=>by simp at h
 | a::l,0,v,_,h=>by
  simp [AD] at h
  simp only [List.set_cons_zero,List.sum_cons]
  omega
 | a::l,i+1,v,h,h2=>by
  have:=Vk (l:=l) (i:=i) (v:=v) (by simpa using h) (by simpa [AD] using h2)
  simp only [List.set_cons_succ,List.sum_cons]
  omega
theorem Xw:∀ {a b:List Int},a.length=b.length→(∀ i:Nat,i<a.length→AD a (i:Nat)≤AD b (i:Nat))→a.sum≤b.sum
 | [],[],_,_=>by simp
 | a::l,b::m,h,h2=>by
  have h0:=h2 0 (by simp)
  have:=Xw (a:=l) (b:=m) (by simpa using h) (fun i hi=>by
   have:=h2 (i+1) (by simpa using hi)
   simpa [AD] using this)
  simp [AD] at h0
  simp only [List.sum_cons]
  omega
theorem X1:∀ {l:List Int},(∀ i:Nat,i<l.length→0≤AD l (i:Nat)∧AD l (i:Nat)≤8)→0≤l.sum∧l.sum≤8*l.length
 | [],_=>by simp
 | a::l,h=>by
  have h0:=h 0 (by simp)
  have:=X1 (l:=l) (fun i hi=>by
   have:=h (i+1) (by simpa using hi)
   simpa [AD] using this)
  simp [AD] at h0
  simp only [List.sum_cons,A6]
  omega
theorem Mf {x y:BT} (h:C9 x y):x.w.sum≤y.w.sum:=by
 refine Xw (by rw [CJ,CJ]; exact h.1) (fun i hi=>h.2 i ?_)
 rw [CJ] at hi
 exact hi
theorem Ml {x:BT} (h:x.n≤8):0≤x.w.sum∧x.w.sum≤64:=by
 have:=X1 (l:=x.w) (fun i hi=>by
  rw [CJ] at hi
  have:=FK hi
  omega)
 rw [CJ] at this
 omega
theorem ZT {x z:BT} {v:Nat} (hv:v<x.n) (h:BB x (v:Nat)=some z):x.w.sum<z.w.sum:=by
 obtain ⟨a,c,hab⟩:=IG (x:=x) (v:=(v:Nat)) (by omega) (by omega)
 cases a with
 | lf=>rw [NR (by omega) (by omega) hab] at h; cases h
 | nd a b=>
  rw [IU (by omega) (by omega) hab] at h
  injection h with h
  subst h
  rw [Lw hv hab]
  have e:=CP (x:=x) (v:=v-b.n-1) (by omega)
  rw [NY hv hab] at e
  simp only [Fl] at e
  refine Vk (by rw [CJ]; omega) ?_
  rw [e]
  omega
end Go.Cat
