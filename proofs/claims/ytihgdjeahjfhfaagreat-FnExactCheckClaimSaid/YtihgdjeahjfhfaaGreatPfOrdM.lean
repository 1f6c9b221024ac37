/-
 Weights and rotations to the right.
-/
import Derived.Test.YtihgdjeahjfhfaaGreatPfRotC
set_option linter.unusedSimpArgs false
set_option linter.unusedVariables false
namespace Go.Cat
theorem w_end:∀ {x:BT} {i:Nat},i<x.n→(i:Int)+atI x.w (i:Nat)<x.n∧0≤atI x.w (i:Nat)
 | .lf,i,h=>by simp [BT.n] at h
 | .nd l r,i,h=>by
  have h':=h
  simp only [BT.n] at h'
  rw [w_at h]
  simp only [BT.at,BT.n]
  by_cases q:i<l.n
  ·have:=w_end (x:=l) q
   rw [w_at q] at this
   rw [if_pos (by omega)]; omega
  ·rw [if_neg (by omega)]
   by_cases q2:l.n<i
   ·have:=w_end (x:=r) (i:=i-l.n-1) (by omega)
    rw [w_at (by omega)] at this
    rw [if_pos (by omega),show ((i:Nat):Int)-l.n-1=((i-l.n-1:Nat):Int) by omega]; omega
   ·rw [if_neg (by omega)]; simp only [rzB]; omega
theorem w_nest:∀ {x:BT} {i k:Nat},k<x.n→i<k→(k:Int)≤i+atI x.w (i:Nat)→(k:Int)+atI x.w (k:Nat)≤i+atI x.w (i:Nat)
 | .lf,i,k,h,_,_=>by simp [BT.n] at h
 | .nd l r,i,k,h,hik,hk=>by
  have h':=h
  simp only [BT.n] at h'
  have hi:i<(BT.nd l r).n:=by omega
  rw [w_at hi] at hk
  rw [w_at h,w_at hi]
  simp only [BT.at] at hk ⊢
  by_cases q:i<l.n
  ·rw [if_pos (show ((i:Nat):Int)<l.n by omega)] at hk ⊢
   have we:=w_end (x:=l) q
   rw [w_at q] at we
   have hkl:k<l.n:=by omega
   rw [if_pos (show ((k:Nat):Int)<l.n by omega)]
   have:=w_nest (x:=l) hkl hik (by rw [w_at q]; exact hk)
   rw [w_at q,w_at hkl] at this
   exact this
  ·rw [if_neg (show ¬ ((i:Nat):Int)<l.n by omega)] at hk ⊢
   rw [if_neg (show ¬ ((k:Nat):Int)<l.n by omega),if_pos (show (l.n:Int)<(k:Nat) by omega)]
   have wk:=w_end (x:=r) (i:=k-l.n-1) (by omega)
   rw [w_at (by omega)] at wk
   rw [show ((k:Nat):Int)-l.n-1=((k-l.n-1:Nat):Int) by omega]
   by_cases q2:l.n<i
   ·rw [if_pos (show (l.n:Int)<(i:Nat) by omega),show ((i:Nat):Int)-l.n-1=((i-l.n-1:Nat):Int) by omega] at hk ⊢
    have:=w_nest (x:=r) (i:=i-l.n-1) (k:=k-l.n-1) (by omega) (by omega) (by rw [w_at (by omega)]; omega)
    rw [w_at (by omega),w_at (by omega)] at this
    omega
   ·rw [if_neg (show ¬ (l.n:Int)<(i:Nat) by omega)] at hk ⊢
    rw [show rzB (BT.nd l r)=r.n from rfl] at hk ⊢
    omega
theorem left_at:∀ {x:BT} {i v:Nat},v<x.n→i<v→(i:Int)+atI x.w (i:Nat)+1=v→∃ a b c,x.at (v:Nat)=.nd (.nd a b) c∧b.n+1≤v∧v≤i+b.n+1
 | .lf,i,v,h,_,_=>by simp [BT.n] at h
 | .nd l r,i,v,h,hiv,hi=>by
  have h':=h
  simp only [BT.n] at h'
  have hin:i<(BT.nd l r).n:=by omega
  rw [w_at hin] at hi
  simp only [BT.at] at hi ⊢
  by_cases q:i<l.n
  ·rw [if_pos (show ((i:Nat):Int)<l.n by omega)] at hi
   have we:=w_end (x:=l) q
   rw [w_at q] at we
   by_cases q2:v<l.n
   ·rw [if_pos (show ((v:Nat):Int)<l.n by omega)]
    exact left_at q2 hiv (by rw [w_at q]; exact hi)
   ·obtain rfl:v=l.n:=by omega
    rw [if_neg (show ¬ ((l.n:Nat):Int)<l.n by omega),if_neg (show ¬ (l.n:Int)<(l.n:Nat) by omega)]
    cases l with
    | lf=>simp [BT.n] at q
    | nd a b=>
     refine ⟨a,b,r,rfl,by simp only [BT.n]; omega,?_⟩
     have q':=q
     simp only [BT.n] at q' hi ⊢
     simp only [BT.at] at hi
     by_cases q3:i<a.n
     ·have we2:=w_end (x:=a) q3
      rw [w_at q3] at we2
      rw [if_pos (show ((i:Nat):Int)<a.n by omega)] at hi
      omega
     ·omega
  ·rw [if_neg (show ¬ ((i:Nat):Int)<l.n by omega)] at hi
   rw [if_neg (show ¬ ((v:Nat):Int)<l.n by omega),if_pos (show (l.n:Int)<(v:Nat) by omega),show ((v:Nat):Int)-l.n-1=((v-l.n-1:Nat):Int) by omega]
   by_cases q2:l.n<i
   ·rw [if_pos (show (l.n:Int)<(i:Nat) by omega),show ((i:Nat):Int)-l.n-1=((i-l.n-1:Nat):Int) by omega] at hi
    obtain ⟨a,b,c,e1,e2,e3⟩:=left_at (x:=r) (i:=i-l.n-1) (v:=v-l.n-1) (by omega) (by omega) (by rw [w_at (by omega)]; omega)
    exact ⟨a,b,c,e1,by omega,by omega⟩
   ·rw [if_neg (show ¬ (l.n:Int)<(i:Nat) by omega),show rzB (BT.nd l r)=r.n from rfl] at hi
    omega
theorem at_left:∀ {x:BT} {v:Nat} {a b c:BT},v<x.n→x.at (v:Nat)=.nd (.nd a b) c→b.n+1≤v
 | .lf,v,_,_,_,h,_=>by simp [BT.n] at h
 | .nd l r,v,a,b,c,h,hab=>by
  have h':=h
  simp only [BT.n] at h'
  simp only [BT.at] at hab
  by_cases q:v<l.n
  ·rw [if_pos (by omega)] at hab
   exact at_left q hab
  ·rw [if_neg (by omega)] at hab
   by_cases q2:l.n<v
   ·rw [if_pos (by omega),show ((v:Nat):Int)-l.n-1=((v-l.n-1:Nat):Int) by omega] at hab
    have:=at_left (x:=r) (by omega) hab
    omega
   ·rw [if_neg (by omega)] at hab
    injection hab with h1 _
    rw [h1] at q
    simp only [BT.n] at q
    omega
theorem rep_w:∀ {x:BT} {v:Nat} {a b c:BT},v<x.n→x.at (v:Nat)=.nd (.nd a b) c→(x.rep (v:Nat) (.nd a (.nd b c))).w=x.w.set (v-b.n-1) ((b.n:Int)+c.n+1)
 | .lf,v,_,_,_,h,_=>by simp [BT.n] at h
 | .nd l r,v,a,b,c,h,hab=>by
  have h':=h
  have hb:=at_left h hab
  have hl:=w_len (x:=l)
  simp only [BT.n] at h'
  have hn:=rrB_n (rrB_nd (by omega) (by omega) hab)
  simp only [BT.at] at hab
  simp only [BT.rep] at hn ⊢
  by_cases q:v<l.n
  ·rw [if_pos (by omega)] at hab ⊢
   simp only [BT.w]
   rw [rep_w q hab,qaa,qaa,List.set_append_left _ _ (by omega)]
  ·rw [if_neg (by omega)] at hab hn ⊢
   by_cases q2:l.n<v
   ·rw [if_pos (by omega),show ((v:Nat):Int)-l.n-1=((v-l.n-1:Nat):Int) by omega] at hab hn ⊢
    have hb2:=at_left (x:=r) (by omega) hab
    simp only [BT.n] at hn
    simp only [BT.w]
    rw [rep_w (by omega) hab,List.set_append_right _ _ (by simp only [qla,qlc,qln]; omega)]
    simp only [qla,qlc,qln]
    rw [show v-b.n-1-(l.w.length+(0+1))=v-l.n-1-b.n-1 by omega,show (r.rep ((v-l.n-1:Nat):Int) (a.nd (b.nd c))).n=r.n by omega]
   ·rw [if_neg (by omega)] at hab ⊢
    injection hab with h1 h2
    subst h1 h2
    have ha:=w_len (x:=a)
    obtain rfl:v=(BT.nd a b).n:=by omega
    simp only [BT.w,BT.n]
    rw [show a.n+b.n+1-b.n-1=a.w.length by omega]
    simp only [qaa,List.set_append_right _ _ (Nat.le_refl _),Nat.sub_self,List.cons_append,List.nil_append,List.set_cons_zero]
    rw [show ((b.n+r.n+1:Nat):Int)=(b.n:Int)+r.n+1 by omega]
theorem at_p:∀ {x:BT} {v:Nat} {a b c:BT},v<x.n→x.at (v:Nat)=.nd (.nd a b) c→x.at ((v-b.n-1:Nat):Int)=.nd a b
 | .lf,v,_,_,_,h,_=>by simp [BT.n] at h
 | .nd l r,v,a,b,c,h,hab=>by
  have h':=h
  have hb:=at_left h hab
  simp only [BT.n] at h'
  simp only [BT.at] at hab ⊢
  by_cases q:v<l.n
  ·rw [if_pos (by omega)] at hab
   rw [if_pos (by omega)]
   exact at_p q hab
  ·rw [if_neg (by omega)] at hab
   by_cases q2:l.n<v
   ·rw [if_pos (by omega),show ((v:Nat):Int)-l.n-1=((v-l.n-1:Nat):Int) by omega] at hab
    have hb2:=at_left (x:=r) (by omega) hab
    have:=at_p (x:=r) (by omega) hab
    rw [if_neg (by omega),if_pos (by omega),show ((v-b.n-1:Nat):Int)-l.n-1=((v-l.n-1-b.n-1:Nat):Int) by omega]
    exact this
   ·rw [if_neg (by omega)] at hab
    injection hab with h1 h2
    subst h1 h2
    obtain rfl:v=(BT.nd a b).n:=by omega
    have hnn:(BT.nd a b).n=a.n+b.n+1:=rfl
    rw [if_pos (by omega)]
    simp only [BT.at]
    rw [if_neg (by omega),if_neg (by omega)]
def leW (x y:BT):Prop:=x.n=y.n∧∀ i:Nat,i<x.n→atI x.w (i:Nat)≤atI y.w (i:Nat)
theorem up_ex {x y:BT} (h:leW x y) (hne:x.w≠y.w):∃ (v:Nat) (z:BT),v<x.n∧rrB x v=some z∧leW z y:=by
 obtain ⟨h1,h2⟩:=h
 have lx:=w_len (x:=x)
 have ly:=w_len (x:=y)
 obtain ⟨i,hi,hlt⟩:∃ i:Nat,i<x.n∧atI x.w (i:Nat)<atI y.w (i:Nat):=by
  refine Classical.byContradiction fun q=>hne (atI_ext (by omega) fun i hi=>?_)
  have q1:¬ atI x.w (i:Nat)<atI y.w (i:Nat):=fun q2=>q ⟨i,by omega,q2⟩
  have:=h2 i (by omega)
  omega
 have ei:=w_end (x:=x) hi
 have ey:=w_end (x:=y) (i:=i) (by omega)
 obtain ⟨v,hv⟩:∃ v:Nat,(i:Int)+atI x.w (i:Nat)+1=v:=⟨((i:Int)+atI x.w (i:Nat)+1).toNat,by omega⟩
 have hvn:v<x.n:=by omega
 obtain ⟨a,b,c,e1,e2,e3⟩:=left_at hvn (by omega) hv
 have hz:=rrB_nd (x:=x) (v:=(v:Nat)) (by omega) (by omega) e1
 refine ⟨v,_,hvn,hz,by rw [rrB_n hz]; exact h1,fun k hk=>?_⟩
 rw [rrB_n hz] at hk
 rw [rep_w hvn e1]
 -- the left part's root in x
 have wv:=w_at (x:=x) hvn
 rw [e1] at wv
 simp only [rzB] at wv
 have hv2:=h2 v hvn
 have hp:=at_p hvn e1
 have hpn:v-b.n-1<x.n:=by omega
 have wpz:=w_at (x:=x) hpn
 rw [hp] at wpz
 simp only [rzB] at wpz
 by_cases hk2:k=v-b.n-1
 ·subst hk2
  have e:atI (x.w.set (v-b.n-1) ((b.n:Int)+c.n+1)) ((v-b.n-1:Nat):Int)=(b.n:Int)+c.n+1:=by simp [atI,show v-b.n-1<x.w.length by omega]
  rw [e]
  have hpy:=h2 _ hpn
  have g1:(v:Int)≤((v-b.n-1:Nat):Int)+atI y.w ((v-b.n-1:Nat):Int):=by
   by_cases q:v-b.n-1=i
   ·rw [q] at wpz ⊢
    omega
   ·have:=w_nest (x:=y) (i:=v-b.n-1) (k:=i) (by omega) (by omega) (by omega)
    omega
  have:=w_nest (x:=y) (i:=v-b.n-1) (k:=v) (by omega) (by omega) g1
  omega
 ·have e:atI (x.w.set (v-b.n-1) ((b.n:Int)+c.n+1)) (k:Int)=atI x.w (k:Nat):=by
   simp only [atI,qtn,qgd]
   rw [List.getElem?_set_ne (Ne.symm hk2)]
  rw [e]
  exact h2 k hk
theorem w_root {l r:BT} {i:Nat} (h:i<l.n):(i:Int)+atI (BT.nd l r).w (i:Nat)<l.n:=by
 have:=w_end (x:=l) h
 rw [w_at h] at this
 rw [w_at (by simp only [BT.n]; omega)]
 simp only [BT.at]
 rw [if_pos (by omega)]
 exact this.1
theorem w_rt {l r:BT}:atI (BT.nd l r).w (l.n:Nat)=r.n:=by
 rw [w_at (by simp only [BT.n]; omega)]
 simp only [BT.at]
 rw [if_neg (by omega),if_neg (by omega)]
 rfl
theorem w_inj:∀ {x y:BT},x.w=y.w→x=y
 | .lf,.lf,_=>rfl
 | .lf,.nd l r,h=>by have:=congrArg List.length h; rw [w_len,w_len] at this; simp [BT.n] at this
 | .nd l r,.lf,h=>by have:=congrArg List.length h; rw [w_len,w_len] at this; simp [BT.n] at this
 | .nd l r,.nd l' r',h=>by
  have hn:=congrArg List.length h
  rw [w_len,w_len] at hn
  have hn':=hn
  simp only [BT.n] at hn'
  have hl:l.n=l'.n:=by
   rcases Nat.lt_trichotomy l.n l'.n with q | q | q
   ·have h1:=w_root (l:=l') (r:=r') q
    rw [← h,w_rt] at h1
    omega
   ·exact q
   ·have h1:=w_root (l:=l) (r:=r) q
    rw [h,w_rt] at h1
    omega
  simp only [BT.w,qaa] at h
  obtain ⟨h1,h2⟩:=List.append_inj h (by rw [w_len,w_len]; exact hl)
  obtain ⟨_,h3⟩:=List.append_inj h2 rfl
  rw [w_inj h1,w_inj h3]
end Go.Cat
