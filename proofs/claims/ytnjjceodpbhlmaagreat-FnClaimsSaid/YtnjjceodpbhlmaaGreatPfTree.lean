/-
 Binary trees as texts.
-/
import Derived.Test.YtnjjceodpbhlmaaGreatPfPath
import Derived.Test.YtnjjceodpbhlmaaGreatIrHas
set_option linter.unusedSimpArgs false
set_option linter.unusedVariables false
namespace Go.Cat
variable {K:Nat→List D→List D→Prop}
inductive BT
 | lf
 | nd (l r:BT)
def BT.d:BT→D
 | .lf=>.z
 | .nd l r=>.p [l.d,r.d]
def BT.t:BT→List Nat
 | .lf=>[46]
 | .nd l r=>40::(l.t++(r.t++[41]))
def BT.n:BT→Nat
 | .lf=>0
 | .nd l r=>l.n+r.n+1
theorem BT.tl:∀ x:BT,x.t.length=3*x.n+1
 | .lf=>rfl
 | .nd l r=>by
  have:=BT.tl l
  have:=BT.tl r
  simp only [BT.t,BT.n,A6,Ad,Aq]; omega
theorem BT.Et {x:BT}:known x.d=some x.d:=by cases x <;> rfl
theorem BT.AHT {x:BT}:x.d.one=true:=by cases x <;> rfl
theorem BT.pre:∀ {x y:BT} {a b:List Nat},x.t++a=y.t++b→x=y∧a=b
 | .lf,.lf,a,b,h=>by simpa [BT.t] using h
 | .lf,.nd _ _,a,b,h=>by simp [BT.t] at h
 | .nd _ _,.lf,a,b,h=>by simp [BT.t] at h
 | .nd l r,.nd l' r',a,b,h=>by
  simp only [BT.t,List.cons_append,Bw,List.cons.injEq,true_and] at h
  obtain ⟨h1,h2⟩:=BT.pre h
  obtain ⟨h3,h4⟩:=BT.pre h2
  subst h1; subst h3
  simpa using h4
theorem BT.inj {x y:BT} (h:x.t=y.t):x=y:=(BT.pre (a:=[]) (b:=[]) (by rw [h])).1
theorem Js {s:List Nat} {i:Nat} {c:Nat} {r:List Nat} (h:s.drop i=c::r):i<s.length∧Ap s i=c∧s.drop (i+1)=r:=by
 have hi:i<s.length:=by
  rcases CC i s.length with q | q
  ·exact q
  ·rw [List.drop_of_length_le q] at h; cases h
 rw [FD hi] at h
 injection h with h1 h2
 exact ⟨hi,h1,h2⟩
theorem Ha {s a b:List Nat} {i:Nat} (h:s.drop i=a++b):s.drop (i+a.length)=b:=by
 rw [← List.drop_drop,h]; simp
theorem KN [HA K] {s:List Nat} (hl:s.length≤1000000000):∀ (x:BT) (i:Nat) (r:List Nat),s.drop i=x.t++r→K 208 [.s s,.n i] [x.d,.n (i+x.t.length)]
 | .lf,i,r,h=>by
  obtain ⟨hi,hc,_⟩:=Js (c:=46) (r:=r) (by simpa [BT.t] using h)
  refine AG (f:=Fb) rfl ?_; simp only [Fb,zu]
  simp (disch:=omega) only [AA,hc]
  simp [BT.d,BT.t]
 | .nd a b,i,r,h=>by
  simp only [BT.t,List.cons_append,Bw] at h
  obtain ⟨hi,hc,h1⟩:=Js h
  have h2:=Ha h1
  have h3:=Ha h2
  obtain ⟨h4,h5,h6⟩:=Js (c:=41) (r:=r) (by simpa using h3)
  have k1:=KN hl a (i+1) _ h1
  have k2:=KN hl b (i+1+a.t.length) _ h2
  have e1:((i+1:Nat):Int)=(i:Int)+1:=by omega
  have e2:((i+1+a.t.length:Nat):Int)=(i:Int)+1+a.t.length:=by omega
  rw [e1] at k1
  rw [e2] at k2
  have e3:Ap s ((i:Int)+1+a.t.length+b.t.length)=41:=by rw [← h5]; congr 1
  refine AG (f:=Fb) rfl ?_; simp only [Fb,zu]
  simp (disch:=omega) only [AA,hc]
  refine AE (k1) rfl ?_
  simp (disch:=omega) only [AA]
  refine AE (k2) rfl ?_
  simp (disch:=omega) only [AA,e3,BT.AHT]
  simp only [BT.d,BT.t,A6,Ad,Aq]
  exact D2 rfl (congrArg D.n (by omega))
def HD (s:List Nat) (i:Nat):Prop:=∀ (x:BT) (r:List Nat),s.drop i≠x.t++r
theorem AH0 [HA K] {s:List Nat} (hl:s.length≤1000000000):∀ (n i:Nat),s.length-i≤n→HD s i→K 208 [.s s,.n i] [.z,.n (-1)]:=by
 intro n
 induction n with
 | zero=>
  intro i hi _
  refine AG (f:=Fb) rfl ?_; simp only [Fb,zu]
  have:s.length≤i:=by omega
  simp (disch:=omega) only [AA]
 | succ n ih=>
  intro i hi hno
  refine AG (f:=Fb) rfl ?_; simp only [Fb,zu]
  by_cases h0:i<s.length
  ·by_cases h46:Ap s i=46
   ·exact absurd (FD h0) (by rw [h46]; exact hno .lf _)
   ·by_cases h40:Ap s i=40
    ·have e1:((i+1:Nat):Int)=(i:Int)+1:=by omega
     have hd:s.drop i=40::s.drop (i+1):=by rw [FD h0,h40]
     by_cases ha:HD s (i+1)
     ·have k1:=ih (i+1) (by omega) ha
      rw [e1] at k1
      simp (disch:=omega) only [AA,h40]
      refine AE (k1) rfl ?_
      simp (disch:=omega) only [AA]
     ·obtain ⟨a,r1,ha⟩:∃ (a:BT) (r:List Nat),s.drop (i+1)=a.t++r:=by
       refine Classical.byContradiction fun q=>ha fun x r e=>q ⟨x,r,e⟩
      have k1:=KN (K:=K) hl a (i+1) _ ha
      rw [e1] at k1
      have h2:=Ha ha
      have e2:((i+1+a.t.length:Nat):Int)=(i:Int)+1+a.t.length:=by omega
      have hlen:=congrArg List.length ha
      simp only [List.length_drop,Ad] at hlen
      by_cases hb:HD s (i+1+a.t.length)
      ·have k2:=ih (i+1+a.t.length) (by omega) hb
       rw [e2] at k2
       simp (disch:=omega) only [AA,h40]
       refine AE (k1) rfl ?_
       simp (disch:=omega) only [AA]
       refine AE (k2) rfl ?_
       simp (disch:=omega) only [AA]
      ·obtain ⟨b,r2,hb⟩:∃ (b:BT) (r:List Nat),s.drop (i+1+a.t.length)=b.t++r:=by
        refine Classical.byContradiction fun q=>hb fun x r e=>q ⟨x,r,e⟩
       have k2:=KN (K:=K) hl b (i+1+a.t.length) _ hb
       rw [e2] at k2
       have h3:=Ha hb
       have hlen2:=congrArg List.length hb
       simp only [List.length_drop,Ad] at hlen2
       by_cases h4:i+1+a.t.length+b.t.length<s.length
       ·have h5:Ap s ((i:Int)+1+a.t.length+b.t.length)≠41:=by
         intro q
         have e3:Ap s ((i+1+a.t.length+b.t.length:Nat):Int)=41:=by rw [← q]; congr 1
         rw [FD h4,e3] at h3
         refine hno (.nd a b) (s.drop (i+1+a.t.length+b.t.length+1)) ?_
         rw [hd,ha,← h2,hb,← h3]
         simp [BT.t]
        simp (disch:=omega) only [AA,h40]
        refine AE (k1) rfl ?_
        simp (disch:=omega) only [AA]
        refine AE (k2) rfl ?_
        simp (disch:=omega) only [AA]
       ·simp (disch:=omega) only [AA,h40]
        refine AE (k1) rfl ?_
        simp (disch:=omega) only [AA]
        refine AE (k2) rfl ?_
        simp (disch:=omega) only [AA]
    ·simp (disch:=omega) only [AA]
  ·simp (disch:=omega) only [AA]
theorem Ip [HA K] {s:List Nat} (hl:s.length≤1000000000):∀ (x:BT) (i:Nat) (r:List Nat),s.drop i=x.t++r→K 188 [.s s,.n i] [.n (i+x.t.length)]
 | .lf,i,r,h=>by
  obtain ⟨hi,hc,_⟩:=Js (c:=46) (r:=r) (by simpa [BT.t] using h)
  refine AG (f:=Fh) rfl ?_; simp only [Fh,zu]
  simp (disch:=omega) only [AA,hc]
  simp [BT.t]
 | .nd a b,i,r,h=>by
  simp only [BT.t,List.cons_append,Bw] at h
  obtain ⟨hi,hc,h1⟩:=Js h
  have h2:=Ha h1
  have h3:=Ha h2
  obtain ⟨h4,h5,h6⟩:=Js (c:=41) (r:=r) (by simpa using h3)
  have k1:=Ip hl a (i+1) _ h1
  have k2:=Ip hl b (i+1+a.t.length) _ h2
  have e1:((i+1:Nat):Int)=(i:Int)+1:=by omega
  have e2:((i+1+a.t.length:Nat):Int)=(i:Int)+1+a.t.length:=by omega
  rw [e1] at k1
  rw [e2] at k2
  have e3:Ap s ((i:Int)+1+a.t.length+b.t.length)=41:=by rw [← h5]; congr 1
  refine AG (f:=Fh) rfl ?_; simp only [Fh,zu]
  simp (disch:=omega) only [AA,hc]
  refine AE (k1) rfl ?_
  simp (disch:=omega) only [AA]
  refine AE (k2) rfl ?_
  simp (disch:=omega) only [AA,e3]
  simp only [BT.t,A6,Ad,Aq]
  exact Dn (by omega)
theorem APE [HA K] {s:List Nat} (hl:s.length≤1000000000):∀ (n i:Nat),s.length-i≤n→HD s i→K 188 [.s s,.n i] [.n (-1)]:=by
 intro n
 induction n with
 | zero=>
  intro i hi _
  refine AG (f:=Fh) rfl ?_; simp only [Fh,zu]
  have:s.length≤i:=by omega
  simp (disch:=omega) only [AA]
 | succ n ih=>
  intro i hi hno
  refine AG (f:=Fh) rfl ?_; simp only [Fh,zu]
  by_cases h0:i<s.length
  ·by_cases h46:Ap s i=46
   ·exact absurd (FD h0) (by rw [h46]; exact hno .lf _)
   ·by_cases h40:Ap s i=40
    ·have e1:((i+1:Nat):Int)=(i:Int)+1:=by omega
     have hd:s.drop i=40::s.drop (i+1):=by rw [FD h0,h40]
     by_cases ha:HD s (i+1)
     ·have k1:=ih (i+1) (by omega) ha
      rw [e1] at k1
      simp (disch:=omega) only [AA,h40]
      refine AE (k1) rfl ?_
      simp (disch:=omega) only [AA]
     ·obtain ⟨a,r1,ha⟩:∃ (a:BT) (r:List Nat),s.drop (i+1)=a.t++r:=by
       refine Classical.byContradiction fun q=>ha fun x r e=>q ⟨x,r,e⟩
      have k1:=Ip (K:=K) hl a (i+1) _ ha
      rw [e1] at k1
      have h2:=Ha ha
      have e2:((i+1+a.t.length:Nat):Int)=(i:Int)+1+a.t.length:=by omega
      have hlen:=congrArg List.length ha
      simp only [List.length_drop,Ad] at hlen
      by_cases hb:HD s (i+1+a.t.length)
      ·have k2:=ih (i+1+a.t.length) (by omega) hb
       rw [e2] at k2
       simp (disch:=omega) only [AA,h40]
       refine AE (k1) rfl ?_
       simp (disch:=omega) only [AA]
       refine AE (k2) rfl ?_
       simp (disch:=omega) only [AA]
      ·obtain ⟨b,r2,hb⟩:∃ (b:BT) (r:List Nat),s.drop (i+1+a.t.length)=b.t++r:=by
        refine Classical.byContradiction fun q=>hb fun x r e=>q ⟨x,r,e⟩
       have k2:=Ip (K:=K) hl b (i+1+a.t.length) _ hb
       rw [e2] at k2
       have h3:=Ha hb
       have hlen2:=congrArg List.length hb
       simp only [List.length_drop,Ad] at hlen2
       by_cases h4:i+1+a.t.length+b.t.length<s.length
       ·have h5:Ap s ((i:Int)+1+a.t.length+b.t.length)≠41:=by
         intro q
         have e3:Ap s ((i+1+a.t.length+b.t.length:Nat):Int)=41:=by rw [← q]; congr 1
         rw [FD h4,e3] at h3
         refine hno (.nd a b) (s.drop (i+1+a.t.length+b.t.length+1)) ?_
         rw [hd,ha,← h2,hb,← h3]
         simp [BT.t]
        simp (disch:=omega) only [AA,h40]
        refine AE (k1) rfl ?_
        simp (disch:=omega) only [AA]
        refine AE (k2) rfl ?_
        simp (disch:=omega) only [AA]
       ·simp (disch:=omega) only [AA,h40]
        refine AE (k1) rfl ?_
        simp (disch:=omega) only [AA]
        refine AE (k2) rfl ?_
        simp (disch:=omega) only [AA]
    ·simp (disch:=omega) only [AA]
  ·simp (disch:=omega) only [AA]
theorem Ki:(false == true)=false:=rfl
theorem JC [HA K]:∀ (x:BT),x.n≤1000000→K 197 [x.d] [.n x.n]
 | .lf,_=>by
  refine AG (f:=Ih) rfl ?_; simp only [Ih,zu]
  simp only [BT.d,BT.n]
  simp (disch:=omega) only [AA]
 | .nd l r,h=>by
  simp only [BT.n] at h
  have k1:=JC l (by omega)
  have k2:=JC r (by omega)
  refine AG (f:=Ih) rfl ?_; simp only [Ih,zu]
  simp only [BT.d,BT.n]
  simp (disch:=omega) only [AA,BT.Et,Ki]
  refine AE (k1) rfl ?_
  simp (disch:=omega) only [AA,BT.Et]
  refine AE (k2) rfl ?_
  simp (disch:=omega) only [AA]
  exact Dn (by omega)
def isT (s:List Nat):Prop:=s.length≤25∧∃ x:BT,s=x.t
open Classical in
noncomputable def BU (s:List Nat):Bool:=decide (isT s)
theorem F1 {x:BT} (h:x.n≤8):BU x.t=true:=by
 have:=BT.tl x
 simp only [BU,Aj]
 exact ⟨by omega,x,rfl⟩
theorem Ek {s:List Nat} (h:BU s=true):∃ x:BT,s=x.t∧x.n≤8:=by
 have h:isT s:=by
  simp only [BU,Aj] at h
  exact h
 obtain ⟨h1,x,rfl⟩:=h
 have:=BT.tl x
 exact ⟨x,rfl,by omega⟩
theorem AD5 {s:List Nat} (h:BU s=false):¬ isT s:=by
 simp only [BU,decide_eq_false_iff_not] at h
 exact h
theorem UH [HA K] {x:BT} (h:x.n≤8):K 194 [.s x.t] [x.d,.b true]:=by
 have hl:=BT.tl x
 have k1:=KN (K:=K) (s:=x.t) (by omega) x 0 [] (by simp)
 have e0:((0:Nat):Int)+(x.t.length:Int)=x.t.length:=by omega
 rw [e0] at k1
 refine AG (f:=I9) rfl ?_; simp only [I9,zu]
 simp (disch:=omega) only [AA]
 refine AE (k1) rfl ?_
 simp (disch:=omega) only [AA,BT.Et]
 refine AE (JC (K:=K) x (by omega)) rfl ?_
 simp (disch:=omega) only [AA]
theorem S3 [HA K] {s:List Nat} (h:BU s=false):K 194 [.s s] [.z,.b false]:=by
 have hn:=AD5 h
 refine AG (f:=I9) rfl ?_; simp only [I9,zu]
 by_cases hl:25<s.length
 ·simp (disch:=omega) only [AA]
 ·by_cases hno:HD s 0
  ·have k1:=AH0 (K:=K) (s:=s) (by omega) s.length 0 (by omega) hno
   simp (disch:=omega) only [AA]
   refine AE (k1) rfl ?_
   simp (disch:=omega) only [AA]
  ·obtain ⟨x,r,ha⟩:∃ (x:BT) (r:List Nat),s.drop 0=x.t++r:=Classical.byContradiction fun q=>hno fun x r e=>q ⟨x,r,e⟩
   have k1:=KN (K:=K) (s:=s) (by omega) x 0 r ha
   have e0:((0:Nat):Int)+(x.t.length:Int)=x.t.length:=by omega
   rw [e0] at k1
   rw [List.drop_zero] at ha
   have hlen:=congrArg List.length ha
   rw [Ad] at hlen
   have hr:r.length≠0:=by
    intro q
    have:r=[]:=FX q
    subst this
    exact hn ⟨by omega,x,by simpa using ha⟩
   have hx:=BT.tl x
   simp (disch:=omega) only [AA]
   refine AE (k1) rfl ?_
   simp (disch:=omega) only [AA]
theorem XE [HA K] {s:List Nat}:K 167 [.s s] [.b (BU s)]:=by
 refine AG (f:=Mq) rfl ?_; simp only [Mq,zu]
 simp (disch:=omega) only [AA]
 cases h:BU s
 ·refine AE (S3 (K:=K) h) rfl ?_
  simp (disch:=omega) only [AA]
 ·obtain ⟨x,rfl,hx⟩:=Ek h
  refine AE (UH (K:=K) hx) rfl ?_
  simp (disch:=omega) only [AA]
theorem G6 [HA K] {s:List Nat}:K 160 [.s s] [.b (BU s)]:=by
 refine AG (f:=NW) rfl ?_; simp only [NW,zu]
 cases h:BU s
 ·have hn:=AD5 h
  by_cases hl:25<s.length
  ·simp (disch:=omega) only [AA]
  ·by_cases hno:HD s 0
   ·have k1:=APE (K:=K) (s:=s) (by omega) s.length 0 (by omega) hno
    simp (disch:=omega) only [AA]
    refine AE (k1) rfl ?_
    simp (disch:=omega) only [AA]
   ·obtain ⟨x,r,ha⟩:∃ (x:BT) (r:List Nat),s.drop 0=x.t++r:=Classical.byContradiction fun q=>hno fun x r e=>q ⟨x,r,e⟩
    have k1:=Ip (K:=K) (s:=s) (by omega) x 0 r ha
    have e0:((0:Nat):Int)+(x.t.length:Int)=x.t.length:=by omega
    rw [e0] at k1
    rw [List.drop_zero] at ha
    have hlen:=congrArg List.length ha
    rw [Ad] at hlen
    have hr:r.length≠0:=by
     intro q
     have:r=[]:=FX q
     subst this
     exact hn ⟨by omega,x,by simpa using ha⟩
    simp (disch:=omega) only [AA]
    refine AE (k1) rfl ?_
    simp (disch:=omega) only [AA]
 ·obtain ⟨x,rfl,hx⟩:=Ek h
  have hl:=BT.tl x
  have k1:=Ip (K:=K) (s:=x.t) (by omega) x 0 [] (by simp)
  have e0:((0:Nat):Int)+(x.t.length:Int)=x.t.length:=by omega
  rw [e0] at k1
  have e1:(x.t == [])=false:=beq_eq_false_iff_ne.2 fun q=>by rw [q] at hl; simp at hl
  simp (disch:=omega) only [AA]
  refine AE (k1) rfl ?_
  simp (disch:=omega) only [AA,e1]
end Go.Cat
