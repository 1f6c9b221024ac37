/-
 Binary trees as texts.
-/
import Derived.Test.YtihgdjeahjfhfaaGreatPfIn
import Derived.Test.YtihgdjeahjfhfaaGreatPfPath
import Derived.Test.YtihgdjeahjfhfaaGreatIrHas
set_option linter.unusedSimpArgs false
set_option linter.unusedVariables false
namespace Go.Cat
variable {K:Nat→List D→List D→Prop}
inductive BT
 | lf
 | nd (l r:BT)
def BT.d:BT→D
 | .lf=>.z
 | .nd l r=>.p [l.d,r.d]
def BT.t:BT→List Nat
 | .lf=>[46]
 | .nd l r=>40::(l.t++(r.t++[41]))
def BT.n:BT→Nat
 | .lf=>0
 | .nd l r=>l.n+r.n+1
theorem BT.tl:∀ x:BT,x.t.length=3*x.n+1
 | .lf=>rfl
 | .nd l r=>by
  have:=BT.tl l
  have:=BT.tl r
  simp only [BT.t,BT.n,qlc,qla,qln]; omega
theorem BT.known_d {x:BT}:known x.d=some x.d:=by cases x <;> rfl
theorem BT.one_d {x:BT}:x.d.one=true:=by cases x <;> rfl
theorem BT.pre:∀ {x y:BT} {a b:List Nat},x.t++a=y.t++b→x=y∧a=b
 | .lf,.lf,a,b,h=>by simpa [BT.t] using h
 | .lf,.nd _ _,a,b,h=>by simp [BT.t] at h
 | .nd _ _,.lf,a,b,h=>by simp [BT.t] at h
 | .nd l r,.nd l' r',a,b,h=>by
  simp only [BT.t,List.cons_append,qaa,List.cons.injEq,true_and] at h
  obtain ⟨h1,h2⟩:=BT.pre h
  obtain ⟨h3,h4⟩:=BT.pre h2
  subst h1; subst h3
  simpa using h4
theorem BT.inj {x y:BT} (h:x.t=y.t):x=y:=(BT.pre (a:=[]) (b:=[]) (by rw [h])).1
theorem drop_at {s:List Nat} {i:Nat} {c:Nat} {r:List Nat} (h:s.drop i=c::r):i<s.length∧atB s i=c∧s.drop (i+1)=r:=by
 have hi:i<s.length:=by
  rcases qlg i s.length with q | q
  ·exact q
  ·rw [List.drop_of_length_le q] at h; cases h
 rw [dropB hi] at h
 injection h with h1 h2
 exact ⟨hi,h1,h2⟩
theorem drop_app {s a b:List Nat} {i:Nat} (h:s.drop i=a++b):s.drop (i+a.length)=b:=by
 rw [← List.drop_drop,h]; simp
theorem rt_yes [HA K] {s:List Nat} (hl:s.length≤1000000000):∀ (x:BT) (i:Nat) (r:List Nat),s.drop i=x.t++r→K 208 [.s s,.n i] [x.d,.n (i+x.t.length)]
 | .lf,i,r,h=>by
  obtain ⟨hi,hc,_⟩:=drop_at (c:=46) (r:=r) (by simpa [BT.t] using h)
  refine body_by (f:=ir_impl_readTree) rfl ?_; simp only [ir_impl_readTree,zn,zs,zq,zi,zg,zp]
  simp (disch:=omega) only [vcd,hc]
  simp [BT.d,BT.t]
 | .nd a b,i,r,h=>by
  simp only [BT.t,List.cons_append,qaa] at h
  obtain ⟨hi,hc,h1⟩:=drop_at h
  have h2:=drop_app h1
  have h3:=drop_app h2
  obtain ⟨h4,h5,h6⟩:=drop_at (c:=41) (r:=r) (by simpa using h3)
  have k1:=rt_yes hl a (i+1) _ h1
  have k2:=rt_yes hl b (i+1+a.t.length) _ h2
  have e1:((i+1:Nat):Int)=(i:Int)+1:=by omega
  have e2:((i+1+a.t.length:Nat):Int)=(i:Int)+1+a.t.length:=by omega
  rw [e1] at k1
  rw [e2] at k2
  have e3:atB s ((i:Int)+1+a.t.length+b.t.length)=41:=by rw [← h5]; congr 1
  refine body_by (f:=ir_impl_readTree) rfl ?_; simp only [ir_impl_readTree,zn,zs,zq,zi,zg,zp]
  simp (disch:=omega) only [vcd,hc]
  refine call_by (k1) rfl ?_
  simp (disch:=omega) only [vcd]
  refine call_by (k2) rfl ?_
  simp (disch:=omega) only [vcd,e3,BT.one_d]
  simp only [BT.d,BT.t,qlc,qla,qln]
  exact D2 rfl (congrArg D.n (by omega))
def noT (s:List Nat) (i:Nat):Prop:=∀ (x:BT) (r:List Nat),s.drop i≠x.t++r
theorem rt_no [HA K] {s:List Nat} (hl:s.length≤1000000000):∀ (n i:Nat),s.length-i≤n→noT s i→K 208 [.s s,.n i] [.z,.n (-1)]:=by
 intro n
 induction n with
 | zero=>
  intro i hi _
  refine body_by (f:=ir_impl_readTree) rfl ?_; simp only [ir_impl_readTree,zn,zs,zq,zi,zg,zp]
  have:s.length≤i:=by omega
  simp (disch:=omega) only [vcd]
 | succ n ih=>
  intro i hi hno
  refine body_by (f:=ir_impl_readTree) rfl ?_; simp only [ir_impl_readTree,zn,zs,zq,zi,zg,zp]
  by_cases h0:i<s.length
  ·by_cases h46:atB s i=46
   ·exact absurd (dropB h0) (by rw [h46]; exact hno .lf _)
   ·by_cases h40:atB s i=40
    ·have e1:((i+1:Nat):Int)=(i:Int)+1:=by omega
     have hd:s.drop i=40::s.drop (i+1):=by rw [dropB h0,h40]
     by_cases ha:noT s (i+1)
     ·have k1:=ih (i+1) (by omega) ha
      rw [e1] at k1
      simp (disch:=omega) only [vcd,h40]
      refine call_by (k1) rfl ?_
      simp (disch:=omega) only [vcd]
     ·obtain ⟨a,r1,ha⟩:∃ (a:BT) (r:List Nat),s.drop (i+1)=a.t++r:=by
       refine Classical.byContradiction fun q=>ha fun x r e=>q ⟨x,r,e⟩
      have k1:=rt_yes (K:=K) hl a (i+1) _ ha
      rw [e1] at k1
      have h2:=drop_app ha
      have e2:((i+1+a.t.length:Nat):Int)=(i:Int)+1+a.t.length:=by omega
      have hlen:=congrArg List.length ha
      simp only [List.length_drop,qla] at hlen
      by_cases hb:noT s (i+1+a.t.length)
      ·have k2:=ih (i+1+a.t.length) (by omega) hb
       rw [e2] at k2
       simp (disch:=omega) only [vcd,h40]
       refine call_by (k1) rfl ?_
       simp (disch:=omega) only [vcd]
       refine call_by (k2) rfl ?_
       simp (disch:=omega) only [vcd]
      ·obtain ⟨b,r2,hb⟩:∃ (b:BT) (r:List Nat),s.drop (i+1+a.t.length)=b.t++r:=by
        refine Classical.byContradiction fun q=>hb fun x r e=>q ⟨x,r,e⟩
       have k2:=rt_yes (K:=K) hl b (i+1+a.t.length) _ hb
       rw [e2] at k2
       have h3:=drop_app hb
       have hlen2:=congrArg List.length hb
       simp only [List.length_drop,qla] at hlen2
       by_cases h4:i+1+a.t.length+b.t.length<s.length
       ·have h5:atB s ((i:Int)+1+a.t.length+b.t.length)≠41:=by
         intro q
         have e3:atB s ((i+1+a.t.length+b.t.length:Nat):Int)=41:=by rw [← q]; congr 1
         rw [dropB h4,e3] at h3
         refine hno (.nd a b) (s.drop (i+1+a.t.length+b.t.length+1)) ?_
         rw [hd,ha,← h2,hb,← h3]
         simp [BT.t]
        simp (disch:=omega) only [vcd,h40]
        refine call_by (k1) rfl ?_
        simp (disch:=omega) only [vcd]
        refine call_by (k2) rfl ?_
        simp (disch:=omega) only [vcd]
       ·simp (disch:=omega) only [vcd,h40]
        refine call_by (k1) rfl ?_
        simp (disch:=omega) only [vcd]
        refine call_by (k2) rfl ?_
        simp (disch:=omega) only [vcd]
    ·simp (disch:=omega) only [vcd]
  ·simp (disch:=omega) only [vcd]
theorem le_yes [HA K] {s:List Nat} (hl:s.length≤1000000000):∀ (x:BT) (i:Nat) (r:List Nat),s.drop i=x.t++r→K 188 [.s s,.n i] [.n (i+x.t.length)]
 | .lf,i,r,h=>by
  obtain ⟨hi,hc,_⟩:=drop_at (c:=46) (r:=r) (by simpa [BT.t] using h)
  refine body_by (f:=ir_spec_l6End) rfl ?_; simp only [ir_spec_l6End,zn,zs,zq,zi,zg,zp]
  simp (disch:=omega) only [vcd,hc]
  simp [BT.t]
 | .nd a b,i,r,h=>by
  simp only [BT.t,List.cons_append,qaa] at h
  obtain ⟨hi,hc,h1⟩:=drop_at h
  have h2:=drop_app h1
  have h3:=drop_app h2
  obtain ⟨h4,h5,h6⟩:=drop_at (c:=41) (r:=r) (by simpa using h3)
  have k1:=le_yes hl a (i+1) _ h1
  have k2:=le_yes hl b (i+1+a.t.length) _ h2
  have e1:((i+1:Nat):Int)=(i:Int)+1:=by omega
  have e2:((i+1+a.t.length:Nat):Int)=(i:Int)+1+a.t.length:=by omega
  rw [e1] at k1
  rw [e2] at k2
  have e3:atB s ((i:Int)+1+a.t.length+b.t.length)=41:=by rw [← h5]; congr 1
  refine body_by (f:=ir_spec_l6End) rfl ?_; simp only [ir_spec_l6End,zn,zs,zq,zi,zg,zp]
  simp (disch:=omega) only [vcd,hc]
  refine call_by (k1) rfl ?_
  simp (disch:=omega) only [vcd]
  refine call_by (k2) rfl ?_
  simp (disch:=omega) only [vcd,e3]
  simp only [BT.t,qlc,qla,qln]
  exact Dn (by omega)
theorem le_no [HA K] {s:List Nat} (hl:s.length≤1000000000):∀ (n i:Nat),s.length-i≤n→noT s i→K 188 [.s s,.n i] [.n (-1)]:=by
 intro n
 induction n with
 | zero=>
  intro i hi _
  refine body_by (f:=ir_spec_l6End) rfl ?_; simp only [ir_spec_l6End,zn,zs,zq,zi,zg,zp]
  have:s.length≤i:=by omega
  simp (disch:=omega) only [vcd]
 | succ n ih=>
  intro i hi hno
  refine body_by (f:=ir_spec_l6End) rfl ?_; simp only [ir_spec_l6End,zn,zs,zq,zi,zg,zp]
  by_cases h0:i<s.length
  ·by_cases h46:atB s i=46
   ·exact absurd (dropB h0) (by rw [h46]; exact hno .lf _)
   ·by_cases h40:atB s i=40
    ·have e1:((i+1:Nat):Int)=(i:Int)+1:=by omega
     have hd:s.drop i=40::s.drop (i+1):=by rw [dropB h0,h40]
     by_cases ha:noT s (i+1)
     ·have k1:=ih (i+1) (by omega) ha
      rw [e1] at k1
      simp (disch:=omega) only [vcd,h40]
      refine call_by (k1) rfl ?_
      simp (disch:=omega) only [vcd]
     ·obtain ⟨a,r1,ha⟩:∃ (a:BT) (r:List Nat),s.drop (i+1)=a.t++r:=by
       refine Classical.byContradiction fun q=>ha fun x r e=>q ⟨x,r,e⟩
      have k1:=le_yes (K:=K) hl a (i+1) _ ha
      rw [e1] at k1
      have h2:=drop_app ha
      have e2:((i+1+a.t.length:Nat):Int)=(i:Int)+1+a.t.length:=by omega
      have hlen:=congrArg List.length ha
      simp only [List.length_drop,qla] at hlen
      by_cases hb:noT s (i+1+a.t.length)
      ·have k2:=ih (i+1+a.t.length) (by omega) hb
       rw [e2] at k2
       simp (disch:=omega) only [vcd,h40]
       refine call_by (k1) rfl ?_
       simp (disch:=omega) only [vcd]
       refine call_by (k2) rfl ?_
       simp (disch:=omega) only [vcd]
      ·obtain ⟨b,r2,hb⟩:∃ (b:BT) (r:List Nat),s.drop (i+1+a.t.length)=b.t++r:=by
        refine Classical.byContradiction fun q=>hb fun x r e=>q ⟨x,r,e⟩
       have k2:=le_yes (K:=K) hl b (i+1+a.t.length) _ hb
       rw [e2] at k2
       have h3:=drop_app hb
       have hlen2:=congrArg List.length hb
       simp only [List.length_drop,qla] at hlen2
       by_cases h4:i+1+a.t.length+b.t.length<s.length
       ·have h5:atB s ((i:Int)+1+a.t.length+b.t.length)≠41:=by
         intro q
         have e3:atB s ((i+1+a.t.length+b.t.length:Nat):Int)=41:=by rw [← q]; congr 1
         rw [dropB h4,e3] at h3
         refine hno (.nd a b) (s.drop (i+1+a.t.length+b.t.length+1)) ?_
         rw [hd,ha,← h2,hb,← h3]
         simp [BT.t]
        simp (disch:=omega) only [vcd,h40]
        refine call_by (k1) rfl ?_
        simp (disch:=omega) only [vcd]
        refine call_by (k2) rfl ?_
        simp (disch:=omega) only [vcd]
       ·simp (disch:=omega) only [vcd,h40]
        refine call_by (k1) rfl ?_
        simp (disch:=omega) only [vcd]
        refine call_by (k2) rfl ?_
        simp (disch:=omega) only [vcd]
    ·simp (disch:=omega) only [vcd]
  ·simp (disch:=omega) only [vcd]
theorem b_ft:(false == true)=false:=rfl
theorem nodes_ok [HA K]:∀ (x:BT),x.n≤1000000→K 197 [x.d] [.n x.n]
 | .lf,_=>by
  refine body_by (f:=ir_impl_tree_nodes) rfl ?_; simp only [ir_impl_tree_nodes,zn,zs,zq,zi,zg,zp]
  simp only [BT.d,BT.n]
  simp (disch:=omega) only [vcd]
 | .nd l r,h=>by
  simp only [BT.n] at h
  have k1:=nodes_ok l (by omega)
  have k2:=nodes_ok r (by omega)
  refine body_by (f:=ir_impl_tree_nodes) rfl ?_; simp only [ir_impl_tree_nodes,zn,zs,zq,zi,zg,zp]
  simp only [BT.d,BT.n]
  simp (disch:=omega) only [vcd,BT.known_d,b_ft]
  refine call_by (k1) rfl ?_
  simp (disch:=omega) only [vcd,BT.known_d]
  refine call_by (k2) rfl ?_
  simp (disch:=omega) only [vcd]
  exact Dn (by omega)
def isT (s:List Nat):Prop:=s.length≤25∧∃ x:BT,s=x.t
open Classical in
noncomputable def isB (s:List Nat):Bool:=decide (isT s)
theorem isB_yes {x:BT} (h:x.n≤8):isB x.t=true:=by
 have:=BT.tl x
 simp only [isB,qde]
 exact ⟨by omega,x,rfl⟩
theorem isB_t {s:List Nat} (h:isB s=true):∃ x:BT,s=x.t∧x.n≤8:=by
 have h:isT s:=by
  simp only [isB,qde] at h
  exact h
 obtain ⟨h1,x,rfl⟩:=h
 have:=BT.tl x
 exact ⟨x,rfl,by omega⟩
theorem isB_f {s:List Nat} (h:isB s=false):¬ isT s:=by
 simp only [isB,decide_eq_false_iff_not] at h
 exact h
theorem pt_yes [HA K] {x:BT} (h:x.n≤8):K 194 [.s x.t] [x.d,.b true]:=by
 have hl:=BT.tl x
 have k1:=rt_yes (K:=K) (s:=x.t) (by omega) x 0 [] (by simp)
 have e0:((0:Nat):Int)+(x.t.length:Int)=x.t.length:=by omega
 rw [e0] at k1
 refine body_by (f:=ir_impl_parseTree) rfl ?_; simp only [ir_impl_parseTree,zn,zs,zq,zi,zg,zp]
 simp (disch:=omega) only [vcd]
 refine call_by (k1) rfl ?_
 simp (disch:=omega) only [vcd,BT.known_d]
 refine call_by (nodes_ok (K:=K) x (by omega)) rfl ?_
 simp (disch:=omega) only [vcd]
theorem pt_no [HA K] {s:List Nat} (h:isB s=false):K 194 [.s s] [.z,.b false]:=by
 have hn:=isB_f h
 refine body_by (f:=ir_impl_parseTree) rfl ?_; simp only [ir_impl_parseTree,zn,zs,zq,zi,zg,zp]
 by_cases hl:25<s.length
 ·simp (disch:=omega) only [vcd]
 ·by_cases hno:noT s 0
  ·have k1:=rt_no (K:=K) (s:=s) (by omega) s.length 0 (by omega) hno
   simp (disch:=omega) only [vcd]
   refine call_by (k1) rfl ?_
   simp (disch:=omega) only [vcd]
  ·obtain ⟨x,r,ha⟩:∃ (x:BT) (r:List Nat),s.drop 0=x.t++r:=Classical.byContradiction fun q=>hno fun x r e=>q ⟨x,r,e⟩
   have k1:=rt_yes (K:=K) (s:=s) (by omega) x 0 r ha
   have e0:((0:Nat):Int)+(x.t.length:Int)=x.t.length:=by omega
   rw [e0] at k1
   rw [List.drop_zero] at ha
   have hlen:=congrArg List.length ha
   rw [qla] at hlen
   have hr:r.length≠0:=by
    intro q
    have:r=[]:=qez q
    subst this
    exact hn ⟨by omega,x,by simpa using ha⟩
   have hx:=BT.tl x
   simp (disch:=omega) only [vcd]
   refine call_by (k1) rfl ?_
   simp (disch:=omega) only [vcd]
theorem isb_i [HA K] {s:List Nat}:K 167 [.s s] [.b (isB s)]:=by
 refine body_by (f:=ir_impl_IsBinary) rfl ?_; simp only [ir_impl_IsBinary,zn,zs,zq,zi,zg,zp]
 simp (disch:=omega) only [vcd]
 cases h:isB s
 ·refine call_by (pt_no (K:=K) h) rfl ?_
  simp (disch:=omega) only [vcd]
 ·obtain ⟨x,rfl,hx⟩:=isB_t h
  refine call_by (pt_yes (K:=K) hx) rfl ?_
  simp (disch:=omega) only [vcd]
theorem isb_s [HA K] {s:List Nat}:K 160 [.s s] [.b (isB s)]:=by
 refine body_by (f:=ir_spec_IsBinary) rfl ?_; simp only [ir_spec_IsBinary,zn,zs,zq,zi,zg,zp]
 cases h:isB s
 ·have hn:=isB_f h
  by_cases hl:25<s.length
  ·simp (disch:=omega) only [vcd]
  ·by_cases hno:noT s 0
   ·have k1:=le_no (K:=K) (s:=s) (by omega) s.length 0 (by omega) hno
    simp (disch:=omega) only [vcd]
    refine call_by (k1) rfl ?_
    simp (disch:=omega) only [vcd]
   ·obtain ⟨x,r,ha⟩:∃ (x:BT) (r:List Nat),s.drop 0=x.t++r:=Classical.byContradiction fun q=>hno fun x r e=>q ⟨x,r,e⟩
    have k1:=le_yes (K:=K) (s:=s) (by omega) x 0 r ha
    have e0:((0:Nat):Int)+(x.t.length:Int)=x.t.length:=by omega
    rw [e0] at k1
    rw [List.drop_zero] at ha
    have hlen:=congrArg List.length ha
    rw [qla] at hlen
    have hr:r.length≠0:=by
     intro q
     have:r=[]:=qez q
     subst this
     exact hn ⟨by omega,x,by simpa using ha⟩
    simp (disch:=omega) only [vcd]
    refine call_by (k1) rfl ?_
    simp (disch:=omega) only [vcd]
 ·obtain ⟨x,rfl,hx⟩:=isB_t h
  have hl:=BT.tl x
  have k1:=le_yes (K:=K) (s:=x.t) (by omega) x 0 [] (by simp)
  have e0:((0:Nat):Int)+(x.t.length:Int)=x.t.length:=by omega
  rw [e0] at k1
  have e1:(x.t == [])=false:=beq_eq_false_iff_ne.2 fun q=>by rw [q] at hl; simp at hl
  simp (disch:=omega) only [vcd]
  refine call_by (k1) rfl ?_
  simp (disch:=omega) only [vcd,e1]
end Go.Cat
