/-
 Trees of weights; meets and joins, on both sides.
-/
import Derived.Test.YtgncagjobmbmaaaPfOrdI
import Derived.Test.YtgncagjobmbmaaaPfOrdS
import Derived.Test.YtgncagjobmbmaaaPfWayM
import Derived.Test.YtgncagjobmbmaaaPfClaim
import Derived.Test.YtgncagjobmbmaaaIrHas
set_option linter.unusedSimpArgs false
set_option linter.unusedVariables false
namespace Go.Cat
variable {K:Nat→List D→List D→Prop}
theorem w_lpart {l r:BT} {j:Nat} (h:j<l.n):atI (BT.nd l r).w (j:Nat)=atI l.w (j:Nat):=by
 rw [← w_len] at h
 simp only [BT.w,qaa]
 exact atI_ap0 h
theorem w_rpart {l r:BT} {j:Nat}:atI (BT.nd l r).w ((l.n+1+j:Nat):Int)=atI r.w (j:Nat):=by
 have e:(l.w++[(r.n:Int)]).length=l.n+1:=by simp [w_len]
 simp only [BT.w,atI,qtn,qgd]
 rw [qgr (by omega),e,Nat.add_sub_cancel_left]
theorem sub0_w {l r:BT}:sub (BT.nd l r).w 0 (l.n:Nat)=l.w:=by
 have e:=w_len (x:=l)
 simp only [BT.w,sub,qtn,Int.toNat_zero,List.drop_zero,qaa]
 rw [← e,List.take_left]
theorem subR_w {l r:BT} {k:Nat} (hk:k=(BT.nd l r).w.length):sub (BT.nd l r).w ((l.n:Int)+1) (k:Nat)=r.w:=by
 have e:(l.w++[(r.n:Int)]).length=l.n+1:=by simp [w_len]
 have e2:((l.n:Int)+1).toNat=l.n+1:=by omega
 subst hk
 simp only [sub,qtn,List.take_length,e2]
 rw [← e]
 simp only [BT.w]
 rw [List.drop_left]
theorem atI_sub0 {m:List Int} {i j:Nat} (h:j<i) (hi:i≤m.length):atI (sub m 0 (i:Nat)) (j:Nat)=atI m (j:Nat):=by
 simp [sub,atI,List.getElem?_take,h]
theorem atI_subR {m:List Int} {i k j:Nat} (hk:k=m.length):atI (sub m ((i:Int)+1) (k:Nat)) (j:Nat)=atI m ((i+1+j:Nat):Int):=by
 subst hk
 have e2:((i:Int)+1).toNat=i+1:=by omega
 simp only [sub,atI,qtn,List.take_length,e2,qgd,List.getElem?_drop]
theorem bld_s [HA K]:∀ (d:Nat) (m:List Int),m.length=d→d≤8→(∀ j:Nat,j<d→0≤atI m (j:Nat)∧atI m (j:Nat)≤8)→∃ x:BT,x.n≤d∧K 621 [LI m] [.s x.t]∧∀ y:BT,m=y.w→x=y
 | d,m,hl,h8,hr=>by
  by_cases hex:∃ i:Nat,i<d∧(d:Int)-1≤i+atI m (i:Nat)
  ·obtain ⟨i0,h0,h0'⟩:=hex
   obtain ⟨i,hi1,⟨hi2,hi3⟩,hi4⟩:=leastN (P:=fun i:Nat=>i<d∧(d:Int)-1≤i+atI m (i:Nat)) ⟨h0,h0'⟩
   have la:(sub m 0 (i:Nat)).length=i:=by simp [sub]; omega
   have lb:(sub m ((i:Int)+1) (m.length:Nat)).length=d-i-1:=by simp [sub]; omega
   obtain ⟨x1,n1,k1,u1⟩:=bld_s i (sub m 0 (i:Nat)) la (by omega) (fun j hj=>by rw [atI_sub0 hj (by omega)]; exact hr j (by omega))
   obtain ⟨x2,n2,k2,u2⟩:=bld_s (d-i-1) (sub m ((i:Int)+1) (m.length:Nat)) lb (by omega) (fun j hj=>by rw [atI_subR rfl]; exact hr _ (by omega))
   have t1:=BT.tl x1
   have t2:=BT.tl x2
   refine ⟨.nd x1 x2,by simp only [BT.n]; omega,?_,fun y hy=>?_⟩
   ·have hir:=hr i hi2
    refine body_by (f:=ir_spec_l16Build) rfl ?_; simp only [ir_spec_l16Build,zn,zs,zq,zi,zg,zp]
    simp (disch:=first|omega|simp only[vl];omega) only [vcd]
    refine loop_ix (fun _=>True) (fun i=>[LI m,.u,.n i,.u,.u]) i trivial rfl (fun j hj _=>?_) (fun _=>?_)
    ·have hjr:=hr j (by omega)
     have hn:¬ (d:Int)-1≤j+atI m (j:Nat):=fun q=>hi4 j hj ⟨by omega,q⟩
     simp (disch:=first|omega|simp only[vl];omega) only [vcd]
    ·simp (disch:=first|omega|simp only[vl];omega) only [vcd]
     refine call_by (k1) rfl ?_
     simp (disch:=first|omega|simp only[vl];omega) only [vcd]
     refine call_by (k2) rfl ?_
     simp (disch:=first|omega|simp only[vl];omega) only [vcd]
     simp [BT.t]
   ·have hd:y.n=d:=by rw [← hl,hy,w_len]
    cases y with
    | lf=>simp only [BT.n] at hd; omega
    | nd a b=>
     have hd':=hd
     simp only [BT.n] at hd'
     have hia:i=a.n:=by
      have h1:=w_rt (l:=a) (r:=b)
      rw [← hy] at h1
      rcases Nat.lt_trichotomy i a.n with q | q | q
      ·have:=w_root (l:=a) (r:=b) q
       rw [← hy] at this
       omega
      ·exact q
      ·exact absurd ⟨by omega,by omega⟩ (hi4 a.n q)
     subst hia
     rw [u1 a (by rw [hy]; exact sub0_w),u2 b (by rw [hy]; exact subR_w rfl)]
  ·refine ⟨.lf,by simp only [BT.n]; omega,?_,fun y hy=>?_⟩
   ·refine body_by (f:=ir_spec_l16Build) rfl ?_; simp only [ir_spec_l16Build,zn,zs,zq,zi,zg,zp]
    simp (disch:=first|omega|simp only[vl];omega) only [vcd]
    refine loop_ix (fun _=>True) (fun i=>[LI m,.u,.n i,.u,.u]) d trivial rfl (fun j hj _=>?_) (fun _=>?_)
    ·have hjr:=hr j (by omega)
     have hn:¬ (d:Int)-1≤j+atI m (j:Nat):=fun q=>hex ⟨j,by omega,q⟩
     simp (disch:=first|omega|simp only[vl];omega) only [vcd]
    ·simp (disch:=first|omega|simp only[vl];omega) only [vcd]
     rfl
   ·cases y with
    | lf=>rfl
    | nd a b=>
     have hd:(BT.nd a b).n=d:=by rw [← hl,hy,w_len]
     have hd':=hd
     simp only [BT.n] at hd'
     have h1:=w_rt (l:=a) (r:=b)
     rw [← hy] at h1
     exact absurd ⟨a.n,by omega,by omega⟩ hex
termination_by d=>d
theorem bld_i [HA K]:∀ (d:Nat) (l:List Int) (fr:Nat),fr+d≤l.length→l.length≤8→(∀ j:Nat,j<l.length→0≤atI l (j:Nat)∧atI l (j:Nat)≤8)→∃ x:BT,x.n≤d∧K 622 [LI l,.n fr,.n ((fr+d:Nat):Int)] [x.d]∧∀ y:BT,y.n=d→(∀ j:Nat,j<d→atI l ((fr+j:Nat):Int)=atI y.w (j:Nat))→x=y
 | d,l,fr,hl,h8,hr=>by
  by_cases hex:∃ i:Nat,i<d∧atI l ((fr+i:Nat):Int)=(d:Int)-1-i
  ·obtain ⟨i0,h0,h0'⟩:=hex
   obtain ⟨i,hi1,⟨hi2,hi3⟩,hi4⟩:=leastN (P:=fun i:Nat=>i<d∧atI l ((fr+i:Nat):Int)=(d:Int)-1-i) ⟨h0,h0'⟩
   obtain ⟨x1,n1,k1,u1⟩:=bld_i i l fr (by omega) h8 hr
   obtain ⟨x2,n2,k2,u2⟩:=bld_i (d-i-1) l (fr+i+1) (by omega) h8 hr
   rw [show fr+i+1+(d-i-1)=fr+d by omega] at k2
   refine ⟨.nd x1 x2,by simp only [BT.n]; omega,?_,fun y hy hy2=>?_⟩
   ·refine body_by (f:=ir_impl_treeOfWeights) rfl ?_; simp only [ir_impl_treeOfWeights,zn,zs,zq,zi,zg,zp]
    simp (disch:=first|omega|simp only[vl];omega) only [vcd]
    refine loop_ix (fun _=>True) (fun i=>[LI l,.n fr,.n ((fr+d:Nat):Int),.u,.n ((fr+i:Nat):Int),.u,.u]) i trivial rfl (fun j hj _=>?_) (fun _=>?_)
    ·have hjr:=hr (fr+j) (by omega)
     have hn:¬ atI l ((fr+j:Nat):Int)=((fr+d:Nat):Int)-1-((fr+j:Nat):Int):=fun q=>hi4 j hj ⟨by omega,by omega⟩
     simp (disch:=first|omega|simp only[vl];omega) only [vcd]
     rfl
    ·have hn:atI l ((fr+i:Nat):Int)=((fr+d:Nat):Int)-1-((fr+i:Nat):Int):=by omega
     simp (disch:=first|omega|simp only[vl];omega) only [vcd]
     refine call_by (k1) rfl ?_
     simp (disch:=first|omega|simp only[vl];omega) only [vcd]
     have e1:((fr+i:Nat):Int)+1=((fr+i+1:Nat):Int):=by omega
     rw [e1]
     refine call_by (k2) rfl ?_
     simp (disch:=first|omega|simp only[vl];omega) only [vcd,BT.one_d]
     rfl
   ·cases y with
    | lf=>simp only [BT.n] at hy; omega
    | nd a b=>
     have hd':=hy
     simp only [BT.n] at hd'
     have hia:i=a.n:=by
      have h1:=w_rt (l:=a) (r:=b)
      rw [← hy2 a.n (by omega)] at h1
      rcases Nat.lt_trichotomy i a.n with q | q | q
      ·have:=w_root (l:=a) (r:=b) q
       rw [← hy2 i (by omega)] at this
       omega
      ·exact q
      ·exact absurd ⟨by omega,by omega⟩ (hi4 a.n q)
     subst hia
     rw [u1 a rfl (fun j hj=>by rw [hy2 j (by omega),w_lpart hj]),u2 b (by omega) (fun j hj=>by rw [show fr+a.n+1+j=fr+(a.n+1+j) by omega,hy2 _ (by omega),w_rpart])]
  ·refine ⟨.lf,by simp only [BT.n]; omega,?_,fun y hy hy2=>?_⟩
   ·refine body_by (f:=ir_impl_treeOfWeights) rfl ?_; simp only [ir_impl_treeOfWeights,zn,zs,zq,zi,zg,zp]
    simp (disch:=first|omega|simp only[vl];omega) only [vcd]
    refine loop_ix (fun _=>True) (fun i=>[LI l,.n fr,.n ((fr+d:Nat):Int),.u,.n ((fr+i:Nat):Int),.u,.u]) d trivial rfl (fun j hj _=>?_) (fun _=>?_)
    ·have hjr:=hr (fr+j) (by omega)
     have hn:¬ atI l ((fr+j:Nat):Int)=((fr+d:Nat):Int)-1-((fr+j:Nat):Int):=fun q=>hex ⟨j,by omega,by omega⟩
     simp (disch:=first|omega|simp only[vl];omega) only [vcd]
     rfl
    ·simp (disch:=first|omega|simp only[vl];omega) only [vcd]
     rfl
   ·cases y with
    | lf=>rfl
    | nd a b=>
     have hd':=hy
     simp only [BT.n] at hd'
     have h1:=w_rt (l:=a) (r:=b)
     rw [← hy2 a.n (by omega)] at h1
     exact absurd ⟨a.n,by omega,by omega⟩ hex
termination_by d=>d
theorem bow_ok [HA K] {l:List Int} (hl:l.length≤8) (hr:∀ j:Nat,j<l.length→0≤atI l (j:Nat)∧atI l (j:Nat)≤(l.length:Int)-1-j):∃ r:Option BT,(∀ x,r=some x→x.w=l)∧K 620 [LI l] (roR r)∧K 619 [LI l] (roR r):=by
 obtain ⟨xi,ni,ki,ui⟩:=bld_i (K:=K) l.length l 0 (by omega) hl (fun j hj=>by have:=hr j hj; omega)
 obtain ⟨xs,ns,ks,us⟩:=bld_s (K:=K) l.length l rfl hl (fun j hj=>by have:=hr j hj; omega)
 have wi:=w_len (x:=xi)
 have ws:=w_len (x:=xs)
 simp only [Nat.zero_add] at ki ui
 refine ⟨if xi.w=l then some xi else none,fun x hx=>?_,?_,?_⟩
 ·split at hx
  ·injection hx with hx; subst hx; assumption
  ·cases hx
 ·refine body_by (f:=ir_impl_BinaryOfWeights) rfl ?_; simp only [ir_impl_BinaryOfWeights,zn,zs,zq,zi,zg,zp]
  simp (disch:=first|omega|simp only[vl];omega) only [vcd]
  have e0:((0:Nat):Int)=0:=rfl
  rw [e0] at ki
  refine call_by (ki) rfl ?_
  simp (disch:=first|omega|simp only[vl];omega) only [vcd]
  refine call_by (text_ok (K:=K) (x:=xi) (by omega)) rfl ?_
  simp (disch:=first|omega|simp only[vl];omega) only [vcd]
  refine call_by (w_i (K:=K) (x:=xi) (by omega)) rfl ?_
  simp (disch:=first|omega|simp only[vl];omega) only [vcd]
  refine call_by (eqi_ok (K:=K) (a:=xi.w) (b:=l) (by omega)) rfl ?_
  by_cases h:xi.w=l
  ·rw [decide_eq_true h,if_pos h]
   simp (disch:=first|omega|simp only[vl];omega) only [vcd]
   rfl
  ·rw [decide_eq_false h,if_neg h]
   simp (disch:=first|omega|simp only[vl];omega) only [vcd]
   rfl
 ·refine body_by (f:=ir_spec_BinaryOfWeights) rfl ?_; simp only [ir_spec_BinaryOfWeights,zn,zs,zq,zi,zg,zp]
  simp (disch:=first|omega|simp only[vl];omega) only [vcd]
  refine loop_ix (fun _=>True) (fun i=>[LI l,.u,.u,.n i,.u,.u,.u,.u,.u]) l.length trivial rfl (fun j hj _=>?_) (fun _=>?_)
  ·have hjr:=hr j hj
   have hin:inR 0 ((l.length:Int)-1-j) (atI l (j:Nat))=true:=inR_iff.2 (by omega)
   simp (disch:=first|omega|simp only[vl];omega) only [vcd]
   refine call_by (l1In_ok (K:=K)) rfl ?_
   rw [hin]
   simp (disch:=first|omega|simp only[vl];omega) only [vcd]
  ·simp (disch:=first|omega|simp only[vl];omega) only [vcd]
   refine call_by (ks) rfl ?_
   simp (disch:=first|omega|simp only[vl];omega) only [vcd]
   refine call_by (w_s (K:=K) (x:=xs) (by omega)) rfl ?_
   simp (disch:=first|omega|simp only[vl];omega) only [vcd]
   refine call_by (l13Same_ok (K:=K) (a:=xs.w) (b:=l) (by omega)) rfl ?_
   by_cases h:xi.w=l
   ·have e:=us xi h.symm
    subst e
    rw [decide_eq_true h,if_pos h]
    simp (disch:=first|omega|simp only[vl];omega) only [vcd]
    rfl
   ·have h2:¬ xs.w=l:=by
     intro q
     have hn:xs.n=l.length:=by rw [← w_len,q]
     have:=ui xs hn (fun j hj=>by rw [← q])
     rw [this] at h
     exact h q
    rw [decide_eq_false h2,if_neg h]
    simp (disch:=first|omega|simp only[vl];omega) only [vcd]
    rfl
def mnL (x y:BT) (k:Nat):List Int:=(List.range k).map fun i:Nat=>min (atI x.w (i:Nat)) (atI y.w (i:Nat))
theorem mnL_len {x y:BT} {k:Nat}:(mnL x y k).length=k:=by simp [mnL]
theorem mnL_s {x y:BT} {k:Nat}:mnL x y (k+1)=mnL x y k++[min (atI x.w (k:Nat)) (atI y.w (k:Nat))]:=by
 simp [mnL,List.range_succ]
theorem mnL_at {x y:BT} {k i:Nat} (h:i<k):atI (mnL x y k) (i:Nat)=min (atI x.w (i:Nat)) (atI y.w (i:Nat)):=by
 simp [mnL,atI,h]
theorem meet_ok [HA K] {x y:BT} (hx:x.n≤8) (h:x.n=y.n):∃ r:Option BT,(∀ z,r=some z→z.n=x.n)∧K 614 [.s x.t,.s y.t] (roR r)∧K 609 [.s x.t,.s y.t] (roR r):=by
 have lx:=w_len (x:=x)
 have ly:=w_len (x:=y)
 obtain ⟨r,r1,ki,ks⟩:=bow_ok (K:=K) (l:=mnL x y x.n) (by rw [mnL_len]; exact hx) (fun j hj=>by
  rw [mnL_len] at hj ⊢
  rw [mnL_at hj]
  have h1:=w_end (x:=x) (i:=j) hj
  have h2:=w_end (x:=y) (i:=j) (by omega)
  omega)
 refine ⟨r,fun z hz=>by rw [← w_len,r1 z hz,mnL_len],?_,?_⟩
 ·have k1:=al_i (K:=K) (x:=x) (y:=y) (m:=8) hx (by omega) (by omega)
  rw [decide_eq_true (p:=(x.n:Int)≤8) (by omega),decide_eq_true h,Bool.and_self] at k1
  rw [roR] at ki ⊢
  refine body_by (f:=ir_impl_TamariMeet) rfl ?_; simp only [ir_impl_TamariMeet,zn,zs,zq,zi,zg,zp]
  simp (disch:=first|omega|simp only[vl];omega) only [vcd]
  refine call_by (k1) rfl ?_
  simp (disch:=first|omega|simp only[vl];omega) only [vcd]
  refine call_by (w_i (K:=K) (x:=x) hx) rfl ?_
  simp (disch:=first|omega|simp only[vl];omega) only [vcd]
  refine call_by (w_i (K:=K) (x:=y) (by omega)) rfl ?_
  simp (disch:=first|omega|simp only[vl];omega) only [vcd]
  refine loop_up (fun i (z:List Int)=>z.length=x.n∧∀ j:Nat,j<x.n→atI z (j:Nat)=if j<i then min (atI x.w (j:Nat)) (atI y.w (j:Nat)) else atI x.w (j:Nat)) (fun i z=>[.u,.u,.u,.u,LI z,LI y.w,.u,.u,.n x.w.length,.n i,.u]) x.w.length x.w ⟨lx,fun j hj=>by rw [if_neg (by omega)]⟩ rfl (fun i z hi hP=>?_) (fun z hP=>?_)
  ·obtain ⟨p1,p2⟩:=hP
   have e1:=p2 i (by omega)
   rw [if_neg (by omega)] at e1
   simp (disch:=first|omega|simp only[vl];omega) only [vcd,e1]
   refine ⟨_,⟨by rw [seI_len]; exact p1,fun j hj=>?_⟩,rfl⟩
   rw [atI_set (by omega),p2 j hj]
   by_cases q:i=j
   ·subst q
    rw [if_pos rfl,if_pos (by omega)]
   ·rw [if_neg q]
    by_cases q2:j<i
    ·rw [if_pos q2,if_pos (by omega)]
    ·rw [if_neg q2,if_neg (by omega)]
  ·obtain ⟨p1,p2⟩:=hP
   have ez:z=mnL x y x.n:=by
    refine atI_ext (by rw [mnL_len]; exact p1) fun j hj=>?_
    rw [p2 j (by omega),if_pos (by omega),mnL_at (by omega)]
   rw [ez]
   simp (disch:=first|omega|simp only[vl];omega) only [vcd]
   refine call_by (ki) rfl ?_
   simp (disch:=first|omega|simp only[vl];omega) only [vcd]
 ·have k1:=fit_s (K:=K) (x:=x) (y:=y) hx (by omega)
  rw [decide_eq_true h] at k1
  rw [roR] at ks ⊢
  refine body_by (f:=ir_spec_TamariMeet) rfl ?_; simp only [ir_spec_TamariMeet,zn,zs,zq,zi,zg,zp]
  simp (disch:=first|omega|simp only[vl];omega) only [vcd]
  refine call_by (k1) rfl ?_
  simp (disch:=first|omega|simp only[vl];omega) only [vcd]
  refine call_by (w_s (K:=K) (x:=x) hx) rfl ?_
  simp (disch:=first|omega|simp only[vl];omega) only [vcd]
  refine call_by (w_s (K:=K) (x:=y) (by omega)) rfl ?_
  simp (disch:=first|omega|simp only[vl];omega) only [vcd]
  refine loop_ix (fun _=>True) (fun i=>[.u,.u,.u,.u,LI x.w,LI y.w,LI (mnL x y i),.n i,.u,.u,.u,.u]) x.w.length trivial rfl (fun i hi _=>?_) (fun _=>?_)
  ·have lm:=mnL_len (x:=x) (y:=y) (k:=i)
   simp (disch:=first|omega|simp only[vl];omega) only [vcd]
   rw [mnL_s]
  ·rw [lx]
   simp (disch:=first|omega|simp only[vl];omega) only [vcd]
   refine call_by (ks) rfl ?_
   simp (disch:=first|omega|simp only[vl];omega) only [vcd]
theorem join_ok [HA K] {x y:BT} (hx:x.n≤8) (h:x.n=y.n):∃ r:Option BT,(∀ z,r=some z→z.n=x.n)∧K 615 [.s x.t,.s y.t] (roR r)∧K 610 [.s x.t,.s y.t] (roR r):=by
 have mx:=mir_n (x:=x)
 have my:=mir_n (x:=y)
 obtain ⟨r,r1,ki,ks⟩:=meet_ok (K:=K) (x:=x.mir) (y:=y.mir) (by omega) (by omega)
 have k1:=fit_s (K:=K) (x:=x) (y:=y) hx (by omega)
 rw [decide_eq_true h] at k1
 cases r with
 | none=>
  refine ⟨none,by simp,?_,?_⟩
  ·rw [roR] at ki ⊢
   simp only [Option.isSome_none,Option.elim_none] at ki ⊢
   refine body_by (f:=ir_impl_TamariJoin) rfl ?_; simp only [ir_impl_TamariJoin,zn,zs,zq,zi,zg,zp]
   simp (disch:=first|omega|simp only[vl];omega) only [vcd]
   refine call_by (mir_i (K:=K) (x:=x) hx) rfl ?_
   simp (disch:=first|omega|simp only[vl];omega) only [vcd]
   refine call_by (mir_i (K:=K) (x:=y) (by omega)) rfl ?_
   simp (disch:=first|omega|simp only[vl];omega) only [vcd]
   refine call_by (ki) rfl ?_
   simp (disch:=first|omega|simp only[vl];omega) only [vcd]
  ·rw [roR] at ks ⊢
   simp only [Option.isSome_none,Option.elim_none] at ks ⊢
   refine body_by (f:=ir_spec_TamariJoin) rfl ?_; simp only [ir_spec_TamariJoin,zn,zs,zq,zi,zg,zp]
   simp (disch:=first|omega|simp only[vl];omega) only [vcd]
   refine call_by (k1) rfl ?_
   simp (disch:=first|omega|simp only[vl];omega) only [vcd]
   refine call_by (lmir_s (K:=K) (x:=x) hx) rfl ?_
   simp (disch:=first|omega|simp only[vl];omega) only [vcd]
   refine call_by (lmir_s (K:=K) (x:=y) (by omega)) rfl ?_
   simp (disch:=first|omega|simp only[vl];omega) only [vcd]
   refine call_by (ks) rfl ?_
   simp (disch:=first|omega|simp only[vl];omega) only [vcd]
 | some z=>
  have hzn:=r1 z rfl
  have hzm:=mir_n (x:=z)
  refine ⟨some z.mir,fun u hu=>by injection hu with hu; subst hu; omega,?_,?_⟩
  ·rw [roR] at ki ⊢
   simp only [Option.isSome_some,Option.elim_some] at ki ⊢
   refine body_by (f:=ir_impl_TamariJoin) rfl ?_; simp only [ir_impl_TamariJoin,zn,zs,zq,zi,zg,zp]
   simp (disch:=first|omega|simp only[vl];omega) only [vcd]
   refine call_by (mir_i (K:=K) (x:=x) hx) rfl ?_
   simp (disch:=first|omega|simp only[vl];omega) only [vcd]
   refine call_by (mir_i (K:=K) (x:=y) (by omega)) rfl ?_
   simp (disch:=first|omega|simp only[vl];omega) only [vcd]
   refine call_by (ki) rfl ?_
   simp (disch:=first|omega|simp only[vl];omega) only [vcd]
   refine call_by (mir_i (K:=K) (x:=z) (by omega)) rfl ?_
   simp (disch:=first|omega|simp only[vl];omega) only [vcd]
  ·rw [roR] at ks ⊢
   simp only [Option.isSome_some,Option.elim_some] at ks ⊢
   refine body_by (f:=ir_spec_TamariJoin) rfl ?_; simp only [ir_spec_TamariJoin,zn,zs,zq,zi,zg,zp]
   simp (disch:=first|omega|simp only[vl];omega) only [vcd]
   refine call_by (k1) rfl ?_
   simp (disch:=first|omega|simp only[vl];omega) only [vcd]
   refine call_by (lmir_s (K:=K) (x:=x) hx) rfl ?_
   simp (disch:=first|omega|simp only[vl];omega) only [vcd]
   refine call_by (lmir_s (K:=K) (x:=y) (by omega)) rfl ?_
   simp (disch:=first|omega|simp only[vl];omega) only [vcd]
   refine call_by (ks) rfl ?_
   simp (disch:=first|omega|simp only[vl];omega) only [vcd]
   refine call_by (lmir_s (K:=K) (x:=z) (by omega)) rfl ?_
   simp (disch:=first|omega|simp only[vl];omega) only [vcd]
end Go.Cat
