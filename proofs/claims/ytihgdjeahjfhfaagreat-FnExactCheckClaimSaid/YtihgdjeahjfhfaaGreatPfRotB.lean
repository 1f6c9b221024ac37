/-
 What is counted at rotations; mirrors; weights.
-/
import Derived.Test.YtihgdjeahjfhfaaGreatPfRotA
import Derived.Test.YtihgdjeahjfhfaaGreatIrHas
set_option linter.unusedSimpArgs false
set_option linter.unusedVariables false
namespace Go.Cat
variable {K:Nat→List D→List D→Prop}
def nbL (x:BT):List BT:=roL rrB x x.n++roL rlB x x.n
theorem nbL_len {x:BT}:(nbL x).length≤2*x.n:=by
 have h1:=roL_len (f:=rrB) (x:=x) (k:=x.n)
 have h2:=roL_len (f:=rlB) (x:=x) (k:=x.n)
 rw [nbL,qla]; omega
theorem nb_i [HA K] [HasV K 201 ir_impl_rotations_w202] [HA K] [HRot K] {x:BT} (h:x.n≤8):K 173 [.s x.t] [LT_ (nbL x)]:=by
 have h1:=roL_len (f:=rrB) (x:=x) (k:=x.n)
 have h2:=roL_len (f:=rlB) (x:=x) (k:=x.n)
 refine body_by (f:=ir_impl_NeighboursOf) rfl ?_; simp only [ir_impl_NeighboursOf,zn,zs,zq,zi,zg,zp]
 simp (disch:=first|omega|simp only[vl];omega) only [vcd]
 refine call_by (rots_r (K:=K) h) rfl ?_
 simp (disch:=first|omega|simp only[vl];omega) only [vcd]
 refine call_by (rots_l (K:=K) h) rfl ?_
 simp (disch:=first|omega|simp only[vl];omega) only [vcd]
 rw [nbL,LT_,List.map_append]
theorem nb_s [HA K] {x:BT} (h:x.n≤8):K 166 [.s x.t] [LT_ (nbL x)]:=by
 have h1:=roL_len (f:=rrB) (x:=x) (k:=x.n)
 have h2:=roL_len (f:=rlB) (x:=x) (k:=x.n)
 refine body_by (f:=ir_spec_NeighboursOf) rfl ?_; simp only [ir_spec_NeighboursOf,zn,zs,zq,zi,zg,zp]
 simp (disch:=first|omega|simp only[vl];omega) only [vcd]
 refine loop_up (fun i (r:List (List Nat))=>r=(roL rrB x i).map BT.t) (fun i r=>[.s x.t,.u,LS r,.n i,.u,.u,.u,.u,.u,.u,.u,.u,.u]) x.n [] rfl rfl (fun i r hi hP=>?_) (fun r hP=>?_)
 ·have hl:=roL_len (f:=rrB) (x:=x) (k:=i)
  have hr:r.length≤i:=by rw [hP,List.length_map]; exact hl
  have k1:=rr_s (K:=K) (x:=x) (v:=(i:Nat)) h (by omega)
  simp (disch:=first|omega|simp only[vl];omega) only [vcd]
  refine call_by (no_s (K:=K) h) rfl ?_
  simp (disch:=first|omega|simp only[vl];omega) only [vcd]
  rw [roR] at k1
  refine call_by (k1) rfl ?_
  cases hy:rrB x (i:Nat) with
  | none=>
   simp only [Option.isSome_none,Option.elim_none]
   simp (disch:=first|omega|simp only[vl];omega) only [vcd]
   refine ⟨_,?_,rfl⟩
   rw [hP,roL_s,hy]
   simp
  | some y=>
   simp only [Option.isSome_some,Option.elim_some]
   have tn:=BT.tl y
   have hn:=rrB_n hy
   simp (disch:=first|omega|simp only[vl];omega) only [vcd]
   refine ⟨_,?_,rfl⟩
   rw [hP,roL_s,hy]
   simp
 ·have hr0:r.length≤x.n:=by rw [hP,List.length_map]; exact h1
  simp (disch:=first|omega|simp only[vl];omega) only [vcd]
  refine call_by (no_s (K:=K) h) rfl ?_
  simp (disch:=first|omega|simp only[vl];omega) only [vcd]
  refine loop_up (fun i (q:List (List Nat))=>q=r++(roL rlB x i).map BT.t) (fun i q=>[.s x.t,.u,LS q,.u,.u,.u,.n i,.u,.u,.u,.u,.u,.u]) x.n r (by simp [roL]) rfl (fun i q hi hQ=>?_) (fun q hQ=>?_)
  ·have hl:=roL_len (f:=rlB) (x:=x) (k:=i)
   have hq:q.length≤x.n+i:=by rw [hQ,qla,List.length_map]; omega
   have k1:=rl_s (K:=K) (x:=x) (v:=(i:Nat)) h (by omega)
   simp (disch:=first|omega|simp only[vl];omega) only [vcd]
   refine call_by (no_s (K:=K) h) rfl ?_
   simp (disch:=first|omega|simp only[vl];omega) only [vcd]
   rw [roR] at k1
   refine call_by (k1) rfl ?_
   cases hy:rlB x (i:Nat) with
   | none=>
    simp only [Option.isSome_none,Option.elim_none]
    simp (disch:=first|omega|simp only[vl];omega) only [vcd]
    refine ⟨_,?_,rfl⟩
    rw [hQ,roL_s,hy]
    simp
   | some y=>
    simp only [Option.isSome_some,Option.elim_some]
    have tn:=BT.tl y
    have hn:=rlB_n hy
    simp (disch:=first|omega|simp only[vl];omega) only [vcd]
    refine ⟨_,?_,rfl⟩
    rw [hQ,roL_s,hy]
    simp
  ·simp (disch:=first|omega|simp only[vl];omega) only [vcd]
   refine call_by (no_s (K:=K) h) rfl ?_
   simp (disch:=first|omega|simp only[vl];omega) only [vcd]
   rw [hQ,hP,nbL,LT_,List.map_append]
def BT.mir:BT→BT
 | .lf=>.lf
 | .nd l r=>.nd r.mir l.mir
def BT.w:BT→List Int
 | .lf=>[]
 | .nd l r=>l.w++[(r.n:Int)]++r.w
theorem w_len:∀ {x:BT},x.w.length=x.n
 | .lf=>rfl
 | .nd l r=>by simp only [BT.w,BT.n,qla,w_len (x:=l),w_len (x:=r),qlc,qln]; omega
theorem tw_i [HA K]:∀ {x:BT} {o:List Int},x.n≤8→o.length+x.n≤100→K 199 [x.d,LI o] [LI (o++x.w)]
 | .lf,o,_,_=>by
  refine body_by (f:=ir_impl_tree_weights) rfl ?_; simp only [ir_impl_tree_weights,zn,zs,zq,zi,zg,zp]
  simp only [BT.d,BT.w,List.append_nil]
  simp (disch:=first|omega|simp only[vl];omega) only [vcd]
 | .nd l r,o,h,ho=>by
  simp only [BT.n] at h ho
  have hw:=w_len (x:=l)
  have k1:=tw_i (x:=l) (o:=o) (by omega) (by omega)
  have k2:=nodes_ok (K:=K) r (by omega)
  have k3:=tw_i (x:=r) (o:=o++l.w++[(r.n:Int)]) (by omega) (by simp only [qla,qlc,qln]; omega)
  refine body_by (f:=ir_impl_tree_weights) rfl ?_; simp only [ir_impl_tree_weights,zn,zs,zq,zi,zg,zp]
  simp only [BT.d,BT.w]
  simp (disch:=first|omega|simp only[vl];omega) only [vcd,BT.known_d,b_ft]
  refine call_by (k1) rfl ?_
  simp (disch:=first|omega|simp only[vl];omega) only [vcd,BT.known_d]
  refine call_by (k2) rfl ?_
  simp (disch:=first|omega|simp only[vl];omega) only [vcd,BT.known_d]
  refine call_by (k3) rfl ?_
  simp (disch:=first|omega|simp only[vl];omega) only [vcd]
  simp
theorem w_i [HA K] {x:BT} (h:x.n≤8):K 171 [.s x.t] [LI x.w]:=by
 have k1:=tw_i (K:=K) (x:=x) (o:=[]) h (by simp only [qln]; omega)
 refine body_by (f:=ir_impl_WeightsOf) rfl ?_; simp only [ir_impl_WeightsOf,zn,zs,zq,zi,zg,zp]
 simp (disch:=first|omega|simp only[vl];omega) only [vcd]
 refine call_by (pt_yes (K:=K) h) rfl ?_
 simp (disch:=first|omega|simp only[vl];omega) only [vcd,BT.known_d]
 refine call_by (k1) rfl ?_
 simp (disch:=first|omega|simp only[vl];omega) only [vcd]
def rzB:BT→Nat
 | .lf=>0
 | .nd _ r=>r.n
theorem w_at:∀ {x:BT} {v:Nat},v<x.n→atI x.w (v:Nat)=rzB (x.at (v:Nat))
 | .lf,v,h=>by simp [BT.n] at h
 | .nd l r,v,h=>by
  simp only [BT.n] at h
  have hl:=w_len (x:=l)
  have hr:=w_len (x:=r)
  simp only [BT.w,BT.at]
  by_cases q:v<l.n
  ·rw [if_pos (by omega),← w_at q]
   simp only [atI,qtn,qgd]
   rw [qaa,qgl (by omega)]
  ·rw [if_neg (by omega)]
   by_cases q2:l.n<v
   ·rw [if_pos (by omega),show ((v:Nat):Int)-l.n-1=((v-l.n-1:Nat):Int) by omega,← w_at (x:=r) (v:=v-l.n-1) (by omega)]
    simp only [atI,qtn,qgd]
    rw [qgr (by simp only [qla,qlc,qln]; omega)]
    simp only [qla,qlc,qln,hl]
    congr 2
   ·obtain rfl:v=l.n:=by omega
    rw [if_neg (by omega)]
    simp only [atI,qtn,qgd,rzB]
    rw [qgl (by simp only [qla,qlc,qln]; omega),qgr (by omega)]
    simp [hl]
theorem atI_ext {a b:List Int} (h:a.length=b.length) (h2:∀ i:Nat,i<a.length→atI a i=atI b i):a=b:=by
 refine List.ext_getElem h fun i h3 h4=>?_
 have:=h2 i h3
 simpa [atI,h3,h4] using this
theorem take_wx {x:BT} {i:Nat} (h:i<x.n):x.w.take (i+1)=x.w.take i++[atI x.w (i:Nat)]:=by
 have hl:=w_len (x:=x)
 rw [qta (by omega)]
 congr 1
 simp [atI,show i<x.w.length by omega]
theorem w_s [HA K] {x:BT} (h:x.n≤8):K 164 [.s x.t] [LI x.w]:=by
 have hw:=w_len (x:=x)
 refine body_by (f:=ir_spec_WeightsOf) rfl ?_; simp only [ir_spec_WeightsOf,zn,zs,zq,zi,zg,zp]
 simp (disch:=first|omega|simp only[vl];omega) only [vcd]
 refine loop_up (fun i (r:List Int)=>r=x.w.take i) (fun i r=>[.s x.t,.u,LI r,.n i,.u,.u,.u]) x.n [] rfl rfl (fun i r hi hP=>?_) (fun r hP=>?_)
 ·have hr:r.length=i:=by rw [hP,List.length_take]; omega
  obtain ⟨a,b,hab⟩:=at_nd (x:=x) (v:=(i:Nat)) (by omega) (by omega)
  have k1:=l16n_s (K:=K) (x:=x) (v:=(i:Nat)) h (by omega) (by omega)
  have hn:=at_n (x:=x) (v:=(i:Nat))
  have ha:=w_at (x:=x) (v:=i) hi
  rw [hab] at k1 hn ha
  simp only [rzB] at ha
  have hn':=hn
  simp only [BT.n] at hn'
  have ta:=BT.tl a
  have tb:=BT.tl b
  have hl:=t_len (a:=a) (b:=b)
  have ke:=le_1 (K:=K) (a:=a) (b:=b) (by omega)
  have e1:((BT.nd a b).t.length:Int)-1-(1+(a.t.length:Int))-1=3*b.n:=by rw [hl]; omega
  have e2:(3*(b.n:Int)).tdiv 3=b.n:=by rw [Int.mul_comm]; exact Int.mul_tdiv_cancel _ (by omega)
  have e3:(3*(b.n:Int)) / 3=b.n:=by omega
  generalize hg:(BT.nd a b).t=w at hl ke e1
  rw [hg] at k1
  simp (disch:=first|omega|simp only[vl];omega) only [vcd]
  refine call_by (no_s (K:=K) h) rfl ?_
  simp (disch:=first|omega|simp only[vl];omega) only [vcd]
  refine call_by (k1) rfl ?_
  simp (disch:=first|omega|simp only[vl];omega) only [vcd]
  refine call_by (ke) rfl ?_
  simp (disch:=first|omega|simp only[vl];omega) only [vcd,e1,e2,e3]
  refine ⟨_,?_,rfl⟩
  rw [take_wx hi,ha,hP]
 ·simp (disch:=first|omega|simp only[vl];omega) only [vcd]
  refine call_by (no_s (K:=K) h) rfl ?_
  simp (disch:=first|omega|simp only[vl];omega) only [vcd]
  rw [hP,List.take_of_length_le (by omega)]
end Go.Cat
