/-
 Levels of leaves, heights.
-/
import Derived.Test.YtgncagjobmbmaaaPfRotB
set_option linter.unusedSimpArgs false
set_option linter.unusedVariables false
namespace Go.Cat
variable {K:Nat→List D→List D→Prop}
def scS (s:Int×List Int) (c:Nat):Int×List Int:=if c=40 then (s.1+1,s.2) else if c=41 then (s.1-1,s.2) else (s.1,s.2++[s.1])
theorem scan_t:∀ {x:BT} {h:Int} {o:List Int},x.t.foldl scS (h,o)=(h,o++lvB x h)
 | .lf,h,o=>by simp [BT.t,scS,lvB]
 | .nd l r,h,o=>by
  have e:(BT.nd l r).t=40::(l.t++(r.t++[41])):=rfl
  rw [e,List.foldl_cons,List.foldl_append,List.foldl_append,show scS (h,o) 40=(h+1,o) from rfl,scan_t (x:=l),scan_t (x:=r)]
  simp [scS,lvB]
theorem scan_bd:∀ {s:List Nat},-(s.length:Int)≤(s.foldl scS (0,[])).1∧(s.foldl scS (0,[])).1≤s.length∧(s.foldl scS (0,[])).2.length≤s.length:=by
 intro s
 have key:∀ (s:List Nat) (a:Int×List Int),a.1-s.length≤(s.foldl scS a).1∧(s.foldl scS a).1≤a.1+s.length∧(s.foldl scS a).2.length≤a.2.length+s.length:=by
  intro s
  induction s with
  | nil=>intro a; simp
  | cons c s ih=>
   intro a
   have:=ih (scS a c)
   rw [List.foldl_cons,qlc]
   have h2:a.1-1≤(scS a c).1∧(scS a c).1≤a.1+1∧(scS a c).2.length≤a.2.length+1:=by
    unfold scS
    split
    ·simp only; omega
    ·split
     ·simp only; omega
     ·simp only [qla,qlc,qln]; omega
   omega
 have:=key s (0,[])
 simp only [qln] at this
 omega
theorem ll_s [HA K] {x:BT} (h:x.n≤8):K 190 [.s x.t] [LI (lvB x 0)]:=by
 have ht:=BT.tl x
 have hx:=scan_t (x:=x) (h:=0) (o:=[])
 have ki:=isb_s (K:=K) (s:=x.t)
 rw [isB_yes h] at ki
 have h256:=BT.t256 x
 generalize x.t=w at ht hx ki h256 ⊢
 refine body_by (f:=ir_spec_LeafLevels) rfl ?_; simp only [ir_spec_LeafLevels,zn,zs,zq,zi,zg,zp]
 simp (disch:=first|omega|simp only[vl];omega) only [vcd]
 refine loop_up (fun i (r:Int×List Int)=>r=(w.take i).foldl scS (0,[])) (fun i r=>[.s w,.u,LI r.2,.n r.1,.n i,.u,.u,.u,.u]) w.length (0,[]) rfl rfl (fun i r hi hP=>?_) (fun r hP=>?_)
 ·have hb:=scan_bd (s:=w.take i)
  rw [← hP,List.length_take] at hb
  have hs:(w.take (i+1)).foldl scS (0,[])=scS r (w[i]'hi):=by
   rw [qta hi,List.foldl_append,← hP]; rfl
  have hc0:w[i]'hi=atB w i:=by simp [atB,hi]
  rw [hc0] at hs
  by_cases h1:atB w i=40
  ·simp (disch:=first|omega|simp only[vl];omega) only [vcd]
   refine call_by (ki) rfl ?_
   simp (disch:=first|omega|simp only[vl];omega) only [vcd]
   refine ⟨(r.1+1,r.2),?_,rfl⟩
   rw [hs,scS,if_pos h1]
  ·by_cases h2:atB w i=41
   ·simp (disch:=first|omega|simp only[vl];omega) only [vcd]
    refine call_by (ki) rfl ?_
    simp (disch:=first|omega|simp only[vl];omega) only [vcd]
    refine ⟨(r.1-1,r.2),?_,rfl⟩
    rw [hs,scS,if_neg h1,if_pos h2]
   ·simp (disch:=first|omega|simp only[vl];omega) only [vcd]
    refine call_by (ki) rfl ?_
    simp (disch:=first|omega|simp only[vl];omega) only [vcd]
    refine ⟨(r.1,r.2++[r.1]),?_,rfl⟩
    rw [hs,scS,if_neg h1,if_neg h2]
 ·simp (disch:=first|omega|simp only[vl];omega) only [vcd]
  rw [hP,List.take_of_length_le (Nat.le_refl _),hx]
  rfl
theorem ll_i [HA K] {x:BT} (h:x.n≤8):K 198 [.s x.t] [LI (lvB x 0)]:=by
 have k1:=lv_i (K:=K) (x:=x) (d:=0) (o:=[]) h (by omega) (by omega) (by simp only [qln]; omega)
 refine body_by (f:=ir_impl_LeafLevels) rfl ?_; simp only [ir_impl_LeafLevels,zn,zs,zq,zi,zg,zp]
 simp (disch:=first|omega|simp only[vl];omega) only [vcd]
 refine call_by (pt_yes (K:=K) h) rfl ?_
 simp (disch:=first|omega|simp only[vl];omega) only [vcd,BT.known_d]
 refine call_by (k1) rfl ?_
 simp (disch:=first|omega|simp only[vl];omega) only [vcd]
def htB (x:BT):Int:=(lvB x 0).foldl max 0
theorem foldl_max {l:List Int} {a:Int} (h:∀ y∈l,0≤y) (hl:l≠[]) (ha:a≤0):l.foldl max a=l.foldl max 0:=by
 cases l with
 | nil=>exact (hl rfl).elim
 | cons y l=>
  have:=h y (by simp)
  rw [List.foldl_cons,List.foldl_cons]
  congr 1; omega
theorem foldl_bd {l:List Int} {a m:Int} (h:∀ y∈l,0≤y∧y≤m) (ha:-1≤a∧a≤m):-1≤l.foldl max a∧l.foldl max a≤m:=by
 induction l generalizing a with
 | nil=>exact ha
 | cons y l ih=>
  rw [List.foldl_cons]
  have:=h y (by simp)
  exact ih (fun z hz=>h z (by simp [hz])) (by omega)
theorem take_fm {l:List Int} {i:Nat} {a:Int} (h:i<l.length):(l.take (i+1)).foldl max a=max ((l.take i).foldl max a) (atI l (i:Nat)):=by
 rw [qta h,List.foldl_append]
 simp [atI,h]
theorem ht_i [HA K] {x:BT} (h:x.n≤8):K 170 [.s x.t] [.n (htB x)]:=by
 have hl:=lvB_len (x:=x) (d:=0)
 have hm:∀ y∈lvB x 0,0≤y∧y≤8:=fun y hy=>by have:=lvB_mem hy; omega
 refine body_by (f:=ir_impl_HeightOf) rfl ?_; simp only [ir_impl_HeightOf,zn,zs,zq,zi,zg,zp]
 simp (disch:=first|omega|simp only[vl];omega) only [vcd]
 refine call_by (isb_i (K:=K) (s:=x.t)) rfl ?_
 simp (disch:=first|omega|simp only[vl];omega) only [vcd,isB_yes h]
 refine call_by (ll_i (K:=K) h) rfl ?_
 simp (disch:=first|omega|simp only[vl];omega) only [vcd]
 refine loop_up (fun i (r:Int)=>r=((lvB x 0).take i).foldl max 0) (fun i r=>[.u,.u,.n r,.u,.u,LI (lvB x 0),.n (lvB x 0).length,.n i,.u]) (lvB x 0).length 0 rfl rfl (fun i r hi hP=>?_) (fun r hP=>?_)
 ·have hb:=foldl_bd (l:=(lvB x 0).take i) (a:=0) (m:=8) (fun y hy=>hm y (List.mem_of_mem_take hy)) (by omega)
  rw [← hP] at hb
  have hs:=take_fm (a:=0) hi
  simp (disch:=first|omega|simp only[vl];omega) only [vcd]
  refine ⟨_,?_,rfl⟩
  rw [hs,hP]
 ·simp (disch:=first|omega|simp only[vl];omega) only [vcd]
  rw [hP,List.take_of_length_le (Nat.le_refl _)]
  rfl
theorem ht_s [HA K] {x:BT} (h:x.n≤8):K 163 [.s x.t] [.n (htB x)]:=by
 have hl:=lvB_len (x:=x) (d:=0)
 have hm:∀ y∈lvB x 0,0≤y∧y≤8:=fun y hy=>by have:=lvB_mem hy; omega
 have hf:(lvB x 0).foldl max (-1)=htB x:=foldl_max (fun y hy=>(hm y hy).1) (by intro q; rw [q] at hl; cases hl) (by omega)
 refine body_by (f:=ir_spec_HeightOf) rfl ?_; simp only [ir_spec_HeightOf,zn,zs,zq,zi,zg,zp]
 simp (disch:=first|omega|simp only[vl];omega) only [vcd]
 refine call_by (ll_s (K:=K) h) rfl ?_
 simp (disch:=first|omega|simp only[vl];omega) only [vcd]
 refine loop_up (fun i (r:Int)=>r=((lvB x 0).take i).foldl max (-1)) (fun i r=>[.u,.u,LI (lvB x 0),.n r,.n i,.u]) (lvB x 0).length (-1) rfl rfl (fun i r hi hP=>?_) (fun r hP=>?_)
 ·have hb:=foldl_bd (l:=(lvB x 0).take i) (a:=-1) (m:=8) (fun y hy=>hm y (List.mem_of_mem_take hy)) (by omega)
  rw [← hP] at hb
  have hs:=take_fm (a:=-1) hi
  simp (disch:=first|omega|simp only[vl];omega) only [vcd]
  refine ⟨_,?_,rfl⟩
  rw [hs,hP]
 ·simp (disch:=first|omega|simp only[vl];omega) only [vcd]
  rw [hP,List.take_of_length_le (Nat.le_refl _),hf]
end Go.Cat
