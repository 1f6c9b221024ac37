/-
 What two trees have in common; trees between two; the line of a pair.
-/
import Derived.Test.YtgncagjobmbmaaaPfPairA
import Derived.Test.YtgncagjobmbmaaaPfWayD
import Derived.Test.YtgncagjobmbmaaaPfTri2
import Derived.Test.YtgncagjobmbmaaaPfBT
import Derived.Test.YtgncagjobmbmaaaPfAp
import Derived.Test.YtgncagjobmbmaaaPfPLine
import Derived.Test.YtgncagjobmbmaaaIrHas
set_option linter.unusedSimpArgs false
set_option linter.unusedVariables false
namespace Go.Cat
variable {K:Nat→List D→List D→Prop}
theorem srf_row2 {d:List (List Int)} (h:∀ y∈d,row2 y):∀ y∈srfF d,row2 y:=by
 have key:∀ (n:Nat) (d:List (List Int)),d.length=n→(∀ y∈d,row2 y)→∀ y∈srfF d,row2 y:=by
  intro n
  induction n with
  | zero=>
   intro d hd _ y hy
   rw [List.length_eq_zero_iff.1 hd] at hy
   simp [srfF,srtV] at hy
  | succ n ih=>
   intro d hd hr y hy
   obtain ⟨e,x,rfl⟩:∃ e x,d=e++[x]:=⟨d.dropLast,d.getLast (by rintro rfl; simp at hd),(List.dropLast_concat_getLast _).symm⟩
   rw [show srfF (e++[x])=(insV x (srfF e).reverse).reverse by simp only [srfF,srtV,List.foldl_append,List.foldl_cons,List.foldl_nil,List.reverse_reverse],List.mem_reverse] at hy
   rcases insV_mem.1 hy with q | q
   ·rw [q]; exact hr x (by simp)
   ·exact ih e (by simpa using hd) (fun z hz=>hr z (by simp [hz])) y (List.mem_reverse.1 q)
 exact key _ d rfl h
theorem tgF_row {x:BT}:∀ y∈tgF x,row2 y:=srf_row2 dgI_row
theorem tgF_bd {x:BT}:(tgF x).length≤x.n:=by
 have:=dgI_len2 (x:=x) (l:=0) (r:=(x.n:Int)+1)
 rw [tgF_len]
 omega
def ccF (d:List Int) (Y:List (List Int)) (j:Nat):Nat:=((List.range j).filter fun k:Nat=>decide (d=atL Y (k:Nat))).length
theorem ccF_s {d:List Int} {Y:List (List Int)} {j:Nat}:ccF d Y (j+1)=ccF d Y j+if d=atL Y (j:Nat) then 1 else 0:=by
 simp only [ccF,List.range_succ,List.filter_append,qla]
 by_cases h:d=atL Y (j:Nat)
 ·simp [h]
 ·simp [h]
theorem ccF_le {d:List Int} {Y:List (List Int)} {j:Nat}:ccF d Y j≤j:=by
 have:=List.length_filter_le (fun k:Nat=>decide (d=atL Y (k:Nat))) (List.range j)
 simpa [ccF] using this
def cdF (X Y:List (List Int)):Nat→Nat
 | 0=>0
 | i+1=>cdF X Y i+ccF (atL X (i:Nat)) Y Y.length
theorem cdF_le {X Y:List (List Int)}:∀ {i:Nat},cdF X Y i≤i*Y.length
 | 0=>by simp [cdF]
 | i+1=>by
  have h1:=cdF_le (X:=X) (Y:=Y) (i:=i)
  have h2:=ccF_le (d:=atL X (i:Nat)) (Y:=Y) (j:=Y.length)
  simp only [cdF,Nat.add_mul,Nat.one_mul]
  omega
theorem cdF_64 {X Y:List (List Int)} {i:Nat} (hi:i≤8) (hY:Y.length≤8):cdF X Y i≤64:=by
 have h1:=cdF_le (X:=X) (Y:=Y) (i:=i)
 have h2:i*Y.length≤8*8:=Nat.mul_le_mul hi hY
 omega
theorem cd_i [HA K] {x y:BT} (hx:x.n≤8) (h:x.n=y.n):K 616 [.s x.t,.s y.t] [.n (cdF (tgF x) (tgF y) (tgF x).length)]:=by
 have bx:=tgF_bd (x:=x)
 have by':=tgF_bd (x:=y)
 have k1:=al_i (K:=K) (x:=x) (y:=y) (m:=8) hx (by omega) (by omega)
 rw [decide_eq_true (p:=(x.n:Int)≤8) (by omega),decide_eq_true h,Bool.and_self] at k1
 have rx:=tgF_row (x:=x)
 have ry:=tgF_row (x:=y)
 have kx:=trg_i (K:=K) (x:=x) hx
 have ky:=trg_i (K:=K) (x:=y) (by omega)
 generalize tgF x=X at*
 generalize tgF y=Y at*
 refine body_by (f:=ir_impl_CommonDiagonals) rfl ?_; simp only [ir_impl_CommonDiagonals,zn,zs,zq,zi,zg,zp]
 simp (disch:=first|omega|simp only[vl];omega) only [vcd]
 refine call_by (k1) rfl ?_
 simp (disch:=first|omega|simp only[vl];omega) only [vcd]
 refine call_by (kx) rfl ?_
 simp (disch:=first|omega|simp only[vl];omega) only [vcd]
 refine call_by (ky) rfl ?_
 simp (disch:=first|omega|simp only[vl];omega) only [vcd]
 refine loop_up (fun i (c:Int)=>c=cdF X Y i) (fun i c=>[.u,.u,.u,.u,LL Y,.n c,.u,.u,.u,LL X,.n X.length,.n i,.u,.u,.u,.u,.u,.u]) X.length 0 rfl rfl (fun i c hi hc=>?_) (fun c hc=>?_)
 ·have b1:=cdF_64 (X:=X) (Y:=Y) (i:=i) (by omega) (by omega)
  simp (disch:=first|omega|simp only[vl];omega) only [vcd]
  refine loop_up (fun j (e:Int)=>e=c+ccF (atL X (i:Nat)) Y j) (fun j e=>[.u,.u,.u,.u,LL Y,.n e,LI (atL X (i:Nat)),.u,.u,LL X,.n X.length,.n i,.u,LL Y,.n Y.length,.n j,.u,.u]) Y.length c (by simp [ccF]) rfl (fun j e hj he=>?_) (fun e he=>?_)
  ·have b2:=ccF_le (d:=atL X (i:Nat)) (Y:=Y) (j:=j)
   have r1:(atL X (i:Nat)).length=2:=rx _ (atL_in hi)
   have r2:(atL Y (j:Nat)).length=2:=ry _ (atL_in hj)
   simp (disch:=first|omega|simp only[vl];omega) only [vcd]
   refine call_by (eqi_ok (K:=K) (a:=atL X (i:Nat)) (b:=atL Y (j:Nat)) (by omega)) rfl ?_
   have hs:=ccF_s (d:=atL X (i:Nat)) (Y:=Y) (j:=j)
   by_cases q:atL X (i:Nat)=atL Y (j:Nat)
   ·rw [if_pos q] at hs
    rw [decide_eq_true q]
    simp (disch:=first|omega|simp only[vl];omega) only [vcd]
    exact ⟨_,by rw [hs,he]; omega,rfl⟩
   ·rw [if_neg q] at hs
    rw [decide_eq_false q]
    simp (disch:=first|omega|simp only[vl];omega) only [vcd]
    exact ⟨_,by rw [hs,he]; omega,rfl⟩
  ·simp (disch:=first|omega|simp only[vl];omega) only [vcd]
   exact ⟨_,by rw [he,hc]; simp only [cdF]; omega,rfl⟩
 ·simp (disch:=first|omega|simp only[vl];omega) only [vcd]
  rw [hc]
theorem cd_s [HA K] {x y:BT} (hx:x.n≤8) (h:x.n=y.n):K 611 [.s x.t,.s y.t] [.n (cdF (tgF x) (tgF y) (tgF x).length)]:=by
 have bx:=tgF_bd (x:=x)
 have by':=tgF_bd (x:=y)
 have tx:=BT.tl x
 have ty:=BT.tl y
 have rx:=tgF_row (x:=x)
 have ry:=tgF_row (x:=y)
 have kx:=trg_s (K:=K) (x:=x) hx
 have ky:=trg_s (K:=K) (x:=y) (by omega)
 generalize tgF x=X at*
 generalize tgF y=Y at*
 refine body_by (f:=ir_spec_CommonDiagonals) rfl ?_; simp only [ir_spec_CommonDiagonals,zn,zs,zq,zi,zg,zp]
 simp (disch:=first|omega|simp only[vl];omega) only [vcd]
 refine call_by (kx) rfl ?_
 simp (disch:=first|omega|simp only[vl];omega) only [vcd]
 refine call_by (ky) rfl ?_
 simp (disch:=first|omega|simp only[vl];omega) only [vcd]
 refine loop_up (fun i (c:Int)=>c=cdF X Y i) (fun i c=>[.u,.u,.u,LL X,.u,LL Y,.u,.n c,.n i,.u,.u,.u,.u,.u]) X.length 0 rfl rfl (fun i c hi hc=>?_) (fun c hc=>?_)
 ·have b1:=cdF_64 (X:=X) (Y:=Y) (i:=i) (by omega) (by omega)
  simp (disch:=first|omega|simp only[vl];omega) only [vcd]
  refine loop_up (fun j (e:Int)=>e=c+ccF (atL X (i:Nat)) Y j) (fun j e=>[.u,.u,.u,LL X,.u,LL Y,.u,.n e,.n i,.n j,.u,.u,.u,.u]) Y.length c (by simp [ccF]) rfl (fun j e hj he=>?_) (fun e he=>?_)
  ·have b2:=ccF_le (d:=atL X (i:Nat)) (Y:=Y) (j:=j)
   have r1:(atL X (i:Nat)).length=2:=rx _ (atL_in hi)
   have r2:(atL Y (j:Nat)).length=2:=ry _ (atL_in hj)
   have hs:=ccF_s (d:=atL X (i:Nat)) (Y:=Y) (j:=j)
   by_cases q0:atI (atL X (i:Nat)) 0=atI (atL Y (j:Nat)) 0
   ·by_cases q1:atI (atL X (i:Nat)) 1=atI (atL Y (j:Nat)) 1
    ·have q:atL X (i:Nat)=atL Y (j:Nat):=by rw [row2_eq r1,row2_eq r2,q0,q1]
     rw [if_pos q] at hs
     simp (disch:=first|omega|simp only[vl];omega) only [vcd]
     exact ⟨_,by rw [hs,he]; omega,rfl⟩
    ·have q:¬ atL X (i:Nat)=atL Y (j:Nat):=fun e=>q1 (by rw [e])
     rw [if_neg q] at hs
     simp (disch:=first|omega|simp only[vl];omega) only [vcd]
     exact ⟨_,by rw [hs,he]; omega,rfl⟩
   ·have q:¬ atL X (i:Nat)=atL Y (j:Nat):=fun e=>q0 (by rw [e])
    rw [if_neg q] at hs
    simp (disch:=first|omega|simp only[vl];omega) only [vcd]
    exact ⟨_,by rw [hs,he]; omega,rfl⟩
  ·simp (disch:=first|omega|simp only[vl];omega) only [vcd]
   exact ⟨_,by rw [he,hc]; simp only [cdF]; omega,rfl⟩
 ·simp (disch:=first|omega|simp only[vl];omega) only [vcd]
  rw [hc]
theorem trees_ex:∀ (l:List (List Nat)),(∀ w∈l,dyck w=true)→∃ t:List BT,t.map BT.p=l
 | [],_=>⟨[],rfl⟩
 | w::l,h=>by
  obtain ⟨t,ht⟩:=trees_ex l (fun w hw=>h w (qmc _ hw))
  obtain ⟨x,rfl,_⟩:=ex_p (h w (List.mem_cons_self ..))
  exact ⟨x::t,by simp [ht]⟩
theorem prs42:∀ n:Nat,n<6→(pathsR n).length≤42∧∀ w∈pathsR n,dyck w=true:=by decide
theorem atS_mapP {l:List BT} {i:Nat} (h:i<l.length):atS (l.map BT.p) (i:Nat)=(btG l i).p:=by simp [atS,btG,h]
theorem trs_ok [HA K] {n:Nat} (h:n≤5):∃ t:List BT,t.length≤42∧(∀ z∈t,z.n≤8)∧K 506 [.n n] [LT_ t]∧K 504 [.n n] [LT_ t]:=by
 obtain ⟨h42,hd⟩:=prs42 n (by omega)
 obtain ⟨t,ht⟩:=trees_ex (pathsR n) hd
 have hl:t.length=(pathsR n).length:=by rw [← ht,List.length_map]
 have hn:∀ z∈t,z.n≤8:=fun z hz=>by
  have h1:z.p∈pathsR n:=by rw [← ht]; exact List.mem_map.2 ⟨z,hz,rfl⟩
  obtain ⟨y,e,hy⟩:=ex_p (hd _ h1)
  rw [BT.pinj e]; exact hy
 refine ⟨t,by omega,hn,?_,?_⟩
 ·have k1:=ap_i (K:=K) (n:=n) (by omega)
  rw [← ht] at k1
  refine body_by (f:=ir_impl_treesOf) rfl ?_; simp only [ir_impl_treesOf,zn,zs,zq,zi,zg,zp]
  simp (disch:=first|omega|simp only[vl];omega) only [vcd]
  refine call_by (k1) rfl ?_
  simp (disch:=first|omega|simp only[vl];omega) only [vcd,List.length_map]
  refine loop_ix (fun _=>True) (fun i=>[.u,.u,LT_ (t.take i),.u,LS (t.map BT.p),.n t.length,.n i,.u]) t.length trivial rfl (fun i hi _=>?_) (fun _=>?_)
  ·have ea:=atS_mapP hi
   have hz:=hn _ (btG_mem hi)
   have et:t.take (i+1)=t.take i++[btG t i]:=by rw [qta hi,btG_eq hi]
   have el:(t.take i).length≤42:=by rw [List.length_take]; omega
   simp (disch:=first|omega|simp only[vl];omega) only [vcd,List.length_map,ea]
   refine call_by (top_i (K:=K) (x:=btG t i) hz) rfl ?_
   simp (disch:=first|omega|simp only[vl];omega) only [vcd]
   refine call_by (text_ok (K:=K) (x:=btG t i) (by omega)) rfl ?_
   simp (disch:=first|omega|simp only[vl];omega) only [vcd,List.length_map]
   rw [et,LT_,List.map_append]
   rfl
  ·rw [List.take_length]
   simp (disch:=first|omega|simp only[vl];omega) only [vcd]
 ·have k1:=pl_s (K:=K) (n:=n) (by omega)
  rw [← ht] at k1
  refine body_by (f:=ir_spec_l17Trees) rfl ?_; simp only [ir_spec_l17Trees,zn,zs,zq,zi,zg,zp]
  simp (disch:=first|omega|simp only[vl];omega) only [vcd]
  refine call_by (k1) rfl ?_
  simp (disch:=first|omega|simp only[vl];omega) only [vcd,List.length_map]
  refine loop_ix (fun _=>True) (fun i=>[.u,.u,LT_ (t.take i),LS (t.map BT.p),.n i,.u]) t.length trivial rfl (fun i hi _=>?_) (fun _=>?_)
  ·have ea:=atS_mapP hi
   have hz:=hn _ (btG_mem hi)
   have et:t.take (i+1)=t.take i++[btG t i]:=by rw [qta hi,btG_eq hi]
   have el:(t.take i).length≤42:=by rw [List.length_take]; omega
   simp (disch:=first|omega|simp only[vl];omega) only [vcd,List.length_map,ea]
   refine call_by (l6b_ok (K:=K) (x:=btG t i) hz) rfl ?_
   simp (disch:=first|omega|simp only[vl];omega) only [vcd,List.length_map]
   rw [et,LT_,List.map_append]
   rfl
  ·rw [List.take_length]
   simp (disch:=first|omega|simp only[vl];omega) only [vcd,List.length_map]
def ivF (x y:BT) (t:List BT) (i:Nat):Nat:=((List.range i).filter fun k:Nat=>leB x (btG t k)&&leB (btG t k) y).length
theorem ivF_s {x y:BT} {t:List BT} {i:Nat}:ivF x y t (i+1)=ivF x y t i+if (leB x (btG t i)&&leB (btG t i) y)=true then 1 else 0:=by
 simp only [ivF,List.range_succ,List.filter_append,qla]
 by_cases h:(leB x (btG t i)&&leB (btG t i) y)=true
 ·simp [h]
 ·simp [h]
theorem ivF_le {x y:BT} {t:List BT} {i:Nat}:ivF x y t i≤i:=by
 have:=List.length_filter_le (fun k:Nat=>leB x (btG t k)&&leB (btG t k) y) (List.range i)
 simpa [ivF] using this
theorem iv_ok [HA K] {x y:BT} (hx:x.n≤5) (h:x.n=y.n):∃ v:Int,0≤v∧v≤42∧K 618 [.s x.t,.s y.t] [.n v]∧K 613 [.s x.t,.s y.t] [.n v]:=by
 obtain ⟨t,t42,tn,ki,ks⟩:=trs_ok (K:=K) (n:=x.n) hx
 have hle:=ivF_le (x:=x) (y:=y) (t:=t) (i:=t.length)
 refine ⟨ivF x y t t.length,by omega,by omega,?_,?_⟩
 ·have k1:=al_i (K:=K) (x:=x) (y:=y) (m:=5) (by omega) (by omega) (by omega)
  rw [decide_eq_true (p:=(x.n:Int)≤5) (by omega),decide_eq_true h,Bool.and_self] at k1
  refine body_by (f:=ir_impl_IntervalSize) rfl ?_; simp only [ir_impl_IntervalSize,zn,zs,zq,zi,zg,zp]
  simp (disch:=first|omega|simp only[vl];omega) only [vcd]
  refine call_by (k1) rfl ?_
  simp (disch:=first|omega|simp only[vl];omega) only [vcd]
  refine call_by (no_i (K:=K) (x:=x) (by omega)) rfl ?_
  simp (disch:=first|omega|simp only[vl];omega) only [vcd]
  refine call_by (ki) rfl ?_
  simp (disch:=first|omega|simp only[vl];omega) only [vcd,List.length_map]
  refine loop_up (fun i (c:Int)=>c=ivF x y t i) (fun i c=>[.s x.t,.s y.t,.u,.n c,.u,.u,LT_ t,.n t.length,.n i,.u,.u]) t.length 0 rfl rfl (fun i c hi hc=>?_) (fun c hc=>?_)
  ·have ea:=atS_mapG hi
   have hz:=tn _ (btG_mem hi)
   have hs:=ivF_s (x:=x) (y:=y) (t:=t) (i:=i)
   have hl:=ivF_le (x:=x) (y:=y) (t:=t) (i:=i)
   simp (disch:=first|omega|simp only[vl];omega) only [vcd,List.length_map,ea]
   refine call_by (tl_i (K:=K) (x:=x) (y:=btG t i) (by omega) hz) rfl ?_
   cases q1:leB x (btG t i) with
   | false=>
    rw [q1,Bool.false_and,if_neg (by simp)] at hs
    simp (disch:=first|omega|simp only[vl];omega) only [vcd]
    exact ⟨_,by rw [hs,hc]; omega,rfl⟩
   | true=>
    simp (disch:=first|omega|simp only[vl];omega) only [vcd]
    refine call_by (tl_i (K:=K) (x:=btG t i) (y:=y) hz (by omega)) rfl ?_
    cases q2:leB (btG t i) y with
    | false=>
     rw [q1,q2,Bool.and_false,if_neg (by simp)] at hs
     simp (disch:=first|omega|simp only[vl];omega) only [vcd]
     exact ⟨_,by rw [hs,hc]; omega,rfl⟩
    | true=>
     rw [q1,q2,Bool.and_self,if_pos rfl] at hs
     simp (disch:=first|omega|simp only[vl];omega) only [vcd]
     exact ⟨_,by rw [hs,hc]; omega,rfl⟩
  ·simp (disch:=first|omega|simp only[vl];omega) only [vcd]
   rw [hc]
 ·have k1:=fit_s (K:=K) (x:=x) (y:=y) (by omega) (by omega)
  rw [decide_eq_true h] at k1
  refine body_by (f:=ir_spec_IntervalSize) rfl ?_; simp only [ir_spec_IntervalSize,zn,zs,zq,zi,zg,zp]
  simp (disch:=first|omega|simp only[vl];omega) only [vcd]
  refine call_by (k1) rfl ?_
  simp (disch:=first|omega|simp only[vl];omega) only [vcd]
  refine call_by (no_s (K:=K) (x:=x) (by omega)) rfl ?_
  simp (disch:=first|omega|simp only[vl];omega) only [vcd]
  refine call_by (no_s (K:=K) (x:=x) (by omega)) rfl ?_
  simp (disch:=first|omega|simp only[vl];omega) only [vcd]
  refine call_by (ks) rfl ?_
  simp (disch:=first|omega|simp only[vl];omega) only [vcd]
  refine loop_up (fun i (c:Int)=>c=ivF x y t i) (fun i c=>[.s x.t,.s y.t,.u,LT_ t,.n c,.n i,.u,.u,.u]) t.length 0 rfl rfl (fun i c hi hc=>?_) (fun c hc=>?_)
  ·have ea:=atS_mapG hi
   have hz:=tn _ (btG_mem hi)
   have hs:=ivF_s (x:=x) (y:=y) (t:=t) (i:=i)
   have hl:=ivF_le (x:=x) (y:=y) (t:=t) (i:=i)
   simp (disch:=first|omega|simp only[vl];omega) only [vcd,List.length_map,ea]
   refine call_by (tl_s (K:=K) (x:=x) (y:=btG t i) (by omega) hz) rfl ?_
   cases q1:leB x (btG t i) with
   | false=>
    rw [q1,Bool.false_and,if_neg (by simp)] at hs
    simp (disch:=first|omega|simp only[vl];omega) only [vcd,List.length_map,ea]
    exact ⟨_,by rw [hs,hc]; omega,rfl⟩
   | true=>
    simp (disch:=first|omega|simp only[vl];omega) only [vcd,List.length_map,ea]
    refine call_by (tl_s (K:=K) (x:=btG t i) (y:=y) hz (by omega)) rfl ?_
    cases q2:leB (btG t i) y with
    | false=>
     rw [q1,q2,Bool.and_false,if_neg (by simp)] at hs
     simp (disch:=first|omega|simp only[vl];omega) only [vcd]
     exact ⟨_,by rw [hs,hc]; omega,rfl⟩
    | true=>
     rw [q1,q2,Bool.and_self,if_pos rfl] at hs
     simp (disch:=first|omega|simp only[vl];omega) only [vcd]
     exact ⟨_,by rw [hs,hc]; omega,rfl⟩
  ·simp (disch:=first|omega|simp only[vl];omega) only [vcd,List.length_map]
   rw [hc]
theorem ls_6p {a b c d e f:List Nat}:liD [.s a,.s b,.s c,.s d,.s e,.s f]=some (LS [a,b,c,d,e,f]):=rfl
theorem ls_5p {a b c d e:List Nat}:liD [.s a,.s b,.s c,.s d,.s e]=some (LS [a,b,c,d,e]):=rfl
theorem pair_ok [HA K] [HasV K 201 ir_impl_rotations_w202] [HA K] [HRot K] {x y:BT} (hx:x.n≤8) (h:x.n=y.n):∃ v,K 608 [.s x.t,.s y.t] [.s v]∧K 607 [.s x.t,.s y.t] [.s v]:=by
 obtain ⟨m,m1,mi,ms⟩:=meet_ok (K:=K) hx h
 obtain ⟨j,j1,ji,js⟩:=join_ok (K:=K) hx h
 have lm:(m.elim [] BT.t).length≤25:=by
  cases m with
  | none=>simp
  | some z=>have:=m1 z rfl; have:=BT.tl z; simp only [Option.elim_some]; omega
 have lj:(j.elim [] BT.t).length≤25:=by
  cases j with
  | none=>simp
  | some z=>have:=j1 z rfl; have:=BT.tl z; simp only [Option.elim_some]; omega
 rw [roR] at mi ms ji js
 generalize m.elim [] BT.t=sm at*
 generalize j.elim [] BT.t=sj at*
 generalize m.isSome=bm at*
 generalize j.isSome=bj at*
 have k1:=al_i (K:=K) (x:=x) (y:=y) (m:=8) hx (by omega) (by omega)
 rw [decide_eq_true (p:=(x.n:Int)≤8) (by omega),decide_eq_true h,Bool.and_self] at k1
 have k2:=fit_s (K:=K) (x:=x) (y:=y) hx (by omega)
 rw [decide_eq_true h] at k2
 have bc:=cdF_64 (X:=tgF x) (Y:=tgF y) (i:=(tgF x).length) (by have:=tgF_bd (x:=x); omega) (by have:=tgF_bd (x:=y); omega)
 have ci:=cd_i (K:=K) hx h
 have cs:=cd_s (K:=K) hx h
 generalize cdF (tgF x) (tgF y) (tgF x).length=c at*
 have f1:=fmt_len (n:=(c:Int)) (by omega)
 have g1:glue [32] [[112,97,105,114,32,109,101,101,116],sm,[106,111,105,110],sj,[99,111,109,109,111,110],fmtI c]=[112,97,105,114,32,109,101,101,116,32]++sm++[32,106,111,105,110,32]++sj++[32,99,111,109,109,111,110,32]++fmtI c:=by simp [glue,glT,atS]
 have ln1:=line_ok (K:=K) (ws:=[[112,97,105,114,32,109,101,101,116],sm,[106,111,105,110],sj,[99,111,109,109,111,110],fmtI c]) (by simp) (by simp; omega)
 rw [g1] at ln1
 obtain ⟨s1,hs1⟩:∃ s,s=[112,97,105,114,32,109,101,101,116,32]++sm++[32,106,111,105,110,32]++sj++[32,99,111,109,109,111,110,32]++fmtI c:=⟨_,rfl⟩
 have ls1:s1.length≤1000:=by rw [hs1]; simp; omega
 rw [← hs1] at ln1
 by_cases h5:x.n≤5
 ·obtain ⟨d,d1,d2,di,ds⟩:=dist_any (K:=K) x.t y.t
  obtain ⟨v,v1,v2,vi,vs⟩:=iv_ok (K:=K) h5 h
  have f2:=fmt_len (n:=d) (by omega)
  have f3:=fmt_len (n:=v) (by omega)
  have ln2:=line_ok (K:=K) (ws:=[s1,[100,105,115,116,97,110,99,101],fmtI d,[98,101,116,119,101,101,110],fmtI v]) (by simp) (by simp; omega)
  refine ⟨s1++[32,100,105,115,116,97,110,99,101,32]++fmtI d++[32,98,101,116,119,101,101,110,32]++fmtI v,?_,?_⟩
  rotate_left 1
  ·refine body_by (f:=ir_spec_PairLine) rfl ?_; simp only [ir_spec_PairLine,zn,zs,zq,zi,zg,zp]
   simp (disch:=first|omega|simp only[vl];omega) only [vcd]
   refine call_by (k2) rfl ?_
   simp (disch:=first|omega|simp only[vl];omega) only [vcd]
   refine call_by (ms) rfl ?_
   simp (disch:=first|omega|simp only[vl];omega) only [vcd]
   refine call_by (js) rfl ?_
   simp (disch:=first|omega|simp only[vl];omega) only [vcd]
   refine call_by (cs) rfl ?_
   simp (disch:=first|omega|simp only[vl];omega) only [vcd]
   refine call_by (fmt_s (K:=K) (n:=(c:Int)) (by omega)) rfl ?_
   simp (disch:=first|omega|simp only[vl];omega) only [vcd]
   refine call_by (no_s (K:=K) (x:=x) (by omega)) rfl ?_
   simp (disch:=first|omega|simp only[vl];omega) only [vcd]
   refine call_by (ds) rfl ?_
   simp (disch:=first|omega|simp only[vl];omega) only [vcd]
   refine call_by (fmt_s (K:=K) (n:=d) (by omega)) rfl ?_
   simp (disch:=first|omega|simp only[vl];omega) only [vcd]
   refine call_by (vs) rfl ?_
   simp (disch:=first|omega|simp only[vl];omega) only [vcd]
   refine call_by (fmt_s (K:=K) (n:=v) (by omega)) rfl ?_
   simp (disch:=first|omega|simp only[vl];omega) only [vcd]
   simp [hs1]
  ·refine body_by (f:=ir_impl_PairLine) rfl ?_; simp only [ir_impl_PairLine,zn,zs,zq,zi,zg,zp]
   simp (disch:=first|omega|simp only[vl];omega) only [vcd]
   refine call_by (k1) rfl ?_
   simp (disch:=first|omega|simp only[vl];omega) only [vcd]
   refine call_by (mi) rfl ?_
   simp (disch:=first|omega|simp only[vl];omega) only [vcd]
   refine call_by (ji) rfl ?_
   simp (disch:=first|omega|simp only[vl];omega) only [vcd]
   refine call_by (ci) rfl ?_
   simp (disch:=first|omega|simp only[vl];omega) only [vcd]
   refine call_by (fmt_i (K:=K) (n:=(c:Int)) (by omega)) rfl ?_
   simp (disch:=first|omega|simp only[vl];omega) only [vcd,ls_6p]
   refine call_by (ln1) rfl ?_
   simp (disch:=first|omega|simp only[vl];omega) only [vcd]
   refine call_by (no_i (K:=K) (x:=x) (by omega)) rfl ?_
   simp (disch:=first|omega|simp only[vl];omega) only [vcd]
   refine call_by (di) rfl ?_
   simp (disch:=first|omega|simp only[vl];omega) only [vcd]
   refine call_by (fmt_i (K:=K) (n:=d) (by omega)) rfl ?_
   simp (disch:=first|omega|simp only[vl];omega) only [vcd]
   refine call_by (vi) rfl ?_
   simp (disch:=first|omega|simp only[vl];omega) only [vcd]
   refine call_by (fmt_i (K:=K) (n:=v) (by omega)) rfl ?_
   simp (disch:=first|omega|simp only[vl];omega) only [vcd,ls_5p]
   refine call_by (ln2) rfl ?_
   simp (disch:=first|omega|simp only[vl];omega) only [vcd]
   simp [glue,glT,atS]
 ·refine ⟨s1,?_,?_⟩
  ·refine body_by (f:=ir_impl_PairLine) rfl ?_; simp only [ir_impl_PairLine,zn,zs,zq,zi,zg,zp]
   simp (disch:=first|omega|simp only[vl];omega) only [vcd]
   refine call_by (k1) rfl ?_
   simp (disch:=first|omega|simp only[vl];omega) only [vcd]
   refine call_by (mi) rfl ?_
   simp (disch:=first|omega|simp only[vl];omega) only [vcd]
   refine call_by (ji) rfl ?_
   simp (disch:=first|omega|simp only[vl];omega) only [vcd]
   refine call_by (ci) rfl ?_
   simp (disch:=first|omega|simp only[vl];omega) only [vcd]
   refine call_by (fmt_i (K:=K) (n:=(c:Int)) (by omega)) rfl ?_
   simp (disch:=first|omega|simp only[vl];omega) only [vcd,ls_6p]
   refine call_by (ln1) rfl ?_
   simp (disch:=first|omega|simp only[vl];omega) only [vcd]
   refine call_by (no_i (K:=K) (x:=x) (by omega)) rfl ?_
   simp (disch:=first|omega|simp only[vl];omega) only [vcd]
  ·refine body_by (f:=ir_spec_PairLine) rfl ?_; simp only [ir_spec_PairLine,zn,zs,zq,zi,zg,zp]
   simp (disch:=first|omega|simp only[vl];omega) only [vcd]
   refine call_by (k2) rfl ?_
   simp (disch:=first|omega|simp only[vl];omega) only [vcd]
   refine call_by (ms) rfl ?_
   simp (disch:=first|omega|simp only[vl];omega) only [vcd]
   refine call_by (js) rfl ?_
   simp (disch:=first|omega|simp only[vl];omega) only [vcd]
   refine call_by (cs) rfl ?_
   simp (disch:=first|omega|simp only[vl];omega) only [vcd]
   refine call_by (fmt_s (K:=K) (n:=(c:Int)) (by omega)) rfl ?_
   simp (disch:=first|omega|simp only[vl];omega) only [vcd]
   refine call_by (no_s (K:=K) (x:=x) (by omega)) rfl ?_
   simp (disch:=first|omega|simp only[vl];omega) only [vcd]
   simp [hs1]
theorem pair_any [HA K] [HasV K 201 ir_impl_rotations_w202] [HA K] [HRot K] (a b:List Nat):∃ v,K 608 [.s a,.s b] [.s v]∧K 607 [.s a,.s b] [.s v]:=by
 have no:∀ r:Bool,r=false→K 367 [.s a,.s b,.n 8] [.b r]→K 365 [.s a,.s b] [.b r]→∃ v,K 608 [.s a,.s b] [.s v]∧K 607 [.s a,.s b] [.s v]:=by
  rintro r rfl k1 k2
  refine ⟨[],?_,?_⟩
  ·refine body_by (f:=ir_impl_PairLine) rfl ?_; simp only [ir_impl_PairLine,zn,zs,zq,zi,zg,zp]
   simp (disch:=first|omega|simp only[vl];omega) only [vcd]
   refine call_by (k1) rfl ?_
   simp (disch:=first|omega|simp only[vl];omega) only [vcd]
  ·refine body_by (f:=ir_spec_PairLine) rfl ?_; simp only [ir_spec_PairLine,zn,zs,zq,zi,zg,zp]
   simp (disch:=first|omega|simp only[vl];omega) only [vcd]
   refine call_by (k2) rfl ?_
   simp (disch:=first|omega|simp only[vl];omega) only [vcd]
 cases ha:isB a with
 | false=>exact no false rfl (al_i1 (K:=K) (m:=8) ha) (fit_s1 (K:=K) ha)
 | true=>
  obtain ⟨x,rfl,hx⟩:=isB_t ha
  cases hb:isB b with
  | false=>exact no false rfl (al_i2 (K:=K) hx hb) (fit_s2 (K:=K) hx hb)
  | true=>
   obtain ⟨y,rfl,hy⟩:=isB_t hb
   by_cases h:x.n=y.n
   ·exact pair_ok hx h
   ·have k1:=al_i (K:=K) (x:=x) (y:=y) (m:=8) hx hy (by omega)
    have k2:=fit_s (K:=K) hx hy
    rw [decide_eq_false h,Bool.and_false] at k1
    rw [decide_eq_false h] at k2
    exact no false rfl k1 k2
theorem pair_law [HA K] [HasV K 201 ir_impl_rotations_w202] [HA K] [HRot K] (a b:List Nat):K 606 [.s a,.s b] [.b true]:=by
 obtain ⟨v,k1,k2⟩:=pair_any (K:=K) a b
 have eq0:(v == v)=true:=by simp
 refine body_by (f:=ir_laws_FnExactPairLine) rfl ?_; simp only [ir_laws_FnExactPairLine,zn,zs,zq,zi,zg,zp]
 by_cases h:a.length≤1048576
 ·by_cases h2:b.length≤1048576
  ·simp (disch:=first|omega|simp only[vl];omega) only [vcd]
   refine call_by (k2) rfl ?_
   simp (disch:=first|omega|simp only[vl];omega) only [vcd]
   refine call_by (k1) rfl ?_
   simp (disch:=first|omega|simp only[vl];omega) only [vcd,eq0]
  ·simp (disch:=first|omega|simp only[vl];omega) only [vcd]
 ·simp (disch:=first|omega|simp only[vl];omega) only [vcd]
end Go.Cat
