/-
 The counts of a size, on both sides.
-/
import Derived.Test.YtfoiofhilbdlaaaPfPairB
import Derived.Test.YtfoiofhilbdlaaaPfSch
import Derived.Test.YtfoiofhilbdlaaaPfMatP
import Derived.Test.YtfoiofhilbdlaaaPfCat
import Derived.Test.YtfoiofhilbdlaaaPfBin
import Derived.Test.YtfoiofhilbdlaaaPfNumT
import Derived.Test.YtfoiofhilbdlaaaIrHas
set_option linter.unusedSimpArgs false
set_option linter.unusedVariables false
namespace Go.Cat
set_option maxRecDepth 100000
variable {K:Nat→List D→List D→Prop}
def motL:List Int:=[1,1,2,4,9,21]
def fusL:List Int:=[1,1,3,12,55,273]
def prkL:List Int:=[1,1,3,16,125,1296]
abbrev tmqi:List (Nat×IF):=[(256,ir_impl_MotzkinNumber),(23,ir_impl_within)]
abbrev tmqs:List (Nat×IF):=[(267,ir_spec_MotzkinNumber),(22,ir_spec_l1In)]
abbrev tsch:List (Nat×IF):=[(489,ir_spec_SchroederNumber),(79,ir_spec_CatalanNumber),(84,ir_spec_l3Ways),(22,ir_spec_l1In),(24,ir_spec_l3Binomial)]
abbrev tfus:List (Nat×IF):=[(490,ir_spec_FussNumber),(22,ir_spec_l1In),(24,ir_spec_l3Binomial)]
abbrev tfui:List (Nat×IF):=[(495,ir_impl_FussNumber),(23,ir_impl_within),(25,ir_impl_choose)]
abbrev tpks:List (Nat×IF):=[(491,ir_spec_CountParking),(22,ir_spec_l1In)]
abbrev tpki:List (Nat×IF):=[(496,ir_impl_CountParking),(23,ir_impl_within)]
theorem mzq_i0:allB 6 (fun n=>isN (evF (tableOf tmqi) 60 8 256 [.n n]) (motL.getD n 0))=true:=by kernel_rfl
theorem mzq_i [HA K] {n:Nat} (h:n<6):K 256 [.n n] [.n (motL.getD n 0)]:=run tmqi 60 8 256 (isN_spec (allB_spec mzq_i0 n h))
theorem mzq_s0:allB 6 (fun n=>isN (evF (tableOf tmqs) 60 8 267 [.n n]) (motL.getD n 0))=true:=by kernel_rfl
theorem mzq_s [HA K] {n:Nat} (h:n<6):K 267 [.n n] [.n (motL.getD n 0)]:=run tmqs 60 8 267 (isN_spec (allB_spec mzq_s0 n h))
theorem sch_s0:allB 6 (fun n=>isN (evF (tableOf tsch) 60 8 489 [.n n]) (schL.getD n 0))=true:=by kernel_rfl
theorem sch_s [HA K] {n:Nat} (h:n<6):K 489 [.n n] [.n (schL.getD n 0)]:=run tsch 60 8 489 (isN_spec (allB_spec sch_s0 n h))
theorem fus_s0:allB 6 (fun n=>isN (evF (tableOf tfus) 60 8 490 [.n 3,.n n]) (fusL.getD n 0))=true:=by kernel_rfl
theorem fus_s [HA K] {n:Nat} (h:n<6):K 490 [.n 3,.n n] [.n (fusL.getD n 0)]:=run tfus 60 8 490 (isN_spec (allB_spec fus_s0 n h))
theorem fus_i0:allB 6 (fun n=>isN (evF (tableOf tfui) 60 8 495 [.n 3,.n n]) (fusL.getD n 0))=true:=by kernel_rfl
theorem fus_i [HA K] {n:Nat} (h:n<6):K 495 [.n 3,.n n] [.n (fusL.getD n 0)]:=run tfui 60 8 495 (isN_spec (allB_spec fus_i0 n h))
theorem prk_s0:allB 6 (fun n=>isN (evF (tableOf tpks) 60 8 491 [.n n]) (prkL.getD n 0))=true:=by kernel_rfl
theorem prk_s [HA K] {n:Nat} (h:n<6):K 491 [.n n] [.n (prkL.getD n 0)]:=run tpks 60 8 491 (isN_spec (allB_spec prk_s0 n h))
theorem prk_i0:allB 6 (fun n=>isN (evF (tableOf tpki) 60 8 496 [.n n]) (prkL.getD n 0))=true:=by kernel_rfl
theorem prk_i [HA K] {n:Nat} (h:n<6):K 496 [.n n] [.n (prkL.getD n 0)]:=run tpki 60 8 496 (isN_spec (allB_spec prk_i0 n h))
def nlF (x:BT) (t:List BT) (j:Nat):Nat:=((List.range j).filter fun k:Nat=>leB x (btG t k)).length
theorem nlF_s {x:BT} {t:List BT} {j:Nat}:nlF x t (j+1)=nlF x t j+if leB x (btG t j)=true then 1 else 0:=by
 simp only [nlF,List.range_succ,List.filter_append,qla]
 by_cases h:leB x (btG t j)=true
 ·simp [h]
 ·simp [h]
theorem nlF_le {x:BT} {t:List BT} {j:Nat}:nlF x t j≤j:=by
 have:=List.length_filter_le (fun k:Nat=>leB x (btG t k)) (List.range j)
 simpa [nlF] using this
def nnF (t:List BT):Nat→Nat
 | 0=>0
 | i+1=>nnF t i+nlF (btG t i) t t.length
theorem nnF_le {t:List BT}:∀ {i:Nat},nnF t i≤i*t.length
 | 0=>by simp [nnF]
 | i+1=>by
  have h1:=nnF_le (t:=t) (i:=i)
  have h2:=nlF_le (x:=btG t i) (t:=t) (j:=t.length)
  simp only [nnF,Nat.add_mul,Nat.one_mul]
  omega
theorem ci_ok [HA K] {n:Nat} (h:n≤5):∃ v:Int,0≤v∧v≤1764∧K 497 [.n n] [.n v]∧K 492 [.n n] [.n v]:=by
 obtain ⟨t,t42,tn,ki,ks⟩:=trs_ok (K:=K) (n:=n) h
 have hb:∀ i,i≤t.length→nnF t i≤1764:=fun i hi=>by
  have h1:=nnF_le (t:=t) (i:=i)
  have h2:i*t.length≤42*42:=Nat.mul_le_mul (by omega) t42
  omega
 have hin:inR 0 5 (n:Int)=true:=inR_iff.2 (by omega)
 refine ⟨nnF t t.length,by omega,by have:=hb t.length (Nat.le_refl _); omega,?_,?_⟩
 ·refine body_by (f:=ir_impl_CountIntervals) rfl ?_; simp only [ir_impl_CountIntervals,zn,zs,zq,zi,zg,zp]
  simp (disch:=first|omega|simp only[vl];omega) only [vcd]
  refine call_by (within_ok (K:=K)) rfl ?_
  rw [hin]
  simp (disch:=first|omega|simp only[vl];omega) only [vcd]
  refine call_by (ki) rfl ?_
  simp (disch:=first|omega|simp only[vl];omega) only [vcd,List.length_map]
  refine loop_up (fun i (c:Int)=>c=nnF t i) (fun i c=>[.u,.u,.n c,LT_ t,.u,.u,.u,LT_ t,.n t.length,.n i,.u,.u,.u,.u,.u,.u]) t.length 0 rfl rfl (fun i c hi hc=>?_) (fun c hc=>?_)
  ·have b1:=hb i (by omega)
   have ei:=atS_mapG hi
   simp (disch:=first|omega|simp only[vl];omega) only [vcd,List.length_map,ei]
   refine loop_up (fun j (e:Int)=>e=c+nlF (btG t i) t j) (fun j e=>[.u,.u,.n e,LT_ t,.s (btG t i).t,.u,.u,LT_ t,.n t.length,.n i,.u,LT_ t,.n t.length,.n j,.u,.u]) t.length c (by simp [nlF]) rfl (fun j e hj he=>?_) (fun e he=>?_)
   ·have ej:=atS_mapG hj
    have hs:=nlF_s (x:=btG t i) (t:=t) (j:=j)
    have hl:=nlF_le (x:=btG t i) (t:=t) (j:=j)
    simp (disch:=first|omega|simp only[vl];omega) only [vcd,List.length_map,ej]
    refine call_by (tl_i (K:=K) (x:=btG t i) (y:=btG t j) (tn _ (btG_mem hi)) (tn _ (btG_mem hj))) rfl ?_
    cases q:leB (btG t i) (btG t j) with
    | false=>
     rw [q,if_neg (by simp)] at hs
     simp (disch:=first|omega|simp only[vl];omega) only [vcd]
     exact ⟨_,by rw [hs,he]; omega,rfl⟩
    | true=>
     rw [q,if_pos rfl] at hs
     simp (disch:=first|omega|simp only[vl];omega) only [vcd]
     exact ⟨_,by rw [hs,he]; omega,rfl⟩
   ·simp (disch:=first|omega|simp only[vl];omega) only [vcd]
    exact ⟨_,by rw [he,hc]; simp only [nnF]; omega,rfl⟩
  ·simp (disch:=first|omega|simp only[vl];omega) only [vcd]
   rw [hc]
 ·refine body_by (f:=ir_spec_CountIntervals) rfl ?_; simp only [ir_spec_CountIntervals,zn,zs,zq,zi,zg,zp]
  simp (disch:=first|omega|simp only[vl];omega) only [vcd]
  refine call_by (l1In_ok (K:=K)) rfl ?_
  rw [hin]
  simp (disch:=first|omega|simp only[vl];omega) only [vcd]
  refine call_by (ks) rfl ?_
  simp (disch:=first|omega|simp only[vl];omega) only [vcd,List.length_map]
  refine loop_up (fun i (c:Int)=>c=nnF t i) (fun i c=>[.u,.u,LT_ t,.n c,.n i,.u,.u,.u,.u,.u]) t.length 0 rfl rfl (fun i c hi hc=>?_) (fun c hc=>?_)
  ·have b1:=hb i (by omega)
   have ei:=atS_mapG hi
   simp (disch:=first|omega|simp only[vl];omega) only [vcd,List.length_map,ei]
   refine loop_up (fun j (e:Int)=>e=c+nlF (btG t i) t j) (fun j e=>[.u,.u,LT_ t,.n e,.n i,.n j,.u,.u,.u,.u]) t.length c (by simp [nlF]) rfl (fun j e hj he=>?_) (fun e he=>?_)
   ·have ej:=atS_mapG hj
    have hs:=nlF_s (x:=btG t i) (t:=t) (j:=j)
    have hl:=nlF_le (x:=btG t i) (t:=t) (j:=j)
    simp (disch:=first|omega|simp only[vl];omega) only [vcd,List.length_map,ei,ej]
    refine call_by (tl_s (K:=K) (x:=btG t i) (y:=btG t j) (tn _ (btG_mem hi)) (tn _ (btG_mem hj))) rfl ?_
    cases q:leB (btG t i) (btG t j) with
    | false=>
     rw [q,if_neg (by simp)] at hs
     simp (disch:=first|omega|simp only[vl];omega) only [vcd]
     exact ⟨_,by rw [hs,he]; omega,rfl⟩
    | true=>
     rw [q,if_pos rfl] at hs
     simp (disch:=first|omega|simp only[vl];omega) only [vcd]
     exact ⟨_,by rw [hs,he]; omega,rfl⟩
   ·simp (disch:=first|omega|simp only[vl];omega) only [vcd,List.length_map]
    exact ⟨_,by rw [he,hc]; simp only [nnF]; omega,rfl⟩
  ·simp (disch:=first|omega|simp only[vl];omega) only [vcd,List.length_map]
   rw [hc]
end Go.Cat
