/-
 The sieve: the program's objects, turned.
-/
import Derived.Test.YtdaefhflccndlaaGreatPfSvO
import Derived.Test.YtdaefhflccndlaaGreatPfWr1
import Derived.Test.YtdaefhflccndlaaGreatPfTxt
import Derived.Test.YtdaefhflccndlaaGreatPfBT
import Derived.Test.YtdaefhflccndlaaGreatIrHas
set_option linter.unusedSimpArgs false
set_option linter.unusedVariables false
namespace Go.Cat
set_option maxRecDepth 100000
variable {K:Nat→List D→List D→Prop}
theorem ord_i [HA K] {f n:Nat} (hf:f<3) (hn:1≤n∧n≤5):K 571 [.s (fmN f),.n n] [.n (orF f n)]:=by
 have hin:inR 1 5 n=true:=inR_iff.2 (by omega)
 refine body_by (f:=ir_impl_OrderOfTurn) rfl ?_; simp only [ir_impl_OrderOfTurn,zn,zs,zq,zi,zg,zp]
 simp (disch:=first|omega|simp only[vl];omega) only [vcd]
 refine call_by (within_ok (K:=K)) rfl ?_
 rcases f3 hf with rfl | rfl | rfl
 ·simp (disch:=first|omega|simp only[vl];omega) only [vcd,hin,show (fmN 0 == [109,97,116,99,104,105,110,103,115])=true from rfl]
  rfl
 ·simp (disch:=first|omega|simp only[vl];omega) only [vcd,hin,show (fmN 1 == [109,97,116,99,104,105,110,103,115])=false from rfl,show (fmN 1 == [112,97,114,116,105,116,105,111,110,115])=true from rfl]
  rfl
 ·simp (disch:=first|omega|simp only[vl];omega) only [vcd,hin,show (fmN 2 == [109,97,116,99,104,105,110,103,115])=false from rfl,show (fmN 2 == [112,97,114,116,105,116,105,111,110,115])=false from rfl,show (fmN 2 == [116,114,105,97,110,103,117,108,97,116,105,111,110,115])=true from rfl]
  rfl
theorem ord_i0 [HA K] {s:List Nat} {n:Int} (h:inR 1 5 n=false∨(s≠fmN 0∧s≠fmN 1∧s≠fmN 2)):K 571 [.s s,.n n] [.n (-1)]:=by
 refine body_by (f:=ir_impl_OrderOfTurn) rfl ?_; simp only [ir_impl_OrderOfTurn,zn,zs,zq,zi,zg,zp]
 simp (disch:=first|omega|simp only[vl];omega) only [vcd]
 refine call_by (within_ok (K:=K)) rfl ?_
 cases hin:inR 1 5 n
 ·simp (disch:=first|omega|simp only[vl];omega) only [vcd]
 ·rw [hin] at h
  have h:=h.resolve_left (by simp)
  have h0:(s == [109,97,116,99,104,105,110,103,115])=false:=beq_eq_false_iff_ne.2 h.1
  have h1:(s == [112,97,114,116,105,116,105,111,110,115])=false:=beq_eq_false_iff_ne.2 h.2.1
  have h2:(s == [116,114,105,97,110,103,117,108,97,116,105,111,110,115])=false:=beq_eq_false_iff_ne.2 h.2.2
  simp (disch:=first|omega|simp only[vl];omega) only [vcd,h0,h1,h2]
theorem mto_i [HA K] {w:List Nat} (hd:dyck w=true):K 597 [.s w] [LI (mateC w),.b true]:=by
 have hl:w.length≤16:=(DY_of hd).l
 refine body_by (f:=ir_impl_MatchingOf) rfl ?_; simp only [ir_impl_MatchingOf,zn,zs,zq,zi,zg,zp]
 simp (disch:=first|omega|simp only[vl];omega) only [vcd]
 refine call_by (dyck_i (K:=K) (w:=w) (by omega)) rfl ?_
 rw [hd]
 simp (disch:=first|omega|simp only[vl];omega) only [vcd]
 have k:=(mat_ok (K:=K) hd).1
 rw [mateC_eq hd] at k
 refine call_by (k) rfl ?_
 simp (disch:=first|omega|simp only[vl];omega) only [vcd]
noncomputable def txO (f:Nat) (w:List Nat):List Nat:=match f with
 | 0=>fmaF (mateC w)
 | 1=>fptF (ptnC w)
 | _=>dgF (tgF (btC w))
noncomputable def txU (f n:Nat) (w:List Nat):List Nat:=match f with
 | 0=>fmaF (tmT (mateC w) 1)
 | 1=>fptF (tpT (ptnC w))
 | _=>dgF (tyT ((n:Int)+2) 1 (tgF (btC w)))
def arQ (m:List Int):Nat→List (List Int)
 | 0=>[]
 | i+1=>if (i:Int)<atI m i then arQ m i++[[(i:Int),atI m i]] else arQ m i
theorem arQ_eq {m:List Int} (h:∀ j:Nat,j<m.length→0≤atI m j∧atI m j≤9):∀ i,i≤m.length→i≤10→arW m i=(arQ m i).map fun r=>[48+(atI r 0).toNat,45,48+(atI r 1).toNat]
 | 0,_,_=>rfl
 | i+1,hi,h10=>by
  have ih:=arQ_eq h i (by omega) (by omega)
  have hj:=h i (by omega)
  simp only [arW,arQ]
  split
  ·rw [ih,List.map_append,fmt_1 (x:=(i:Int)) (by omega) (by omega),fmt_1 hj.1 hj.2]
   simp [atI]
  ·exact ih
def rwQ (r:List Int):Nat→List Nat
 | 0=>[]
 | i+1=>rwQ r i++[48+(atI r i+1).toNat]
theorem rwQ_eq {r:List Int} (h:∀ j:Nat,j<r.length→0≤atI r j∧atI r j≤8):∀ i,i≤r.length→rwT r i=rwQ r i
 | 0,_=>rfl
 | i+1,hi=>by
  have hj:=h i (by omega)
  simp only [rwT,rwQ]
  rw [rwQ_eq h i (by omega),fmt_1 (x:=atI r i+1) (by omega) (by omega)]
def txC (f:Nat) (w:List Nat):List Nat:=match f with
 | 0=>sep 32 ((arQ (mateC w) (mateC w).length).map fun r=>[48+(atI r 0).toNat,45,48+(atI r 1).toNat])
 | 1=>sep 124 ((ptB (ptnC w)).map fun r=>rwQ r r.length)
 | _=>if (tgF (btC w)).length=0 then [110,111,110,101] else sep 32 ((tgF (btC w)).map fun r=>[48+(atI r 0).toNat,48+(atI r 1).toNat])
def smB (k:Int) (l:List Int):Bool:=l.all fun x=>decide (0≤x)&&decide (x≤k)
theorem smB_at {k:Int} {l:List Int} (h:smB k l=true) {j:Nat} (hj:j<l.length):0≤atI l j∧atI l j≤k:=by
 have:=qat.1 h l[j] (List.getElem_mem hj)
 simp only [qba,qde] at this
 have e:atI l (j:Nat)=l[j]:=by simp [atI,hj]
 rw [e]; exact this
def obC (w:List Nat):Bool:=(matF (mateC w)&&(decide (0<(mateC w).length)&&(decide ((mateC w).length≤10)&&smB 9 (mateC w))))&&((ptB (ptnC w)).all (smB 8)&&((tgF (btC w)).all dgB&&decide ((tgF (btC w)).length≤7)))
theorem obC0:allB 4 (fun n=>(pathsR (n+1)).all obC)=true:=by kernel_rfl
theorem obC5:(pathsR 5).all obC=true:=by kernel_rfl
theorem all5 {P:Nat→Bool} (h:allB 4 (fun n=>P (n+1))=true) (h5:P 5=true) {n:Nat} (hn:1≤n∧n≤5):P n=true:=by
 rcases qlg (n-1) 4 with q | q
 ·have:=allB_spec h (n-1) q
  rwa [show n-1+1=n by omega] at this
 ·rwa [show n=5 by omega]
theorem txO_C {f n:Nat} (hf:f<3) (hn:1≤n∧n≤5) {w:List Nat} (hw:w∈pathsR n):txO f w=txC f w:=by
 have h:=qat.1 (all5 (P:=fun n=>(pathsR n).all obC) obC0 obC5 hn) w hw
 simp only [obC,qba,qde] at h
 obtain ⟨⟨h1,h2,h3,h4⟩,h5,h6,h7⟩:=h
 rcases f3 hf with rfl | rfl | rfl
 ·simp only [txO,txC,fmaF]
  rw [if_pos h1,if_neg (by omega),glue_sep,arQ_eq (fun j hj=>smB_at h4 hj) _ (Nat.le_refl _) h3]
 ·simp only [txO,txC,fptF]
  rw [glue_sep,ptW]
  congr 1
  refine List.map_congr_left fun r hr=>?_
  exact rwQ_eq (fun j hj=>smB_at (qat.1 h5 r hr) hj) _ (Nat.le_refl _)
 ·simp only [txO,txC,dgF]
  by_cases hz:(tgF (btC w)).length=0
  ·rw [if_pos hz,if_pos hz]
  ·rw [if_neg hz,if_neg hz,if_neg (by omega),if_pos h6,glue_sep,dgW]
   congr 1
   refine List.map_congr_left fun r hr=>?_
   have:=qat.1 h6 r hr
   simp only [dgB,qba,qde,inR_iff] at this
   rw [fmt_1 this.2.1.1 this.2.1.2,fmt_1 this.2.2.1 this.2.2.2]; rfl
def txN (f n:Nat):Bool:=(List.range (pathsR n).length).all fun j=>decide (((pathsR n).map (txC f)).idxOf (txC f (atS (pathsR n) j))=j)
theorem txN0:allB 3 (fun f=>allB 4 fun n=>txN f (n+1))=true:=by kernel_rfl
theorem txN5:allB 3 (fun f=>txN f 5)=true:=by kernel_rfl
def tuB (n:Nat):Bool:=(List.range (pathsR n).length).all fun j=>decide (tmT (mateC (atS (pathsR n) j)) 1=mateC (t15 0 n 1 (atS (pathsR n) j)))&&(decide (tpT (ptnC (atS (pathsR n) j))=ptnC (t15 1 n 1 (atS (pathsR n) j)))&&decide (tyT ((n:Int)+2) 1 (tgF (btC (atS (pathsR n) j)))=tgF (btC (t15 2 n 1 (atS (pathsR n) j)))))
theorem tuB0:allB 4 (fun n=>tuB (n+1))=true:=by kernel_rfl
theorem tuB5:tuB 5=true:=by kernel_rfl
theorem txN_ok {f n:Nat} (hf:f<3) (hn:1≤n∧n≤5) {i j:Nat} (hi:i<(pathsR n).length) (hj:j<(pathsR n).length) (h:txO f (atS (pathsR n) i)=txO f (atS (pathsR n) j)):i=j:=by
 have e:txN f n=true:=all5 (P:=fun n=>txN f n) (allB_spec txN0 f hf) (allB_spec txN5 f hf) hn
 have hx:=qat.1 e
 have h1:=hx i (List.mem_range.2 hi)
 have h2:=hx j (List.mem_range.2 hj)
 simp only [qde] at h1 h2
 rw [txO_C hf hn (atS_memP hi),txO_C hf hn (atS_memP hj)] at h
 rw [h] at h1
 omega
theorem txU_ok {f n:Nat} (hf:f<3) (hn:1≤n∧n≤5) {j:Nat} (hj:j<(pathsR n).length):txU f n (atS (pathsR n) j)=txO f (t15 f n 1 (atS (pathsR n) j)):=by
 have h:=qat.1 (all5 (P:=tuB) tuB0 tuB5 hn) j (List.mem_range.2 hj)
 simp only [tuB,qba,qde] at h
 rcases f3 hf with rfl | rfl | rfl
 ·simp only [txU,txO]; rw [h.1]
 ·simp only [txU,txO]; rw [h.2.1]
 ·simp only [txU,txO]; rw [h.2.2]
theorem getK_puS {α:Type} {k k':List Nat} {v:α}:∀ {m:List (List Nat×α)},getK k' (putK k v m)=if k'=k then some v else getK k' m
 | []=>by simp [putK,getK]
 | (j,x)::m=>by
  simp only [putK]
  by_cases h:k=j
  ·rw [if_pos h]
   subst h
   simp only [getK]
   by_cases q:k'=k
   ·rw [if_pos q,if_pos q]
   ·rw [if_neg q,if_neg q,if_neg q]
  ·rw [if_neg h]
   simp only [getK]
   rw [getK_puS]
   by_cases q:k'=j
   ·subst q
    rw [if_pos rfl,if_neg (fun e=>h e.symm),if_pos rfl]
   ·rw [if_neg q,if_neg q]
theorem svP_t {w:List Nat} {k:Nat} (h:svP w k=true):isPt (iter (fun _ p=>tpT p) k (ptnC w))=true∧0<(iter (fun _ p=>tpT p) k (ptnC w)).length∧(iter (fun _ p=>tpT p) k (ptnC w)).length≤8:=by
 rw [svP,qba,qde] at h
 refine ⟨h.1,h.2,?_⟩
 have:=h.1
 simp [isPt] at this
 exact this.1
theorem obj_i [HA K] {f n:Nat} (hf:f<3) (hn:1≤n∧n≤5):K 587 [.s (fmN f),.n n] [LI (obL f n)]:=by
 have hp:=pathsR_132 (n:=n) (by omega)
 refine body_by (f:=ir_impl_objects) rfl ?_; simp only [ir_impl_objects,zn,zs,zq,zi,zg,zp]
 simp (disch:=first|omega|simp only[vl];omega) only [vcd]
 refine call_by (pl_i (K:=K) (n:=n) (by omega)) rfl ?_
 simp (disch:=first|omega|simp only[vl];omega) only [vcd]
 refine loop_up (fun i (x:List (List Nat×Int)×List (List Nat))=>(∀ j:Nat,j<i→getK (txO f (atS (pathsR n) j)) x.1=some (j:Int))∧x.2=((pathsR n).take i).map (txU f n)) (fun i x=>[.s (fmN f),.n n,.u,MI x.1,LS x.2,.u,.u,.u,.u,.u,.u,.u,.u,.u,.u,.u,LS (pathsR n),.n (pathsR n).length,.n i,.u,.u,.u,.u,.u,.u,.u,.u]) (pathsR n).length ([],[]) ⟨fun j hj=>by omega,by simp⟩ rfl (fun i x hi hP=>?_) (fun x hP=>?_)
 ·obtain ⟨m,ts⟩:=x
  obtain ⟨p1,p2⟩:=hP
  simp only at p1 p2 ⊢
  have hw:=atS_memP hi
  obtain ⟨hd,hl⟩:=apd5 hn hw
  obtain ⟨c1,c2,c3⟩:=svC_ok hn hw
  have hts:ts.length≤132:=by rw [p2,List.length_map,List.length_take]; omega
  have et:(pathsR n).take (i+1)=(pathsR n).take i++[atS (pathsR n) i]:=by
   rw [qta hi]; simp [atS,hi]
  have fin1:∀ j:Nat,j<i+1→getK (txO f (atS (pathsR n) j)) (putK (txO f (atS (pathsR n) i)) (i:Int) m)=some (j:Int):=fun j hj=>by
   rw [getK_puS]
   by_cases q:j=i
   ·subst q; rw [if_pos rfl]
   ·rw [if_neg (fun e=>q (txN_ok hf hn (by omega) hi e))]
    exact p1 j (by omega)
  have fin2:ts++[txU f n (atS (pathsR n) i)]=((pathsR n).take (i+1)).map (txU f n):=by
   rw [et,List.map_append,← p2]; rfl
  generalize hwe:atS (pathsR n) i=w at*
  simp (disch:=first|omega|simp only[vl];omega) only [vcd,hwe]
  rcases f3 hf with rfl | rfl | rfl
  ·obtain ⟨m1,m2,m3⟩:=mate_rg hd (by omega)
   have kt:=tum_i (K:=K) (m:=mateC w) (k:=1) m1 (by omega) (by omega) m3
   rw [show ((1:Nat):Int)=1 from rfl] at kt
   have hl1:=tmT_len (m:=mateC w) (k:=1)
   simp (disch:=first|omega|simp only[vl];omega) only [vcd,show (fmN 0 == [109,97,116,99,104,105,110,103,115])=true from rfl]
   refine call_by (mto_i (K:=K) hd) rfl ?_
   simp (disch:=first|omega|simp only[vl];omega) only [vcd]
   refine call_by (kt) rfl ?_
   simp (disch:=first|omega|simp only[vl];omega) only [vcd]
   refine call_by (fma_i (K:=K) (m:=mateC w) (by omega)) rfl ?_
   simp (disch:=first|omega|simp only[vl];omega) only [vcd]
   refine call_by (fma_i (K:=K) (m:=tmT (mateC w) 1) (by omega)) rfl ?_
   simp (disch:=first|omega|simp only[vl];omega) only [vcd]
   exact ⟨(_,_),⟨fin1,fin2⟩,rfl⟩
  ·have kp:=(ptn_ok (K:=K) hd).1
   rw [ptnC_eq hd] at kp
   obtain ⟨q1,q2,q3⟩:=svP_t (c3 0 (by omega))
   obtain ⟨r1,r2,r3⟩:=svP_t (c3 1 (by omega))
   simp only [iter] at q1 q2 q3 r1 r2 r3
   simp (disch:=first|omega|simp only[vl];omega) only [vcd,show (fmN 1 == [109,97,116,99,104,105,110,103,115])=false from rfl,show (fmN 1 == [112,97,114,116,105,116,105,111,110,115])=true from rfl]
   refine call_by (kp) rfl ?_
   simp (disch:=first|omega|simp only[vl];omega) only [vcd]
   refine call_by (tup_i (K:=K) (p:=ptnC w) q1 q2) rfl ?_
   simp (disch:=first|omega|simp only[vl];omega) only [vcd]
   refine call_by (fpt_i (K:=K) (p:=ptnC w) (by omega)) rfl ?_
   simp (disch:=first|omega|simp only[vl];omega) only [vcd]
   refine call_by (fpt_i (K:=K) (p:=tpT (ptnC w)) (by omega)) rfl ?_
   simp (disch:=first|omega|simp only[vl];omega) only [vcd]
   exact ⟨(_,_),⟨fin1,fin2⟩,rfl⟩
  ·simp only [svA,qba,qde] at c1
   obtain ⟨a1,a2,a3⟩:=c1
   have hbt:btF w=btC w:=by rw [← a1,btF_p,a1]
   have hbn:(btC w).n≤8:=by
    have:=BT.pl (btC w)
    rw [a1] at this
    omega
   have hb:=bino_i (K:=K) hd
   rw [hbt] at hb
   have c4:=c2 1 (by omega)
   simp only [svK,qba] at c4
   have h3:=rwB_3 c4.2
   have htl:=triF_len c4.1
   have htl2:=triF_len a2
   have kt:=typ_i (K:=K) (n:=(n:Int)+2) (k:=((1:Nat):Int)) a2 (rwB_3 a3) (by omega)
   rw [show ((1:Nat):Int)=1 from rfl] at kt htl h3
   have hr1:∀ r∈tgF (btC w),r.length≤9223372036854775807:=fun r hr=>by have:=(rwB_3 a3 r hr).1; omega
   have hr2:∀ r∈tyT ((n:Int)+2) 1 (tgF (btC w)),r.length≤9223372036854775807:=fun r hr=>by have:=(h3 r hr).1; omega
   simp (disch:=first|omega|simp only[vl];omega) only [vcd,show (fmN 2 == [109,97,116,99,104,105,110,103,115])=false from rfl,show (fmN 2 == [112,97,114,116,105,116,105,111,110,115])=false from rfl]
   refine call_by (hb) rfl ?_
   simp (disch:=first|omega|simp only[vl];omega) only [vcd]
   refine call_by (trg_i (K:=K) (x:=btC w) hbn) rfl ?_
   simp (disch:=first|omega|simp only[vl];omega) only [vcd]
   refine call_by (kt) rfl ?_
   simp (disch:=first|omega|simp only[vl];omega) only [vcd]
   refine call_by (dg_i (K:=K) (d:=tgF (btC w)) (by omega) hr1) rfl ?_
   simp (disch:=first|omega|simp only[vl];omega) only [vcd]
   refine call_by (dg_i (K:=K) (d:=tyT ((n:Int)+2) 1 (tgF (btC w))) (by omega) hr2) rfl ?_
   simp (disch:=first|omega|simp only[vl];omega) only [vcd]
   exact ⟨(_,_),⟨fin1,fin2⟩,rfl⟩
 ·obtain ⟨m,ts⟩:=x
  obtain ⟨p1,p2⟩:=hP
  simp only at p1 p2 ⊢
  rw [List.take_length] at p2
  have hts:ts.length=(pathsR n).length:=by rw [p2,List.length_map]
  simp (disch:=first|omega|simp only[vl];omega) only [vcd]
  refine loop_ix (fun _=>True) (fun i=>[.u,.u,.u,MI m,.u,.u,.u,.u,.u,.u,.u,.u,.u,.u,LI ((obL f n).take i),.u,.u,.u,.u,.u,.u,.u,.u,LS ts,.n ts.length,.n i,.u]) ts.length trivial rfl (fun i hi _=>?_) (fun _=>?_)
  ·have hi2:i<(pathsR n).length:=by omega
   obtain ⟨k,k1,k2,k3⟩:=obL_at hf hn hi2
   have hL:=obL_len (f:=f) (n:=n)
   have ea:atS ts i=txO f (atS (pathsR n) k):=by
    rw [k3,← txU_ok hf hn hi2,p2]; simp [atS,hi2]
   have hg:=p1 k k2
   have et:(obL f n).take (i+1)=(obL f n).take i++[(k:Int)]:=by
    rw [qta (by omega)]
    congr 2
    rw [← k1]; simp [atI,show i<(obL f n).length by omega]
   have el:((obL f n).take i).length≤132:=by rw [List.length_take]; omega
   simp (disch:=first|omega|simp only[vl];omega) only [vcd,ea,hg,Option.getD_some]
   rw [et]
  ·rw [List.take_of_length_le (by rw [obL_len]; omega)]
   simp (disch:=first|omega|simp only[vl];omega) only [vcd]
def nxK (L:List Int):Nat→Int→Int
 | 0,a=>a
 | k+1,a=>atI L (nxK L k a)
def fxI (L:List Int) (k:Nat):Nat:=(List.range L.length).countP fun i:Nat=>decide (nxK L k (i:Int)=i)
def fxB (f n:Nat):Bool:=(List.range (orF f n)).all fun k=>decide (fxI (obL f n) k=fxS f n k)
theorem fxB0:allB 3 (fun f=>allB 4 fun n=>fxB f (n+1))=true:=by kernel_rfl
theorem fxB5:allB 3 (fun f=>fxB f 5)=true:=by kernel_rfl
theorem fxB_ok {f n k:Nat} (hf:f<3) (hn:1≤n∧n≤5) (hk:k<orF f n):fxI (obL f n) k=fxS f n k:=by
 have e:fxB f n=true:=all5 (P:=fun n=>fxB f n) (allB_spec fxB0 f hf) (allB_spec fxB5 f hf) hn
 have:=qat.1 e k (List.mem_range.2 hk)
 simpa using this
theorem nxK_rg {f n:Nat} (hf:f<3) (hn:1≤n∧n≤5) {i:Nat} (hi:i<(pathsR n).length):∀ k,∃ j:Nat,nxK (obL f n) k (i:Nat)=j∧j<(pathsR n).length
 | 0=>⟨i,rfl,hi⟩
 | k+1=>by
  obtain ⟨j,h1,h2⟩:=nxK_rg hf hn hi k
  obtain ⟨k',k1,k2,_⟩:=obL_at hf hn h2
  exact ⟨k',by simp only [nxK]; rw [h1,k1],k2⟩
theorem fix_i [HA K] {f n k:Nat} (hf:f<3) (hn:1≤n∧n≤5) (hk:k<orF f n):K 572 [.s (fmN f),.n n,.n k] [.n (fxS f n k)]:=by
 have ho:=orF_le hf hn.2
 have hp:=pathsR_132 (n:=n) (by omega)
 have hL:=obL_len (f:=f) (n:=n)
 rw [← fxB_ok hf hn hk]
 refine body_by (f:=ir_impl_FixedByTurn) rfl ?_; simp only [ir_impl_FixedByTurn,zn,zs,zq,zi,zg,zp]
 simp (disch:=first|omega|simp only[vl];omega) only [vcd]
 refine call_by (ord_i (K:=K) hf hn) rfl ?_
 simp (disch:=first|omega|simp only[vl];omega) only [vcd]
 refine call_by (within_ok (K:=K)) rfl ?_
 rw [show inR 0 ((orF f n:Int)-1) k=true from inR_iff.2 (by omega)]
 simp (disch:=first|omega|simp only[vl];omega) only [vcd]
 refine call_by (obj_i (K:=K) hf hn) rfl ?_
 simp (disch:=first|omega|simp only[vl];omega) only [vcd]
 refine loop_up (fun i (c:Nat)=>c=(List.range i).countP fun i:Nat=>decide (nxK (obL f n) k (i:Int)=i)) (fun i c=>[.u,.u,.n k,.u,.u,LI (obL f n),.n c,.u,.u,.u,.n (obL f n).length,.n i,.u,.u,.u,.u,.u]) (obL f n).length 0 rfl rfl (fun i c hi hP=>?_) (fun c hP=>?_)
 ·have hc:c≤i:=by
   rw [hP]
   have:=List.countP_le_length (p:=fun i:Nat=>decide (nxK (obL f n) k (i:Int)=i)) (l:=List.range i)
   simpa using this
  have hs:(List.range (i+1)).countP (fun i:Nat=>decide (nxK (obL f n) k (i:Int)=i))=(List.range i).countP (fun i:Nat=>decide (nxK (obL f n) k (i:Int)=i))+if nxK (obL f n) k (i:Int)=i then 1 else 0:=by
   rw [List.range_succ,List.countP_append]
   simp [List.countP_cons]
  simp (disch:=first|omega|simp only[vl];omega) only [vcd]
  refine loop_ix (fun _=>True) (fun j=>[.u,.u,.n k,.u,.u,LI (obL f n),.n c,.n i,.n (nxK (obL f n) j i),.u,.n (obL f n).length,.n i,.u,.n k,.n j,.u,.u]) k trivial rfl (fun j hj _=>?_) (fun _=>?_)
  ·obtain ⟨a,a1,a2⟩:=nxK_rg hf hn (i:=i) (by omega) j
   have e2:nxK (obL f n) (j+1) (i:Int)=atI (obL f n) (a:Nat):=by simp only [nxK]; rw [a1]
   rw [a1,e2]
   simp (disch:=first|omega|simp only[vl];omega) only [vcd]
  ·by_cases q:nxK (obL f n) k (i:Int)=i
   ·rw [if_pos q] at hs
    simp (disch:=first|omega|simp only[vl];omega) only [vcd]
    exact ⟨c+1,by rw [hs,hP],by simp⟩
   ·rw [if_neg q] at hs
    simp (disch:=first|omega|simp only[vl];omega) only [vcd]
    exact ⟨c,by rw [hs,hP,Nat.add_zero],rfl⟩
 ·simp (disch:=first|omega|simp only[vl];omega) only [vcd]
  rw [hP]; rfl
theorem orb_i [HA K] {f n:Nat} (hf:f<3) (hn:1≤n∧n≤5):K 573 [.s (fmN f),.n n] [LI (orS (obL f n)),.b true]:=by
 have hp:=pathsR_132 (n:=n) (by omega)
 have hL:=obL_len (f:=f) (n:=n)
 have ho:=orF_le hf hn.2
 refine body_by (f:=ir_impl_OrbitSizes) rfl ?_; simp only [ir_impl_OrbitSizes,zn,zs,zq,zi,zg,zp]
 simp (disch:=first|omega|simp only[vl];omega) only [vcd]
 refine call_by (ord_i (K:=K) hf hn) rfl ?_
 simp (disch:=first|omega|simp only[vl];omega) only [vcd]
 refine call_by (obj_i (K:=K) hf hn) rfl ?_
 simp (disch:=first|omega|simp only[vl];omega) only [vcd]
 refine loop_up (fun i (x:List Int×List Bool)=>x=iter (orT (obL f n)) i ([],List.replicate (obL f n).length false)∧x.2.length=(obL f n).length∧x.1.length≤i) (fun i x=>[.u,.u,.u,.u,LI x.1,LI (obL f n),LT x.2,.u,.u,.u,.u,.n (obL f n).length,.n i,.u,.u,.u]) (obL f n).length ([],List.replicate (obL f n).length false) ⟨rfl,by simp,by simp⟩ (by simp [rep_n]; rfl) (fun i x hi hP=>?_) (fun x hP=>?_)
 ·obtain ⟨out,B⟩:=x
  obtain ⟨p1,p2,p3⟩:=hP
  simp only at p1 p2 p3 ⊢
  simp (disch:=first|omega|simp only[vl];omega) only [vcd]
  refine loop_wh (fun (y:Nat×List Bool×Nat×Nat)=>y.2.1.length=(obL f n).length∧y.2.2.1<(obL f n).length∧unT y.2.1≤y.1∧y.2.2.2+y.1≤132∧orR (obL f n) y.1 y.2.1 y.2.2.1 y.2.2.2=orR (obL f n) (obL f n).length B i 0)
   (fun y=>[.u,.u,.u,.u,LI out,LI (obL f n),LT y.2.1,.u,.n y.2.2.2,.n y.2.2.1,.u,.n (obL f n).length,.n i,.u,.u,.u]) (fun y=>y.1) ((obL f n).length,B,i,0) ⟨p2,hi,by have:=unT_le (B:=B); simp only; omega,by simp only; omega,rfl⟩ rfl ?_
  rintro ⟨g,B',a,s⟩ ⟨q1,q2,q3,q4,q5⟩
  simp only at q1 q2 q3 q4 q5 ⊢
  cases hB':atT B' a
  ·have hu:=unT_set (B:=B') (a:=a) (by omega) hB'
   cases g with
   | zero=>omega
   | succ g=>
    obtain ⟨k,k1,k2,k3⟩:=obL_at hf hn (j:=a) (by omega)
    simp (disch:=first|omega|simp only[vl];omega) only [vcd,hB',k1]
    refine ⟨(g,seT B' a true,k,s+1),by simp,⟨by rw [seT_len]; exact q1,by simp only; omega,by simp only; omega,by simp only; omega,?_⟩,by simp⟩
    rw [← q5,orR,if_neg (by rw [hB']; simp),k1]; rfl
  ·rw [orR_s hB'] at q5
   have hinv:=(orR_inv (L:=obL f n) (f:=(obL f n).length) (a:=i) (s:=0) (B:=B)).1
   by_cases hs:0<s
   ·simp (disch:=first|omega|simp only[vl];omega) only [vcd,hB']
    refine ⟨orT (obL f n) i (out,B),⟨by rw [iter,← p1],?_,?_⟩,?_⟩
    ·simp only [orT]; rw [hinv]; exact p2
    ·simp only [orT,← q5,if_pos hs,qla,qlc,qln]; omega
    ·simp only [orT,← q5,if_pos hs]
   ·simp (disch:=first|omega|simp only[vl];omega) only [vcd,hB']
    refine ⟨orT (obL f n) i (out,B),⟨by rw [iter,← p1],?_,?_⟩,?_⟩
    ·simp only [orT]; rw [hinv]; exact p2
    ·simp only [orT,← q5,if_neg hs]; omega
    ·simp only [orT,← q5,if_neg hs]
 ·obtain ⟨out,B⟩:=x
  obtain ⟨p1,_,_⟩:=hP
  simp (disch:=first|omega|simp only[vl];omega) only [vcd]
  have e:orS (obL f n)=(iter (orT (obL f n)) (obL f n).length ([],List.replicate (obL f n).length false)).1:=rfl
  rw [e,← p1]
end Go.Cat
