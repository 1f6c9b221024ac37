/-
 Ways of rotations, on both sides.
-/
import Derived.Test.YtihgdjeahjfhfaaGreatPfWayM
import Derived.Test.YtihgdjeahjfhfaaGreatPfOrdI
import Derived.Test.YtihgdjeahjfhfaaGreatIrHas
set_option linter.unusedSimpArgs false
set_option linter.unusedVariables false
namespace Go.Cat
variable {K:Nat→List D→List D→Prop}
theorem h15_s [HA K] {ws:List (List Nat)} {k:List Nat} (h:ws.length≤100000):K 378 [LS ws,.s k] [.b (decide (k∈ws))]:=by
 refine body_by (f:=ir_spec_l15Has) rfl ?_; simp only [ir_spec_l15Has,zn,zs,zq,zi,zg,zp]
 simp (disch:=first|omega|simp only[vl];omega) only [vcd]
 refine loop_ix (fun i=>k∉ws.take i) (fun i=>[LS ws,.s k,.u,.n i,.u,.u]) ws.length (by simp) rfl (fun i hi hP=>?_) (fun hP=>?_)
 ·have et:ws.take (i+1)=ws.take i++[atS ws i]:=by
   rw [qta hi]; simp [atS,hi]
  have hm:atS ws i∈ws:=by simp [atS,hi]
  cases hc:(atS ws i == k)
  ·simp (disch:=first|omega|simp only[vl];omega) only [vcd,hc]
   rw [et]
   intro q
   rcases qma.1 q with q | q
   ·exact hP q
   ·simp only [List.mem_singleton] at q
    rw [q] at hc
    simp at hc
  ·have e:atS ws i=k:=by simpa using hc
   simp (disch:=first|omega|simp only[vl];omega) only [vcd,hc]
   rw [← e]
   simp [hm]
 ·rw [List.take_length] at hP
  simp (disch:=first|omega|simp only[vl];omega) only [vcd]
  simp [hP]
theorem revS_ok [HA K] {a:List (List Nat)} (h:a.length≤1000000000):K 368 [LS a] [LS a.reverse]:=by
 refine body_by (f:=ir_slices_Reverse___string_string_) rfl ?_; simp only [ir_slices_Reverse___string_string_,zn,zs,zq,zi,zg,zp]
 simp (disch:=first|omega|simp only[vl];omega) only [vcd]
 refine loop_wh (fun (x:Nat×List (List Nat))=>2*x.1≤a.length+1∧x.2.length=a.length∧∀ j:Nat,j<a.length→atS x.2 j=if j<x.1∨a.length≤j+x.1 then atS a (a.length-1-j:Nat) else atS a j)
  (fun x=>[LS x.2,.n x.1,.n ((a.length:Int)-1-x.1),.u]) (fun x=>a.length-x.1) (0,a) ⟨by simp,rfl,by intro j hj; rw [if_neg (by omega)]⟩ (by simp (disch:=first|omega|simp only[vl];omega) only [vcd,Int.sub_zero]) ?_
 rintro ⟨i,o⟩ ⟨h1,h2,h3⟩
 simp only at h1 h2 h3
 by_cases hc:2*i+1<a.length
 ·simp (disch:=first|omega|simp only[vl];omega) only [vcd]
  have e:((a.length-1-i:Nat):Int)=(a.length:Int)-1-i:=by omega
  rw [← e]
  refine ⟨(i+1,seS (seS o i (atS o ((a.length-1-i:Nat):Int))) ((a.length-1-i:Nat):Int) (atS o i)),?_,⟨?_,?_,?_⟩,?_⟩
  rotate_left 4
  ·have:((a.length-1-i:Nat):Int)-1=(a.length:Int)-1-((i+1:Nat):Int):=by omega
   rw [this]; rfl
  ·show a.length-(i+1)<a.length-i; omega
  ·show 2*(i+1)≤a.length+1; omega
  ·show (seS (seS o i _) _ _).length=a.length
   rw [seS_len,seS_len,h2]
  ·intro j hj
   show atS (seS (seS o i _) (a.length-1-i:Nat) _) j=_
   rw [atS_set (by rw [seS_len]; omega),atS_set (by omega)]
   have a1:=h3 i (by omega)
   have a2:=h3 (a.length-1-i) (by omega)
   rw [if_neg (by omega)] at a1 a2
   by_cases j1:a.length-1-i=j
   ·rw [if_pos j1,if_pos (by omega),a1]
    congr 2; omega
   ·rw [if_neg j1]
    by_cases j2:i=j
    ·rw [if_pos j2,if_pos (by omega),a2]
     congr 2; omega
    ·rw [if_neg j2,h3 j hj]
     by_cases j3:j<i∨a.length≤j+i
     ·rw [if_pos j3,if_pos (by omega)]
     ·rw [if_neg j3,if_neg (by omega)]
 ·simp (disch:=first|omega|simp only[vl];omega) only [vcd]
  have e:o=a.reverse:=by
   refine List.ext_getElem (by simp [h2]) fun j hj hj2=>?_
   have:=h3 j (by omega)
   simp only [atS,qtn,qgd] at this
   rw [qge (by omega),qge (by omega),qge (by omega)] at this
   simp only [Option.getD_some] at this
   rw [this,List.getElem_reverse]
   split
   ·rfl
   ·congr 1; omega
  rw [e]
theorem l20_s [HA K] {a:BT} {N:Nat} (ha:a.n≤5) (h1:N≤42) (h2:(bfS a N).1.length=N) (h3:∀ j,j<N→j<(bfS a j).1.length):K 366 [.s a.t] [LS ((bfS a N).1.map BT.t),LI (bfS a N).2]:=by
 refine body_by (f:=ir_spec_l20Search) rfl ?_; simp only [ir_spec_l20Search,zn,zs,zq,zi,zg,zp]
 simp (disch:=first|omega|simp only[vl];omega) only [vcd]
 refine loop_ix (fun i=>True) (fun i=>[.u,.u,.u,LS ((bfS a i).1.map BT.t),LI (bfS a i).2,.n i,.u,.u,.u,.u,.u]) N trivial rfl (fun i hi _=>?_) (fun _=>?_)
 ·have hv:=bfS_inv (a:=a) i
  have hl:=hv.l42 ha
  have hii:=h3 i hi
  have hn:=hv.ns _ (btG_mem hii)
  have es:=atS_mapG hii
  have hnb:=nbL_len (x:=btG (bfS a i).1 i)
  simp (disch:=first|omega|simp only[vl];omega) only [vcd,List.length_map,es]
  refine call_by (nb_s (K:=K) (x:=btG (bfS a i).1 i) (by omega)) rfl ?_
  simp (disch:=first|omega|simp only[vl];omega) only [vcd]
  obtain ⟨l,hll⟩:∃ l,l=nbL (btG (bfS a i).1 i):=⟨_,rfl⟩
  have hmem:∀ u∈l,u.n=a.n:=fun u hu=>by rw [hll] at hu; exact (nbL_n hu).trans hn
  have hR:bfS a (i+1)=l.foldl (bfA i) (bfS a i):=by rw [hll]; rfl
  rw [← hll] at hnb ⊢
  refine loop_up (fun k (S:List BT×List Int)=>S=(l.take k).foldl (bfA i) (bfS a i)) (fun k S=>[.u,.u,.u,LS (S.1.map BT.t),LI S.2,.n i,LT_ l,.n k,.u,.u,.u]) l.length (bfS a i) rfl rfl (fun k S hk hS=>?_) (fun S hS=>?_)
  ·have hvS:BI a S:=by
    rw [hS]
    exact hv.fold (fun u hu=>hmem u (List.mem_of_mem_take hu)) hii
   have hlS:=hvS.l42 ha
   have hls:=hvS.len
   have et:l.take (k+1)=l.take k++[btG l k]:=by
    rw [qta hk,btG_eq hk]
   have ek:=atS_mapG hk
   have tl:=BT.tl (btG l k)
   have tn:=hmem _ (btG_mem hk)
   simp (disch:=first|omega|simp only[vl];omega) only [vcd,List.length_map,ek]
   have k15:=h15_s (K:=K) (ws:=S.1.map BT.t) (k:=(btG l k).t) (by rw [List.length_map]; omega)
   refine call_by (k15) rfl ?_
   by_cases hc:(btG l k).t∈S.1.map BT.t
   ·rw [decide_eq_true hc]
    simp (disch:=first|omega|simp only[vl];omega) only [vcd]
    refine ⟨S,?_,rfl⟩
    rw [et,List.foldl_append,← hS]
    simp only [List.foldl_cons,List.foldl_nil,bfA,if_pos hc]
   ·rw [decide_eq_false hc]
    simp (disch:=first|omega|simp only[vl];omega) only [vcd,List.length_map,ek]
    refine ⟨(S.1++[btG l k],S.2++[(i:Int)]),?_,by simp⟩
    rw [et,List.foldl_append,← hS]
    simp only [List.foldl_cons,List.foldl_nil,bfA,if_neg hc]
  ·rw [List.take_length,← hR] at hS
   subst hS
   simp (disch:=first|omega|simp only[vl];omega) only [vcd,List.length_map]
 ·simp (disch:=first|omega|simp only[vl];omega) only [vcd,List.length_map,h2]
theorem bf_at {a:BT} {S:List BT×List Int} (h:BI a S) {b:BT} (hb:b.t∈S.1.map BT.t):∃ k,k<S.1.length∧btG S.1 k=b∧∀ j,j<k→¬ (btG S.1 j).t=b.t:=by
 obtain ⟨y,hy,e⟩:=List.mem_map.1 hb
 obtain rfl:=oc_inj e
 obtain ⟨j,hj,e2⟩:=List.getElem_of_mem hy
 obtain ⟨m,h1,h2,h3⟩:=leastN (P:=fun j=>j<S.1.length∧(btG S.1 j).t=y.t) (n:=j) ⟨hj,by rw [btG_eq hj,e2]⟩
 exact ⟨m,h2.1,oc_inj h2.2,fun j hj q=>h3 j hj ⟨by omega,q⟩⟩
theorem way_s [HA K] {a b:BT} {N k:Nat} (ha:a.n≤5) (hb:b.n=a.n) (h1:N≤42) (h2:(bfS a N).1.length=N) (h3:∀ j,j<N→j<(bfS a j).1.length) (hk:k<N) (hk2:btG (bfS a N).1 k=b) (hk3:∀ j,j<k→¬ (btG (bfS a N).1 j).t=b.t):K 347 [.s a.t,.s b.t] [LS (wayF (bfS a N) (k+1) k),.b true]:=by
 have hv:=bfS_inv (a:=a) N
 have hl2:=hv.len
 have ed:decide (a.n=b.n)=true:=decide_eq_true hb.symm
 refine body_by (f:=ir_spec_RotationWay) rfl ?_; simp only [ir_spec_RotationWay,zn,zs,zq,zi,zg,zp]
 simp (disch:=first|omega|simp only[vl];omega) only [vcd]
 refine call_by (fit_s (K:=K) (x:=a) (y:=b) (by omega) (by omega)) rfl ?_
 rw [ed]
 simp (disch:=first|omega|simp only[vl];omega) only [vcd]
 refine call_by (no_s (K:=K) (x:=a) (by omega)) rfl ?_
 simp (disch:=first|omega|simp only[vl];omega) only [vcd]
 refine call_by (l20_s (K:=K) ha h1 h2 h3) rfl ?_
 simp (disch:=first|omega|simp only[vl];omega) only [vcd]
 refine loop_ix (fun i=>True) (fun i=>[.u,.s b.t,.u,.u,LS ((bfS a N).1.map BT.t),LI (bfS a N).2,.n i,.u,.u,.u,.u,.u,.u]) k trivial rfl (fun i hi _=>?_) (fun _=>?_)
 ·have es:=atS_mapG (l:=(bfS a N).1) (i:=i) (by omega)
  have hne:((btG (bfS a N).1 i).t == b.t)=false:=by rw [beq_eq_false_iff_ne]; exact hk3 i hi
  simp (disch:=first|omega|simp only[vl];omega) only [vcd,List.length_map,es,hne]
 ·have es:=atS_mapG (l:=(bfS a N).1) (i:=k) (by omega)
  rw [hk2] at es
  have heq:(b.t == b.t)=true:=by simp
  simp (disch:=first|omega|simp only[vl];omega) only [vcd,List.length_map,es,heq]
  refine loop_wh (fun (x:Int×List (List Nat))=>-1≤x.1∧x.1<N∧(if x.1<0 then [] else wayF (bfS a N) (x.1.toNat+1) x.1.toNat)++x.2=wayF (bfS a N) (k+1) k) (fun x=>[.u,.u,.u,.u,LS ((bfS a N).1.map BT.t),LI (bfS a N).2,.u,LS x.2,.n x.1,.u,.u,.u,.u]) (fun x=>(x.1+1).toNat) ((k:Int),[]) ⟨by simp only; omega,by simp only; omega,by simp only [List.append_nil,qtn]; rw [if_neg (by omega)]⟩ rfl ?_
  rintro ⟨j,out⟩ ⟨g1,g2,g3⟩
  simp only at g1 g2 g3 ⊢
  by_cases hj:0≤j
  ·obtain ⟨m,rfl⟩:∃ m:Nat,j=m:=⟨j.toNat,by omega⟩
   have hmN:m<(bfS a N).1.length:=by omega
   have em:=atS_mapG hmN
   have g4:out.length≤k+1:=by
    have:=congrArg List.length g3
    rw [qla] at this
    have:=wayF_len (S:=bfS a N) (f:=k+1) (k:=k)
    omega
   have hp:-1≤atI (bfS a N).2 (m:Nat)∧atI (bfS a N).2 (m:Nat)<m:=by
    rcases Nat.eq_zero_or_pos m with rfl | h0
    ·have:=hv.hd.2.1
     simp only [Int.ofNat_eq_natCast,Int.natCast_zero]
     omega
    ·have:=hv.par m h0 hmN
     omega
   rw [if_neg (by omega),qtn,show wayF (bfS a N) (m+1) m=(if atI (bfS a N).2 (m:Nat)<0 then [] else wayF (bfS a N) m (atI (bfS a N).2 (m:Nat)).toNat)++[(btG (bfS a N).1 m).t] from rfl] at g3
   simp (disch:=first|omega|simp only[vl];omega) only [vcd,List.length_map,em]
   refine ⟨(atI (bfS a N).2 (m:Nat),(btG (bfS a N).1 m).t::out),by simp only; omega,⟨by simp only; omega,by simp only; omega,?_⟩,rfl⟩
   rw [← g3]
   simp only
   by_cases q:atI (bfS a N).2 (m:Nat)<0
   ·rw [if_pos q,if_pos q]; simp
   ·rw [if_neg q,if_neg q,wayF_fu hv (f:=m) (by omega) (by omega)]; simp
  ·rw [if_pos (by omega),List.nil_append] at g3
   simp (disch:=first|omega|simp only[vl];omega) only [vcd]
   rw [g3]
def MOK (m:List (List Nat×List Nat)) (S:List BT×List Int):Prop:=
 (∀ j,j<S.1.length→getK (btG S.1 j).t m=some (if atI S.2 (j:Nat)<0 then [] else (btG S.1 (atI S.2 (j:Nat)).toNat).t))∧∀ t,t∉S.1.map BT.t→getK t m=none
theorem getK_put {α:Type} {k k':List Nat} {v:α}:∀ {m:List (List Nat×α)},getK k' (putK k v m)=if k'=k then some v else getK k' m
 | []=>by simp [putK,getK]
 | (j,x)::m=>by
  simp only [putK]
  by_cases h:k=j
  ·rw [if_pos h]
   subst h
   simp only [getK]
   by_cases q:k'=k
   ·rw [if_pos q,if_pos q]
   ·rw [if_neg q,if_neg q,if_neg q]
  ·rw [if_neg h]
   simp only [getK]
   rw [getK_put]
   by_cases q:k'=j
   ·subst q
    rw [if_pos rfl,if_neg (fun e=>h e.symm),if_pos rfl]
   ·rw [if_neg q,if_neg q]
theorem MOK.has {m:List (List Nat×List Nat)} {S:List BT×List Int} (h:MOK m S) {t:List Nat}:(getK t m).isSome=decide (t∈S.1.map BT.t):=by
 by_cases q:t∈S.1.map BT.t
 ·obtain ⟨y,hy,e⟩:=List.mem_map.1 q
  obtain ⟨j,hj,e2⟩:=List.getElem_of_mem hy
  have:=h.1 j hj
  rw [btG_eq hj,e2,e] at this
  rw [this,decide_eq_true q]; rfl
 ·rw [h.2 t q,decide_eq_false q]; rfl
theorem MOK.put {m:List (List Nat×List Nat)} {a:BT} {S:List BT×List Int} (h:MOK m S) (hv:BI a S) {u:BT} {i:Nat} (hu:u.t∉S.1.map BT.t) (hi:i<S.1.length):MOK (putK u.t (btG S.1 i).t m) (S.1++[u],S.2++[(i:Int)]):=by
 have hl:=hv.len
 refine ⟨fun j hj=>?_,fun t ht=>?_⟩
 ·simp only [qla,qlc,qln] at hj ⊢
  rw [getK_put]
  by_cases q:j<S.1.length
  ·have hne:¬ (btG S.1 j).t=u.t:=fun e=>hu (by rw [← e]; exact List.mem_map.2 ⟨_,btG_mem q,rfl⟩)
   rw [btG_app q,if_neg hne,atI_ap0 (by omega),h.1 j q]
   by_cases q2:atI S.2 (j:Nat)<0
   ·rw [if_pos q2,if_pos q2]
   ·have hj0:0<j:=by
     rcases Nat.eq_zero_or_pos j with rfl | h0
     ·exact absurd (show atI S.2 ((0:Nat):Int)<0 by have:=hv.hd.2.1; simp only [Int.ofNat_eq_natCast,Int.natCast_zero]; omega) q2
     ·exact h0
    have:=hv.par j hj0 q
    rw [if_neg q2,if_neg q2,btG_app (by omega)]
  ·obtain rfl:j=S.1.length:=by omega
   have e1:btG (S.1++[u]) S.1.length=u:=by simp [btG]
   have e2:atI (S.2++[(i:Int)]) (S.1.length:Nat)=i:=by rw [← hl]; simp [atI]
   rw [e1,if_pos rfl,e2,if_neg (by omega),qtn,btG_app hi]
 ·simp only [List.map_append,List.map_cons,List.map_nil,qma,List.mem_singleton,not_or] at ht
  rw [getK_put,if_neg ht.2,h.2 t ht.1]
def cutW (j:Nat) (R:Env→Prop):X→Env→Prop:=fun x e=>x=.ex j∧R e
theorem cutW_ex {j:Nat} {R:Env→Prop} {e:Env}:cutW j R (.ex j) e=R e:=by simp [cutW]
theorem loop_cut {b:S} {Q:X→Env→Prop} {e:Env} (j:Nat) (R:Env→Prop) (h:wpS K (.loop b) (cutW j R) e) (h2:∀ e,R e→Q (.ex j) e):wpS K (.loop b) Q e:=by
 refine wpS_mono _ (fun x e h=>?_) h
 obtain ⟨rfl,h⟩:=h
 exact h2 e h
theorem nd_inj {l:List (List Nat)} (h:l.Nodup) {i j:Nat} (hi:i<l.length) (hj:j<l.length) (e:l[i]=l[j]):i=j:=by
 rcases Nat.lt_trichotomy i j with q | q | q
 ·exact absurd e (List.pairwise_iff_getElem.1 h i j hi hj q)
 ·exact q
 ·exact absurd e.symm (List.pairwise_iff_getElem.1 h j i hj hi q)
theorem way_i [HA K] [HasV K 201 ir_impl_rotations_w202] [HA K] [HRot K] {a b:BT} {N k:Nat} (ha:a.n≤5) (hb:b.n=a.n) (h1:N≤42) (h2:(bfS a N).1.length=N) (h3:∀ j,j<N→j<(bfS a j).1.length) (hk:k<N) (hk2:btG (bfS a N).1 k=b) (hk4:b.t∈(bfS a N).1.map BT.t):K 348 [.s a.t,.s b.t] [LS (wayF (bfS a N) (k+1) k),.b true]:=by
 have ed:(decide ((a.n:Int)≤5)&&decide (a.n=b.n))=true:=by rw [decide_eq_true (by omega),decide_eq_true hb.symm]; rfl
 refine body_by (f:=ir_impl_RotationWay) rfl ?_; simp only [ir_impl_RotationWay,zn,zs,zq,zi,zg,zp]
 simp (disch:=first|omega|simp only[vl];omega) only [vcd]
 refine call_by (al_i (K:=K) (x:=a) (y:=b) (m:=5) (by omega) (by omega) (by omega)) rfl ?_
 rw [ed]
 simp (disch:=first|omega|simp only[vl];omega) only [vcd]
 refine loop_cut 0 (fun e=>∃ i m,i≤N∧MOK m (bfS a i)∧b.t∈(bfS a i).1.map BT.t∧e=[.u,.s b.t,.u,.u,MS m,LS ((bfS a i).1.map BT.t),.n i,.u,.u,.u,.u,.u,.u,.u,.u,.u,.u,.u,.u,.u,.u]) ?_ ?_
 ·refine loop_up (fun i m=>MOK m (bfS a i)) (fun i m=>[.u,.s b.t,.u,.u,MS m,LS ((bfS a i).1.map BT.t),.n i,.u,.u,.u,.u,.u,.u,.u,.u,.u,.u,.u,.u,.u,.u]) N [(a.t,[])] ⟨fun j hj=>by
    simp only [bfS,qlc,qln] at hj
    obtain rfl:j=0:=by omega
    simp [bfS,btG,getK,atI],fun t ht=>by
    simp only [bfS,List.map_cons,List.map_nil,List.mem_singleton] at ht
    simp [getK,ht]⟩ rfl (fun i m hi hm=>?_) (fun m hm=>?_)
  ·have hv:=bfS_inv (a:=a) i
   have hl:=hv.l42 ha
   have hii:=h3 i hi
   have hn:=hv.ns _ (btG_mem hii)
   have es:=atS_mapG hii
   have hh:=hm.has (t:=b.t)
   by_cases hf:b.t∈(bfS a i).1.map BT.t
   ·rw [decide_eq_true hf] at hh
    simp (disch:=first|omega|simp only[vl];omega) only [vcd,List.length_map,hh,cutW_ex]
    exact ⟨i,m,by omega,hm,hf,rfl⟩
   ·rw [decide_eq_false hf] at hh
    have hnb:=nbL_len (x:=btG (bfS a i).1 i)
    simp (disch:=first|omega|simp only[vl];omega) only [vcd,List.length_map,hh,es]
    refine call_by (nb_i (K:=K) (x:=btG (bfS a i).1 i) (by omega)) rfl ?_
    simp (disch:=first|omega|simp only[vl];omega) only [vcd]
    obtain ⟨l,hll⟩:∃ l,l=nbL (btG (bfS a i).1 i):=⟨_,rfl⟩
    have hmem:∀ u∈l,u.n=a.n:=fun u hu=>by rw [hll] at hu; exact (nbL_n hu).trans hn
    have hR:bfS a (i+1)=l.foldl (bfA i) (bfS a i):=by rw [hll]; rfl
    rw [← hll] at hnb ⊢
    refine loop_up (fun k m=>MOK m ((l.take k).foldl (bfA i) (bfS a i))) (fun k m=>[.u,.s b.t,.u,.u,MS m,LS (((l.take k).foldl (bfA i) (bfS a i)).1.map BT.t),.n i,.u,.u,.u,.u,.u,.u,.u,.u,LT_ l,.n l.length,.n k,.u,.u,.u]) l.length m hm (by simp) (fun k m hk hM=>?_) (fun m hM=>?_)
    ·obtain ⟨S,hS⟩:∃ S,S=(l.take k).foldl (bfA i) (bfS a i):=⟨_,rfl⟩
     have hp:Pre (bfS a i) S:=by rw [hS]; exact bfF_pre
     rw [← hS] at hM ⊢
     have hvS:BI a S:=by
      rw [hS]
      exact hv.fold (fun u hu=>hmem u (List.mem_of_mem_take hu)) hii
     have hlS:=hvS.l42 ha
     have hls:=hvS.len
     have et:l.take (k+1)=l.take k++[btG l k]:=by
      rw [qta hk,btG_eq hk]
     have ek:=atS_mapG hk
     have tl:=BT.tl (btG l k)
     have tn:=hmem _ (btG_mem hk)
     have hiS:i<S.1.length:=by
      obtain ⟨r,q,e,_⟩:=hp
      rw [e,qla]; omega
     have esS:=atS_mapG hiS
     have hh2:=hM.has (t:=(btG l k).t)
     by_cases hc:(btG l k).t∈S.1.map BT.t
     ·rw [decide_eq_true hc] at hh2
      simp (disch:=first|omega|simp only[vl];omega) only [vcd,List.length_map,ek,hh2]
      refine ⟨m,?_,?_⟩
      ·rw [et,List.foldl_append,← hS]
       simp only [List.foldl_cons,List.foldl_nil,bfA,if_pos hc]
       exact hM
      ·rw [et,List.foldl_append,← hS]
       simp only [List.foldl_cons,List.foldl_nil,bfA,if_pos hc]
     ·rw [decide_eq_false hc] at hh2
      simp (disch:=first|omega|simp only[vl];omega) only [vcd,List.length_map,ek,hh2,esS]
      refine ⟨putK (btG l k).t (btG S.1 i).t m,?_,?_⟩
      ·rw [et,List.foldl_append,← hS]
       simp only [List.foldl_cons,List.foldl_nil,bfA,if_neg hc]
       exact hM.put hvS hc hiS
      ·rw [et,List.foldl_append,← hS]
       simp only [List.foldl_cons,List.foldl_nil,bfA,if_neg hc,List.map_append,List.map_cons,List.map_nil]
    ·rw [List.take_length,← hR] at hM ⊢
     simp (disch:=first|omega|simp only[vl];omega) only [vcd,List.length_map]
     exact ⟨m,hM,rfl⟩
  ·simp (disch:=first|omega|simp only[vl];omega) only [vcd,List.length_map,h2,cutW_ex]
   exact ⟨N,m,Nat.le_refl _,hm,hk4,rfl⟩
 ·rintro _ ⟨i,m,hi,hm,hbm,rfl⟩
  have hv:=bfS_inv (a:=a) i
  have hpre:=bfS_le (a:=a) hi
  obtain ⟨k',hk',e',e''⟩:=bf_at hv hbm
  have hlen:=hv.l42 ha
  have hkk:k'=k:=by
   obtain ⟨r,q,e,_⟩:=hpre
   have hN:=(bfS_inv (a:=a) N).nd
   have q1:(btG (bfS a N).1 k').t=b.t:=by rw [e,btG_app hk',e']
   have q2:(btG (bfS a N).1 k).t=b.t:=by rw [hk2]
   have hle:(bfS a i).1.length≤(bfS a N).1.length:=by rw [e,qla]; omega
   refine nd_inj hN (by rw [List.length_map]; omega) (by rw [List.length_map]; omega) ?_
   rw [List.getElem_map,List.getElem_map,← btG_eq,← btG_eq,q1,q2]
  subst hkk
  have ew:wayF (bfS a N) (k'+1) k'=wayF (bfS a i) (k'+1) k':=(wayF_pre hv hpre hk').symm
  rw [ew]
  have hwl:=wayF_len (S:=bfS a i) (f:=k'+1) (k:=k')
  simp (disch:=first|omega|simp only[vl];omega) only [vcd]
  refine loop_wh (fun (x:Int×List (List Nat))=>-1≤x.1∧x.1<(bfS a i).1.length∧(if x.1<0 then [] else wayF (bfS a i) (x.1.toNat+1) x.1.toNat)++x.2.reverse=wayF (bfS a i) (k'+1) k') (fun x=>[.u,.u,.u,.u,MS m,.u,.u,.u,.u,.u,LS x.2,.s (if x.1<0 then [] else (btG (bfS a i).1 x.1.toNat).t),.u,.u,.u,.u,.u,.u,.u,.u,.u]) (fun x=>(x.1+1).toNat) ((k':Int),[]) ⟨by simp only; omega,by simp only; omega,by simp only [List.reverse_nil,List.append_nil,qtn]; rw [if_neg (by omega)]⟩ (by simp only [qtn]; rw [if_neg (by omega),e']; rfl) ?_
  rintro ⟨j,out⟩ ⟨g1,g2,g3⟩
  simp only at g1 g2 g3 ⊢
  have g4:out.length≤k'+1:=by
   have:=congrArg List.length g3
   rw [qla,List.length_reverse] at this
   omega
  by_cases hj:0≤j
  ·obtain ⟨n,rfl⟩:∃ n:Nat,j=n:=⟨j.toNat,by omega⟩
   have hmN:n<(bfS a i).1.length:=by omega
   have tl:=BT.tl (btG (bfS a i).1 n)
   have hne:((btG (bfS a i).1 n).t == [])=false:=by
    rw [beq_eq_false_iff_ne]
    intro q
    rw [q] at tl
    simp at tl
   have hp:-1≤atI (bfS a i).2 (n:Nat)∧atI (bfS a i).2 (n:Nat)<n:=by
    rcases Nat.eq_zero_or_pos n with rfl | h0
    ·have:=hv.hd.2.1
     simp only [Int.ofNat_eq_natCast,Int.natCast_zero]
     omega
    ·have:=hv.par n h0 hmN
     omega
   have hg:=hm.1 n hmN
   rw [if_neg (by omega),qtn] at g3 ⊢
   rw [show wayF (bfS a i) (n+1) n=(if atI (bfS a i).2 (n:Nat)<0 then [] else wayF (bfS a i) n (atI (bfS a i).2 (n:Nat)).toNat)++[(btG (bfS a i).1 n).t] from rfl] at g3
   simp (disch:=first|omega|simp only[vl];omega) only [vcd,hne,hg,Option.getD_some]
   refine ⟨(atI (bfS a i).2 (n:Nat),out++[(btG (bfS a i).1 n).t]),by simp only; omega,⟨by simp only; omega,by simp only; omega,?_⟩,rfl⟩
   rw [← g3]
   simp only [List.reverse_append,List.reverse_cons,List.reverse_nil,List.nil_append,List.cons_append]
   by_cases q:atI (bfS a i).2 (n:Nat)<0
   ·rw [if_pos q,if_pos q]; simp
   ·rw [if_neg q,if_neg q,wayF_fu hv (f:=n) (by omega) (by omega)]; simp
  ·rw [if_pos (by omega),List.nil_append] at g3
   rw [if_pos (by omega)]
   have e0:((([]:List Nat)) == [])=true:=rfl
   simp (disch:=first|omega|simp only[vl];omega) only [vcd,e0]
   refine call_by (revS_ok (K:=K) (a:=out) (by omega)) rfl ?_
   simp (disch:=first|omega|simp only[vl];omega) only [vcd]
   rw [g3]
end Go.Cat
