/-
 Turns of matchings, of partitions, of triangulations.
-/
import Derived.Test.YtdaefhflccndlaaGreatPfRdG
import Derived.Test.YtdaefhflccndlaaGreatPfMat
import Derived.Test.YtdaefhflccndlaaGreatPfPart
import Derived.Test.YtdaefhflccndlaaGreatPfSrt
import Derived.Test.YtdaefhflccndlaaGreatPfTri2
import Derived.Test.YtdaefhflccndlaaGreatIrHas
set_option linter.unusedSimpArgs false
set_option linter.unusedVariables false
namespace Go.Cat
variable {K:Nat→List D→List D→Prop}
theorem LL_toQ {rs:List (List Int)} {j:Int} (h:0≤j∧j≤rs.length):subD (LL rs) none (some (.n j))=some (LL (sub rs 0 j)):=sub_map LI bound_none (bound_some h.1) (by omega) (by omega)
def tmT (m:List Int) (k:Nat):List Int:=iter (fun i out=>seI out (((i:Int)-k+m.length) % m.length) ((atI m i-k+m.length) % m.length)) m.length (rep m.length 0)
theorem tmT_len {m:List Int} {k:Nat}:(tmT m k).length=m.length:=by
 unfold tmT
 exact iter_inv (fun (l:List Int)=>l.length=m.length) (by simp [rep]) (fun i s h=>by rw [seI_len]; exact h) _
theorem emod_rg {a n:Int} (h:0<n):0≤a % n∧a % n<n:=⟨Int.emod_nonneg _ (by omega),Int.emod_lt_of_pos _ h⟩
theorem tum_i [HA K] {m:List Int} {k:Nat} (hm:matF m=true) (hl:0<m.length) (hk:k<m.length) (hr:∀ i:Nat,i<m.length→0≤atI m i∧atI m i<m.length):K 474 [LI m,.n k] [LI (tmT m k),.b true]:=by
 have h16:=(matF_t hm).1
 have hin:inR 0 ((m.length:Int)-1) k=true:=inR_iff.2 (by omega)
 refine body_by (f:=ir_impl_TurnMatching) rfl ?_; simp only [ir_impl_TurnMatching,zn,zs,zq,zi,zg,zp]
 simp (disch:=first|omega|simp only[vl];omega) only [vcd]
 refine call_by (match_i (K:=K) (m:=m) (by omega)) rfl ?_
 rw [hm]
 simp (disch:=first|omega|simp only[vl];omega) only [vcd]
 have e1:max 0 ((m.length:Int)-1)=(m.length:Int)-1:=by omega
 simp (disch:=first|omega|simp only[vl];omega) only [vcd,e1]
 refine call_by (within_ok (K:=K)) rfl ?_
 simp (disch:=first|omega|simp only[vl];omega) only [vcd,hin]
 refine loop_fold (fun i out=>seI out (((i:Int)-k+m.length) % m.length) ((atI m i-k+m.length) % m.length)) (fun _ s=>s.length=m.length) (fun i s=>[.u,.n k,.u,.u,.n m.length,LI s,.u,.u,.u,LI m,.n m.length,.n i,.u]) m.length (rep m.length 0) (by simp [rep]) rfl (fun i s _ h=>by rw [seI_len]; exact h) (fun i s hi hs _=>?_) (fun s hs _=>?_)
 ·have r1:=hr i hi
  have q1:=emod_rg (a:=(i:Int)-k+m.length) (n:=m.length) (by omega)
  have q2:=emod_rg (a:=atI m i-k+m.length) (n:=m.length) (by omega)
  simp (disch:=first|omega|simp only[vl];omega) only [vcd]
 ·simp (disch:=first|omega|simp only[vl];omega) only [vcd]
  rw [hs]; rfl
theorem tum_s [HA K] {m:List Int} {k:Nat} (hm:matF m=true) (hl:0<m.length) (hk:k<m.length) (hr:∀ i:Nat,i<m.length→0≤atI m i∧atI m i<m.length):K 477 [LI m,.n k] [LI (tmT m k),.b true]:=by
 have h16:=(matF_t hm).1
 have hin:inR 0 ((m.length:Int)-1) k=true:=inR_iff.2 (by omega)
 refine body_by (f:=ir_spec_TurnMatching) rfl ?_; simp only [ir_spec_TurnMatching,zn,zs,zq,zi,zg,zp]
 simp (disch:=first|omega|simp only[vl];omega) only [vcd]
 refine call_by (match_s (K:=K) (m:=m) (by omega)) rfl ?_
 rw [hm]
 have e1:max 0 ((m.length:Int)-1)=(m.length:Int)-1:=by omega
 simp (disch:=first|omega|simp only[vl];omega) only [vcd,e1]
 refine call_by (l1In_ok (K:=K)) rfl ?_
 simp (disch:=first|omega|simp only[vl];omega) only [vcd,hin]
 refine loop_fold (fun i out=>seI out (((i:Int)-k+m.length) % m.length) ((atI m i-k+m.length) % m.length)) (fun _ s=>s.length=m.length) (fun i s=>[LI m,.n k,.u,.u,.n m.length,LI s,.n i,.u,.u]) m.length (rep m.length 0) (by simp [rep]) rfl (fun i s _ h=>by rw [seI_len]; exact h) (fun i s hi hs _=>?_) (fun s hs _=>?_)
 ·have r1:=hr i hi
  have q1:=emod_rg (a:=(i:Int)-k+m.length) (n:=m.length) (by omega)
  have q2:=emod_rg (a:=atI m i-k+m.length) (n:=m.length) (by omega)
  simp (disch:=first|omega|simp only[vl];omega) only [vcd]
 ·simp (disch:=first|omega|simp only[vl];omega) only [vcd]
  rw [hs]; rfl
def tpL (p:List Int):List Int:=[atI p ((p.length:Int)-1)]++sub p 0 ((p.length:Int)-1)
def tpT (p:List Int):List Int:=rnL (tpL p) (tpL p).length
theorem tpL_len {p:List Int} (h:0<p.length):(tpL p).length=p.length:=by
 simp only [tpL,qla,qlc,qln,sub_len]; omega
theorem tup_i [HA K] {p:List Int} (hp:isPt p=true) (hl:0<p.length):K 435 [LI p] [LI (tpT p),.b true]:=by
 have h8:p.length≤8:=by simp [isPt] at hp; exact hp.1
 have hl2:=tpL_len hl
 refine body_by (f:=ir_impl_TurnPartition) rfl ?_; simp only [ir_impl_TurnPartition,zn,zs,zq,zi,zg,zp]
 simp (disch:=first|omega|simp only[vl];omega) only [vcd]
 refine call_by (pt_i (K:=K) (p:=p) (by omega)) rfl ?_
 rw [hp]
 simp (disch:=first|omega|simp only[vl];omega) only [vcd]
 refine call_by (rn_i (K:=K) (l:=tpL p) (by omega)) rfl ?_
 simp (disch:=first|omega|simp only[vl];omega) only [vcd]
 rfl
theorem tup_s [HA K] {p:List Int} (hp:isPt p=true) (hl:0<p.length):K 594 [LI p] [LI (tpT p),.b true]:=by
 have h8:p.length≤8:=by simp [isPt] at hp; exact hp.1
 have hl2:=tpL_len hl
 refine body_by (f:=ir_spec_TurnPartition) rfl ?_; simp only [ir_spec_TurnPartition,zn,zs,zq,zi,zg,zp]
 simp (disch:=first|omega|simp only[vl];omega) only [vcd]
 refine call_by (pt_s (K:=K) (p:=p) (by omega)) rfl ?_
 rw [hp]
 simp (disch:=first|omega|simp only[vl];omega) only [vcd]
 refine call_by (rn_s (K:=K) (l:=tpL p) (by omega)) rfl ?_
 simp (disch:=first|omega|simp only[vl];omega) only [vcd]
 rfl
theorem isd_i [HA K] {n:Int} {r:List Int} (hn:0≤n∧n≤1000) (hr:rw3 r):K 605 [.n n,LI r] [.b (dgOK n r)]:=by
 obtain ⟨h1,h2,h3⟩:=hr
 refine body_by (f:=ir_impl_isDiagonal) rfl ?_; simp only [ir_impl_isDiagonal,zn,zs,zq,zi,zg,zp]
 simp (disch:=first|omega|simp only[vl];omega) only [vcd]
 refine call_by (within_ok (K:=K)) rfl ?_
 cases q1:inR 0 (n-1) (atI r 0)
 ·simp (disch:=first|omega|simp only[vl];omega) only [vcd]
  simp [dgOK,q1]
 simp (disch:=first|omega|simp only[vl];omega) only [vcd]
 refine call_by (within_ok (K:=K)) rfl ?_
 cases q2:inR 0 (n-1) (atI r 1)
 ·have e:dgOK n r=false:=by
   simp only [dgOK,Bool.and_eq_false_iff]
   refine .inl (.inr ?_)
   rw [Bool.eq_false_iff]
   intro q
   have a:=inR_iff.1 q1
   have b:=inR_iff.1 q
   have:inR 0 (n-1) (atI r 1)=true:=inR_iff.2 (by omega)
   rw [this] at q2; cases q2
  simp (disch:=first|omega|simp only[vl];omega) only [vcd]
  rw [e]
 have a1:=inR_iff.1 q1
 have a2:=inR_iff.1 q2
 by_cases q3:atI r 1-atI r 0≥2
 ·have q3':inR (atI r 0+2) (n-1) (atI r 1)=true:=inR_iff.2 (by omega)
  by_cases q4:atI r 0=0
  ·by_cases q5:atI r 1=n-1
   ·simp (disch:=first|omega|simp only[vl];omega) only [vcd]
    simp [dgOK,q4,q5]
   ·simp (disch:=first|omega|simp only[vl];omega) only [vcd]
    have q6:decide (atI r 1=n-1)=false:=decide_eq_false q5
    simp only [dgOK,q1,q3',q6,Bool.and_false]
    rfl
  ·simp (disch:=first|omega|simp only[vl];omega) only [vcd]
   simp [dgOK,q1,q3',q4]
 ·have q3':inR (atI r 0+2) (n-1) (atI r 1)=false:=by
   rw [Bool.eq_false_iff]; intro q; have:=inR_iff.1 q; omega
  simp (disch:=first|omega|simp only[vl];omega) only [vcd]
  simp [dgOK,q3']
theorem ist_i [HA K] {n:Int} {d:List (List Int)} (h:triF n d=true) (hr:∀ r∈d,rw3 r):K 602 [.n n,LL d] [.b true]:=by
 simp only [triF,qba,qde] at h
 obtain ⟨⟨h1,h2⟩,h3⟩:=h
 have hn:=inR_iff.1 h1
 have e0:max 0 (n-3)=(d.length:Int):=h2.symm
 refine body_by (f:=ir_impl_IsTriangulation) rfl ?_; simp only [ir_impl_IsTriangulation,zn,zs,zq,zi,zg,zp]
 simp (disch:=first|omega|simp only[vl];omega) only [vcd]
 refine call_by (within_ok (K:=K)) rfl ?_
 rw [h1]
 simp (disch:=first|omega|simp only[vl];omega) only [vcd,e0]
 refine loop_ix (fun i=>trA n (d.take i) (d.drop i)=true) (fun i=>[.n n,LL d,.u,.u,.u,.u,.u,LL d,.n d.length,.n i,.u,.u,.u,.u,.u,.u,.u]) d.length (by simpa using h3) rfl (fun i hi hP=>?_) (fun _=>?_)
 ·rw [trA_step hi] at hP
  simp only [qba,Bool.or_eq_true,qde,qat,Bool.not_eq_true'] at hP
  obtain ⟨⟨⟨p1,p2⟩,p3⟩,p4⟩:=hP
  have hx:rw3 (atL d i):=hr _ (by simp [atL,hi])
  have hxl:=hx.1
  simp (disch:=first|omega|simp only[vl];omega) only [vcd]
  refine call_by (isd_i (K:=K) (n:=n) (r:=atL d i) (by omega) hx) rfl ?_
  rw [p1]
  have fin:∀ k:Nat,k<i→crR (atL d k) (atL d i)=false∧rw3 (atL d k):=fun k hk=>by
   have hm:atL d k∈d.take i:=by
    rw [List.mem_iff_getElem]
    exact ⟨k,by simp; omega,by simp [atL,show k<d.length by omega]⟩
   exact ⟨p3 _ hm,hr _ (List.mem_of_mem_take hm)⟩
  have es:sub d 0 (i:Int)=d.take i:=by simp [sub]
  have el:(d.take i).length=i:=by simp; omega
  have ea:∀ k:Nat,k<i→atL (d.take i) k=atL d k:=fun k hk=>by simp [atL,qgd,hk]
  by_cases h0:i=0
  ·subst h0
   simp (disch:=first|omega|simp only[vl];omega) only [vcd,es]
   refine loop_ix (fun _=>True) (fun k=>[.n n,LL d,.u,.u,LI (atL d 0),.u,.u,LL d,.n d.length,.n 0,.u,.u,LL (sub d 0 (0:Int)),.n 0,.n k,.u,.u]) 0 trivial rfl (fun k hk _=>by omega) (fun _=>?_)
   simp (disch:=first|omega|simp only[vl];omega) only [vcd]
   exact p4
  ·have hlt:ltR (atL d ((i:Int)-1)) (atL d i)=true:=p2.resolve_left h0
   have hy:rw3 (atL d ((i:Int)-1)):=hr _ (by
    have:((i:Int)-1).toNat=i-1:=by omega
    simp [atL,this,show i-1<d.length by omega])
   have hcm:decide (cmR2 (atL d ((i:Int)-1)) (atL d i)≥0)=false:=by
    have:=cmR2_neg (x:=atL d ((i:Int)-1)) (y:=atL d i)
    rw [hlt] at this
    simp only [qde] at this
    exact decide_eq_false (by omega)
   have ksc:=scmp_ok (K:=K) (x:=atL d ((i:Int)-1)) (y:=atL d i) hy.1 hx.1
   simp (disch:=first|omega|simp only[vl];omega) only [vcd]
   refine call_by (ksc) rfl ?_
   simp (disch:=first|omega|simp only[vl];omega) only [vcd,hcm,LL_toQ,es]
   refine loop_ix (fun _=>True) (fun k=>[.n n,LL d,.u,.u,LI (atL d i),.u,.u,LL d,.n d.length,.n i,.u,.u,LL (d.take i),.n i,.n k,.u,.u]) i trivial ?_ (fun k hk _=>?_) (fun _=>?_)
   ·rw [el]; rfl
   ·obtain ⟨c1,c2⟩:=fin k hk
    have c3:=c2.1
    have c4:=ea k hk
    simp only [crR,Bool.or_eq_false_iff,Bool.and_eq_false_iff,decide_eq_false_iff_not] at c1
    rw [← c4] at c1 c2 c3
    obtain ⟨y,ey⟩:∃ y,atL (d.take i) (k:Int)=y:=⟨_,rfl⟩
    rw [ey] at c1 c2 c3
    by_cases a1:atI y 0<atI (atL d i) 0
    ·by_cases a2:atI (atL d i) 0<atI y 1
     ·by_cases a3:atI y 1<atI (atL d i) 1
      ·omega
      ·simp (disch:=first|omega|simp only[vl];omega) only [vcd,ey]
     ·simp (disch:=first|omega|simp only[vl];omega) only [vcd,ey]
    ·by_cases b1:atI (atL d i) 0<atI y 0
     ·by_cases b2:atI y 0<atI (atL d i) 1
      ·by_cases b3:atI (atL d i) 1<atI y 1
       ·omega
       ·simp (disch:=first|omega|simp only[vl];omega) only [vcd,ey]
      ·simp (disch:=first|omega|simp only[vl];omega) only [vcd,ey]
     ·simp (disch:=first|omega|simp only[vl];omega) only [vcd,ey]
   ·simp (disch:=first|omega|simp only[vl];omega) only [vcd]
    exact p4
 ·simp (disch:=first|omega|simp only[vl];omega) only [vcd]
def tyR (n k:Int) (r:List Int):List Int:=[min ((atI r 0+k) % n) ((atI r 1+k) % n),max ((atI r 0+k) % n) ((atI r 1+k) % n)]
def tyT (n k:Int) (d:List (List Int)):List (List Int):=srfF (d.map (tyR n k))
theorem srf_snoc {l:List (List Int)} {x:List Int}:srfF (l++[x])=(insV x (srfF l).reverse).reverse:=by
 simp only [srfF,srtV,List.foldl_append,List.foldl_cons,List.foldl_nil,List.reverse_reverse]
theorem map_takeL {α:Type} {l:List (List Int)} {f:List Int→α} {i:Nat} (h:i<l.length):(l.take (i+1)).map f=(l.take i).map f++[f (atL l i)]:=by
 rw [takeLg h,List.map_append]; rfl
theorem triF_len {n:Int} {d:List (List Int)} (h:triF n d=true):d.length≤7∧2≤n∧n≤10:=by
 simp only [triF,qba,qde] at h
 have:=inR_iff.1 h.1.1
 have:=h.1.2
 omega
theorem trA_row {n:Int}:∀ {d o:List (List Int)},trA n o d=true→∀ r∈d,dgOK n r=true
 | [],_,_,r,hr=>by cases hr
 | x::d,o,h,r,hr=>by
  simp only [trA,qba] at h
  rcases qmn.1 hr with rfl | hr
  ·exact h.1.1.1
  ·exact trA_row h.2 r hr
theorem triF_row {n:Int} {d:List (List Int)} (h:triF n d=true) {i:Nat} (hi:i<d.length):(0≤atI (atL d i) 0∧atI (atL d i) 0≤n-1)∧0≤atI (atL d i) 1∧atI (atL d i) 1≤n-1:=by
 simp only [triF,qba] at h
 have:=trA_row h.2 (atL d i) (by simp [atL,hi])
 simp only [dgOK,qba] at this
 have a:=inR_iff.1 this.1.1
 have b:=inR_iff.1 this.1.2
 omega
theorem typ_i [HA K] {n k:Int} {d:List (List Int)} (h:triF n d=true) (hr:∀ r∈d,rw3 r) (hk:0≤k∧k<n):K 598 [.n n,LL d,.n k] [LL (tyT n k d),.b true]:=by
 obtain ⟨hl,hn⟩:=triF_len h
 refine body_by (f:=ir_impl_TurnPolygon) rfl ?_; simp only [ir_impl_TurnPolygon,zn,zs,zq,zi,zg,zp]
 simp (disch:=first|omega|simp only[vl];omega) only [vcd]
 refine call_by (ist_i (K:=K) h hr) rfl ?_
 simp (disch:=first|omega|simp only[vl];omega) only [vcd]
 refine call_by (within_ok (K:=K)) rfl ?_
 rw [show inR 0 (n-1) k=true from inR_iff.2 (by omega)]
 simp (disch:=first|omega|simp only[vl];omega) only [vcd]
 refine loop_up (fun i (o:List (List Int))=>o=(d.take i).map (tyR n k)) (fun i o=>[.n n,.u,.n k,.u,.u,LL o,.u,.u,.u,.u,LL d,.n d.length,.n i,.u]) d.length [] rfl rfl (fun i o hi hP=>?_) (fun o hP=>?_)
 ·have hx:=hr (atL d i) (by simp [atL,hi])
  have hxl:=hx.1
  have r1:=triF_row h hi
  have ho:o.length=i:=by rw [hP]; simp; omega
  have q1:=emod_rg (a:=atI (atL d i) 0+k) (n:=n) (by omega)
  have q2:=emod_rg (a:=atI (atL d i) 1+k) (n:=n) (by omega)
  simp (disch:=first|omega|simp only[vl];omega) only [vcd,ll_1]
  have e:appD false (LL o) (LL [tyR n k (atL d i)])=some (LL (o++[tyR n k (atL d i)])):=LL_app ⟨by simp; omega,rfl⟩
  simp only [tyR] at e
  simp (disch:=first|omega|simp only[vl];omega) only [vcd,e]
  refine ⟨_,?_,rfl⟩
  rw [hP,map_takeL hi]; rfl
 ·rw [List.take_of_length_le (by omega)] at hP
  have hs:=sortf_ok (K:=K) (d:=o) (by rw [hP]; simp; omega) (by
   intro x hx
   rw [hP] at hx
   obtain ⟨r,_,rfl⟩:=List.mem_map.1 hx
   rfl)
  simp (disch:=first|omega|simp only[vl];omega) only [vcd]
  refine call_by (hs) rfl ?_
  simp (disch:=first|omega|simp only[vl];omega) only [vcd]
  rw [hP]; rfl
theorem typ_s [HA K] {n k:Int} {d:List (List Int)} (h:triF n d=true) (hr:∀ r∈d,rw3 r) (hk:0≤k∧k<n):K 595 [.n n,LL d,.n k] [LL (tyT n k d),.b true]:=by
 obtain ⟨hl,hn⟩:=triF_len h
 refine body_by (f:=ir_spec_TurnPolygon) rfl ?_; simp only [ir_spec_TurnPolygon,zn,zs,zq,zi,zg,zp]
 simp (disch:=first|omega|simp only[vl];omega) only [vcd]
 refine call_by (tri_any_s (K:=K) (n:=n) (d:=d) (by omega) (by omega) hr) rfl ?_
 rw [h]
 simp (disch:=first|omega|simp only[vl];omega) only [vcd]
 refine call_by (l1In_ok (K:=K)) rfl ?_
 rw [show inR 0 (n-1) k=true from inR_iff.2 (by omega)]
 simp (disch:=first|omega|simp only[vl];omega) only [vcd]
 refine loop_up (fun i (o:List (List Int))=>o=srfF ((d.take i).map (tyR n k))) (fun i o=>[.n n,LL d,.n k,.u,.u,LL o,.n i,.u,.u,.u,.u]) d.length [] rfl rfl (fun i o hi hP=>?_) (fun o hP=>?_)
 ·have hx:=hr (atL d i) (by simp [atL,hi])
  have hxl:=hx.1
  have r1:=triF_row h hi
  have ho:o.length=i:=by rw [hP,srtF_len]; simp; omega
  have q1:=emod_rg (a:=atI (atL d i) 0+k) (n:=n) (by omega)
  have q2:=emod_rg (a:=atI (atL d i) 1+k) (n:=n) (by omega)
  have hrow:∀ z∈o,row2 z:=fun z hz=>by
   rw [hP,srtF_mem] at hz
   obtain ⟨r,_,rfl⟩:=List.mem_map.1 hz
   rfl
  have hput:=put_s (K:=K) (l:=o) (x:=tyR n k (atL d i)) (by omega) hrow rfl
  simp only [tyR] at hput
  simp (disch:=first|omega|simp only[vl];omega) only [vcd]
  refine call_by (hput) rfl ?_
  simp (disch:=first|omega|simp only[vl];omega) only [vcd]
  refine ⟨_,?_,rfl⟩
  rw [map_takeL hi,srf_snoc,← hP]; rfl
 ·rw [List.take_of_length_le (by omega)] at hP
  simp (disch:=first|omega|simp only[vl];omega) only [vcd]
  rw [hP]; rfl
end Go.Cat
