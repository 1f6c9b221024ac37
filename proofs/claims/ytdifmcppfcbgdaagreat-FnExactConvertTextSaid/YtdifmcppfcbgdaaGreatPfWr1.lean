/-
 Texts of plane trees, partitions, matchings; permutations of paths.
-/
import Derived.Test.YtdifmcppfcbgdaaGreatPfPLine
import Derived.Test.YtdifmcppfcbgdaaGreatPfMWalk
import Derived.Test.YtdifmcppfcbgdaaGreatIrHas
set_option linter.unusedSimpArgs false
set_option linter.unusedVariables false
namespace Go.Cat
variable {K:Nat→List D→List D→Prop}
theorem glT_app {sep:List Nat} {ws:List (List Nat)} {x:List Nat}:∀ {i:Nat},i≤ws.length→glT sep (ws++[x]) i=glT sep ws i
 | 0,_=>rfl
 | i+1,h=>by
  have e:atS (ws++[x]) i=atS ws i:=by
   simp only [atS,qtn,qgd]
   rw [qgl (by omega)]
  rw [glT,glT,glT_app (by omega),e]
theorem glue_snoc {sep:List Nat} {ws:List (List Nat)} {x:List Nat}:glue sep (ws++[x])=glue sep ws++(if 0<ws.length then sep else [])++x:=by
 have e:atS (ws++[x]) ws.length=x:=by simp [atS]
 rw [glue,qla,qlc,qln,Nat.zero_add,glT,glT_app (Nat.le_refl _),e]
 rfl
theorem glue_nil {sep:List Nat}:glue sep []=[]:=rfl
theorem glue_len {sep:List Nat} {ws:List (List Nat)} {b:Nat} (h:∀ x∈ws,x.length≤b):(glue sep ws).length≤ws.length*(b+sep.length):=glT_len h ws.length
def inW (p:List Int):List (List Nat):=p.map fmtI
def fplF (p:List Int):List Nat:=if isPl p=true then glue [44] (inW p) else []
theorem inW_at {p:List Int} {i:Nat} (h:i<p.length):atS (inW p) i=fmtI (atI p i):=by simp [atS,inW,atI,h]
theorem inW_take {p:List Int} {i:Nat} (h:i<p.length):(inW p).take (i+1)=(inW p).take i++[fmtI (atI p i)]:=by
 rw [qta (by simpa [inW] using h)]; simp [inW,atI,h]
theorem inW_len {p:List Int}:(inW p).length=p.length:=by simp [inW]
theorem isPl_t {p:List Int} (h:isPl p=true):(1≤p.length∧p.length≤9)∧∀ j:Nat,j<p.length→-1≤atI p j∧atI p j≤100:=by
 simp only [isPl,qba,qde] at h
 have hl:=inR_iff.1 h.1
 refine ⟨by omega,fun j hj=>?_⟩
 have:=plV_rg h.2 j hj
 omega
theorem inW_b {p:List Int} (h:∀ j:Nat,j<p.length→-1≤atI p j∧atI p j≤100):∀ x∈inW p,x.length≤20:=by
 intro x hx
 obtain ⟨y,hy,rfl⟩:=List.mem_map.1 hx
 obtain ⟨j,hj,rfl⟩:=List.mem_iff_getElem.1 hy
 have:=h j hj
 refine fmt_len ?_
 simp only [atI,qtn,qgd,qge hj,Option.getD_some] at this
 omega
theorem fpl_i [HA K] {p:List Int} (h:p.length≤1048576):K 534 [LI p] [.s (fplF p)]:=by
 refine body_by (f:=ir_impl_FormatPlane) rfl ?_; simp only [ir_impl_FormatPlane,zn,zs,zq,zi,zg,zp]
 simp (disch:=first|omega|simp only[vl];omega) only [vcd]
 refine call_by (ispl_i (K:=K) (p:=p) (by omega)) rfl ?_
 cases hp:isPl p
 ·simp (disch:=first|omega|simp only[vl];omega) only [vcd]
  simp [fplF,hp]
 ·obtain ⟨hl,hb⟩:=isPl_t hp
  have hw:=inW_len (p:=p)
  simp (disch:=first|omega|simp only[vl];omega) only [vcd]
  rw [LS_nilT]
  refine loop_ix (fun _=>True) (fun i=>[.u,.u,LS ((inW p).take i),.u,.u,LI p,.n p.length,.n i,.u]) p.length trivial (by simp) (fun i hi _=>?_) (fun _=>?_)
  ·have ht:((inW p).take i).length=i:=by simp; omega
   have hbi:=hb i hi
   rw [inW_take hi]
   simp (disch:=first|omega|simp only[vl];omega) only [vcd]
   refine call_by (fmt_i (K:=K) (n:=atI p i) (by omega)) rfl ?_
   simp (disch:=first|omega|simp only[vl];omega) only [vcd]
  ·rw [List.take_of_length_le (by omega)]
   have kg:=glued_ok (K:=K) (ws:=inW p) (sep:=[44]) (by omega) (fun x hx=>by have:=inW_b hb x hx; omega) (by simp)
   simp (disch:=first|omega|simp only[vl];omega) only [vcd]
   refine call_by (kg) rfl ?_
   simp (disch:=first|omega|simp only[vl];omega) only [vcd]
   simp [fplF,hp]
theorem fpl_s [HA K] {p:List Int} (h:p.length≤1048576):K 529 [LI p] [.s (fplF p)]:=by
 refine body_by (f:=ir_spec_FormatPlane) rfl ?_; simp only [ir_spec_FormatPlane,zn,zs,zq,zi,zg,zp]
 simp (disch:=first|omega|simp only[vl];omega) only [vcd]
 cases hp:isPl p
 ·refine loop_wh (fun (_:Unit)=>True) (fun _=>[LI p,.u,.s [],.n 0,.u,.u]) (fun _=>0) () trivial rfl (fun _ _=>?_)
  by_cases h0:0<p.length
  ·simp (disch:=first|omega|simp only[vl];omega) only [vcd]
   repeat (first | (refine call_by (ispl_s (K:=K) (p:=p) (by omega)) rfl ?_; try simp (disch:=first|omega|simp only[vl];omega) only [vcd,hp]))
   simp [fplF,hp]
  ·simp (disch:=first|omega|simp only[vl];omega) only [vcd]
   simp [fplF,hp]
 ·obtain ⟨hl,hb⟩:=isPl_t hp
  have hw:=inW_len (p:=p)
  refine loop_ix (fun _=>True) (fun i=>[LI p,.u,.s (glT [44] (inW p) i),.n i,.u,.u]) p.length trivial rfl (fun i hi _=>?_) (fun _=>?_)
  ·have hbi:=hb i hi
   have b1:=glT_len (sep:=[44]) (inW_b hb) i
   have b2:=fmt_len (n:=atI p i) (by omega)
   have b3:i*(20+[44].length)≤61*21:=Nat.mul_le_mul (by omega) (by simp)
   have e:=inW_at hi
   simp (disch:=first|omega|simp only[vl];omega) only [vcd]
   refine call_by (ispl_s (K:=K) (p:=p) (by omega)) rfl ?_
   by_cases q:0<i
   ·simp (disch:=first|omega|simp only[vl];omega) only [vcd,hp]
    refine call_by (fmt_s (K:=K) (n:=atI p i) (by omega)) rfl ?_
    simp (disch:=first|omega|simp only[vl];omega) only [vcd]
    simp only [glT,if_pos q,e]
   ·simp (disch:=first|omega|simp only[vl];omega) only [vcd,hp]
    refine call_by (fmt_s (K:=K) (n:=atI p i) (by omega)) rfl ?_
    simp (disch:=first|omega|simp only[vl];omega) only [vcd]
    simp only [glT,if_neg q,e,List.append_nil]
  ·simp (disch:=first|omega|simp only[vl];omega) only [vcd]
   have hg:glue [44] (inW p)=glT [44] (inW p) p.length:=by rw [glue,hw]
   simp [fplF,hp,hg]
def rwT (r:List Int):Nat→List Nat
 | 0=>[]
 | i+1=>rwT r i++fmtI (atI r i+1)
theorem rwT_len {r:List Int} (h:∀ j:Nat,j<r.length→0≤atI r j∧atI r j≤100):∀ i,i≤r.length→(rwT r i).length≤i*20
 | 0,_=>by simp [rwT]
 | i+1,hi=>by
  have h1:=rwT_len h i (by omega)
  have h2:=h i (by omega)
  have h3:=fmt_len (n:=atI r i+1) (by omega)
  simp only [rwT,qla]; omega
theorem blF_el {p:List Int}:∀ {i:Nat} {r:List Int},r∈blF p i→∀ x∈r,0≤x∧x<i
 | 0,r,h=>by simp [blF] at h
 | i+1,r,h=>by
  have ho:∀ r∈(if atI p i=(blF p i).length then blF p i++[[]] else blF p i),∀ x∈r,0≤x∧x<i:=by
   intro r hr
   split at hr
   ·rcases qma.1 hr with q | q
    ·exact blF_el q
    ·simp at q; subst q; simp
   ·exact blF_el hr
  simp only [blF,seL] at h
  intro x hx
  rcases List.mem_or_eq_of_mem_set h with q | q
  ·have:=ho _ q x hx; omega
  ·subst q
   rcases qma.1 hx with hx | hx
   ·have key:∀ x∈(atL (if atI p i=(blF p i).length then blF p i++[[]] else blF p i) (atI p i)),0≤x∧x<i:=by
     simp only [atL]
     rcases qlg (atI p i).toNat (if atI p i=(blF p i).length then blF p i++[[]] else blF p i).length with q | q
     ·rw [qgd,qge q]
      exact ho _ (List.getElem_mem q)
     ·rw [qgd,qgn q]; simp
    have:=key x hx; omega
   ·simp only [List.mem_singleton] at hx; omega
def ptB (p:List Int):List (List Int):=if isPt p=true then blF p p.length else []
theorem ptB_len {p:List Int}:(ptB p).length≤8:=by
 unfold ptB
 split
 ·rename_i h
  simp only [isPt,qba,qde] at h
  have h1:=blF_len h.2
  have h2:=nxF_bd h.2
  omega
 ·simp
theorem ptB_row {p:List Int} {r:List Int} (h:r∈ptB p):r.length≤8∧∀ j:Nat,j<r.length→0≤atI r j∧atI r j≤100:=by
 unfold ptB at h
 split at h
 ·rename_i hp
  simp only [isPt,qba,qde] at hp
  have h1:=blF_row h
  have h2:=blF_el h
  refine ⟨by omega,fun j hj=>?_⟩
  have:=h2 (atI r j) (by simp [atI,hj])
  omega
 ·cases h
theorem atL_memW {b:List (List Int)} {i:Nat} (h:i<b.length):atL b i∈b:=by simp [atL,h]
def ptW (p:List Int):List (List Nat):=(ptB p).map fun r=>rwT r r.length
def fptF (p:List Int):List Nat:=glue [124] (ptW p)
theorem ptW_at {p:List Int} {i:Nat} (h:i<(ptB p).length):atS (ptW p) i=rwT (atL (ptB p) i) (atL (ptB p) i).length:=by simp [atS,ptW,atL,h]
theorem ptW_take {p:List Int} {i:Nat} (h:i<(ptB p).length):(ptW p).take (i+1)=(ptW p).take i++[rwT (atL (ptB p) i) (atL (ptB p) i).length]:=by
 rw [qta (by simpa [ptW] using h)]; simp [ptW,atL,h]
theorem ptW_len {p:List Int}:(ptW p).length=(ptB p).length:=by simp [ptW]
theorem ptW_b {p:List Int}:∀ x∈ptW p,x.length≤160:=by
 intro x hx
 obtain ⟨r,hr,rfl⟩:=List.mem_map.1 hx
 obtain ⟨h1,h2⟩:=ptB_row hr
 have:=rwT_len h2 r.length (Nat.le_refl _)
 omega
theorem fpt_i [HA K] {p:List Int} (h:p.length≤1048576):K 537 [LI p] [.s (fptF p)]:=by
 have hbl:=ptB_len (p:=p)
 have hw:=ptW_len (p:=p)
 have kb:=blk_i (K:=K) (p:=p) (by omega)
 rw [show (if isPt p=true then blF p p.length else [])=ptB p from rfl] at kb
 refine body_by (f:=ir_impl_FormatPartition) rfl ?_; simp only [ir_impl_FormatPartition,zn,zs,zq,zi,zg,zp]
 simp (disch:=first|omega|simp only[vl];omega) only [vcd]
 refine call_by (kb) rfl ?_
 simp (disch:=first|omega|simp only[vl];omega) only [vcd]
 rw [LS_nilT]
 refine loop_ix (fun _=>True) (fun i=>[.u,.u,LS ((ptW p).take i),.u,.u,.u,LL (ptB p),.n (ptB p).length,.n i,.u,.u,.u,.u,.u]) (ptB p).length trivial (by simp) (fun i hi _=>?_) (fun _=>?_)
 ·have ht:((ptW p).take i).length=i:=by simp; omega
  obtain ⟨r1,r2⟩:=ptB_row (atL_memW hi)
  rw [ptW_take hi]
  simp (disch:=first|omega|simp only[vl];omega) only [vcd]
  generalize atL (ptB p) i=r at r1 r2 ⊢
  refine loop_ix (fun _=>True) (fun j=>[.u,.u,LS ((ptW p).take i),.u,.s (rwT r j),.u,LL (ptB p),.n (ptB p).length,.n i,.u,LI r,.n r.length,.n j,.u]) r.length trivial rfl (fun j hj _=>?_) (fun _=>?_)
  ·have h2:=r2 j hj
   have h3:=rwT_len r2 j (by omega)
   have h4:=fmt_len (n:=atI r j+1) (by omega)
   simp (disch:=first|omega|simp only[vl];omega) only [vcd]
   refine call_by (fmt_i (K:=K) (n:=atI r j+1) (by omega)) rfl ?_
   simp (disch:=first|omega|simp only[vl];omega) only [vcd]
   rfl
  ·simp (disch:=first|omega|simp only[vl];omega) only [vcd]
 ·rw [List.take_of_length_le (by omega)]
  have kg:=glued_ok (K:=K) (ws:=ptW p) (sep:=[124]) (by omega) (fun x hx=>by have:=ptW_b x hx; omega) (by simp)
  simp (disch:=first|omega|simp only[vl];omega) only [vcd]
  refine call_by (kg) rfl ?_
  simp (disch:=first|omega|simp only[vl];omega) only [vcd]
  rfl
theorem fpt_s [HA K] {p:List Int} (h:p.length≤1048576):K 532 [LI p] [.s (fptF p)]:=by
 have hbl:=ptB_len (p:=p)
 have hw:=ptW_len (p:=p)
 have kb:=blk_s (K:=K) (p:=p) (by omega)
 rw [show (if isPt p=true then blF p p.length else [])=ptB p from rfl] at kb
 refine body_by (f:=ir_spec_FormatPartition) rfl ?_; simp only [ir_spec_FormatPartition,zn,zs,zq,zi,zg,zp]
 simp (disch:=first|omega|simp only[vl];omega) only [vcd]
 refine call_by (kb) rfl ?_
 simp (disch:=first|omega|simp only[vl];omega) only [vcd]
 refine loop_ix (fun _=>True) (fun i=>[.u,.u,LL (ptB p),.s (glT [124] (ptW p) i),.n i,.u,.u,.u,.u]) (ptB p).length trivial rfl (fun i hi _=>?_) (fun _=>?_)
 ·obtain ⟨r1,r2⟩:=ptB_row (atL_memW hi)
  have e:=ptW_at hi
  have b1:=glT_len (sep:=[124]) (ptW_b (p:=p)) i
  have b3:i*(160+[124].length)≤8*161:=Nat.mul_le_mul (by omega) (by simp)
  obtain ⟨s0,hs0⟩:∃ s0,s0=glT [124] (ptW p) i++(if 0<i then [124] else []):=⟨_,rfl⟩
  have hsl:s0.length≤2000:=by
   rw [hs0,qla]
   have:(if 0<i then [124] else []).length≤1:=by split <;> simp
   omega
  have key:glT [124] (ptW p) (i+1)=s0++rwT (atL (ptB p) i) (atL (ptB p) i).length:=by rw [glT,e,hs0]
  rw [key]
  have inner:∀ (Q:X→Env→Prop) (b:S),True:=fun _ _=>trivial
  by_cases q:0<i
  ·rw [if_pos q] at hs0
   simp (disch:=first|omega|simp only[vl];omega) only [vcd]
   rw [← hs0]
   refine loop_ix (fun _=>True) (fun j=>[.u,.u,LL (ptB p),.s (s0++rwT (atL (ptB p) i) j),.n i,.n j,.u,.u,.u]) (atL (ptB p) i).length trivial (by simp [rwT]) (fun j hj _=>?_) (fun _=>?_)
   ·have h2:=r2 j hj
    have h3:=rwT_len r2 j (by omega)
    have h4:=fmt_len (n:=atI (atL (ptB p) i) j+1) (by omega)
    simp (disch:=first|omega|simp only[vl];omega) only [vcd]
    refine call_by (fmt_s (K:=K) (n:=atI (atL (ptB p) i) j+1) (by omega)) rfl ?_
    simp (disch:=first|omega|simp only[vl];omega) only [vcd]
    simp only [rwT,qaa]
   ·simp (disch:=first|omega|simp only[vl];omega) only [vcd]
  ·rw [if_neg q,List.append_nil] at hs0
   simp (disch:=first|omega|simp only[vl];omega) only [vcd]
   rw [← hs0]
   refine loop_ix (fun _=>True) (fun j=>[.u,.u,LL (ptB p),.s (s0++rwT (atL (ptB p) i) j),.n i,.n j,.u,.u,.u]) (atL (ptB p) i).length trivial (by simp [rwT]) (fun j hj _=>?_) (fun _=>?_)
   ·have h2:=r2 j hj
    have h3:=rwT_len r2 j (by omega)
    have h4:=fmt_len (n:=atI (atL (ptB p) i) j+1) (by omega)
    simp (disch:=first|omega|simp only[vl];omega) only [vcd]
    refine call_by (fmt_s (K:=K) (n:=atI (atL (ptB p) i) j+1) (by omega)) rfl ?_
    simp (disch:=first|omega|simp only[vl];omega) only [vcd]
    simp only [rwT,qaa]
   ·simp (disch:=first|omega|simp only[vl];omega) only [vcd]
 ·simp (disch:=first|omega|simp only[vl];omega) only [vcd]
  rw [fptF,glue,hw]
def arW (m:List Int):Nat→List (List Nat)
 | 0=>[]
 | i+1=>if (i:Int)<atI m i then arW m i++[fmtI i++[45]++fmtI (atI m i)] else arW m i
def fmaF (m:List Int):List Nat:=if matF m=true then (if m.length=0 then [110,111,110,101] else glue [32] (arW m m.length)) else []
theorem arW_len {m:List Int}:∀ i,(arW m i).length≤i
 | 0=>by simp [arW]
 | i+1=>by
  have:=arW_len (m:=m) i
  unfold arW
  split
  ·simp; omega
  ·omega
theorem arW_b {m:List Int} (h:matF m=true):∀ i,i≤m.length→∀ x∈arW m i,x.length≤41
 | 0,_,x,hx=>by simp [arW] at hx
 | i+1,hi,x,hx=>by
  unfold arW at hx
  split at hx
  ·rcases qma.1 hx with q | q
   ·exact arW_b h i (by omega) x q
   ·simp only [List.mem_singleton] at q
    obtain ⟨h1,h2⟩:=matF_t h
    have h3:=inR_iff.1 (h2 i (by omega)).1
    have f1:=fmt_len (n:=(i:Int)) (by omega)
    have f2:=fmt_len (n:=atI m i) (by omega)
    rw [q]
    simp only [qla,qlc,qln]; omega
  ·exact arW_b h i (by omega) x hx
theorem fma_i [HA K] {m:List Int} (h:m.length≤1048576):K 538 [LI m] [.s (fmaF m)]:=by
 refine body_by (f:=ir_impl_FormatMatching) rfl ?_; simp only [ir_impl_FormatMatching,zn,zs,zq,zi,zg,zp]
 simp (disch:=first|omega|simp only[vl];omega) only [vcd]
 refine call_by (match_i (K:=K) (m:=m) (by omega)) rfl ?_
 cases hm:matF m
 ·simp (disch:=first|omega|simp only[vl];omega) only [vcd]
  simp [fmaF,hm]
 ·obtain ⟨h1,h2⟩:=matF_t hm
  by_cases h0:m.length=0
  ·simp (disch:=first|omega|simp only[vl];omega) only [vcd,h0]
   simp [fmaF,hm,h0]
  ·simp (disch:=first|omega|simp only[vl];omega) only [vcd]
   rw [LS_nilT]
   refine loop_ix (fun _=>True) (fun i=>[.u,.u,LS (arW m i),.u,.u,.u,.u,LI m,.n m.length,.n i,.u,.u]) m.length trivial rfl (fun i hi _=>?_) (fun _=>?_)
   ·have hl:=arW_len (m:=m) i
    have h3:=inR_iff.1 (h2 i hi).1
    have f1:=fmt_len (n:=(i:Int)) (by omega)
    have f2:=fmt_len (n:=atI m i) (by omega)
    by_cases q:(i:Int)<atI m i
    ·have e:arW m (i+1)=arW m i++[fmtI i++[45]++fmtI (atI m i)]:=by rw [arW,if_pos q]
     rw [e]
     simp (disch:=first|omega|simp only[vl];omega) only [vcd]
     refine call_by (fmt_i (K:=K) (n:=(i:Int)) (by omega)) rfl ?_
     simp (disch:=first|omega|simp only[vl];omega) only [vcd]
     refine call_by (fmt_i (K:=K) (n:=atI m i) (by omega)) rfl ?_
     simp (disch:=first|omega|simp only[vl];omega) only [vcd]
    ·have e:arW m (i+1)=arW m i:=by rw [arW,if_neg q]
     rw [e]
     simp (disch:=first|omega|simp only[vl];omega) only [vcd]
   ·have hl:=arW_len (m:=m) m.length
    have kg:=glued_ok (K:=K) (ws:=arW m m.length) (sep:=[32]) (by omega) (fun x hx=>by have:=arW_b hm m.length (Nat.le_refl _) x hx; omega) (by simp)
    simp (disch:=first|omega|simp only[vl];omega) only [vcd]
    refine call_by (kg) rfl ?_
    simp (disch:=first|omega|simp only[vl];omega) only [vcd]
    simp [fmaF,hm,h0]
theorem fma_s [HA K] {m:List Int} (h:m.length≤1048576):K 533 [LI m] [.s (fmaF m)]:=by
 refine body_by (f:=ir_spec_FormatMatching) rfl ?_; simp only [ir_spec_FormatMatching,zn,zs,zq,zi,zg,zp]
 simp (disch:=first|omega|simp only[vl];omega) only [vcd]
 cases hm:matF m
 ·have h0:m.length≠0:=by
   intro q
   have:m=[]:=qez q
   subst this
   exact absurd hm (by decide)
  refine loop_wh (fun (_:Unit)=>True) (fun _=>[LI m,.u,.s [],.n 0,.u,.u,.u,.u]) (fun _=>0) () trivial rfl (fun _ _=>?_)
  simp (disch:=first|omega|simp only[vl];omega) only [vcd]
  repeat (first | (refine call_by (match_s (K:=K) (m:=m) (by omega)) rfl ?_; try simp (disch:=first|omega|simp only[vl];omega) only [vcd,hm]))
  simp [fmaF,hm]
 ·obtain ⟨h1,h2⟩:=matF_t hm
  refine loop_ix (fun _=>True) (fun i=>[LI m,.u,.s (glue [32] (arW m i)),.n i,.u,.u,.u,.u]) m.length trivial rfl (fun i hi _=>?_) (fun _=>?_)
  ·have hl:=arW_len (m:=m) i
   have h3:=inR_iff.1 (h2 i hi).1
   have f1:=fmt_len (n:=(i:Int)) (by omega)
   have f2:=fmt_len (n:=atI m i) (by omega)
   have b1:=glue_len (sep:=[32]) (arW_b hm i (by omega))
   have b3:(arW m i).length*(41+[32].length)≤16*42:=Nat.mul_le_mul (by omega) (by simp)
   simp (disch:=first|omega|simp only[vl];omega) only [vcd]
   refine call_by (match_s (K:=K) (m:=m) (by omega)) rfl ?_
   by_cases q:(i:Int)<atI m i
   ·have e:arW m (i+1)=arW m i++[fmtI i++[45]++fmtI (atI m i)]:=by rw [arW,if_pos q]
    rw [e,glue_snoc]
    by_cases hz:(arW m i).length=0
    ·have ez:arW m i=[]:=qez hz
     rw [ez,glue_nil]
     simp (disch:=first|omega|simp only[vl];omega) only [vcd,hm]
     refine call_by (fmt_s (K:=K) (n:=(i:Int)) (by omega)) rfl ?_
     simp (disch:=first|omega|simp only[vl];omega) only [vcd]
     refine call_by (fmt_s (K:=K) (n:=atI m i) (by omega)) rfl ?_
     simp (disch:=first|omega|simp only[vl];omega) only [vcd]
     simp
    ·have ez:(glue [32] (arW m i) == [])=false:=by
      refine beq_eq_false_iff_ne.2 fun q=>?_
      obtain ⟨n,hn⟩:∃ n,(arW m i).length=n+1:=⟨(arW m i).length-1,by omega⟩
      have hx:atS (arW m i) n∈arW m i:=by
       have:n<(arW m i).length:=by omega
       simp [atS,this]
      have hne:∀ i,∀ x∈arW m i,x≠[]:=by
       intro i
       induction i with
       | zero=>intro x hx; simp [arW] at hx
       | succ i ih=>
        intro x hx
        unfold arW at hx
        split at hx
        ·rcases qma.1 hx with q | q
         ·exact ih x q
         ·simp only [List.mem_singleton] at q
          rw [q]; simp
        ·exact ih x hx
      have:=hne i _ hx
      rw [glue,hn,glT] at q
      have q2:=congrArg List.length q
      simp only [qla,qln] at q2
      have h3:(atS (arW m i) n).length≠0:=fun q=>this (qez q)
      omega
     simp (disch:=first|omega|simp only[vl];omega) only [vcd,hm,ez]
     refine call_by (fmt_s (K:=K) (n:=(i:Int)) (by omega)) rfl ?_
     simp (disch:=first|omega|simp only[vl];omega) only [vcd]
     refine call_by (fmt_s (K:=K) (n:=atI m i) (by omega)) rfl ?_
     simp (disch:=first|omega|simp only[vl];omega) only [vcd]
     rw [if_pos (by omega)]
     simp
   ·have e:arW m (i+1)=arW m i:=by rw [arW,if_neg q]
    rw [e]
    simp (disch:=first|omega|simp only[vl];omega) only [vcd,hm]
  ·by_cases h0:m.length=0
   ·have e:arW m m.length=[]:=by rw [h0]; rfl
    rw [e,glue_nil]
    simp (disch:=first|omega|simp only[vl];omega) only [vcd,h0]
    simp [fmaF,hm,h0]
   ·simp (disch:=first|omega|simp only[vl];omega) only [vcd]
    cases ez:(glue [32] (arW m m.length) == [])
    ·simp (disch:=first|omega|simp only[vl];omega) only [vcd,ez]
     simp [fmaF,hm,h0]
    ·simp (disch:=first|omega|simp only[vl];omega) only [vcd,ez]
     simp [fmaF,hm,h0]
def prT:List Nat→List Int→List Nat→Nat→Nat→List Int
 | [],out,_,_,_=>out
 | c::w,out,st,n,k=>if c=117 then prT w out (n::st) (n+1) k else prT w (seI out (st.headD 0:Nat) k) st.tail n (k+1)
def perF (w:List Nat):List Int:=prT w (rep (w.length / 2:Nat) 0) [] 0 0
theorem prT_len:∀ {w:List Nat} {out:List Int} {st:List Nat} {n k:Nat},(prT w out st n k).length=out.length
 | [],_,_,_,_=>rfl
 | c::w,out,st,n,k=>by
  rw [prT]
  split
  ·exact prT_len
  ·rw [prT_len,seI_len]
theorem perF_len {w:List Nat}:(perF w).length=w.length / 2:=by rw [perF,prT_len,rep_len]; omega
theorem prT_bd:∀ {w:List Nat} {out:List Int} {st:List Nat} {n k:Nat},(∀ x∈out,0≤x∧x<k+w.length+1)→∀ x∈prT w out st n k,0≤x∧x<k+w.length+1
 | [],_,_,_,_,h=>h
 | c::w,out,st,n,k,h=>by
  simp only [qlc] at h ⊢
  rw [prT]
  split
  ·intro x hx
   have:=prT_bd (w:=w) (out:=out) (st:=n::st) (n:=n+1) (k:=k+1)
   have h2:∀ (w:List Nat) (out:List Int) (st:List Nat) (n k b:Nat),(∀ x∈out,0≤x∧x<(b:Int))→k+w.length≤b→∀ x∈prT w out st n k,0≤x∧x<(b:Int):=by
    intro w
    induction w with
    | nil=>intro out st n k b h _; exact h
    | cons c w ih=>
     intro out st n k b h hb
     simp only [qlc] at hb
     rw [prT]
     split
     ·exact ih _ _ _ _ _ h (by omega)
     ·refine ih _ _ _ _ _ (fun x hx=>?_) (by omega)
      rcases List.mem_or_eq_of_mem_set hx with q | q
      ·exact h x q
      ·omega
   have:=h2 w out (n::st) (n+1) k (k+(w.length+1)+1) (fun x hx=>by have:=h x hx; omega) (by omega) x hx
   omega
  ·intro x hx
   have h2:∀ (w:List Nat) (out:List Int) (st:List Nat) (n k b:Nat),(∀ x∈out,0≤x∧x<(b:Int))→k+w.length≤b→∀ x∈prT w out st n k,0≤x∧x<(b:Int):=by
    intro w
    induction w with
    | nil=>intro out st n k b h _; exact h
    | cons c w ih=>
     intro out st n k b h hb
     simp only [qlc] at hb
     rw [prT]
     split
     ·exact ih _ _ _ _ _ h (by omega)
     ·refine ih _ _ _ _ _ (fun x hx=>?_) (by omega)
      rcases List.mem_or_eq_of_mem_set hx with q | q
      ·exact h x q
      ·omega
   have:=h2 w (seI out (st.headD 0:Nat) k) st.tail n (k+1) (k+(w.length+1)+1) (fun x hx=>by
    rcases List.mem_or_eq_of_mem_set hx with q | q
    ·have:=h x q; omega
    ·omega) (by omega) x hx
   omega
theorem mem_atI {l:List Int} {j:Nat} (h:j<l.length):atI l j∈l:=by simp [atI,h]
theorem perF_bd {w:List Nat} (hl:w.length≤16) (j:Nat):0≤atI (perF w) j∧atI (perF w) j≤16:=by
 rcases qlg j (perF w).length with q | q
 ·have:=prT_bd (w:=w) (out:=rep (w.length / 2:Nat) 0) (st:=[]) (n:=0) (k:=0) (fun x hx=>by
   simp only [rep,List.mem_replicate] at hx; omega) (atI (perF w) j) (mem_atI q)
  omega
 ·have e:atI (perF w) j=0:=by simp [atI,q]
  omega
def nI (st:List Nat):List Int:=(st.map fun (j:Nat)=>(j:Int)).reverse
theorem nI_cons {j:Nat} {t:List Nat}:nI (j::t)=nI t++[(j:Int)]:=by simp [nI]
theorem nI_len {t:List Nat}:(nI t).length=t.length:=by simp [nI]
structure PQ (w:List Nat) (i:Nat) (x:List Int×List Nat×Nat×Nat):Prop where
 v:prT (w.drop i) x.1 x.2.1 x.2.2.1 x.2.2.2=perF w
 l:x.1.length=w.length / 2
 s:(x.2.1.length:Int)=Hh w i
 n:x.2.2.1=uix w i
 b:∀ j∈x.2.1,j<x.2.2.1
 k:x.2.2.2≤i
theorem PQ_0 {w:List Nat}:PQ w 0 (rep (w.length / 2:Nat) 0,[],0,0):=
 ⟨by simp [perF],by rw [rep_len]; omega,by simp [Hh_0],by simp [uix,cnt],by simp,by simp⟩
theorem PQ_u {w:List Nat} {i:Nat} {out:List Int} {st:List Nat} {n k:Nat} (h:PQ w i (out,st,n,k)) (hi:i<w.length) (hu:atB w i=117):PQ w (i+1) (out,n::st,n+1,k):=by
 obtain ⟨h1,h2,h3,h4,h5,h6⟩:=h
 simp only at h1 h2 h3 h4 h5 h6
 rw [dropB hi,prT,if_pos hu] at h1
 have h7:=Hh_up hi hu
 have h8:=uix_s hi
 rw [if_pos hu] at h8
 refine ⟨h1,h2,by simp only [qlc]; omega,by simp only; omega,fun j hj=>?_,by simp only; omega⟩
 rcases qmn.1 hj with q | q
 ·simp only; omega
 ·have:=h5 j q; simp only; omega
theorem PQ_d {w:List Nat} {i:Nat} {out:List Int} {j:Nat} {t:List Nat} {n k:Nat} (h:PQ w i (out,j::t,n,k)) (hi:i<w.length) (hu:atB w i=100):PQ w (i+1) (seI out (j:Nat) k,t,n,k+1):=by
 obtain ⟨h1,h2,h3,h4,h5,h6⟩:=h
 simp only [qlc] at h1 h2 h3 h4 h5 h6
 rw [dropB hi,prT,if_neg (by omega)] at h1
 have h7:=Hh_dn hi hu
 have h8:=uix_s hi
 rw [if_neg (by omega)] at h8
 exact ⟨h1,by simp only [seI_len]; exact h2,by simp only; omega,by simp only; omega,fun j hj=>h5 j (qmc _ hj),by simp only; omega⟩
theorem pof_i [HA K] {w:List Nat} (hd:dyck w=true):K 539 [.s w] [LI (perF w),.b true]:=by
 have hD:=DY_of hd
 have hl:=hD.l
 have hu8:=uix_all hd
 refine body_by (f:=ir_impl_PermutationOf) rfl ?_; simp only [ir_impl_PermutationOf,zn,zs,zq,zi,zg,zp]
 simp (disch:=first|omega|simp only[vl];omega) only [vcd]
 repeat (first | (refine call_by (dyck_i (K:=K) (w:=w) (by omega)) rfl ?_; try simp (disch:=first|omega|simp only[vl];omega) only [vcd,hd]))
 have eh:((w.length:Int) / 2)=((w.length / 2:Nat):Int):=by omega
 simp (disch:=first|omega|simp only[vl];omega) only [vcd,eh,LI_nil]
 refine loop_up (fun i (x:List Int×List Nat×Nat×Nat)=>PQ w i x) (fun i x=>[.s w,.u,.u,LI x.1,LI (nI x.2.1),.n x.2.2.1,.n x.2.2.2,.n i,.u,.u,.u]) w.length (rep (w.length / 2:Nat) 0,[],0,0) PQ_0 rfl (fun i x hi hP=>?_) (fun x hP=>?_)
 ·obtain ⟨out,st,n,k⟩:=x
  have hs:=hP.s
  have hn:=hP.n
  have hb:=hP.b
  have ho:=hP.l
  have hk:=hP.k
  have h1:=hD.h0 (i+1) (by omega)
  have hui:=uix_s hi
  have hul:=uix_mono (w:=w) (a:=i+1) (b:=w.length) (by omega) (by omega)
  simp only at hs hn hb ho hk
  have hnl:=nI_len (t:=st)
  rcases hD.ud i hi with hu | hu
  ·rw [if_pos hu] at hui
   have hH:=Hh_bd (w:=w) (i:=i)
   simp (disch:=first|omega|simp only[vl];omega) only [vcd,hu]
   exact ⟨(out,n::st,n+1,k),PQ_u hP hi hu,by simp [nI_cons]⟩
  ·have eh2:=Hh_dn hi hu
   rw [if_neg (by omega)] at hui
   cases st with
   | nil=>simp at hs; omega
   | cons j t=>
    have hj:=hb j (by simp)
    have hnt:=nI_len (t:=t)
    have f1:atI (nI t++[(j:Int)]) t.length=j:=by rw [← hnt]; exact at_last
    have f2:sub (nI t++[(j:Int)]) 0 t.length=nI t:=by rw [← hnt]; exact sub_init
    have f3:(((nI t++[(j:Int)]).length:Nat):Int)=(t.length:Int)+1:=by simp [nI]
    have hH:=Hh_bd (w:=w) (i:=i)
    simp only [qlc] at hs
    simp only [nI_cons]
    simp (disch:=first|omega|simp only[vl];omega) only [vcd,hu,f3,qas,f1,f2]
    exact ⟨(seI out (j:Nat) k,t,n,k+1),PQ_d hP hi hu,by simp⟩
 ·have hv:=hP.v
  obtain ⟨out,st,n,k⟩:=x
  rw [List.drop_length] at hv
  simp only [prT] at hv
  simp (disch:=first|omega|simp only[vl];omega) only [vcd]
  rw [hv]
theorem pof_s [HA K] {w:List Nat} (hd:dyck w=true):K 325 [.s w] [LI (perF w),.b true]:=by
 have hD:=DY_of hd
 have hl:=hD.l
 have hu8:=uix_all hd
 refine body_by (f:=ir_spec_PermutationOf) rfl ?_; simp only [ir_spec_PermutationOf,zn,zs,zq,zi,zg,zp]
 simp (disch:=first|omega|simp only[vl];omega) only [vcd]
 repeat (first | (refine call_by (dyck_s (K:=K) (w:=w) (by omega)) rfl ?_; try simp (disch:=first|omega|simp only[vl];omega) only [vcd,hd]))
 have eh:((w.length:Int) / 2)=((w.length / 2:Nat):Int):=by omega
 simp (disch:=first|omega|simp only[vl];omega) only [vcd,eh,LI_nil]
 refine loop_up (fun i (x:List Int×List Nat×Nat×Nat)=>PQ w i x) (fun i x=>[.s w,.u,.u,LI x.1,LI (nI x.2.1),.n x.2.2.1,.n x.2.2.2,.n i,.u,.u,.u]) w.length (rep (w.length / 2:Nat) 0,[],0,0) PQ_0 rfl (fun i x hi hP=>?_) (fun x hP=>?_)
 ·obtain ⟨out,st,n,k⟩:=x
  have hs:=hP.s
  have hn:=hP.n
  have hb:=hP.b
  have ho:=hP.l
  have hk:=hP.k
  have h1:=hD.h0 (i+1) (by omega)
  have hui:=uix_s hi
  have hul:=uix_mono (w:=w) (a:=i+1) (b:=w.length) (by omega) (by omega)
  simp only at hs hn hb ho hk
  have hnl:=nI_len (t:=st)
  rcases hD.ud i hi with hu | hu
  ·rw [if_pos hu] at hui
   have hH:=Hh_bd (w:=w) (i:=i)
   simp (disch:=first|omega|simp only[vl];omega) only [vcd,hu]
   exact ⟨(out,n::st,n+1,k),PQ_u hP hi hu,by simp [nI_cons]⟩
  ·have eh2:=Hh_dn hi hu
   rw [if_neg (by omega)] at hui
   cases st with
   | nil=>simp at hs; omega
   | cons j t=>
    have hj:=hb j (by simp)
    have hnt:=nI_len (t:=t)
    have f1:atI (nI t++[(j:Int)]) t.length=j:=by rw [← hnt]; exact at_last
    have f2:sub (nI t++[(j:Int)]) 0 t.length=nI t:=by rw [← hnt]; exact sub_init
    have f3:(((nI t++[(j:Int)]).length:Nat):Int)=(t.length:Int)+1:=by simp [nI]
    have hH:=Hh_bd (w:=w) (i:=i)
    simp only [qlc] at hs
    simp only [nI_cons]
    simp (disch:=first|omega|simp only[vl];omega) only [vcd,hu,f3,qas,f1,f2]
    exact ⟨(seI out (j:Nat) k,t,n,k+1),PQ_d hP hi hu,by simp⟩
 ·have hv:=hP.v
  obtain ⟨out,st,n,k⟩:=x
  rw [List.drop_length] at hv
  simp only [prT] at hv
  simp (disch:=first|omega|simp only[vl];omega) only [vcd]
  rw [hv]
end Go.Cat
