/-
 Texts of plane trees, partitions, matchings; permutations of paths.
-/
import Derived.Test.YtdaefhflccndlaaGreatPfPLine
import Derived.Test.YtdaefhflccndlaaGreatPfMach
import Derived.Test.YtdaefhflccndlaaGreatIrHas
set_option linter.unusedSimpArgs false
set_option linter.unusedVariables false
namespace Go.Cat
variable {K:Nat→List D→List D→Prop}
theorem glT_app {sep:List Nat} {ws:List (List Nat)} {x:List Nat}:∀ {i:Nat},i≤ws.length→glT sep (ws++[x]) i=glT sep ws i
 | 0,_=>rfl
 | i+1,h=>by
  have e:atS (ws++[x]) i=atS ws i:=by
   simp only [atS,qtn,qgd]
   rw [qgl (by omega)]
  rw [glT,glT,glT_app (by omega),e]
theorem glue_snoc {sep:List Nat} {ws:List (List Nat)} {x:List Nat}:glue sep (ws++[x])=glue sep ws++(if 0<ws.length then sep else [])++x:=by
 have e:atS (ws++[x]) ws.length=x:=by simp [atS]
 rw [glue,qla,qlc,qln,Nat.zero_add,glT,glT_app (Nat.le_refl _),e]
 rfl
theorem glue_len {sep:List Nat} {ws:List (List Nat)} {b:Nat} (h:∀ x∈ws,x.length≤b):(glue sep ws).length≤ws.length*(b+sep.length):=glT_len h ws.length
def rwT (r:List Int):Nat→List Nat
 | 0=>[]
 | i+1=>rwT r i++fmtI (atI r i+1)
theorem rwT_len {r:List Int} (h:∀ j:Nat,j<r.length→0≤atI r j∧atI r j≤100):∀ i,i≤r.length→(rwT r i).length≤i*20
 | 0,_=>by simp [rwT]
 | i+1,hi=>by
  have h1:=rwT_len h i (by omega)
  have h2:=h i (by omega)
  have h3:=fmt_len (n:=atI r i+1) (by omega)
  simp only [rwT,qla]; omega
theorem blF_el {p:List Int}:∀ {i:Nat} {r:List Int},r∈blF p i→∀ x∈r,0≤x∧x<i
 | 0,r,h=>by simp [blF] at h
 | i+1,r,h=>by
  have ho:∀ r∈(if atI p i=(blF p i).length then blF p i++[[]] else blF p i),∀ x∈r,0≤x∧x<i:=by
   intro r hr
   split at hr
   ·rcases qma.1 hr with q | q
    ·exact blF_el q
    ·simp at q; subst q; simp
   ·exact blF_el hr
  simp only [blF,seL] at h
  intro x hx
  rcases List.mem_or_eq_of_mem_set h with q | q
  ·have:=ho _ q x hx; omega
  ·subst q
   rcases qma.1 hx with hx | hx
   ·have key:∀ x∈(atL (if atI p i=(blF p i).length then blF p i++[[]] else blF p i) (atI p i)),0≤x∧x<i:=by
     simp only [atL]
     rcases qlg (atI p i).toNat (if atI p i=(blF p i).length then blF p i++[[]] else blF p i).length with q | q
     ·rw [qgd,qge q]
      exact ho _ (List.getElem_mem q)
     ·rw [qgd,qgn q]; simp
    have:=key x hx; omega
   ·simp only [List.mem_singleton] at hx; omega
def ptB (p:List Int):List (List Int):=if isPt p=true then blF p p.length else []
theorem ptB_len {p:List Int}:(ptB p).length≤8:=by
 unfold ptB
 split
 ·rename_i h
  simp only [isPt,qba,qde] at h
  have h1:=blF_len h.2
  have h2:=nxF_bd h.2
  omega
 ·simp
theorem ptB_row {p:List Int} {r:List Int} (h:r∈ptB p):r.length≤8∧∀ j:Nat,j<r.length→0≤atI r j∧atI r j≤100:=by
 unfold ptB at h
 split at h
 ·rename_i hp
  simp only [isPt,qba,qde] at hp
  have h1:=blF_row h
  have h2:=blF_el h
  refine ⟨by omega,fun j hj=>?_⟩
  have:=h2 (atI r j) (by simp [atI,hj])
  omega
 ·cases h
theorem atL_memW {b:List (List Int)} {i:Nat} (h:i<b.length):atL b i∈b:=by simp [atL,h]
def ptW (p:List Int):List (List Nat):=(ptB p).map fun r=>rwT r r.length
def fptF (p:List Int):List Nat:=glue [124] (ptW p)
theorem ptW_take {p:List Int} {i:Nat} (h:i<(ptB p).length):(ptW p).take (i+1)=(ptW p).take i++[rwT (atL (ptB p) i) (atL (ptB p) i).length]:=by
 rw [qta (by simpa [ptW] using h)]; simp [ptW,atL,h]
theorem ptW_len {p:List Int}:(ptW p).length=(ptB p).length:=by simp [ptW]
theorem ptW_b {p:List Int}:∀ x∈ptW p,x.length≤160:=by
 intro x hx
 obtain ⟨r,hr,rfl⟩:=List.mem_map.1 hx
 obtain ⟨h1,h2⟩:=ptB_row hr
 have:=rwT_len h2 r.length (Nat.le_refl _)
 omega
theorem fpt_i [HA K] {p:List Int} (h:p.length≤1048576):K 537 [LI p] [.s (fptF p)]:=by
 have hbl:=ptB_len (p:=p)
 have hw:=ptW_len (p:=p)
 have kb:=blk_i (K:=K) (p:=p) (by omega)
 rw [show (if isPt p=true then blF p p.length else [])=ptB p from rfl] at kb
 refine body_by (f:=ir_impl_FormatPartition) rfl ?_; simp only [ir_impl_FormatPartition,zn,zs,zq,zi,zg,zp]
 simp (disch:=first|omega|simp only[vl];omega) only [vcd]
 refine call_by (kb) rfl ?_
 simp (disch:=first|omega|simp only[vl];omega) only [vcd]
 rw [LS_nilT]
 refine loop_ix (fun _=>True) (fun i=>[.u,.u,LS ((ptW p).take i),.u,.u,.u,LL (ptB p),.n (ptB p).length,.n i,.u,.u,.u,.u,.u]) (ptB p).length trivial (by simp) (fun i hi _=>?_) (fun _=>?_)
 ·have ht:((ptW p).take i).length=i:=by simp; omega
  obtain ⟨r1,r2⟩:=ptB_row (atL_memW hi)
  rw [ptW_take hi]
  simp (disch:=first|omega|simp only[vl];omega) only [vcd]
  generalize atL (ptB p) i=r at r1 r2 ⊢
  refine loop_ix (fun _=>True) (fun j=>[.u,.u,LS ((ptW p).take i),.u,.s (rwT r j),.u,LL (ptB p),.n (ptB p).length,.n i,.u,LI r,.n r.length,.n j,.u]) r.length trivial rfl (fun j hj _=>?_) (fun _=>?_)
  ·have h2:=r2 j hj
   have h3:=rwT_len r2 j (by omega)
   have h4:=fmt_len (n:=atI r j+1) (by omega)
   simp (disch:=first|omega|simp only[vl];omega) only [vcd]
   refine call_by (fmt_i (K:=K) (n:=atI r j+1) (by omega)) rfl ?_
   simp (disch:=first|omega|simp only[vl];omega) only [vcd]
   rfl
  ·simp (disch:=first|omega|simp only[vl];omega) only [vcd]
 ·rw [List.take_of_length_le (by omega)]
  have kg:=glued_ok (K:=K) (ws:=ptW p) (sep:=[124]) (by omega) (fun x hx=>by have:=ptW_b x hx; omega) (by simp)
  simp (disch:=first|omega|simp only[vl];omega) only [vcd]
  refine call_by (kg) rfl ?_
  simp (disch:=first|omega|simp only[vl];omega) only [vcd]
  rfl
def arW (m:List Int):Nat→List (List Nat)
 | 0=>[]
 | i+1=>if (i:Int)<atI m i then arW m i++[fmtI i++[45]++fmtI (atI m i)] else arW m i
def fmaF (m:List Int):List Nat:=if matF m=true then (if m.length=0 then [110,111,110,101] else glue [32] (arW m m.length)) else []
theorem arW_len {m:List Int}:∀ i,(arW m i).length≤i
 | 0=>by simp [arW]
 | i+1=>by
  have:=arW_len (m:=m) i
  unfold arW
  split
  ·simp; omega
  ·omega
theorem arW_b {m:List Int} (h:matF m=true):∀ i,i≤m.length→∀ x∈arW m i,x.length≤41
 | 0,_,x,hx=>by simp [arW] at hx
 | i+1,hi,x,hx=>by
  unfold arW at hx
  split at hx
  ·rcases qma.1 hx with q | q
   ·exact arW_b h i (by omega) x q
   ·simp only [List.mem_singleton] at q
    obtain ⟨h1,h2⟩:=matF_t h
    have h3:=inR_iff.1 (h2 i (by omega)).1
    have f1:=fmt_len (n:=(i:Int)) (by omega)
    have f2:=fmt_len (n:=atI m i) (by omega)
    rw [q]
    simp only [qla,qlc,qln]; omega
  ·exact arW_b h i (by omega) x hx
theorem fma_i [HA K] {m:List Int} (h:m.length≤1048576):K 538 [LI m] [.s (fmaF m)]:=by
 refine body_by (f:=ir_impl_FormatMatching) rfl ?_; simp only [ir_impl_FormatMatching,zn,zs,zq,zi,zg,zp]
 simp (disch:=first|omega|simp only[vl];omega) only [vcd]
 refine call_by (match_i (K:=K) (m:=m) (by omega)) rfl ?_
 cases hm:matF m
 ·simp (disch:=first|omega|simp only[vl];omega) only [vcd]
  simp [fmaF,hm]
 ·obtain ⟨h1,h2⟩:=matF_t hm
  by_cases h0:m.length=0
  ·simp (disch:=first|omega|simp only[vl];omega) only [vcd,h0]
   simp [fmaF,hm,h0]
  ·simp (disch:=first|omega|simp only[vl];omega) only [vcd]
   rw [LS_nilT]
   refine loop_ix (fun _=>True) (fun i=>[.u,.u,LS (arW m i),.u,.u,.u,.u,LI m,.n m.length,.n i,.u,.u]) m.length trivial rfl (fun i hi _=>?_) (fun _=>?_)
   ·have hl:=arW_len (m:=m) i
    have h3:=inR_iff.1 (h2 i hi).1
    have f1:=fmt_len (n:=(i:Int)) (by omega)
    have f2:=fmt_len (n:=atI m i) (by omega)
    by_cases q:(i:Int)<atI m i
    ·have e:arW m (i+1)=arW m i++[fmtI i++[45]++fmtI (atI m i)]:=by rw [arW,if_pos q]
     rw [e]
     simp (disch:=first|omega|simp only[vl];omega) only [vcd]
     refine call_by (fmt_i (K:=K) (n:=(i:Int)) (by omega)) rfl ?_
     simp (disch:=first|omega|simp only[vl];omega) only [vcd]
     refine call_by (fmt_i (K:=K) (n:=atI m i) (by omega)) rfl ?_
     simp (disch:=first|omega|simp only[vl];omega) only [vcd]
    ·have e:arW m (i+1)=arW m i:=by rw [arW,if_neg q]
     rw [e]
     simp (disch:=first|omega|simp only[vl];omega) only [vcd]
   ·have hl:=arW_len (m:=m) m.length
    have kg:=glued_ok (K:=K) (ws:=arW m m.length) (sep:=[32]) (by omega) (fun x hx=>by have:=arW_b hm m.length (Nat.le_refl _) x hx; omega) (by simp)
    simp (disch:=first|omega|simp only[vl];omega) only [vcd]
    refine call_by (kg) rfl ?_
    simp (disch:=first|omega|simp only[vl];omega) only [vcd]
    simp [fmaF,hm,h0]
end Go.Cat
