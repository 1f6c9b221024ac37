/-
 Partitions of a path: blocks, numbers of blocks.
-/
import Derived.Test.YtjbonmaggidboaaPfStat
import Derived.Test.YtjbonmaggidboaaPfMatP
import Derived.Test.YtjbonmaggidboaaPfClaim
import Derived.Test.YtjbonmaggidboaaIrHas
set_option linter.unusedSimpArgs false
set_option linter.unusedVariables false
namespace Go.Cat
variable {K:Nat→List D→List D→Prop}
def nxF (p:List Int):Nat→Int
 | 0=>0
 | i+1=>max (nxF p i) (atI p i+1)
def ptV (p:List Int) (i:Nat):Prop:=∀ j:Nat,j<i→inR 0 (nxF p j) (atI p j)=true
instance {p:List Int} {i:Nat}:Decidable (ptV p i):=by unfold ptV; infer_instance
def isPt (p:List Int):Bool:=decide (p.length≤8)&&decide (ptV p p.length)
theorem nxF_bd {p:List Int}:∀ {i:Nat},ptV p i→0≤nxF p i∧nxF p i≤i
 | 0,_=>by simp [nxF]
 | i+1,h=>by
  have h1:=nxF_bd (p:=p) (i:=i) fun j hj=>h j (by omega)
  have h2:=inR_iff.1 (h i (by omega))
  simp only [nxF]; omega
theorem isPt_f {p:List Int} (h:¬ ptV p p.length):isPt p=false:=by simp [isPt,h]
theorem pt_i [HA K] {p:List Int} (h:p.length≤1099511627776):K 478 [LI p] [.b (isPt p)]:=by
 refine body_by (f:=ir_impl_IsPartition) rfl ?_; simp only [ir_impl_IsPartition,zn,zs,zq,zi,zg,zp]
 by_cases hl:p.length≤8
 ·simp (disch:=omega) only [vcd]
  refine loop_ix (fun i=>ptV p i) (fun i=>[.u,.u,.n (nxF p i),.u,.u,LI p,.n p.length,.n i,.u,.u]) p.length (by simp [ptV]) rfl (fun i hi hP=>?_) (fun hP=>?_)
  ·have hb:=nxF_bd hP
   simp (disch:=omega) only [vcd]
   refine call_by (within_ok (K:=K)) rfl ?_
   cases hr:inR 0 (nxF p i) (atI p i)
   ·simp (disch:=omega) only [vcd]
    rw [isPt_f fun q=>by have:=q i hi; rw [hr] at this; cases this]
   ·have:=inR_iff.1 hr
    simp (disch:=omega) only [vcd]
    refine ⟨all_s hP hr,?_⟩
    simp only [nxF]
  ·simp (disch:=omega) only [vcd]
   simp [isPt,hl,hP]
 ·simp (disch:=omega) only [vcd]
  simp [isPt,hl]
theorem pt_s [HA K] {p:List Int} (h:p.length≤1099511627776):K 324 [LI p] [.b (isPt p)]:=by
 refine body_by (f:=ir_spec_IsPartition) rfl ?_; simp only [ir_spec_IsPartition,zn,zs,zq,zi,zg,zp]
 simp (disch:=omega) only [vcd]
 refine loop_ix (fun i=>ptV p i) (fun i=>[LI p,.u,.n (nxF p i),.n i,.u,.u,.u]) p.length (by simp [ptV]) rfl (fun i hi hP=>?_) (fun hP=>?_)
 ·have hb:=nxF_bd hP
  simp (disch:=omega) only [vcd]
  refine call_by (l1In_ok (K:=K)) rfl ?_
  cases hr:inR 0 (nxF p i) (atI p i)
  ·simp (disch:=omega) only [vcd]
   rw [isPt_f fun q=>by have:=q i hi; rw [hr] at this; cases this]
  ·have:=inR_iff.1 hr
   by_cases he:atI p i=nxF p i
   ·have e:nxF p (i+1)=nxF p i+1:=by simp only [nxF]; omega
    rw [e]
    simp (disch:=omega) only [vcd]
    exact all_s hP hr
   ·have e:nxF p (i+1)=nxF p i:=by simp only [nxF]; omega
    rw [e]
    simp (disch:=omega) only [vcd]
    exact all_s hP hr
 ·simp (disch:=omega) only [vcd]
  simp [isPt,hP]
  omega
def blF (p:List Int):Nat→List (List Int)
 | 0=>[]
 | i+1=>
  let o:=if atI p i=(blF p i).length then blF p i++[[]] else blF p i
  seL o (atI p i) (atL o (atI p i)++[(i:Int)])
theorem blF_len {p:List Int}:∀ {i:Nat},ptV p i→((blF p i).length:Int)=nxF p i
 | 0,_=>rfl
 | i+1,h=>by
  have h1:=blF_len (p:=p) (i:=i) fun j hj=>h j (by omega)
  have h2:=inR_iff.1 (h i (by omega))
  simp only [blF,nxF,seL_len]
  split
  ·simp only [qla,qlc,qln]; omega
  ·omega
theorem blF_row {p:List Int}:∀ {i:Nat} {r:List Int},r∈blF p i→r.length≤i
 | 0,r,h=>by simp [blF] at h
 | i+1,r,h=>by
  have ho:∀ r∈(if atI p i=(blF p i).length then blF p i++[[]] else blF p i),r.length≤i:=by
   intro r hr
   split at hr
   ·rcases qma.1 hr with q | q
    ·exact blF_row q
    ·simp at q; subst q; simp
   ·exact blF_row hr
  simp only [blF,seL] at h
  rcases List.mem_or_eq_of_mem_set h with q | q
  ·have:=ho _ q; omega
  ·subst q
   have:(atL (if atI p i=(blF p i).length then blF p i++[[]] else blF p i) (atI p i)).length≤i:=by
    simp only [atL]
    rcases qlg (atI p i).toNat (if atI p i=(blF p i).length then blF p i++[[]] else blF p i).length with q | q
    ·rw [qgd,qge q]
     exact ho _ (List.getElem_mem q)
    ·rw [qgd,qgn q]; simp
   simp only [qla,qlc,qln]; omega
theorem LL_nilB:D.l []=LL []:=rfl
theorem LL_appB {a b:List (List Int)} (h:a.length+b.length≤1099511627776):appD false (LL a) (LL b)=some (LL (a++b)):=LL_app ⟨h,rfl⟩
theorem ll_1n:liD [D.l []]=some (LL [[]]):=rfl
theorem blk_i [HA K] {p:List Int} (h:p.length≤1099511627776):K 479 [LI p] [LL (if isPt p=true then blF p p.length else [])]:=by
 refine body_by (f:=ir_impl_BlocksOf) rfl ?_; simp only [ir_impl_BlocksOf,zn,zs,zq,zi,zg,zp]
 simp (disch:=first|omega|simp only[vl];omega) only [vcd]
 refine call_by (pt_i (K:=K) h) rfl ?_
 cases hp:isPt p
 ·simp (disch:=first|omega|simp only[vl];omega) only [vcd]
  rfl
 ·have hv:ptV p p.length∧p.length≤8:=by simp [isPt] at hp; exact ⟨hp.2,hp.1⟩
  obtain ⟨hv,h8⟩:=hv
  simp (disch:=first|omega|simp only[vl];omega) only [vcd]
  rw [LL_nilB]
  refine loop_ix (fun _=>True) (fun i=>[.u,.u,LL (blF p i),.u,.u,.u,LI p,.n p.length,.n i,.u,.u]) p.length trivial rfl (fun i hi _=>?_) (fun _=>?_)
  ·have hvi:ptV p i:=fun j hj=>hv j (by omega)
   have hl:=blF_len hvi
   have hb:=nxF_bd hvi
   have hr:=inR_iff.1 (hv i hi)
   by_cases he:atI p i=(blF p i).length
   ·obtain ⟨o,ho⟩:∃ o,o=blF p i++[[]]:=⟨_,rfl⟩
    have e:blF p (i+1)=seL o (atI p i) (atL o (atI p i)++[(i:Int)]):=by
     rw [ho]; simp only [blF]; rw [if_pos he]
    have hol:o.length=(blF p i).length+1:=by rw [ho]; simp
    have hrow:(atL o (atI p i)).length≤i:=by
     have:atL o (atI p i)=[]:=by rw [ho,he]; simp [atL]
     rw [this]; simp
    rw [e]
    simp (disch:=first|omega|simp only[vl];omega) only [vcd,ll_1n,LL_appB,← ho,sp_ll,jn_ll]
   ·have e:blF p (i+1)=seL (blF p i) (atI p i) (atL (blF p i) (atI p i)++[(i:Int)]):=by
     simp only [blF]; rw [if_neg he]
    have hrow:(atL (blF p i) (atI p i)).length≤i:=by
     obtain ⟨n,hn⟩:=qoz hr.1
     rw [hn]
     exact blF_row (atL_in (i:=n) (by omega))
    rw [e]
    simp (disch:=first|omega|simp only[vl];omega) only [vcd,sp_ll,jn_ll]
  ·simp (disch:=first|omega|simp only[vl];omega) only [vcd]
   all_goals simp
theorem blk_s [HA K] {p:List Int} (h:p.length≤1099511627776):K 302 [LI p] [LL (if isPt p=true then blF p p.length else [])]:=by
 refine body_by (f:=ir_spec_BlocksOf) rfl ?_; simp only [ir_spec_BlocksOf,zn,zs,zq,zi,zg,zp]
 simp (disch:=first|omega|simp only[vl];omega) only [vcd]
 rw [LL_nilB]
 cases hp:isPt p
 ·refine loop_wh (fun (_:Unit)=>True) (fun _=>[LI p,.u,LL [],.n 0,.u,.u]) (fun _=>0) () trivial rfl (fun _ _=>?_)
  by_cases h0:0<p.length
  ·simp (disch:=first|omega|simp only[vl];omega) only [vcd]
   repeat (first | (refine call_by (pt_s (K:=K) h) rfl ?_; try simp (disch:=first|omega|simp only[vl];omega) only [vcd,hp]))
   simp
  ·simp (disch:=first|omega|simp only[vl];omega) only [vcd]
   simp
 ·have hv:ptV p p.length∧p.length≤8:=by simp [isPt] at hp; exact ⟨hp.2,hp.1⟩
  obtain ⟨hv,h8⟩:=hv
  simp only [if_true]
  refine loop_ix (fun _=>True) (fun i=>[LI p,.u,LL (blF p i),.n i,.u,.u]) p.length trivial rfl (fun i hi _=>?_) (fun _=>?_)
  ·have hvi:ptV p i:=fun j hj=>hv j (by omega)
   have hl:=blF_len hvi
   have hb:=nxF_bd hvi
   have hr:=inR_iff.1 (hv i hi)
   by_cases he:atI p i=(blF p i).length
   ·obtain ⟨o,ho⟩:∃ o,o=blF p i++[[]]:=⟨_,rfl⟩
    have e:blF p (i+1)=seL o (atI p i) (atL o (atI p i)++[(i:Int)]):=by
     rw [ho]; simp only [blF]; rw [if_pos he]
    have hol:o.length=(blF p i).length+1:=by rw [ho]; simp
    have hrow:(atL o (atI p i)).length≤i:=by
     have:atL o (atI p i)=[]:=by rw [ho,he]; simp [atL]
     rw [this]; simp
    rw [e]
    simp (disch:=first|omega|simp only[vl];omega) only [vcd]
    repeat (first | (refine call_by (pt_s (K:=K) h) rfl ?_; try simp (disch:=first|omega|simp only[vl];omega) only [vcd,hp]))
    simp (disch:=first|omega|simp only[vl];omega) only [vcd,ll_1n,LL_appB,← ho,sp_ll,jn_ll]
   ·have e:blF p (i+1)=seL (blF p i) (atI p i) (atL (blF p i) (atI p i)++[(i:Int)]):=by
     simp only [blF]; rw [if_neg he]
    have hrow:(atL (blF p i) (atI p i)).length≤i:=by
     obtain ⟨n,hn⟩:=qoz hr.1
     rw [hn]
     exact blF_row (atL_in (i:=n) (by omega))
    rw [e]
    simp (disch:=first|omega|simp only[vl];omega) only [vcd]
    repeat (first | (refine call_by (pt_s (K:=K) h) rfl ?_; try simp (disch:=first|omega|simp only[vl];omega) only [vcd,hp]))
  ·simp (disch:=first|omega|simp only[vl];omega) only [vcd]
def ixN:List Int→Int→Nat
 | [],_=>0
 | y::t,x=>if y=x then 0 else ixN t x+1
theorem ixN_le {x:Int}:∀ {l:List Int},ixN l x≤l.length
 | []=>Nat.le_refl _
 | y::t=>by
  have:=ixN_le (x:=x) (l:=t)
  unfold ixN
  split <;> simp <;> omega
theorem ixN_mem {x:Int}:∀ {l:List Int},ixN l x<l.length↔x∈l
 | []=>by simp [ixN]
 | y::t=>by
  have:=ixN_mem (x:=x) (l:=t)
  unfold ixN
  by_cases h:y=x
  ·simp [h]
  ·rw [if_neg h]
   simp only [qlc,Nat.add_lt_add_iff_right,this,qmn]
   constructor
   ·exact fun q=>.inr q
   ·rintro (q | q)
    ·exact absurd q.symm h
    ·exact q
theorem ixN_at {x:Int}:∀ {l:List Int},x∈l→atI l (ixN l x)=x
 | [],h=>by cases h
 | y::t,h=>by
  unfold ixN
  by_cases hy:y=x
  ·rw [if_pos hy]; simp [atI,hy]
  ·rw [if_neg hy]
   have h2:x∈t:=by
    rcases qmn.1 h with q | q
    ·exact absurd q.symm hy
    ·exact q
   have:=ixN_at h2
   simpa [atI] using this
theorem ixN_app {x:Int} {b:List Int}:∀ {a:List Int},x∈a→ixN (a++b) x=ixN a x
 | [],h=>by cases h
 | y::t,h=>by
  simp only [List.cons_append,ixN]
  by_cases hy:y=x
  ·rw [if_pos hy,if_pos hy]
  ·rw [if_neg hy,if_neg hy]
   have h2:x∈t:=by
    rcases qmn.1 h with q | q
    ·exact absurd q.symm hy
    ·exact q
   rw [ixN_app h2]
def nmF2 (l:List Int):Nat→List Int
 | 0=>[]
 | i+1=>if atI l i∈nmF2 l i then nmF2 l i else nmF2 l i++[atI l i]
def rnL (l:List Int):Nat→List Int
 | 0=>[]
 | i+1=>rnL l i++[(ixN (nmF2 l i) (atI l i):Int)]
theorem rnL_len {l:List Int}:∀ i,(rnL l i).length=i
 | 0=>rfl
 | i+1=>by simp [rnL,rnL_len i]
theorem nm_len {l:List Int}:∀ i,(nmF2 l i).length≤i
 | 0=>by simp [nmF2]
 | i+1=>by
  have:=nm_len (l:=l) i
  unfold nmF2
  split
  ·omega
  ·simp; omega
theorem nm_mem {l:List Int} {x:Int}:∀ {i:Nat},x∈nmF2 l i↔∃ k:Nat,k<i∧atI l k=x
 | 0=>by simp [nmF2]
 | i+1=>by
  have ih:=nm_mem (l:=l) (x:=x) (i:=i)
  have key:x∈nmF2 l (i+1)↔x∈nmF2 l i∨atI l i=x:=by
   have e:nmF2 l (i+1)=if atI l i∈nmF2 l i then nmF2 l i else nmF2 l i++[atI l i]:=rfl
   rw [e]
   split
   ·rename_i h
    constructor
    ·exact fun q=>.inl q
    ·rintro (q | q)
     ·exact q
     ·rw [← q]; exact h
   ·simp only [qma,List.mem_singleton]
    constructor
    ·rintro (q | q)
     ·exact .inl q
     ·exact .inr q.symm
    ·rintro (q | q)
     ·exact .inl q
     ·exact .inr q.symm
  rw [key,ih]
  constructor
  ·rintro (⟨k,h1,h2⟩ | h)
   ·exact ⟨k,by omega,h2⟩
   ·exact ⟨i,by omega,h⟩
  ·rintro ⟨k,h1,h2⟩
   rcases qlg k i with q | q
   ·exact .inl ⟨k,q,h2⟩
   ·obtain rfl:k=i:=by omega
    exact .inr h2
theorem rnL_at {l:List Int}:∀ {i k:Nat},k<i→atI (rnL l i) k=ixN (nmF2 l i) (atI l k)
 | 0,k,h=>by omega
 | i+1,k,h=>by
  have hl:=rnL_len (l:=l) i
  have hpre:∀ {x:Int},x∈nmF2 l i→ixN (nmF2 l (i+1)) x=ixN (nmF2 l i) x:=by
   intro x hx
   simp only [nmF2]
   split
   ·rfl
   ·exact ixN_app hx
  rcases qlg k i with q | q
  ·have ih:=rnL_at (l:=l) (i:=i) (k:=k) q
   rw [hpre (nm_mem.2 ⟨k,q,rfl⟩),← ih]
   simp only [rnL,atI,qgd]
   rw [qgl (by simpa [hl] using q)]
  ·obtain rfl:k=i:=by omega
   have e:atI (rnL l (k+1)) k=(ixN (nmF2 l k) (atI l k):Int):=by
    simp only [rnL,atI,qgd,qtn]
    rw [qgr (by omega)]
    simp [hl]
   rw [e]
   by_cases hx:atI l k∈nmF2 l k
   ·rw [hpre hx]
   ·have e2:nmF2 l (k+1)=nmF2 l k++[atI l k]:=by simp only [nmF2]; rw [if_neg hx]
    have e3:∀ (a:List Int),atI l k∉a→ixN (a++[atI l k]) (atI l k)=a.length∧ixN a (atI l k)=a.length:=by
     intro a ha
     induction a with
     | nil=>simp [ixN]
     | cons y t ih=>
      simp only [qmn,not_or] at ha
      have:=ih ha.2
      simp only [List.cons_append,ixN,if_neg (fun q=>ha.1 (Eq.symm q)),qlc,this,and_self]
    rw [e2,(e3 _ hx).1,(e3 _ hx).2]
theorem rn_i [HA K] {l:List Int} (h:l.length≤8):K 475 [LI l] [LI (rnL l l.length),.b true]:=by
 refine body_by (f:=ir_impl_RenumberBlocks) rfl ?_; simp only [ir_impl_RenumberBlocks,zn,zs,zq,zi,zg,zp]
 simp (disch:=first|omega|simp only[vl];omega) only [vcd]
 rw [LI_nilS]
 refine loop_ix (fun _=>True) (fun i=>[LI l,.u,.u,LI (rnL l i),.n (nmF2 l i).length,.u,.u,.u,.u,.u,.u,LI l,.n l.length,.n i,.u,.u,.u,.u,.u,.u,.u]) l.length trivial rfl (fun i hi _=>?_) (fun _=>?_)
 ·have hr:=rnL_len (l:=l) i
  have hn:=nm_len (l:=l) i
  have hsub:(sub l 0 (i:Int)).length=i:=by rw [sub_len]; omega
  have hat:∀ k:Nat,k<i→atI (sub l 0 (i:Int)) k=atI l k:=by
   intro k hk
   simp [atI,sub,qgd,List.getElem?_take,hk]
  obtain ⟨B,hB⟩:∃ B:Nat,B=ixN (nmF2 l i) (atI l i):=⟨_,rfl⟩
  have hBl:B≤(nmF2 l i).length:=by rw [hB]; exact ixN_le
  have e1:rnL l (i+1)=rnL l i++[(B:Int)]:=by simp only [rnL,hB]
  have e2:((nmF2 l (i+1)).length:Int)=if B=(nmF2 l i).length then (nmF2 l i).length+1 else (nmF2 l i).length:=by
   simp only [nmF2]
   by_cases hm:atI l i∈nmF2 l i
   ·have:=ixN_mem.2 hm
    rw [if_pos hm,if_neg (by omega)]
   ·have:¬ ixN (nmF2 l i) (atI l i)<(nmF2 l i).length:=fun q=>hm (ixN_mem.1 q)
    rw [if_neg hm,if_pos (by omega)]
    simp
  rw [e1,e2]
  simp (disch:=first|omega|simp only[vl];omega) only [vcd,hsub]
  refine loop_up (fun k (_:Unit)=>∀ j:Nat,j<k→atI l j≠atI l i) (fun k _=>[LI l,.u,.u,LI (rnL l i),.n (nmF2 l i).length,.u,.n (atI l i),.n (nmF2 l i).length,.u,.u,.u,LI l,.n l.length,.n i,.u,LI (sub l 0 (i:Int)),.n i,.n k,.u,.u,.u]) i () (by simp) rfl (fun k _ hk hP=>?_) (fun _ hP=>?_)
  ·have e3:=hat k hk
   by_cases he:atI l i=atI l k
   ·have e4:=rnL_at (l:=l) hk
    rw [← he,← hB] at e4
    have hmm:atI l i∈nmF2 l i:=nm_mem.2 ⟨k,hk,he.symm⟩
    have:=ixN_mem.2 hmm
    have n23:¬ ((2:Nat)=3):=by omega
    rw [if_neg (by omega)]
    simp (disch:=first|omega|simp only[vl];omega) only [vcd,hsub,e3,e4,if_neg n23]
   ·simp (disch:=first|omega|simp only[vl];omega) only [vcd,hsub,e3]
    exact ⟨(),all_s hP fun q=>he q.symm⟩
  ·have hmm:¬ atI l i∈nmF2 l i:=fun q=>by
    obtain ⟨k,h1,h2⟩:=nm_mem.1 q
    exact hP k h1 h2
   have:¬ ixN (nmF2 l i) (atI l i)<(nmF2 l i).length:=fun q=>hmm (ixN_mem.1 q)
   have hBe:B=(nmF2 l i).length:=by omega
   rw [if_pos hBe]
   simp (disch:=first|omega|simp only[vl];omega) only [vcd]
   rw [hBe]
 ·simp (disch:=first|omega|simp only[vl];omega) only [vcd]
theorem nm_nd {l:List Int}:∀ i,(nmF2 l i).Nodup
 | 0=>by simp [nmF2]
 | i+1=>by
  have ih:=nm_nd (l:=l) i
  have e:nmF2 l (i+1)=if atI l i∈nmF2 l i then nmF2 l i else nmF2 l i++[atI l i]:=rfl
  rw [e]
  split
  ·exact ih
  ·rename_i h
   rw [List.nodup_append]
   refine ⟨ih,by simp,fun a ha b hb=>?_⟩
   rw [List.mem_singleton] at hb
   subst hb
   intro q
   exact h (q ▸ ha)
theorem nd_one {a:List Int} (h:a.Nodup) {j k:Nat} (hj:j<a.length) (hk:k<a.length) (e:atI a j=atI a k):j=k:=by
 have e:a[j]=a[k]:=by simpa [atI,hj,hk] using e
 have hp:=List.pairwise_iff_getElem.1 h
 rcases Nat.lt_trichotomy j k with q | q | q
 ·exact absurd e (hp j k hj hk q)
 ·exact q
 ·exact absurd e.symm (hp k j hk hj q)
theorem rn_s [HA K] {l:List Int} (h:l.length≤1000000):K 323 [LI l] [LI (rnL l l.length)]:=by
 refine body_by (f:=ir_spec_l8Renumber) rfl ?_; simp only [ir_spec_l8Renumber,zn,zs,zq,zi,zg,zp]
 simp (disch:=first|omega|simp only[vl];omega) only [vcd]
 rw [LI_nilS]
 refine loop_ix (fun _=>True) (fun i=>[LI l,.u,LI (rnL l i),LI (nmF2 l i),.n i,.u,.u,.u,.u,.u,.u]) l.length trivial rfl (fun i hi _=>?_) (fun _=>?_)
 ·have hr:=rnL_len (l:=l) i
  have hn:=nm_len (l:=l) i
  obtain ⟨B,hB⟩:∃ B:Nat,B=ixN (nmF2 l i) (atI l i):=⟨_,rfl⟩
  have hBl:B≤(nmF2 l i).length:=by rw [hB]; exact ixN_le
  have e1:rnL l (i+1)=rnL l i++[(B:Int)]:=by simp only [rnL,hB]
  rw [e1]
  simp (disch:=first|omega|simp only[vl];omega) only [vcd]
  refine loop_up (fun k (a:Int)=>(a=-1∧∀ j:Nat,j<k→atI (nmF2 l i) j≠atI l i)∨(a=B∧B<k)) (fun k a=>[LI l,.u,LI (rnL l i),LI (nmF2 l i),.n i,.n a,.n k,.u,.u,.u,.u]) (nmF2 l i).length (-1) (.inl ⟨rfl,by simp⟩) rfl (fun k a hk hP=>?_) (fun a hP=>?_)
  ·by_cases he:atI (nmF2 l i) k=atI l i
   ·have hmm:atI l i∈nmF2 l i:=by rw [← he]; simp [atI,hk]
    have hBk:B=k:=by
     have hb:=ixN_mem.2 hmm
     have ha:=ixN_at hmm
     rw [← hB] at hb ha
     exact nd_one (nm_nd i) hb hk (by rw [ha,he])
    simp (disch:=first|omega|simp only[vl];omega) only [vcd,he]
    exact ⟨_,.inr ⟨by rw [hBk],by omega⟩,rfl⟩
   ·simp (disch:=first|omega|simp only[vl];omega) only [vcd]
    refine ⟨a,?_,rfl⟩
    rcases hP with ⟨h1,h2⟩ | ⟨h1,h2⟩
    ·exact .inl ⟨h1,all_s h2 he⟩
    ·exact .inr ⟨h1,by omega⟩
  ·rcases hP with ⟨rfl,h2⟩ | ⟨rfl,h2⟩
   ·have hmm:atI l i∉nmF2 l i:=fun q=>by
     have hb:=ixN_mem.2 q
     exact h2 _ hb (ixN_at q)
    have hnb:¬ ixN (nmF2 l i) (atI l i)<(nmF2 l i).length:=fun q=>hmm (ixN_mem.1 q)
    have hBe:B=(nmF2 l i).length:=by omega
    have e2:nmF2 l (i+1)=nmF2 l i++[atI l i]:=by simp only [nmF2]; rw [if_neg hmm]
    rw [e2,hBe]
    simp (disch:=first|omega|simp only[vl];omega) only [vcd]
   ·have hmm:atI l i∈nmF2 l i:=ixN_mem.1 (by rw [← hB]; exact h2)
    have e2:nmF2 l (i+1)=nmF2 l i:=by simp only [nmF2]; rw [if_pos hmm]
    rw [e2]
    simp (disch:=first|omega|simp only[vl];omega) only [vcd]
 ·simp (disch:=first|omega|simp only[vl];omega) only [vcd]
def luG (w:List Nat) (g:Nat→Int):Nat→List Int
 | 0=>[]
 | i+1=>if atB w i=117 then luG w g i++[g i] else luG w g i
def uix (w:List Nat) (i:Nat):Nat:=cnt (w.take i) 117
theorem uix_s {w:List Nat} {i:Nat} (h:i<w.length):uix w (i+1)=uix w i+(if atB w i=117 then 1 else 0):=by
 have e:w.take (i+1)=w.take i++[atB w i]:=by
  rw [qta h]; simp [atB,h]
 simp only [uix,e,cnt_app]
 congr 1
 by_cases q:atB w i=117
 ·rw [if_pos q,q]; simp [cnt]
 ·rw [if_neg q]; simp only [cnt,List.count_cons,List.count_nil]
  rw [if_neg]; simpa using q
theorem luG_len {w:List Nat} {g:Nat→Int}:∀ {i:Nat},i≤w.length→(luG w g i).length=uix w i
 | 0,_=>by simp [luG,uix,cnt]
 | i+1,h=>by
  have ih:=luG_len (w:=w) (g:=g) (i:=i) (by omega)
  rw [uix_s (by omega)]
  unfold luG
  split
  ·simp [ih]
  ·simp [ih]
theorem luG_map {w:List Nat} {g g':Nat→Int}:∀ {i:Nat},(∀ a,a<i→atB w a=117→g a=g' a+1)→luG w g i=(luG w g' i).map (·+1)
 | 0,_=>rfl
 | i+1,h=>by
  have ih:=luG_map (w:=w) (i:=i) fun a ha=>h a (by omega)
  simp only [luG]
  split
  ·rename_i hu
   rw [ih,h i (by omega) hu]; simp
  ·exact ih
theorem ixN_map {x:Int}:∀ {l:List Int},ixN (l.map (·+1)) (x+1)=ixN l x
 | []=>rfl
 | y::t=>by
  simp only [List.map_cons,ixN]
  by_cases h:y=x
  ·rw [if_pos h,if_pos (by omega)]
  ·rw [if_neg h,if_neg (by omega),ixN_map]
theorem nm_map {l:List Int}:∀ {i:Nat},i≤l.length→nmF2 (l.map (·+1)) i=(nmF2 l i).map (·+1)
 | 0,_=>rfl
 | i+1,h=>by
  have ih:=nm_map (l:=l) (i:=i) (by omega)
  have e:atI (l.map (·+1)) i=atI l i+1:=by simp [atI,show i<l.length by omega]
  simp only [nmF2,ih,e]
  by_cases hm:atI l i∈nmF2 l i
  ·rw [if_pos hm,if_pos (List.mem_map.2 ⟨_,hm,rfl⟩)]
  ·rw [if_neg hm,if_neg]
   ·simp
   ·intro q
    obtain ⟨y,hy,e2⟩:=List.mem_map.1 q
    have:y=atI l i:=by omega
    exact hm (this ▸ hy)
theorem rn_map {l:List Int}:∀ {i:Nat},i≤l.length→rnL (l.map (·+1)) i=rnL l i
 | 0,_=>rfl
 | i+1,h=>by
  have ih:=rn_map (l:=l) (i:=i) (by omega)
  have e:atI (l.map (·+1)) i=atI l i+1:=by simp [atI,show i<l.length by omega]
  simp only [rnL,ih,e,nm_map (show i≤l.length by omega),ixN_map]
theorem uix_mono {w:List Nat} {a:Nat}:∀ {b:Nat},a≤b→b≤w.length→uix w a≤uix w b
 | 0,h,_=>by obtain rfl:a=0:=by omega
             exact Nat.le_refl _
 | b+1,h,hb=>by
  rcases qlg a (b+1) with q | q
  ·have:=uix_mono (w:=w) (a:=a) (b:=b) (by omega) (by omega)
   rw [uix_s (by omega)]; omega
  ·obtain rfl:a=b+1:=by omega
   exact Nat.le_refl _
theorem uix_all {w:List Nat} (hd:dyck w=true):2*uix w w.length=w.length:=by
 have hD:=DY_of hd
 have hs:steps w=true:=by rw [steps_allud]; exact dy_all hd
 simp only [steps,qde] at hs
 have he:=hD.he
 simp only [Hh,List.take_length] at he
 simp only [uix,List.take_length]
 omega
def drF (w:List Nat) (k:Nat):Nat:=pvF 100 117 (fun _=>1) w k
def pkF2 (w:List Nat) (k:Nat):Nat:=pvF 117 100 (fun _=>1) w k
theorem pv_le {a b:Nat} {w:List Nat}:∀ {i:Nat},pvF a b (fun _=>1) w i≤i
 | 0=>by simp [pvF,sumU]
 | i+1=>by
  have:=pv_le (a:=a) (b:=b) (w:=w) (i:=i)
  simp only [pvF,sumU] at this ⊢
  split <;> omega
theorem pv_alt {w:List Nat} (hd:dyck w=true):∀ {k:Nat},k<w.length→pkF2 w k=drF w k+(if atB w k=100 then 1 else 0)
 | 0,h=>by
  have hD:=DY_of hd
  have h1:=hD.h0 1 (by omega)
  have hu:atB w 0=117:=by
   rcases hD.ud 0 h with q | q
   ·exact q
   ·have:=Hh_dn h q; rw [Hh_0] at this; simp at this; omega
  have e:atB w ((0:Nat):Int)=117:=hu
  rw [if_neg (by omega)]
  rfl
 | k+1,h=>by
  have hD:=DY_of hd
  have ih:=pv_alt hd (k:=k) (by omega)
  have e1:pkF2 w (k+1)=pkF2 w k+(if atB w k=117∧atB w ((k:Int)+1)=100 then 1 else 0):=rfl
  have e2:drF w (k+1)=drF w k+(if atB w k=100∧atB w ((k:Int)+1)=117 then 1 else 0):=rfl
  have e3:((k+1:Nat):Int)=(k:Int)+1:=by omega
  have hk:=hD.ud k (by omega)
  have hk1:=hD.ud (k+1) h
  rw [e3] at hk1 ⊢
  rw [e1,e2,ih]
  rcases hk with hk | hk <;> rcases hk1 with hk1 | hk1 <;> simp [hk,hk1]
theorem rep_atI {n a:Nat}:atI (rep (n:Int) 0) a=0:=by
 simp only [atI,rep,qgd,List.getElem?_replicate]
 split <;> rfl
theorem part_p_i [HA K] {w:List Nat} (hd:dyck w=true):∃ rs,(∃ m,PP w m∧rs=[LI (rnL (luG w (fun a=>(pkF2 w (atI m a).toNat:Int)) w.length) (uix w w.length)),.b true])∧K 503 [.s w] rs:=by
 have hD:=DY_of hd
 have hl:=hD.l
 have hu8:=uix_all hd
 obtain ⟨_,⟨m,rfl,hm⟩,k1⟩:=part_i (K:=K) hd
 have hml:=hm.1
 refine body_ex (f:=ir_impl_PartitionOf) rfl ?_; simp only [ir_impl_PartitionOf,zn,zs,zq,zi,zg,zp]
 simp (disch:=first|omega|simp only[vl];omega) only [vcd]
 repeat (first | (refine call_by (dyck_i (K:=K) (w:=w) (by omega)) rfl ?_; try simp (disch:=first|omega|simp only[vl];omega) only [vcd,hd]))
 refine call_by (k1) rfl ?_
 simp (disch:=first|omega|simp only[vl];omega) only [vcd]
 refine loop_up (fun i (x:List Int)=>x.length=w.length∧∀ a:Nat,a<w.length→a<i+1→atI x a=pkF2 w a) (fun i x=>[.s w,.u,.u,LI m,LI x,.n (pkF2 w i),.n ((i:Int)+1),.u,.u,.u,.u,.u,.u,.u]) (w.length-1) (rep w.length 0) ⟨by simp [rep],fun a h1 h2=>by
  obtain rfl:a=0:=by omega
  rw [rep_atI]; rfl⟩ rfl (fun i x hi hP=>?_) (fun x hP=>?_)
 ·obtain ⟨g1,g2⟩:=hP
  have hb:=pv_le (a:=117) (b:=100) (w:=w) (i:=i)
  have e2:pkF2 w (i+1)=pkF2 w i+(if atB w i=117∧atB w ((i:Int)+1)=100 then 1 else 0):=rfl
  have hb':pkF2 w i≤i:=hb
  have hset:∀ z:Int,z=pkF2 w (i+1)→(seI x ((i:Int)+1) z).length=w.length∧∀ a:Nat,a<w.length→a<i+1+1→atI (seI x ((i:Int)+1) z) a=pkF2 w a:=by
   intro z hz
   refine ⟨by rw [seI_len,g1],fun a h1 h2=>?_⟩
   have e3:((i:Int)+1)=((i+1:Nat):Int):=by omega
   rw [e3,atI_set (by omega)]
   by_cases q:i+1=a
   ·subst q; rw [if_pos rfl,hz]
   ·rw [if_neg q]; exact g2 a h1 (by omega)
  by_cases h1:atB w ((i:Int)+1)=100
  ·by_cases h2:atB w i=117
   ·rw [if_pos ⟨h2,h1⟩] at e2
    simp (disch:=first|omega|simp only[vl];omega) only [vcd,h1,h2,qas]
    refine ⟨_,hset ((pkF2 w i:Int)+1) (by rw [e2]; simp),?_⟩
    rw [e2]; simp
   ·rw [if_neg fun q=>h2 q.1] at e2
    simp (disch:=first|omega|simp only[vl];omega) only [vcd,h1,qas]
    refine ⟨_,hset (pkF2 w i:Int) (by rw [e2]; simp),?_⟩
    rw [e2]; simp
  ·rw [if_neg fun q=>h1 q.2] at e2
   simp (disch:=first|omega|simp only[vl];omega) only [vcd]
   refine ⟨_,hset (pkF2 w i:Int) (by rw [e2]; simp),?_⟩
   rw [e2]; simp
 ·obtain ⟨g1,g2⟩:=hP
  simp (disch:=first|omega|simp only[vl];omega) only [vcd]
  rw [LI_nilS]
  obtain ⟨G,hG⟩:∃ G:Nat→Int,G=fun (a:Nat)=>(pkF2 w (atI m (a:Int)).toNat:Int):=⟨_,rfl⟩
  refine loop_ix (fun _=>True) (fun i=>[.s w,.u,.u,LI m,LI x,.u,.u,LI (luG w G i),.n i,.u,.u,.u,.u,.u]) w.length trivial rfl (fun i hi _=>?_) (fun _=>?_)
  ·have hll:=luG_len (w:=w) (g:=G) (i:=i) (by omega)
   have hmono:=uix_mono (w:=w) (a:=i) (b:=w.length) (by omega) (by omega)
   obtain ⟨b,hb,hq⟩:=hm.2 i hi
   have hbl:b<w.length:=by rcases hq with q | q <;> have:=q.1 <;> have:=q.2.1 <;> omega
   have hxb:=g2 b hbl (by omega)
   have hGi:G i=pkF2 w b:=by rw [hG]; simp only [hb,qtn]
   by_cases hu:atB w i=117
   ·have e:luG w G (i+1)=luG w G i++[(pkF2 w b:Int)]:=by simp only [luG]; rw [if_pos hu,hGi]
    rw [e]
    simp (disch:=first|omega|simp only[vl];omega) only [vcd,hu,hb,hxb]
   ·have e:luG w G (i+1)=luG w G i:=by simp only [luG]; rw [if_neg hu]
    rw [e]
    simp (disch:=first|omega|simp only[vl];omega) only [vcd]
  ·have hll:=luG_len (w:=w) (g:=G) (i:=w.length) (by omega)
   have kr:=rn_i (K:=K) (l:=luG w G w.length) (by omega)
   rw [hll] at kr
   simp (disch:=first|omega|simp only[vl];omega) only [vcd]
   refine call_by (kr) rfl ?_
   simp (disch:=first|omega|simp only[vl];omega) only [vcd]
   exact ⟨m,hm,by rw [hG]⟩
def PB (w:List Nat) (i:Nat) (bl:List Int) (st:List Nat):Prop:=
 SO w st i∧(∀ j∈st,atB w j=117)∧bl.length=w.length / 2∧∀ a k:Nat,a<i→atB w a=117→a∉st→PR w a k→atI bl (uix w a)=drF w k
theorem uix_inj {w:List Nat} {a b:Nat} (ha:a<w.length) (hb:b<w.length) (ua:atB w a=117) (ub:atB w b=117) (h:uix w a=uix w b):a=b:=by
 rcases Nat.lt_trichotomy a b with q | q | q
 ·have h1:=uix_s ha
  rw [if_pos ua] at h1
  have:=uix_mono (w:=w) (a:=a+1) (b:=b) (by omega) (by omega)
  omega
 ·exact q
 ·have h1:=uix_s hb
  rw [if_pos ub] at h1
  have:=uix_mono (w:=w) (a:=b+1) (b:=a) (by omega) (by omega)
  omega
theorem PB_up {w:List Nat} {i:Nat} {bl:List Int} {st:List Nat} (h:PB w i bl st) (hi:i<w.length) (hu:atB w i=117):PB w (i+1) bl (i::st):=by
 obtain ⟨h1,h2,h3,h4⟩:=h
 refine ⟨SO_up h1 hi hu,fun j hj=>?_,h3,fun a k ha hau hn hq=>?_⟩
 ·rcases qmn.1 hj with rfl | q
  ·exact hu
  ·exact h2 j q
 ·have e:a≠i:=fun e=>hn (by rw [e]; exact List.mem_cons_self ..)
  exact h4 a k (by omega) hau (fun q=>hn (qmc _ q)) hq
theorem PB_dn {w:List Nat} {i j:Nat} {bl:List Int} {st:List Nat} (hd:dyck w=true) (h:PB w i bl (j::st)) (hi:i<w.length) (hu:atB w i=100):
  uix w j<w.length / 2∧PB w (i+1) (seI bl (uix w j) (drF w i)) st:=by
 obtain ⟨h1,h2,h3,h4⟩:=h
 obtain ⟨q1,q2⟩:=SO_dn h1 hi hu
 have hj:=q1.1
 have uj:=h2 j (List.mem_cons_self ..)
 have e1:=uix_s (w:=w) (i:=j) (by omega)
 rw [if_pos uj] at e1
 have e2:=uix_mono (w:=w) (a:=j+1) (b:=w.length) (by omega) (by omega)
 have e3:=uix_all hd
 refine ⟨by omega,q2,fun a ha=>h2 a (qmc _ ha),by rw [seI_len,h3],fun a k ha hau hn hq=>?_⟩
 rw [atI_set (by omega)]
 by_cases e:uix w j=uix w a
 ·have ea:j=a:=by
   refine uix_inj (by omega) ?_ uj hau e
   have:=hq.1; have:=hq.2.1; omega
  subst ea
  rw [if_pos rfl,PR_l q1 hq]
 ·rw [if_neg e]
  have hai:a≠i:=fun q=>by rw [q,hu] at hau; omega
  refine h4 a k (by omega) hau (fun q=>?_) hq
  rcases qmn.1 q with q | q
  ·exact e (by rw [q])
  ·exact hn q
def uxI (w:List Nat) (st:List Nat):List Int:=st.map fun (j:Nat)=>(uix w j:Int)
theorem uxI_cons {w:List Nat} {j:Nat} {t:List Nat}:(uxI w (j::t)).reverse=(uxI w t).reverse++[(uix w j:Int)]:=by simp [uxI]
theorem PB_take {w:List Nat} {bl:List Int} {m:List Int} (hd:dyck w=true) (hm:PP w m) (h:PB w w.length bl []):∀ {i:Nat},i≤w.length→bl.take (uix w i)=luG w (fun a=>(drF w (atI m a).toNat:Int)) i
 | 0,_=>by simp [uix,cnt,luG]
 | i+1,hi=>by
  have ih:=PB_take hd hm h (i:=i) (by omega)
  obtain ⟨h1,h2,h3,h4⟩:=h
  have e1:=uix_s (w:=w) (i:=i) (by omega)
  have e2:=uix_mono (w:=w) (a:=i+1) (b:=w.length) (by omega) (by omega)
  have e3:=uix_all hd
  by_cases hu:atB w i=117
  ·rw [if_pos hu] at e1
   simp only [luG]
   rw [if_pos hu,e1,take_snocI (by omega),ih]
   obtain ⟨b,hb,hq⟩:=hm.2 i (by omega)
   have hq:PR w i b:=by
    rcases hq with q | q
    ·exact q
    ·have hd2:=DY_of hd
     have:=q.2.2.1
     have:=Hh_up (i:=i) (by omega) hu
     have:=q.2.2.2 i q.1 (Nat.le_refl _)
     omega
   rw [h4 i b (by omega) hu (by simp) hq,hb]
   simp
  ·rw [if_neg hu] at e1
   simp only [luG]
   rw [if_neg hu,e1,Nat.add_zero,ih]
theorem part_p_s [HA K] {w:List Nat} {m:List Int} (hd:dyck w=true) (hm:PP w m):K 301 [.s w] [LI (rnL (luG w (fun a=>(drF w (atI m a).toNat:Int)) w.length) (uix w w.length)),.b true]:=by
 have hD:=DY_of hd
 have hl:=hD.l
 have hu8:=uix_all hd
 refine body_by (f:=ir_spec_PartitionOf) rfl ?_; simp only [ir_spec_PartitionOf,zn,zs,zq,zi,zg,zp]
 simp (disch:=first|omega|simp only[vl];omega) only [vcd]
 repeat (first | (refine call_by (dyck_s (K:=K) (w:=w) (by omega)) rfl ?_; try simp (disch:=first|omega|simp only[vl];omega) only [vcd,hd]))
 rw [LI_nilS]
 have eh:((w.length:Int) / 2)=((w.length / 2:Nat):Int):=by omega
 simp (disch:=first|omega|simp only[vl];omega) only [vcd,eh]
 refine loop_up (fun i (x:List Int×List Nat×Int)=>PB w i x.1 x.2.1∧(i<w.length→x.2.2=drF w i)) (fun i x=>[.s w,.u,.u,LI x.1,LI (uxI w x.2.1).reverse,.n (uix w i),.n x.2.2,.n i,.u,.u,.u,.u]) w.length (rep (w.length / 2:Nat) 0,[],0) ⟨⟨by simp [SO,Hh_0],by simp,by simp [rep]; omega,by omega⟩,fun _=>by simp [drF,pvF,sumU]⟩ (by simp [uxI,uix,cnt]) (fun i x hi hP=>?_) (fun x hP=>?_)
 ·obtain ⟨bl,st,nx⟩:=x
  obtain ⟨hP,hnx⟩:=hP
  simp only at hP hnx
  have hnx:=hnx hi
  subst hnx
  have hs:=SO_len hP.1
  have hb:=Hh_bd (w:=w) (i:=i)
  have h1:=hD.h0 (i+1) (by omega)
  have hui:=uix_s hi
  have hul:=uix_mono (w:=w) (a:=i) (b:=w.length) (by omega) (by omega)
  have hdb:=pv_le (a:=100) (b:=117) (w:=w) (i:=i)
  have hdb:drF w i≤i:=hdb
  have hxl:((uxI w st).reverse).length=st.length:=by simp [uxI]
  have hxl2:(uxI w st).length=st.length:=by simp [uxI]
  have e2:drF w (i+1)=drF w i+(if atB w i=100∧atB w ((i:Int)+1)=117 then 1 else 0):=rfl
  rcases hD.ud i hi with hu | hu
  ·rw [if_pos hu] at hui
   rw [if_neg (by omega)] at e2
   rw [hui]
   simp (disch:=first|omega|simp only[vl];omega) only [vcd,hu]
   exact ⟨(bl,i::st,(drF w i:Int)),⟨PB_up hP hi hu,fun _=>by rw [e2]; simp⟩,by simp only [uxI_cons]⟩
  ·have eh2:=Hh_dn hi hu
   rw [if_neg (by omega)] at hui
   cases st with
   | nil=>simp at hs; omega
   | cons j t=>
    obtain ⟨hj,hP'⟩:=PB_dn hd hP hi hu
    have hbl:=hP.2.2.1
    have hl2:((uxI w t).reverse).length=t.length:=by simp [uxI]
    have hl4:(uxI w t).length=t.length:=by simp [uxI]
    have f1:atI ((uxI w t).reverse++[(uix w j:Int)]) t.length=uix w j:=by rw [← hl2]; exact at_last
    have f2:sub ((uxI w t).reverse++[(uix w j:Int)]) 0 t.length=(uxI w t).reverse:=by rw [← hl2]; exact sub_init
    have f3:((((uxI w t).reverse++[(uix w j:Int)]).length:Nat):Int)=(t.length:Int)+1:=by simp [uxI]
    simp only [qlc] at hs
    simp only [uxI_cons]
    rw [hui]
    by_cases hl1:(i:Int)+1=w.length
    ·have hP'':=hP'
     simp (disch:=first|omega|simp only[vl];omega) only [vcd,hu,f3,f1,f2,qas]
     exact ⟨(seI bl (uix w j) (drF w i),t,(drF w i:Int)+1),⟨hP',fun q=>by omega⟩,by simp⟩
    ·by_cases h17:atB w ((i:Int)+1)=117
     ·rw [if_pos ⟨hu,h17⟩] at e2
      simp (disch:=first|omega|simp only[vl];omega) only [vcd,hu,f3,f1,f2,qas,h17]
      exact ⟨(seI bl (uix w j) (drF w i),t,(drF w i:Int)+1),⟨hP',fun _=>by rw [e2]; simp⟩,by simp⟩
     ·rw [if_neg fun q=>h17 q.2] at e2
      simp (disch:=first|omega|simp only[vl];omega) only [vcd,hu,f3,f1,f2,qas]
      exact ⟨(seI bl (uix w j) (drF w i),t,(drF w i:Int)),⟨hP',fun _=>by rw [e2]; simp⟩,by simp⟩
 ·obtain ⟨bl,st,nx⟩:=x
  obtain ⟨hP,_⟩:=hP
  simp only at hP
  have hst:st=[]:=by
   have:=SO_len hP.1
   rw [hD.he] at this
   exact qez (by omega)
  subst hst
  have ht:=PB_take hd hm hP (i:=w.length) (Nat.le_refl _)
  have hbl:=hP.2.2.1
  rw [List.take_of_length_le (by omega)] at ht
  have kr:=rn_s (K:=K) (l:=bl) (by omega)
  have e:bl.length=uix w w.length:=by omega
  rw [e] at kr
  rw [ht] at kr
  simp (disch:=first|omega|simp only[vl];omega) only [vcd]
  rw [ht]
  refine call_by (kr) rfl ?_
  simp (disch:=first|omega|simp only[vl];omega) only [vcd]
end Go.Cat
