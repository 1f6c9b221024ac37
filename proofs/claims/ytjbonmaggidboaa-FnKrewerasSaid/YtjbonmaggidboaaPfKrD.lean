/-
 Joins of both sides.
-/
import Derived.Test.YtjbonmaggidboaaPfKrC
set_option linter.unusedSimpArgs false
set_option linter.unusedVariables false
namespace Go.Cat
variable {K:Nat→List D→List D→Prop}
def jnS (q:List Int) (i k:Nat) (l:List Int):List Int:=if atI q i=atI q k then mgF l (atI l k) (atI l i) else l
def jnI (q:List Int) (i:Nat) (l:List Int):List Int:=iter (jnS q i) i l
def jnF (q p:List Int):List Int:=iter (jnI q) q.length p
theorem jnS_len {q:List Int} {i k:Nat} {l:List Int} {n:Nat} (h:l.length=n):(jnS q i k l).length=n:=by
 unfold jnS; split
 ·rw [mgF_len,h]
 ·exact h
theorem jnI_len {q:List Int} {i:Nat} {l:List Int} {n:Nat} (h:l.length=n):(jnI q i l).length=n:=iter_inv (fun (s:List Int)=>s.length=n) h (fun _ _ h=>jnS_len h) _
theorem jnF_len {q p:List Int} {n:Nat} (h:p.length=n):(jnF q p).length=n:=iter_inv (fun (s:List Int)=>s.length=n) h (fun _ _ h=>jnI_len h) _
theorem mgF_id {l:List Int} {x:Int}:mgF l x x=l:=by
 have:∀ v:Int,(if v=x then x else v)=v:=fun v=>by split <;> simp_all
 simp [mgF,this]
theorem ncF_pt {p:List Int} (h:ncF p=true):isPt p=true:=by simp only [ncF,qba] at h; exact h.1
def jnK (p q:List Int):Bool:=ncF p&&(ncF q&&decide (p.length=q.length))
theorem coj_i0 [HA K] {p q:List Int} (h1:p.length≤1099511627776) (h2:q.length≤1099511627776) (h:jnK p q=false):K 439 [LI p,LI q] [LI [],.b false]:=by
 have k1:=nc_i (K:=K) (p:=p) h1
 have k2:=nc_i (K:=K) (p:=q) h2
 refine body_by (f:=ir_impl_CoarserJoin) rfl ?_; simp only [ir_impl_CoarserJoin,zn,zs,zq,zi,zg,zp]
 simp (disch:=first|omega|simp only[vl];omega) only [vcd]
 cases hp:ncF p
 ·rw [hp] at k1
  refine call_by (k1) rfl ?_
  simp (disch:=first|omega|simp only[vl];omega) only [vcd]
  rfl
 ·rw [hp] at k1
  refine call_by (k1) rfl ?_
  simp (disch:=first|omega|simp only[vl];omega) only [vcd]
  cases hq:ncF q
  ·rw [hq] at k2
   refine call_by (k2) rfl ?_
   simp (disch:=first|omega|simp only[vl];omega) only [vcd]
   rfl
  ·rw [hq] at k2
   have hl:¬ p.length=q.length:=by simpa [jnK,hp,hq] using h
   refine call_by (k2) rfl ?_
   simp (disch:=first|omega|simp only[vl];omega) only [vcd]
   rfl
theorem coj_s0 [HA K] {p q:List Int} (h1:p.length≤1099511627776) (h2:q.length≤1099511627776) (h:jnK p q=false):K 440 [LI p,LI q] [LI [],.b false]:=by
 have k1:=nc_s (K:=K) (p:=p) h1
 have k2:=nc_s (K:=K) (p:=q) h2
 refine body_by (f:=ir_spec_CoarserJoin) rfl ?_; simp only [ir_spec_CoarserJoin,zn,zs,zq,zi,zg,zp]
 simp (disch:=first|omega|simp only[vl];omega) only [vcd]
 cases hp:ncF p
 ·rw [hp] at k1
  refine call_by (k1) rfl ?_
  simp (disch:=first|omega|simp only[vl];omega) only [vcd]
  rfl
 ·rw [hp] at k1
  refine call_by (k1) rfl ?_
  simp (disch:=first|omega|simp only[vl];omega) only [vcd]
  cases hq:ncF q
  ·rw [hq] at k2
   refine call_by (k2) rfl ?_
   simp (disch:=first|omega|simp only[vl];omega) only [vcd]
   rfl
  ·rw [hq] at k2
   have hl:¬ p.length=q.length:=by simpa [jnK,hp,hq] using h
   refine call_by (k2) rfl ?_
   simp (disch:=first|omega|simp only[vl];omega) only [vcd]
   rfl
theorem jnK_t {p q:List Int} (h:jnK p q=true):ncF p=true∧ncF q=true∧p.length=q.length∧p.length≤8:=by
 simp only [jnK,qba,qde] at h
 exact ⟨h.1,h.2.1,h.2.2,isPt_8 (ncF_pt h.1)⟩
theorem coj_i [HA K] {p q r:List Int} {f:Nat} (h:jnK p q=true) (hc:clG p.length f (jnF q p)=some r):K 439 [LI p,LI q] [LI (rnL r r.length),.b true]:=by
 obtain ⟨hp,hq,hl,h8⟩:=jnK_t h
 have k1:=nc_i (K:=K) (p:=p) (by omega)
 have k2:=nc_i (K:=K) (p:=q) (by omega)
 rw [hp] at k1
 rw [hq] at k2
 obtain ⟨n,hn⟩:∃ n,n=q.length:=⟨_,rfl⟩
 rw [hl,← hn] at hc
 have hjl:=jnF_len (q:=q) (p:=p) (n:=n) (by omega)
 refine body_by (f:=ir_impl_CoarserJoin) rfl ?_; simp only [ir_impl_CoarserJoin,zn,zs,zq,zi,zg,zp]
 simp (disch:=first|omega|simp only[vl];omega) only [vcd]
 refine call_by (k1) rfl ?_
 simp (disch:=first|omega|simp only[vl];omega) only [vcd]
 refine call_by (k2) rfl ?_
 simp (disch:=first|omega|simp only[vl];omega) only [vcd]
 refine call_by (copyInts_ok (K:=K) (p:=p) (by omega)) rfl ?_
 simp (disch:=first|omega|simp only[vl];omega) only [vcd]
 refine loop_fold (jnI q) (fun _ s=>s.length=n) (fun i s=>[.u,LI q,.u,.u,LI s,.u,.u,.u,.n n,.n i,.u,.u,.u,.u,.u]) n p (by omega) (by simp [hn]) (fun i s hi h=>jnI_len h) (fun i s hi hP hs=>?_) (fun s hs hP=>?_)
 ·simp (disch:=first|omega|simp only[vl];omega) only [vcd]
  refine loop_fold (jnS q i) (fun _ s=>s.length=n) (fun k s=>[.u,LI q,.u,.u,LI s,.n i,.u,.u,.n n,.n i,.u,.n i,.n k,.u,.u]) i s hP rfl (fun k s hk h=>jnS_len h) (fun k s hk hP hs=>?_) (fun s hs hP=>?_)
  ·by_cases h1:atI q i=atI q k
   ·have e:jnS q i k s=mgF s (atI s k) (atI s i):=by simp only [jnS]; rw [if_pos h1]
    rw [e]
    simp (disch:=first|omega|simp only[vl];omega) only [vcd]
    refine call_by (mrg_i (K:=K) (l:=s) (a:=k) (b:=i) (by omega) (by omega) (by omega)) rfl ?_
    simp (disch:=first|omega|simp only[vl];omega) only [vcd]
   ·have e:jnS q i k s=s:=by simp only [jnS]; rw [if_neg h1]
    rw [e]
    simp (disch:=first|omega|simp only[vl];omega) only [vcd]
  ·simp (disch:=first|omega|simp only[vl];omega) only [vcd]
   rw [hs]; rfl
 ·have hs:s=jnF q p:=by rw [hs,hn]; rfl
  rw [← hs] at hc
  simp (disch:=first|omega|simp only[vl];omega) only [vcd]
  rw [← hP] at hc
  refine call_by (clo_i (K:=K) (l:=s) (f:=f) (by omega) hc) rfl ?_
  simp (disch:=first|omega|simp only[vl];omega) only [vcd]
theorem l19j_s [HA K] {p q:List Int} (hl:p.length=q.length) (h8:p.length≤8):K 484 [LI p,LI q] [LI (rnL (jnF q p) p.length)]:=by
 obtain ⟨n,hn⟩:∃ n,n=q.length:=⟨_,rfl⟩
 rw [hl,← hn]
 have hjl:=jnF_len (q:=q) (p:=p) (n:=n) (by omega)
 refine body_by (f:=ir_spec_l19Join) rfl ?_; simp only [ir_spec_l19Join,zn,zs,zq,zi,zg,zp]
 simp (disch:=first|omega|simp only[vl];omega) only [vcd,appZK]
 refine loop_fold (jnI q) (fun _ s=>s.length=n) (fun i s=>[.u,LI q,.u,LI s,.n i,.u,.u,.u,.u,.u,.u,.u,.u]) n p (by omega) rfl (fun i s hi h=>jnI_len h) (fun i s hi hP hs=>?_) (fun s hs hP=>?_)
 ·simp (disch:=first|omega|simp only[vl];omega) only [vcd]
  refine loop_fold (jnS q i) (fun _ s=>s.length=n) (fun k s=>[.u,LI q,.u,LI s,.n i,.n k,.u,.u,.u,.u,.u,.u,.u]) i s hP rfl (fun k s hk h=>jnS_len h) (fun k s hk hP hs=>?_) (fun s hs hP=>?_)
  ·by_cases h1:atI q i=atI q k
   ·have e:jnS q i k s=mgF s (atI s k) (atI s i):=by simp only [jnS]; rw [if_pos h1]
    rw [e]
    by_cases h3:atI s i=atI s k
    ·rw [h3,mgF_id]
     simp (disch:=first|omega|simp only[vl];omega) only [vcd]
    ·obtain ⟨y,hy⟩:∃ y,y=atI s i:=⟨_,rfl⟩
     simp (disch:=first|omega|simp only[vl];omega) only [vcd]
     rw [← hy]
     refine loop_ix (fun _=>True) (fun j=>[.u,LI q,.u,LI (mgP s (atI s k) y j),.n i,.n k,.n y,.n j,.u,.u,.u,.u,.u]) n trivial (by simp [mgP_0]) (fun j hj _=>?_) (fun _=>?_)
     ·have g:=mgP_len (l:=s) (x:=atI s k) (y:=y) (i:=j)
      have g2:atI (mgP s (atI s k) y j) j=atI s j:=by rw [mgP_at,if_neg (by omega)]
      have g3:atI (mgP s (atI s k) y j) k=atI s k:=by rw [mgP_at,if_neg (fun q=>h3 (hy.symm.trans q.2.1.symm))]
      by_cases h:atI s j=y
      ·have h2:atI (mgP s (atI s k) y j) j=y:=g2.trans h
       simp (disch:=first|omega|simp only[vl];omega) only [vcd]
       rw [g3,mgP_t (by omega) h]
      ·have h2:¬ atI (mgP s (atI s k) y j) j=y:=by rw [g2]; exact h
       simp (disch:=first|omega|simp only[vl];omega) only [vcd]
       rw [mgP_f (by omega) h]
     ·have g:=mgP_len (l:=s) (x:=atI s k) (y:=y) (i:=n)
      have g4:mgP s (atI s k) y n=mgF s (atI s k) y:=by rw [← hP,mgP_n]
      simp (disch:=first|omega|simp only[vl];omega) only [vcd]
      rw [g4]
   ·have e:jnS q i k s=s:=by simp only [jnS]; rw [if_neg h1]
    rw [e]
    simp (disch:=first|omega|simp only[vl];omega) only [vcd]
  ·simp (disch:=first|omega|simp only[vl];omega) only [vcd]
   rw [hs]; rfl
 ·have hs:s=jnF q p:=by rw [hs,hn]; rfl
  subst hs
  simp (disch:=first|omega|simp only[vl];omega) only [vcd]
  refine call_by (rn_s (K:=K) (l:=jnF q p) (by omega)) rfl ?_
  simp (disch:=first|omega|simp only[vl];omega) only [vcd]
  rw [hP]
theorem coj_s [HA K] {p q r:List Int} {f:Nat} (h:jnK p q=true) (hpt:isPt (rnL (jnF q p) p.length)=true) (hc:clG p.length f (rnL (jnF q p) p.length)=some r) (hf:f≤p.length+1):K 440 [LI p,LI q] [LI (rnL r r.length),.b true]:=by
 obtain ⟨hp,hq,hl,h8⟩:=jnK_t h
 have k1:=nc_s (K:=K) (p:=p) (by omega)
 have k2:=nc_s (K:=K) (p:=q) (by omega)
 rw [hp] at k1
 rw [hq] at k2
 have hrl:(rnL (jnF q p) p.length).length=p.length:=rnL_len _
 refine body_by (f:=ir_spec_CoarserJoin) rfl ?_; simp only [ir_spec_CoarserJoin,zn,zs,zq,zi,zg,zp]
 simp (disch:=first|omega|simp only[vl];omega) only [vcd]
 refine call_by (k1) rfl ?_
 simp (disch:=first|omega|simp only[vl];omega) only [vcd]
 refine call_by (k2) rfl ?_
 simp (disch:=first|omega|simp only[vl];omega) only [vcd]
 refine call_by (l19j_s (K:=K) hl h8) rfl ?_
 simp (disch:=first|omega|simp only[vl];omega) only [vcd]
 have hc:clG (rnL (jnF q p) p.length).length f (rnL (jnF q p) p.length)=some r:=by rw [hrl]; exact hc
 refine call_by (clo_s (K:=K) (p:=rnL (jnF q p) p.length) (r:=r) (f:=f) hpt hc (by omega)) rfl ?_
 simp (disch:=first|omega|simp only[vl];omega) only [vcd]
