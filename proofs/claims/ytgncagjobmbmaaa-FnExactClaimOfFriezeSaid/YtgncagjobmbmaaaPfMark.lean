/-
 Claims written into and looked at again; the path of a permutation, by places.
-/
import Derived.Test.YtgncagjobmbmaaaPfClaim
import Derived.Test.YtgncagjobmbmaaaPfMWalk
import Derived.Test.YtgncagjobmbmaaaIrHas
set_option linter.unusedSimpArgs false
set_option linter.unusedVariables false
namespace Go.Cat
variable {K:Nat→List D→List D→Prop}
set_option maxRecDepth 100000
def mkS (a:List (List Int)) (k:Int):Nat→List (List Int)×Int
 | 0=>(a,k)
 | n+1=>(seL (mkS a k n).1 n (markF (mkS a k n).2 (atL a n).length (atL a n)),(mkS a k n).2+(atL a n).length)
theorem mkS_len {a:List (List Int)} {k:Int}:∀ n,(mkS a k n).1.length=a.length
 | 0=>rfl
 | n+1=>by simp only [mkS,seL_len,mkS_len n]
theorem mkS_at {a:List (List Int)} {k:Int}:∀ {n:Nat},n≤a.length→∀ j:Nat,atL (mkS a k n).1 j=if j<n then markF (mkS a k j).2 (atL a j).length (atL a j) else atL a j
 | 0,_,j=>by simp [mkS]
 | n+1,h,j=>by
  simp only [mkS]
  rw [atL_set (by rw [mkS_len]; omega),mkS_at (by omega) j]
  by_cases hj:n=j
  ·subst hj; simp
  ·rw [if_neg hj]
   by_cases h2:j<n
   ·rw [if_pos h2,if_pos (by omega)]
   ·rw [if_neg h2,if_neg (by omega)]
theorem mkS_k {a:List (List Int)} {k:Int} (hr:∀ r∈a,r.length≤1000):∀ n,n≤a.length→k≤(mkS a k n).2∧(mkS a k n).2≤k+1000*n
 | 0,_=>by simp [mkS]
 | n+1,h=>by
  have h1:=mkS_k (k:=k) hr n (by omega)
  have h2:=hr _ (atL_in (i:=n) (m:=a) (by omega))
  simp only [mkS]
  omega
theorem markIntSS_ok [HA K] {a:List (List Int)} {k:Int} (h:a.length≤1000) (hr:∀ r∈a,r.length≤1000) (hk:0≤k∧k≤1000000):K 158 [LL a,.n k] [.n (mkS a k a.length).2,LL (mkS a k a.length).1]:=by
 refine body_by (f:=ir_laws_markIntSS) rfl ?_; simp only [ir_laws_markIntSS,zn,zs,zq,zi,zg,zp]
 simp (disch:=first|omega|simp only[vl];omega) only [vcd]
 refine loop_ix (fun i=>True) (fun i=>[LL (mkS a k i).1,.n (mkS a k i).2,.u,.n i,.u]) a.length trivial rfl (fun i hi hP=>?_) (fun hP=>?_)
 ·have h1:=mkS_k (k:=k) hr i (by omega)
  have h2:=mkS_len (a:=a) (k:=k) i
  have h3:=mkS_at (a:=a) (k:=k) (n:=i) (by omega) i
  rw [if_neg (by omega)] at h3
  have h4:=hr _ (atL_in (i:=i) (m:=a) hi)
  simp (disch:=first|omega|simp only[vl];omega) only [vcd,h2,h3]
  refine call_by (markIntS_ok (K:=K) (a:=atL a i) (k:=(mkS a k i).2) (by omega) (by omega)) rfl ?_
  simp (disch:=first|omega|simp only[vl];omega) only [vcd]
  rfl
 ·have h2:=mkS_len (a:=a) (k:=k) a.length
  simp (disch:=first|omega|simp only[vl];omega) only [vcd,h2]
theorem heldIntSS_ok [HA K] {a:List (List Int)} {k:Int} (h:a.length≤1000) (hr:∀ r∈a,r.length≤1000) (hk:0≤k∧k≤1000000):K 159 [LL (mkS a k a.length).1,.n k] [.n (mkS a k a.length).2]:=by
 refine body_by (f:=ir_laws_heldIntSS) rfl ?_; simp only [ir_laws_heldIntSS,zn,zs,zq,zi,zg,zp]
 have h2:=mkS_len (a:=a) (k:=k) a.length
 simp (disch:=first|omega|simp only[vl];omega) only [vcd]
 refine loop_ix (fun i=>True) (fun i=>[LL (mkS a k a.length).1,.n (mkS a k i).2,.u,.n i,.u,.u]) a.length trivial rfl (fun i hi hP=>?_) (fun hP=>?_)
 ·have h1:=mkS_k (k:=k) hr i (by omega)
  have h3:=mkS_at (a:=a) (k:=k) (n:=a.length) (by omega) i
  rw [if_pos hi] at h3
  have h4:=hr _ (atL_in (i:=i) (m:=a) hi)
  simp (disch:=first|omega|simp only[vl];omega) only [vcd,h2,h3]
  refine call_by (held_mark (K:=K) (a:=atL a i) (k:=(mkS a k i).2) (by omega) (by omega)) rfl ?_
  simp (disch:=first|omega|simp only[vl];omega) only [vcd]
  rfl
 ·simp (disch:=first|omega|simp only[vl];omega) only [vcd,h2]
structure CLs (t:List (List Nat)) (n o:List Int) (r:List (List Int)):Prop where
 lt:t.length≤1000
 ln:n.length≤1000
 lo:o.length≤1000
 lr:r.length≤1000
 lrs:∀ x∈r,x.length≤1000
theorem CLs.sm {t:List (List Nat)} {n o:List Int} {r:List (List Int)} (h:CLs t n o r):CLsm t n o r:=⟨by have:=h.lt; omega,by have:=h.ln; omega,by have:=h.lo; omega,by have:=h.lr; omega,fun x hx=>by have:=h.lrs x hx; omega⟩
def mkE (t:List (List Nat)) (n o:List Int) (r:List (List Int)) (m:Int):Int:=(mkS r (m+t.length+n.length+o.length) r.length).2
def mkC (k:Int) (f s:List Nat) (t:List (List Nat)) (n o:List Int) (r:List (List Int)) (m:Int):D:=
 CL k f s (markFS m t.length t) (markF (m+t.length) n.length n) (markF (m+t.length+n.length) o.length o) (mkS r (m+t.length+n.length+o.length) r.length).1
theorem markClaim_ok [HA K] {k:Int} {f s:List Nat} {t:List (List Nat)} {n o:List Int} {r:List (List Int)} {m:Int} (h:CLs t n o r) (hm:0≤m∧m≤1000):
  K 122 [CL k f s t n o r,.n m] [.n (mkE t n o r m),mkC k f s t n o r m]:=by
 obtain ⟨h1,h2,h3,h4,h5⟩:=h
 refine body_by (f:=ir_laws_markClaim) rfl ?_; simp only [ir_laws_markClaim,zn,zs,zq,zi,zg,zp]
 simp (disch:=first|omega|simp only[vl];omega) only [vcd,LS_known,LI_known,LL_known,LS_one,LI_one,LL_one]
 refine call_by (markStringS_ok (K:=K) (a:=t) (k:=m) (by omega) (by omega)) rfl ?_
 simp (disch:=first|omega|simp only[vl];omega) only [vcd,LS_known,LI_known,LL_known,LS_one,LI_one,LL_one]
 refine call_by (markIntS_ok (K:=K) (a:=n) (k:=m+t.length) (by omega) (by omega)) rfl ?_
 simp (disch:=first|omega|simp only[vl];omega) only [vcd,LS_known,LI_known,LL_known,LS_one,LI_one,LL_one]
 refine call_by (markIntS_ok (K:=K) (a:=o) (k:=m+t.length+n.length) (by omega) (by omega)) rfl ?_
 simp (disch:=first|omega|simp only[vl];omega) only [vcd,LS_known,LI_known,LL_known,LS_one,LI_one,LL_one]
 refine call_by (markIntSS_ok (K:=K) (a:=r) (k:=m+t.length+n.length+o.length) h4 h5 (by omega)) rfl ?_
 simp (disch:=first|omega|simp only[vl];omega) only [vcd,LS_known,LI_known,LL_known,LS_one,LI_one,LL_one]
 rfl
theorem heldClaim_ok [HA K] {k:Int} {f s:List Nat} {t:List (List Nat)} {n o:List Int} {r:List (List Int)} {m:Int} (h:CLs t n o r) (hm:0≤m∧m≤1000):
  K 123 [mkC k f s t n o r m,.n m] [.n (mkE t n o r m)]∧0≤mkE t n o r m:=by
 obtain ⟨h1,h2,h3,h4,h5⟩:=h
 have hE:=mkS_k (k:=m+t.length+n.length+o.length) h5 r.length (Nat.le_refl _)
 have hE0:0≤mkE t n o r m:=by unfold mkE; omega
 refine ⟨?_,hE0⟩
 unfold mkC
 refine body_by (f:=ir_laws_heldClaim) rfl ?_; simp only [ir_laws_heldClaim,zn,zs,zq,zi,zg,zp]
 have a1:=heldStringS_ok (K:=K) (a:=markFS m t.length t) (k:=m) (by rw [markFS_len]; omega) (by omega) (fun j hj=>by rw [markFS_len] at hj; exact markFS_at (Nat.le_refl _) j hj)
 rw [markFS_len] at a1
 simp (disch:=first|omega|simp only[vl];omega) only [vcd,LS_known,LI_known,LL_known]
 refine call_by (a1) rfl ?_
 simp (disch:=first|omega|simp only[vl];omega) only [vcd,LS_known,LI_known,LL_known]
 refine call_by (held_mark (K:=K) (a:=n) (k:=m+t.length) (by omega) (by omega)) rfl ?_
 simp (disch:=first|omega|simp only[vl];omega) only [vcd,LS_known,LI_known,LL_known]
 refine call_by (held_mark (K:=K) (a:=o) (k:=m+t.length+n.length) (by omega) (by omega)) rfl ?_
 simp (disch:=first|omega|simp only[vl];omega) only [vcd,LS_known,LI_known,LL_known]
 refine call_by (heldIntSS_ok (K:=K) (a:=r) (k:=m+t.length+n.length+o.length) h4 h5 (by omega)) rfl ?_
 have e:(mkS r (m+t.length+n.length+o.length) r.length).2=mkE t n o r m:=rfl
 rw [e]
 simp (disch:=first|omega|simp only[vl];omega) only [vcd]
end Go.Cat
