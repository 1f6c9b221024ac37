/-
 Claims compared and copied.
-/
import Derived.Test.YtgncagjobmbmaaaPfH
import Derived.Test.YtgncagjobmbmaaaIrHas
set_option linter.unusedSimpArgs false
set_option linter.unusedVariables false
namespace Go.Cat
variable {K:Nat→List D→List D→Prop}
theorem atL_in {m:List (List Int)} {i:Nat} (h:i<m.length):atL m i∈m:=by simp [atL,h]
theorem eqIntSS_t [HA K] {a:List (List Int)} (h:a.length≤1099511627776) (hr:∀ r∈a,r.length≤1099511627776):K 155 [LL a,LL a] [.b true]:=by
 refine body_by (f:=ir_laws_eqIntSS) rfl ?_; simp only [ir_laws_eqIntSS,zn,zs,zq,zi,zg,zp]
 simp (disch:=first|omega|simp only[vl];omega) only [vcd]
 refine loop_ix (fun _=>True) (fun i=>[LL a,LL a,.u,.n i,.u,.u,.u]) a.length trivial rfl (fun i hi _=>?_) (fun _=>?_)
 ·simp (disch:=first|omega|simp only[vl];omega) only [vcd]
  refine call_by (eqIntS_t (K:=K) (hr _ (atL_in hi))) rfl ?_
  simp (disch:=first|omega|simp only[vl];omega) only [vcd]
 ·simp (disch:=first|omega|simp only[vl];omega) only [vcd]
theorem atL_set {zs:List (List Int)} {i j:Nat} {x:List Int} (hi:i<zs.length):atL (seL zs i x) j=if i=j then x else atL zs j:=by
 simp only [atL,seL,qtn,qgd,List.getElem?_set]
 by_cases q:i=j
 ·subst q; simp [hi]
 ·simp [q]
abbrev CL (k:Int) (f s:List Nat) (t:List (List Nat)) (n o:List Int) (r:List (List Int)):D:=.g [.n k,.s f,.s s,LS t,LI n,LI o,LL r]
theorem LS_known {x:List (List Nat)}:known (LS x)=some (LS x):=rfl
theorem LI_known {x:List Int}:known (LI x)=some (LI x):=rfl
theorem LL_known {x:List (List Int)}:known (LL x)=some (LL x):=rfl
structure CLsm (t:List (List Nat)) (n o:List Int) (r:List (List Int)):Prop where
 lt:t.length≤1099511627776
 ln:n.length≤1099511627776
 lo:o.length≤1099511627776
 lr:r.length≤1099511627776
 lrs:∀ x∈r,x.length≤1099511627776
theorem LS_one {x:List (List Nat)}:(LS x).one=true:=rfl
theorem LL_one {x:List (List Int)}:(LL x).one=true:=rfl
theorem eqClaim_t [HA K] {k:Int} {f s:List Nat} {t:List (List Nat)} {n o:List Int} {r:List (List Int)} (h:CLsm t n o r):K 119 [CL k f s t n o r,CL k f s t n o r] [.b true]:=by
 refine body_by (f:=ir_laws_eqClaim) rfl ?_; simp only [ir_laws_eqClaim,zn,zs,zq,zi,zg,zp]
 simp (disch:=first|omega|simp only[vl];omega) only [vcd,LS_known,LI_known,LL_known]
 refine call_by (eqStringS_t (K:=K) (a:=t) h.lt) rfl ?_
 simp (disch:=first|omega|simp only[vl];omega) only [vcd,LS_known,LI_known,LL_known]
 refine call_by (eqIntS_t (K:=K) (a:=n) h.ln) rfl ?_
 simp (disch:=first|omega|simp only[vl];omega) only [vcd,LS_known,LI_known,LL_known]
 refine call_by (eqIntS_t (K:=K) (a:=o) h.lo) rfl ?_
 simp (disch:=first|omega|simp only[vl];omega) only [vcd,LS_known,LI_known,LL_known]
 refine call_by (eqIntSS_t (K:=K) (a:=r) h.lr h.lrs) rfl ?_
 simp (disch:=first|omega|simp only[vl];omega) only [vcd,LS_known,LI_known,LL_known]
end Go.Cat
