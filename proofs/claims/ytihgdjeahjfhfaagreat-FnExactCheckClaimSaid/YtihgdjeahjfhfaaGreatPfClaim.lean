/-
 Claims compared and copied.
-/
import Derived.Test.YtihgdjeahjfhfaaGreatPfH
import Derived.Test.YtihgdjeahjfhfaaGreatIrHas
set_option linter.unusedSimpArgs false
set_option linter.unusedVariables false
namespace Go.Cat
variable {K:Nat→List D→List D→Prop}
theorem eqi_ok [HA K] {a b:List Int} (h:a.length≤1099511627776):K 72 [LI a,LI b] [.b (decide (a=b))]:=by
 refine body_by (f:=ir_impl_equalInts) rfl ?_; simp only [ir_impl_equalInts,zn,zs,zq,zi,zg,zp]
 simp (disch:=first|omega|simp only[vl];omega) only [vcd]
 by_cases hl:a.length=b.length
 ·simp (disch:=first|omega|simp only[vl];omega) only [vcd]
  refine loop_ix (fun i=>∀ j:Nat,j<i→atI a j=atI b j) (fun i=>[LI a,LI b,.u,.u,.u,.n a.length,.n i,.u,.u]) a.length (by simp) rfl (fun i hi hP=>?_) (fun hP=>?_)
  ·by_cases he:atI a i=atI b i
   ·simp (disch:=first|omega|simp only[vl];omega) only [vcd]
    exact all_s hP he
   ·simp (disch:=first|omega|simp only[vl];omega) only [vcd]
    have:a≠b:=by rintro rfl; exact he rfl
    simp [this]
  ·simp (disch:=first|omega|simp only[vl];omega) only [vcd]
   have:a=b:=extI hl hP
   simp [this]
 ·have:a≠b:=by rintro rfl; exact hl rfl
  simp (disch:=first|omega|simp only[vl];omega) only [vcd]
  simp [this]
theorem l13Same_ok [HA K] {a b:List Int} (h:a.length≤1099511627776):K 149 [LI a,LI b] [.b (decide (a=b))]:=by
 refine body_by (f:=ir_spec_l13Same) rfl ?_; simp only [ir_spec_l13Same,zn,zs,zq,zi,zg,zp]
 simp (disch:=first|omega|simp only[vl];omega) only [vcd]
 by_cases hl:a.length=b.length
 ·simp (disch:=first|omega|simp only[vl];omega) only [vcd]
  refine loop_ix (fun i=>∀ j:Nat,j<i→atI a j=atI b j) (fun i=>[LI a,LI b,.u,.n i,.u,.u,.u]) a.length (by simp) rfl (fun i hi hP=>?_) (fun hP=>?_)
  ·by_cases he:atI a i=atI b i
   ·simp (disch:=first|omega|simp only[vl];omega) only [vcd]
    exact all_s hP he
   ·simp (disch:=first|omega|simp only[vl];omega) only [vcd]
    have:a≠b:=by rintro rfl; exact he rfl
    simp [this]
  ·simp (disch:=first|omega|simp only[vl];omega) only [vcd]
   have:a=b:=extI hl hP
   simp [this]
 ·have:a≠b:=by rintro rfl; exact hl rfl
  simp (disch:=first|omega|simp only[vl];omega) only [vcd]
  simp [this]
theorem extL {a b:List (List Int)} (hl:a.length=b.length) (h:∀ j:Nat,j<a.length→atL a j=atL b j):a=b:=by
 refine List.ext_getElem hl fun i h1 h2=>?_
 have:=h i h1
 simpa [atL,h1,h2] using this
theorem atL_in {m:List (List Int)} {i:Nat} (h:i<m.length):atL m i∈m:=by simp [atL,h]
theorem eqIntSS_t [HA K] {a:List (List Int)} (h:a.length≤1099511627776) (hr:∀ r∈a,r.length≤1099511627776):K 155 [LL a,LL a] [.b true]:=by
 refine body_by (f:=ir_laws_eqIntSS) rfl ?_; simp only [ir_laws_eqIntSS,zn,zs,zq,zi,zg,zp]
 simp (disch:=first|omega|simp only[vl];omega) only [vcd]
 refine loop_ix (fun _=>True) (fun i=>[LL a,LL a,.u,.n i,.u,.u,.u]) a.length trivial rfl (fun i hi _=>?_) (fun _=>?_)
 ·simp (disch:=first|omega|simp only[vl];omega) only [vcd]
  refine call_by (eqIntS_t (K:=K) (hr _ (atL_in hi))) rfl ?_
  simp (disch:=first|omega|simp only[vl];omega) only [vcd]
 ·simp (disch:=first|omega|simp only[vl];omega) only [vcd]
theorem toStringS_ok [HA K] {a:List (List Nat)} (h:a.length≤1099511627776):K 151 [LS a] [LS a]:=by
 refine body_by (f:=ir_laws_toStringS) rfl ?_; simp only [ir_laws_toStringS,zn,zs,zq,zi,zg,zp]
 simp (disch:=first|omega|simp only[vl];omega) only [vcd]
 refine loop_up (fun i (s:List (List Nat))=>s.length=a.length∧∀ j:Nat,j<i→atS s j=atS a j) (fun i s=>[LS a,.u,LS s,.n i,.u]) a.length (rep a.length []) ⟨by simp [rep],by simp⟩ rfl (fun i s hi hP=>?_) (fun s hP=>?_)
 ·obtain ⟨h1,h2⟩:=hP
  simp (disch:=first|omega|simp only[vl];omega) only [vcd]
  refine ⟨_,⟨?_,fun j hj=>?_⟩,rfl⟩
  ·simp [seS,h1]
  ·rw [atS_set (by omega)]
   split
   ·rename_i hij; rw [hij]
   ·exact h2 j (by omega)
 ·obtain ⟨h1,h2⟩:=hP
  simp (disch:=first|omega|simp only[vl];omega) only [vcd]
  exact D1 (congrArg LS (extS h1.symm fun j hj=>(h2 j (by omega)).symm))
theorem atL_set {zs:List (List Int)} {i j:Nat} {x:List Int} (hi:i<zs.length):atL (seL zs i x) j=if i=j then x else atL zs j:=by
 simp only [atL,seL,qtn,qgd,List.getElem?_set]
 by_cases q:i=j
 ·subst q; simp [hi]
 ·simp [q]
theorem LL_mk0 {n m:Int} (h:0≤n∧n≤m∧m≤1099511627776):mkD (.l []) (.n n) (.n m)=some (LL (rep n [])):=by
 simp only [mkD,LL,rep]; rw [if_pos (show 0≤n∧n≤m∧m≤(big:Int) from h)]; simp [LI]
theorem toIntSS_ok [HA K] {a:List (List Int)} (h:a.length≤1099511627776) (hr:∀ r∈a,r.length≤1099511627776):K 152 [LL a] [LL a]:=by
 refine body_by (f:=ir_laws_toIntSS) rfl ?_; simp only [ir_laws_toIntSS,zn,zs,zq,zi,zg,zp]
 simp (disch:=first|omega|simp only[vl];omega) only [vcd,LL_mk0]
 refine loop_up (fun i (s:List (List Int))=>s.length=a.length∧∀ j:Nat,j<i→atL s j=atL a j) (fun i s=>[LL a,.u,LL s,.n i,.u]) a.length (rep a.length []) ⟨by simp [rep],by simp⟩ rfl (fun i s hi hP=>?_) (fun s hP=>?_)
 ·obtain ⟨h1,h2⟩:=hP
  simp (disch:=first|omega|simp only[vl];omega) only [vcd]
  refine call_by (toIntS_ok (K:=K) (a:=atL a i) (hr _ (atL_in hi))) rfl ?_
  simp (disch:=first|omega|simp only[vl];omega) only [vcd]
  refine ⟨_,⟨?_,fun j hj=>?_⟩,rfl⟩
  ·rw [seL_len,h1]
  ·rw [atL_set (by omega)]
   split
   ·rename_i hij; rw [hij]
   ·exact h2 j (by omega)
 ·obtain ⟨h1,h2⟩:=hP
  simp (disch:=first|omega|simp only[vl];omega) only [vcd]
  exact D1 (congrArg LL (extL h1.symm fun j hj=>(h2 j (by omega)).symm))
theorem szIntS_ok [HA K] {a:List Int} {l:Int} (h:a.length≤9223372036854775807) (hl:0≤l∧l≤1048576):K 146 [LI a,.n l] [.n (if (a.length:Int)≤l then l-a.length else -1)]:=by
 refine body_by (f:=ir_laws_szIntS) rfl ?_; simp only [ir_laws_szIntS,zn,zs,zq,zi,zg,zp]
 by_cases hc:(a.length:Int)≤l
 ·rw [if_pos hc]
  simp (disch:=first|omega|simp only[vl];omega) only [vcd]
 ·rw [if_neg hc]
  simp (disch:=first|omega|simp only[vl];omega) only [vcd]
theorem szIntSS_ok [HA K] {a:List (List Int)} {l:Int} (h:a.length≤9223372036854775807) (hr:∀ r∈a,r.length≤9223372036854775807) (hl:0≤l∧l≤1048576):∃ rs,(∃ v,rs=[.n v]∧v≤l∧(0≤v→(a.length:Int)≤l∧∀ r∈a,(r.length:Int)≤l))∧K 147 [LL a,.n l] rs:=by
 refine body_ex (f:=ir_laws_szIntSS) rfl ?_; simp only [ir_laws_szIntSS,zn,zs,zq,zi,zg,zp]
 by_cases hc:(a.length:Int)≤l
 ·simp (disch:=first|omega|simp only[vl];omega) only [vcd]
  refine loop_up (fun i (x:Int)=>(0≤x∧x≤l)∧∀ j:Nat,j<i→((atL a j).length:Int)≤l) (fun i x=>[LL a,.n x,.u,.n i,.u,.u,.u]) a.length (l-a.length) ⟨by omega,by simp⟩ rfl (fun i x hi hP=>?_) (fun x hP=>?_)
  ·obtain ⟨h1,h2⟩:=hP
   simp (disch:=first|omega|simp only[vl];omega) only [vcd]
   refine call_by (szIntS_ok (K:=K) (a:=atL a i) (l:=x) (hr _ (atL_in hi)) (by omega)) rfl ?_
   by_cases hq:((atL a i).length:Int)≤x
   ·simp (disch:=first|omega|simp only[vl];omega) only [vcd,if_pos hq]
    refine ⟨x-(atL a i).length,⟨by omega,?_⟩,rfl⟩
    exact all_s h2 (by omega)
   ·simp (disch:=first|omega|simp only[vl];omega) only [vcd,if_neg hq]
    exact ⟨_,rfl,by omega,fun q=>by omega⟩
  ·obtain ⟨h1,h2⟩:=hP
   simp (disch:=first|omega|simp only[vl];omega) only [vcd]
   refine ⟨_,rfl,by omega,fun _=>⟨hc,fun r hr2=>?_⟩⟩
   obtain ⟨j,hj,rfl⟩:=List.getElem_of_mem hr2
   have:=h2 j hj
   simpa [atL,hj] using this
 ·simp (disch:=first|omega|simp only[vl];omega) only [vcd]
  exact ⟨_,rfl,by omega,fun q=>by omega⟩
theorem szStringS_ok [HA K] {a:List (List Nat)} {l:Int} (h:a.length≤9223372036854775807) (hr:∀ r∈a,r.length≤9223372036854775807) (hl:0≤l∧l≤1048576):∃ rs,(∃ v,rs=[.n v]∧v≤l∧(0≤v→(a.length:Int)≤l))∧K 145 [LS a,.n l] rs:=by
 refine body_ex (f:=ir_laws_szStringS) rfl ?_; simp only [ir_laws_szStringS,zn,zs,zq,zi,zg,zp]
 by_cases hc:(a.length:Int)≤l
 ·simp (disch:=first|omega|simp only[vl];omega) only [vcd]
  refine loop_up (fun i (x:Int)=>0≤x∧x≤l) (fun i x=>[LS a,.n x,.u,.n i,.u,.u,.u]) a.length (l-a.length) (by omega) rfl (fun i x hi hP=>?_) (fun x hP=>?_)
  ·have hs:(atS a i).length≤9223372036854775807:=hr _ (by simp [atS,hi])
   by_cases hq:((atS a i).length:Int)≤x
   ·simp (disch:=first|omega|simp only[vl];omega) only [vcd]
    exact ⟨x-(atS a i).length,by omega,rfl⟩
   ·simp (disch:=first|omega|simp only[vl];omega) only [vcd]
    exact ⟨_,rfl,by omega,fun q=>by omega⟩
  ·simp (disch:=first|omega|simp only[vl];omega) only [vcd]
   exact ⟨_,rfl,by omega,fun _=>hc⟩
 ·simp (disch:=first|omega|simp only[vl];omega) only [vcd]
  exact ⟨_,rfl,by omega,fun q=>by omega⟩
abbrev CL (k:Int) (f s:List Nat) (t:List (List Nat)) (n o:List Int) (r:List (List Int)):D:=.g [.n k,.s f,.s s,LS t,LI n,LI o,LL r]
theorem LS_known {x:List (List Nat)}:known (LS x)=some (LS x):=rfl
theorem LI_known {x:List Int}:known (LI x)=some (LI x):=rfl
theorem LL_known {x:List (List Int)}:known (LL x)=some (LL x):=rfl
structure CLok (f s:List Nat) (t:List (List Nat)) (n o:List Int) (r:List (List Int)):Prop where
 lf:f.length≤9223372036854775807
 ls:s.length≤9223372036854775807
 lt:t.length≤9223372036854775807
 lts:∀ x∈t,x.length≤9223372036854775807
 ln:n.length≤9223372036854775807
 lo:o.length≤9223372036854775807
 lr:r.length≤9223372036854775807
 lrs:∀ x∈r,x.length≤9223372036854775807
structure CLsm (t:List (List Nat)) (n o:List Int) (r:List (List Int)):Prop where
 lt:t.length≤1099511627776
 ln:n.length≤1099511627776
 lo:o.length≤1099511627776
 lr:r.length≤1099511627776
 lrs:∀ x∈r,x.length≤1099511627776
theorem szClaim_ok [HA K] {k:Int} {f s:List Nat} {t:List (List Nat)} {n o:List Int} {r:List (List Int)} {l:Int} (h:CLok f s t n o r) (hl:0≤l∧l≤1048576):
  ∃ rs,(∃ v,rs=[.n v]∧v≤l∧(0≤v→CLsm t n o r))∧K 115 [CL k f s t n o r,.n l] rs:=by
 refine body_ex (f:=ir_laws_szClaim) rfl ?_; simp only [ir_laws_szClaim,zn,zs,zq,zi,zg,zp]
 have h1:=h.lf
 have h2:=h.ls
 by_cases c1:(f.length:Int)≤l
 ·by_cases c2:(s.length:Int)≤l-f.length
  ·obtain ⟨_,⟨v1,rfl,a1,a2⟩,k1⟩:=szStringS_ok (K:=K) (a:=t) (l:=l-f.length-s.length) h.lt h.lts (by omega)
   simp (disch:=first|omega|simp only[vl];omega) only [vcd,LS_known,LI_known,LL_known]
   refine call_by (k1) rfl ?_
   by_cases c3:0≤v1
   ·have a2:=a2 c3
    simp (disch:=first|omega|simp only[vl];omega) only [vcd,LS_known,LI_known,LL_known]
    refine call_by (szIntS_ok (K:=K) (a:=n) (l:=v1) h.ln (by omega)) rfl ?_
    by_cases c4:(n.length:Int)≤v1
    ·simp (disch:=first|omega|simp only[vl];omega) only [vcd,if_pos c4,LS_known,LI_known,LL_known]
     refine call_by (szIntS_ok (K:=K) (a:=o) (l:=v1-n.length) h.lo (by omega)) rfl ?_
     by_cases c5:(o.length:Int)≤v1-n.length
     ·obtain ⟨_,⟨v2,rfl,b1,b2⟩,k2⟩:=szIntSS_ok (K:=K) (a:=r) (l:=v1-n.length-o.length) h.lr h.lrs (by omega)
      simp (disch:=first|omega|simp only[vl];omega) only [vcd,if_pos c5,LS_known,LI_known,LL_known]
      refine call_by (k2) rfl ?_
      by_cases c6:0≤v2
      ·simp (disch:=first|omega|simp only[vl];omega) only [vcd,LS_known,LI_known,LL_known]
       have b2:=b2 c6
       exact ⟨_,rfl,by omega,fun _=>⟨by omega,by omega,by omega,by omega,fun x hx=>by have:=b2.2 x hx; omega⟩⟩
      ·simp (disch:=first|omega|simp only[vl];omega) only [vcd,LS_known,LI_known,LL_known]
       exact ⟨_,rfl,by omega,fun q=>by omega⟩
     ·simp (disch:=first|omega|simp only[vl];omega) only [vcd,if_neg c5,LS_known,LI_known,LL_known]
      exact ⟨_,rfl,by omega,fun q=>by omega⟩
    ·simp (disch:=first|omega|simp only[vl];omega) only [vcd,if_neg c4,LS_known,LI_known,LL_known]
     exact ⟨_,rfl,by omega,fun q=>by omega⟩
   ·simp (disch:=first|omega|simp only[vl];omega) only [vcd,LS_known,LI_known,LL_known]
    exact ⟨_,rfl,by omega,fun q=>by omega⟩
  ·simp (disch:=first|omega|simp only[vl];omega) only [vcd,LS_known,LI_known,LL_known]
   exact ⟨_,rfl,by omega,fun q=>by omega⟩
 ·simp (disch:=first|omega|simp only[vl];omega) only [vcd,LS_known,LI_known,LL_known]
  exact ⟨_,rfl,by omega,fun q=>by omega⟩
theorem LS_one {x:List (List Nat)}:(LS x).one=true:=rfl
theorem LL_one {x:List (List Int)}:(LL x).one=true:=rfl
theorem uqD_1 {i:Nat} {xs:List D} {x:D} {j k:Nat} (h:putB k (x,j)=true):uqD (some [i]) (.g xs) x j k=xs[i]?.map fun _=>.g (xs.set i x):=by
 simp only [uqD,h,if_true,Option.bind_some,setP_g]
theorem uqD_i {i:Nat} {xs:List D} {q:IntKind} {n:Int} {j k:Nat}:uqD (some [i]) (.g xs) (.i q n) j k=xs[i]?.map fun _=>.g (xs.set i (.i q n)):=uqD_1 putB_i
theorem uqD_s {i:Nat} {xs:List D} {s:List Nat} {j k:Nat}:uqD (some [i]) (.g xs) (.s s) j k=xs[i]?.map fun _=>.g (xs.set i (.s s)):=uqD_1 putB_s
theorem uqD_S {i:Nat} {xs:List D} {s:List (List Nat)}:uqD (some [i]) (.g xs) (LS s) 1 3=xs[i]?.map fun _=>.g (xs.set i (LS s)):=uqD_1 (by simp [putB,LS,D.one,depB,D.flat])
theorem uqD_I {i:Nat} {xs:List D} {s:List Int}:uqD (some [i]) (.g xs) (LI s) 1 3=xs[i]?.map fun _=>.g (xs.set i (LI s)):=uqD_1 (by simp [putB,LI,D.one,depB,D.flat])
theorem uqD_L {i:Nat} {xs:List D} {s:List (List Int)}:uqD (some [i]) (.g xs) (LL s) 2 3=xs[i]?.map fun _=>.g (xs.set i (LL s)):=uqD_1 (by simp [putB,LL,LI,D.one,depB,D.flat])
theorem toClaim_ok [HA K] {k:Int} {f s:List Nat} {t:List (List Nat)} {n o:List Int} {r:List (List Int)} (h:CLsm t n o r):K 117 [CL k f s t n o r] [CL k f s t n o r]:=by
 refine body_by (f:=ir_laws_toClaim) rfl ?_; simp only [ir_laws_toClaim,zn,zs,zq,zi,zg,zp]
 simp (disch:=first|omega|simp only[vl];omega) only [vcd,LS_known,LI_known,LL_known,uqD_i,uqD_s,uqD_S,uqD_I,uqD_L,ixL_0,ixL_s,Option.map_some,List.set,LS_one,LL_one,Bool.and_self]
 refine call_by (toStringS_ok (K:=K) (a:=t) h.lt) rfl ?_
 simp (disch:=first|omega|simp only[vl];omega) only [vcd,LS_known,LI_known,LL_known,uqD_i,uqD_s,uqD_S,uqD_I,uqD_L,ixL_0,ixL_s,Option.map_some,List.set,LS_one,LL_one,Bool.and_self]
 refine call_by (toIntS_ok (K:=K) (a:=n) h.ln) rfl ?_
 simp (disch:=first|omega|simp only[vl];omega) only [vcd,LS_known,LI_known,LL_known,uqD_i,uqD_s,uqD_S,uqD_I,uqD_L,ixL_0,ixL_s,Option.map_some,List.set,LS_one,LL_one,Bool.and_self]
 refine call_by (toIntS_ok (K:=K) (a:=o) h.lo) rfl ?_
 simp (disch:=first|omega|simp only[vl];omega) only [vcd,LS_known,LI_known,LL_known,uqD_i,uqD_s,uqD_S,uqD_I,uqD_L,ixL_0,ixL_s,Option.map_some,List.set,LS_one,LL_one,Bool.and_self]
 refine call_by (toIntSS_ok (K:=K) (a:=r) h.lr h.lrs) rfl ?_
 simp (disch:=first|omega|simp only[vl];omega) only [vcd,LS_known,LI_known,LL_known,uqD_i,uqD_s,uqD_S,uqD_I,uqD_L,ixL_0,ixL_s,Option.map_some,List.set,LS_one,LL_one,Bool.and_self]
theorem eqClaim_t [HA K] {k:Int} {f s:List Nat} {t:List (List Nat)} {n o:List Int} {r:List (List Int)} (h:CLsm t n o r):K 119 [CL k f s t n o r,CL k f s t n o r] [.b true]:=by
 refine body_by (f:=ir_laws_eqClaim) rfl ?_; simp only [ir_laws_eqClaim,zn,zs,zq,zi,zg,zp]
 simp (disch:=first|omega|simp only[vl];omega) only [vcd,LS_known,LI_known,LL_known]
 refine call_by (eqStringS_t (K:=K) (a:=t) h.lt) rfl ?_
 simp (disch:=first|omega|simp only[vl];omega) only [vcd,LS_known,LI_known,LL_known]
 refine call_by (eqIntS_t (K:=K) (a:=n) h.ln) rfl ?_
 simp (disch:=first|omega|simp only[vl];omega) only [vcd,LS_known,LI_known,LL_known]
 refine call_by (eqIntS_t (K:=K) (a:=o) h.lo) rfl ?_
 simp (disch:=first|omega|simp only[vl];omega) only [vcd,LS_known,LI_known,LL_known]
 refine call_by (eqIntSS_t (K:=K) (a:=r) h.lr h.lrs) rfl ?_
 simp (disch:=first|omega|simp only[vl];omega) only [vcd,LS_known,LI_known,LL_known]
end Go.Cat
