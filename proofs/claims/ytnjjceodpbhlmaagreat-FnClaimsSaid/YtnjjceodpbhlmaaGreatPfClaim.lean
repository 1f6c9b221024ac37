/-
 Claims compared and copied.
-/
import Derived.Test.YtnjjceodpbhlmaaGreatPfStat
import Derived.Test.YtnjjceodpbhlmaaGreatIrHas
set_option linter.unusedSimpArgs false
set_option linter.unusedVariables false
namespace Go.Cat
variable {K:Nat→List D→List D→Prop}
theorem K9 [HA K] {a b:List Int} (h:a.length≤1099511627776):K 72 [LI a,LI b] [.b (decide (a=b))]:=by
 refine AG (f:=Hd) rfl ?_; simp only [Hd,zu]
 simp (disch:=omega) only [AA]
 by_cases hl:a.length=b.length
 ·simp (disch:=omega) only [AA]
  refine Ag (fun i=>∀ j:Nat,j<i→AD a j=AD b j) (fun i=>[LI a,LI b,.u,.u,.u,.n a.length,.n i,.u,.u]) a.length (by simp) rfl (fun i hi hP=>?_) (fun hP=>?_)
  ·by_cases he:AD a i=AD b i
   ·simp (disch:=omega) only [AA]
    exact CH hP he
   ·simp (disch:=omega) only [AA]
    have:a≠b:=by rintro rfl; exact he rfl
    simp [this]
  ·simp (disch:=omega) only [AA]
   have:a=b:=Oj hl hP
   simp [this]
 ·have:a≠b:=by rintro rfl; exact hl rfl
  simp (disch:=omega) only [AA]
  simp [this]
theorem Od [HA K] {a b:List Int} (h:a.length≤1099511627776):K 149 [LI a,LI b] [.b (decide (a=b))]:=by
 refine AG (f:=MF) rfl ?_; simp only [MF,zu]
 simp (disch:=omega) only [AA]
 by_cases hl:a.length=b.length
 ·simp (disch:=omega) only [AA]
  refine Ag (fun i=>∀ j:Nat,j<i→AD a j=AD b j) (fun i=>[LI a,LI b,.u,.n i,.u,.u,.u]) a.length (by simp) rfl (fun i hi hP=>?_) (fun hP=>?_)
  ·by_cases he:AD a i=AD b i
   ·simp (disch:=omega) only [AA]
    exact CH hP he
   ·simp (disch:=omega) only [AA]
    have:a≠b:=by rintro rfl; exact he rfl
    simp [this]
  ·simp (disch:=omega) only [AA]
   have:a=b:=Oj hl hP
   simp [this]
 ·have:a≠b:=by rintro rfl; exact hl rfl
  simp (disch:=omega) only [AA]
  simp [this]
theorem AOC [HA K] {a b:List (List Nat)} (h:a.length≤1099511627776):K 148 [LS a,LS b] [.b (decide (a=b))]:=by
 refine AG (f:=LN) rfl ?_; simp only [LN,zu]
 simp (disch:=omega) only [AA]
 by_cases hl:a.length=b.length
 ·simp (disch:=omega) only [AA]
  refine Ag (fun i=>∀ j:Nat,j<i→AL a j=AL b j) (fun i=>[LS a,LS b,.u,.n i,.u,.u,.u]) a.length (by simp) rfl (fun i hi hP=>?_) (fun hP=>?_)
  ·by_cases he:AL a i=AL b i
   ·simp (disch:=omega) only [AA,he]
    exact CH hP he
   ·have hd:(AL a i == AL b i)=false:=beq_eq_false_iff_ne.2 he
    simp (disch:=omega) only [AA,hd,Bool.not_false]
    have:a≠b:=by rintro rfl; exact he rfl
    simp [this]
  ·simp (disch:=omega) only [AA]
   have:a=b:=WW hl hP
   simp [this]
 ·have:a≠b:=by rintro rfl; exact hl rfl
  simp (disch:=omega) only [AA]
  simp [this]
theorem AJZ [HA K] {a b:List (List Nat)} (h:a.length≤1099511627776):K 153 [LS a,LS b] [.b (decide (a=b))]:=by
 refine AG (f:=NU) rfl ?_; simp only [NU,zu]
 simp (disch:=omega) only [AA]
 by_cases hl:a.length=b.length
 ·simp (disch:=omega) only [AA]
  refine Ag (fun i=>∀ j:Nat,j<i→AL a j=AL b j) (fun i=>[LS a,LS b,.u,.u,.u,.n a.length,.n i,.u,.u]) a.length (by simp) rfl (fun i hi hP=>?_) (fun hP=>?_)
  ·by_cases he:AL a i=AL b i
   ·simp (disch:=omega) only [AA,he]
    exact CH hP he
   ·have hd:(AL a i == AL b i)=false:=beq_eq_false_iff_ne.2 he
    simp (disch:=omega) only [AA,hd,Bool.not_false]
    have:a≠b:=by rintro rfl; exact he rfl
    simp [this]
  ·simp (disch:=omega) only [AA]
   have:a=b:=WW hl hP
   simp [this]
 ·have:a≠b:=by rintro rfl; exact hl rfl
  simp (disch:=omega) only [AA]
  simp [this]
theorem Ux {a b:List (List Int)} (hl:a.length=b.length) (h:∀ j:Nat,j<a.length→AH a j=AH b j):a=b:=by
 refine List.ext_getElem hl fun i h1 h2=>?_
 have:=h i h1
 simpa [AH,h1,h2] using this
theorem K3 {m:List (List Int)} {i:Nat} (h:i<m.length):AH m i∈m:=by simp [AH,h]
theorem APY [HA K] {a b:List (List Int)} (h:a.length≤1099511627776) (hr:∀ r∈a,r.length≤1099511627776):K 150 [LL a,LL b] [.b (decide (a=b))]:=by
 refine AG (f:=Ks) rfl ?_; simp only [Ks,zu]
 simp (disch:=omega) only [AA]
 by_cases hl:a.length=b.length
 ·simp (disch:=omega) only [AA]
  refine Ag (fun i=>∀ j:Nat,j<i→AH a j=AH b j) (fun i=>[LL a,LL b,.u,.n i,.u,.u,.u]) a.length (by simp) rfl (fun i hi hP=>?_) (fun hP=>?_)
  ·simp (disch:=omega) only [AA]
   refine AE (Od (K:=K) (a:=AH a i) (b:=AH b i) (hr _ (K3 hi))) rfl ?_
   by_cases he:AH a i=AH b i
   ·simp (disch:=omega) only [AA,he]
    exact CH hP he
   ·simp (disch:=omega) only [AA,he]
    have:a≠b:=by rintro rfl; exact he rfl
    simp [this]
  ·simp (disch:=omega) only [AA]
   have:a=b:=Ux hl hP
   simp [this]
 ·have:a≠b:=by rintro rfl; exact hl rfl
  simp (disch:=omega) only [AA]
  simp [this]
theorem AHF [HA K] {a b:List (List Int)} (h:a.length≤1099511627776) (hr:∀ r∈a,r.length≤1099511627776):K 154 [LL a,LL b,.f 72 []] [.b (decide (a=b))]:=by
 refine AG (f:=NT) rfl ?_; simp only [NT,zu]
 simp (disch:=omega) only [AA]
 by_cases hl:a.length=b.length
 ·simp (disch:=omega) only [AA]
  refine Ag (fun i=>∀ j:Nat,j<i→AH a j=AH b j) (fun i=>[.u,LL b,.f 72 [],.u,.u,.u,.u,.u,LL a,.n a.length,.n i,.u,.u]) a.length (by simp) rfl (fun i hi hP=>?_) (fun hP=>?_)
  ·simp (disch:=omega) only [AA]
   refine AE (K9 (K:=K) (a:=AH a i) (b:=AH b i) (hr _ (K3 hi))) rfl ?_
   by_cases he:AH a i=AH b i
   ·simp (disch:=omega) only [AA,he]
    exact CH hP he
   ·simp (disch:=omega) only [AA,he]
    have:a≠b:=by rintro rfl; exact he rfl
    simp [this]
  ·simp (disch:=omega) only [AA]
   have:a=b:=Ux hl hP
   simp [this]
 ·have:a≠b:=by rintro rfl; exact hl rfl
  simp (disch:=omega) only [AA]
  simp [this]
abbrev CL (k:Int) (f s:List Nat) (t:List (List Nat)) (n o:List Int) (r:List (List Int)):D:=.g [.n k,.s f,.s s,LS t,LI n,LI o,LL r]
theorem AU {x:List (List Nat)}:known (LS x)=some (LS x):=rfl
theorem AV {x:List Int}:known (LI x)=some (LI x):=rfl
theorem A4 {x:List (List Int)}:known (LL x)=some (LL x):=rfl
structure EF (t:List (List Nat)) (n o:List Int) (r:List (List Int)):Prop where
 lt:t.length≤1099511627776
 ln:n.length≤1099511627776
 lo:o.length≤1099511627776
 lr:r.length≤1099511627776
 lrs:∀ x∈r,x.length≤1099511627776
theorem Ah {x:List (List Nat)}:(LS x).one=true:=rfl
theorem An {x:List (List Int)}:(LL x).one=true:=rfl
theorem XR {i:Nat} {xs:List D} {x:D} {j k:Nat} (h:BH k (x,j)=true):NM (some [i]) (.g xs) x j k=xs[i]?.map fun _=>.g (xs.set i x):=by
 simp only [NM,h,if_true,Option.bind_some,TR]
theorem AM0 {i:Nat} {xs:List D} {q:IntKind} {n:Int} {j k:Nat}:NM (some [i]) (.g xs) (.i q n) j k=xs[i]?.map fun _=>.g (xs.set i (.i q n)):=XR SE
theorem AI2 {i:Nat} {xs:List D} {s:List (List Nat)}:NM (some [i]) (.g xs) (LS s) 1 3=xs[i]?.map fun _=>.g (xs.set i (LS s)):=XR (by simp [BH,LS,D.one,Be,D.flat])
theorem ecS [HA K] {k k':Int} {f s f' s':List Nat} {t t':List (List Nat)} {n o n' o':List Int} {r r':List (List Int)} (h:EF t n o r):
  K 116 [CL k f s t n o r,CL k' f' s' t' n' o' r'] [.b (decide (k=k'∧f=f'∧s=s'∧t=t'∧n=n'∧o=o'∧r=r'))]:=by
 refine AG (f:=N0) rfl ?_; simp only [N0,zu]
 by_cases hk:k=k'
 ·subst hk
  by_cases hf:f=f'
  ·subst hf
   by_cases hs:s=s'
   ·subst hs
    simp (disch:=omega) only [AA,AU,AV,A4,beq_self_eq_true]
    refine AE (AOC (K:=K) (a:=t) (b:=t') h.lt) rfl ?_
    by_cases ht:t=t'
    ·subst ht
     simp (disch:=omega) only [AA,AU,AV,A4,beq_self_eq_true,decide_true]
     refine AE (Od (K:=K) (a:=n) (b:=n') h.ln) rfl ?_
     by_cases h1:n=n'
     ·subst h1
      simp (disch:=omega) only [AA,AU,AV,A4,beq_self_eq_true,decide_true]
      refine AE (Od (K:=K) (a:=o) (b:=o') h.lo) rfl ?_
      by_cases h2:o=o'
      ·subst h2
       simp (disch:=omega) only [AA,AU,AV,A4,beq_self_eq_true,decide_true]
       refine AE (APY (K:=K) (a:=r) (b:=r') h.lr h.lrs) rfl ?_
       by_cases h3:r=r'
       ·subst h3
        simp (disch:=omega) only [AA,AU,AV,A4,beq_self_eq_true,decide_true]
       ·simp (disch:=omega) only [AA,AU,AV,A4,beq_self_eq_true,decide_eq_false h3]
      ·simp (disch:=omega) only [AA,AU,AV,A4,beq_self_eq_true,decide_eq_false h2]
       simp [h2]
     ·simp (disch:=omega) only [AA,AU,AV,A4,beq_self_eq_true,decide_eq_false h1]
      simp [h1]
    ·simp (disch:=omega) only [AA,AU,AV,A4,beq_self_eq_true,decide_eq_false ht]
     simp [ht]
   ·have e:(s == s')=false:=beq_eq_false_iff_ne.2 hs
    simp (disch:=omega) only [AA,AU,AV,A4,beq_self_eq_true,e]
    simp [hs]
  ·have e:(f == f')=false:=beq_eq_false_iff_ne.2 hf
   simp (disch:=omega) only [AA,AU,AV,A4,beq_self_eq_true,e]
   simp [hf]
 ·simp (disch:=omega) only [AA,AU,AV,A4,beq_self_eq_true]
  simp [hk]
theorem ecI [HA K] {k k':Int} {f s f' s':List Nat} {t t':List (List Nat)} {n o n' o':List Int} {r r':List (List Int)} (h:EF t n o r):
  K 118 [CL k f s t n o r,CL k' f' s' t' n' o' r'] [.b (decide (k=k'∧f=f'∧s=s'∧t=t'∧n=n'∧o=o'∧r=r'))]:=by
 refine AG (f:=LJ) rfl ?_; simp only [LJ,zu]
 by_cases hk:k=k'
 ·subst hk
  by_cases hf:f=f'
  ·subst hf
   by_cases hs:s=s'
   ·subst hs
    simp (disch:=omega) only [AA,AU,AV,A4,beq_self_eq_true]
    refine AE (AJZ (K:=K) (a:=t) (b:=t') h.lt) rfl ?_
    by_cases ht:t=t'
    ·subst ht
     simp (disch:=omega) only [AA,AU,AV,A4,beq_self_eq_true,decide_true]
     refine AE (K9 (K:=K) (a:=n) (b:=n') h.ln) rfl ?_
     by_cases h1:n=n'
     ·subst h1
      simp (disch:=omega) only [AA,AU,AV,A4,beq_self_eq_true,decide_true]
      refine AE (K9 (K:=K) (a:=o) (b:=o') h.lo) rfl ?_
      by_cases h2:o=o'
      ·subst h2
       simp (disch:=omega) only [AA,AU,AV,A4,beq_self_eq_true,decide_true]
       refine AE (AHF (K:=K) (a:=r) (b:=r') h.lr h.lrs) rfl ?_
       by_cases h3:r=r'
       ·subst h3
        simp (disch:=omega) only [AA,AU,AV,A4,beq_self_eq_true,decide_true]
       ·simp (disch:=omega) only [AA,AU,AV,A4,beq_self_eq_true,decide_eq_false h3]
      ·simp (disch:=omega) only [AA,AU,AV,A4,beq_self_eq_true,decide_eq_false h2]
       simp [h2]
     ·simp (disch:=omega) only [AA,AU,AV,A4,beq_self_eq_true,decide_eq_false h1]
      simp [h1]
    ·simp (disch:=omega) only [AA,AU,AV,A4,beq_self_eq_true,decide_eq_false ht]
     simp [ht]
   ·have e:(s == s')=false:=beq_eq_false_iff_ne.2 hs
    simp (disch:=omega) only [AA,AU,AV,A4,beq_self_eq_true,e]
    simp [hs]
  ·have e:(f == f')=false:=beq_eq_false_iff_ne.2 hf
   simp (disch:=omega) only [AA,AU,AV,A4,beq_self_eq_true,e]
   simp [hf]
 ·simp (disch:=omega) only [AA,AU,AV,A4,beq_self_eq_true]
  simp [hk]
end Go.Cat
