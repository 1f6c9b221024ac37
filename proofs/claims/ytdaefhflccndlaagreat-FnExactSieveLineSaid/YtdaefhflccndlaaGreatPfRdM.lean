/-
 Matchings read back: PathOfMatching and l32Matching of the reference, for any list and text.
-/
import Derived.Test.YtdaefhflccndlaaGreatPfMatP
import Derived.Test.YtdaefhflccndlaaGreatPfPI
import Derived.Test.YtdaefhflccndlaaGreatPfRdQ
set_option linter.unusedSimpArgs false
set_option linter.unusedVariables false
namespace Go.Cat
variable {K:Nat→List D→List D→Prop}
def pmT (m:List Int):Nat→List Nat
 | 0=>[]
 | i+1=>pmT m i++[if (i:Int)<atI m i then 117 else 100]
theorem pmT_len {m:List Int}:∀ i,(pmT m i).length=i
 | 0=>rfl
 | i+1=>by simp [pmT,pmT_len i]
def pomR (m:List Int):List Nat:=if ncmF m=true then pmT m m.length else []
theorem pom_s [HA K] {m:List Int} (h:m.length≤1099511627776):K 581 [LI m] [.s (pomR m),.b (ncmF m)]:=by
 have k1:=ncm_s (K:=K) (m:=m) h
 refine body_by (f:=ir_spec_PathOfMatching) rfl ?_; simp only [ir_spec_PathOfMatching,zn,zs,zq,zi,zg,zp]
 simp (disch:=first|omega|simp only[vl];omega) only [vcd]
 by_cases hn:ncmF m=true
 ·have h16:m.length≤16:=by
   simp only [ncmF,qba] at hn
   exact (matF_t hn.1).1
  rw [hn] at k1 ⊢
  rw [pomR,if_pos hn]
  refine loop_ix (fun _=>True) (fun i=>[LI m,.u,.u,.s (pmT m i),.n i,.u,.u]) m.length trivial rfl (fun i hi _=>?_) (fun _=>?_)
  ·have hl:=pmT_len (m:=m) i
   rw [pmT]
   by_cases hc:(i:Int)<atI m i
   ·rw [if_pos hc]
    simp (disch:=first|omega|simp only[vl];omega) only [vcd]
    refine call_by (k1) rfl ?_
    simp (disch:=first|omega|simp only[vl];omega) only [vcd]
   ·rw [if_neg hc]
    simp (disch:=first|omega|simp only[vl];omega) only [vcd]
    refine call_by (k1) rfl ?_
    simp (disch:=first|omega|simp only[vl];omega) only [vcd]
  ·simp (disch:=first|omega|simp only[vl];omega) only [vcd]
   refine call_by (k1) rfl ?_
   simp (disch:=first|omega|simp only[vl];omega) only [vcd]
 ·have hn:ncmF m=false:=by simpa using hn
  rw [hn] at k1 ⊢
  have e:pomR m=[]:=by simp [pomR,hn]
  rw [e]
  refine loop_ix (fun _=>True) (fun _=>[LI m,.u,.u,.s [],.n 0,.u,.u]) 0 trivial rfl (fun i hi _=>absurd hi (by omega)) (fun _=>?_)
  by_cases h0:m.length=0
  ·simp (disch:=first|omega|simp only[vl];omega) only [vcd]
   refine call_by (k1) rfl ?_
   simp (disch:=first|omega|simp only[vl];omega) only [vcd]
  ·simp (disch:=first|omega|simp only[vl];omega) only [vcd]
   refine call_by (k1) rfl ?_
   simp (disch:=first|omega|simp only[vl];omega) only [vcd]
   refine call_by (k1) rfl ?_
   simp (disch:=first|omega|simp only[vl];omega) only [vcd]
end Go.Cat
