/-
 Numbers with commas between.
-/
import Derived.Test.YtdaefhflccndlaaGreatPfFmt
import Derived.Test.YtdaefhflccndlaaGreatPfTxt
import Derived.Test.YtdaefhflccndlaaGreatPfWr1
import Derived.Test.YtdaefhflccndlaaGreatIrHas
set_option linter.unusedSimpArgs false
set_option linter.unusedVariables false
namespace Go.Cat
variable {K:Nat→List D→List D→Prop}
def numT (l:List Int):List Nat:=if l=[] then [110,111,110,101] else glue [44] (l.map fmtI)
def i64s (l:List Int):Prop:=∀ x∈l,-9223372036854775808≤x∧x≤9223372036854775807
theorem i64s_at {l:List Int} (h:i64s l) {i:Nat} (hi:i<l.length):-9223372036854775808≤atI l i∧atI l i≤9223372036854775807:=h _ (by simp [atI,hi])
theorem map_takeN {α:Type} {l:List Int} {f:Int→α} {i:Nat} (h:i<l.length):(l.take (i+1)).map f=(l.take i).map f++[f (atI l i)]:=by
 rw [qta h,List.map_append]; simp [atI,h]
theorem numT_len {l:List Int} (h:i64s l):(numT l).length≤l.length*21+4:=by
 unfold numT
 split
 ·simp
 ·have:=glue_len (sep:=[44]) (ws:=l.map fmtI) (b:=20) fun x hx=>by
   obtain ⟨y,hy,rfl⟩:=List.mem_map.1 hx
   exact fmt_len (h y hy)
  simp only [List.length_map,qlc,qln] at this
  omega
theorem list_i [HA K] {l:List Int} (h:l.length≤1000) (h2:i64s l):K 142 [LI l] [.s (numT l)]:=by
 refine body_by (f:=ir_impl_list) rfl ?_; simp only [ir_impl_list,zn,zs,zq,zi,zg,zp]
 by_cases h0:l=[]
 ·subst h0
  have e:(([]:List Int).length:Int)=0:=rfl
  simp (disch:=first|omega|simp only[vl];omega) only [vcd,e]
  rfl
 ·have hl:0<l.length:=List.length_pos_iff.2 h0
  simp (disch:=first|omega|simp only[vl];omega) only [vcd]
  refine loop_up (fun i (r:List (List Nat))=>r=(l.take i).map fmtI) (fun i r=>[.u,.u,LS r,.u,.u,LI l,.n l.length,.n i,.u]) l.length [] rfl rfl (fun i r hi hP=>?_) (fun r hP=>?_)
  ·have hr:r.length=i:=by rw [hP]; simp; omega
   have hb:=i64s_at h2 hi
   simp (disch:=first|omega|simp only[vl];omega) only [vcd]
   refine call_by (fmt_i (K:=K) hb) rfl ?_
   simp (disch:=first|omega|simp only[vl];omega) only [vcd]
   refine ⟨_,?_,rfl⟩
   rw [hP,map_takeN hi]
  ·rw [List.take_of_length_le (by omega)] at hP
   have h3:∀ x∈r,x.length≤100000:=fun x hx=>by
    rw [hP] at hx
    obtain ⟨y,hy,rfl⟩:=List.mem_map.1 hx
    have:=fmt_len (h2 y hy)
    omega
   have h4:r.length≤100000:=by rw [hP]; simp; omega
   simp (disch:=first|omega|simp only[vl];omega) only [vcd]
   refine call_by (glued_ok (K:=K) (ws:=r) (sep:=[44]) h4 h3 (by simp)) rfl ?_
   simp (disch:=first|omega|simp only[vl];omega) only [vcd]
   rw [numT,if_neg h0,hP]
theorem nums_s34 [HA K] {l:List Int} (h:l.length≤1000) (h2:i64s l):K 137 [LI l] [.s (numT l)]:=by
 refine body_by (f:=ir_spec_l34Numbers) rfl ?_; simp only [ir_spec_l34Numbers,zn,zs,zq,zi,zg,zp]
 simp (disch:=first|omega|simp only[vl];omega) only [vcd]
 have hlen:∀ i,(glue [44] ((l.take i).map fmtI)).length≤21000:=fun i=>by
  have:=glue_len (sep:=[44]) (ws:=(l.take i).map fmtI) (b:=20) fun x hx=>by
   obtain ⟨y,hy,rfl⟩:=List.mem_map.1 hx
   exact fmt_len (h2 y (List.mem_of_mem_take hy))
  simp only [List.length_map,qlc,qln,List.length_take] at this
  omega
 refine loop_up (fun i (s:List Nat)=>s=glue [44] ((l.take i).map fmtI)) (fun i s=>[LI l,.u,.s s,.n i,.u,.u,.u]) l.length [] rfl rfl (fun i s hi hP=>?_) (fun s hP=>?_)
 ·have hb:=i64s_at h2 hi
  have hf:=fmt_len hb
  have hs:=hlen i
  rw [← hP] at hs
  by_cases h0:0<i
  ·simp (disch:=first|omega|simp only[vl];omega) only [vcd]
   refine call_by (fmt_s (K:=K) hb) rfl ?_
   simp (disch:=first|omega|simp only[vl];omega) only [vcd]
   refine ⟨_,?_,rfl⟩
   rw [map_takeN hi,glue_snoc,← hP,if_pos (by simp; omega)]
  ·simp (disch:=first|omega|simp only[vl];omega) only [vcd]
   refine call_by (fmt_s (K:=K) hb) rfl ?_
   simp (disch:=first|omega|simp only[vl];omega) only [vcd]
   refine ⟨_,?_,rfl⟩
   rw [map_takeN hi,glue_snoc,← hP,if_neg (by simp; omega)]
   simp
 ·rw [List.take_of_length_le (by omega)] at hP
  by_cases h0:l=[]
  ·have hs:s=[]:=by rw [hP,h0]; rfl
   subst hs
   simp (disch:=first|omega|simp only[vl];omega) only [vcd]
   rw [numT,if_pos h0]
  ·have hs:s≠[]:=by
    obtain ⟨l',x,rfl⟩:∃ l' x,l=l'++[x]:=⟨l.dropLast,l.getLast h0,(List.dropLast_concat_getLast h0).symm⟩
    rw [hP,List.map_append,List.map_cons,List.map_nil,glue_snoc]
    intro e
    have:=congrArg List.length e
    have:=fmt_pos (n:=x)
    simp only [qla,qln] at*
    omega
   have hb:(s == [])=false:=by simpa using hs
   simp (disch:=first|omega|simp only[vl];omega) only [vcd,hb]
   rw [numT,if_neg h0,hP]
end Go.Cat
