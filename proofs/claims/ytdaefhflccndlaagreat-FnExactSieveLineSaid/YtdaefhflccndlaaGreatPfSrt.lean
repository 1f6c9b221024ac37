/-
 Sorting of rows: insertion, as the library does it for short lists.
-/
import Derived.Test.YtdaefhflccndlaaGreatPfIn
import Derived.Test.YtdaefhflccndlaaGreatIrHas
set_option linter.unusedSimpArgs false
set_option linter.unusedVariables false
namespace Go.Cat
variable {K:Nat→List D→List D→Prop}
def ltR (x y:List Int):Bool:=decide (atI x 0<atI y 0) || (decide (atI x 0=atI y 0)&&decide (atI x 1<atI y 1))
def row2 (x:List Int):Prop:=x.length=2
theorem row2_eq {x:List Int} (h:row2 x):x=[atI x 0,atI x 1]:=by
 obtain ⟨a,b,rfl⟩:∃ a b,x=[a,b]:=by
  match x,h with
  | [a,b],_=>exact ⟨a,b,rfl⟩
 rfl
theorem ltR_tr2 {x y z:List Int} (h1:ltR x z=false) (h2:ltR y z=true):ltR y x=true:=by
 simp only [ltR,Bool.or_eq_true,qba,qde,Bool.or_eq_false_iff,Bool.and_eq_false_iff,decide_eq_false_iff_not] at*
 omega
theorem ltR_as {x y:List Int} (h:ltR x y=true):ltR y x=false:=by
 simp only [ltR,Bool.or_eq_true,qba,qde,Bool.or_eq_false_iff,Bool.and_eq_false_iff,decide_eq_false_iff_not] at*
 omega
theorem ltR_eq {x y:List Int} (hx:row2 x) (hy:row2 y) (h1:ltR x y=false) (h2:ltR y x=false):x=y:=by
 simp only [ltR,Bool.or_eq_false_iff,Bool.and_eq_false_iff,decide_eq_false_iff_not] at*
 have a:atI x 0=atI y 0:=by omega
 have b:atI x 1=atI y 1:=by omega
 rw [row2_eq hx,row2_eq hy,a,b]
def insV (x:List Int):List (List Int)→List (List Int)
 | []=>[x]
 | y::t=>if ltR x y=true then y::insV x t else x::y::t
theorem insV_len {x:List Int}:∀ t,(insV x t).length=t.length+1
 | []=>rfl
 | y::t=>by
  unfold insV
  split
  ·simp [insV_len t]
  ·rfl
theorem insV_mem {x z:List Int}:∀ {t},z∈insV x t↔z=x∨z∈t
 | []=>by simp [insV]
 | y::t=>by
  unfold insV
  split
  ·simp only [qmn,insV_mem (t:=t)]
   constructor <;> rintro (h | h | h) <;> simp [h]
  ·simp
theorem insV_comm {x y:List Int} (hx:row2 x) (hy:row2 y):∀ t,insV x (insV y t)=insV y (insV x t)
 | []=>by
  simp only [insV]
  cases h1:ltR x y
  ·cases h2:ltR y x
   ·rw [ltR_eq hx hy h1 h2]
   ·simp
  ·simp [ltR_as h1]
 | z::t=>by
  have ih:=insV_comm hx hy t
  simp only [insV]
  cases h1:ltR y z <;> cases h2:ltR x z
  ·simp only [qft,if_false,insV,h1,h2]
   cases h3:ltR x y
   ·cases h4:ltR y x
    ·rw [ltR_eq hx hy h3 h4]
    ·simp
   ·simp [ltR_as h3]
  ·have:=ltR_tr2 h1 h2
   simp [insV,h1,h2,this]
  ·have:=ltR_tr2 h2 h1
   simp [insV,h1,h2,this]
  ·simp [insV,h1,h2,ih]
def srtV (d:List (List Int)):List (List Int):=d.foldl (fun t x=>insV x t) []
def srfF (d:List (List Int)):List (List Int):=(srtV d).reverse
theorem srtV_perm {d e:List (List Int)} (h:d.Perm e) (h2:∀ x∈d,row2 x):srtV d=srtV e:=
 List.Perm.foldl_eq' h (fun x hx y hy z=>(insV_comm (h2 x hx) (h2 y hy) z).symm) []
theorem srtF_perm {d e:List (List Int)} (h:d.Perm e) (h2:∀ x∈d,row2 x):srfF d=srfF e:=by rw [srfF,srfF,srtV_perm h h2]
theorem fold_len:∀ (d t:List (List Int)),(d.foldl (fun t x=>insV x t) t).length=t.length+d.length
 | [],t=>rfl
 | x::d,t=>by
  rw [List.foldl_cons,fold_len d,insV_len,qlc]; omega
theorem srtV_len {d:List (List Int)}:(srtV d).length=d.length:=by rw [srtV,fold_len]; simp
theorem srtF_len {d:List (List Int)}:(srfF d).length=d.length:=by rw [srfF,List.length_reverse,srtV_len]
theorem fold_mem {z:List Int}:∀ {d t:List (List Int)},z∈d.foldl (fun t x=>insV x t) t↔z∈d∨z∈t
 | [],t=>by simp
 | x::d,t=>by
  rw [List.foldl_cons,fold_mem (d:=d),insV_mem,qmn]
  constructor
  ·rintro (h | h | h)
   ·exact .inl (.inr h)
   ·exact .inl (.inl h)
   ·exact .inr h
  ·rintro ((h | h) | h)
   ·exact .inr (.inl h)
   ·exact .inl h
   ·exact .inr (.inr h)
theorem srtF_mem {z:List Int} {d:List (List Int)}:z∈srfF d↔z∈d:=by rw [srfF,List.mem_reverse,srtV,fold_mem]; simp
theorem nanS_ok [HA K] {x:Int}:K 211 [.n x] [.b false]:=by
 refine body_by (f:=ir_cmp_isNaN_int_) rfl ?_; simp only [ir_cmp_isNaN_int_,zn,zs,zq,zi,zg,zp]
 simp (disch:=omega) only [vcd]
theorem ccmp_ok [HA K] {x y:Int}:K 377 [.n x,.n y] [.n (if x<y then -1 else if y<x then 1 else 0)]:=by
 refine body_by (f:=ir_cmp_Compare_int_) rfl ?_; simp only [ir_cmp_Compare_int_,zn,zs,zq,zi,zg,zp]
 simp (disch:=omega) only [vcd]
 refine call_by (nanS_ok (K:=K)) rfl ?_
 simp (disch:=omega) only [vcd]
 refine call_by (nanS_ok (K:=K)) rfl ?_
 by_cases h:x<y
 ·simp (disch:=omega) only [vcd]
  rw [if_pos h]
 ·by_cases h2:y<x
  ·simp (disch:=omega) only [vcd]
   rw [if_neg h,if_pos h2]
  ·simp (disch:=omega) only [vcd]
   rw [if_neg h,if_neg h2]
def cmR2 (x y:List Int):Int:=if ltR x y=true then -1 else if ltR y x=true then 1 else 0
theorem cmR2_neg {x y:List Int}:decide (cmR2 x y<0)=ltR x y:=by
 unfold cmR2
 cases ltR x y
 ·cases ltR y x <;> rfl
 ·rfl
theorem scmp_ok [HA K] {x y:List Int} (hx:row2 x) (hy:row2 y):K 364 [LI x,LI y] [.n (cmR2 x y)]:=by
 have lx:x.length=2:=hx
 have ly:y.length=2:=hy
 refine body_by (f:=ir_slices_Compare___int_int_) rfl ?_; simp only [ir_slices_Compare___int_int_,zn,zs,zq,zi,zg,zp]
 simp (disch:=omega) only [vcd]
 refine loop_ix (fun i=>∀ j:Nat,j<i→atI x j=atI y j) (fun i=>[LI x,LI y,.u,.u,.u,.u,.u,LI x,.n x.length,.n i,.u,.u,.u,.u]) 2 (by simp) rfl (fun i hi hP=>?_) (fun hP=>?_)
 ·simp (disch:=omega) only [vcd]
  refine call_by (ccmp_ok (K:=K)) rfl ?_
  have hi2:i=0∨i=1:=by omega
  have h0:i=1→atI x 0=atI y 0:=fun q=>hP 0 (by omega)
  by_cases h1:atI x i<atI y i
  ·rw [if_pos h1]
   simp (disch:=omega) only [vcd]
   have e:ltR x y=true:=by
    rcases hi2 with q | q
    ·subst q
     have h1:atI x 0<atI y 0:=h1
     simp [ltR,h1]
    ·have:=h0 q
     subst q
     have h1:atI x 1<atI y 1:=h1
     simp [ltR,h1,this]
   simp [cmR2,e]
  ·rw [if_neg h1]
   by_cases h2:atI y i<atI x i
   ·rw [if_pos h2]
    simp (disch:=omega) only [vcd]
    have e:ltR y x=true:=by
     rcases hi2 with q | q
     ·subst q
      have h2:atI y 0<atI x 0:=h2
      simp [ltR,h2]
     ·have:=h0 q
      subst q
      have h2:atI y 1<atI x 1:=h2
      simp [ltR,h2,this]
    simp [cmR2,e,ltR_as e]
   ·rw [if_neg h2]
    simp (disch:=omega) only [vcd]
    exact all_s hP (by omega)
 ·have a:atI x 0=atI y 0:=hP 0 (by omega)
  have b:atI x 1=atI y 1:=hP 1 (by omega)
  simp (disch:=omega) only [vcd]
  simp [cmR2,ltR,a,b]
theorem wrap_u64 {x:Int} (h:0≤x∧x≤1000000):IntKind.u64.wrap x=x:=by
 have e:x % 18446744073709551616=x:=Int.emod_eq_of_lt h.1 (by omega)
 simp [IntKind.wrap,IntKind.bits,IntKind.signed,e]
def isN1 (o:Option (List D)):Bool:=match o with
 | some [.i .i64 _]=>true
 | _=>false
theorem isN1_spec {o:Option (List D)} (h:isN1 o=true):∃ v:Int,o=some [.n v]:=by
 unfold isN1 at h
 split at h
 ·exact ⟨_,rfl⟩
 ·cases h
abbrev tlen:List (Nat×IF):=[(391,ir_math_bits_Len64)]
theorem len0:allB 13 (fun n=>isN1 (evF (tableOf tlen) 60 8 391 [.i .u64 (n:Nat)]))=true:=by kernel_rfl
theorem len64_ok [HA K] {n:Nat} (h:n≤12):∃ v:Int,K 391 [.i .u64 (n:Nat)] [.n v]:=by
 obtain ⟨v,hv⟩:=isN1_spec (allB_spec len0 n (by omega))
 exact ⟨v,run tlen 60 8 391 hv⟩
theorem blen_ok [HA K] {n:Nat} (h:n≤12):∃ v:Int,K 376 [.i .u64 (n:Nat)] [.n v]:=by
 obtain ⟨v,hv⟩:=len64_ok (K:=K) h
 refine ⟨v,?_⟩
 refine body_by (f:=ir_math_bits_Len) rfl ?_; simp only [ir_math_bits_Len,zn,zs,zq,zi,zg,zp]
 simp (disch:=omega) only [vcd]
 refine call_by (hv) rfl ?_
 simp (disch:=omega) only [vcd]
theorem atL_app2 {a b:List (List Int)} {x:List Int}:atL (a++x::b) a.length=x:=by simp [atL]
theorem seL_app {a b:List (List Int)} {x y:List Int}:seL (a++x::b) a.length y=a++y::b:=by simp [seL]
theorem ins_i [HA K] {d:List (List Int)} (hl:d.length≤12) (hr:∀ x∈d,row2 x):K 382 [LL d,.n 0,.n d.length,.f 364 []] [LL (srfF d)]:=by
 have hlen:∀ i,((d.take i).foldl (fun t x=>insV x t) []).length=min i d.length:=fun i=>by rw [fold_len]; simp
 have hmem:∀ i,∀ x∈(d.take i).foldl (fun t x=>insV x t) [],row2 x:=fun i x hx=>by
  rcases fold_mem.1 hx with q | q
  ·exact hr x (List.mem_of_mem_take q)
  ·cases q
 refine body_by (f:=ir_slices_insertionSortCmpFunc___int_) rfl ?_; simp only [ir_slices_insertionSortCmpFunc___int_,zn,zs,zq,zi,zg,zp]
 simp (disch:=omega) only [vcd]
 refine loop_wh (fun (i:Nat)=>i≤d.length∨i=1) (fun i=>[LL (((d.take i).foldl (fun t x=>insV x t) []).reverse++d.drop i),.n 0,.n d.length,.f 364 [],.n i,.u,.u,.u]) (fun i=>d.length-i) 1 (.inr rfl) ?_ ?_
 ·cases d with
  | nil=>rfl
  | cons x d=>simp [insV]
 ·intro i hi
  by_cases hlt:i<d.length
  ·have hs:((d.take (i+1)).foldl (fun t x=>insV x t) [])=insV (d[i]) ((d.take i).foldl (fun t x=>insV x t) []):=by
    rw [qta hlt,List.foldl_append]; rfl
   have hd:=List.drop_eq_getElem_cons hlt
   have hl1:=hlen i
   have hm1:=hmem i
   have hx:row2 (d[i]):=hr _ (List.getElem_mem hlt)
   rw [hd]
   generalize d[i]=x at hs hx hd ⊢
   obtain ⟨post,hpost⟩:∃ post,post=d.drop (i+1):=⟨_,rfl⟩
   rw [← hpost] at hd ⊢
   have hpl:i+1+post.length=d.length:=by
    have:=congrArg List.length hd
    simp only [List.length_drop,qlc] at this; omega
   rw [show min i d.length=i by omega] at hl1
   generalize hT:(d.take i).foldl (fun t x=>insV x t) []=T at hs hl1 hm1
   simp (disch:=omega) only [vcd]
   refine loop_wh (fun (y:Nat×List (List Int)×List (List Int))=>y.1=y.2.1.length∧(∀ z∈y.2.1,row2 z)∧y.2.1.length+1+y.2.2.length=d.length∧(insV x y.2.1).reverse++y.2.2=(insV x T).reverse++post) (fun y=>[LL (y.2.1.reverse++x::y.2.2),.n 0,.n d.length,.f 364 [],.n i,.n y.1,.u,.u]) (fun y=>y.1) (i,T,post) ⟨hl1.symm,hm1,by simp only; omega,rfl⟩ rfl ?_
   rintro ⟨j,t,po⟩ ⟨g1,g2,g3,g4⟩
   simp only at g1 g2 g3 g4 ⊢
   subst g1
   have hll:(t.reverse++x::po).length=d.length:=by simp; omega
   cases t with
   | nil=>
    simp only [qln,List.reverse_nil,List.nil_append] at g3 hll g4 ⊢
    simp (disch:=omega) only [vcd]
    refine ⟨i+1,by omega,.inl (by omega),?_⟩
    rw [hs,← hpost,← g4]
    have hw:IntKind.i64.wrap ((i:Int)+1)=(i:Int)+1:=wrap_i64 (by omega)
    simp only [hw,outE_some,outE_none,outE_nil,E_zero,E_succ,insV]
    simp
   | cons y t=>
    have e0:((y::t).reverse++x::po)=t.reverse++y::x::po:=by simp
    have ea:atL (t.reverse++y::x::po) t.length=y:=by
     have:=atL_app2 (a:=t.reverse) (b:=x::po) (x:=y)
     rwa [List.length_reverse] at this
    have eb:atL (t.reverse++y::x::po) ((t.length:Int)+1)=x:=by
     have:=atL_app2 (a:=t.reverse++[y]) (b:=po) (x:=x)
     simp only [qla,List.length_reverse,qlc,qln,qaa,List.singleton_append] at this
     exact this
    have ec:seL (t.reverse++y::x::po) ((t.length:Int)+1) y=t.reverse++y::y::po:=by
     have:=seL_app (a:=t.reverse++[y]) (b:=po) (x:=x) (y:=y)
     simp only [qla,List.length_reverse,qlc,qln,qaa,List.singleton_append] at this
     exact this
    have ed:seL (t.reverse++y::y::po) t.length x=t.reverse++x::y::po:=by
     have:=seL_app (a:=t.reverse) (b:=y::po) (x:=y) (y:=x)
     rwa [List.length_reverse] at this
    have hll1:(t.reverse++y::x::po).length=d.length:=by rw [← e0]; exact hll
    have hll2:(t.reverse++y::y::po).length=d.length:=by rw [← hll1]; simp
    simp only [qlc] at g3 ⊢
    rw [e0]
    have ky:K 364 [LI x,LI y] [.n (cmR2 x y)]:=scmp_ok hx (g2 y (by simp))
    simp (disch:=omega) only [vcd,qas,ea,eb]
    refine call_by (ky) rfl ?_
    simp (disch:=omega) only [vcd,cmR2_neg]
    cases hc:ltR x y
    ·simp (disch:=omega) only [vcd]
     refine ⟨i+1,by omega,.inl (by omega),?_⟩
     rw [hs]
     rw [insV,hc] at g4
     simp only [qft,if_false,List.reverse_cons,qaa,List.singleton_append] at g4
     rw [← hpost,← g4]
     simp
    ·simp (disch:=omega) only [vcd,qas,ea,eb,ec,ed]
     refine ⟨(t.length,t,y::po),by simp only; omega,⟨rfl,fun z hz=>g2 z (by simp [hz]),by simp only [qlc]; omega,?_⟩,by simp⟩
     rw [insV,if_pos hc] at g4
     simpa using g4
  ·simp (disch:=omega) only [vcd]
   have e1:d.take i=d:=List.take_of_length_le (by omega)
   have e2:d.drop i=[]:=List.drop_of_length_le (by omega)
   rw [e1,e2,List.append_nil]
   rfl
theorem pdq_ok [HA K] {d:List (List Int)} {v:Int} (hl:d.length≤12) (hr:∀ x∈d,row2 x):K 375 [LL d,.n 0,.n d.length,.n v,.f 364 []] [LL (srfF d)]:=by
 refine body_by (f:=ir_slices_pdqsortCmpFunc___int_) rfl ?_; simp only [ir_slices_pdqsortCmpFunc___int_,zn,zs,zq,zi,zg,zp]
 simp (disch:=omega) only [vcd]
 refine loop_wh (fun (_:Unit)=>True) (fun _=>[LL d,.n 0,.n d.length,.n v,.f 364 [],.b true,.b true,.u,.u,.u,.u,.u,.u,.u,.u,.u,.u,.u,.u,.u,.u,.u,.u,.u]) (fun _=>0) () trivial rfl (fun _ _=>?_)
 simp (disch:=omega) only [vcd]
 refine call_by (ins_i (K:=K) hl hr) rfl ?_
 simp (disch:=omega) only [vcd]
theorem sortf_ok [HA K] {d:List (List Int)} (hl:d.length≤12) (hr:∀ x∈d,row2 x):K 363 [LL d,.f 364 []] [LL (srfF d)]:=by
 obtain ⟨v,hv⟩:=blen_ok (K:=K) (n:=d.length) hl
 refine body_by (f:=ir_slices_SortFunc_____int___int_) rfl ?_; simp only [ir_slices_SortFunc_____int___int_,zn,zs,zq,zi,zg,zp]
 simp (disch:=omega) only [vcd,wrap_u64]
 refine call_by (hv) rfl ?_
 simp (disch:=omega) only [vcd]
 refine call_by (pdq_ok (K:=K) (v:=v) hl hr) rfl ?_
 simp (disch:=omega) only [vcd]
end Go.Cat
