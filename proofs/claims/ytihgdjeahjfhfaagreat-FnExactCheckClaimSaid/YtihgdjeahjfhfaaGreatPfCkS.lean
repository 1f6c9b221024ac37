/-
 Sorting of rows of three numbers.
-/
import Derived.Test.YtihgdjeahjfhfaaGreatPfSrt
set_option linter.unusedSimpArgs false
set_option linter.unusedVariables false
namespace Go.Cat
variable {K:Nat→List D→List D→Prop}
def lt3 (x y:List Int):Bool:=decide (atI x 0<atI y 0) || (decide (atI x 0=atI y 0)&&(decide (atI x 1<atI y 1) || (decide (atI x 1=atI y 1)&&decide (atI x 2<atI y 2))))
def row3 (x:List Int):Prop:=x.length=3
def insW (x:List Int):List (List Int)→List (List Int)
 | []=>[x]
 | y::t=>if lt3 x y=true then y::insW x t else x::y::t
theorem insW_perm {x:List Int}:∀ t,(insW x t).Perm (x::t)
 | []=>.refl _
 | y::t=>by
  unfold insW
  split
  ·exact ((insW_perm t).cons y).trans (List.Perm.swap x y t)
  ·exact .refl _
def srfW (d:List (List Int)):List (List Int):=(d.foldl (fun t x=>insW x t) []).reverse
theorem foldW_perm:∀ (d t:List (List Int)),(d.foldl (fun t x=>insW x t) t).Perm (d++t)
 | [],t=>.refl _
 | x::d,t=>by
  rw [List.foldl_cons]
  refine (foldW_perm d (insW x t)).trans ?_
  exact ((insW_perm t).append_left d).trans List.perm_middle
theorem foldW_len (d t:List (List Int)):(d.foldl (fun t x=>insW x t) t).length=t.length+d.length:=by
 rw [(foldW_perm d t).length_eq,qla]; omega
theorem foldW_mem {z:List Int} {d t:List (List Int)}:z∈d.foldl (fun t x=>insW x t) t↔z∈d∨z∈t:=by
 rw [(foldW_perm d t).mem_iff,qma]
theorem srfW_perm {d:List (List Int)}:(srfW d).Perm d:=by
 unfold srfW
 exact (List.reverse_perm _).trans (by simpa using foldW_perm d [])
def cm3 (x y:List Int):Int:=if lt3 x y=true then -1 else if lt3 y x=true then 1 else 0
theorem cm3_neg {x y:List Int}:decide (cm3 x y<0)=lt3 x y:=by
 unfold cm3
 cases lt3 x y
 ·cases lt3 y x <;> rfl
 ·rfl
theorem lt3_as {x y:List Int} (h:lt3 x y=true):lt3 y x=false:=by
 simp only [lt3,Bool.or_eq_true,qba,qde,Bool.or_eq_false_iff,Bool.and_eq_false_iff,decide_eq_false_iff_not] at*
 omega
theorem scmp3 [HA K] {x y:List Int} (hx:row3 x) (hy:row3 y):K 364 [LI x,LI y] [.n (cm3 x y)]:=by
 have lx:x.length=3:=hx
 have ly:y.length=3:=hy
 refine body_by (f:=ir_slices_Compare___int_int_) rfl ?_; simp only [ir_slices_Compare___int_int_,zn,zs,zq,zi,zg,zp]
 simp (disch:=first|omega|simp only[vl];omega) only [vcd]
 refine loop_ix (fun i=>∀ j:Nat,j<i→atI x j=atI y j) (fun i=>[LI x,LI y,.u,.u,.u,.u,.u,LI x,.n x.length,.n i,.u,.u,.u,.u]) 3 (by simp) (by rw [lx]; rfl) (fun i hi hP=>?_) (fun hP=>?_)
 ·simp (disch:=first|omega|simp only[vl];omega) only [vcd]
  refine call_by (ccmp_ok (K:=K)) rfl ?_
  have hi2:i=0∨i=1∨i=2:=by omega
  have h0:1≤i→atI x 0=atI y 0:=fun q=>hP 0 (by omega)
  have h1:i=2→atI x 1=atI y 1:=fun q=>hP 1 (by omega)
  have key:∀ a b:List Int,(1≤i→atI a 0=atI b 0)→(i=2→atI a 1=atI b 1)→atI a i<atI b i→lt3 a b=true:=fun a b q0 q1 q=>by
   rcases hi2 with r | r | r
   ·subst r
    have q:atI a 0<atI b 0:=q
    simp [lt3,q]
   ·have e0:=q0 (by omega)
    subst r
    have q:atI a 1<atI b 1:=q
    simp [lt3,q,e0]
   ·have e0:=q0 (by omega)
    have e1:=q1 r
    subst r
    have q:atI a 2<atI b 2:=q
    simp [lt3,q,e0,e1]
  by_cases h2:atI x i<atI y i
  ·rw [if_pos h2]
   simp (disch:=first|omega|simp only[vl];omega) only [vcd]
   simp [cm3,key x y h0 h1 h2]
  ·rw [if_neg h2]
   by_cases h3:atI y i<atI x i
   ·rw [if_pos h3]
    simp (disch:=first|omega|simp only[vl];omega) only [vcd]
    have e:=key y x (fun q=>(h0 q).symm) (fun q=>(h1 q).symm) h3
    simp [cm3,e,lt3_as e]
   ·rw [if_neg h3]
    simp (disch:=first|omega|simp only[vl];omega) only [vcd]
    exact all_s hP (by omega)
 ·have a:atI x 0=atI y 0:=hP 0 (by omega)
  have b:atI x 1=atI y 1:=hP 1 (by omega)
  have c:atI x 2=atI y 2:=hP 2 (by omega)
  simp (disch:=first|omega|simp only[vl];omega) only [vcd]
  simp [cm3,lt3,a,b,c]
theorem ins3 [HA K] {d:List (List Int)} (hl:d.length≤12) (hr:∀ x∈d,row3 x):K 382 [LL d,.n 0,.n d.length,.f 364 []] [LL (srfW d)]:=by
 have hlen:∀ i,((d.take i).foldl (fun t x=>insW x t) []).length=min i d.length:=fun i=>by rw [foldW_len]; simp
 have hmem:∀ i,∀ x∈(d.take i).foldl (fun t x=>insW x t) [],row3 x:=fun i x hx=>by
  rcases foldW_mem.1 hx with q | q
  ·exact hr x (List.mem_of_mem_take q)
  ·cases q
 refine body_by (f:=ir_slices_insertionSortCmpFunc___int_) rfl ?_; simp only [ir_slices_insertionSortCmpFunc___int_,zn,zs,zq,zi,zg,zp]
 simp (disch:=first|omega|simp only[vl];omega) only [vcd]
 refine loop_wh (fun (i:Nat)=>i≤d.length∨i=1) (fun i=>[LL (((d.take i).foldl (fun t x=>insW x t) []).reverse++d.drop i),.n 0,.n d.length,.f 364 [],.n i,.u,.u,.u]) (fun i=>d.length-i) 1 (.inr rfl) ?_ ?_
 ·cases d with
  | nil=>rfl
  | cons x d=>simp [insW]
 ·intro i hi
  by_cases hlt:i<d.length
  ·have hs:((d.take (i+1)).foldl (fun t x=>insW x t) [])=insW (d[i]) ((d.take i).foldl (fun t x=>insW x t) []):=by
    rw [qta hlt,List.foldl_append]; rfl
   have hd:=List.drop_eq_getElem_cons hlt
   have hl1:=hlen i
   have hm1:=hmem i
   have hx:row3 (d[i]):=hr _ (List.getElem_mem hlt)
   rw [hd]
   generalize d[i]=x at hs hx hd ⊢
   obtain ⟨post,hpost⟩:∃ post,post=d.drop (i+1):=⟨_,rfl⟩
   rw [← hpost] at hd ⊢
   have hpl:i+1+post.length=d.length:=by
    have:=congrArg List.length hd
    simp only [List.length_drop,qlc] at this; omega
   rw [show min i d.length=i by omega] at hl1
   generalize hT:(d.take i).foldl (fun t x=>insW x t) []=T at hs hl1 hm1
   simp (disch:=first|omega|simp only[vl];omega) only [vcd]
   refine loop_wh (fun (y:Nat×List (List Int)×List (List Int))=>y.1=y.2.1.length∧(∀ z∈y.2.1,row3 z)∧y.2.1.length+1+y.2.2.length=d.length∧(insW x y.2.1).reverse++y.2.2=(insW x T).reverse++post) (fun y=>[LL (y.2.1.reverse++x::y.2.2),.n 0,.n d.length,.f 364 [],.n i,.n y.1,.u,.u]) (fun y=>y.1) (i,T,post) ⟨hl1.symm,hm1,by simp only; omega,rfl⟩ rfl ?_
   rintro ⟨j,t,po⟩ ⟨g1,g2,g3,g4⟩
   simp only at g1 g2 g3 g4 ⊢
   subst g1
   have hll:(t.reverse++x::po).length=d.length:=by simp; omega
   cases t with
   | nil=>
    simp only [qln,List.reverse_nil,List.nil_append] at g3 hll g4 ⊢
    simp (disch:=first|omega|simp only[vl];omega) only [vcd]
    refine ⟨i+1,by omega,.inl (by omega),?_⟩
    rw [hs,← hpost,← g4]
    have hw:IntKind.i64.wrap ((i:Int)+1)=(i:Int)+1:=wrap_i64 (by omega)
    simp only [hw,outE_some,outE_none,outE_nil,E_zero,E_succ,insW]
    simp
   | cons y t=>
    have e0:((y::t).reverse++x::po)=t.reverse++y::x::po:=by simp
    have ea:atL (t.reverse++y::x::po) t.length=y:=by
     have:=atL_app2 (a:=t.reverse) (b:=x::po) (x:=y)
     rwa [List.length_reverse] at this
    have eb:atL (t.reverse++y::x::po) ((t.length:Int)+1)=x:=by
     have:=atL_app2 (a:=t.reverse++[y]) (b:=po) (x:=x)
     simp only [qla,List.length_reverse,qlc,qln,qaa,List.singleton_append] at this
     exact this
    have ec:seL (t.reverse++y::x::po) ((t.length:Int)+1) y=t.reverse++y::y::po:=by
     have:=seL_app (a:=t.reverse++[y]) (b:=po) (x:=x) (y:=y)
     simp only [qla,List.length_reverse,qlc,qln,qaa,List.singleton_append] at this
     exact this
    have ed:seL (t.reverse++y::y::po) t.length x=t.reverse++x::y::po:=by
     have:=seL_app (a:=t.reverse) (b:=y::po) (x:=y) (y:=x)
     rwa [List.length_reverse] at this
    have hll1:(t.reverse++y::x::po).length=d.length:=by rw [← e0]; exact hll
    have hll2:(t.reverse++y::y::po).length=d.length:=by rw [← hll1]; simp
    simp only [qlc] at g3 ⊢
    rw [e0]
    have ky:K 364 [LI x,LI y] [.n (cm3 x y)]:=scmp3 hx (g2 y (by simp))
    simp (disch:=first|omega|simp only[vl];omega) only [vcd,qas,ea,eb]
    refine call_by (ky) rfl ?_
    simp (disch:=first|omega|simp only[vl];omega) only [vcd,cm3_neg]
    cases hc:lt3 x y
    ·simp (disch:=first|omega|simp only[vl];omega) only [vcd]
     refine ⟨i+1,by omega,.inl (by omega),?_⟩
     rw [hs]
     rw [insW,hc] at g4
     simp only [qft,if_false,List.reverse_cons,qaa,List.singleton_append] at g4
     rw [← hpost,← g4]
     simp
    ·simp (disch:=first|omega|simp only[vl];omega) only [vcd,qas,ea,eb,ec,ed]
     refine ⟨(t.length,t,y::po),by simp only; omega,⟨rfl,fun z hz=>g2 z (by simp [hz]),by simp only [qlc]; omega,?_⟩,by simp⟩
     rw [insW,if_pos hc] at g4
     simpa using g4
  ·simp (disch:=first|omega|simp only[vl];omega) only [vcd]
   have e1:d.take i=d:=List.take_of_length_le (by omega)
   have e2:d.drop i=[]:=List.drop_of_length_le (by omega)
   rw [e1,e2,List.append_nil]
   rfl
theorem pdq3 [HA K] {d:List (List Int)} {v:Int} (hl:d.length≤12) (hr:∀ x∈d,row3 x):K 375 [LL d,.n 0,.n d.length,.n v,.f 364 []] [LL (srfW d)]:=by
 refine body_by (f:=ir_slices_pdqsortCmpFunc___int_) rfl ?_; simp only [ir_slices_pdqsortCmpFunc___int_,zn,zs,zq,zi,zg,zp]
 simp (disch:=first|omega|simp only[vl];omega) only [vcd]
 refine loop_wh (fun (_:Unit)=>True) (fun _=>[LL d,.n 0,.n d.length,.n v,.f 364 [],.b true,.b true,.u,.u,.u,.u,.u,.u,.u,.u,.u,.u,.u,.u,.u,.u,.u,.u,.u]) (fun _=>0) () trivial rfl (fun _ _=>?_)
 simp (disch:=first|omega|simp only[vl];omega) only [vcd]
 refine call_by (ins3 (K:=K) hl hr) rfl ?_
 simp (disch:=first|omega|simp only[vl];omega) only [vcd]
theorem sortf3 [HA K] {d:List (List Int)} (hl:d.length≤12) (hr:∀ x∈d,row3 x):K 363 [LL d,.f 364 []] [LL (srfW d)]:=by
 obtain ⟨v,hv⟩:=blen_ok (K:=K) (n:=d.length) hl
 refine body_by (f:=ir_slices_SortFunc_____int___int_) rfl ?_; simp only [ir_slices_SortFunc_____int___int_,zn,zs,zq,zi,zg,zp]
 simp (disch:=first|omega|simp only[vl];omega) only [vcd,wrap_u64]
 refine call_by (hv) rfl ?_
 simp (disch:=first|omega|simp only[vl];omega) only [vcd]
 refine call_by (pdq3 (K:=K) (v:=v) hl hr) rfl ?_
 simp (disch:=first|omega|simp only[vl];omega) only [vcd]
end Go.Cat
