/-
 Triangulations of trees, both sides.
-/
import Derived.Test.YtgncagjobmbmaaaPfTri
set_option linter.unusedSimpArgs false
set_option linter.unusedVariables false
namespace Go.Cat
variable {K:Nat→List D→List D→Prop}
theorem bef_s [HA K] {x y:List Int} (hx:row2 x) (hy:row2 y):K 374 [LI x,LI y] [.b (ltR x y)]:=by
 have lx:x.length=2:=hx
 have ly:y.length=2:=hy
 refine body_by (f:=ir_spec_l7Before) rfl ?_; simp only [ir_spec_l7Before,zn,zs,zq,zi,zg,zp]
 simp (disch:=omega) only [vcd]
 by_cases h1:atI x 0<atI y 0
 ·simp (disch:=omega) only [vcd]
  simp [ltR,h1]
 ·by_cases h2:atI x 0=atI y 0
  ·simp (disch:=omega) only [vcd,h2]
   simp [ltR,h2]
  ·simp (disch:=omega) only [vcd]
   simp [ltR,h1,h2]
theorem atL_memT {b:List (List Int)} {i:Nat} (h:i<b.length):atL b i∈b:=by simp [atL,h]
theorem takeL {l:List (List Int)} {k:Nat} (h:k<l.length):l.take (k+1)=l.take k++[atL l k]:=by
 rw [qta h]; simp [atL,h]
theorem dropLL {l:List (List Int)} {k:Nat} (h:k<l.length):l.drop k=atL l k::l.drop (k+1):=by
 rw [List.drop_eq_getElem_cons h]; simp [atL,h]
theorem sub_tkL {l:List (List Int)} {k:Nat}:sub l 0 k=l.take k:=by simp [sub]
theorem sub_drL {l:List (List Int)} {k:Nat}:sub l k l.length=l.drop k:=by simp [sub]
theorem LL_toT {rs:List (List Int)} {j:Int} (h:0≤j∧j≤rs.length):subD (LL rs) none (some (.n j))=some (LL (sub rs 0 j)):=sub_map LI bound_none (bound_some (by omega)) (by omega) (by omega)
theorem put_s [HA K] {l:List (List Int)} {x:List Int} (hl:l.length≤100000) (hr:∀ z∈l,row2 z) (hx:row2 x):K 362 [LL l,LI x] [LL (insV x l.reverse).reverse]:=by
 refine body_by (f:=ir_spec_l7Put) rfl ?_; simp only [ir_spec_l7Put,zn,zs,zq,zi,zg,zp]
 simp (disch:=first|omega|simp only[vl];omega) only [vcd]
 refine loop_wh (fun (k:Nat)=>k≤l.length∧(insV x (l.take k).reverse).reverse++l.drop k=(insV x l.reverse).reverse) (fun k=>[LL l,LI x,.u,.n k,.u]) (fun k=>k) l.length ⟨Nat.le_refl _,by rw [List.take_length,List.drop_length,List.append_nil]⟩ rfl ?_
 intro k hk
 obtain ⟨h1,h2⟩:=hk
 cases k with
 | zero=>
  have e:sub l 0 (0:Int)=[]:=by simp [sub]
  have e2:sub l 0 (l.length:Int)=l:=by simp [sub]
  rw [List.take_zero,List.drop_zero] at h2
  simp (disch:=first|omega|simp only[vl];omega) only [vcd,LL_nil,ll_1,LL_appT,LL_toT,e,e2]
  rw [← h2]
  simp [insV]
 | succ k=>
  have hlt:k<l.length:=by omega
  have hz:=hr _ (atL_memT hlt)
  have kb:=bef_s (K:=K) hx hz
  have et:=takeL hlt
  rw [et,List.reverse_append,List.reverse_singleton,List.singleton_append] at h2
  simp (disch:=first|omega|simp only[vl];omega) only [vcd,qas]
  refine call_by (kb) rfl ?_
  cases hc:ltR x (atL l k)
  ·rw [insV,hc] at h2
   have e1:sub l 0 ((k:Int)+1)=l.take (k+1):=by rw [show (k:Int)+1=((k+1:Nat):Int) by omega,sub_tkL]
   have e2:sub l ((k:Int)+1) (l.length:Nat)=l.drop (k+1):=by rw [show (k:Int)+1=((k+1:Nat):Int) by omega,sub_drL]
   have e3:(l.take (k+1)).length=k+1:=by simp; omega
   have e4:(l.drop (k+1)).length≤l.length:=by simp
   simp (disch:=first|omega|simp only[vl];omega) only [vcd,qas,LL_nil,ll_1,LL_appT,LL_toT,e1,e2]
   rw [← h2,et]
   simp
  ·rw [insV,if_pos hc,List.reverse_cons,qaa,List.singleton_append,← dropLL hlt] at h2
   simp (disch:=first|omega|simp only[vl];omega) only [vcd,qas]
   exact ⟨k,by omega,⟨by omega,h2⟩,rfl⟩
end Go.Cat
