/-
 Friezes: what the reference reckons.
-/
import Derived.Test.YtgncagjobmbmaaaPfFrzL
import Derived.Test.YtgncagjobmbmaaaPfIn
import Derived.Test.YtgncagjobmbmaaaIrHas
set_option linter.unusedSimpArgs false
set_option linter.unusedVariables false
namespace Go.Cat
variable {K:Nat→List D→List D→Prop}
theorem LL_appQ {rs qs:List (List Int)} (h:rs.length+qs.length≤1099511627776):appD false (LL rs) (LL qs)=some (LL (rs++qs)):=LL_app ⟨h,rfl⟩
theorem appZ {p:List Int} (h:p.length≤1048576):appD true (.l []) (LI p)=some (LI p):=LI_app (zs:=[]) (by simp; omega)
theorem map_snocQ {α:Type} {f:Nat→α} {n:Nat}:(List.range (n+1)).map f=(List.range n).map f++[f n]:=by simp [List.range_succ]
def fzB (q:List Int):Bool:=q.all (inR 1 100)&&inR 3 10 q.length
theorem fine_s [HA K] {q:List Int} (h:q.length≤1048576):K 180 [LI q] [.b (fzB q)]:=by
 refine body_by (f:=ir_spec_l22Fine) rfl ?_; simp only [ir_spec_l22Fine,zn,zs,zq,zi,zg,zp]
 simp (disch:=first|omega|simp only[vl];omega) only [vcd]
 refine loop_ix (fun i=>∀ j:Nat,j<i→inR 1 100 (atI q j)=true) (fun i=>[LI q,.u,.n i,.u,.u]) q.length (by simp) rfl (fun i hi hP=>?_) (fun hP=>?_)
 ·cases hx:inR 1 100 (atI q i)
  ·simp (disch:=first|omega|simp only[vl];omega) only [vcd]
   repeat (first | (refine call_by (l1In_ok (K:=K)) rfl ?_; try simp (disch:=first|omega|simp only[vl];omega) only [vcd,hx]))
   simp [fzB,all_f hi hx]
  ·simp (disch:=first|omega|simp only[vl];omega) only [vcd]
   repeat (first | (refine call_by (l1In_ok (K:=K)) rfl ?_; try simp (disch:=first|omega|simp only[vl];omega) only [vcd,hx]))
   exact all_s hP hx
 ·simp (disch:=first|omega|simp only[vl];omega) only [vcd]
  refine call_by (l1In_ok (K:=K)) rfl ?_
  simp (disch:=first|omega|simp only[vl];omega) only [vcd]
  simp [fzB,all_t hP]
theorem fzB_iff {q:List Int}:fzB q=true↔(∀ x∈q,1≤x∧x≤100)∧3≤q.length∧q.length≤10:=by
 simp only [fzB,qba,qat,inR_iff]
 constructor
 ·rintro ⟨a,b⟩; exact ⟨a,by omega,by omega⟩
 ·rintro ⟨a,b,c⟩; exact ⟨a,by omega⟩
theorem atI_memQ {m:List Int} {i:Nat} (h:i<m.length):atI m i∈m:=by simp [atI,h]
end Go.Cat
