/-
 Sums of weights; a tree's text tells the tree.
-/
import Derived.Test.YtgncagjobmbmaaaPfOrdM
set_option linter.unusedSimpArgs false
set_option linter.unusedVariables false
namespace Go.Cat
theorem sum_setI:∀ {l:List Int} {i:Nat} {v:Int},i<l.length→atI l (i:Nat)<v→l.sum<(l.set i v).sum
 | [],i,v,h,_=>by simp at h
 | a::l,0,v,_,h=>by
  simp [atI] at h
  simp only [List.set_cons_zero,List.sum_cons]
  omega
 | a::l,i+1,v,h,h2=>by
  have:=sum_setI (l:=l) (i:=i) (v:=v) (by simpa using h) (by simpa [atI] using h2)
  simp only [List.set_cons_succ,List.sum_cons]
  omega
theorem sum_monI:∀ {a b:List Int},a.length=b.length→(∀ i:Nat,i<a.length→atI a (i:Nat)≤atI b (i:Nat))→a.sum≤b.sum
 | [],[],_,_=>by simp
 | a::l,b::m,h,h2=>by
  have h0:=h2 0 (by simp)
  have:=sum_monI (a:=l) (b:=m) (by simpa using h) (fun i hi=>by
   have:=h2 (i+1) (by simpa using hi)
   simpa [atI] using this)
  simp [atI] at h0
  simp only [List.sum_cons]
  omega
theorem sum_bdI:∀ {l:List Int},(∀ i:Nat,i<l.length→0≤atI l (i:Nat)∧atI l (i:Nat)≤8)→0≤l.sum∧l.sum≤8*l.length
 | [],_=>by simp
 | a::l,h=>by
  have h0:=h 0 (by simp)
  have:=sum_bdI (l:=l) (fun i hi=>by
   have:=h (i+1) (by simpa using hi)
   simpa [atI] using this)
  simp [atI] at h0
  simp only [List.sum_cons,qlc]
  omega
theorem leW_sum {x y:BT} (h:leW x y):x.w.sum≤y.w.sum:=by
 refine sum_monI (by rw [w_len,w_len]; exact h.1) (fun i hi=>h.2 i ?_)
 rw [w_len] at hi
 exact hi
theorem w_sum {x:BT} (h:x.n≤8):0≤x.w.sum∧x.w.sum≤64:=by
 have:=sum_bdI (l:=x.w) (fun i hi=>by
  rw [w_len] at hi
  have:=w_end hi
  omega)
 rw [w_len] at this
 omega
theorem rr_sum {x z:BT} {v:Nat} (hv:v<x.n) (h:rrB x (v:Nat)=some z):x.w.sum<z.w.sum:=by
 obtain ⟨a,c,hab⟩:=at_nd (x:=x) (v:=(v:Nat)) (by omega) (by omega)
 cases a with
 | lf=>rw [rrB_lf (by omega) (by omega) hab] at h; cases h
 | nd a b=>
  rw [rrB_nd (by omega) (by omega) hab] at h
  injection h with h
  subst h
  rw [rep_w hv hab]
  have e:=w_at (x:=x) (v:=v-b.n-1) (by omega)
  rw [at_p hv hab] at e
  simp only [rzB] at e
  refine sum_setI (by rw [w_len]; omega) ?_
  rw [e]
  omega
end Go.Cat
