/-
 Sums of weights; a tree's text tells the tree.
-/
import Derived.Test.YtihgdjeahjfhfaaGreatPfOrdM
set_option linter.unusedSimpArgs false
set_option linter.unusedVariables false
namespace Go.Cat
theorem oc_pre:∀ {x y:BT} {a b:List Nat},x.t++a=y.t++b→x=y∧a=b
 | .lf,.lf,a,b,h=>by simpa [BT.t] using h
 | .lf,.nd _ _,a,b,h=>by simp [BT.t] at h
 | .nd _ _,.lf,a,b,h=>by simp [BT.t] at h
 | .nd l r,.nd l' r',a,b,h=>by
  simp only [BT.t,List.cons_append,qaa,List.cons.injEq,true_and,List.nil_append] at h
  obtain ⟨h1,h2⟩:=oc_pre h
  obtain ⟨h3,h4⟩:=oc_pre h2
  subst h1; subst h3
  simp only [List.cons.injEq,true_and] at h4
  exact ⟨rfl,h4⟩
theorem oc_inj {x y:BT} (h:x.t=y.t):x=y:=(oc_pre (a:=[]) (b:=[]) (by rw [h])).1
theorem sum_setI:∀ {l:List Int} {i:Nat} {v:Int},i<l.length→atI l (i:Nat)<v→l.sum<(l.set i v).sum
 | [],i,v,h,_=>by simp at h
 | a::l,0,v,_,h=>by
  simp [atI] at h
  simp only [List.set_cons_zero,List.sum_cons]
  omega
 | a::l,i+1,v,h,h2=>by
  have:=sum_setI (l:=l) (i:=i) (v:=v) (by simpa using h) (by simpa [atI] using h2)
  simp only [List.set_cons_succ,List.sum_cons]
  omega
theorem sum_monI:∀ {a b:List Int},a.length=b.length→(∀ i:Nat,i<a.length→atI a (i:Nat)≤atI b (i:Nat))→a.sum≤b.sum
 | [],[],_,_=>by simp
 | a::l,b::m,h,h2=>by
  have h0:=h2 0 (by simp)
  have:=sum_monI (a:=l) (b:=m) (by simpa using h) (fun i hi=>by
   have:=h2 (i+1) (by simpa using hi)
   simpa [atI] using this)
  simp [atI] at h0
  simp only [List.sum_cons]
  omega
theorem leW_sum {x y:BT} (h:leW x y):x.w.sum≤y.w.sum:=by
 refine sum_monI (by rw [w_len,w_len]; exact h.1) (fun i hi=>h.2 i ?_)
 rw [w_len] at hi
 exact hi
theorem rr_sum {x z:BT} {v:Nat} (hv:v<x.n) (h:rrB x (v:Nat)=some z):x.w.sum<z.w.sum:=by
 obtain ⟨a,c,hab⟩:=at_nd (x:=x) (v:=(v:Nat)) (by omega) (by omega)
 cases a with
 | lf=>rw [rrB_lf (by omega) (by omega) hab] at h; cases h
 | nd a b=>
  rw [rrB_nd (by omega) (by omega) hab] at h
  injection h with h
  subst h
  rw [rep_w hv hab]
  have e:=w_at (x:=x) (v:=v-b.n-1) (by omega)
  rw [at_p hv hab] at e
  simp only [rzB] at e
  refine sum_setI (by rw [w_len]; omega) ?_
  rw [e]
  omega
end Go.Cat
