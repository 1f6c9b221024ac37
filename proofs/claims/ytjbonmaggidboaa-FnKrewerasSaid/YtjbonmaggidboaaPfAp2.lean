/-
 Lists of all paths: the closure that makes them, and what stands in them.
-/
import Derived.Test.YtjbonmaggidboaaPfAp
import Derived.Test.YtjbonmaggidboaaPfBT
import Derived.Test.YtjbonmaggidboaaPfRankP
set_option linter.unusedSimpArgs false
set_option linter.unusedVariables false
namespace Go.Cat
variable {K:Nat→List D→List D→Prop}
theorem apR_mem:∀ (f up down:Nat) (pre w:List Nat),up≤down→up+down<f→(w∈apR f pre up down↔∃ s,w=pre++s∧s.length=up+down∧walkH s ((down:Int)-up)=some 0)
 | 0,_,_,_,_,_,h=>by omega
 | f+1,up,down,pre,w,h1,h2=>by
  rw [apR]
  by_cases hd:down=0
  ·have hu:up=0:=by omega
   subst hd; subst hu
   rw [if_pos rfl]
   constructor
   ·intro h
    simp only [List.mem_singleton] at h
    exact ⟨[],by simp [h],rfl,rfl⟩
   ·rintro ⟨s,rfl,hs,_⟩
    obtain rfl:s=[]:=qez hs
    simp
  ·rw [if_neg hd,qma]
   constructor
   ·rintro (h | h)
    ·split at h
     ·rename_i hu
      obtain ⟨s,rfl,hs,hw⟩:=(apR_mem f (up-1) down (pre++[117]) w (by omega) (by omega)).1 h
      refine ⟨117::s,by simp,by simp; omega,?_⟩
      rw [walkH,if_pos rfl,← hw]; congr 1; omega
     ·cases h
    ·split at h
     ·rename_i hu
      obtain ⟨s,rfl,hs,hw⟩:=(apR_mem f up (down-1) (pre++[100]) w (by omega) (by omega)).1 h
      refine ⟨100::s,by simp,by simp; omega,?_⟩
      rw [walkH,if_neg (by omega),if_pos rfl,if_neg (by omega),← hw]; congr 1; omega
     ·cases h
   ·rintro ⟨s,rfl,hs,hw⟩
    cases s with
    | nil=>simp at hs; omega
    | cons c s=>
     simp only [qlc] at hs
     rw [walkH] at hw
     by_cases hc:c=117
     ·rw [if_pos hc] at hw
      subst hc
      have hge:=walkH_ge hw
      have hu:up > 0:=by omega
      left
      rw [if_pos hu]
      refine (apR_mem f (up-1) down (pre++[117]) _ (by omega) (by omega)).2 ⟨s,by simp,by omega,?_⟩
      rw [← hw]; congr 1; omega
     ·rw [if_neg hc] at hw
      by_cases hc2:c=100
      ·rw [if_pos hc2] at hw
       split at hw
       ·cases hw
       ·subst hc2
        right
        rw [if_pos (by omega)]
        refine (apR_mem f up (down-1) (pre++[100]) _ (by omega) (by omega)).2 ⟨s,by simp,by omega,?_⟩
        rw [← hw]; congr 1; omega
      ·rw [if_neg hc2] at hw; cases hw
theorem paths_mem {n:Nat} {w:List Nat} (h:n≤8):w∈pathsR n↔dyck w=true∧w.length=2*n:=by
 have hm:=apR_mem (2*n+1) n n [] w (Nat.le_refl _) (by omega)
 rw [pathsR,hm]
 constructor
 ·rintro ⟨s,rfl,hs,hw⟩
  simp only [dyck]
  have e:((n:Int)-n)=0:=by omega
  rw [e] at hw
  simp only [hw,qba,qde]
  exact ⟨⟨trivial,by omega⟩,by omega⟩
 ·rintro ⟨hd,hl⟩
  refine ⟨w,rfl,by omega,?_⟩
  have e:((n:Int)-n)=0:=by omega
  rw [e]
  simp only [dyck,qba,qde] at hd
  exact hd.1
end Go.Cat
