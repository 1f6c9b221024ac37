/-
 Lists of all paths: the closure that makes them, and what stands in them.
-/
import Derived.Test.YtdifmcppfcbgdaaGreatPfNum
import Derived.Test.YtdifmcppfcbgdaaGreatPfBT
import Derived.Test.YtdifmcppfcbgdaaGreatPfDraw
set_option linter.unusedSimpArgs false
set_option linter.unusedVariables false
namespace Go.Cat
variable {K:Nat→List D→List D→Prop}
theorem apR_len:∀ (f:Nat) (w:List Nat) (up down:Nat),(apR f w up down).length≤2 ^ f
 | 0,_,_,_=>by simp [apR]
 | f+1,w,up,down=>by
  have h1:=apR_len f (w++[117]) (up-1) down
  have h2:=apR_len f (w++[100]) up (down-1)
  have h3:1≤2 ^ f:=Nat.one_le_two_pow
  rw [apR,Nat.pow_succ]
  split
  ·simp; omega
  ·rw [qla]
   have:(if up > 0 then apR f (w++[117]) (up-1) down else []).length≤2 ^ f:=by split <;> first | assumption | simp
   have:(if down > up then apR f (w++[100]) up (down-1) else []).length≤2 ^ f:=by split <;> first | assumption | simp
   omega
theorem ap1_i [HA K]:∀ (f:Nat) (w:List Nat) (up down:Nat) (out:List (List Nat)),up≤down→up+down<f→w.length+f≤1000→f≤20→out.length+2 ^ f≤1073741824→
  K 326 [.s w,.n up,.n down,.g [LS out],.u] [.g [LS (out++apR f w up down)]]
 | 0,_,_,_,_,_,h,_,_,_=>by omega
 | f+1,w,up,down,out,h1,h2,h3,h4,h5=>by
  have hp:2 ^ (f+1)=2 ^ f+2 ^ f:=by rw [Nat.pow_succ]; omega
  have hp1:1≤2 ^ f:=Nat.one_le_two_pow
  refine body_by (f:=ir_impl_allPaths_f1) rfl ?_; simp only [ir_impl_allPaths_f1,zn,zs,zq,zi,zg,zp]
  by_cases hd:down=0
  ·have hu:up=0:=by omega
   subst hd; subst hu
   simp (disch:=first|omega|simp only[vl];omega) only [vcd,ls_1]
   simp [apR]
  ·have e0:apR (f+1) w up down=(if up > 0 then apR f (w++[117]) (up-1) down else [])++(if down > up then apR f (w++[100]) up (down-1) else []):=by rw [apR,if_neg hd]
   by_cases hu:up=0
   ·subst hu
    have k2:=ap1_i f (w++[100]) 0 (down-1) out (by omega) (by omega) (by simp; omega) (by omega) (by omega)
    have e1:((down-1:Nat):Int)=(down:Int)-1:=by omega
    rw [e1] at k2
    simp (disch:=first|omega|simp only[vl];omega) only [vcd]
    refine call_by (k2) rfl ?_
    simp (disch:=first|omega|simp only[vl];omega) only [vcd]
    rw [e0,if_neg (by omega),if_pos (by omega),List.nil_append]
   ·have k1:=ap1_i f (w++[117]) (up-1) down out (by omega) (by omega) (by simp; omega) (by omega) (by omega)
    have e2:((up-1:Nat):Int)=(up:Int)-1:=by omega
    rw [e2] at k1
    have hl:=apR_len f (w++[117]) (up-1) down
    by_cases hq:up<down
    ·have k2:=ap1_i f (w++[100]) up (down-1) (out++apR f (w++[117]) (up-1) down) (by omega) (by omega) (by simp; omega) (by omega) (by rw [qla]; omega)
     have e1:((down-1:Nat):Int)=(down:Int)-1:=by omega
     rw [e1] at k2
     simp (disch:=first|omega|simp only[vl];omega) only [vcd]
     refine call_by (k1) rfl ?_
     simp (disch:=first|omega|simp only[vl];omega) only [vcd]
     refine call_by (k2) rfl ?_
     simp (disch:=first|omega|simp only[vl];omega) only [vcd]
     rw [e0,if_pos (by omega),if_pos (by omega),qaa]
    ·simp (disch:=first|omega|simp only[vl];omega) only [vcd]
     refine call_by (k1) rfl ?_
     simp (disch:=first|omega|simp only[vl];omega) only [vcd]
     rw [e0,if_pos (by omega),if_neg (by omega),List.append_nil]
theorem apf_i [HA K] {n:Nat} (h:n≤8):K 314 [.n n] [LS (pathsR n)]:=by
 have k1:=ap1_i (K:=K) (2*n+1) [] n n [] (Nat.le_refl _) (by omega) (by simp; omega) (by omega) (by
  have:2 ^ (2*n+1)≤2 ^ 17:=Nat.pow_le_pow_right (by omega) (by omega)
  simp only [qln]; omega)
 rw [List.nil_append] at k1
 refine body_by (f:=ir_impl_allPaths) rfl ?_; simp only [ir_impl_allPaths,zn,zs,zq,zi,zg,zp]
 simp (disch:=omega) only [vcd,LS_nil]
 refine call_by (k1) rfl ?_
 simp (disch:=omega) only [vcd]
 rfl
theorem apR_mem:∀ (f up down:Nat) (pre w:List Nat),up≤down→up+down<f→(w∈apR f pre up down↔∃ s,w=pre++s∧s.length=up+down∧walkH s ((down:Int)-up)=some 0)
 | 0,_,_,_,_,_,h=>by omega
 | f+1,up,down,pre,w,h1,h2=>by
  rw [apR]
  by_cases hd:down=0
  ·have hu:up=0:=by omega
   subst hd; subst hu
   rw [if_pos rfl]
   constructor
   ·intro h
    simp only [List.mem_singleton] at h
    exact ⟨[],by simp [h],rfl,rfl⟩
   ·rintro ⟨s,rfl,hs,_⟩
    obtain rfl:s=[]:=qez hs
    simp
  ·rw [if_neg hd,qma]
   constructor
   ·rintro (h | h)
    ·split at h
     ·rename_i hu
      obtain ⟨s,rfl,hs,hw⟩:=(apR_mem f (up-1) down (pre++[117]) w (by omega) (by omega)).1 h
      refine ⟨117::s,by simp,by simp; omega,?_⟩
      rw [walkH,if_pos rfl,← hw]; congr 1; omega
     ·cases h
    ·split at h
     ·rename_i hu
      obtain ⟨s,rfl,hs,hw⟩:=(apR_mem f up (down-1) (pre++[100]) w (by omega) (by omega)).1 h
      refine ⟨100::s,by simp,by simp; omega,?_⟩
      rw [walkH,if_neg (by omega),if_pos rfl,if_neg (by omega),← hw]; congr 1; omega
     ·cases h
   ·rintro ⟨s,rfl,hs,hw⟩
    cases s with
    | nil=>simp at hs; omega
    | cons c s=>
     simp only [qlc] at hs
     rw [walkH] at hw
     by_cases hc:c=117
     ·rw [if_pos hc] at hw
      subst hc
      have hge:=walkH_ge hw
      have hu:up > 0:=by omega
      left
      rw [if_pos hu]
      refine (apR_mem f (up-1) down (pre++[117]) _ (by omega) (by omega)).2 ⟨s,by simp,by omega,?_⟩
      rw [← hw]; congr 1; omega
     ·rw [if_neg hc] at hw
      by_cases hc2:c=100
      ·rw [if_pos hc2] at hw
       split at hw
       ·cases hw
       ·subst hc2
        right
        rw [if_pos (by omega)]
        refine (apR_mem f up (down-1) (pre++[100]) _ (by omega) (by omega)).2 ⟨s,by simp,by omega,?_⟩
        rw [← hw]; congr 1; omega
      ·rw [if_neg hc2] at hw; cases hw
theorem paths_mem {n:Nat} {w:List Nat} (h:n≤8):w∈pathsR n↔dyck w=true∧w.length=2*n:=by
 have hm:=apR_mem (2*n+1) n n [] w (Nat.le_refl _) (by omega)
 rw [pathsR,hm]
 constructor
 ·rintro ⟨s,rfl,hs,hw⟩
  simp only [dyck]
  have e:((n:Int)-n)=0:=by omega
  rw [e] at hw
  simp only [hw,qba,qde]
  exact ⟨⟨trivial,by omega⟩,by omega⟩
 ·rintro ⟨hd,hl⟩
  refine ⟨w,rfl,by omega,?_⟩
  have e:((n:Int)-n)=0:=by omega
  rw [e]
  simp only [dyck,qba,qde] at hd
  exact hd.1
theorem pathsR_len {n:Nat} (h:n≤8):(pathsR n).length≤131072:=by
 have h1:=apR_len (2*n+1) [] n n
 have:2 ^ (2*n+1)≤2 ^ 17:=Nat.pow_le_pow_right (by omega) (by omega)
 simp only [pathsR]; omega
end Go.Cat
