/-
 Lists of all paths, by running.
-/
import Derived.Test.YtjbonmaggidboaaPfPath
import Derived.Test.YtjbonmaggidboaaPfIn
import Derived.Test.YtjbonmaggidboaaPfNum
import Derived.Test.YtjbonmaggidboaaIrHas
set_option linter.unusedSimpArgs false
set_option linter.unusedVariables false
namespace Go.Cat
variable {K:Nat→List D→List D→Prop}
set_option maxRecDepth 100000
def apR (fuel:Nat) (w:List Nat) (up down:Nat):List (List Nat):=match fuel with
 | 0=>[]
 | f+1=>if down=0 then [w] else (if up > 0 then apR f (w++[117]) (up-1) down else [])++(if down > up then apR f (w++[100]) up (down-1) else [])
def pathsR (n:Nat):List (List Nat):=apR (2*n+1) [] n n
def isLR (o:Option (List D)) (l:List (List Nat)):Bool:=match o with
 | some [.l xs]=>go xs l
 | _=>false
where
 go:List D→List (List Nat)→Bool
  | [],[]=>true
  | .s x::xs,y::l=>decide (x=y)&&go xs l
  | _,_=>false
theorem isLR_go:∀ {xs:List D} {l:List (List Nat)},isLR.go xs l=true→xs=l.map D.s
 | [],[],_=>rfl
 | .s x::xs,y::l,h=>by
  simp only [isLR.go,qba,qde] at h
  rw [isLR_go h.2,h.1]; rfl
 | [],_::_,h=>by simp [isLR.go] at h
 | .s _::_,[],h=>by simp [isLR.go] at h
 | .u::_,_,h=>by simp [isLR.go] at h
 | .i _ _::_,_,h=>by simp [isLR.go] at h
 | .b _::_,_,h=>by simp [isLR.go] at h
 | .l _::_,_,h=>by simp [isLR.go] at h
 | .g _::_,_,h=>by simp [isLR.go] at h
 | .z::_,_,h=>by simp [isLR.go] at h
 | .p _::_,_,h=>by simp [isLR.go] at h
 | .f _ _::_,_,h=>by simp [isLR.go] at h
theorem isLR_spec {o:Option (List D)} {l:List (List Nat)} (h:isLR o l=true):o=some [LS l]:=by
 unfold isLR at h
 split at h
 ·rw [isLR_go h]; rfl
 ·cases h
abbrev tprs:List (Nat×IF):=[(234,ir_spec_PathsOf),(292,ir_spec_l3All),(22,ir_spec_l1In)]
theorem prs0:allB 7 (fun n=>isLR (evF (tableOf tprs) 60 20 234 [.n n]) (pathsR n))=true:=by kernel_rfl
theorem pl_s [HA K] {n:Nat} (h:n<7):K 234 [.n n] [LS (pathsR n)]:=run tprs 60 20 234 (isLR_spec (allB_spec prs0 n h))
abbrev tapi:List (Nat×IF):=[(314,ir_impl_allPaths),(326,ir_impl_allPaths_f1)]
theorem ap0:allB 7 (fun n=>isLR (evF (tableOf tapi) 60 20 314 [.n n]) (pathsR n))=true:=by kernel_rfl
theorem ap_i [HA K] {n:Nat} (h:n<7):K 314 [.n n] [LS (pathsR n)]:=run tapi 60 20 314 (isLR_spec (allB_spec ap0 n h))
end Go.Cat
