/-
  All paths of a size, and their depths, by running.
-/
import Derived.Test.YtfjkbocblpjpjaaPfNum
import Derived.Test.YtfjkbocblpjpjaaIrAllA
namespace Go.Cat
variable {K : Nat → List D → List D → Prop}
set_option maxRecDepth 100000

/-- All paths, u before d. -/
def allP (fuel : Nat) (w : List Nat) (up down : Nat) : List (List Nat) := match fuel with
  | 0 => []
  | f + 1 => if down = 0 then [w] else (if up > 0 then allP f (w ++ [117]) (up - 1) down else []) ++ (if down > up then allP f (w ++ [100]) up (down - 1) else [])
def pathsL (n : Nat) : List (List Nat) := allP (2 * n + 1) [] n n

/-- The greatest height. -/
def depF (w : List Nat) : Int := ((w.foldl (fun (x : Int × Int) c => let h := if c = 117 then x.1 + 1 else x.1 - 1; (h, max x.2 h)) (0, 0))).2

def isLS (o : Option (List D)) (l : List (List Nat)) : Bool := match o with
  | some [.l xs] => go xs l
  | _ => false
where
  go : List D → List (List Nat) → Bool
    | [], [] => true
    | .s x :: xs, y :: l => decide (x = y) && go xs l
    | _, _ => false
theorem isLS_go : ∀ {xs : List D} {l : List (List Nat)}, isLS.go xs l = true → xs = l.map D.s
  | [], [], _ => rfl
  | .s x :: xs, y :: l, h => by
    simp only [isLS.go, Bool.and_eq_true, decide_eq_true_eq] at h
    rw [isLS_go h.2, h.1]; rfl
  | [], _ :: _, h => by simp [isLS.go] at h
  | .s _ :: _, [], h => by simp [isLS.go] at h
  | .u :: _, _, h => by simp [isLS.go] at h
  | .i _ _ :: _, _, h => by simp [isLS.go] at h
  | .b _ :: _, _, h => by simp [isLS.go] at h
  | .l _ :: _, _, h => by simp [isLS.go] at h
  | .g _ :: _, _, h => by simp [isLS.go] at h
  | .z :: _, _, h => by simp [isLS.go] at h
  | .p _ :: _, _, h => by simp [isLS.go] at h
  | .f _ _ :: _, _, h => by simp [isLS.go] at h
theorem isLS_spec {o : Option (List D)} {l : List (List Nat)} (h : isLS o l = true) : o = some [LS l] := by
  unfold isLS at h
  split at h
  · rw [isLS_go h]; rfl
  · cases h

abbrev tps : List (Nat × IF) := [(234, ir_spec_PathsOf), (292, ir_spec_l3All), (22, ir_spec_l1In)]
theorem ps0 : allB 7 (fun n => isLS (evF (tableOf tps) 60 20 234 [.n n]) (pathsL n)) = true := by kernel_rfl
theorem ps_ok [Has K 22 ir_spec_l1In] [Has K 234 ir_spec_PathsOf] [Has K 292 ir_spec_l3All] {n : Nat} (h : n < 7) : K 234 [.n n] [LS (pathsL n)] := run tps 60 20 234 (isLS_spec (allB_spec ps0 n h))

abbrev tst : List (Nat × IF) := [(235, ir_spec_StatisticOf), (64, ir_spec_IsDyck), (297, ir_spec_BracketsOf), (298, ir_spec_DepthOf), (320, ir_spec_PathOfBrackets), (319, ir_spec_HeightsOf)]
/-- The check of one path. -/
noncomputable def depT (w : List Nat) : Bool := isN (evF (tableOf tst) 60 20 235 [.s [100, 101, 112, 116, 104], .s w]) (depF w)
theorem depA : allB 5 (fun n => (pathsL n).all depT) = true := by kernel_rfl
theorem depB0 : ((pathsL 5).take 21).all depT = true := by kernel_rfl
theorem depB1 : ((pathsL 5).drop 21).all depT = true := by kernel_rfl
theorem depC0 : (((pathsL 6).drop 0).take 22).all depT = true := by kernel_rfl
theorem depC1 : (((pathsL 6).drop 22).take 22).all depT = true := by kernel_rfl
theorem depC2 : (((pathsL 6).drop 44).take 22).all depT = true := by kernel_rfl
theorem depC3 : (((pathsL 6).drop 66).take 22).all depT = true := by kernel_rfl
theorem depC4 : (((pathsL 6).drop 88).take 22).all depT = true := by kernel_rfl
theorem depC5 : (((pathsL 6).drop 110).take 22).all depT = true := by kernel_rfl
theorem all_td {l : List (List Nat)} {p : List Nat → Bool} (k : Nat) (h1 : (l.take k).all p = true) (h2 : (l.drop k).all p = true) : l.all p = true := by
  rw [← List.take_append_drop k l, List.all_append, h1, h2]; rfl
theorem depC : (pathsL 6).all depT = true := by
  have key : ∀ k, ((pathsL 6).drop k).drop 22 = (pathsL 6).drop (k + 22) := fun k => by rw [List.drop_drop]
  have h6 : ((pathsL 6).drop 132).all depT = true := by
    have : (pathsL 6).drop 132 = [] := by kernel_rfl
    rw [this]; rfl
  have h5 : ((pathsL 6).drop 110).all depT = true := all_td 22 depC5 (by rw [key]; exact h6)
  have h4 : ((pathsL 6).drop 88).all depT = true := all_td 22 depC4 (by rw [key]; exact h5)
  have h3 : ((pathsL 6).drop 66).all depT = true := all_td 22 depC3 (by rw [key]; exact h4)
  have h2 : ((pathsL 6).drop 44).all depT = true := all_td 22 depC2 (by rw [key]; exact h3)
  have h1 : ((pathsL 6).drop 22).all depT = true := all_td 22 depC1 (by rw [key]; exact h2)
  exact all_td 22 (by have := depC0; rwa [List.drop_zero] at this) h1
theorem dep0 {n : Nat} (h : n < 7) : (pathsL n).all depT = true := by
  by_cases h5 : n < 5
  · exact allB_spec depA n h5
  · have : n = 5 ∨ n = 6 := by omega
    rcases this with rfl | rfl
    · exact all_td 21 depB0 depB1
    · exact depC
theorem dep_ok [Has K 64 ir_spec_IsDyck] [Has K 235 ir_spec_StatisticOf] [Has K 297 ir_spec_BracketsOf] [Has K 298 ir_spec_DepthOf] [Has K 319 ir_spec_HeightsOf] [Has K 320 ir_spec_PathOfBrackets] {n : Nat} {w : List Nat} (h : n < 7) (hw : w ∈ pathsL n) : K 235 [.s [100, 101, 112, 116, 104], .s w] [.n (depF w)] :=
  run tst 60 20 235 (isN_spec (List.all_eq_true.1 (dep0 h) w hw))
end Go.Cat

