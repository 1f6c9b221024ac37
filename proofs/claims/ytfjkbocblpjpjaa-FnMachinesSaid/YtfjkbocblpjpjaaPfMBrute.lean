/-
  All permutations of at most six numbers: what sorting, paths, bubbles make of each.
-/
import Derived.Test.YtfjkbocblpjpjaaPfCSort
import Derived.Test.YtfjkbocblpjpjaaPfMWalk
import Derived.Test.YtfjkbocblpjpjaaPfCat
namespace Go.Cat
set_option maxRecDepth 100000

/-- The identity, from n on. -/
def idL : List Int → Int → Bool
  | [], _ => true
  | x :: l, n => decide (x = n) && idL l (n + 1)
theorem idL_spec : ∀ {l : List Int} {n : Int}, idL l n = true → ∀ j : Nat, j < l.length → atI l j = n + j
  | [], _, _, j, hj => by simp at hj
  | x :: l, n, h, j, hj => by
    simp only [idL, Bool.and_eq_true, decide_eq_true_eq] at h
    cases j with
    | zero => rw [atI_c0]; omega
    | succ j =>
      rw [atI_cs, idL_spec h.2 j (by simpa using hj)]; omega
theorem idL_of : ∀ {l : List Int} {n : Int}, (∀ j : Nat, j < l.length → atI l j = n + j) → idL l n = true
  | [], _, _ => rfl
  | x :: l, n, h => by
    have h0 := h 0 (by simp)
    rw [atI_c0] at h0
    simp only [idL, Bool.and_eq_true, decide_eq_true_eq]
    refine ⟨by omega, idL_of fun j hj => ?_⟩
    have := h (j + 1) (by simpa using hj)
    rw [atI_cs] at this
    omega
theorem idF_L {p : List Int} : idF p = idL p 0 := by
  rw [Bool.eq_iff_iff]
  simp only [idF, decide_eq_true_eq]
  constructor
  · intro h
    exact idL_of fun j hj => by rw [h j hj]; omega
  · intro h j hj
    have := idL_spec h j hj
    omega

/-- Fast: the stack's letters, pair by pair. -/
def ndL : List Int → Bool
  | [] => true
  | x :: l => !(hasI l x) && ndL l
def rngL (n : Int) (l : List Int) : Bool := l.all fun x => decide (0 ≤ x) && decide (x < n)
def dykL (w : List Nat) : Bool := match walkH w 0 with
  | some h => decide (h = 0)
  | none => false

/-- The check of one permutation. -/
def chkP (p : List Int) : Bool :=
  let s := sortT p []
  let n := p.length
  let i0 := idL p 0
  let i1 := idL s 0
  let c := c231 p
  let b := iter bub (n - 1) p
  (i1 == !c) && (!i0 || i1) && (decide (n = 0) || decide (atI s (n - 1 : Nat) = (n - 1 : Nat))) &&
  (c || (let w := pathT p [] 0; dykL w && decide (w.length = 2 * n) && (let o := outT w p []; idL o 0 && decide (o.length = n)))) &&
  (ndL b && rngL n b && decide (b.length = n) && decide (invF b ≤ invF p))

theorem chk03 : allB 4 (fun n => (lA n n []).all chkP) = true := by kernel_rfl
theorem chk4 : (lA 4 4 []).all chkP = true := by kernel_rfl
theorem chk5 : (lA 5 5 []).all chkP = true := by kernel_rfl
theorem chk6a : ((lA 6 5 [0]).all chkP && (lA 6 5 [1]).all chkP) = true := by kernel_rfl
theorem chk6b : ((lA 6 5 [2]).all chkP && (lA 6 5 [3]).all chkP) = true := by kernel_rfl
theorem chk6c : ((lA 6 5 [4]).all chkP && (lA 6 5 [5]).all chkP) = true := by kernel_rfl

/-- How many are sorted at once. -/
theorem cnt1 : allB 6 (fun n => decide (((lA n n []).countP fun q => idL (sortT q []) 0 : Nat) = (catL.getD n 0))) = true := by kernel_rfl
end Go.Cat

