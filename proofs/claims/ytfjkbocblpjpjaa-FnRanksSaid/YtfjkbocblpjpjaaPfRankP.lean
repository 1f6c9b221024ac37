/-
  Lists of paths in order, peaks, and the numbers of Narayana.
-/
import Derived.Test.YtfjkbocblpjpjaaPfRankU
import Derived.Test.YtfjkbocblpjpjaaPfDrawP
import Derived.Test.YtfjkbocblpjpjaaIrAllA
namespace Go.Cat
variable {K : Nat → List D → List D → Prop}
set_option maxRecDepth 100000

/-- All paths, u before d. -/
def apR (fuel : Nat) (w : List Nat) (up down : Nat) : List (List Nat) := match fuel with
  | 0 => []
  | f + 1 => if down = 0 then [w] else (if up > 0 then apR f (w ++ [117]) (up - 1) down else []) ++ (if down > up then apR f (w ++ [100]) up (down - 1) else [])
def pathsR (n : Nat) : List (List Nat) := apR (2 * n + 1) [] n n

def isLR (o : Option (List D)) (l : List (List Nat)) : Bool := match o with
  | some [.l xs] => go xs l
  | _ => false
where
  go : List D → List (List Nat) → Bool
    | [], [] => true
    | .s x :: xs, y :: l => decide (x = y) && go xs l
    | _, _ => false
theorem isLR_go : ∀ {xs : List D} {l : List (List Nat)}, isLR.go xs l = true → xs = l.map D.s
  | [], [], _ => rfl
  | .s x :: xs, y :: l, h => by
    simp only [isLR.go, Bool.and_eq_true, decide_eq_true_eq] at h
    rw [isLR_go h.2, h.1]; rfl
  | [], _ :: _, h => by simp [isLR.go] at h
  | .s _ :: _, [], h => by simp [isLR.go] at h
  | .u :: _, _, h => by simp [isLR.go] at h
  | .i _ _ :: _, _, h => by simp [isLR.go] at h
  | .b _ :: _, _, h => by simp [isLR.go] at h
  | .l _ :: _, _, h => by simp [isLR.go] at h
  | .g _ :: _, _, h => by simp [isLR.go] at h
  | .z :: _, _, h => by simp [isLR.go] at h
  | .p _ :: _, _, h => by simp [isLR.go] at h
  | .f _ _ :: _, _, h => by simp [isLR.go] at h
theorem isLR_spec {o : Option (List D)} {l : List (List Nat)} (h : isLR o l = true) : o = some [LS l] := by
  unfold isLR at h
  split at h
  · rw [isLR_go h]; rfl
  · cases h


abbrev tprs : List (Nat × IF) := [(234, ir_spec_PathsOf), (292, ir_spec_l3All), (22, ir_spec_l1In)]
abbrev tpri : List (Nat × IF) := [(279, ir_impl_PathsOf), (314, ir_impl_allPaths), (326, ir_impl_allPaths_f1), (23, ir_impl_within)]
theorem prs0 : allB 7 (fun n => isLR (evF (tableOf tprs) 60 20 234 [.n n]) (pathsR n)) = true := by kernel_rfl
theorem pri0 : allB 7 (fun n => isLR (evF (tableOf tpri) 60 20 279 [.n n]) (pathsR n)) = true := by kernel_rfl
theorem pl_s [Has K 22 ir_spec_l1In] [Has K 234 ir_spec_PathsOf] [Has K 292 ir_spec_l3All] {n : Nat} (h : n < 7) : K 234 [.n n] [LS (pathsR n)] := run tprs 60 20 234 (isLR_spec (allB_spec prs0 n h))
theorem pl_i [Has K 23 ir_impl_within] [Has K 279 ir_impl_PathsOf] [Has K 314 ir_impl_allPaths] [Has K 326 ir_impl_allPaths_f1] {n : Nat} (h : n < 7) : K 279 [.n n] [LS (pathsR n)] := run tpri 60 20 279 (isLR_spec (allB_spec pri0 n h))
theorem pl_out_s [Has K 22 ir_spec_l1In] [Has K 234 ir_spec_PathsOf] {a : Int} (h : ¬ (0 ≤ a ∧ a ≤ 6)) : K 234 [.n a] [LS []] := by
  refine body_by (f := ir_spec_PathsOf) rfl ?_; simp only [ir_spec_PathsOf]
  have e : inR 0 6 a = false := inR_f.2 h
  simp (disch := first | omega | (simp only [vl]; omega)) only [vcd]
  repeat (first | (refine call_by (l1In_ok (K := K)) rfl ?_; try simp (disch := first | omega | (simp only [vl]; omega)) only [vcd, e]))
  rfl
theorem pl_out_i [Has K 23 ir_impl_within] [Has K 279 ir_impl_PathsOf] {a : Int} (h : ¬ (0 ≤ a ∧ a ≤ 6)) : K 279 [.n a] [LS []] := by
  refine body_by (f := ir_impl_PathsOf) rfl ?_; simp only [ir_impl_PathsOf]
  have e : inR 0 6 a = false := inR_f.2 h
  simp (disch := first | omega | (simp only [vl]; omega)) only [vcd]
  repeat (first | (refine call_by (within_ok (K := K)) rfl ?_; try simp (disch := first | omega | (simp only [vl]; omega)) only [vcd, e]))
  rfl

/-- Peaks. -/
def pkF : List Nat → Nat
  | a :: b :: w => (if a = 117 ∧ b = 100 then 1 else 0) + pkF (b :: w)
  | _ => 0
theorem pkF_le : ∀ (w : List Nat), pkF w ≤ w.length
  | [] => by simp [pkF]
  | [_] => by simp [pkF]
  | a :: b :: w => by
    have := pkF_le (b :: w)
    simp only [pkF, List.length_cons] at this ⊢
    split <;> omega

theorem pk_i [Has K 67 ir_impl_IsDyck] [Has K 82 ir_impl_heights] [Has K 280 ir_impl_PeaksOf] {w : List Nat} (h : w.length ≤ 1000000000) (hd : dyck w = true) : K 280 [.s w] [.n (pkF w)] := by
  refine body_by (f := ir_impl_PeaksOf) rfl ?_; simp only [ir_impl_PeaksOf]
  simp (disch := first | omega | (simp only [vl]; omega)) only [vcd]
  refine call_by (dyck_i (K := K) h) rfl ?_
  simp (disch := first | omega | (simp only [vl]; omega)) only [vcd, hd]
  refine loop_up (fun i (n : Nat) => n + pkF (w.drop i) = pkF w ∧ n ≤ i) (fun i n => [.s w, .u, .n n, .n ((i : Int) + 1), .u, .u, .u]) (w.length - 1) 0 ⟨by simp, by simp⟩ rfl (fun i n hi hP => ?_) (fun n hP => ?_)
  · obtain ⟨h1, h2⟩ := hP
    rw [dropB (show i < w.length by omega), dropB (show i + 1 < w.length by omega)] at h1
    simp only [pkF] at h1
    rw [show ((i + 1 : Nat) : Int) = (i : Int) + 1 by omega] at h1
    by_cases c1 : atB w i = 117
    · by_cases c2 : atB w ((i : Int) + 1) = 100
      · rw [if_pos ⟨c1, c2⟩] at h1
        simp (disch := first | omega | (simp only [vl]; omega)) only [vcd, Int.add_sub_cancel]
        exact ⟨n + 1, ⟨by rw [dropB (show i + 1 < w.length by omega), show ((i + 1 : Nat) : Int) = (i : Int) + 1 by omega]; omega, by omega⟩, by simp⟩
      · rw [if_neg (fun q => c2 q.2)] at h1
        simp (disch := first | omega | (simp only [vl]; omega)) only [vcd, Int.add_sub_cancel]
        exact ⟨n, ⟨by rw [dropB (show i + 1 < w.length by omega), show ((i + 1 : Nat) : Int) = (i : Int) + 1 by omega]; omega, by omega⟩, by simp⟩
    · rw [if_neg (fun q => c1 q.1)] at h1
      simp (disch := first | omega | (simp only [vl]; omega)) only [vcd, Int.add_sub_cancel]
      exact ⟨n, ⟨by rw [dropB (show i + 1 < w.length by omega), show ((i + 1 : Nat) : Int) = (i : Int) + 1 by omega]; omega, by omega⟩, by simp⟩
  · obtain ⟨h1, h2⟩ := hP
    have hz : pkF (w.drop (w.length - 1)) = 0 := by
      rcases Nat.eq_zero_or_pos w.length with q | q
      · have : w = [] := by simpa using q
        subst this; rfl
      · rw [dropB (show w.length - 1 < w.length by omega)]
        have : w.drop (w.length - 1 + 1) = [] := by simp; omega
        rw [this]; rfl
    simp (disch := first | omega | (simp only [vl]; omega)) only [vcd]
    exact Dn (by omega)

def szR (w : List Nat) : Int := if dyck w = true then (w.length : Int) / 2 else -1
theorem sz_s [Has K 64 ir_spec_IsDyck] [Has K 274 ir_spec_SizeOf] {w : List Nat} (h : w.length ≤ 1000000000) : K 274 [.s w] [.n (szR w)] := by
  refine body_by (f := ir_spec_SizeOf) rfl ?_; simp only [ir_spec_SizeOf]
  simp (disch := first | omega | (simp only [vl]; omega)) only [vcd]
  refine call_by (dyck_s (K := K) h) rfl ?_
  cases hd : dyck w
  · simp (disch := first | omega | (simp only [vl]; omega)) only [vcd, hd]
    exact Dn (by simp [szR, hd])
  · simp (disch := first | omega | (simp only [vl]; omega)) only [vcd, hd]
    exact Dn (by simp [szR, hd])
theorem sz_ii [Has K 67 ir_impl_IsDyck] [Has K 82 ir_impl_heights] [Has K 132 ir_impl_SizeOf] {w : List Nat} (h : w.length ≤ 1000000000) : K 132 [.s w] [.n (szR w)] := by
  refine body_by (f := ir_impl_SizeOf) rfl ?_; simp only [ir_impl_SizeOf]
  simp (disch := first | omega | (simp only [vl]; omega)) only [vcd]
  refine call_by (dyck_i (K := K) h) rfl ?_
  cases hd : dyck w
  · simp (disch := first | omega | (simp only [vl]; omega)) only [vcd, hd]
    exact Dn (by simp [szR, hd])
  · simp (disch := first | omega | (simp only [vl]; omega)) only [vcd, hd]
    exact Dn (by simp [szR, hd])

theorem nx_i [Has K 23 ir_impl_within] [Has K 27 ir_impl_BallotNumber] [Has K 28 ir_impl_CatalanNumber] [Has K 67 ir_impl_IsDyck] [Has K 82 ir_impl_heights] [Has K 132 ir_impl_SizeOf] [Has K 271 ir_impl_UnrankPath] [Has K 273 ir_impl_RankPath] [Has K 277 ir_impl_NextPath] {w : List Nat} (h : w.length ≤ 1000000000) (hd : dyck w = true) : K 277 [.s w] [.s (unRR (szR w) (rkR w + 1)), .b (unO (szR w) (rkR w + 1))] := by
  refine body_by (f := ir_impl_NextPath) rfl ?_; simp only [ir_impl_NextPath]
  simp (disch := first | omega | (simp only [vl]; omega)) only [vcd]
  refine call_by (dyck_i (K := K) h) rfl ?_
  simp (disch := first | omega | (simp only [vl]; omega)) only [vcd, hd]
  refine call_by (sz_ii (K := K) h) rfl ?_
  simp (disch := first | omega | (simp only [vl]; omega)) only [vcd]
  refine call_by (rk_i (K := K) h) rfl ?_
  have hr : -1 ≤ rkR w ∧ rkR w ≤ 1430 := by
    simp only [rkR, hd, if_true]
    obtain ⟨g, hl⟩ := gw_dyck hd
    have h1 := (rk_ok w _ _ g).1
    have h2 := bw_max (u := w.length / 2) (d := w.length / 2) (by omega) (by omega)
    omega
  simp (disch := first | omega | (simp only [vl]; omega)) only [vcd]
  refine call_by (un_i (K := K)) rfl ?_
  simp (disch := first | omega | (simp only [vl]; omega)) only [vcd]

/-- Each path in the list has its place as its rank. -/
def rchk (m : Nat) : List (List Nat) → Nat → Bool
  | [], _ => true
  | w :: l, i => dyck w && decide (rkF w m m = i) && decide (w.length = 2 * m) && decide (pkF w < 10) && rchk m l (i + 1)
theorem rchk_get {m : Nat} : ∀ {l : List (List Nat)} {i : Nat}, rchk m l i = true → ∀ (j : Nat) (w : List Nat), l[j]? = some w → dyck w = true ∧ rkF w m m = i + j ∧ w.length = 2 * m ∧ pkF w < 10
  | [], _, _, j, w, h => by simp at h
  | x :: l, i, h, j, w, hj => by
    simp only [rchk, Bool.and_eq_true, decide_eq_true_eq] at h
    obtain ⟨⟨⟨⟨h1, h2⟩, h3⟩, h5⟩, h4⟩ := h
    cases j with
    | zero => simp at hj; subst hj; exact ⟨h1, by omega, h3, h5⟩
    | succ j =>
      obtain ⟨q1, q2, q3⟩ := rchk_get h4 j w (by simpa using hj)
      exact ⟨q1, by omega, q3⟩
theorem rch0 : allB 7 (fun m => rchk m (pathsR m) 0 && decide ((pathsR m).length ≤ 1000)) = true := by kernel_rfl

/-- The numbers of Narayana. -/
def nvT : List (List Int) := [[1], [0, 1], [0, 1, 1], [0, 1, 3, 1], [0, 1, 6, 6, 1], [0, 1, 10, 20, 10, 1], [0, 1, 15, 50, 50, 15, 1]]
def nv (m i : Nat) : Int := (nvT.getD m []).getD i 0
abbrev tnri : List (Nat × IF) := [(281, ir_impl_NarayanaNumber), (23, ir_impl_within), (25, ir_impl_choose)]
abbrev tnrs : List (Nat × IF) := [(286, ir_spec_NarayanaNumber), (22, ir_spec_l1In), (24, ir_spec_l3Binomial)]
theorem nvm0 : allB 7 (fun m => allB 10 fun i => isN (evF (tableOf tnri) 60 8 281 [.n m, .n i]) (nv m i)) = true := by kernel_rfl
theorem nvm [Has K 23 ir_impl_within] [Has K 25 ir_impl_choose] [Has K 281 ir_impl_NarayanaNumber] {m i : Nat} (h : m < 7) (hi : i < 10) : K 281 [.n m, .n i] [.n (nv m i)] := run tnri 60 8 281 (isN_spec (allB_spec (allB_spec nvm0 m h) i hi))
def sameR (a b : Option (List D)) : Bool := match a, b with
  | some [.i .i64 m], some [.i .i64 n] => decide (m = n)
  | _, _ => false
theorem sameR_spec {a b : Option (List D)} (h : sameR a b = true) : ∃ n, a = some [.n n] ∧ b = some [.n n] := by
  unfold sameR at h
  split at h
  · simp at h; subst h; exact ⟨_, rfl, rfl⟩
  · cases h
theorem nvs0 : allB 16 (fun m => allB 8 fun i => sameR (evF (tableOf tnri) 60 8 281 [.n m, .n i]) (evF (tableOf tnrs) 60 8 286 [.n m, .n i])) = true := by kernel_rfl
theorem nv_same [Has K 22 ir_spec_l1In] [Has K 23 ir_impl_within] [Has K 24 ir_spec_l3Binomial] [Has K 25 ir_impl_choose] [Has K 281 ir_impl_NarayanaNumber] [Has K 286 ir_spec_NarayanaNumber] (a b : Int) (hb : b ≤ 7) : ∃ v, K 281 [.n a, .n b] [.n v] ∧ K 286 [.n a, .n b] [.n v] := by
  by_cases h : (0 ≤ a ∧ a ≤ 15) ∧ 0 ≤ b
  · obtain ⟨⟨ha, ha2⟩, hb2⟩ := h
    obtain ⟨m, rfl⟩ := Int.eq_ofNat_of_zero_le ha
    obtain ⟨n, rfl⟩ := Int.eq_ofNat_of_zero_le hb2
    obtain ⟨v, h1, h2⟩ := sameR_spec (allB_spec (allB_spec nvs0 m (by omega)) n (by omega))
    exact ⟨v, run tnri 60 8 281 h1, run tnrs 60 8 286 h2⟩
  · have h1 := inR_iff (lo := 0) (hi := 15) (x := a)
    have h2 := inR_iff (lo := 0) (hi := a) (x := b)
    refine ⟨0, ?_, ?_⟩
    · refine body_by (f := ir_impl_NarayanaNumber) rfl ?_; simp only [ir_impl_NarayanaNumber]
      cases e1 : inR 0 15 a <;> cases e2 : inR 0 a b <;> rw [e1] at h1 <;> rw [e2] at h2
      · simp (disch := first | omega | (simp only [vl]; omega)) only [vcd]
        repeat (first | (refine call_by (within_ok (K := K)) rfl ?_; try simp (disch := first | omega | (simp only [vl]; omega)) only [vcd, e1]))
      · simp (disch := first | omega | (simp only [vl]; omega)) only [vcd]
        repeat (first | (refine call_by (within_ok (K := K)) rfl ?_; try simp (disch := first | omega | (simp only [vl]; omega)) only [vcd, e1]))
      · simp (disch := first | omega | (simp only [vl]; omega)) only [vcd]
        repeat (first | (refine call_by (within_ok (K := K)) rfl ?_; try simp (disch := first | omega | (simp only [vl]; omega)) only [vcd, e1, e2]))
      · exact absurd ⟨h1.1 rfl, (h2.1 rfl).1⟩ h
    · refine body_by (f := ir_spec_NarayanaNumber) rfl ?_; simp only [ir_spec_NarayanaNumber]
      cases e1 : inR 0 15 a <;> cases e2 : inR 0 a b <;> rw [e1] at h1 <;> rw [e2] at h2
      · simp (disch := first | omega | (simp only [vl]; omega)) only [vcd]
        repeat (first | (refine call_by (l1In_ok (K := K)) rfl ?_; try simp (disch := first | omega | (simp only [vl]; omega)) only [vcd, e1]))
      · simp (disch := first | omega | (simp only [vl]; omega)) only [vcd]
        repeat (first | (refine call_by (l1In_ok (K := K)) rfl ?_; try simp (disch := first | omega | (simp only [vl]; omega)) only [vcd, e1]))
      · simp (disch := first | omega | (simp only [vl]; omega)) only [vcd]
        repeat (first | (refine call_by (l1In_ok (K := K)) rfl ?_; try simp (disch := first | omega | (simp only [vl]; omega)) only [vcd, e1, e2]))
      · exact absurd ⟨h1.1 rfl, (h2.1 rfl).1⟩ h

/-- Peaks counted. -/
def pkS (l : List (List Nat)) (i : Nat) (s : List Int) : List Int := seI s (pkF (atS l i)) (atI s (pkF (atS l i)) + 1)
theorem pkA : allB 7 (fun m => allB 10 fun i => decide (atI (iter (pkS (pathsR m)) (pathsR m).length (rep 10 0)) i = nv m i)) = true := by kernel_rfl

theorem cat_same [Has K 22 ir_spec_l1In] [Has K 23 ir_impl_within] [Has K 27 ir_impl_BallotNumber] [Has K 28 ir_impl_CatalanNumber] [Has K 79 ir_spec_CatalanNumber] [Has K 84 ir_spec_l3Ways] (a : Int) : ∃ v, K 28 [.n a] [.n v] ∧ K 79 [.n a] [.n v] := by
  by_cases h : 0 ≤ a ∧ a ≤ 15
  · obtain ⟨n, rfl⟩ := Int.eq_ofNat_of_zero_le h.1
    exact ⟨_, cat_i (K := K) (by omega), cat_s (K := K) (by omega)⟩
  · have e := inR_f.2 h
    refine ⟨-1, ?_, ?_⟩
    · refine body_by (f := ir_impl_CatalanNumber) rfl ?_; simp only [ir_impl_CatalanNumber]
      simp (disch := first | omega | (simp only [vl]; omega)) only [vcd]
      repeat (first | (refine call_by (within_ok (K := K)) rfl ?_; try simp (disch := first | omega | (simp only [vl]; omega)) only [vcd, e]))
    · refine body_by (f := ir_spec_CatalanNumber) rfl ?_; simp only [ir_spec_CatalanNumber]
      simp (disch := first | omega | (simp only [vl]; omega)) only [vcd]
      repeat (first | (refine call_by (l1In_ok (K := K)) rfl ?_; try simp (disch := first | omega | (simp only [vl]; omega)) only [vcd, e]))

theorem bl_same [Has K 22 ir_spec_l1In] [Has K 23 ir_impl_within] [Has K 27 ir_impl_BallotNumber] [Has K 84 ir_spec_l3Ways] [Has K 285 ir_spec_BallotNumber] (a b : Int) (hk : b ≤ a + 3) : ∃ v, K 27 [.n a, .n b] [.n v] ∧ K 285 [.n a, .n b] [.n v] := by
  by_cases h : (0 ≤ a ∧ a ≤ 15) ∧ a ≤ b ∧ b ≤ 15
  · obtain ⟨⟨ha, ha2⟩, hb, hb2⟩ := h
    obtain ⟨m, rfl⟩ := Int.eq_ofNat_of_zero_le ha
    obtain ⟨n, rfl⟩ := Int.eq_ofNat_of_zero_le (show 0 ≤ b by omega)
    exact ⟨_, bl_j (K := K) (by omega) (by omega) (by omega), bl_s (K := K) (by omega) (by omega) (by omega)⟩
  · exact ⟨0, bl_out (K := K) h, bs_out (K := K) h⟩
theorem br_bl [Has K 19 ir_impl_BallotByReflection] [Has K 23 ir_impl_within] {a b : Int} {v : Int} (h : (0 ≤ a ∧ a ≤ b) ∧ b ≤ 14) (hv : K 27 [.n a, .n b] [.n v]) : K 19 [.n a, .n b] [.n v] := by
  refine body_by (f := ir_impl_BallotByReflection) rfl ?_; simp only [ir_impl_BallotByReflection]
  have e1 : inR 0 14 a = true := inR_iff.2 (by omega)
  have e2 : inR a 14 b = true := inR_iff.2 (by omega)
  simp (disch := first | omega | (simp only [vl]; omega)) only [vcd]
  repeat (first | (refine call_by (within_ok (K := K)) rfl ?_; try simp (disch := first | omega | (simp only [vl]; omega)) only [vcd, e1, e2]))
  refine call_by (hv) rfl ?_
  simp (disch := first | omega | (simp only [vl]; omega)) only [vcd]
end Go.Cat

