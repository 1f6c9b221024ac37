/-
  Polynomials: a product with the divisor, and the remainder, give back what was divided.
-/
import Derived.Test.YtdifmcppfcbgdaaPfPolyM
namespace Go.Cat
set_option linter.unusedSimpArgs false

def sumZ (f : Nat → Int) : Nat → Int
  | 0 => 0
  | n + 1 => sumZ f n + f n
theorem sumZ_congr {f g : Nat → Int} : ∀ {n}, (∀ i, i < n → f i = g i) → sumZ f n = sumZ g n
  | 0, _ => rfl
  | n + 1, h => by rw [sumZ, sumZ, sumZ_congr fun i hi => h i (by omega), h n (by omega)]
theorem sumZ_more {f : Nat → Int} {m : Nat} : ∀ {n}, m ≤ n → (∀ i, m ≤ i → i < n → f i = 0) → sumZ f n = sumZ f m
  | 0, h, _ => by
    obtain rfl : m = 0 := by omega
    rfl
  | n + 1, h, h0 => by
    by_cases q : m = n + 1
    · rw [q]
    · rw [sumZ, sumZ_more (by omega) fun i h1 h2 => h0 i h1 (by omega), h0 n (by omega) (by omega)]; omega
theorem mul_b {x y : Int} {A B : Nat} (hx : -(A : Int) ≤ x ∧ x ≤ A) (hy : -(B : Int) ≤ y ∧ y ≤ B) : -((A * B : Nat) : Int) ≤ x * y ∧ x * y ≤ (A * B : Nat) := by
  have h := Int.natAbs_mul x y
  have h2 : x.natAbs * y.natAbs ≤ A * B := Nat.mul_le_mul (by omega) (by omega)
  omega
/-- What row i of a product adds to coefficient k. -/
def rowI (q b : List Int) (i k : Nat) : Int := if i ≤ k ∧ k < i + b.length then atI q i * atI b ((k - i : Nat) : Int) else 0
theorem atI_outP {p : List Int} {k : Nat} (h : p.length ≤ k) : atI p k = 0 := by simp [atI, h]
theorem trim_at {p : List Int} {k : Nat} : atI (trimF p) k = atI p k := by
  have hz : ∀ n, n ≤ p.length → ∀ k : Nat, trN p n ≤ k → k < n → atI p k = 0 := by
    intro n
    induction n with
    | zero => intro _ k _ h; omega
    | succ n ih =>
      intro hn k h1 h2
      unfold trN at h1
      split at h1
      · rename_i h0
        by_cases q : k = n
        · subst q; exact h0
        · exact ih (by omega) k h1 (by omega)
      · omega
  have hl := trN_le (p := p) p.length
  rcases Nat.lt_or_ge k (trN p p.length) with q | q
  · simp [atI, trimF, List.getElem?_take, q]
  · rw [atI_outP (by rw [trimF_len]; exact q)]
    rcases Nat.lt_or_ge k p.length with q2 | q2
    · rw [hz p.length (Nat.le_refl _) k q q2]
    · rw [atI_outP q2]
theorem ext_trim {p q : List Int} (hp : p.length = 0 ∨ atI p ((p.length : Int) - 1) ≠ 0) (hq : q.length = 0 ∨ atI q ((q.length : Int) - 1) ≠ 0) (h : ∀ k : Nat, atI p k = atI q k) : p = q := by
  have key : ∀ {p q : List Int}, (p.length = 0 ∨ atI p ((p.length : Int) - 1) ≠ 0) → (∀ k : Nat, atI p k = atI q k) → p.length ≤ q.length := by
    intro p q hp h
    rcases Nat.lt_or_ge q.length p.length with c | c
    · exfalso
      rcases hp with hp | hp
      · omega
      · refine hp ?_
        have e : (p.length : Int) - 1 = ((p.length - 1 : Nat) : Int) := by omega
        rw [e, h, atI_outP (by omega)]
    · exact c
  refine extI (Nat.le_antisymm (key hp h) (key hq fun k => (h k).symm)) fun j _ => h j
theorem polF_last {p : List Int} (h : polF p = true) : p.length = 0 ∨ atI p ((p.length : Int) - 1) ≠ 0 := by
  simp only [polF, Bool.and_eq_true, Bool.or_eq_true, decide_eq_true_eq, Bool.not_eq_true', decide_eq_false_iff_not] at h
  exact h.2.2
theorem polF_all {p : List Int} (h : polF p = true) (k : Nat) : -1000000000 ≤ atI p k ∧ atI p k ≤ 1000000000 := by
  rcases Nat.lt_or_ge k p.length with c | c
  · exact polF_at h c
  · rw [atI_outP c]; omega
theorem smlF_all {p : List Int} (h : smlF p = true) (k : Nat) : -100000 ≤ atI p k ∧ atI p k ≤ 100000 := by
  rcases Nat.lt_or_ge k p.length with c | c
  · simp only [smlF, Bool.and_eq_true, List.all_eq_true] at h
    exact inR_iff.1 (h.1 _ (by simp [atI, c]))
  · rw [atI_outP c]; omega
theorem smlF_len {p : List Int} (h : smlF p = true) : p.length ≤ 61 := by
  simp only [smlF, Bool.and_eq_true] at h
  exact polF_len h.2

/-! ### Quotients -/
theorem dv_in {b l : List Int} {c : Int} {i : Nat} {B : Int} (hc : -1000000000 ≤ c ∧ c ≤ 1000000000) (hb : ∀ k : Nat, -1 ≤ atI b k ∧ atI b k ≤ 1) (hl : ∀ k : Nat, -B ≤ atI l k ∧ atI l k ≤ B) (hB : B ≤ 4000000000000000000) :
    ∀ m, i + m ≤ l.length → ∀ k : Nat, atI (iter (dvI b c i) m l) k = atI l k - (if i ≤ k ∧ k < i + m then c * atI b ((k - i : Nat) : Int) else 0)
  | 0, _, k => by rw [if_neg (by omega)]; simp [iter]
  | m + 1, h, k => by
    have ih := dv_in (i := i) (B := B) hc hb hl hB m (by omega)
    have ht : (iter (dvI b c i) m l).length = l.length := dvI_lens
    simp only [iter]
    have e : ((i : Int) + m) = ((i + m : Nat) : Int) := by omega
    rw [dvI, e, atI_set (by rw [ht]; omega)]
    by_cases q : i + m = k
    · subst q
      rw [if_pos rfl, ih, if_neg (by omega), if_pos (by omega)]
      have hp := mul_b (A := 1000000000) (B := 1) (x := c) (y := atI b m) (by omega) (by have := hb m; omega)
      have hk := hl (i + m)
      have e2 : i + m - i = m := by omega
      rw [e2, wrap_i64 (x := c * atI b m) (by omega), wrap_i64 (by omega)]; omega
    · rw [if_neg q, ih k]
      by_cases q2 : i ≤ k ∧ k < i + m
      · rw [if_pos q2, if_pos (by omega)]
      · rw [if_neg q2, if_neg (by omega)]
theorem dvS_at {b : List Int} {i : Nat} {x : List Int × List Int} {B : Int} (_h0 : 1 ≤ b.length) (hb : ∀ k : Nat, -1 ≤ atI b k ∧ atI b k ≤ 1) (hl : ∀ k : Nat, -B ≤ atI x.1 k ∧ atI x.1 k ≤ B) (hB : B ≤ 4000000000000000000)
    (hr : inR (-1000000000) 1000000000 (atI x.1 ((i : Int) + b.length - 1)) = true) (hi : i + b.length ≤ x.1.length) (k : Nat) :
    atI (dvS b i x).1 k = atI x.1 k - (if i ≤ k ∧ k < i + b.length then atI x.1 ((i : Int) + b.length - 1) * atI b ((k - i : Nat) : Int) else 0) :=
  dv_in (inR_iff.1 hr) hb hl hB b.length hi k
theorem dvL_sem {b : List Int} (h0 : 1 ≤ b.length) (hb : ∀ k : Nat, -1 ≤ atI b k ∧ atI b k ≤ 1) : ∀ (i : Nat) (x y : List Int × List Int) (B : Int), dvL b i x = some y → (i = 0 ∨ i + b.length ≤ x.1.length + 1) → i ≤ x.2.length →
    (∀ k : Nat, -B ≤ atI x.1 k ∧ atI x.1 k ≤ B) → B + i * 1000000000 ≤ 4000000000000000000 →
    (∀ k : Nat, atI x.1 k = atI y.1 k + sumZ (fun j => rowI y.2 b j k) i) ∧ ∀ j : Nat, i ≤ j → atI y.2 j = atI x.2 j
  | 0, x, y, B, h, _, _, _, _ => by
    simp only [dvL, Option.some.injEq] at h
    subst h
    exact ⟨fun k => by simp [sumZ], fun j _ => rfl⟩
  | i + 1, x, y, B, h, h1, h2, hl, hB => by
    simp only [dvL] at h
    split at h
    · rename_i hr
      have hi : i + b.length ≤ x.1.length := by omega
      have hs := dvS_at h0 hb hl (by omega) hr hi
      have hc := inR_iff.1 hr
      generalize hcc : atI x.1 ((i : Int) + b.length - 1) = c at hr hs hc
      have hlen : (dvS b i x).1.length = x.1.length := by simp only [dvS, dvI_lens]
      have hlen2 : (dvS b i x).2.length = x.2.length := by simp only [dvS, seI_len]
      have ih := dvL_sem h0 hb i (dvS b i x) y (B + 1000000000) h (by omega) (by omega) (fun k => by
        have h3 := hs k
        have h4 := hl k
        by_cases q : i ≤ k ∧ k < i + b.length
        · rw [if_pos q] at h3
          have hp := mul_b (A := 1000000000) (B := 1) (x := c) (y := atI b ((k - i : Nat) : Int)) (by omega) (by have := hb (k - i); omega)
          omega
        · rw [if_neg q] at h3; omega) (by omega)
      obtain ⟨g1, g2⟩ := ih
      have hq : ∀ j : Nat, atI (dvS b i x).2 j = if i = j then c else atI x.2 j := by
        intro j
        simp only [dvS]
        rw [atI_set (by omega), hcc]
      have hyi : atI y.2 i = c := by rw [g2 i (Nat.le_refl _), hq, if_pos rfl]
      refine ⟨fun k => ?_, fun j hj => ?_⟩
      · have h5 := g1 k
        rw [hs] at h5
        rw [sumZ]
        have h6 : rowI y.2 b i k = if i ≤ k ∧ k < i + b.length then c * atI b ((k - i : Nat) : Int) else 0 := by rw [rowI, hyi]
        rw [h6]; omega
      · rw [g2 j (by omega), hq, if_neg (by omega)]
    · cases h
theorem dvL_z {b : List Int} (h0 : 1 ≤ b.length) (hb : ∀ k : Nat, -1 ≤ atI b k ∧ atI b k ≤ 1) (hz : atI b ((b.length : Int) - 1) = 1) : ∀ (i : Nat) (x y : List Int × List Int) (B : Int), dvL b i x = some y → (i = 0 ∨ i + b.length ≤ x.1.length + 1) →
    (∀ k : Nat, -B ≤ atI x.1 k ∧ atI x.1 k ≤ B) → B + i * 1000000000 ≤ 4000000000000000000 → (∀ k : Nat, i + b.length ≤ k + 1 → atI x.1 k = 0) → ∀ k : Nat, b.length ≤ k + 1 → atI y.1 k = 0
  | 0, x, y, B, h, _, _, _, hk => by
    simp only [dvL, Option.some.injEq] at h
    subst h
    exact fun k q => hk k (by omega)
  | i + 1, x, y, B, h, h1, hl, hB, hk => by
    simp only [dvL] at h
    split at h
    · rename_i hr
      have hi : i + b.length ≤ x.1.length := by omega
      have hs := dvS_at h0 hb hl (by omega) hr hi
      have hc := inR_iff.1 hr
      have ec : ((i : Int) + b.length - 1) = ((i + b.length - 1 : Nat) : Int) := by omega
      have hlen : (dvS b i x).1.length = x.1.length := by simp only [dvS, dvI_lens]
      refine dvL_z h0 hb hz i (dvS b i x) y (B + 1000000000) h (by omega) (fun k => ?_) (by omega) fun k q => ?_
      · have h3 := hs k
        have h4 := hl k
        by_cases q : i ≤ k ∧ k < i + b.length
        · rw [if_pos q] at h3
          have hp := mul_b (A := 1000000000) (B := 1) (x := atI x.1 ((i : Int) + b.length - 1)) (y := atI b ((k - i : Nat) : Int)) (by omega) (by have := hb (k - i); omega)
          omega
        · rw [if_neg q] at h3; omega
      · have h3 := hs k
        by_cases q2 : k + 1 = i + b.length
        · rw [if_pos (by omega)] at h3
          have e1 : ((k - i : Nat) : Int) = (b.length : Int) - 1 := by omega
          have e2 : (i : Int) + b.length - 1 = k := by omega
          rw [e1, hz, e2] at h3
          omega
        · rw [if_neg (by omega), hk k (by omega)] at h3
          omega
    · cases h

/-! ### Products -/
theorem ml_in {a b o : List Int} {i : Nat} {B : Int} (ha : -100000 ≤ atI a i ∧ atI a i ≤ 100000) (hb : ∀ k : Nat, -100000 ≤ atI b k ∧ atI b k ≤ 100000) (hl : ∀ k : Nat, -B ≤ atI o k ∧ atI o k ≤ B) (hB : B ≤ 4000000000000000000) :
    ∀ m, i + m ≤ o.length → ∀ k : Nat, atI (iter (mlI a b i) m o) k = atI o k + (if i ≤ k ∧ k < i + m then atI a i * atI b ((k - i : Nat) : Int) else 0)
  | 0, _, k => by rw [if_neg (by omega)]; simp [iter]
  | m + 1, h, k => by
    have ih := ml_in (i := i) (B := B) ha hb hl hB m (by omega)
    have ht : (iter (mlI a b i) m o).length = o.length := mlI_lens
    simp only [iter]
    have e : ((i : Int) + m) = ((i + m : Nat) : Int) := by omega
    rw [mlI, e, atI_set (by rw [ht]; omega)]
    by_cases q : i + m = k
    · subst q
      rw [if_pos rfl, ih, if_neg (by omega), if_pos (by omega)]
      have hp := mul_b (A := 100000) (B := 100000) (x := atI a i) (y := atI b m) (by omega) (by have := hb m; omega)
      have hk := hl (i + m)
      have e2 : i + m - i = m := by omega
      rw [e2, wrap_i64 (x := atI a i * atI b m) (by omega), wrap_i64 (by omega)]; omega
    · rw [if_neg q, ih k]
      by_cases q2 : i ≤ k ∧ k < i + m
      · rw [if_pos q2, if_pos (by omega)]
      · rw [if_neg q2, if_neg (by omega)]
theorem mlU_sem {a b : List Int} {n : Nat} (ha : ∀ k : Nat, -100000 ≤ atI a k ∧ atI a k ≤ 100000) (hb : ∀ k : Nat, -100000 ≤ atI b k ∧ atI b k ≤ 100000) :
    ∀ m, m ≤ 100 → m + b.length ≤ n + 1 → ∀ k : Nat, atI (iter (fun i o => iter (mlI a b i) b.length o) m (rep (n : Nat) 0)) k = sumZ (fun i => rowI a b i k) m ∧ -(m * 10000000000 : Int) ≤ atI (iter (fun i o => iter (mlI a b i) b.length o) m (rep (n : Nat) 0)) k ∧ atI (iter (fun i o => iter (mlI a b i) b.length o) m (rep (n : Nat) 0)) k ≤ m * 10000000000
  | 0, _, _, k => by
    have e : atI (rep (n : Nat) 0) k = 0 := by
      simp only [atI, rep, List.getD_eq_getElem?_getD, List.getElem?_replicate]
      split <;> rfl
    simp [iter, sumZ, e]
  | m + 1, h, h2, k => by
    have ih := mlU_sem (n := n) ha hb m (by omega) (by omega)
    have hl : (iter (fun i o => iter (mlI a b i) b.length o) m (rep (n : Nat) 0)).length = n := iter_inv (fun (s : List Int) => s.length = n) (by simp [rep]) (fun i s h => by rw [mlI_lens, h]) _
    have hs := ml_in (a := a) (b := b) (o := iter (fun i o => iter (mlI a b i) b.length o) m (rep (n : Nat) 0)) (i := m) (B := m * 10000000000) (ha m) hb (fun k => (ih k).2) (by omega) b.length (by rw [hl]; omega) k
    have h3 := ih k
    simp only [iter]
    rw [hs, sumZ]
    have h6 : rowI a b m k = if m ≤ k ∧ k < m + b.length then atI a m * atI b ((k - m : Nat) : Int) else 0 := rfl
    rw [h6]
    by_cases q : m ≤ k ∧ k < m + b.length
    · rw [if_pos q]
      have hp := mul_b (A := 100000) (B := 100000) (x := atI a m) (y := atI b ((k - m : Nat) : Int)) (by have := ha m; omega) (by have := hb (k - m); omega)
      omega
    · rw [if_neg q]; omega
theorem addU_at {a b : List Int} (ha : polF a = true) (hb : polF b = true) (k : Nat) : atI (addU a b) k = atI a k + atI b k := by
  have h1 := put0 (a := a) (n := max a.length b.length) a.length (by omega) (Nat.le_refl _) fun j hj => polF_at ha hj
  have h1' : ∀ j : Nat, atI (iter (addI a) a.length (rep (max a.length b.length : Nat) 0)) j = atI a j := by
    intro j
    rcases Nat.lt_or_ge j (max a.length b.length) with c | c
    · rw [h1 j c]
      by_cases q : j < a.length
      · rw [if_pos q]
      · rw [if_neg q]; exact (atI_outP (by omega)).symm
    · have l1 : (iter (addI a) a.length (rep (max a.length b.length : Nat) 0)).length ≤ j := by rw [addI_lens, rep_len]; omega
      rw [atI_outP l1]; exact (atI_outP (by omega)).symm
  have key : ∀ m, m ≤ b.length → ∀ j : Nat, atI (iter (addI b) m (iter (addI a) a.length (rep (max a.length b.length : Nat) 0))) j = atI a j + (if j < m then atI b j else 0) := by
    intro m
    induction m with
    | zero => intro _ j; rw [if_neg (by omega)]; simp only [iter]; rw [h1']; omega
    | succ m ih =>
      intro hm j
      have ih := ih (by omega)
      have hl : (iter (addI b) m (iter (addI a) a.length (rep (max a.length b.length : Nat) 0))).length = max a.length b.length := by rw [addI_lens, addI_lens, rep_len]; omega
      have e : iter (addI b) (m + 1) (iter (addI a) a.length (rep (max a.length b.length : Nat) 0)) = addI b m (iter (addI b) m (iter (addI a) a.length (rep (max a.length b.length : Nat) 0))) := rfl
      rw [e, addI, atI_set (by rw [hl]; omega)]
      have b1 := polF_all ha m
      have b2 := polF_all hb m
      by_cases q : m = j
      · subst q; rw [if_pos rfl, ih m, if_neg (by omega), if_pos (by omega), wrap_i64 (by omega)]; omega
      · rw [if_neg q, ih j]
        by_cases q2 : j < m
        · rw [if_pos q2, if_pos (by omega)]
        · rw [if_neg q2, if_neg (by omega)]
  have := key b.length (Nat.le_refl _) k
  rw [addU, this]
  by_cases q : k < b.length
  · rw [if_pos q]
  · rw [if_neg q, atI_outP (p := b) (by omega)]

/-- Division is multiplication undone. -/
theorem dv_back {a b s t : List Int} (h : dvM a b = some (s, t)) : t.length < b.length ∧ (mlO s b = true → adO (mlR s b) t = true → adR (mlR s b) t = a) := by
  simp only [dvM] at h
  split at h
  · rename_i hc
    simp only [dvC, Bool.and_eq_true, decide_eq_true_eq] at hc
    obtain ⟨⟨⟨hsa, hl⟩, hz⟩, hall⟩ := hc
    have hb13 := inR_iff.1 hl
    have hbk : ∀ k : Nat, -1 ≤ atI b k ∧ atI b k ≤ 1 := by
      intro k
      rcases Nat.lt_or_ge k b.length with c | c
      · exact inR_iff.1 (List.all_eq_true.1 hall _ (by simp [atI, c]))
      · rw [atI_outP c]; omega
    have hak := smlF_all hsa
    have hal := smlF_len hsa
    have hdn : dvN a b = a.length + 1 - b.length := rfl
    cases hd : dvL b (dvN a b) (a, rep (dvN a b : Nat) 0) with
    | none => rw [hd] at h; cases h
    | some y =>
      rw [hd] at h
      simp only [Option.bind_some] at h
      split at h
      · rename_i hp
        simp only [Bool.and_eq_true] at hp
        simp only [Option.some.injEq, Prod.mk.injEq] at h
        obtain ⟨rfl, rfl⟩ := h
        obtain ⟨e1, e2⟩ := dvL_len hd
        simp only [rep_len, Int.toNat_natCast] at e1 e2
        have hB : (100000 : Int) + (dvN a b : Nat) * 1000000000 ≤ 4000000000000000000 := by omega
        have sem := (dvL_sem (by omega) hbk (dvN a b) (a, rep (dvN a b : Nat) 0) y 100000 hd (by simp only; omega) (by simp [rep]) hak hB).1
        have z := dvL_z (by omega) hbk hz (dvN a b) (a, rep (dvN a b : Nat) 0) y 100000 hd (by simp only; omega) hak hB (fun k q => atI_outP (show a.length ≤ k by omega))
        refine ⟨?_, fun hm had => ?_⟩
        · rw [trimF_len]
          have h1 : trN y.1 y.1.length = trN y.1 (min (b.length - 1) y.1.length) := trN_0 (by omega) fun j q1 q2 => z j (by omega)
          have h2 := trN_le (p := y.1) (min (b.length - 1) y.1.length)
          omega
        · have hm' := hm
          simp only [mlO, Bool.and_eq_true, decide_eq_true_eq] at hm'
          obtain ⟨⟨⟨hs1, hs2⟩, hs3⟩, hs4⟩ := hm'
          have had' := had
          simp only [adO, Bool.and_eq_true] at had'
          have hA : adR (mlR (trimF y.2) b) (trimF y.1) = trimF (addU (mlR (trimF y.2) b) (trimF y.1)) := by simp [adR, had]
          have hM : mlR (trimF y.2) b = trimF (mlU (trimF y.2) b ((trimF y.2).length + b.length)) := by simp [mlR, hm]
          have hsl := trimF_len (p := y.2)
          have hsl2 := trN_le (p := y.2) y.2.length
          refine ext_trim ?_ ?_ fun k => ?_
          · rw [hA]; exact polF_last had'.2
          · simp only [smlF, Bool.and_eq_true] at hsa
            exact polF_last hsa.2
          · rw [hA, trim_at, addU_at had'.1.1 had'.1.2, hM, trim_at, trim_at]
            have h1 := (mlU_sem (n := (trimF y.2).length + b.length) (smlF_all hs1) (smlF_all hs2) (trimF y.2).length (by have := smlF_len hs1; omega) (by omega) k).1
            rw [mlU, h1]
            have h2 := sem k
            simp only at h2
            rw [h2]
            have h3 : sumZ (fun j => rowI y.2 b j k) (dvN a b) = sumZ (fun j => rowI y.2 b j k) (trimF y.2).length := by
              refine sumZ_more (by omega) fun i q1 q2 => ?_
              have : atI y.2 i = 0 := by rw [← trim_at, atI_outP q1]
              simp only [rowI, this]; split <;> simp
            have h4 : sumZ (fun j => rowI (trimF y.2) b j k) (trimF y.2).length = sumZ (fun j => rowI y.2 b j k) (trimF y.2).length := sumZ_congr fun i _ => by simp only [rowI, trim_at]
            rw [h3, h4]; omega
      · cases h
  · cases h
end Go.Cat

