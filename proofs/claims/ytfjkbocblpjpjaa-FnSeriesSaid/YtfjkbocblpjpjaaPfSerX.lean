/-
  Series: what inverses and reversions are.
-/
import Derived.Test.YtfjkbocblpjpjaaPfRev
import Derived.Test.YtfjkbocblpjpjaaPfSerC
import Derived.Test.YtfjkbocblpjpjaaPfHankB
namespace Go.Cat
variable {K : Nat → List D → List D → Prop}
set_option maxRecDepth 100000

/-- Equal up to wraps. -/
def cg (x y : Int) : Prop := ∃ q : Int, x = y + 18446744073709551616 * q
theorem cg_rfl {x : Int} : cg x x := ⟨0, by omega⟩
theorem cg_wrap {x : Int} : cg (IntKind.i64.wrap x) x := wrap_ex x
theorem cg_trans {x y z : Int} : cg x y → cg y z → cg x z := fun ⟨a, h⟩ ⟨b, g⟩ => ⟨a + b, by omega⟩
theorem cg_add {x y z w : Int} : cg x y → cg z w → cg (x + z) (y + w) := fun ⟨a, h⟩ ⟨b, g⟩ => ⟨a + b, by omega⟩
theorem cg_w {x y : Int} : cg x y → IntKind.i64.wrap x = IntKind.i64.wrap y := fun ⟨_, h⟩ => wrap_eq h
theorem cg_wl {x y : Int} (h : cg x y) : cg (IntKind.i64.wrap x) y := cg_trans cg_wrap h
theorem wrap_0 : IntKind.i64.wrap 0 = 0 := rfl
theorem wrap_1 : IntKind.i64.wrap 1 = 1 := rfl

theorem cf_w {a b : List Int} {i m : Nat} : IntKind.i64.wrap (cf a b i (m + 1) 0) = cf a b i (m + 1) 0 := wrap_wrap

/-! ### The inverse -/
theorem cf_inv {a b o : List Int} {i : Nat} : ∀ {n : Nat}, (∀ k : Nat, k < n → atI b ((i : Int) - k) = atI o ((i : Int) - k)) → cg (cf a b (i + 1) (n + 1) 0) (atI a 0 * atI b ((i : Int) + 1) + invS a o i n)
  | 0, _ => by
    have e : cf a b (i + 1) 1 0 = IntKind.i64.wrap (0 + IntKind.i64.wrap (atI a 0 * atI b ((i : Int) + 1))) := by
      show IntKind.i64.wrap (0 + IntKind.i64.wrap (atI a ((0 : Nat) : Int) * atI b (((i + 1 : Nat) : Int) - ((0 : Nat) : Int)))) = _
      rw [show (((i + 1 : Nat) : Int) - ((0 : Nat) : Int)) = (i : Int) + 1 by omega]; rfl
    rw [e, Int.zero_add, wrap_wrap]
    show cg _ (_ + 0)
    rw [Int.add_zero]
    exact cg_wrap
  | n + 1, h => by
    have ih := cf_inv (a := a) (b := b) (o := o) (i := i) (n := n) fun k hk => h k (by omega)
    have e1 : cf a b (i + 1) (n + 2) 0 = IntKind.i64.wrap (cf a b (i + 1) (n + 1) 0 + IntKind.i64.wrap (atI a ((n : Int) + 1) * atI b ((i : Int) - n))) := by
      show IntKind.i64.wrap (cf a b (i + 1) (n + 1) 0 + IntKind.i64.wrap (atI a ((n + 1 : Nat) : Int) * atI b (((i + 1 : Nat) : Int) - ((n + 1 : Nat) : Int)))) = _
      rw [show (((i + 1 : Nat) : Int) - ((n + 1 : Nat) : Int)) = (i : Int) - n by omega, show ((n + 1 : Nat) : Int) = (n : Int) + 1 by omega]
    have e2 : invS a o i (n + 1) = IntKind.i64.wrap (invS a o i n + IntKind.i64.wrap (atI a ((n : Int) + 1) * atI o ((i : Int) - n))) := by
      show IntKind.i64.wrap (invS a o i n + IntKind.i64.wrap (atI a ((n : Int) + 1) * atI o ((i : Int) + 1 - ((n : Int) + 1)))) = _
      rw [show ((i : Int) + 1 - ((n : Int) + 1)) = (i : Int) - n by omega]
    rw [e1, e2, h n (by omega)]
    generalize IntKind.i64.wrap (atI a ((n : Int) + 1) * atI o ((i : Int) - n)) = t
    refine cg_wl ?_
    obtain ⟨q, hq⟩ := ih
    obtain ⟨r, hr⟩ := wrap_ex (invS a o i n + t)
    exact ⟨q - r, by omega⟩

theorem invF_pre {a : List Int} {m : Nat} : ∀ {n j : Nat}, m ≤ n → j ≤ m → atI (invF a n) j = atI (invF a m) j
  | 0, j, h, _ => by obtain rfl : m = 0 := by omega
                     rfl
  | n + 1, j, h, hj => by
    rcases Nat.lt_or_ge n m with q | q
    · obtain rfl : m = n + 1 := by omega
      rfl
    · rw [← invF_pre (n := n) q hj]
      show atI (invF a n ++ [_]) j = _
      have := invF_len (a := a) (n := n)
      simp only [atI, Int.toNat_natCast, List.getD_eq_getElem?_getD]
      rw [List.getElem?_append_left (by omega)]
theorem invF_at {a : List Int} {i n : Nat} (h : i < n) : atI (invF a n) ((i : Int) + 1) = IntKind.i64.wrap (IntKind.i64.wrap (0 - atI a 0) * invS a (invF a i) i (i + 1)) := by
  rw [show (i : Int) + 1 = ((i + 1 : Nat) : Int) by omega, invF_pre (m := i + 1) h (Nat.le_refl _)]
  show atI (invF a i ++ [_]) ((i + 1 : Nat) : Int) = _
  have := invF_len (a := a) (n := i)
  simp only [atI, Int.toNat_natCast, List.getD_eq_getElem?_getD]
  rw [List.getElem?_append_right (by omega), this, Nat.sub_self]
  rfl
theorem invO_p {a : List Int} (h : invO a = true) : 1 ≤ a.length ∧ a.length ≤ 12 ∧ (atI a 0 = 1 ∨ atI a 0 = -1) := by
  simp only [invO, Bool.and_eq_true, Bool.or_eq_true, decide_eq_true_eq] at h
  have := fineF_len h.1.1
  exact ⟨this.1, this.2, h.1.2⟩
theorem invR_full {a : List Int} (h : invO a = true) : (invR a).length = a.length := by
  have := invO_p h
  simp only [invR, h, if_true, invF_len]; omega
/-- THE INVERSE: the product is 1. -/
theorem inv_one {a : List Int} (h : invO a = true) {j : Nat} (hj : j < a.length) : atI (timesF a (invR a) a.length) j = if j = 0 then 1 else 0 := by
  obtain ⟨h1, h2, h3⟩ := invO_p h
  have hR : invR a = invF a (a.length - 1) := by simp [invR, h]
  rw [times_at hj, hR]
  cases j with
  | zero =>
    have e : atI (invF a (a.length - 1)) ((0 : Nat) : Int) = atI a 0 := by rw [invF_pre (m := 0) (by omega) (Nat.le_refl _)]; rfl
    show IntKind.i64.wrap (0 + IntKind.i64.wrap (atI a ((0 : Nat) : Int) * atI (invF a (a.length - 1)) (((0 : Nat) : Int) - ((0 : Nat) : Int)))) = _
    rw [show (((0 : Nat) : Int) - ((0 : Nat) : Int)) = ((0 : Nat) : Int) by omega, e]
    rcases h3 with q | q
    · rw [show atI a ((0 : Nat) : Int) = 1 from q, q]; rfl
    · rw [show atI a ((0 : Nat) : Int) = -1 from q, q]; rfl
  | succ i =>
    have hc : cg (cf a (invF a (a.length - 1)) (i + 1) (i + 2) 0) (atI a 0 * atI (invF a (a.length - 1)) ((i : Int) + 1) + invS a (invF a i) i (i + 1)) := cf_inv (a := a) (b := invF a (a.length - 1)) (o := invF a i) (i := i) (n := i + 1) (fun k hk => by
      rw [show (i : Int) - k = ((i - k : Nat) : Int) by omega]
      exact invF_pre (by omega) (by omega))
    rw [invF_at (by omega)] at hc
    obtain ⟨q, hq⟩ := hc
    have hz : cg (cf a (invF a (a.length - 1)) (i + 1) (i + 2) 0) 0 := by
      rcases h3 with e | e
      · rw [e, show IntKind.i64.wrap (0 - 1) = -1 from rfl] at hq
        obtain ⟨r, hr⟩ := wrap_ex (-1 * invS a (invF a i) i (i + 1))
        exact ⟨q + r, by omega⟩
      · rw [e, show IntKind.i64.wrap (0 - -1) = 1 from rfl] at hq
        obtain ⟨r, hr⟩ := wrap_ex (1 * invS a (invF a i) i (i + 1))
        exact ⟨q - r, by omega⟩
    rw [← cf_w, cg_w hz, if_neg (by omega)]; rfl

/-! ### The reversion -/
def rvB (a : List Int) (n m : Nat) : List Int := iter (rvS a n) m (rvI n)
theorem rvB_G {a : List Int} {n : Nat} (h : 2 ≤ n) : ∀ {m : Nat}, m ≤ n - 2 → rvG n m (rvB a n m)
  | 0, _ => rvI_G h
  | m + 1, hm => rvS_G (rvB_G h (by omega)) (by omega)
theorem rvB_at {a : List Int} {n : Nat} (h : 2 ≤ n) {m j : Nat} (hm : m + 1 ≤ n - 2) : atI (rvB a n (m + 1)) j = if m + 2 = j then IntKind.i64.wrap (0 - rvV a (rvB a n m) n (m + 2) (m + 1)) else atI (rvB a n m) j := by
  have hG := rvB_G (a := a) h (m := m) (by omega)
  show atI (rvS a n m (rvB a n m)) j = _
  rw [rvS, show (m : Int) + 2 = ((m + 2 : Nat) : Int) by omega, atI_set (by rw [hG.1]; omega)]
theorem rvB_pre {a : List Int} {n : Nat} (h : 2 ≤ n) {m : Nat} : ∀ {k j : Nat}, m ≤ k → k ≤ n - 2 → j < m + 2 → atI (rvB a n k) j = atI (rvB a n m) j
  | 0, j, h1, _, _ => by obtain rfl : m = 0 := by omega
                         rfl
  | k + 1, j, h1, h2, h3 => by
    rcases Nat.lt_or_ge k m with q | q
    · obtain rfl : m = k + 1 := by omega
      rfl
    · rw [rvB_at h (by omega), if_neg (by omega), rvB_pre h q (by omega) h3]

theorem pw_same {b c : List Int} {n i : Nat} (hb : b.length = n) (hc : c.length = n) (hb0 : atI b 0 = 0) (hc0 : atI c 0 = 0) (he : ∀ j : Nat, j < i → atI b j = atI c j) : ∀ {j m : Nat}, (0 < j ∧ m ≤ i) ∨ m < i → atI (pw b n j) m = atI (pw c n j) m
  | 0, m, h => he m (by omega)
  | j + 1, m, h => by
    rcases Nat.lt_or_ge m n with q | q
    · rw [pw, pw, times_at q, times_at q]
      have key : ∀ l : Nat, l ≤ m + 1 → cf (pw b n j) b m l 0 = cf (pw c n j) c m l 0 := by
        intro l
        induction l with
        | zero => intro _; rfl
        | succ l ih =>
          intro hl
          show IntKind.i64.wrap (cf (pw b n j) b m l 0 + IntKind.i64.wrap (atI (pw b n j) l * atI b ((m : Int) - l))) = IntKind.i64.wrap (cf (pw c n j) c m l 0 + IntKind.i64.wrap (atI (pw c n j) l * atI c ((m : Int) - l)))
          rw [ih (by omega)]
          have e : atI (pw b n j) l * atI b ((m : Int) - l) = atI (pw c n j) l * atI c ((m : Int) - l) := by
            rcases Nat.eq_zero_or_pos l with r | r
            · subst r
              rw [pw_z hb hb0 (Nat.zero_le _), pw_z hc hc0 (Nat.zero_le _), Int.zero_mul, Int.zero_mul]
            · rcases Nat.lt_or_ge l m with s | s
              · rw [pw_same hb hc hb0 hc0 he (j := j) (m := l) (by omega), show (m : Int) - l = ((m - l : Nat) : Int) by omega, he (m - l) (by omega)]
              · obtain rfl : l = m := by omega
                rw [Int.sub_self, hb0, hc0, Int.mul_zero, Int.mul_zero]
          rw [e]
      exact key (m + 1) (Nat.le_refl _)
    · rw [atI_out (by rw [pw_len hb]; exact q), atI_out (by rw [pw_len hc]; exact q)]

theorem rvV_same {a b c : List Int} {n i : Nat} (h : ∀ j : Nat, atI (pw b n (j + 1)) i = atI (pw c n (j + 1)) i) : ∀ {m : Nat}, rvV a b n i m = rvV a c n i m
  | 0 => rfl
  | m + 1 => by
    show IntKind.i64.wrap (rvV a b n i m + IntKind.i64.wrap (atI a ((m : Int) + 2) * atI (pw b n (m + 1)) i)) = IntKind.i64.wrap (rvV a c n i m + IntKind.i64.wrap (atI a ((m : Int) + 2) * atI (pw c n (m + 1)) i))
    rw [rvV_same h, h]
theorem rvV_far {a b : List Int} {n i j : Nat} (hb : b.length = n) (h0 : atI b 0 = 0) (h : i ≤ j + 1) : ∀ {m : Nat}, j ≤ m → rvV a b n i m = rvV a b n i j
  | 0, q => by obtain rfl : j = 0 := by omega
               rfl
  | m + 1, q => by
    rcases Nat.lt_or_ge m j with r | r
    · obtain rfl : j = m + 1 := by omega
      rfl
    · show IntKind.i64.wrap (rvV a b n i m + IntKind.i64.wrap (atI a ((m : Int) + 2) * atI (pw b n (m + 1)) i)) = _
      rw [pw_z hb h0 (by omega), Int.mul_zero, wrap_0, Int.add_zero, rvV_w, rvV_far hb h0 h r]

/-- The powers in turn: 1, b, b times b. -/
def pws (b : List Int) (n : Nat) : Nat → List Int
  | 0 => unitL n
  | k + 1 => pw b n k
/-- The sums. -/
def sm (f b : List Int) (n i : Nat) (k : Nat) : Int := iter (fun k s => IntKind.i64.wrap (s + IntKind.i64.wrap (atI f k * atI (pws b n k) i))) k 0
theorem sm_w {f b : List Int} {n i k : Nat} : IntKind.i64.wrap (sm f b n i (k + 1)) = sm f b n i (k + 1) := wrap_wrap

theorem rvO_p {f : List Int} (h : rvO f = true) : 2 ≤ f.length ∧ f.length ≤ 8 ∧ atI f 0 = 0 ∧ atI f 1 = 1 ∧ fineF f = true := by
  have h2 := h
  simp only [rvO, Bool.and_eq_true, decide_eq_true_eq] at h2
  have := inR_iff.1 h2.1.1.1
  exact ⟨by omega, by omega, h2.1.2, h2.2, fine_of h2.1.1.2 h2.1.1.1⟩

theorem sm_cg {f b : List Int} {n i : Nat} (h0 : atI f 0 = 0) (h1 : atI f 1 = 1) : ∀ {j : Nat}, cg (sm f b n i (j + 2)) (atI b i + rvV f b n i j)
  | 0 => by
    show cg (IntKind.i64.wrap (IntKind.i64.wrap (0 + IntKind.i64.wrap (atI f ((0 : Nat) : Int) * atI (unitL n) i)) + IntKind.i64.wrap (atI f ((1 : Nat) : Int) * atI b i))) (atI b i + 0)
    rw [show atI f ((0 : Nat) : Int) = 0 from h0, show atI f ((1 : Nat) : Int) = 1 from h1, Int.zero_mul, Int.one_mul, wrap_0, Int.add_zero, wrap_0, Int.zero_add, Int.add_zero]
    exact cg_wl cg_wrap
  | j + 1 => by
    have ih := sm_cg (f := f) (b := b) (n := n) (i := i) h0 h1 (j := j)
    have e : sm f b n i (j + 3) = IntKind.i64.wrap (sm f b n i (j + 2) + IntKind.i64.wrap (atI f ((j : Int) + 2) * atI (pw b n (j + 1)) i)) := by
      show IntKind.i64.wrap (sm f b n i (j + 2) + IntKind.i64.wrap (atI f ((j + 2 : Nat) : Int) * atI (pw b n (j + 1)) i)) = _
      rw [show ((j + 2 : Nat) : Int) = (j : Int) + 2 by omega]
    have e2 : rvV f b n i (j + 1) = IntKind.i64.wrap (rvV f b n i j + IntKind.i64.wrap (atI f ((j : Int) + 2) * atI (pw b n (j + 1)) i)) := rfl
    rw [e, e2]
    generalize IntKind.i64.wrap (atI f ((j : Int) + 2) * atI (pw b n (j + 1)) i) = t
    refine cg_wl ?_
    obtain ⟨q, hq⟩ := ih
    obtain ⟨r, hr⟩ := wrap_ex (rvV f b n i j + t)
    exact ⟨q - r, by omega⟩

/-- THE REVERSION: the composition is x. -/
theorem rev_one {f : List Int} (h : rvO f = true) {i : Nat} (hi : i < f.length) : sm f (rvF f f.length) f.length i f.length = if i = 1 then 1 else 0 := by
  obtain ⟨h1, h2, h3, h4, _⟩ := rvO_p h
  obtain ⟨n, hn⟩ : ∃ n, n = f.length := ⟨_, rfl⟩
  rw [← hn] at hi h1 h2 ⊢
  have hF : rvF f n = rvB f n (n - 2) := rfl
  have hG := rvB_G (a := f) h1 (m := n - 2) (Nat.le_refl _)
  obtain ⟨j, hj⟩ : ∃ j, n = j + 2 := ⟨n - 2, by omega⟩
  have hc := sm_cg (f := f) (b := rvF f n) (n := n) (i := i) h3 h4 (j := j)
  have hw := sm_w (f := f) (b := rvF f n) (n := n) (i := i) (k := j + 1)
  rw [← hj] at hc
  rw [show j + 1 + 1 = n by omega] at hw
  rw [← hw, cg_w hc, hF]
  have hz : rvV f (rvB f n (n - 2)) n i 0 = 0 := rfl
  have hsmall : i ≤ 1 → rvV f (rvB f n (n - 2)) n i j = 0 := by
    intro q
    rw [rvV_far hG.1 hG.2.1 (j := 0) (by omega) (Nat.zero_le _)]; rfl
  match i, hi, hsmall with
  | 0, _, hs =>
    rw [hs (by omega), show atI (rvB f n (n - 2)) ((0 : Nat) : Int) = 0 from hG.2.1]; rfl
  | 1, _, hs =>
    have e : atI (rvB f n (n - 2)) ((1 : Nat) : Int) = 1 := by
      rw [rvB_pre h1 (m := 0) (by omega) (Nat.le_refl _) (by omega)]
      have := rvI_at (n := n) (j := 1) h1
      exact this
    rw [hs (by omega), e]; rfl
  | m + 2, hi, _ =>
    have hGm := rvB_G (a := f) h1 (m := m) (by omega)
    have e : atI (rvB f n (n - 2)) ((m + 2 : Nat) : Int) = IntKind.i64.wrap (0 - rvV f (rvB f n m) n (m + 2) (m + 1)) := by
      rw [rvB_pre h1 (m := m + 1) (by omega) (Nat.le_refl _) (by omega), rvB_at h1 (by omega), if_pos rfl]
    have e2 : rvV f (rvB f n (n - 2)) n (m + 2) j = rvV f (rvB f n m) n (m + 2) (m + 1) := by
      rw [rvV_far hG.1 hG.2.1 (j := m + 1) (by omega) (by omega)]
      refine rvV_same fun l => ?_
      exact pw_same hG.1 hGm.1 hG.2.1 hGm.2.1 (i := m + 2) (fun k hk => rvB_pre h1 (by omega) (Nat.le_refl _) (by omega)) (Or.inl ⟨by omega, Nat.le_refl _⟩)
    rw [e, e2, if_neg (by omega)]
    obtain ⟨r, hr⟩ := wrap_ex (0 - rvV f (rvB f n m) n (m + 2) (m + 1))
    rw [wrap_eq (y := 0) (q := r) (by omega)]; rfl

/-! ### Catalan series -/
theorem satC0 : allB 13 (fun n => !inR 1 12 n || satF (csR n)) = true := by kernel_rfl
theorem satC {n : Int} (h : inR 1 12 n = true) : satF (csR n) = true := by
  have hb := inR_iff.1 h
  obtain ⟨m, rfl⟩ := Int.eq_ofNat_of_zero_le (show 0 ≤ n by omega)
  have := allB_spec satC0 m (by omega)
  rw [h] at this
  exact this
theorem hankC0 : allB 13 (fun n => allB 5 fun k => allB 2 fun s => !decide (k = 0 ∨ 2 * (k - 1) + s < n) || decide (detF k (hkM (csR n) k s) = 1)) = true := by kernel_rfl
theorem hankC {n : Int} (h : inR 1 12 n = true) {k s : Nat} (hk : k < 5) (hs : s < 2) (hh : hkB (csR n) k s = true) : hkV (csR n) k s = 1 := by
  have hb := inR_iff.1 h
  obtain ⟨m, rfl⟩ := Int.eq_ofNat_of_zero_le (show 0 ≤ n by omega)
  have e := allB_spec (allB_spec (allB_spec hankC0 m (by omega)) k hk) s hs
  rw [hkV_t hh]
  simp only [hkB, Bool.and_eq_true, decide_eq_true_eq, Int.toNat_natCast] at hh
  have hl : (csR m).length = m := by simp [csR, h]
  have hc : k = 0 ∨ 2 * (k - 1) + s < m := by
    rcases Nat.eq_zero_or_pos k with q | q
    · exact Or.inl q
    · have := (hh.2 (k - 1) (by omega) (k - 1) (by omega)).1
      rw [hl] at this
      exact Or.inr (by omega)
  simp only [hc, decide_true, Bool.not_true, Bool.false_or, decide_eq_true_eq] at e
  exact e
theorem lineC : rvO [0, 1, -1, 0, 0, 0, 0] = true ∧ rvR [0, 1, -1, 0, 0, 0, 0] = [0, 1, 1, 2, 5, 14, 42] := ⟨by decide, by decide⟩
end Go.Cat

