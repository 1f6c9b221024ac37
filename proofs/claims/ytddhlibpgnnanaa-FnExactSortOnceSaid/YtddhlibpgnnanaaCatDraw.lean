/-
  Regions whose order is left open: whatever order is drawn, the facts come out as in the order of the text, where what may part is ordered.
-/
import Derived.Test.YtddhlibpgnnanaaCatSeq
namespace Go.Cat

structure Rc where
  q : Sq
  cnt : Nat
  dst : Option Nat

def recs : Nat → List Oper → List Sq → List Rc
  | cnt, o :: os, q :: qs => ⟨q, cnt, o.dst⟩ :: recs (cnt + q.it.p.np) os qs
  | _, _, _ => []

def Rc.kills (r : Rc) (f : Fact) : Bool := !keepF r.dst r.q.sm.kill f

def Rc.pushes (r : Rc) (n : Nat) : Bool := decide (r.cnt ≤ n ∧ n < r.cnt + r.q.it.p.np)

/-- May the order of the two (x ahead of y in the text) be seen? -/
def conf (x y : Rc) : Bool :=
  x.q.sm.adds.any (y.q.sm.needs.contains ·) || x.q.sm.needs.any y.kills || y.q.sm.adds.any x.kills || y.q.sm.adds.any fun f => f.ments.any x.pushes

def depsOf (o : Oper) : List Nat := (o.after.toList.filter (Region.binds .any)).map (·.on)

def befB (acc : List Nat) (ds : List Nat) : Nat := ds.foldr (fun d s => s ||| 2 ^ d ||| acc.getD d 0) 0

def befs : List Nat → List Oper → List Nat
  | acc, [] => acc
  | acc, o :: os => befs (acc ++ [befB acc (depsOf o)]) os

def confOK (rs : List Rc) (bf : List Nat) : Bool :=
  rs.zipIdx.all fun y => rs.zipIdx.all fun x => if x.2 < y.2 then !conf x.1 y.1 || (bf.getD y.2 0).testBit x.2 else true

def depsOK (os : List Oper) : Bool := os.zipIdx.all fun x => (depsOf x.1).all fun d => decide (d < x.2)

/-- What is asked of a region that draws its order. -/
def drawOK (st : List Fact) (cnt : Nat) (os : List Oper) (qs : List Sq) : Bool :=
  let rs := recs cnt os qs
  confOK rs (befs [] os) && depsOK os && (rs.all fun r => r.q.sm.adds.all fun f => f.ments.all fun n => decide (n < r.cnt + r.q.it.p.np)) && bdOK st cnt

theorem befB_bit {acc ds : List Nat} {i : Nat} (h : (befB acc ds).testBit i = true) : ∃ d ∈ ds, i = d ∨ (acc.getD d 0).testBit i = true := by
  induction ds with
  | nil => simp [befB] at h
  | cons d ds ih =>
    simp only [befB, List.foldr_cons, Nat.testBit_or, Bool.or_eq_true] at h
    rcases h with (h | h) | h
    · obtain ⟨d', hd, q⟩ := ih h
      exact ⟨d', List.mem_cons_of_mem _ hd, q⟩
    · rw [Nat.testBit_two_pow] at h
      have h' : d = i := by simpa using h
      exact ⟨d, List.mem_cons_self .., .inl h'.symm⟩
    · exact ⟨d, List.mem_cons_self .., .inr h⟩

theorem befs_prefix : ∀ (os : List Oper) (acc : List Nat), ∃ t, befs acc os = acc ++ t ∧ t.length = os.length
  | [], acc => ⟨[], by simp [befs], rfl⟩
  | o :: os, acc => by
    obtain ⟨t, h, hl⟩ := befs_prefix os (acc ++ [befB acc (depsOf o)])
    exact ⟨befB acc (depsOf o) :: t, by simp [befs, h], by simp [hl]⟩

/-- Closed under what must come ahead. -/
theorem befs_closed {S : Nat → Prop} {all : List Oper} (hd : ∀ k o, all[k]? = some o → ∀ d ∈ depsOf o, d < k) (hS : ∀ k o, S k → all[k]? = some o → ∀ d ∈ depsOf o, S d) :
    ∀ (os pre : List Oper) (acc : List Nat), all = pre ++ os → acc.length = pre.length →
      (∀ k o, k < pre.length → all[k]? = some o → (∀ d ∈ depsOf o, S d) → ∀ i, (acc.getD k 0).testBit i = true → S i) →
      ∀ k o, all[k]? = some o → (∀ d ∈ depsOf o, S d) → ∀ i, ((befs acc os).getD k 0).testBit i = true → S i
  | [], pre, acc => fun ha hl h k o hk => by
    simp only [befs]
    refine h k o ?_ hk
    subst ha
    rcases Nat.lt_or_ge k pre.length with q | q
    · exact q
    · simp [List.getElem?_eq_none q] at hk
  | o :: os, pre, acc => fun ha hl h => by
    simp only [befs]
    refine befs_closed hd hS os (pre ++ [o]) _ (by simp [ha]) (by simp [hl]) ?_
    intro k o' hk ho' hdep i hi
    simp only [List.length_append, List.length_cons, List.length_nil] at hk
    rcases Nat.lt_or_ge k pre.length with q | q
    · rw [List.getD_eq_getElem?_getD, List.getElem?_append_left (by omega), ← List.getD_eq_getElem?_getD] at hi
      exact h k o' q ho' hdep i hi
    · have hke : k = pre.length := by omega
      subst hke
      have hoo : o' = o := by
        have := ho'
        rw [ha] at this
        simp at this
        exact this.symm
      subst hoo
      rw [List.getD_eq_getElem?_getD, List.getElem?_append_right (by omega)] at hi
      simp only [hl, Nat.sub_self, List.getElem?_cons_zero, Option.getD_some] at hi
      obtain ⟨d, hdm, hi⟩ := befB_bit hi
      rcases hi with rfl | hi
      · exact hdep _ hdm
      · have hdl : d < pre.length := hd _ _ ho' d hdm
        have : ∃ od, all[d]? = some od := by
          refine ⟨all[d]'(by rw [ha]; simp; omega), by simp⟩
        obtain ⟨od, hod⟩ := this
        exact h d od hdl hod (hS d od (hdep d hdm) hod) i hi

section
variable (st : List Fact) (rs : List Rc)
def kl (i : Nat) (f : Fact) : Prop := ∃ r, rs[i]? = some r ∧ r.kills f = true
/-- What is known where the operations in S have been carried out. -/
def avail (S : Nat → Prop) (f : Fact) : Prop :=
  (f ∈ st ∧ ∀ i, S i → ¬ kl rs i f) ∨ ∃ j r, S j ∧ rs[j]? = some r ∧ f ∈ r.q.sm.adds ∧ ∀ i, S i → j < i → ¬ kl rs i f
end

section
variable {cf : CF} {sg : Nat → Option Sg} {E : Nat → D} {K : Nat → List D → List D → Prop} {ops : Array Oper}

/-- The order of the text: what each operation needs is there. -/
theorem seq_avail {st0 : List Fact} {rs : List Rc} : ∀ (os : List Oper) (i : Nat) (st : List Fact) (cnt : Nat) (hh : List Nat) (r : List Sq) (st' : List Fact) (cnt' : Nat),
    trSeq cf sg ops os st cnt hh = some (r, st', cnt') → (∀ j x, (recs cnt os r)[j]? = some x → rs[i + j]? = some x) → rs.length = i + os.length → ItsOK K E cnt (r.map (·.it)) →
    (∀ f ∈ st, avail st0 rs (· < i) f) →
    (∀ j x o, (recs cnt os r)[j]? = some x → os[j]? = some o → (∃ stj h, trIt cf sg ops stj x.cnt o h = some x.q) ∧ x.dst = o.dst ∧ (∀ f ∈ x.q.sm.needs, avail st0 rs (· < i + j) f) ∧ ItOK K E x.cnt x.q.it ∧ cnt ≤ x.cnt) ∧
    (∀ f ∈ st', avail st0 rs (· < i + os.length) f) ∧ (recs cnt os r).length = os.length
  | [], i, st, cnt, hh, r, st', cnt' => fun ht _ _ _ hst => by
    simp only [trSeq, Option.some.injEq, Prod.mk.injEq] at ht
    obtain ⟨rfl, rfl, rfl⟩ := ht
    refine ⟨by simp [recs], by simpa using hst, by simp [recs]⟩
  | o :: os, i, st, cnt, hh, r, st', cnt' => fun ht hrs hlen hE hst => by
    simp only [trSeq, Option.bind_eq_some_iff] at ht
    obtain ⟨q, h1, ht⟩ := ht
    split at ht
    · rename_i hcond
      simp only [Option.map_eq_some_iff, Prod.mk.injEq] at ht
      obtain ⟨⟨r2, st2, c2⟩, h2, rfl, h3⟩ := ht
      simp only [Prod.mk.injEq] at h3
      obtain ⟨rfl, rfl⟩ := h3
      simp only [List.map_cons, ItsOK] at hE
      have h0 : rs[i]? = some ⟨q, cnt, o.dst⟩ := by simpa using hrs 0 _ (by simp [recs])
      have hst1 : ∀ f ∈ nextL st o.dst q.sm, avail st0 rs (· < i + 1) f := by
        intro f hf
        rcases mem_nextL.1 hf with ⟨k1, k2⟩ | k
        · have hnk : ¬ kl rs i f := by
            rintro ⟨x, hx, hk⟩
            rw [h0] at hx
            injection hx with hx
            subst hx
            simp only [Rc.kills, Bool.not_eq_true'] at hk
            cases f with
            | en n s => simp [keepF] at hk; exact k2 hk
            | sl t l => simp [keepF] at hk; exact k2 hk
          rcases hst f k1 with ⟨a1, a2⟩ | ⟨j, x, a1, a2, a3, a4⟩
          · refine .inl ⟨a1, fun m hm => ?_⟩
            rcases Nat.lt_or_ge m i with h | h
            · exact a2 m h
            · have : m = i := by omega
              subst this; exact hnk
          · refine .inr ⟨j, x, by show j < i + 1; have : j < i := a1; omega, a2, a3, fun m hm hj => ?_⟩
            rcases Nat.lt_or_ge m i with h | h
            · exact a4 m h hj
            · have : m = i := by have : m < i + 1 := hm; omega
              subst this; exact hnk
        · refine .inr ⟨i, _, by show i < i + 1; omega, h0, k, fun m hm hj => ?_⟩
          have : m < i + 1 := hm
          omega
      obtain ⟨b1, b2, b3⟩ := seq_avail os (i + 1) _ _ _ _ _ _ h2 (fun j x hj => by
        have := hrs (j + 1) x (by simpa [recs] using hj)
        rwa [show i + 1 + j = i + (j + 1) from by omega]) (by simp at hlen; omega) hE.2 hst1
      refine ⟨?_, ?_, by simp [recs, b3]⟩
      · intro j x o' hj ho'
        cases j with
        | zero =>
          simp only [recs, List.getElem?_cons_zero, Option.some.injEq] at hj ho'
          subst hj ho'
          exact ⟨⟨st, _, h1⟩, rfl, fun f hf => hst f (subL_mem hcond.1 f hf), hE.1, Nat.le_refl _⟩
        | succ j =>
          simp only [recs, List.getElem?_cons_succ] at hj ho'
          obtain ⟨c1, c2, c3, c4, c5⟩ := b1 j x o' hj ho'
          refine ⟨c1, c2, fun f hf => ?_, c4, by omega⟩
          have := c3 f hf
          rwa [show i + 1 + j = i + (j + 1) from by omega] at this
      · intro f hf
        have := b2 f hf
        simp only [List.length_cons]
        rwa [show i + 1 + os.length = i + (os.length + 1) from by omega] at this
    · simp at ht

theorem recs_cnt : ∀ (os : List Oper) (qs : List Sq) (cnt : Nat) (j k : Nat) (x y : Rc), (recs cnt os qs)[j]? = some x → (recs cnt os qs)[k]? = some y → j < k → x.cnt + x.q.it.p.np ≤ y.cnt
  | [], _, _, _, _, _, _ => fun h => by simp [recs] at h
  | _ :: _, [], _, _, _, _, _ => fun h => by simp [recs] at h
  | o :: os, q :: qs, cnt, j, k, x, y => fun hj hk hlt => by
    cases k with
    | zero => omega
    | succ k =>
      simp only [recs, List.getElem?_cons_succ] at hk
      cases j with
      | zero =>
        simp only [recs, List.getElem?_cons_zero, Option.some.injEq] at hj
        subst hj
        have : ∀ (os : List Oper) (qs : List Sq) (cnt : Nat) (k : Nat) (y : Rc), (recs cnt os qs)[k]? = some y → cnt ≤ y.cnt := by
          intro os
          induction os with
          | nil => intro qs cnt k y h; simp [recs] at h
          | cons o os ih =>
            intro qs cnt k y h
            cases qs with
            | nil => simp [recs] at h
            | cons q qs =>
              cases k with
              | zero => simp only [recs, List.getElem?_cons_zero, Option.some.injEq] at h; subst h; exact Nat.le_refl _
              | succ k => simp only [recs, List.getElem?_cons_succ] at h; have := ih _ _ _ _ h; omega
        exact this _ _ _ _ _ hk
      | succ j =>
        simp only [recs, List.getElem?_cons_succ] at hj
        exact recs_cnt os qs _ j k x y hj hk (by omega)

theorem conf_spec {rs : List Rc} {bf : List Nat} (h : confOK rs bf = true) {i k : Nat} {x y : Rc} (hx : rs[i]? = some x) (hy : rs[k]? = some y) (hlt : i < k) (hc : conf x y = true) : (bf.getD k 0).testBit i = true := by
  simp only [confOK, List.all_eq_true] at h
  have h1 := h (y, k) (List.mem_zipIdx_iff_getElem?.2 hy) (x, i) (List.mem_zipIdx_iff_getElem?.2 hx)
  simp only [if_pos hlt, hc, Bool.not_true, Bool.false_or] at h1
  exact h1
end

section
variable {cf : CF} {sg : Nat → Option Sg} {c : Cx} {E : Nat → D} {K : Nat → List D → List D → Prop} {ops : Array Oper}

theorem Rc.kills_next {r : Rc} {F : Fact → Prop} {f : Fact} (h1 : F f) (h2 : ¬ r.kills f = true) : next F r.dst r.q.sm f := by
  left
  refine ⟨h1, ?_⟩
  cases f <;> simp [Rc.kills, keepF] at h2 ⊢ <;> exact h2

theorem draw_sound (hs : Sound cf sg K) (hc : cf.Fits c) {st : List Fact} {cnt : Nat} {hh : List Nat} {qs : List Sq} {st' : List Fact} {cnt' : Nat}
    (ht : trSeq cf sg ops ops.toList st cnt hh = some (qs, st', cnt')) (hd : drawOK st cnt ops.toList qs = true) (hE : ItsOK K E cnt (qs.map (·.it)))
    {Q : Exit → Act → World → Prop} (hq : ∀ a' w', Holds c (· ∈ st') E a' w' → Q .normal a' w') :
    ∀ (fuel : Nat) (listed : Array Bool) (a : Act) (w : World), listed.size = ops.size → ((List.range ops.size).filter fun i => !listed.getD i true).length ≤ fuel →
      (∀ k o, listed.getD k false = true → ops.toList[k]? = some o → ∀ d ∈ depsOf o, listed.getD d false = true) →
      Holds c (avail st (recs cnt ops.toList qs) (fun i => listed.getD i false = true)) E a w → wpAny c.P .any ops Q fuel listed a w := by
  simp only [drawOK, Bool.and_eq_true, List.all_eq_true, decide_eq_true_eq] at hd
  obtain ⟨⟨⟨hconf, hdeps⟩, hment⟩, hbd⟩ := hd
  have hrl : (recs cnt ops.toList qs).length = 0 + ops.toList.length := by
    have : ∀ (os : List Oper) (st : List Fact) (cnt : Nat) (hh : List Nat) (qs : List Sq) (x : List Fact × Nat), trSeq cf sg ops os st cnt hh = some (qs, x) → (recs cnt os qs).length = os.length := by
      intro os
      induction os with
      | nil => intro st cnt hh qs x h; simp [recs]
      | cons o os ih =>
        intro st cnt hh qs x h
        simp only [trSeq, Option.bind_eq_some_iff] at h
        obtain ⟨q, _, h⟩ := h
        split at h
        · simp only [Option.map_eq_some_iff, Prod.mk.injEq] at h
          obtain ⟨⟨r2, x2⟩, h2, rfl, _⟩ := h
          simp [recs, ih _ _ _ _ _ h2]
        · simp at h
    rw [this _ _ _ _ _ _ ht]; omega
  obtain ⟨hA, hfin, _⟩ := seq_avail (st0 := st) (rs := recs cnt ops.toList qs) ops.toList 0 st cnt hh qs st' cnt' ht (fun j x hj => by simpa using hj) hrl hE
    (fun f hf => .inl ⟨hf, fun i hi => by simp at hi⟩)
  generalize hrs : recs cnt ops.toList qs = rs at *
  simp only [Nat.zero_add] at hA hfin hrl
  have hdeps' : ∀ k o, ops.toList[k]? = some o → ∀ d ∈ depsOf o, d < k := by
    simp only [depsOK, List.all_eq_true, decide_eq_true_eq] at hdeps
    intro k o ho d hd
    exact hdeps (o, k) (List.mem_zipIdx_iff_getElem?.2 ho) d hd
  have hopl : ∀ k, k < ops.size → ∃ o, ops.toList[k]? = some o ∧ ops[k]? = some o := fun k hk => ⟨ops[k], by simp [hk], by simp [hk]⟩
  have hrc : ∀ k, k < ops.size → ∃ x, rs[k]? = some x := fun k hk => ⟨rs[k]'(by rw [hrl]; simpa using hk), by simp⟩
  have lts : ∀ {k : Nat} {x : Rc}, rs[k]? = some x → k < ops.size := by
    intro k x h
    rcases Nat.lt_or_ge k rs.length with q | q
    · rw [hrl] at q; simpa using q
    · rw [List.getElem?_eq_none q] at h; simp at h
  intro fuel
  induction fuel with
  | zero =>
    intro listed a w hsz hf hcl H
    have hall : ∀ k, k < ops.size → listed.getD k false = true := by
      intro k hk
      cases hlk : listed.getD k false with
      | true => rfl
      | false =>
        have h0 : (List.range ops.size).filter (fun i => !listed.getD i true) = [] := by
          exact List.eq_nil_of_length_eq_zero (by omega)
        have : k ∈ (List.range ops.size).filter (fun i => !listed.getD i true) := by
          simp only [List.mem_filter, List.mem_range, hk, true_and]
          rw [Array.getD_eq_getD_getElem?] at hlk ⊢
          rw [Array.getElem?_eq_getElem (by omega)] at hlk ⊢
          simp at hlk ⊢
          exact hlk
        rw [h0] at this; simp at this
    refine ⟨?_, hq a w (H.mono fun f hf => ?_)⟩
    · unfold Region.ready
      rw [List.filter_eq_nil_iff]
      intro i hi
      have hi' : i < ops.size := by simpa using hi
      have := hall i hi'
      rw [Array.getD_eq_getD_getElem?] at this
      rw [Array.getD_eq_getD_getElem?]
      rw [Array.getElem?_eq_getElem (by omega)] at this ⊢
      simp at this ⊢
      simp [this]
    · rcases hfin f hf with ⟨a1, a2⟩ | ⟨j, x, a1, a2, a3, a4⟩
      · refine .inl ⟨a1, fun i _ hk => ?_⟩
        obtain ⟨x, hx, hk⟩ := hk
        exact a2 i (by simpa using lts hx) ⟨x, hx, hk⟩
      · refine .inr ⟨j, x, hall j (lts a2), a2, a3, fun i _ hj hk => ?_⟩
        obtain ⟨y, hy, hk⟩ := hk
        exact a4 i (by simpa using lts hy) hj ⟨y, hy, hk⟩
  | succ fuel ih =>
    intro listed a w hsz hf hcl H
    have key : ∀ k, k < ops.size → listed.getD k false = false ∨ listed.getD k false = true := fun k _ => by cases listed.getD k false <;> simp
    have toT : ∀ k, k < ops.size → listed.getD k true = listed.getD k false := by
      intro k hk
      rw [Array.getD_eq_getD_getElem?, Array.getD_eq_getD_getElem?, Array.getElem?_eq_getElem (by omega)]
      rfl
    refine ⟨fun hr => ?_, ?_⟩
    · -- nothing is ready: all is done
      have hall : ∀ k, k < ops.size → listed.getD k false = true := by
        intro k
        induction k using Nat.strongRecOn with
        | _ k ihk =>
          intro hk
          rcases key k hk with h | h
          · exfalso
            have : k ∈ Region.ready .any ops listed := by
              unfold Region.ready
              simp only [List.mem_filter, List.mem_range, hk, true_and, Bool.and_eq_true]
              refine ⟨by rw [toT k hk, h]; rfl, ?_⟩
              obtain ⟨o, ho1, ho2⟩ := hopl k hk
              rw [ho2]
              simp only [Option.map_some, Option.getD_some]
              rw [← Array.all_toList]
              simp only [List.all_eq_true, Bool.or_eq_true, Bool.not_eq_true']
              intro e he
              cases hb : Region.binds .any e with
              | false => left; rfl
              | true =>
                right
                have hd : e.on ∈ depsOf o := by
                  simp only [depsOf, List.mem_map, List.mem_filter]
                  exact ⟨e, ⟨he, hb⟩, rfl⟩
                have := hdeps' k o ho1 _ hd
                exact ihk e.on this (by omega)
            rw [hr] at this; simp at this
          · exact h
      refine hq a w (H.mono fun f hf => ?_)
      rcases hfin f hf with ⟨a1, a2⟩ | ⟨j, x, a1, a2, a3, a4⟩
      · refine .inl ⟨a1, fun i _ hk => ?_⟩
        obtain ⟨x, hx, hk⟩ := hk
        exact a2 i (by simpa using lts hx) ⟨x, hx, hk⟩
      · refine .inr ⟨j, x, hall j (lts a2), a2, a3, fun i _ hj hk => ?_⟩
        obtain ⟨y, hy, hk⟩ := hk
        exact a4 i (by simpa using lts hy) hj ⟨y, hy, hk⟩
    · intro k hk
      unfold Region.ready at hk
      simp only [List.mem_filter, List.mem_range, Bool.and_eq_true] at hk
      obtain ⟨hkl, hkn, hkd⟩ := hk
      obtain ⟨o, ho1, ho2⟩ := hopl k hkl
      obtain ⟨x, hx⟩ := hrc k hkl
      have hkn' : listed.getD k false = false := by rw [toT k hkl] at hkn; simpa using hkn
      rw [ho2] at hkd
      simp only [Option.map_some, Option.getD_some] at hkd
      rw [← Array.all_toList] at hkd
      simp only [List.all_eq_true, Bool.or_eq_true, Bool.not_eq_true'] at hkd
      have hready : ∀ d ∈ depsOf o, listed.getD d false = true := by
        intro d hd
        simp only [depsOf, List.mem_map, List.mem_filter] at hd
        obtain ⟨e, ⟨he, hb⟩, rfl⟩ := hd
        rcases hkd e he with h | h
        · rw [hb] at h; simp at h
        · exact h
      -- what must come ahead of k has been done; what must come behind it has not
      have hbef : ∀ i, ((befs [] ops.toList).getD k 0).testBit i = true → listed.getD i false = true :=
        befs_closed (S := fun i => listed.getD i false = true) hdeps' hcl ops.toList [] [] rfl rfl (fun k _ h => by simp at h) k o ho1 hready
      have hbeh : ∀ i y, rs[i]? = some y → listed.getD i false = true → k < i → ((befs [] ops.toList).getD i 0).testBit k = true → False := by
        intro i y hy hi _ hb
        obtain ⟨oi, hoi, _⟩ := hopl i (lts hy)
        have := befs_closed (S := fun i => listed.getD i false = true) hdeps' hcl ops.toList [] [] rfl rfl (fun k _ h => by simp at h) i oi hoi (hcl i oi hi hoi) k hb
        rw [hkn'] at this; simp at this
      obtain ⟨⟨stj, h, h1⟩, h2, h3, h4, h5⟩ := hA k x o hx ho1
      have hneeds : ∀ f ∈ x.q.sm.needs, avail st rs (fun i => listed.getD i false = true) f := by
        intro f hf
        have later : ∀ i, listed.getD i false = true → k < i → ¬ kl rs i f := by
          rintro i hi hlt ⟨y, hy, hk⟩
          refine hbeh i y hy hi hlt (conf_spec hconf hx hy hlt ?_)
          simp only [conf, Bool.or_eq_true, List.any_eq_true]
          exact .inl (.inl (.inr ⟨f, hf, hk⟩))
        rcases h3 f hf with ⟨a1, a2⟩ | ⟨j, y, a1, a2, a3, a4⟩
        · refine .inl ⟨a1, fun i hi => ?_⟩
          rcases Nat.lt_trichotomy i k with q | q | q
          · exact a2 i q
          · subst q; have hi' : listed.getD i false = true := hi; rw [hkn'] at hi'; simp at hi'
          · exact later i hi q
        · have a1' : j < k := a1
          refine .inr ⟨j, y, hbef j (conf_spec hconf a2 hx a1' ?_), a2, a3, fun i hi hj => ?_⟩
          · simp only [conf, Bool.or_eq_true, List.any_eq_true]
            exact .inl (.inl (.inl ⟨f, a3, by simpa using hf⟩))
          · rcases Nat.lt_trichotomy i k with q | q | q
            · exact a4 i q hj
            · subst q; have hi' : listed.getD i false = true := hi; rw [hkn'] at hi'; simp at hi'
            · exact later i hi q
      have hfresh : ∀ j, j < x.q.it.p.np → Fresh (avail st rs (fun i => listed.getD i false = true)) (x.cnt + j) := by
        intro j hj
        have hno : ∀ f, avail st rs (fun i => listed.getD i false = true) f → x.cnt + j ∉ f.ments := by
          rintro f (⟨a1, _⟩ | ⟨i, y, a1, a2, a3, _⟩) hm
          · simp only [bdOK, List.all_eq_true, decide_eq_true_eq] at hbd
            have := hbd f a1 _ hm
            omega
          · rcases Nat.lt_trichotomy i k with q | q | q
            · have := hment y (List.mem_of_getElem? a2) f a3 _ hm
              have := recs_cnt ops.toList qs cnt i k y x (by rw [hrs]; exact a2) (by rw [hrs]; exact hx) q
              omega
            · subst q; have a1' : listed.getD i false = true := a1; rw [hkn'] at a1'; simp at a1'
            · refine hbeh i y a2 a1 q (conf_spec hconf hx a2 q ?_)
              simp only [conf, Bool.or_eq_true, List.any_eq_true]
              exact .inr ⟨f, a3, x.cnt + j, hm, by simp [Rc.pushes]; omega⟩
        exact ⟨fun s hf => hno _ hf (by simp [Fact.ments]), fun t l hf hm => hno _ hf (by simpa [Fact.ments] using hm)⟩
      refine item_sound hs hc h1 H hfresh hneeds h4 ho2 fun a' w' H' => ?_
      have hset : ∀ i, (listed.setIfInBounds k true).getD i false = true ↔ (i = k ∨ listed.getD i false = true) := by
        intro i
        simp only [Array.getD_eq_getD_getElem?, Array.getElem?_setIfInBounds]
        by_cases hik : k = i
        · subst hik; simp [show k < listed.size by omega]
        · simp only [if_neg hik]
          constructor
          · intro h; exact .inr h
          · rintro (h | h)
            · exact (hik h.symm).elim
            · exact h
      refine ih _ a' w' (by simpa using hsz) ?_ ?_ (H'.mono fun f hf => ?_)
      · -- one less is left
        have hsub : ((List.range ops.size).filter fun i => !(listed.setIfInBounds k true).getD i true).length < ((List.range ops.size).filter fun i => !listed.getD i true).length := by
          have e : ((List.range ops.size).filter fun i => !(listed.setIfInBounds k true).getD i true) = ((List.range ops.size).filter fun i => !listed.getD i true).filter (fun i => decide (i ≠ k)) := by
            rw [List.filter_filter]
            apply List.filter_congr
            intro i hi
            have hi' : i < ops.size := by simpa using hi
            simp only [Array.getD_eq_getD_getElem?, Array.getElem?_setIfInBounds]
            by_cases hik : k = i
            · subst hik; simp [show k < listed.size by omega]
            · have : i ≠ k := fun e => hik e.symm
              simp [if_neg hik, this]
          rw [e]
          have hmem : k ∈ (List.range ops.size).filter fun i => !listed.getD i true := by
            simp only [List.mem_filter, List.mem_range, hkl, true_and]
            exact hkn
          exact List.length_filter_lt_length_iff_exists.2 ⟨k, hmem, by simp⟩
        omega
      · intro i oi hi hoi d hd
        rw [hset] at hi ⊢
        right
        rcases hi with rfl | hi
        · rw [ho1] at hoi; injection hoi with hoi; subst hoi; exact hready d hd
        · exact hcl i oi hi hoi d hd
      · -- the facts
        rcases hf with ⟨a1, a2⟩ | ⟨j, y, a1, a2, a3, a4⟩
        · have hk1 : avail st rs (fun i => listed.getD i false = true) f := .inl ⟨a1, fun i hi => a2 i ((hset i).2 (.inr hi))⟩
          have hk2 : ¬ x.kills f = true := fun q => a2 k ((hset k).2 (.inl rfl)) ⟨x, hx, q⟩
          rw [← h2]
          exact Rc.kills_next hk1 hk2
        · rcases (hset j).1 a1 with rfl | b1
          · rw [hx] at a2; injection a2 with a2; subst a2
            exact .inr a3
          · have hk1 : avail st rs (fun i => listed.getD i false = true) f := .inr ⟨j, y, b1, a2, a3, fun i hi => a4 i ((hset i).2 (.inr hi))⟩
            have hk2 : ¬ x.kills f = true := by
              intro q
              rcases Nat.lt_trichotomy j k with hlt | hlt | hlt
              · exact a4 k ((hset k).2 (.inl rfl)) hlt ⟨x, hx, q⟩
              · subst hlt; have b1' : listed.getD j false = true := b1; rw [hkn'] at b1'; simp at b1'
              · refine hbeh j y a2 b1 hlt (conf_spec hconf hx a2 hlt ?_)
                simp only [conf, Bool.or_eq_true, List.any_eq_true]
                exact .inl (.inr ⟨f, a3, q⟩)
            rw [← h2]
            exact Rc.kills_next hk1 hk2
end
end Go.Cat
