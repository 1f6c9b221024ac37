/-
  Running the little language: an interpreter for the kernel, and its soundness.
-/
import Derived.Test.YtnlhpohgpmmiiaaCatSeat
namespace Go.Cat
set_option linter.unusedVariables false

/-- Bring a number to its literal form before going on. -/
def fNat {α : Type} (n : Nat) (k : Nat → α) : α := match n with
  | 0 => k 0
  | m + 1 => k (m + 1)

theorem fNat_eq {α : Type} (n : Nat) (k : Nat → α) : fNat n k = k n := by cases n <;> rfl

def fInt {α : Type} (n : Int) (k : Int → α) : α := match n with
  | .ofNat m => fNat m fun m => k (.ofNat m)
  | .negSucc m => fNat m fun m => k (.negSucc m)

theorem fInt_eq {α : Type} (n : Int) (k : Int → α) : fInt n k = k n := by cases n <;> simp [fInt, fNat_eq]

def fBool {α : Type} (b : Bool) (k : Bool → α) : α := match b with
  | true => k true
  | false => k false

theorem fBool_eq {α : Type} (b : Bool) (k : Bool → α) : fBool b k = k b := by cases b <;> rfl

def fNats {α : Type} : List Nat → (List Nat → α) → α
  | [], k => k []
  | n :: l, k => fNat n fun n => fNats l fun l => k (n :: l)

theorem fNats_eq {α : Type} : ∀ (l : List Nat) (k : List Nat → α), fNats l k = k l
  | [], _ => rfl
  | n :: l, k => by simp [fNats, fNat_eq, fNats_eq l]

mutual
def fD {α : Type} : D → (D → α) → α
  | .u, k => k .u
  | .i q n, k => fInt n fun n => k (.i q n)
  | .b x, k => fBool x fun x => k (.b x)
  | .s x, k => fNats x fun x => k (.s x)
  | .l xs, k => fDs xs fun xs => k (.l xs)
  | .g xs, k => fDs xs fun xs => k (.g xs)
  | .z, k => k .z
  | .p xs, k => fDs xs fun xs => k (.p xs)
  | .f n xs, k => fDs xs fun xs => k (.f n xs)
  termination_by structural d => d
def fDs {α : Type} : List D → (List D → α) → α
  | [], k => k []
  | d :: l, k => fD d fun d => fDs l fun l => k (d :: l)
  termination_by structural l => l
end

mutual
theorem fD_eq {α : Type} : ∀ (d : D) (k : D → α), fD d k = k d
  | .u, k => by simp only [fD]
  | .i q n, k => by simp only [fD, fInt_eq]
  | .b x, k => by simp only [fD, fBool_eq]
  | .s x, k => by simp only [fD, fNats_eq]
  | .l xs, k => by simp only [fD, fDs_eq xs]
  | .g xs, k => by simp only [fD, fDs_eq xs]
  | .z, k => by simp only [fD]
  | .p xs, k => by simp only [fD, fDs_eq xs]
  | .f n xs, k => by simp only [fD, fDs_eq xs]
theorem fDs_eq {α : Type} : ∀ (l : List D) (k : List D → α), fDs l k = k l
  | [], k => by simp only [fDs]
  | d :: l, k => by simp only [fDs, fD_eq d, fDs_eq l]
end

/-! ### Fast arithmetic: each equal to the plain one -/

theorem wrap_id {n : Int} (h1 : -9223372036854775808 ≤ n) (h2 : n ≤ 9223372036854775807) : IntKind.wrap .i64 n = n := by
  simp [IntKind.wrap, IntKind.bits, IntKind.signed] at *
  omega

def wrapF (k : IntKind) (n : Int) : Int := match k, n with
  | .i64, .ofNat m => if Nat.ble m 9223372036854775807 then .ofNat m else IntKind.wrap .i64 (.ofNat m)
  | .i64, .negSucc m => if Nat.ble m 9223372036854775807 then .negSucc m else IntKind.wrap .i64 (.negSucc m)
  | .u8, .ofNat m => .ofNat (Nat.mod m 256)
  | k, n => k.wrap n

theorem wrapF_eq (k : IntKind) (n : Int) : wrapF k n = k.wrap n := by
  unfold wrapF
  split
  · split
    · rename_i m h
      have := Nat.le_of_ble_eq_true h
      simp [IntKind.wrap, IntKind.bits, IntKind.signed]; omega
    · rfl
  · split
    · rename_i m h
      have := Nat.le_of_ble_eq_true h
      exact (wrap_id (by omega) (by omega)).symm
    · rfl
  · rename_i m
    show ((m % 256 : Nat) : Int) = _
    unfold IntKind.wrap
    simp only [IntKind.bits, IntKind.signed]
    simp
  · rfl

def leF : Int → Int → Bool
  | .ofNat a, .ofNat b => Nat.ble a b
  | .negSucc _, .ofNat _ => true
  | .ofNat _, .negSucc _ => false
  | .negSucc a, .negSucc b => Nat.ble b a

theorem leF_eq (a b : Int) : leF a b = decide (a ≤ b) := by
  unfold leF
  split
  · rw [Bool.eq_iff_iff]; simp [Nat.ble_eq]
  · rw [Bool.eq_iff_iff]; simp; omega
  · rw [Bool.eq_iff_iff]; simp; omega
  · rw [Bool.eq_iff_iff]; simp [Nat.ble_eq]; omega

def eqF : Int → Int → Bool
  | .ofNat a, .ofNat b => Nat.beq a b
  | .negSucc a, .negSucc b => Nat.beq a b
  | _, _ => false

theorem eqF_eq (a b : Int) : eqF a b = (a == b) := by
  unfold eqF
  split
  · rw [Bool.eq_iff_iff]; simp [Nat.beq_eq]; omega
  · rw [Bool.eq_iff_iff]; simp [Nat.beq_eq]
  · rename_i h1 h2
    rw [Bool.eq_iff_iff]
    constructor
    · simp
    · intro h
      have : a = b := by simpa using h
      subst this
      cases a with
      | ofNat n => exact (h1 n n rfl rfl).elim
      | negSucc n => exact (h2 n n rfl rfl).elim

def addF : Int → Int → Int
  | .ofNat a, .ofNat b => .ofNat (Nat.add a b)
  | a, b => Int.add a b
theorem addF_eq (a b : Int) : addF a b = a + b := by unfold addF; split <;> rfl
def mulF : Int → Int → Int
  | .ofNat a, .ofNat b => .ofNat (Nat.mul a b)
  | a, b => Int.mul a b
theorem mulF_eq (a b : Int) : mulF a b = a * b := by unfold mulF; split <;> rfl

def intF (op : BinOp) (k : IntKind) (a b : Int) : Option D :=
  match op with
  | .add => some (.i k (wrapF k (addF a b)))
  | .sub => some (.i k (wrapF k (Int.sub a b)))
  | .mul => some (.i k (wrapF k (mulF a b)))
  | .quo => bif eqF b (.ofNat 0) then none else some (.i k (wrapF k (Int.tdiv a b)))
  | .rem => bif eqF b (.ofNat 0) then none else some (.i k (Int.tmod a b))
  | .eql => some (.b (eqF a b))
  | .neq => some (.b (!eqF a b))
  | .lss => some (.b (!leF b a))
  | .leq => some (.b (leF a b))
  | .gtr => some (.b (!leF a b))
  | .geq => some (.b (leF b a))
  | op => intD op k a b

theorem intF_eq (op : BinOp) (k : IntKind) (a b : Int) : intF op k a b = intD op k a b := by
  have hs : Int.sub a b = a - b := rfl
  have hz : eqF b (.ofNat 0) = decide (b = 0) := by rw [eqF_eq]; rw [Bool.eq_iff_iff]; simp
  unfold intF
  split <;> simp only [intD, wrapF_eq, addF_eq, mulF_eq, hs, leF_eq, eqF_eq]
  · rw [← eqF_eq, hz]; by_cases h : b = 0 <;> simp [h]
  · rw [← eqF_eq, hz]; by_cases h : b = 0 <;> simp [h]
  · simp [bne]
  · simp only [Option.some.injEq, D.b.injEq]; rw [Bool.eq_iff_iff]; simp
  · simp only [Option.some.injEq, D.b.injEq]; rw [Bool.eq_iff_iff]; simp

def kindF : IntKind → IntKind → Bool
  | .i64, .i64 => true
  | .u8, .u8 => true
  | a, b => decide (a = b)
theorem kindF_eq (a b : IntKind) : kindF a b = decide (a = b) := by unfold kindF; split <;> simp

/-! ### The environment lies turned about: the newest entry first -/

def at_ : Nat → List D → D
  | _, [] => .u
  | 0, d :: _ => d
  | n + 1, _ :: l => at_ n l

theorem at_eq : ∀ (n : Nat) (l : List D), at_ n l = l.getD n .u
  | n, [] => by cases n <;> rfl
  | 0, d :: _ => rfl
  | n + 1, _ :: l => by rw [at_, at_eq n l]; rfl

/-- Entry n of an environment of c entries. -/
def look (r : List D) (c n : Nat) : D := bif Nat.ble c n then .u else at_ (Nat.pred (Nat.sub c n)) r

theorem look_eq {r : List D} {c : Nat} (h : r.length = c) (n : Nat) : look r c n = (r.reverse).getD n .u := by
  unfold look
  cases hb : Nat.ble c n with
  | true =>
    have := Nat.le_of_ble_eq_true hb
    rw [cond_true, List.getD_eq_getElem?_getD, List.getElem?_eq_none (by simp; omega)]; rfl
  | false =>
    have : ¬ c ≤ n := fun h => by rw [show Nat.ble c n = true by simpa using h] at hb; cases hb
    rw [cond_false, at_eq, List.getD_eq_getElem?_getD, List.getD_eq_getElem?_getD, List.getElem?_reverse (by omega)]
    congr 2
    show c - n - 1 = _
    omega

section
variable (F : Nat → List D → Option (List D))

def evG (E : Nat → D) : List (Nat × Bool) → Option Bool
  | [] => some true
  | (n, want) :: r => match E n with
    | .b x => match x, want with
      | true, true => evG E r
      | false, false => evG E r
      | _, _ => some false
    | _ => none

theorem evG_eq (E : Nat → D) : ∀ (l : List (Nat × Bool)), evG E l = gdE E l
  | [] => rfl
  | (n, want) :: r => by
    simp only [evG, gdE]
    split
    · rename_i x h; rw [h]
      cases x <;> cases want <;> simp [evG_eq E r]
    · rename_i h
      split
      · rename_i x hx; exact absurd hx (h x)
      · rfl

def evQ (E : Nat → D) : Pr → Option D
  | .bi op a b => match ev E a, ev E b with
    | .i k a, .i k' b => match op with
      | .shl => binD .shl (.i k a) (.i k' b)
      | .shr => binD .shr (.i k a) (.i k' b)
      | op => bif kindF k k' then intF op k a b else none
    | a, b => binD op a b
  | .cv k a => match ev E a with
    | .i _ n => some (.i k (wrapF k n))
    | _ => none
  | p => evP E p

theorem evQ_eq (E : Nat → D) (p : Pr) : evQ E p = evP E p := by
  unfold evQ
  split
  · rename_i op a b
    simp only [evP]
    split
    · rename_i k x k' y h1 h2
      rw [h1, h2]
      split
      · rfl
      · rfl
      · rename_i h3 h4
        rw [kindF_eq]
        simp only [binD]
        by_cases hk : k = k' <;> simp [hk, intF_eq]
    · rfl
  · rename_i k a
    simp only [evP]
    split
    · rename_i h; rw [h, wrapF_eq]
    · rename_i h
      split
      · rename_i n hn; exact absurd hn (h _ _)
      · rfl
  · rfl

def pushN : List D → List D → List D
  | [], r => r
  | d :: l, r => pushN l (d :: r)
theorem pushN_eq : ∀ (l r : List D), pushN l r = l.reverse ++ r
  | [], r => rfl
  | d :: l, r => by rw [pushN, pushN_eq l]; simp

def us : Nat → List D → List D
  | 0, r => r
  | n + 1, r => us n (.u :: r)
theorem us_eq : ∀ (n : Nat) (r : List D), us n r = List.replicate n .u ++ r
  | 0, r => rfl
  | n + 1, r => by
    rw [us, us_eq n, List.replicate_succ']
    simp

def lenN : List D → Nat → Nat
  | [], n => n
  | _ :: l, n => lenN l (n + 1)
theorem lenN_eq : ∀ (l : List D) (n : Nat), lenN l n = l.length + n
  | [], n => by simp [lenN]
  | _ :: l, n => by rw [lenN, lenN_eq l]; simp; omega

def evArgs (E : Nat → D) : List A → List D
  | [] => []
  | a :: l => ev E a :: evArgs E l
theorem evArgs_eq (E : Nat → D) : ∀ (l : List A), evArgs E l = l.map (ev E)
  | [] => rfl
  | a :: l => by simp [evArgs, evArgs_eq E l]

/-- One item; k goes on with the turned environment and its length. -/
def evIt {α : Type} (it : It) (r : List D) (c : Nat) (k : List D → Nat → Option α) : Option α :=
  match evG (look r c) it.g with
  | some true => match it.p with
    | .nop => k r c
    | .ca g xs m => fDs (evArgs (look r c) xs) fun ds => (F g ds).bind fun rs => bif Nat.beq (lenN rs 0) m then fNat (Nat.add c m) fun c' => k (pushN rs r) c' else none
    | p => (evQ (look r c) p).bind fun d => fD d fun d => fNat (Nat.succ c) fun c' => k (d :: r) c'
  | some false => fNat (Nat.add c it.p.np) fun c' => k (us it.p.np r) c'
  | none => none

def evIts {α : Type} : List It → List D → Nat → (List D → Nat → Option α) → Option α
  | [], r, c, k => k r c
  | it :: its, r, c, k => evIt F it r c fun r c => evIts its r c k

def outF (E : Nat → D) : List (Option Nat) → List D
  | [] => []
  | some n :: l => E n :: outF E l
  | none :: l => .u :: outF E l
theorem outF_eq (e : Env) : ∀ (l : List (Option Nat)), outF e.E l = outE l e
  | [] => rfl
  | some n :: l => by simp [outF, outE, outF_eq e l]
  | none :: l => by simp [outF, outE, outF_eq e l]

def evLoop (R : Env → Option (X × Env)) : Nat → Env → Option (X × Env)
  | 0, _ => none
  | n + 1, e => (R e).bind fun r => match r with
    | (.n, e1) => evLoop R n e1
    | r => some r

def evS (n : Nat) : S → Env → Option (X × Env)
  | .skip, e => some (.n, e)
  | .reg its out, e => fNat (lenN e 0) fun c => evIts F its (pushN e []) c fun r c => fDs (outF (look r c) out) fun e2 => some (.n, e2)
  | .seq a b, e => (evS n a e).bind fun r => match r with
    | (.n, e1) => evS n b e1
    | r => some r
  | .cond c x y, e => match at_ c e with
    | .b true => fDs (e.set c .u) fun e => evS n x e
    | .b false => fDs (e.set c .u) fun e => evS n y e
    | _ => none
  | .block id b, e => (evS n b e).bind fun r => match r with
    | (.ex j, e1) => bif Nat.beq j id then some (.n, e1) else some (.ex j, e1)
    | r => some r
  | .loop b, e => evLoop (evS n b) n e
  | .exit id, e => some (.ex id, e)
  | .ret, e => some (.r, e)
end

variable {F : Nat → List D → Option (List D)} {K : Nat → List D → List D → Prop}

theorem evIt_sound {α : Type} (hF : ∀ g ds rs, F g ds = some rs → K g ds rs) {it : It} {r : List D} {c : Nat} {k : List D → Nat → Option α} {x : α} (hc : r.length = c) {Q : Env → Prop} (h : evIt F it r c k = some x)
    (q : ∀ r' c', r'.length = c' → k r' c' = some x → Q r'.reverse) : wpIt K it r.reverse Q := by
  have hE : look r c = Env.E r.reverse := funext fun n => look_eq hc n
  unfold evIt at h
  unfold wpIt
  rw [hE, evG_eq] at h
  split at h
  · rename_i hg; rw [hg]
    split at h
    · rename_i hp; rw [hp]; exact q _ _ hc h
    · rename_i g xs m hp; rw [hp]
      simp only [fDs_eq, Option.bind_eq_some_iff, evArgs_eq, fNat_eq, lenN_eq] at h
      obtain ⟨rs, h1, h2⟩ := h
      cases hb : Nat.beq (rs.length + 0) m with
      | false => rw [hb, cond_false] at h2; cases h2
      | true =>
        rw [hb, cond_true] at h2
        have hm : rs.length = m := by simpa using Nat.eq_of_beq_eq_true hb
        refine ⟨rs, hF _ _ _ h1, hm, ?_⟩
        have := q _ _ ?_ h2
        · rw [pushN_eq] at this; simpa using this
        · rw [pushN_eq]; simp only [List.length_append, List.length_reverse, hm, hc]; show _ = c + m; omega
    · rename_i p h1 h2
      simp only [Option.bind_eq_some_iff, fD_eq, fNat_eq, evQ_eq] at h
      obtain ⟨d, h3, h4⟩ := h
      have := q _ _ (by simp [hc]) h4
      show wpPr K it.p r.reverse Q
      unfold wpPr
      split
      · rename_i hp; exact (h1 hp).elim
      · rename_i hp; exact (h2 _ _ _ hp).elim
      · rw [h3]; simpa using this
  · rename_i hg; rw [hg]
    simp only [fNat_eq] at h
    have := q _ _ ?_ h
    · rw [us_eq] at this; simpa using this
    · rw [us_eq]; simp only [List.length_append, List.length_replicate, hc]; show _ = c + _; omega
  · cases h

theorem evIts_sound {α : Type} (hF : ∀ g ds rs, F g ds = some rs → K g ds rs) : ∀ {its : List It} {r : List D} {c : Nat} {k : List D → Nat → Option α} {x : α} (_ : r.length = c) {Q : Env → Prop} (_ : evIts F its r c k = some x)
    (_ : ∀ r' c', r'.length = c' → k r' c' = some x → Q r'.reverse), wpIts K its r.reverse Q
  | [], r, c, k, x, hc, Q, h, q => q _ _ hc h
  | it :: its, r, c, k, x, hc, Q, h, q => evIt_sound hF hc h fun r' c' hc' h' => evIts_sound hF hc' h' q

theorem evLoop_sound {R : Env → Option (X × Env)} {W : (X → Env → Prop) → Env → Prop} (hR : ∀ e x e' Q, R e = some (x, e') → Q x e' → W Q e) : ∀ (n : Nat) {e e' : Env} {x : X} {Q : X → Env → Prop},
    evLoop R n e = some (x, e') → Q x e' → wpLoop W n Q e
  | 0, _, _, _, _, h, _ => by simp [evLoop] at h
  | n + 1, e, e', x, Q, h, q => by
    simp only [evLoop, Option.bind_eq_some_iff] at h
    obtain ⟨⟨y, e1⟩, h1, h2⟩ := h
    refine hR _ _ _ _ h1 ?_
    cases y with
    | n => exact evLoop_sound hR n h2 q
    | ex j => simp only [Option.some.injEq, Prod.mk.injEq] at h2; obtain ⟨rfl, rfl⟩ := h2; exact q
    | r => simp only [Option.some.injEq, Prod.mk.injEq] at h2; obtain ⟨rfl, rfl⟩ := h2; exact q

theorem evS_sound (hF : ∀ g ds rs, F g ds = some rs → K g ds rs) (n : Nat) : ∀ (s : S) {e e' : Env} {x : X} {Q : X → Env → Prop} (_ : evS F n s e = some (x, e')) (_ : Q x e'), wpS K s Q e
  | .skip, e, e', x, Q, h, q => by simp only [evS, Option.some.injEq, Prod.mk.injEq] at h; obtain ⟨rfl, rfl⟩ := h; exact q
  | .reg its out, e, e', x, Q, h, q => by
    simp only [evS, fNat_eq, fDs_eq, lenN_eq, pushN_eq] at h
    have := evIts_sound (r := e.reverse ++ []) (Q := fun e1 => Q .n (outE out e1)) hF (by simp) h ?_
    · simp only [List.append_nil, List.reverse_reverse] at this
      exact this
    · intro r' c' hc' h'
      simp only [Option.some.injEq, Prod.mk.injEq] at h'
      obtain ⟨rfl, rfl⟩ := h'
      have hE : look r' c' = Env.E r'.reverse := funext fun n => look_eq hc' n
      rw [hE, outF_eq] at q
      exact q
  | .seq a b, e, e', x, Q, h, q => by
    simp only [evS, Option.bind_eq_some_iff] at h
    obtain ⟨⟨y, e1⟩, h1, h2⟩ := h
    refine evS_sound hF n a h1 ?_
    cases y with
    | n => exact evS_sound hF n b h2 q
    | ex j => simp only [Option.some.injEq, Prod.mk.injEq] at h2; obtain ⟨rfl, rfl⟩ := h2; exact q
    | r => simp only [Option.some.injEq, Prod.mk.injEq] at h2; obtain ⟨rfl, rfl⟩ := h2; exact q
  | .cond c a b, e, e', x, Q, h, q => by
    simp only [evS, fDs_eq, at_eq] at h
    simp only [wpS]
    change (match e.E c with | .b true => _ | .b false => _ | _ => _) = _ at h
    split at h
    · rename_i hg; rw [hg]; exact evS_sound hF n a h q
    · rename_i hg; rw [hg]; exact evS_sound hF n b h q
    · cases h
  | .block id b, e, e', x, Q, h, q => by
    simp only [evS, Option.bind_eq_some_iff] at h
    obtain ⟨⟨y, e1⟩, h1, h2⟩ := h
    refine evS_sound hF n b h1 ?_
    cases y with
    | n => simp only [Option.some.injEq, Prod.mk.injEq] at h2; obtain ⟨rfl, rfl⟩ := h2; exact q
    | ex j =>
      simp only at h2
      cases hb : Nat.beq j id with
      | true =>
        rw [hb, cond_true] at h2
        have hj := Nat.eq_of_beq_eq_true hb
        simp only [Option.some.injEq, Prod.mk.injEq] at h2; obtain ⟨rfl, rfl⟩ := h2
        show if j = id then _ else _
        rw [if_pos hj]; exact q
      | false =>
        rw [hb, cond_false] at h2
        have hj := Nat.ne_of_beq_eq_false hb
        simp only [Option.some.injEq, Prod.mk.injEq] at h2; obtain ⟨rfl, rfl⟩ := h2
        show if j = id then _ else _
        rw [if_neg hj]; exact q
    | r => simp only [Option.some.injEq, Prod.mk.injEq] at h2; obtain ⟨rfl, rfl⟩ := h2; exact q
  | .loop b, e, e', x, Q, h, q => by
    simp only [evS] at h
    exact ⟨n, evLoop_sound (W := wpS K b) (fun e x e' Q h q => evS_sound hF n b h q) n h q⟩
  | .exit id, e, e', x, Q, h, q => by simp only [evS, Option.some.injEq, Prod.mk.injEq] at h; obtain ⟨rfl, rfl⟩ := h; exact q
  | .ret, e, e', x, Q, h, q => by simp only [evS, Option.some.injEq, Prod.mk.injEq] at h; obtain ⟨rfl, rfl⟩ := h; exact q

/-- Run a body. -/
def evB (F : Nat → List D → Option (List D)) (n : Nat) (f : IF) (ds : List D) : Option (List D) :=
  if ds.length = f.np then (evS F n f.body (ds ++ List.replicate (f.nv - f.np) .u)).bind fun r => match r with
    | (.ex _, _) => none
    | (_, e) => some (f.res.map fun n => at_ n e)
  else none

theorem evB_sound (hF : ∀ g ds rs, F g ds = some rs → K g ds rs) {n : Nat} {f : IF} {ds rs : List D} (h : evB F n f ds = some rs) : Body K f ds rs := by
  unfold evB at h
  split at h
  · rename_i hl
    simp only [Option.bind_eq_some_iff] at h
    obtain ⟨⟨x, e⟩, h1, h2⟩ := h
    refine ⟨hl, evS_sound hF n _ h1 ?_⟩
    cases x with
    | ex j => cases h2
    | n => simp only [Option.some.injEq] at h2; subst h2; exact ⟨trivial, List.map_congr_left fun n _ => at_eq n e⟩
    | r => simp only [Option.some.injEq] at h2; subst h2; exact ⟨trivial, List.map_congr_left fun n _ => at_eq n e⟩
  · cases h

/-- Run function k, to a depth of calls. -/
def evF (T : Nat → Option IF) (n : Nat) : Nat → Nat → List D → Option (List D)
  | 0, _, _ => none
  | d + 1, k, ds => (T k).bind fun f => evB (evF T n d) n f ds

theorem evF_sound {T : Nat → Option IF} (hT : ∀ k f ds rs, T k = some f → Body K f ds rs → K k ds rs) (n : Nat) : ∀ (d k : Nat) (ds rs : List D), evF T n d k ds = some rs → K k ds rs
  | 0, _, _, _, h => by simp [evF] at h
  | d + 1, k, ds, rs, h => by
    simp only [evF, Option.bind_eq_some_iff] at h
    obtain ⟨f, h1, h2⟩ := h
    exact hT _ _ _ _ h1 (evB_sound (evF_sound hT n d) h2)

end Go.Cat
