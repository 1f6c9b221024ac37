/-
  Running the little language: an interpreter for the kernel, and its soundness.
-/
import Derived.Test.YtddhlibpgnnanaaCatSeat
namespace Go.Cat
set_option linter.unusedVariables false

/-- Bring a number to its literal form before going on. -/
def fNat {α : Type} (n : Nat) (k : Nat → α) : α := match n with
  | 0 => k 0
  | m + 1 => k (m + 1)

theorem fNat_eq {α : Type} (n : Nat) (k : Nat → α) : fNat n k = k n := by cases n <;> rfl

def fInt {α : Type} (n : Int) (k : Int → α) : α := match n with
  | .ofNat m => fNat m fun m => k (.ofNat m)
  | .negSucc m => fNat m fun m => k (.negSucc m)

theorem fInt_eq {α : Type} (n : Int) (k : Int → α) : fInt n k = k n := by cases n <;> simp [fInt, fNat_eq]

def fBool {α : Type} (b : Bool) (k : Bool → α) : α := match b with
  | true => k true
  | false => k false

theorem fBool_eq {α : Type} (b : Bool) (k : Bool → α) : fBool b k = k b := by cases b <;> rfl

/- Recursion is by the recursors themselves: the kernel runs them several times faster than what the equation compiler makes. -/
noncomputable def fNats {α : Type} (l : List Nat) : (List Nat → α) → α :=
  List.rec (motive := fun _ => (List Nat → α) → α) (fun k => k []) (fun n _ ih k => fNat n fun n => ih fun l => k (n :: l)) l

theorem fNats_eq {α : Type} : ∀ (l : List Nat) (k : List Nat → α), fNats l k = k l
  | [], _ => rfl
  | n :: l, k => by
    show fNat n (fun n => fNats l fun l => k (n :: l)) = _
    rw [fNat_eq, fNats_eq l]

noncomputable def fD {α : Type} (d : D) : (D → α) → α :=
  D.rec (motive_1 := fun _ => (D → α) → α) (motive_2 := fun _ => (List D → α) → α)
    (fun k => k .u) (fun q n k => fInt n fun n => k (.i q n)) (fun x k => fBool x fun x => k (.b x)) (fun x k => fNats x fun x => k (.s x))
    (fun _ ih k => ih fun xs => k (.l xs)) (fun _ ih k => ih fun xs => k (.g xs)) (fun k => k .z) (fun _ ih k => ih fun xs => k (.p xs)) (fun n _ ih k => ih fun xs => k (.f n xs))
    (fun k => k []) (fun _ _ ih1 ih2 k => ih1 fun d => ih2 fun l => k (d :: l)) d
noncomputable def fDs {α : Type} (l : List D) : (List D → α) → α :=
  List.rec (motive := fun _ => (List D → α) → α) (fun k => k []) (fun d _ ih k => fD d fun d => ih fun l => k (d :: l)) l

mutual
theorem fD_eq {α : Type} : ∀ (d : D) (k : D → α), fD d k = k d
  | .u, k => rfl
  | .i q n, k => (fInt_eq n fun n => k (.i q n) :)
  | .b x, k => (fBool_eq x fun x => k (.b x) :)
  | .s x, k => (fNats_eq x fun x => k (.s x) :)
  | .l xs, k => fDr_eq xs _
  | .g xs, k => fDr_eq xs _
  | .z, k => rfl
  | .p xs, k => fDr_eq xs _
  | .f n xs, k => fDr_eq xs _
theorem fDr_eq {α : Type} : ∀ (l : List D) (k : List D → α), (D.rec_1 (motive_1 := fun _ => (D → α) → α) (motive_2 := fun _ => (List D → α) → α)
    (fun k => k .u) (fun q n k => fInt n fun n => k (.i q n)) (fun x k => fBool x fun x => k (.b x)) (fun x k => fNats x fun x => k (.s x))
    (fun _ ih k => ih fun xs => k (.l xs)) (fun _ ih k => ih fun xs => k (.g xs)) (fun k => k .z) (fun _ ih k => ih fun xs => k (.p xs)) (fun n _ ih k => ih fun xs => k (.f n xs))
    (fun k => k []) (fun _ _ ih1 ih2 k => ih1 fun d => ih2 fun l => k (d :: l)) l : (List D → α) → α) k = k l
  | [], k => rfl
  | d :: l, k => (fD_eq d _).trans (fDr_eq l _)
end

theorem fDs_eq {α : Type} : ∀ (l : List D) (k : List D → α), fDs l k = k l
  | [], k => rfl
  | d :: l, k => (fD_eq d _).trans (fDs_eq l _)

/-- The head only: what lies below has been brought to its literal form before. -/
def fV {α : Type} (d : D) (k : D → α) : α := match d with
  | .u => k .u
  | .i q n => k (.i q n)
  | .b x => k (.b x)
  | .s x => k (.s x)
  | .l xs => k (.l xs)
  | .g xs => k (.g xs)
  | .z => k .z
  | .p xs => k (.p xs)
  | .f n xs => k (.f n xs)
theorem fV_eq {α : Type} (d : D) (k : D → α) : fV d k = k d := by cases d <;> rfl

noncomputable def fVs {α : Type} (l : List D) : (List D → α) → α :=
  List.rec (motive := fun _ => (List D → α) → α) (fun k => k []) (fun d _ ih k => fV d fun d => ih fun l => k (d :: l)) l
theorem fVs_eq {α : Type} : ∀ (l : List D) (k : List D → α), fVs l k = k l
  | [], k => rfl
  | d :: l, k => (fV_eq d fun d => fVs l fun l => k (d :: l)).trans (fVs_eq l fun l => k (d :: l))

/-- The like, one level more. -/
noncomputable def fT {α : Type} (d : D) (k : D → α) : α := match d with
  | .i q n => fInt n fun n => k (.i q n)
  | .b x => fBool x fun x => k (.b x)
  | .l xs => fVs xs fun xs => k (.l xs)
  | d => fD d k
theorem fT_eq {α : Type} (d : D) (k : D → α) : fT d k = k d := by
  unfold fT
  split
  · exact fInt_eq _ _
  · exact fBool_eq _ _
  · exact fVs_eq _ _
  · exact fD_eq _ _

def deep : Pr → Bool
  | .up _ [_] _ => false
  | .up _ _ _ => true
  | .mk _ _ _ => true
  | _ => false

/-! ### Fast arithmetic: each equal to the plain one -/

theorem wrap_id {n : Int} (h1 : -9223372036854775808 ≤ n) (h2 : n ≤ 9223372036854775807) : IntKind.wrap .i64 n = n := by
  simp [IntKind.wrap, IntKind.bits, IntKind.signed] at *
  omega

def wrapF (k : IntKind) (n : Int) : Int := match k, n with
  | .i64, .ofNat m => if Nat.ble m 9223372036854775807 then .ofNat m else IntKind.wrap .i64 (.ofNat m)
  | .i64, .negSucc m => if Nat.ble m 9223372036854775807 then .negSucc m else IntKind.wrap .i64 (.negSucc m)
  | .u8, .ofNat m => .ofNat (Nat.mod m 256)
  | k, n => k.wrap n

theorem wrapF_eq (k : IntKind) (n : Int) : wrapF k n = k.wrap n := by
  unfold wrapF
  split
  · split
    · rename_i m h
      have := Nat.le_of_ble_eq_true h
      simp [IntKind.wrap, IntKind.bits, IntKind.signed]; omega
    · rfl
  · split
    · rename_i m h
      have := Nat.le_of_ble_eq_true h
      exact (wrap_id (by omega) (by omega)).symm
    · rfl
  · rename_i m
    show ((m % 256 : Nat) : Int) = _
    unfold IntKind.wrap
    simp only [IntKind.bits, IntKind.signed]
    simp
  · rfl

def leF : Int → Int → Bool
  | .ofNat a, .ofNat b => Nat.ble a b
  | .negSucc _, .ofNat _ => true
  | .ofNat _, .negSucc _ => false
  | .negSucc a, .negSucc b => Nat.ble b a

theorem leF_eq (a b : Int) : leF a b = decide (a ≤ b) := by
  unfold leF
  split
  · rw [Bool.eq_iff_iff]; simp [Nat.ble_eq]
  · rw [Bool.eq_iff_iff]; simp; omega
  · rw [Bool.eq_iff_iff]; simp; omega
  · rw [Bool.eq_iff_iff]; simp [Nat.ble_eq]; omega

def eqF : Int → Int → Bool
  | .ofNat a, .ofNat b => Nat.beq a b
  | .negSucc a, .negSucc b => Nat.beq a b
  | _, _ => false

theorem eqF_eq (a b : Int) : eqF a b = (a == b) := by
  unfold eqF
  split
  · rw [Bool.eq_iff_iff]; simp [Nat.beq_eq]; omega
  · rw [Bool.eq_iff_iff]; simp [Nat.beq_eq]
  · rename_i h1 h2
    rw [Bool.eq_iff_iff]
    constructor
    · simp
    · intro h
      have : a = b := by simpa using h
      subst this
      cases a with
      | ofNat n => exact (h1 n n rfl rfl).elim
      | negSucc n => exact (h2 n n rfl rfl).elim

def addF : Int → Int → Int
  | .ofNat a, .ofNat b => .ofNat (Nat.add a b)
  | a, b => Int.add a b
theorem addF_eq (a b : Int) : addF a b = a + b := by unfold addF; split <;> rfl
def mulF : Int → Int → Int
  | .ofNat a, .ofNat b => .ofNat (Nat.mul a b)
  | a, b => Int.mul a b
theorem mulF_eq (a b : Int) : mulF a b = a * b := by unfold mulF; split <;> rfl

def intF (op : BinOp) (k : IntKind) (a b : Int) : Option D :=
  match op with
  | .add => some (.i k (wrapF k (addF a b)))
  | .sub => some (.i k (wrapF k (Int.sub a b)))
  | .mul => some (.i k (wrapF k (mulF a b)))
  | .quo => bif eqF b (.ofNat 0) then none else some (.i k (wrapF k (Int.tdiv a b)))
  | .rem => bif eqF b (.ofNat 0) then none else some (.i k (Int.tmod a b))
  | .eql => some (.b (eqF a b))
  | .neq => some (.b (!eqF a b))
  | .lss => some (.b (!leF b a))
  | .leq => some (.b (leF a b))
  | .gtr => some (.b (!leF a b))
  | .geq => some (.b (leF b a))
  | op => intD op k a b

theorem intF_eq (op : BinOp) (k : IntKind) (a b : Int) : intF op k a b = intD op k a b := by
  have hs : Int.sub a b = a - b := rfl
  have hz : eqF b (.ofNat 0) = decide (b = 0) := by rw [eqF_eq]; rw [Bool.eq_iff_iff]; simp
  unfold intF
  split <;> simp only [intD, wrapF_eq, addF_eq, mulF_eq, hs, leF_eq, eqF_eq]
  · rw [← eqF_eq, hz]; by_cases h : b = 0 <;> simp [h]
  · rw [← eqF_eq, hz]; by_cases h : b = 0 <;> simp [h]
  · simp [bne]
  · simp only [Option.some.injEq, D.b.injEq]; rw [Bool.eq_iff_iff]; simp
  · simp only [Option.some.injEq, D.b.injEq]; rw [Bool.eq_iff_iff]; simp

def kindF : IntKind → IntKind → Bool
  | .i64, .i64 => true
  | .u8, .u8 => true
  | a, b => decide (a = b)
theorem kindF_eq (a b : IntKind) : kindF a b = decide (a = b) := by unfold kindF; split <;> simp

/-! ### The environment lies turned about: the newest entry first -/

noncomputable def at_ (n : Nat) (l : List D) : D := List.rec (motive := fun _ => Nat → D) (fun _ => .u) (fun d _ ih n => Nat.rec (motive := fun _ => D) d (fun m _ => ih m) n) l n

theorem at_eq : ∀ (n : Nat) (l : List D), at_ n l = l.getD n .u
  | n, [] => by cases n <;> rfl
  | 0, d :: _ => rfl
  | n + 1, _ :: l => (at_eq n l).trans rfl

/-- Entry n of an environment of c entries. -/
noncomputable def look (r : List D) (c n : Nat) : D := bif Nat.ble c n then .u else at_ (Nat.pred (Nat.sub c n)) r

theorem look_eq {r : List D} {c : Nat} (h : r.length = c) (n : Nat) : look r c n = (r.reverse).getD n .u := by
  unfold look
  cases hb : Nat.ble c n with
  | true =>
    have := Nat.le_of_ble_eq_true hb
    rw [cond_true, List.getD_eq_getElem?_getD, List.getElem?_eq_none (by simp; omega)]; rfl
  | false =>
    have : ¬ c ≤ n := fun h => by rw [show Nat.ble c n = true by simpa using h] at hb; cases hb
    rw [cond_false, at_eq, List.getD_eq_getElem?_getD, List.getD_eq_getElem?_getD, List.getElem?_reverse (by omega)]
    congr 2
    show c - n - 1 = _
    omega

section
variable (F : Nat → List D → Option (List D))

def beqB : Bool → Bool → Bool
  | true, b => b
  | false, true => false
  | false, false => true

noncomputable def evG (E : Nat → D) (l : List (Nat × Bool)) : Option Bool :=
  List.rec (motive := fun _ => Option Bool) (some true) (fun x _ ih => match E x.1 with
    | .b y => bif beqB y x.2 then ih else some false
    | _ => none) l

theorem evG_eq (E : Nat → D) : ∀ (l : List (Nat × Bool)), evG E l = gdE E l
  | [] => rfl
  | (n, want) :: r => by
    show (match E n with | .b y => bif beqB y want then evG E r else some false | _ => none) = _
    simp only [gdE]
    split
    · rename_i x h; rw [h]
      cases x <;> cases want <;> simp [evG_eq E r, beqB]
    · rename_i h
      split
      · rename_i x hx; exact absurd hx (h x)
      · rfl

noncomputable def nth (l : List D) (n : Nat) : Option D := List.rec (motive := fun _ => Nat → Option D) (fun _ => none) (fun d _ ih n => Nat.rec (motive := fun _ => Option D) (some d) (fun m _ => ih m) n) l n
theorem nth_eq : ∀ (l : List D) (n : Nat), nth l n = l[n]?
  | [], n => rfl
  | d :: l, 0 => rfl
  | d :: l, n + 1 => (nth_eq l n).trans (by simp)

noncomputable def setN (l : List D) (n : Nat) (x : D) : List D := List.rec (motive := fun _ => Nat → List D) (fun _ => []) (fun d l ih n => Nat.rec (motive := fun _ => List D) (x :: l) (fun m _ => d :: ih m) n) l n
theorem setN_eq (x : D) : ∀ (l : List D) (n : Nat), setN l n x = l.set n x
  | [], n => rfl
  | d :: l, 0 => rfl
  | d :: l, n + 1 => (congrArg (d :: ·) (setN_eq x l n)).trans (by simp)

def natOf : D → Option Nat
  | .i _ (.ofNat m) => some m
  | _ => none

noncomputable def ixF (d i : D) : Option D := match d, natOf i with
  | .l xs, some m => (nth xs m).bind known
  | _, _ => none

theorem ixF_eq (d i : D) : ixF d i = ixD d i := by
  unfold ixF ixD natOf
  cases d <;> cases i <;> try rfl
  rename_i xs k n
  cases n with
  | ofNat m => simp [nth_eq]
  | negSucc m => simp

noncomputable def evQ (E : Nat → D) : Pr → Option D
  | .bi op a b => match ev E a, ev E b with
    | .i k a, .i k' b => match op with
      | .shl => binD .shl (.i k a) (.i k' b)
      | .shr => binD .shr (.i k a) (.i k' b)
      | op => bif kindF k k' then intF op k a b else none
    | a, b => binD op a b
  | .cv k a => match ev E a with
    | .i _ n => some (.i k (wrapF k n))
    | _ => none
  | .ix a [] i => ixF (ev E a) (ev E i)
  | .iy a i => (ixF (ev E a) (ev E i)).bind flatD
  | .up n [pe] a => bif (ev E a).one then (PE.ev E pe).bind fun i => match E n with
      | .l xs => (nth xs i).bind fun _ => some (.l (setN xs i (ev E a)))
      | _ => none
    else none
  | p => evP E p

theorem evQ_eq (E : Nat → D) (p : Pr) : evQ E p = evP E p := by
  unfold evQ
  split
  · rename_i op a b
    simp only [evP]
    split
    · rename_i k x k' y h1 h2
      rw [h1, h2]
      split
      · rfl
      · rfl
      · rename_i h3 h4
        rw [kindF_eq]
        simp only [binD]
        by_cases hk : k = k' <;> simp [hk, intF_eq]
    · rfl
  · rename_i k a
    simp only [evP]
    split
    · rename_i h; rw [h, wrapF_eq]
    · rename_i h
      split
      · rename_i n hn; exact absurd hn (h _ _)
      · rfl
  · rename_i a i
    simp [evP, pathD, getP, ixF_eq]
  · simp only [evP, ixF_eq]
  · rename_i n pe a
    simp only [evP, List.mapM_cons, List.mapM_nil, Option.bind_eq_bind, Option.pure_def]
    cases (ev E a).one with
    | false => simp
    | true =>
      simp only [cond_true, if_true]
      cases PE.ev E pe with
      | none => simp
      | some i =>
        simp only [Option.bind_some]
        split
        · rename_i xs h
          rw [h]
          simp only [setP, nth_eq, setN_eq]
          cases xs[i]? <;> simp
        · rename_i h
          cases hE : E n with
          | l xs => exact absurd hE (h xs)
          | _ => simp [setP]
  · rfl

noncomputable def pushN (l : List D) : List D → List D := List.rec (motive := fun _ => List D → List D) (fun r => r) (fun d _ ih r => ih (d :: r)) l
theorem pushN_eq : ∀ (l r : List D), pushN l r = l.reverse ++ r
  | [], r => rfl
  | d :: l, r => (pushN_eq l (d :: r)).trans (by simp)

noncomputable def us (n : Nat) : List D → List D := Nat.rec (motive := fun _ => List D → List D) (fun r => r) (fun _ ih r => ih (.u :: r)) n
theorem us_eq : ∀ (n : Nat) (r : List D), us n r = List.replicate n .u ++ r
  | 0, r => rfl
  | n + 1, r => (us_eq n (.u :: r)).trans (by
    rw [List.replicate_succ']
    simp)

noncomputable def lenN (l : List D) : Nat → Nat := List.rec (motive := fun _ => Nat → Nat) (fun n => n) (fun _ _ ih n => ih (n + 1)) l
theorem lenN_eq : ∀ (l : List D) (n : Nat), lenN l n = l.length + n
  | [], n => by simp [lenN]
  | _ :: l, n => (lenN_eq l (n + 1)).trans (by simp; omega)

noncomputable def evArgs (E : Nat → D) (l : List A) : List D := List.rec (motive := fun _ => List D) [] (fun a _ ih => ev E a :: ih) l
theorem evArgs_eq (E : Nat → D) : ∀ (l : List A), evArgs E l = l.map (ev E)
  | [] => rfl
  | a :: l => congrArg (ev E a :: ·) (evArgs_eq E l)

/-- One item; k goes on with the turned environment and its length. -/
noncomputable def evIt {α : Type} (it : It) (r : List D) (c : Nat) (k : List D → Nat → Option α) : Option α :=
  match evG (look r c) it.g with
  | some true => match it.p with
    | .nop => k r c
    | .ca g xs m => fVs (evArgs (look r c) xs) fun ds => (F g ds).bind fun rs => bif Nat.beq (lenN rs 0) m then fNat (Nat.add c m) fun c' => k (pushN rs r) c' else none
    | p => (evQ (look r c) p).bind fun d => (bif deep p then fD d else fT d) fun d => fNat (Nat.succ c) fun c' => k (d :: r) c'
  | some false => fNat (Nat.add c it.p.np) fun c' => k (us it.p.np r) c'
  | none => none

noncomputable def evIts {α : Type} (its : List It) (r : List D) (c : Nat) (k : List D → Nat → Option α) : Option α :=
  List.rec (motive := fun _ => List D → Nat → Option α) k (fun it _ ih r c => evIt F it r c ih) its r c

noncomputable def outF (E : Nat → D) (l : List (Option Nat)) : List D := List.rec (motive := fun _ => List D) [] (fun x _ ih => (match x with | some n => E n | none => .u) :: ih) l
theorem outF_eq (e : Env) : ∀ (l : List (Option Nat)), outF e.E l = outE l e
  | [] => rfl
  | some n :: l => congrArg (e.E n :: ·) (outF_eq e l)
  | none :: l => congrArg (D.u :: ·) (outF_eq e l)

noncomputable def evLoop (R : Env → Option (X × Env)) (n : Nat) : Env → Option (X × Env) :=
  Nat.rec (motive := fun _ => Env → Option (X × Env)) (fun _ => none) (fun _ ih e => (R e).bind fun r => match r with
    | (.n, e1) => ih e1
    | r => some r) n

noncomputable def evS (n : Nat) (s : S) : Env → Option (X × Env) :=
  S.rec (motive := fun _ => Env → Option (X × Env)) (fun e => some (.n, e))
    (fun its out e => fNat (lenN e 0) fun c => evIts F its (pushN e []) c fun r c => fVs (outF (look r c) out) fun e2 => some (.n, e2))
    (fun _ _ ia ib e => (ia e).bind fun r => match r with
      | (.n, e1) => ib e1
      | r => some r)
    (fun c _ _ ix iy e => match at_ c e with
      | .b true => fVs (setN e c .u) fun e => ix e
      | .b false => fVs (setN e c .u) fun e => iy e
      | _ => none)
    (fun id _ ib e => (ib e).bind fun r => match r with
      | (.ex j, e1) => bif Nat.beq j id then some (.n, e1) else some (.ex j, e1)
      | r => some r)
    (fun _ ib e => evLoop ib n e)
    (fun id e => some (.ex id, e)) (fun e => some (.r, e)) s
end

variable {F : Nat → List D → Option (List D)} {K : Nat → List D → List D → Prop}

theorem evIt_sound {α : Type} (hF : ∀ g ds rs, F g ds = some rs → K g ds rs) {it : It} {r : List D} {c : Nat} {k : List D → Nat → Option α} {x : α} (hc : r.length = c) {Q : Env → Prop} (h : evIt F it r c k = some x)
    (q : ∀ r' c', r'.length = c' → k r' c' = some x → Q r'.reverse) : wpIt K it r.reverse Q := by
  have hE : look r c = Env.E r.reverse := funext fun n => look_eq hc n
  unfold evIt at h
  unfold wpIt
  rw [hE, evG_eq] at h
  split at h
  · rename_i hg; rw [hg]
    split at h
    · rename_i hp; rw [hp]; exact q _ _ hc h
    · rename_i g xs m hp; rw [hp]
      simp only [fVs_eq, Option.bind_eq_some_iff, evArgs_eq, fNat_eq, lenN_eq] at h
      obtain ⟨rs, h1, h2⟩ := h
      cases hb : Nat.beq (rs.length + 0) m with
      | false => rw [hb, cond_false] at h2; cases h2
      | true =>
        rw [hb, cond_true] at h2
        have hm : rs.length = m := by simpa using Nat.eq_of_beq_eq_true hb
        refine ⟨rs, hF _ _ _ h1, hm, ?_⟩
        have := q _ _ ?_ h2
        · rw [pushN_eq] at this; simpa using this
        · rw [pushN_eq]; simp only [List.length_append, List.length_reverse, hm, hc]; show _ = c + m; omega
    · rename_i p h1 h2
      have hfd : ∀ (d : D) (k : D → Option α), (bif deep it.p then fD d else fT d) k = k d := fun d k => by cases deep it.p <;> simp [fD_eq, fT_eq]
      simp only [Option.bind_eq_some_iff, hfd, fNat_eq, evQ_eq] at h
      obtain ⟨d, h3, h4⟩ := h
      have := q _ _ (by simp [hc]) h4
      show wpPr K it.p r.reverse Q
      unfold wpPr
      split
      · rename_i hp; exact (h1 hp).elim
      · rename_i hp; exact (h2 _ _ _ hp).elim
      · rw [h3]; simpa using this
  · rename_i hg; rw [hg]
    simp only [fNat_eq] at h
    have := q _ _ ?_ h
    · rw [us_eq] at this; simpa using this
    · rw [us_eq]; simp only [List.length_append, List.length_replicate, hc]; show _ = c + _; omega
  · cases h

theorem evIts_sound {α : Type} (hF : ∀ g ds rs, F g ds = some rs → K g ds rs) : ∀ {its : List It} {r : List D} {c : Nat} {k : List D → Nat → Option α} {x : α} (_ : r.length = c) {Q : Env → Prop} (_ : evIts F its r c k = some x)
    (_ : ∀ r' c', r'.length = c' → k r' c' = some x → Q r'.reverse), wpIts K its r.reverse Q
  | [], r, c, k, x, hc, Q, h, q => q _ _ hc h
  | it :: its, r, c, k, x, hc, Q, h, q => evIt_sound hF hc h fun r' c' hc' h' => evIts_sound hF hc' h' q

theorem evLoop_succ (R : Env → Option (X × Env)) (n : Nat) (e : Env) : evLoop R (n + 1) e = (R e).bind fun r => match r with
    | (.n, e1) => evLoop R n e1
    | r => some r := rfl
theorem evS_skip (n : Nat) (e : Env) : evS F n .skip e = some (.n, e) := rfl
theorem evS_reg (n : Nat) (its : List It) (out : List (Option Nat)) (e : Env) : evS F n (.reg its out) e = fNat (lenN e 0) fun c => evIts F its (pushN e []) c fun r c => fVs (outF (look r c) out) fun e2 => some (.n, e2) := rfl
theorem evS_seq (n : Nat) (a b : S) (e : Env) : evS F n (.seq a b) e = (evS F n a e).bind fun r => match r with
    | (.n, e1) => evS F n b e1
    | r => some r := rfl
theorem evS_cond (n c : Nat) (a b : S) (e : Env) : evS F n (.cond c a b) e = match at_ c e with
    | .b true => fVs (setN e c .u) fun e => evS F n a e
    | .b false => fVs (setN e c .u) fun e => evS F n b e
    | _ => none := rfl
theorem evS_block (n id : Nat) (b : S) (e : Env) : evS F n (.block id b) e = (evS F n b e).bind fun r => match r with
    | (.ex j, e1) => bif Nat.beq j id then some (.n, e1) else some (.ex j, e1)
    | r => some r := rfl
theorem evS_loop (n : Nat) (b : S) (e : Env) : evS F n (.loop b) e = evLoop (evS F n b) n e := rfl
theorem evS_exit (n id : Nat) (e : Env) : evS F n (.exit id) e = some (.ex id, e) := rfl
theorem evS_ret (n : Nat) (e : Env) : evS F n .ret e = some (.r, e) := rfl

theorem evLoop_sound {R : Env → Option (X × Env)} {W : (X → Env → Prop) → Env → Prop} (hR : ∀ e x e' Q, R e = some (x, e') → Q x e' → W Q e) : ∀ (n : Nat) {e e' : Env} {x : X} {Q : X → Env → Prop},
    evLoop R n e = some (x, e') → Q x e' → wpLoop W n Q e
  | 0, _, _, _, _, h, _ => by cases h
  | n + 1, e, e', x, Q, h, q => by
    simp only [evLoop_succ, Option.bind_eq_some_iff] at h
    obtain ⟨⟨y, e1⟩, h1, h2⟩ := h
    refine hR _ _ _ _ h1 ?_
    cases y with
    | n => exact evLoop_sound hR n h2 q
    | ex j => simp only [Option.some.injEq, Prod.mk.injEq] at h2; obtain ⟨rfl, rfl⟩ := h2; exact q
    | r => simp only [Option.some.injEq, Prod.mk.injEq] at h2; obtain ⟨rfl, rfl⟩ := h2; exact q

theorem evS_sound (hF : ∀ g ds rs, F g ds = some rs → K g ds rs) (n : Nat) : ∀ (s : S) {e e' : Env} {x : X} {Q : X → Env → Prop} (_ : evS F n s e = some (x, e')) (_ : Q x e'), wpS K s Q e
  | .skip, e, e', x, Q, h, q => by simp only [evS_skip, Option.some.injEq, Prod.mk.injEq] at h; obtain ⟨rfl, rfl⟩ := h; exact q
  | .reg its out, e, e', x, Q, h, q => by
    simp only [evS_reg, fNat_eq, fVs_eq, lenN_eq, pushN_eq] at h
    have := evIts_sound (r := e.reverse ++ []) (Q := fun e1 => Q .n (outE out e1)) hF (by simp) h ?_
    · simp only [List.append_nil, List.reverse_reverse] at this
      exact this
    · intro r' c' hc' h'
      simp only [Option.some.injEq, Prod.mk.injEq] at h'
      obtain ⟨rfl, rfl⟩ := h'
      have hE : look r' c' = Env.E r'.reverse := funext fun n => look_eq hc' n
      rw [hE, outF_eq] at q
      exact q
  | .seq a b, e, e', x, Q, h, q => by
    simp only [evS_seq, Option.bind_eq_some_iff] at h
    obtain ⟨⟨y, e1⟩, h1, h2⟩ := h
    refine evS_sound hF n a h1 ?_
    cases y with
    | n => exact evS_sound hF n b h2 q
    | ex j => simp only [Option.some.injEq, Prod.mk.injEq] at h2; obtain ⟨rfl, rfl⟩ := h2; exact q
    | r => simp only [Option.some.injEq, Prod.mk.injEq] at h2; obtain ⟨rfl, rfl⟩ := h2; exact q
  | .cond c a b, e, e', x, Q, h, q => by
    simp only [evS_cond, fVs_eq, at_eq, setN_eq] at h
    simp only [wpS]
    change (match e.E c with | .b true => _ | .b false => _ | _ => _) = _ at h
    split at h
    · rename_i hg; rw [hg]; exact evS_sound hF n a h q
    · rename_i hg; rw [hg]; exact evS_sound hF n b h q
    · cases h
  | .block id b, e, e', x, Q, h, q => by
    simp only [evS_block, Option.bind_eq_some_iff] at h
    obtain ⟨⟨y, e1⟩, h1, h2⟩ := h
    refine evS_sound hF n b h1 ?_
    cases y with
    | n => simp only [Option.some.injEq, Prod.mk.injEq] at h2; obtain ⟨rfl, rfl⟩ := h2; exact q
    | ex j =>
      simp only at h2
      cases hb : Nat.beq j id with
      | true =>
        rw [hb, cond_true] at h2
        have hj := Nat.eq_of_beq_eq_true hb
        simp only [Option.some.injEq, Prod.mk.injEq] at h2; obtain ⟨rfl, rfl⟩ := h2
        show if j = id then _ else _
        rw [if_pos hj]; exact q
      | false =>
        rw [hb, cond_false] at h2
        have hj := Nat.ne_of_beq_eq_false hb
        simp only [Option.some.injEq, Prod.mk.injEq] at h2; obtain ⟨rfl, rfl⟩ := h2
        show if j = id then _ else _
        rw [if_neg hj]; exact q
    | r => simp only [Option.some.injEq, Prod.mk.injEq] at h2; obtain ⟨rfl, rfl⟩ := h2; exact q
  | .loop b, e, e', x, Q, h, q => by
    simp only [evS_loop] at h
    exact ⟨n, evLoop_sound (W := wpS K b) (fun e x e' Q h q => evS_sound hF n b h q) n h q⟩
  | .exit id, e, e', x, Q, h, q => by simp only [evS_exit, Option.some.injEq, Prod.mk.injEq] at h; obtain ⟨rfl, rfl⟩ := h; exact q
  | .ret, e, e', x, Q, h, q => by simp only [evS_ret, Option.some.injEq, Prod.mk.injEq] at h; obtain ⟨rfl, rfl⟩ := h; exact q

/-- Run a body. -/
noncomputable def evB (F : Nat → List D → Option (List D)) (n : Nat) (f : IF) (ds : List D) : Option (List D) :=
  if ds.length = f.np then (evS F n f.body (ds ++ List.replicate (f.nv - f.np) .u)).bind fun r => match r with
    | (.ex _, _) => none
    | (_, e) => some (f.res.map fun n => at_ n e)
  else none

theorem evB_sound (hF : ∀ g ds rs, F g ds = some rs → K g ds rs) {n : Nat} {f : IF} {ds rs : List D} (h : evB F n f ds = some rs) : Body K f ds rs := by
  unfold evB at h
  split at h
  · rename_i hl
    simp only [Option.bind_eq_some_iff] at h
    obtain ⟨⟨x, e⟩, h1, h2⟩ := h
    refine ⟨hl, evS_sound hF n _ h1 ?_⟩
    cases x with
    | ex j => cases h2
    | n => simp only [Option.some.injEq] at h2; subst h2; exact ⟨trivial, List.map_congr_left fun n _ => at_eq n e⟩
    | r => simp only [Option.some.injEq] at h2; subst h2; exact ⟨trivial, List.map_congr_left fun n _ => at_eq n e⟩
  · cases h

/-- Run function k, to a depth of calls. -/
noncomputable def evF (T : Nat → Option IF) (n d : Nat) : Nat → List D → Option (List D) :=
  Nat.rec (motive := fun _ => Nat → List D → Option (List D)) (fun _ _ => none) (fun _ ih k ds => (T k).bind fun f => evB ih n f ds) d

theorem evF_sound {T : Nat → Option IF} (hT : ∀ k f ds rs, T k = some f → Body K f ds rs → K k ds rs) (n : Nat) : ∀ (d k : Nat) (ds rs : List D), evF T n d k ds = some rs → K k ds rs
  | 0, _, _, _, h => by cases h
  | d + 1, k, ds, rs, h => by
    change ((T k).bind fun f => evB (evF T n d) n f ds) = some rs at h
    simp only [Option.bind_eq_some_iff] at h
    obtain ⟨f, h1, h2⟩ := h
    exact hT _ _ _ _ h1 (evB_sound (evF_sound hT n d) h2)

end Go.Cat
