/-
  The operations that only reckon: moves, choices, numbers, strings, lengths, bytes.
-/
import Derived.Test.YtddhlibpgnnanaaCatOpA
import Derived.Laws.Sem
import Derived.Laws.Strings
namespace Go.Cat

/-- What an item's operation is told to have made. -/
def EvP (K : Nat → List D → List D → Prop) (E : Nat → D) (cnt : Nat) : Pr → Prop
  | .nop => True
  | .ca g xs r => ∃ rs : List D, K g (xs.map (ev E)) rs ∧ rs.length = r ∧ ∀ j, j < r → rs[j]? = some (E (cnt + j))
  | p => evP E p = some (E cnt)

abbrev OpR := Option (A × Sh × List Fact)

section
variable (cf : CF) (st : List Fact) (cnt : Nat) (o : Oper) (g : Gd)

/-- One new entry that owns nothing, in the operation's slot. -/
def leafS (p : Pr) (s : Sh) (ns : List Fact) : Option (Pr × Sm) :=
  if inB o.dst cf.nt = true ∧ p.np = 1 then some (p, ⟨ns, [], one cnt s o.dst (.is cnt g)⟩) else none

def trMove (x : Operand) (k : Nat) : Option (Pr × Sm) :=
  match x with
  | .tmp t => match o.dst with
    | some d => if d < cf.nt then match findSl st t with
      | some (.is n g') => if g'.isPrefixOf g then
          if g ≠ [] ∧ findEn st n = some .v then leafS cf cnt o g (.cy (.e n)) .v [.sl t (.is n g'), .en n .v]
          else some (.nop, ⟨[.sl t (.is n g')], [], [.sl d (.is n g)]⟩)
        else none
      | _ => none
      else none
    | none => none
  | .const v => match constD v, k with
    | some (.l []), 1 => leafS cf cnt o g (.cs (.o .v) (.l [])) (.o .v) []
    | some (.l []), 2 => leafS cf cnt o g (.cs (.o (.o .v)) (.l [])) (.o (.o .v)) []
    | some d, _ => leafS cf cnt o g (.cs .v d) .v []
    | none, _ => none
  | .func f => (cf.gof f).bind fun k => leafS cf cnt o g (.cs .v (.f k [])) .v []
  | .global _ => none

def tr2 (x y : Operand) (p : A → A → Pr) : Option (Pr × Sm) :=
  (opA cf st g x).bind fun a => (opA cf st g y).bind fun b => leafS cf cnt o g (p a.1 b.1) .v (a.2.2 ++ b.2.2)

def tr1 (x : Operand) (p : A → Pr) : Option (Pr × Sm) :=
  (opA cf st g x).bind fun a => leafS cf cnt o g (p a.1) .v a.2.2

/-- The choice: each side may stand under the guard by which it is chosen. -/
def trPick (c x y : Operand) : Option (Pr × Sm) :=
  (opA cf st g c).bind fun a =>
    match a.1 with
    | .e n => (opA cf st (g ++ [(n, true)]) x).bind fun b => (opA cf st (g ++ [(n, false)]) y).bind fun d =>
        if b.2.1 = .v ∧ d.2.1 = .v then leafS cf cnt o g (.pk a.1 b.1 d.1) .v (a.2.2 ++ (b.2.2 ++ d.2.2)) else none
    | .c _ => none
end

/-- The value of a number, a bool, a string. -/
def valD : D → Value
  | .i k n => .int k n
  | .b x => .bool x
  | .s x => strV x
  | .z => .pointer none
  | _ => undef

/-! ### What the model's operations give at numbers and strings -/
section
variable {P : Program} (w : World)

theorem run_eqGuard_int (op : BinOp) (t : TypeId) (x y : Operand) (k k' : IntKind) (a b : Int) : (eqGuard op t x y (.int k a) (.int k' b)).run P w = .ok () w := by
  cases op <;> simp [eqGuard]
theorem run_eqGuard_str (op : BinOp) (t : TypeId) (x y : Operand) (a b : ByteArray) : (eqGuard op t x y (.string a) (.string b)).run P w = .ok () w := by
  cases op <;> simp [eqGuard]
theorem run_eqGuard_bool (op : BinOp) (t : TypeId) (x y : Operand) (a b : Bool) : (eqGuard op t x y (.bool a) (.bool b)).run P w = .ok () w := by
  cases op <;> simp [eqGuard]

theorem run_int {op : BinOp} {t : TypeId} {k : IntKind} {a b : Int} {d : D} (h : intD op k a b = some d) :
    (binOp op t (.int k a) (.int k b)).run P w = .ok (valD d) w ∧ ∀ (fid : Nat → Nat) (hp : Array Obj) (Z : Nat → Prop), Rd fid hp Z d (valD d) := by
  cases op <;> unfold intD at h <;> dsimp only at h
  case quo =>
    split at h
    · injection h
    · rename_i hb
      injection h with h; subst h
      exact ⟨by simp [binOp, Op.intDiv, hb, valD], fun _ _ _ => by simp only [Rd, valD]⟩
  case rem =>
    split at h
    · injection h
    · rename_i hb
      injection h with h; subst h
      exact ⟨by simp [binOp, Op.intDiv, hb, valD], fun _ _ _ => by simp only [Rd, valD]⟩
  all_goals first
    | (injection h with h; subst h; exact ⟨by simp [binOp, Op.intArith, Op.intBits, Op.intCmp, valD], fun _ _ _ => by simp only [Rd, valD]⟩)
    | (injection h; done)

theorem run_bin_int {op : BinOp} {t : TypeId} {k k' : IntKind} {a b : Int} {d : D} (h : binD op (.i k a) (.i k' b) = some d) :
    (binOp op t (.int k a) (.int k' b)).run P w = .ok (valD d) w ∧ ∀ (fid : Nat → Nat) (hp : Array Obj) (Z : Nat → Prop), Rd fid hp Z d (valD d) := by
  unfold binD at h
  dsimp only at h
  split at h
  · split at h
    · injection h
    · rename_i hb
      injection h with h; subst h
      exact ⟨by simp [binOp, Op.shift, hb, valD], fun _ _ _ => by simp only [Rd, valD]⟩
  · split at h
    · injection h
    · rename_i hb
      injection h with h; subst h
      exact ⟨by simp [binOp, Op.shift, hb, valD], fun _ _ _ => by simp only [Rd, valD]⟩
  · split at h
    · rename_i hk; subst hk
      exact run_int w h
    · injection h
end

theorem natOf_lt {x : List Nat} (h : ∀ c ∈ x, c < 256) : (x.map fun c => UInt8.ofNat c).map (·.toNat) = x := by
  induction x with
  | nil => rfl
  | cons c x ih =>
    simp only [List.map_cons, List.cons.injEq]
    refine ⟨?_, ih fun d hd => h d (List.mem_cons_of_mem _ hd)⟩
    have := h c (List.mem_cons_self ..)
    simp
    omega

theorem ofNat_inj {x y : List Nat} (hx : ∀ c ∈ x, c < 256) (hy : ∀ c ∈ y, c < 256) (h : x.map (fun c => UInt8.ofNat c) = y.map fun c => UInt8.ofNat c) : x = y := by
  rw [← natOf_lt hx, ← natOf_lt hy, h]

theorem bytesLess_nat : ∀ (x y : List Nat), (∀ c ∈ x, c < 256) → (∀ c ∈ y, c < 256) → Op.bytesLess (x.map fun c => UInt8.ofNat c) (y.map fun c => UInt8.ofNat c) = natLess x y
  | x, [] => fun _ _ => by cases x <;> rfl
  | [], _ :: _ => fun _ _ => rfl
  | a :: x, b :: y => fun hx hy => by
    simp only [List.map_cons, Op.bytesLess, natLess]
    rw [bytesLess_nat x y (fun c hc => hx c (List.mem_cons_of_mem _ hc)) (fun c hc => hy c (List.mem_cons_of_mem _ hc))]
    have ha := hx a (List.mem_cons_self ..)
    have hb := hy b (List.mem_cons_self ..)
    have e1 : (UInt8.ofNat a < UInt8.ofNat b) ↔ a < b := by
      rw [UInt8.lt_iff_toNat_lt]; simp; omega
    have e2 : (UInt8.ofNat a == UInt8.ofNat b) = (a == b) := by
      rw [Bool.eq_iff_iff]
      simp only [beq_iff_eq]
      constructor
      · intro h
        have := congrArg UInt8.toNat h
        simp at this
        omega
      · rintro rfl; rfl
    rw [e2]
    congr 1
    exact decide_eq_decide.2 e1

theorem strV_toList (x : List Nat) : (⟨(x.map fun c => UInt8.ofNat c).toArray⟩ : ByteArray).toList = x.map fun c => UInt8.ofNat c := by
  rw [ByteArray.toList_eq]

theorem strV_size (x : List Nat) : (⟨(x.map fun c => UInt8.ofNat c).toArray⟩ : ByteArray).size = x.length := by
  simp [ByteArray.size]

theorem beq_map {x y : List Nat} (hx : ∀ c ∈ x, c < 256) (hy : ∀ c ∈ y, c < 256) : ((x.map fun c => UInt8.ofNat c) == y.map fun c => UInt8.ofNat c) = (x == y) := by
  rw [Bool.eq_iff_iff]
  simp only [beq_iff_eq]
  exact ⟨ofNat_inj hx hy, fun h => h ▸ rfl⟩

section
variable {P : Program} (w : World)
theorem run_bin_str {op : BinOp} {t : TypeId} {x y : List Nat} {d : D} (hx : ∀ c ∈ x, c < 256) (hy : ∀ c ∈ y, c < 256) (h : strD op x y = some d) :
    (binOp op t (strV x) (strV y)).run P w = .ok (valD d) w ∧ ∀ (fid : Nat → Nat) (hp : Array Obj) (Z : Nat → Prop), Rd fid hp Z d (valD d) := by
  unfold strV
  cases op <;> unfold strD at h <;> dsimp only at h
  case add =>
    split at h
    · rename_i hb
      injection h with h; subst h
      unfold big at hb
      refine ⟨?_, fun _ _ _ => ?_⟩
      · have hs : ¬ (((x.length + y.length : Nat) : Int) > IntKind.i64.max) := by
          have : IntKind.i64.max = 9223372036854775807 := by decide
          rw [this]; omega
        have hb2 : (⟨(x.map fun c => UInt8.ofNat c).toArray⟩ : ByteArray) ++ ⟨(y.map fun c => UInt8.ofNat c).toArray⟩ = ⟨((x ++ y).map fun c => UInt8.ofNat c).toArray⟩ := by
          apply ByteArray.ext
          apply Array.ext'
          simp
        simp only [binOp, Op.stringOp, strV_size, if_neg hs, hb2, valD]
        rfl
      · simp only [Rd, valD]
        exact ⟨trivial, fun c hc => (List.mem_append.1 hc).elim (hx c) (hy c), by simp; omega⟩
    · injection h
  all_goals first
    | (injection h with h; subst h
       exact ⟨by simp only [binOp, Op.stringOp, strV_toList, beq_map hx hy, bytesLess_nat x y hx hy, valD]; rfl, fun _ _ _ => by simp only [Rd, valD]⟩)
    | (injection h; done)

theorem run_equalIn_bool (n : Nat) {t : TypeId} {x y : Bool} (ht : P.underlying t = some .bool) : (Op.equalIn (n + 1) t (.bool x) (.bool y)).run P w = .ok (x == y) w := by
  have hu : (underlying t).run P w = .ok .bool w := by
    simp [underlying, ht]
  simp [Op.equalIn, hu, Result.andThen]

theorem run_bin_bool {op : BinOp} {t : TypeId} {x y : Bool} {d : D} (ht : P.underlying t = some .bool) (h : boolD op (.b x) (.b y) = some d) :
    (binOp op t (.bool x) (.bool y)).run P w = .ok (valD d) w ∧ ∀ (fid : Nat → Nat) (hp : Array Obj) (Z : Nat → Prop), Rd fid hp Z d (valD d) := by
  have he : (Op.equal t (.bool x) (.bool y)).run P w = .ok (x == y) w := run_equalIn_bool w 9999 ht
  cases op <;> unfold boolD at h <;> dsimp only at h
  case eql =>
    injection h with h; subst h
    refine ⟨?_, fun _ _ _ => by simp only [Rd, valD]⟩
    show (Bind.bind (Op.equal t (.bool x) (.bool y)) fun b => Pure.pure (Value.bool b)).run P w = _
    rw [Sem.run_bind, he]; rfl
  case neq =>
    injection h with h; subst h
    refine ⟨?_, fun _ _ _ => by simp only [Rd, valD]⟩
    show (Bind.bind (Op.equal t (.bool x) (.bool y)) fun b => Pure.pure (Value.bool !b)).run P w = _
    rw [Sem.run_bind, he]; rfl
  all_goals (injection h; done)
end

end Go.Cat
