/-
  How data lies in the model's memory: 'Rd' (it can be read), 'Own' (it is owned, block by block), and what happens to both as memory changes elsewhere.
-/
import Derived.Test.YtddhlibpgnnanaaCatCore
namespace Go.Cat

def strV (x : List Nat) : Value := .string ⟨(x.map fun c => UInt8.ofNat c).toArray⟩

section
variable (fid : Nat → Nat) (h : Array Obj) (Z : Nat → Prop)

mutual
/-- 'v' reads as the data, and none of the blocks met on the way is in Z. -/
def Rd : D → Value → Prop
  | .u, _ => True
  | .i k n, v => v = .int k n
  | .b x, v => v = .bool x
  | .s x, v => v = strV x ∧ (∀ c ∈ x, c < 256) ∧ x.length ≤ 9223372036854775807
  | .l xs, v => (xs = [] ∧ v = .slice none 0 0) ∨
      ∃ b off cap cs e fz, v = .slice (some ⟨b, off, none⟩) xs.length cap ∧ h[b]? = some (.cells cs e fz) ∧ ¬ Z b ∧ RdL xs (cs.toList.drop off) ∧ (xs.length ≤ cap ∧ xs.length ≤ 9223372036854775807)
  | .g xs, v => ∃ cs : Array Value, v = .agg cs ∧ cs.size = xs.length ∧ RdL xs cs.toList
  | .z, v => v = .pointer none
  | .p xs, v => ∃ b off cs e fz, v = .pointer (some ⟨b, off, none⟩) ∧ h[b]? = some (.cells cs e fz) ∧ ¬ Z b ∧ RdL xs (cs.toList.drop off)
  | .f fn caps, v => ∃ vs : Array Value, v = .func (.func (fid fn)) #[] vs ∧ vs.size = caps.length ∧ RdL caps vs.toList
/-- The first cells of a row read as the list. -/
def RdL : List D → List Value → Prop
  | [], _ => True
  | d :: ds, v :: vs => Rd d v ∧ RdL ds vs
  | _ :: _, [] => False
end

def Each (R : D → Value → List Nat → Prop) : List D → List Value → List Nat → Prop
  | [], _, B => B = []
  | d :: ds, v :: vs, B => ∃ B1 B2, B = B1 ++ B2 ∧ R d v B1 ∧ Each R ds vs B2
  | _ :: _, [], _ => False

def thawed (_cs : Array Value) (fz : Nat × Nat) : Prop := fz = (0, 0)

variable (O X : Nat → Prop)
/-- 'v' is the data, of a shape; B: the blocks that are owned with it. O: all blocks that are owned in this call. X: those that the caller owns. -/
def Own : Sh → D → Value → List Nat → Prop
  | .v, d, v, B => B = [] ∧ Rd fid h (fun b => O b ∨ X b) d v
  | .y, d, v, B => B = [] ∧ Rd fid h O d v
  | .o s, d, v, B => (d = .u ∧ B = []) ∨ ∃ xs, d = .l xs ∧ ((v = .slice none 0 0 ∧ xs = [] ∧ B = []) ∨
      ∃ b off cap cs e fz B', B = b :: B' ∧ v = .slice (some ⟨b, off, none⟩) xs.length cap ∧ h[b]? = some (.cells cs e fz) ∧ thawed cs fz ∧
        xs.length ≤ cap ∧ off + cap ≤ cs.size ∧ xs.length ≤ 9223372036854775807 ∧ Each (Own s) xs (cs.toList.drop off) B')
end

/-- Memory outside S is as it was (there may be new blocks). -/
structure Agr (S : Nat → Prop) (h h' : Array Obj) : Prop where
  size : h.size ≤ h'.size
  same : ∀ b, b < h.size → ¬ S b → h'[b]? = h[b]?

theorem Agr.refl (S : Nat → Prop) (h : Array Obj) : Agr S h h := ⟨Nat.le_refl _, fun _ _ _ => rfl⟩
theorem Agr.trans {S : Nat → Prop} {a b c : Array Obj} (h : Agr S a b) (k : Agr S b c) : Agr S a c :=
  ⟨Nat.le_trans h.size k.size, fun x hx hs => (k.same x (Nat.lt_of_lt_of_le hx h.size) hs).trans (h.same x hx hs)⟩
theorem Agr.mono {S S' : Nat → Prop} {a b : Array Obj} (h : Agr S a b) (hs : ∀ b, b < a.size → S b → S' b) : Agr S' a b :=
  ⟨h.size, fun x hx hn => h.same x hx fun hS => hn (hs x hx hS)⟩
theorem Agr.push (h : Array Obj) (o : Obj) : Agr (fun _ => False) h (h.push o) :=
  ⟨by simp, fun b hb _ => by rw [Array.getElem?_push, if_neg (by omega)]⟩

theorem lt_of_some {h : Array Obj} {b : Nat} {o : Obj} (e : h[b]? = some o) : b < h.size := by
  rcases Nat.lt_or_ge b h.size with k | k
  · exact k
  · simp [Array.getElem?_eq_none k] at e

mutual
theorem Rd.ext {fid : Nat → Nat} {h h' : Array Obj} {S Z Z' : Nat → Prop} (ha : Agr S h h') (hS : ∀ b, b < h.size → S b → Z b) (hZ : ∀ b, b < h.size → Z' b → Z b) :
    ∀ (d : D) (v : Value), Rd fid h Z d v → Rd fid h' Z' d v
  | .u, _ => fun _ => by simp [Rd]
  | .i _ _, _ => fun r => by simpa [Rd] using r
  | .b _, _ => fun r => by simpa [Rd] using r
  | .s _, _ => fun r => by simpa [Rd] using r
  | .l xs, v => fun r => by
    simp only [Rd] at r ⊢
    rcases r with r | ⟨b, off, cap, cs, e, fz, hv, hb, hz, hl, hn⟩
    · exact .inl r
    · have lt := lt_of_some hb
      exact .inr ⟨b, off, cap, cs, e, fz, hv, (ha.same b lt fun hs => hz (hS b lt hs)).trans hb, fun q => hz (hZ b lt q), RdL.ext ha hS hZ xs _ hl, hn⟩
  | .g xs, v => fun r => by
    simp only [Rd] at r ⊢
    obtain ⟨cs, hv, hn, hl⟩ := r
    exact ⟨cs, hv, hn, RdL.ext ha hS hZ xs _ hl⟩
  | .z, _ => fun r => by simpa [Rd] using r
  | .p xs, v => fun r => by
    simp only [Rd] at r ⊢
    obtain ⟨b, off, cs, e, fz, hv, hb, hz, hl⟩ := r
    have lt := lt_of_some hb
    exact ⟨b, off, cs, e, fz, hv, (ha.same b lt fun hs => hz (hS b lt hs)).trans hb, fun q => hz (hZ b lt q), RdL.ext ha hS hZ xs _ hl⟩
  | .f fn caps, v => fun r => by
    simp only [Rd] at r ⊢
    obtain ⟨vs, hv, hn, hl⟩ := r
    exact ⟨vs, hv, hn, RdL.ext ha hS hZ caps _ hl⟩
theorem RdL.ext {fid : Nat → Nat} {h h' : Array Obj} {S Z Z' : Nat → Prop} (ha : Agr S h h') (hS : ∀ b, b < h.size → S b → Z b) (hZ : ∀ b, b < h.size → Z' b → Z b) :
    ∀ (ds : List D) (vs : List Value), RdL fid h Z ds vs → RdL fid h' Z' ds vs
  | [], _ => fun _ => by simp [RdL]
  | d :: ds, v :: vs => fun r => by
    simp only [RdL] at r ⊢
    exact ⟨Rd.ext ha hS hZ d v r.1, RdL.ext ha hS hZ ds vs r.2⟩
  | _ :: _, [] => fun r => by simp [RdL] at r
end

theorem Rd.mono {fid : Nat → Nat} {h : Array Obj} {Z Z' : Nat → Prop} {d : D} {v : Value} (r : Rd fid h Z d v) (hZ : ∀ b, b < h.size → Z' b → Z b) : Rd fid h Z' d v :=
  Rd.ext (S := fun _ => False) (Agr.refl _ h) (fun _ _ q => q.elim) hZ d v r

theorem Each.imp {R R' : D → Value → List Nat → Prop} : ∀ {ds : List D} {vs : List Value} {B : List Nat},
    (∀ d v B1, (∀ b ∈ B1, b ∈ B) → R d v B1 → R' d v B1) → Each R ds vs B → Each R' ds vs B
  | [], _, _ => fun _ h => h
  | d :: ds, v :: vs, B => fun f h => by
    simp only [Each] at h ⊢
    obtain ⟨B1, B2, rfl, h1, h2⟩ := h
    exact ⟨B1, B2, rfl, f d v B1 (fun b hb => List.mem_append_left _ hb) h1, Each.imp (fun d v B hB => f d v B fun b hb => List.mem_append_right _ (hB b hb)) h2⟩
  | _ :: _, [], _ => fun _ h => h

/-- What is owned stays so while memory turns elsewhere. -/
theorem Own.ext {fid : Nat → Nat} {h h' : Array Obj} {S O O' X : Nat → Prop} (ha : Agr S h h') (hS : ∀ b, b < h.size → S b → O b) (hO : ∀ b, b < h.size → O' b → O b) :
    ∀ (s : Sh) (d : D) (v : Value) (B : List Nat), (∀ b ∈ B, ¬ S b) → Own fid h O X s d v B → Own fid h' O' X s d v B
  | .v, d, v, B => fun _ r => by
    simp only [Own] at r ⊢
    exact ⟨r.1, Rd.ext ha (fun b hb q => .inl (hS b hb q)) (fun b hb q => q.imp (hO b hb) id) d v r.2⟩
  | .y, d, v, B => fun _ r => by
    simp only [Own] at r ⊢
    exact ⟨r.1, Rd.ext ha hS hO d v r.2⟩
  | .o s, d, v, B => fun hB r => by
    simp only [Own] at r ⊢
    rcases r with r | ⟨xs, hd, r⟩
    · exact .inl r
    · refine .inr ⟨xs, hd, ?_⟩
      rcases r with r | ⟨b, off, cap, cs, e, fz, B', rfl, hv, hb, ht, h1, h2, h3, he⟩
      · exact .inl r
      · have lt := lt_of_some hb
        refine .inr ⟨b, off, cap, cs, e, fz, B', rfl, hv, (ha.same b lt (hB b (by simp))).trans hb, ht, h1, h2, h3, ?_⟩
        exact Each.imp (fun d v B1 hb1 => Own.ext ha hS hO s d v B1 fun b hb => hB b (List.mem_cons_of_mem _ (hb1 b hb))) he

/-- What owns no block. -/
theorem Own.blocks_lt {fid : Nat → Nat} {h : Array Obj} {O X : Nat → Prop} : ∀ (s : Sh) (d : D) (v : Value) (B : List Nat), Own fid h O X s d v B → ∀ b ∈ B, b < h.size
  | .v, d, v, B => fun r => by simp only [Own] at r; simp [r.1]
  | .y, d, v, B => fun r => by simp only [Own] at r; simp [r.1]
  | .o s, d, v, B => fun r => by
    simp only [Own] at r
    rcases r with ⟨_, rfl⟩ | ⟨xs, hd, ⟨_, _, rfl⟩ | ⟨b, off, cap, cs, e, fz, B', rfl, hv, hb, ht, h1, h2, h3, he⟩⟩
    · simp
    · simp
    · intro x hx
      rcases List.mem_cons.1 hx with rfl | hx
      · exact lt_of_some hb
      · clear hb hv hd h1 h2 h3
        generalize cs.toList.drop off = vs at he
        induction xs generalizing vs B' with
        | nil => simp only [Each] at he; simp [he] at hx
        | cons d ds ih =>
          cases vs with
          | nil => simp [Each] at he
          | cons v vs =>
            simp only [Each] at he
            obtain ⟨B1, B2, rfl, h1, h2⟩ := he
            rcases List.mem_append.1 hx with hx | hx
            · exact Own.blocks_lt s d v B1 h1 x hx
            · exact ih B2 (List.mem_cons_of_mem _ hx) hx _ h2

/-- Owned data reads, outside the other owned blocks. -/
theorem Own.frozen {fid : Nat → Nat} {h : Array Obj} {O O' X : Nat → Prop} (hO : ∀ b, b < h.size → O' b → O b) : ∀ (s : Sh) (d : D) (v : Value) (B : List Nat), s ≠ .y →
    (∀ b ∈ B, ¬ O' b ∧ ¬ X b) → Own fid h O X s d v B → (∀ s', s = .o s' → s' = .v) → Rd fid h (fun b => O' b ∨ X b) d v
  | .v, d, v, B => fun _ _ r _ => by
    simp only [Own] at r
    exact r.2.mono fun b hb q => q.imp (hO b hb) id
  | .y, d, v, B => fun h => (h rfl).elim
  | .o s, d, v, B => fun _ hB r hs => by
    obtain rfl := hs s rfl
    simp only [Own] at r
    rcases r with ⟨rfl, _⟩ | ⟨xs, rfl, r⟩
    · simp [Rd]
    · simp only [Rd]
      rcases r with r | ⟨b, off, cap, cs, e, fz, B', rfl, hv, hb, ht, h1, h2, h3, he⟩
      · exact .inl ⟨r.2.1, r.1⟩
      · refine .inr ⟨b, off, cap, cs, e, fz, hv, hb, fun q => ?_, ?_, h1, h3⟩
        · rcases q with q | q
          · exact (hB b (by simp)).1 q
          · exact (hB b (by simp)).2 q
        · clear hv hb h1 h2 h3 hB ht
          generalize cs.toList.drop off = vs at he
          induction xs generalizing vs B' with
          | nil => simp [RdL]
          | cons d ds ih =>
            cases vs with
            | nil => simp [Each] at he
            | cons v vs =>
              simp only [Each] at he
              obtain ⟨B1, B2, rfl, h1, h2⟩ := he
              simp only [RdL]
              refine ⟨?_, ih B2 _ h2⟩
              exact h1.2.mono fun b hb q => q.imp (hO b hb) id

end Go.Cat
