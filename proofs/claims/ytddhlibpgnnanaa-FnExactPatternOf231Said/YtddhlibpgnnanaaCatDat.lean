/-
  Lists as data: of numbers, of strings, of bytes, of rows of numbers.
-/
import Derived.Test.YtddhlibpgnnanaaCatVc
namespace Go.Cat

/-- A slice of ints. -/
def LI (zs : List Int) : D := .l (zs.map D.n)
/-- A slice of strings. -/
def LS (ss : List (List Nat)) : D := .l (ss.map D.s)
/-- A slice of bytes. -/
def LB (bs : List Nat) : D := .l (bs.map D.y)
/-- A slice of bools. -/
def LT (bs : List Bool) : D := .l (bs.map D.b)
/-- A slice of slices of ints. -/
def LL (rs : List (List Int)) : D := .l (rs.map LI)

/-- Element i. -/
def atI (zs : List Int) (i : Int) : Int := zs.getD i.toNat 0
def atS (ss : List (List Nat)) (i : Int) : List Nat := ss.getD i.toNat []
def atB (bs : List Nat) (i : Int) : Nat := bs.getD i.toNat 0
def atT (bs : List Bool) (i : Int) : Bool := bs.getD i.toNat false
def atL (rs : List (List Int)) (i : Int) : List Int := rs.getD i.toNat []
def seI (zs : List Int) (i : Int) (x : Int) : List Int := zs.set i.toNat x
def seS (zs : List (List Nat)) (i : Int) (x : List Nat) : List (List Nat) := zs.set i.toNat x
def seT (zs : List Bool) (i : Int) (x : Bool) : List Bool := zs.set i.toNat x
def seL (zs : List (List Int)) (i : Int) (x : List Int) : List (List Int) := zs.set i.toNat x
/-- n times the same. -/
def rep {α : Type} (n : Int) (x : α) : List α := List.replicate n.toNat x
theorem rep_n {α : Type} {n : Nat} {x : α} : rep (n : Int) x = List.replicate n x := rfl
/-- From i to j. -/
def sub {α : Type} (xs : List α) (i j : Int) : List α := (xs.take j.toNat).drop i.toNat

section
variable {α : Type} (f : α → D) (df : α)
theorem ix_map {zs : List α} {k : IntKind} {i : Int} (hf : ∀ a, (f a).isU = false) (h0 : 0 ≤ i) (h1 : i < zs.length) : ixD (.l (zs.map f)) (.i k i) = some (f (zs.getD i.toNat df)) := by
  have h2 : i.toNat < zs.length := by omega
  simp [ixD, h0, h2, known, hf]
theorem get_map {zs : List α} {i : Nat} (h1 : i < zs.length) : getP [i] (.l (zs.map f)) = some (f (zs.getD i df)) := by
  simp [getP, h1]
theorem set_map {zs : List α} {i : Nat} {x : α} (h1 : i < zs.length) : setP [i] (.l (zs.map f)) (f x) = some (.l ((zs.set i x).map f)) := by
  simp [setP, h1, List.map_set]
theorem sub_map {zs : List α} {lo hi : Option D} {l h : Nat} (hl : bound lo 0 = some l) (hh : bound hi zs.length = some h) (h1 : l ≤ h) (h2 : h ≤ zs.length) : subD (.l (zs.map f)) lo hi = some (.l (((zs.take h).drop l).map f)) := by
  simp [subD, hl, hh, h1, h2, List.map_take, List.map_drop]
theorem app_map {fl : Bool} {xs ys : List α} (hf : ∀ a, (f a).one = true ∧ (fl = true → (f a).flat = true)) (h : xs.length + ys.length ≤ big) : appD fl (.l (xs.map f)) (.l (ys.map f)) = some (.l ((xs ++ ys).map f)) := by
  have h2 : (ys.map f).all (if fl = true then D.flat else D.one) = true := by
    cases fl with
    | true => simpa using fun a _ => (hf a).2 rfl
    | false => simpa using fun a _ => (hf a).1
  simp only [appD, List.length_map]
  rw [if_pos ⟨h, h2⟩, List.map_append]
end

theorem bound_none {d : Nat} : bound none d = some d := rfl
theorem bound_some {k : IntKind} {n : Int} {d : Nat} (h : 0 ≤ n) : bound (some (.i k n)) d = some n.toNat := by simp [bound, h]

/-! ### ints -/
section
variable {zs ys : List Int} {i j x : Int} {k : IntKind}
theorem LI_len : lenD (LI zs) = some (.n zs.length) := by simp [lenD, LI]
theorem LI_ix (h : 0 ≤ i ∧ i < zs.length) : ixD (LI zs) (.i k i) = some (.n (atI zs i)) := ix_map D.n 0 (fun _ => rfl) h.1 h.2
theorem flat_i : flatD (.i k x) = some (.i k x) := rfl
theorem LI_set (h : 0 ≤ i ∧ i < zs.length) : setP [i.toNat] (LI zs) (.n x) = some (LI (seI zs i x)) := set_map D.n (by omega)
theorem LI_sub (h : 0 ≤ i ∧ i ≤ j ∧ j ≤ zs.length) : subD (LI zs) (some (.n i)) (some (.n j)) = some (LI (sub zs i j)) :=
  sub_map D.n (bound_some h.1) (bound_some (by omega)) (by omega) (by omega)
theorem LI_to (h : 0 ≤ j ∧ j ≤ zs.length) : subD (LI zs) none (some (.n j)) = some (LI (sub zs 0 j)) := sub_map D.n bound_none (bound_some (by omega)) (by omega) (by omega)
theorem LI_from (h : 0 ≤ i ∧ i ≤ zs.length) : subD (LI zs) (some (.n i)) none = some (LI (sub zs i zs.length)) := by
  rw [LI, sub_map D.n (bound_some h.1) bound_none (by omega) (by omega)]; rfl
theorem LI_app {fl : Bool} (h : zs.length + ys.length ≤ 1099511627776) : appD fl (LI zs) (LI ys) = some (LI (zs ++ ys)) := app_map D.n (fun _ => ⟨rfl, fun _ => rfl⟩) h
theorem LI_mk {n m : Int} (h : 0 ≤ n ∧ n ≤ m ∧ m ≤ 1099511627776) : mkD (.n x) (.n n) (.n m) = some (LI (rep n x)) := by
  simp only [mkD, LI, rep]; rw [if_pos (show 0 ≤ n ∧ n ≤ m ∧ m ≤ (big : Int) from h)]; simp
theorem LI_nil : D.l [] = LI [] := rfl
theorem li_nil : liD [] = some (.l []) := rfl
theorem li_1 {a : Int} : liD [.n a] = some (LI [a]) := rfl
theorem li_2 {a b : Int} : liD [.n a, .n b] = some (LI [a, b]) := rfl
theorem li_3 {a b c : Int} : liD [.n a, .n b, .n c] = some (LI [a, b, c]) := rfl
theorem one_i : (D.i k x).one = true := rfl
theorem LI_one : (LI zs).one = true := rfl
end

/-! ### strings -/
section
variable {s u : List Nat} {ss ts : List (List Nat)} {i j : Int} {k : IntKind}
theorem S_len : snD (.s s) = some (.n s.length) := rfl
theorem S_ix (h : 0 ≤ i ∧ i < s.length) : sxD (.s s) (.i k i) = some (.y (atB s i)) := by
  have h2 : i.toNat < s.length := by omega
  simp [sxD, h.1, h2, atB]
theorem S_sub (h : 0 ≤ i ∧ i ≤ j ∧ j ≤ s.length) : ssD (.s s) (some (.n i)) (some (.n j)) = some (.s (sub s i j)) := by
  simp only [ssD, bound_some h.1, bound_some (show 0 ≤ j by omega)]; rw [if_pos (by omega)]; rfl
theorem S_to (h : 0 ≤ j ∧ j ≤ s.length) : ssD (.s s) none (some (.n j)) = some (.s (sub s 0 j)) := by
  simp only [ssD, bound_none, bound_some h.1]; rw [if_pos (by omega)]; rfl
theorem S_from (h : 0 ≤ i ∧ i ≤ s.length) : ssD (.s s) (some (.n i)) none = some (.s (sub s i s.length)) := by
  simp only [ssD, bound_none, bound_some h.1]; rw [if_pos (by omega)]; rfl
theorem LS_len : lenD (LS ss) = some (.n ss.length) := by simp [lenD, LS]
theorem LS_ix (h : 0 ≤ i ∧ i < ss.length) : ixD (LS ss) (.i k i) = some (.s (atS ss i)) := ix_map D.s [] (fun _ => rfl) h.1 h.2
theorem flat_s : flatD (.s s) = some (.s s) := rfl
theorem LS_set (h : 0 ≤ i ∧ i < ss.length) : setP [i.toNat] (LS ss) (.s s) = some (LS (seS ss i s)) := set_map D.s (by omega)
theorem LS_sub (h : 0 ≤ i ∧ i ≤ j ∧ j ≤ ss.length) : subD (LS ss) (some (.n i)) (some (.n j)) = some (LS (sub ss i j)) :=
  sub_map D.s (bound_some h.1) (bound_some (by omega)) (by omega) (by omega)
theorem LS_app {fl : Bool} (h : ss.length + ts.length ≤ 1099511627776) : appD fl (LS ss) (LS ts) = some (LS (ss ++ ts)) := app_map D.s (fun _ => ⟨rfl, fun _ => rfl⟩) h
theorem LS_mk {n m : Int} (h : 0 ≤ n ∧ n ≤ m ∧ m ≤ 1099511627776) : mkD (.s s) (.n n) (.n m) = some (LS (rep n s)) := by
  simp only [mkD, LS, rep]; rw [if_pos (show 0 ≤ n ∧ n ≤ m ∧ m ≤ (big : Int) from h)]; simp
theorem LS_nil : D.l [] = LS [] := rfl
theorem ls_1 {a : List Nat} : liD [.s a] = some (LS [a]) := rfl
theorem one_s : (D.s s).one = true := rfl
end

/-! ### bytes -/
section
variable {bs cs : List Nat} {i j : Int} {k : IntKind} {c : Nat}
theorem LB_len : lenD (LB bs) = some (.n bs.length) := by simp [lenD, LB]
theorem LB_ix (h : 0 ≤ i ∧ i < bs.length) : ixD (LB bs) (.i k i) = some (.y (atB bs i)) := ix_map D.y 0 (fun _ => rfl) h.1 h.2
theorem LB_app {fl : Bool} (h : bs.length + cs.length ≤ 1099511627776) : appD fl (LB bs) (LB cs) = some (LB (bs ++ cs)) := app_map D.y (fun _ => ⟨rfl, fun _ => rfl⟩) h
theorem lb_1 : liD [.y c] = some (LB [c]) := rfl
theorem lb_1i {x : Int} (h : 0 ≤ x) : liD [.i .u8 x] = some (LB [x.toNat]) := by
  have : x = (x.toNat : Int) := by omega
  rw [this]; rfl
theorem LB_bs1 {x : Nat} (h : x < 256) : bsD (LB [x]) = some (.s [x]) := by
  have h2 : ((x : Int)) < 256 := by omega
  simp [bsD, LB, bytesOf, h2]
theorem LB_nil : D.l [] = LB [] := rfl
theorem LB_sy (h : bs.length ≤ 1099511627776) : syD (.s bs) = some (LB bs) := by simp only [syD]; rw [if_pos (show bs.length ≤ big from h)]; rfl
theorem bytesOf_y : ∀ {bs : List Nat}, (∀ c ∈ bs, c < 256) → bytesOf (bs.map D.y) = some bs
  | [], _ => rfl
  | c :: bs, h => by
    have h1 := h c (by simp)
    simp only [List.map_cons, bytesOf]
    rw [if_pos (by omega), bytesOf_y fun c hc => h c (by simp [hc])]
    simp
theorem LB_bs (h : ∀ c ∈ bs, c < 256) : bsD (LB bs) = some (.s bs) := by simp [bsD, LB, bytesOf_y h]
end

/-! ### bools -/
section
variable {bs cs : List Bool} {i j : Int} {k : IntKind} {c : Bool}
theorem LT_len : lenD (LT bs) = some (.n bs.length) := by simp [lenD, LT]
theorem LT_ix (h : 0 ≤ i ∧ i < bs.length) : ixD (LT bs) (.i k i) = some (.b (atT bs i)) := ix_map D.b false (fun _ => rfl) h.1 h.2
theorem flat_b : flatD (.b c) = some (.b c) := rfl
theorem LT_set (h : 0 ≤ i ∧ i < bs.length) : setP [i.toNat] (LT bs) (.b c) = some (LT (seT bs i c)) := set_map D.b (by omega)
theorem LT_mk {n m : Int} (h : 0 ≤ n ∧ n ≤ m ∧ m ≤ 1099511627776) : mkD (.b c) (.n n) (.n m) = some (LT (rep n c)) := by
  simp only [mkD, LT, rep]; rw [if_pos (show 0 ≤ n ∧ n ≤ m ∧ m ≤ (big : Int) from h)]; simp
theorem one_b : (D.b c).one = true := rfl
end

/-! ### rows of ints -/
section
variable {rs qs : List (List Int)} {r : List Int} {i j x : Int} {k : IntKind}
theorem LL_len : lenD (LL rs) = some (.n rs.length) := by simp [lenD, LL]
theorem LL_ix (h : 0 ≤ i ∧ i < rs.length) : ixD (LL rs) (.i k i) = some (LI (atL rs i)) := ix_map LI [] (fun _ => rfl) h.1 h.2
theorem LL_get (h : 0 ≤ i ∧ i < rs.length) : getP [i.toNat] (LL rs) = some (LI (atL rs i)) := get_map LI [] (by omega)
theorem LL_set (h : 0 ≤ i ∧ i < rs.length) : setP [i.toNat] (LL rs) (LI r) = some (LL (seL rs i r)) := set_map LI (by omega)
theorem LL_set2 (h : 0 ≤ i ∧ i < rs.length ∧ 0 ≤ j ∧ j < (atL rs i).length) : setP [i.toNat, j.toNat] (LL rs) (.n x) = some (LL (seL rs i (seI (atL rs i) j x))) := by
  obtain ⟨h0, h1, h2, h3⟩ := h
  have h4 : i.toNat < rs.length := by omega
  have h5 : j.toNat < (atL rs i).length := by omega
  have e : rs[i.toNat] = atL rs i := by simp [atL, List.getD_eq_getElem?_getD, h4]
  have := set_map D.n (x := x) h5
  have e1 : setP [i.toNat, j.toNat] (LL rs) (.n x) = (setP [j.toNat] (LI (atL rs i)) (.n x)).map fun x' => .l ((rs.map LI).set i.toNat x') := by
    refine (show _ = ((rs.map LI)[i.toNat]?.bind fun y => setP [j.toNat] y (.n x)).map _ from rfl).trans ?_
    rw [List.getElem?_map, List.getElem?_eq_getElem h4, Option.map_some, Option.bind_some, e]
  rw [e1, LI, this]
  simp [LL, seL, List.map_set, seI, LI]
theorem LL_app {fl : Bool} (h : rs.length + qs.length ≤ 1099511627776 ∧ fl = false) : appD fl (LL rs) (LL qs) = some (LL (rs ++ qs)) := app_map LI (fun _ => ⟨rfl, fun e => by rw [h.2] at e; cases e⟩) h.1
theorem LL_sub (h : 0 ≤ i ∧ i ≤ j ∧ j ≤ rs.length) : subD (LL rs) (some (.n i)) (some (.n j)) = some (LL (sub rs i j)) :=
  sub_map LI (bound_some h.1) (bound_some (by omega)) (by omega) (by omega)
theorem LL_from (h : 0 ≤ i ∧ i ≤ rs.length) : subD (LL rs) (some (.n i)) none = some (LL (sub rs i rs.length)) := by
  rw [LL, sub_map LI (bound_some h.1) bound_none (by omega) (by omega)]; rfl
theorem LL_nil : D.l [] = LL [] := rfl
theorem ll_1 : liD [LI r] = some (LL [r]) := rfl
end

theorem up_i {is : List Nat} {d : D} {k : IntKind} {n : Int} : upD (some is) d (.i k n) = setP is d (.i k n) := rfl
theorem up_s {is : List Nat} {d : D} {u : List Nat} : upD (some is) d (.s u) = setP is d (.s u) := rfl
theorem up_b {is : List Nat} {d : D} {u : Bool} : upD (some is) d (.b u) = setP is d (.b u) := rfl
theorem up_l {is : List Nat} {d : D} {u : List Int} : upD (some is) d (LI u) = setP is d (LI u) := rfl

/-! ### Lengths and elements -/
theorem tmod_p {a b : Int} (h : 0 ≤ a) : a.tmod b = a % b := Int.tmod_eq_emod_of_nonneg h
theorem tdiv_p {a b : Int} (h : 0 ≤ a) : a.tdiv b = a / b := Int.tdiv_eq_ediv_of_nonneg h
/-- Lengths. -/
theorem vl : (∀ {α : Type} {a : α} {l : List α}, (a :: l).length = l.length + 1) ∧ (∀ {α : Type}, ([] : List α).length = 0) ∧ (∀ {α : Type} {a b : List α}, (a ++ b).length = a.length + b.length) ∧
    (∀ {zs : List Int} {i x : Int}, (seI zs i x).length = zs.length) ∧ (∀ {zs : List (List Nat)} {i : Int} {x : List Nat}, (seS zs i x).length = zs.length) ∧ (∀ {zs : List Bool} {i : Int} {x : Bool}, (seT zs i x).length = zs.length) ∧
    (∀ {zs : List (List Int)} {i : Int} {x : List Int}, (seL zs i x).length = zs.length) ∧ (∀ {α : Type} {xs : List α} {i j : Int}, (sub xs i j).length = min j.toNat xs.length - i.toNat) ∧ (∀ {α : Type} {n : Int} {y : α}, (rep n y).length = n.toNat) ∧
    (∀ {α β : Type} {f : α → β} {l : List α}, (l.map f).length = l.length) ∧ (∀ {α : Type} {l : List α} {n : Nat}, (l.take n).length = min n l.length) ∧ (∀ {α : Type} {l : List α} {n : Nat}, (l.drop n).length = l.length - n) ∧ (∀ {α : Type} {l : List α}, l.reverse.length = l.length) :=
  ⟨List.length_cons, List.length_nil, List.length_append, by simp [seI], by simp [seS], by simp [seT], by simp [seL], by simp [sub], by simp [rep], List.length_map _, List.length_take, List.length_drop, List.length_reverse⟩
theorem beq_b {p : Bool} : (p == p) = true := by simp
theorem beq_s {x : List Nat} : (x == x) = true := by simp
theorem atI_set {zs : List Int} {i j : Nat} {x : Int} (hi : i < zs.length) : atI (seI zs i x) j = if i = j then x else atI zs j := by
  simp only [atI, seI, Int.toNat_natCast, List.getD_eq_getElem?_getD, List.getElem?_set]
  split
  · rename_i h; subst h; simp
  · rfl
theorem atS_set {zs : List (List Nat)} {i j : Nat} {x : List Nat} (hi : i < zs.length) : atS (seS zs i x) j = if i = j then x else atS zs j := by
  simp only [atS, seS, Int.toNat_natCast, List.getD_eq_getElem?_getD, List.getElem?_set]
  split
  · rename_i h; subst h; simp
  · rfl
theorem atT_set {zs : List Bool} {i j : Nat} {x : Bool} (hi : i < zs.length) : atT (seT zs i x) j = if i = j then x else atT zs j := by
  simp only [atT, seT, Int.toNat_natCast, List.getD_eq_getElem?_getD, List.getElem?_set]
  split
  · rename_i h; subst h; simp
  · rfl
theorem extI {a b : List Int} (hl : a.length = b.length) (h : ∀ j : Nat, j < a.length → atI a j = atI b j) : a = b := by
  apply List.ext_getElem hl
  intro j h1 h2
  have := h j h1
  simpa [atI, h1, h2] using this
theorem extS {a b : List (List Nat)} (hl : a.length = b.length) (h : ∀ j : Nat, j < a.length → atS a j = atS b j) : a = b := by
  apply List.ext_getElem hl
  intro j h1 h2
  have := h j h1
  simpa [atS, h1, h2] using this
theorem rep_len {α : Type} {n : Int} {y : α} : (rep n y).length = n.toNat := by simp [rep]
section
variable {zs : List Int} {i j x : Int}
theorem seI_len : (seI zs i x).length = zs.length := by simp [seI]
theorem seS_len {ss : List (List Nat)} {s : List Nat} : (seS ss i s).length = ss.length := by simp [seS]
theorem seT_len {ss : List Bool} {s : Bool} : (seT ss i s).length = ss.length := by simp [seT]
theorem seL_len {ss : List (List Int)} {s : List Int} : (seL ss i s).length = ss.length := by simp [seL]
theorem sub_len {α : Type} {xs : List α} : (sub xs i j).length = min j.toNat xs.length - i.toNat := by simp [sub]
end

/-- The call's rule. -/
theorem call_by {K : Nat → List D → List D → Prop} {g : Nat} {ds : List D} {r : Nat} {e : Env} {Q : Env → Prop} {rs : List D} (h : K g ds rs) (hl : rs.length = r) (hq : Q (e ++ rs)) : calQ K g ds r e Q := ⟨rs, h, hl, hq⟩

theorem cnd_by {K : Nat → List D → List D → Prop} {x y : S} {Q : X → Env → Prop} {e : Env} {p : Bool} (h1 : p = true → wpS K x Q e) (h2 : p = false → wpS K y Q e) : cndQ K x y Q e (.b p) := by
  cases p with
  | true => exact h1 rfl
  | false => exact h2 rfl

theorem dropB {w : List Nat} {i : Nat} (h : i < w.length) : w.drop i = atB w i :: w.drop (i + 1) := by
  rw [List.drop_eq_getElem_cons h]
  simp [atB, h]
theorem dropI {w : List Int} {i : Nat} (h : i < w.length) : w.drop i = atI w i :: w.drop (i + 1) := by
  rw [List.drop_eq_getElem_cons h]
  simp [atI, h]
theorem D2 {a b c d : D} (h : a = c) (h2 : b = d) : [a, b] = [c, d] := by rw [h, h2]
theorem D1 {a b : D} (h : a = b) : [a] = [b] := by rw [h]
theorem Db {p q : Bool} (h : p = q) : [D.b p] = [D.b q] := by rw [h]
theorem Dn {k : IntKind} {p q : Int} (h : p = q) : [D.i k p] = [D.i k q] := by rw [h]
theorem Dl {p q : List Int} (h : p = q) : [LI p] = [LI q] := by rw [h]

theorem all_f {zs : List Int} {p : Int → Bool} {i : Nat} (hi : i < zs.length) (h : p (atI zs i) = false) : zs.all p = false := by
  rw [Bool.eq_false_iff]
  intro ha
  rw [List.all_eq_true] at ha
  have := ha (atI zs i) (by simp [atI, hi])
  rw [h] at this; cases this
theorem all_t {zs : List Int} {p : Int → Bool} (h : ∀ j : Nat, j < zs.length → p (atI zs j) = true) : zs.all p = true := by
  rw [List.all_eq_true]
  intro x hx
  obtain ⟨j, hj, rfl⟩ := List.mem_iff_getElem.1 hx
  have := h j hj
  simpa [atI, hj] using this
theorem all_s {i : Nat} {p : Nat → Prop} (h : ∀ j, j < i → p j) (h2 : p i) : ∀ j, j < i + 1 → p j := by
  intro j hj
  rcases Nat.lt_or_ge j i with q | q
  · exact h j q
  · obtain rfl : j = i := by omega
    exact h2

/-! ### Loops -/

/-- What follows a round. -/
def lpQ (R : Env → Prop) (Q : X → Env → Prop) : X → Env → Prop
  | .n, e => R e
  | .ex j, e => Q (.ex j) e
  | .r, e => Q .r e
theorem lpQ_n {R : Env → Prop} {Q : X → Env → Prop} {e : Env} : lpQ R Q .n e = R e := rfl
theorem lpQ_ex {R : Env → Prop} {Q : X → Env → Prop} {e : Env} {j : Nat} : lpQ R Q (.ex j) e = Q (.ex j) e := rfl
theorem lpQ_r {R : Env → Prop} {Q : X → Env → Prop} {e : Env} : lpQ R Q .r e = Q .r e := rfl

/-- n rounds of f. -/
def iter {σ : Type} (f : Nat → σ → σ) : Nat → σ → σ
  | 0, s => s
  | n + 1, s => f n (iter f n s)

theorem iter_inv {σ : Type} {f : Nat → σ → σ} {s0 : σ} (P : σ → Prop) (h0 : P s0) (hp : ∀ i s, P s → P (f i s)) : ∀ n, P (iter f n s0)
  | 0 => h0
  | n + 1 => hp n _ (iter_inv P h0 hp n)

/-- A loop, by its states; m falls. -/
theorem loop_wh {K : Nat → List D → List D → Prop} {b : S} {Q : X → Env → Prop} {e : Env} {σ : Type} (I : σ → Prop) (mk : σ → Env) (m : σ → Nat) (s0 : σ) (h0 : I s0) (he : e = mk s0)
    (step : ∀ s, I s → wpS K b (lpQ (fun e' => ∃ s', m s' < m s ∧ I s' ∧ e' = mk s') Q) (mk s)) : wpS K (.loop b) Q e := by
  refine loop_by (fun n e => ∃ s, n = m s ∧ I s ∧ e = mk s) (m s0) ⟨s0, rfl, h0, he⟩ ?_
  rintro _ _ ⟨s, rfl, hI, rfl⟩
  refine wpS_mono b (fun x e h => ?_) (step s hI)
  cases x with
  | n => obtain ⟨s', h1, h2, h3⟩ := h; exact ⟨m s', h1, s', rfl, h2, h3⟩
  | ex j => exact h
  | r => exact h

/-- A loop that counts up to n. -/
theorem loop_up {K : Nat → List D → List D → Prop} {b : S} {Q : X → Env → Prop} {e : Env} {σ : Type} (P : Nat → σ → Prop) (mk : Nat → σ → Env) (n : Nat) (s0 : σ) (h0 : P 0 s0) (he : e = mk 0 s0)
    (step : ∀ i s, i < n → P i s → wpS K b (lpQ (fun e' => ∃ s', P (i + 1) s' ∧ e' = mk (i + 1) s') Q) (mk i s))
    (last : ∀ s, P n s → wpS K b (lpQ (fun _ => False) Q) (mk n s)) : wpS K (.loop b) Q e := by
  refine loop_wh (fun (x : Nat × σ) => x.1 ≤ n ∧ P x.1 x.2) (fun x => mk x.1 x.2) (fun x => n - x.1) (0, s0) ⟨Nat.zero_le _, h0⟩ he ?_
  rintro ⟨i, s⟩ ⟨hi, hP⟩
  rcases Nat.lt_or_ge i n with hlt | hge
  · refine wpS_mono b (fun x e h => ?_) (step i s hlt hP)
    cases x with
    | n => obtain ⟨s', h1, h2⟩ := h; exact ⟨(i + 1, s'), by show n - (i + 1) < n - i; omega, ⟨hlt, h1⟩, h2⟩
    | ex j => exact h
    | r => exact h
  · obtain rfl : i = n := Nat.le_antisymm hi hge
    refine wpS_mono b (fun x e h => ?_) (last s hP)
    cases x with
    | n => exact h.elim
    | ex j => exact h
    | r => exact h

/-- A loop that counts, nothing else. -/
theorem loop_ix {K : Nat → List D → List D → Prop} {b : S} {Q : X → Env → Prop} {e : Env} (P : Nat → Prop) (mk : Nat → Env) (n : Nat) (h0 : P 0) (he : e = mk 0)
    (step : ∀ i, i < n → P i → wpS K b (lpQ (fun e' => P (i + 1) ∧ e' = mk (i + 1)) Q) (mk i))
    (last : P n → wpS K b (lpQ (fun _ => False) Q) (mk n)) : wpS K (.loop b) Q e := by
  refine loop_up (fun i (_ : Unit) => P i) (fun i _ => mk i) n () h0 he (fun i _ hi hP => ?_) (fun _ h => last h)
  refine wpS_mono b (fun x e h => ?_) (step i hi hP)
  cases x with
  | n => exact ⟨(), h.1, h.2⟩
  | ex j => exact h
  | r => exact h

/-- A loop that is n rounds of f. -/
theorem loop_fold {K : Nat → List D → List D → Prop} {b : S} {Q : X → Env → Prop} {e : Env} {σ : Type} (f : Nat → σ → σ) (P : Nat → σ → Prop) (mk : Nat → σ → Env) (n : Nat) (s0 : σ) (h0 : P 0 s0) (he : e = mk 0 s0)
    (hp : ∀ i s, i < n → P i s → P (i + 1) (f i s))
    (step : ∀ i s, i < n → P i s → s = iter f i s0 → wpS K b (lpQ (fun e' => e' = mk (i + 1) (f i s)) Q) (mk i s))
    (last : ∀ s, s = iter f n s0 → P n s → wpS K b (lpQ (fun _ => False) Q) (mk n s)) : wpS K (.loop b) Q e := by
  refine loop_up (fun i s => s = iter f i s0 ∧ P i s) mk n s0 ⟨rfl, h0⟩ he (fun i s hi hP => ?_) (fun s h => last s h.1 h.2)
  obtain ⟨h1, h2⟩ := hP
  refine wpS_mono b (fun x e h => ?_) (step i s hi h2 h1)
  cases x with
  | n => exact ⟨f i s, ⟨by rw [h1]; rfl, hp i s hi h2⟩, h⟩
  | ex j => exact h
  | r => exact h

/-- A body, entered. -/
theorem body_by {K : Nat → List D → List D → Prop} {k : Nat} {f : IF} [h : Has K k f] {ds rs : List D} (hl : ds.length = f.np) (hb : wpS K f.body (endQ f.res rs) (ds ++ List.replicate (f.nv - f.np) .u)) : K k ds rs := by
  refine h.h ds rs ⟨hl, ?_⟩
  refine wpS_mono _ (fun x e h => ?_) hb
  cases x with
  | ex _ => exact h.elim
  | n => exact ⟨trivial, h⟩
  | r => exact ⟨trivial, h⟩

end Go.Cat
