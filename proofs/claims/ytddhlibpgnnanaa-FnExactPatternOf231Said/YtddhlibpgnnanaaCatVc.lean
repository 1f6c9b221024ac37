/-
  How a body is walked through: one statement behind the other; what comes later stays closed until it is reached.
-/
import Derived.Test.YtddhlibpgnnanaaCatLoop
namespace Go.Cat

section
variable (K : Nat → List D → List D → Prop)

/-- What follows a statement. -/
def seqQ (b : S) (Q : X → Env → Prop) : X → Env → Prop
  | .n, e => wpS K b Q e
  | .ex j, e => Q (.ex j) e
  | .r, e => Q .r e

/-- What follows a block. -/
def blkQ (id : Nat) (Q : X → Env → Prop) : X → Env → Prop
  | .n, e => Q .n e
  | .ex j, e => if j = id then Q .n e else Q (.ex j) e
  | .r, e => Q .r e

/-- What follows a region. -/
def regQ (out : List (Option Nat)) (Q : X → Env → Prop) : Env → Prop := fun e => Q .n (outE out e)

/-- What follows an item. -/
def itsQ (r : List It) (Q : Env → Prop) : Env → Prop := fun e => wpIts K r e Q

/-- What follows a value. -/
def valQ (e : Env) (Q : Env → Prop) : Option D → Prop
  | some d => Q (e ++ [d])
  | none => False

/-- A test. -/
def cndQ (x y : S) (Q : X → Env → Prop) (e : Env) : D → Prop
  | .b true => wpS K x Q e
  | .b false => wpS K y Q e
  | _ => False

/-- A call. -/
def calQ (g : Nat) (ds : List D) (r : Nat) (e : Env) (Q : Env → Prop) : Prop := ∃ rs : List D, K g ds rs ∧ rs.length = r ∧ Q (e ++ rs)

/-- The end of a body. -/
def endQ (res : List Nat) (rs : List D) : X → Env → Prop
  | .ex _, _ => False
  | .n, e => rs = res.map e.E
  | .r, e => rs = res.map e.E

variable {K}

theorem wp_seq {a b : S} {Q : X → Env → Prop} {e : Env} : wpS K (.seq a b) Q e = wpS K a (seqQ K b Q) e := by
  simp only [wpS]
  congr 1
  funext x e; cases x <;> rfl
theorem wp_block {id : Nat} {b : S} {Q : X → Env → Prop} {e : Env} : wpS K (.block id b) Q e = wpS K b (blkQ id Q) e := by
  simp only [wpS]
  congr 1
  funext x e; cases x <;> rfl
theorem wp_skip {Q : X → Env → Prop} {e : Env} : wpS K .skip Q e = Q .n e := rfl
theorem wp_exit {id : Nat} {Q : X → Env → Prop} {e : Env} : wpS K (.exit id) Q e = Q (.ex id) e := rfl
theorem wp_ret {Q : X → Env → Prop} {e : Env} : wpS K .ret Q e = Q .r e := rfl
theorem wp_reg {its : List It} {out : List (Option Nat)} {Q : X → Env → Prop} {e : Env} : wpS K (.reg its out) Q e = wpIts K its e (regQ out Q) := rfl
theorem wp_cond {n : Nat} {x y : S} {Q : X → Env → Prop} {e : Env} : wpS K (.cond n x y) Q e = cndQ K x y Q (e.set n .u) (e.E n) := by
  simp only [wpS]
  cases e.E n <;> try rfl
theorem seqQ_n {b : S} {Q : X → Env → Prop} {e : Env} : seqQ K b Q .n e = wpS K b Q e := rfl
theorem seqQ_ex {b : S} {Q : X → Env → Prop} {e : Env} {j : Nat} : seqQ K b Q (.ex j) e = Q (.ex j) e := rfl
theorem seqQ_r {b : S} {Q : X → Env → Prop} {e : Env} : seqQ K b Q .r e = Q .r e := rfl
theorem blkQ_n {id : Nat} {Q : X → Env → Prop} {e : Env} : blkQ id Q .n e = Q .n e := rfl
theorem blkQ_ex {id : Nat} {Q : X → Env → Prop} {e : Env} {j : Nat} : blkQ id Q (.ex j) e = if j = id then Q .n e else Q (.ex j) e := rfl
theorem blkQ_r {id : Nat} {Q : X → Env → Prop} {e : Env} : blkQ id Q .r e = Q .r e := rfl
theorem regQ_mk {out : List (Option Nat)} {Q : X → Env → Prop} {e : Env} : regQ out Q e = Q .n (outE out e) := rfl
theorem itsQ_mk {r : List It} {Q : Env → Prop} {e : Env} : itsQ K r Q e = wpIts K r e Q := rfl
theorem valQ_some {e : Env} {Q : Env → Prop} {d : D} : valQ e Q (some d) = Q (e ++ [d]) := rfl
theorem cndQ_t {x y : S} {Q : X → Env → Prop} {e : Env} : cndQ K x y Q e (.b true) = wpS K x Q e := rfl
theorem cndQ_f {x y : S} {Q : X → Env → Prop} {e : Env} : cndQ K x y Q e (.b false) = wpS K y Q e := rfl
theorem endQ_n {res : List Nat} {rs : List D} {e : Env} : endQ res rs .n e = (rs = res.map e.E) := rfl
theorem endQ_r {res : List Nat} {rs : List D} {e : Env} : endQ res rs .r e = (rs = res.map e.E) := rfl
theorem wp_its_nil {e : Env} {Q : Env → Prop} : wpIts K [] e Q = Q e := rfl
theorem wp_its_cons {it : It} {r : List It} {e : Env} {Q : Env → Prop} : wpIts K (it :: r) e Q = wpIt K it e (itsQ K r Q) := rfl

/-- An item whose guard is met, or not. -/
def gdQ (p : Pr) (e : Env) (Q : Env → Prop) : Option Bool → Prop
  | some true => wpPr K p e Q
  | some false => Q (e ++ List.replicate p.np .u)
  | none => False
theorem wp_it {z : List Nat} {g : Gd} {p : Pr} {e : Env} {Q : Env → Prop} : wpIt K ⟨z, g, p⟩ e Q = gdQ (K := K) p e Q (gdE e.E g) := by
  simp only [wpIt]
  split <;> rename_i h <;> simp only [h] <;> rfl
theorem gdQ_t {p : Pr} {e : Env} {Q : Env → Prop} : gdQ (K := K) p e Q (some true) = wpPr K p e Q := rfl
theorem gdQ_f {p : Pr} {e : Env} {Q : Env → Prop} : gdQ (K := K) p e Q (some false) = Q (e ++ List.replicate p.np .u) := rfl
theorem gdE_nil {E : Nat → D} : gdE E [] = some true := rfl
def gdB (w : Bool) (r : Option Bool) : D → Option Bool
  | .b x => if x = w then r else some false
  | _ => none
theorem gdE_cons {E : Nat → D} {n : Nat} {w : Bool} {r : Gd} : gdE E ((n, w) :: r) = gdB w (gdE E r) (E n) := rfl
theorem gdB_tt {r : Option Bool} : gdB true r (.b true) = r := rfl
theorem gdB_ff {r : Option Bool} : gdB false r (.b false) = r := rfl
theorem gdB_tf {r : Option Bool} : gdB true r (.b false) = some false := rfl
theorem gdB_ft {r : Option Bool} : gdB false r (.b true) = some false := rfl
/-- A guard that is not decided. -/
theorem gd_by {K : Nat → List D → List D → Prop} {p : Pr} {e : Env} {Q : Env → Prop} {w x : Bool} {r : Option Bool} (h1 : x = w → gdQ (K := K) p e Q r) (h2 : x = !w → Q (e ++ List.replicate p.np .u)) : gdQ (K := K) p e Q (gdB w r (.b x)) := by
  cases x <;> cases w <;> first | exact h1 rfl | exact h2 rfl

theorem np_1 {p : Pr} (h : p.np = 1) : List.replicate p.np D.u = [.u] := by rw [h]; rfl
theorem wp_pr_nop {e : Env} {Q : Env → Prop} : wpPr K .nop e Q = Q e := rfl
theorem wp_pr_ca {g : Nat} {xs : List A} {r : Nat} {e : Env} {Q : Env → Prop} : wpPr K (.ca g xs r) e Q = calQ K g (xs.map (ev e.E)) r e Q := rfl

theorem wp_pr_cs {e : Env} {Q : Env → Prop} (s : Sh) (d : D) : wpPr K (.cs s d) e Q = valQ e Q (evP e.E (.cs s d)) := by
  simp only [wpPr]; split <;> rename_i h <;> simp only [h] <;> rfl
theorem wp_pr_cy {e : Env} {Q : Env → Prop} (a : A) : wpPr K (.cy a) e Q = valQ e Q (evP e.E (.cy a)) := by
  simp only [wpPr]; split <;> rename_i h <;> simp only [h] <;> rfl
theorem wp_pr_bi {e : Env} {Q : Env → Prop} (op : BinOp) (a b : A) : wpPr K (.bi op a b) e Q = valQ e Q (evP e.E (.bi op a b)) := by
  simp only [wpPr]; split <;> rename_i h <;> simp only [h] <;> rfl
theorem wp_pr_bb {e : Env} {Q : Env → Prop} (op : BinOp) (a b : A) : wpPr K (.bb op a b) e Q = valQ e Q (evP e.E (.bb op a b)) := by
  simp only [wpPr]; split <;> rename_i h <;> simp only [h] <;> rfl
theorem wp_pr_un {e : Env} {Q : Env → Prop} (op : UnOp) (a : A) : wpPr K (.un op a) e Q = valQ e Q (evP e.E (.un op a)) := by
  simp only [wpPr]; split <;> rename_i h <;> simp only [h] <;> rfl
theorem wp_pr_pk {e : Env} {Q : Env → Prop} (a b c : A) : wpPr K (.pk a b c) e Q = valQ e Q (evP e.E (.pk a b c)) := by
  simp only [wpPr]; split <;> rename_i h <;> simp only [h] <;> rfl
theorem wp_pr_cv {e : Env} {Q : Env → Prop} (k : IntKind) (a : A) : wpPr K (.cv k a) e Q = valQ e Q (evP e.E (.cv k a)) := by
  simp only [wpPr]; split <;> rename_i h <;> simp only [h] <;> rfl
theorem wp_pr_ln {e : Env} {Q : Env → Prop} (a : A) (p : List PE) : wpPr K (.ln a p) e Q = valQ e Q (evP e.E (.ln a p)) := by
  simp only [wpPr]; split <;> rename_i h <;> simp only [h] <;> rfl
theorem wp_pr_sn {e : Env} {Q : Env → Prop} (a : A) : wpPr K (.sn a) e Q = valQ e Q (evP e.E (.sn a)) := by
  simp only [wpPr]; split <;> rename_i h <;> simp only [h] <;> rfl
theorem wp_pr_sx {e : Env} {Q : Env → Prop} (a i : A) : wpPr K (.sx a i) e Q = valQ e Q (evP e.E (.sx a i)) := by
  simp only [wpPr]; split <;> rename_i h <;> simp only [h] <;> rfl
theorem wp_pr_ss {e : Env} {Q : Env → Prop} (a : A) (lo hi : Option A) : wpPr K (.ss a lo hi) e Q = valQ e Q (evP e.E (.ss a lo hi)) := by
  simp only [wpPr]; split <;> rename_i h <;> simp only [h] <;> rfl
theorem wp_pr_ix {e : Env} {Q : Env → Prop} (a : A) (p : List PE) (i : A) : wpPr K (.ix a p i) e Q = valQ e Q (evP e.E (.ix a p i)) := by
  simp only [wpPr]; split <;> rename_i h <;> simp only [h] <;> rfl
theorem wp_pr_up {e : Env} {Q : Env → Prop} (n : Nat) (p : List PE) (a : A) : wpPr K (.up n p a) e Q = valQ e Q (evP e.E (.up n p a)) := by
  simp only [wpPr]; split <;> rename_i h <;> simp only [h] <;> rfl
theorem wp_pr_sb {e : Env} {Q : Env → Prop} (fz : Bool) (a : A) (lo hi : Option A) : wpPr K (.sb fz a lo hi) e Q = valQ e Q (evP e.E (.sb fz a lo hi)) := by
  simp only [wpPr]; split <;> rename_i h <;> simp only [h] <;> rfl
theorem wp_pr_ap {e : Env} {Q : Env → Prop} (fl : Bool) (a b : A) : wpPr K (.ap fl a b) e Q = valQ e Q (evP e.E (.ap fl a b)) := by
  simp only [wpPr]; split <;> rename_i h <;> simp only [h] <;> rfl
theorem wp_pr_mk {e : Env} {Q : Env → Prop} (d : D) (n c : A) : wpPr K (.mk d n c) e Q = valQ e Q (evP e.E (.mk d n c)) := by
  simp only [wpPr]; split <;> rename_i h <;> simp only [h] <;> rfl
theorem wp_pr_li {e : Env} {Q : Env → Prop} (s : Sh) (xs : List A) : wpPr K (.li s xs) e Q = valQ e Q (evP e.E (.li s xs)) := by
  simp only [wpPr]; split <;> rename_i h <;> simp only [h] <;> rfl
theorem wp_pr_bs {e : Env} {Q : Env → Prop} (a : A) : wpPr K (.bs a) e Q = valQ e Q (evP e.E (.bs a)) := by
  simp only [wpPr]; split <;> rename_i h <;> simp only [h] <;> rfl
theorem wp_pr_sy {e : Env} {Q : Env → Prop} (a : A) : wpPr K (.sy a) e Q = valQ e Q (evP e.E (.sy a)) := by
  simp only [wpPr]; split <;> rename_i h <;> simp only [h] <;> rfl
theorem wp_pr_mx {e : Env} {Q : Env → Prop} (a b : A) : wpPr K (.mx a b) e Q = valQ e Q (evP e.E (.mx a b)) := by
  simp only [wpPr]; split <;> rename_i h <;> simp only [h] <;> rfl
theorem wp_pr_mn {e : Env} {Q : Env → Prop} (a b : A) : wpPr K (.mn a b) e Q = valQ e Q (evP e.E (.mn a b)) := by
  simp only [wpPr]; split <;> rename_i h <;> simp only [h] <;> rfl
theorem wp_pr_iy {e : Env} {Q : Env → Prop} (a i : A) : wpPr K (.iy a i) e Q = valQ e Q (evP e.E (.iy a i)) := by
  simp only [wpPr]; split <;> rename_i h <;> simp only [h] <;> rfl
end

/-! ### The values of operations -/
section
variable {E : Nat → D}
theorem ev_e {n : Nat} : ev E (.e n) = E n := rfl
theorem ev_c {d : D} : ev E (.c d) = d := rfl
theorem evP_cs {s : Sh} {d : D} : evP E (.cs s d) = some d := rfl
theorem evP_cy {a : A} : evP E (.cy a) = some (ev E a) := rfl
theorem evP_bin {op : BinOp} {a b : A} : evP E (.bi op a b) = binD op (ev E a) (ev E b) := rfl
theorem evP_bbo {op : BinOp} {a b : A} : evP E (.bb op a b) = boolD op (ev E a) (ev E b) := rfl
theorem evP_uno {op : UnOp} {a : A} : evP E (.un op a) = unD op (ev E a) := rfl
def pkD (c a b : D) : Option D := match c with | .b true => some a | .b false => some b | _ => none
theorem evP_pk {c a b : A} : evP E (.pk c a b) = pkD (ev E c) (ev E a) (ev E b) := by
  simp only [evP, pkD]; split <;> rename_i h <;> simp only [h]
theorem pkD_t {a b : D} : pkD (.b true) a b = some a := rfl
theorem pkD_f {a b : D} : pkD (.b false) a b = some b := rfl
theorem pkD_ff {p q : Bool} : pkD (.b p) (.b q) (.b false) = some (.b (p && q)) := by cases p <;> rfl
theorem pkD_tt {p q : Bool} : pkD (.b p) (.b true) (.b q) = some (.b (p || q)) := by cases p <;> rfl
def cvD (k : IntKind) : D → Option D | .i _ n => some (.i k (k.wrap n)) | _ => none
theorem evP_cv {k : IntKind} {a : A} : evP E (.cv k a) = cvD k (ev E a) := by
  simp only [evP]; cases ev E a <;> rfl
theorem cvD_i {k k' : IntKind} {n : Int} : cvD k (.i k' n) = some (.i k (k.wrap n)) := rfl
theorem evP_ln {a : A} {p : List PE} : evP E (.ln a p) = (pathD E p (ev E a)).bind lenD := rfl
theorem pathD_nil {d : D} : pathD E [] d = some d := rfl
theorem pathD_one {pe : PE} {d : D} : pathD E [pe] d = (pe.ev E).bind fun i => getP [i] d := by
  simp only [pathD, List.mapM_cons, List.mapM_nil]
  cases pe.ev E <;> rfl
theorem evP_sn {a : A} : evP E (.sn a) = snD (ev E a) := rfl
theorem evP_sx {a i : A} : evP E (.sx a i) = sxD (ev E a) (ev E i) := rfl
theorem evP_ss {a : A} {lo hi : Option A} : evP E (.ss a lo hi) = ssD (ev E a) (lo.map (ev E)) (hi.map (ev E)) := rfl
theorem evP_ix {a i : A} : evP E (.ix a [] i) = ixD (ev E a) (ev E i) := rfl
theorem evP_ixp {a i : A} {p : List PE} : evP E (.ix a p i) = (pathD E p (ev E a)).bind fun d => ixD d (ev E i) := rfl
theorem evP_iy {a i : A} : evP E (.iy a i) = (ixD (ev E a) (ev E i)).bind flatD := rfl
def upD (is : Option (List Nat)) (d x : D) : Option D := if x.one = true then is.bind fun is => setP is d x else none
theorem evP_up {n : Nat} {p : List PE} {a : A} : evP E (.up n p a) = upD (p.mapM (PE.ev E)) (E n) (ev E a) := rfl
theorem pes_one {pe : PE} : [pe].mapM (PE.ev E) = (pe.ev E).map ([·]) := by
  simp only [List.mapM_cons, List.mapM_nil]; cases pe.ev E <;> rfl
theorem pes_two {pe qe : PE} : [pe, qe].mapM (PE.ev E) = (pe.ev E).bind fun i => (qe.ev E).map fun j => [i, j] := by
  simp only [List.mapM_cons, List.mapM_nil]; cases pe.ev E <;> cases qe.ev E <;> rfl
theorem pe_k {n : Nat} : PE.ev E (.k n) = some n := rfl
def natD : D → Option Nat | .i _ z => if 0 ≤ z then some z.toNat else none | _ => none
theorem pe_e {n : Nat} : PE.ev E (.e n) = natD (E n) := by
  simp only [PE.ev]; cases E n <;> rfl
theorem natD_i {k : IntKind} {z : Int} (h : 0 ≤ z) : natD (.i k z) = some z.toNat := by simp [natD, h]
theorem evP_sb {fz : Bool} {a : A} {lo hi : Option A} : evP E (.sb fz a lo hi) = subD (ev E a) (lo.map (ev E)) (hi.map (ev E)) := rfl
theorem evP_ap {fl : Bool} {a b : A} : evP E (.ap fl a b) = appD fl (ev E a) (ev E b) := rfl
theorem evP_mk {d : D} {n c : A} : evP E (.mk d n c) = mkD d (ev E n) (ev E c) := rfl
def liD (xs : List D) : Option D := if xs.all D.one = true then some (.l xs) else none
theorem evP_li {s : Sh} {xs : List A} : evP E (.li s xs) = liD (xs.map (ev E)) := rfl
theorem evP_bs {a : A} : evP E (.bs a) = bsD (ev E a) := rfl
theorem evP_sy {a : A} : evP E (.sy a) = syD (ev E a) := rfl
def mxD : D → D → Option D | .i k x, .i k' y => if k = k' then some (.i k (if y > x then y else x)) else none | _, _ => none
def mnD : D → D → Option D | .i k x, .i k' y => if k = k' then some (.i k (if y < x then y else x)) else none | _, _ => none
theorem evP_mx {a b : A} : evP E (.mx a b) = mxD (ev E a) (ev E b) := by
  simp only [evP]; cases ev E a <;> cases ev E b <;> rfl
theorem evP_mn {a b : A} : evP E (.mn a b) = mnD (ev E a) (ev E b) := by
  simp only [evP]; cases ev E a <;> cases ev E b <;> rfl
theorem mxD_n {k : IntKind} {x y : Int} : mxD (.i k x) (.i k y) = some (.i k (max x y)) := by
  simp only [mxD, if_true]; congr 2; omega
theorem mnD_n {k : IntKind} {x y : Int} : mnD (.i k x) (.i k y) = some (.i k (min x y)) := by
  simp only [mnD, if_true]; congr 2; omega
end

theorem E_nil (n : Nat) : Env.E [] n = .u := rfl
theorem E_zero (d : D) (e : Env) : Env.E (d :: e) 0 = d := rfl
theorem E_succ (d : D) (e : Env) (n : Nat) : Env.E (d :: e) (n + 1) = Env.E e n := by simp [Env.E]
theorem outE_nil {e : Env} : outE [] e = [] := rfl
theorem outE_some {n : Nat} {o : List (Option Nat)} {e : Env} : outE (some n :: o) e = e.E n :: outE o e := rfl
theorem outE_none {o : List (Option Nat)} {e : Env} : outE (none :: o) e = .u :: outE o e := rfl

section
variable {k : IntKind} {a b : Int}
theorem bin_add : binD .add (.i k a) (.i k b) = some (.i k (k.wrap (a + b))) := by simp [binD, intD]
theorem bin_sub : binD .sub (.i k a) (.i k b) = some (.i k (k.wrap (a - b))) := by simp [binD, intD]
theorem bin_mul : binD .mul (.i k a) (.i k b) = some (.i k (k.wrap (a * b))) := by simp [binD, intD]
theorem bin_quo (h : b ≠ 0) : binD .quo (.i k a) (.i k b) = some (.i k (k.wrap (a.tdiv b))) := by simp [binD, intD, h]
theorem bin_rem (h : b ≠ 0) : binD .rem (.i k a) (.i k b) = some (.i k (a.tmod b)) := by simp [binD, intD, h]
theorem bin_eql : binD .eql (.i k a) (.i k b) = some (.b (decide (a = b))) := by simp [binD, intD]; rfl
theorem bin_neq : binD .neq (.i k a) (.i k b) = some (.b (!decide (a = b))) := by
  simp only [binD, intD, if_true]; congr 2
theorem bin_lss : binD .lss (.i k a) (.i k b) = some (.b (decide (a < b))) := by simp [binD, intD]
theorem bin_leq : binD .leq (.i k a) (.i k b) = some (.b (decide (a ≤ b))) := by simp [binD, intD]
theorem bin_gtr : binD .gtr (.i k a) (.i k b) = some (.b (decide (b < a))) := by simp [binD, intD]
theorem bin_geq : binD .geq (.i k a) (.i k b) = some (.b (decide (b ≤ a))) := by simp [binD, intD]
theorem un_not {p : Bool} : unD .not (.b p) = some (.b (!p)) := rfl
theorem un_neg : unD .neg (.i k a) = some (.i k (k.wrap (0 - a))) := rfl
theorem boolD_eql {p q : Bool} : boolD .eql (.b p) (.b q) = some (.b (p == q)) := rfl
theorem boolD_neq {p q : Bool} : boolD .neq (.b p) (.b q) = some (.b (!(p == q))) := rfl
theorem str_eql {x y : List Nat} : binD .eql (.s x) (.s y) = some (.b (x == y)) := rfl
theorem str_neq {x y : List Nat} : binD .neq (.s x) (.s y) = some (.b (!(x == y))) := rfl
theorem str_add {x y : List Nat} (h : x.length + y.length ≤ 1099511627776) : binD .add (.s x) (.s y) = some (.s (x ++ y)) := by
  show strD .add x y = _; simp only [strD]; rw [if_pos (show x.length + y.length ≤ big from h)]
end

/-- What a 64-bit int holds. -/
theorem wrap_i64 {x : Int} (h : -9223372036854775808 ≤ x ∧ x ≤ 9223372036854775807) : IntKind.i64.wrap x = x := by
  obtain ⟨h1, h2⟩ := h
  have e : x % (2 ^ 64 : Int) = x % 18446744073709551616 := rfl
  by_cases h0 : 0 ≤ x
  · have h3 : x % 18446744073709551616 = x := Int.emod_eq_of_lt h0 (by omega)
    simp [IntKind.wrap, IntKind.bits, IntKind.signed, h3]; omega
  · have h3 : x % 18446744073709551616 = x + 18446744073709551616 := by omega
    simp [IntKind.wrap, IntKind.bits, IntKind.signed, h3]; omega
theorem wrap_u8 {x : Int} (h : 0 ≤ x ∧ x ≤ 255) : IntKind.u8.wrap x = x := by
  obtain ⟨h1, h2⟩ := h
  have h3 : x % 256 = x := Int.emod_eq_of_lt h1 (by omega)
  simp [IntKind.wrap, IntKind.bits, IntKind.signed, h3]

end Go.Cat
