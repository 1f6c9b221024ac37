/-
  The little language of plain data: values, operations over entries, statements, and what they compute.
  Nothing here speaks of memory: slices are lists. The tie to the model lies in CatSound.
-/
import Derived.Orders
import Derived.KernelRfl
namespace Go.Cat

/-- Plain data. 'u': nothing is known; 's': the bytes of a string; 'l': the elements of a slice; 'g': the cells of a struct; 'z', 'p': a nil pointer, a pointer to a struct's cells (only read); 'f': a function with what it captured. -/
inductive D where
  | u
  | i (k : IntKind) (n : Int)
  | b (x : Bool)
  | s (x : List Nat)
  | l (xs : List D)
  | g (xs : List D)
  | z
  | p (xs : List D)
  | f (fn : Nat) (caps : List D)

instance : Inhabited D := ⟨.u⟩

/-- A 64-bit int. -/
abbrev D.n (x : Int) : D := .i .i64 x
/-- A byte. -/
abbrev D.y (x : Nat) : D := .i .u8 x

/-- Shapes: 'v': may be read for ever, by anyone; 'y': may be read during this call; 'o s': a slice that is owned, its elements of shape s. -/
inductive Sh where
  | v
  | y
  | o (s : Sh)
  deriving DecidableEq

/-- An operand: an entry, or a constant. -/
inductive A where
  | e (n : Nat)
  | c (d : D)

/-- A step of a path: an entry that holds a number, or a number. -/
inductive PE where
  | e (n : Nat)
  | k (n : Nat)
  deriving DecidableEq

/-- The operations. Each that gives something pushes one entry ('ca', 'cf': as many as told). -/
inductive Pr where
  | nop
  | cs (s : Sh) (d : D)
  | cy (a : A)
  | bi (op : BinOp) (a b : A)
  | bb (op : BinOp) (a b : A)
  | un (op : UnOp) (a : A)
  | pk (c a b : A)
  | cv (k : IntKind) (a : A)
  | ln (a : A) (p : List PE)
  | sn (a : A)
  | sx (a i : A)
  | ss (a : A) (lo hi : Option A)
  | ix (a : A) (p : List PE) (i : A)
  | up (n : Nat) (p : List PE) (a : A)
  | sb (fz : Bool) (a : A) (lo hi : Option A)
  | ap (fl : Bool) (a b : A)
  | mk (d : D) (n c : A)
  | li (s : Sh) (xs : List A)
  | ca (g : Nat) (xs : List A) (r : Nat)
  | bs (a : A)
  | sy (a : A)
  | mx (a b : A)
  | mn (a b : A)
  | iy (a i : A)

/-- An item of a region: entries that are given up to reading first ('z'), a guard, the operation. -/
structure It where
  z : List Nat := []
  g : List (Nat × Bool) := []
  p : Pr

/-- How a statement ends. -/
inductive X where
  | n
  | ex (id : Nat)
  | r

/-- Statements. -/
inductive S where
  | skip
  | reg (its : List It) (out : List (Option Nat))
  | seq (a b : S)
  | cond (n : Nat) (x y : S)
  | block (id : Nat) (b : S)
  | loop (b : S)
  | exit (id : Nat)
  | ret

abbrev Env := List D

def ev (E : Nat → D) : A → D
  | .e n => E n
  | .c d => d

def PE.ev (E : Nat → D) : PE → Option Nat
  | .k n => some n
  | .e n => match E n with
    | .i _ z => if 0 ≤ z then some z.toNat else none
    | _ => none

def intD (op : BinOp) (k : IntKind) (a b : Int) : Option D :=
  match op with
  | .add => some (.i k (k.wrap (a + b)))
  | .sub => some (.i k (k.wrap (a - b)))
  | .mul => some (.i k (k.wrap (a * b)))
  | .quo => if b = 0 then none else some (.i k (k.wrap (a.tdiv b)))
  | .rem => if b = 0 then none else some (.i k (a.tmod b))
  | .eql => some (.b (a == b))
  | .neq => some (.b (a != b))
  | .lss => some (.b (decide (a < b)))
  | .leq => some (.b (decide (a ≤ b)))
  | .gtr => some (.b (decide (a > b)))
  | .geq => some (.b (decide (a ≥ b)))
  | .and => some (.i k (k.wrap (BitVec.ofInt k.bits a &&& BitVec.ofInt k.bits b).toNat))
  | .or => some (.i k (k.wrap (BitVec.ofInt k.bits a ||| BitVec.ofInt k.bits b).toNat))
  | .xor => some (.i k (k.wrap (BitVec.ofInt k.bits a ^^^ BitVec.ofInt k.bits b).toNat))
  | _ => none

def natLess : List Nat → List Nat → Bool
  | _, [] => false
  | [], _ :: _ => true
  | a :: x, b :: y => decide (a < b) || (a == b && natLess x y)

/-- A bound on the lengths that grow: far above what any machine holds, far below the model's own bound. -/
def big : Nat := 1099511627776

def strD (op : BinOp) (a b : List Nat) : Option D :=
  match op with
  | .add => if a.length + b.length ≤ big then some (.s (a ++ b)) else none
  | .eql => some (.b (a == b))
  | .neq => some (.b (!(a == b)))
  | .lss => some (.b (natLess a b))
  | .leq => some (.b (natLess a b || a == b))
  | .gtr => some (.b (!(natLess a b || a == b)))
  | .geq => some (.b (!(natLess a b)))
  | _ => none

def binD (op : BinOp) : D → D → Option D
  | .i k a, .i k' b =>
    match op with
    | .shl => if b < 0 then none else some (.i k (k.wrap (a * 2 ^ (min b.toNat k.bits))))
    | .shr => if b < 0 then none else some (.i k (a.fdiv (2 ^ (min b.toNat k.bits))))
    | _ => if k = k' then intD op k a b else none
  | .s a, .s b => strD op a b
  | _, _ => none

def boolD (op : BinOp) : D → D → Option D
  | .b a, .b b => match op with
    | .eql => some (.b (a == b))
    | .neq => some (.b (!(a == b)))
    | _ => none
  | _, _ => none

def unD (op : UnOp) : D → Option D
  | .b x => match op with
    | .not => some (.b (!x))
    | _ => none
  | .i k n => match op with
    | .neg => some (.i k (k.wrap (0 - n)))
    | _ => none
  | _ => none

def D.isU : D → Bool
  | .u => true
  | _ => false

def known (d : D) : Option D := if d.isU then none else some d

/-- Element i of a slice. -/
def ixD : D → D → Option D
  | .l xs, .i _ n => if 0 ≤ n then xs[n.toNat]?.bind known else none
  | _, _ => none

/-- Byte i of a string. -/
def sxD : D → D → Option D
  | .s x, .i _ n => if 0 ≤ n then x[n.toNat]?.map D.y else none
  | _, _ => none

def getP : List Nat → D → Option D
  | [], d => some d
  | i :: is, .l xs => xs[i]?.bind (getP is)
  | _ :: _, _ => none

def setP : List Nat → D → D → Option D
  | [], _, d => some d
  | i :: is, .l xs, d => (xs[i]?.bind fun x => setP is x d).map fun x' => .l (xs.set i x')
  | _ :: _, _, _ => none

def lenD : D → Option D
  | .l xs => some (.n xs.length)
  | _ => none

def snD : D → Option D
  | .s x => some (.n x.length)
  | _ => none

def bound (d : Option D) (deflt : Nat) : Option Nat :=
  match d with
  | none => some deflt
  | some (.i _ n) => if 0 ≤ n then some n.toNat else none
  | _ => none

def ssD (a : D) (lo hi : Option D) : Option D :=
  match a with
  | .s x => match bound lo 0, bound hi x.length with
    | some l, some h => if l ≤ h ∧ h ≤ x.length then some (.s ((x.take h).drop l)) else none
    | _, _ => none
  | _ => none

def subD (a : D) (lo hi : Option D) : Option D :=
  match a with
  | .l xs => match bound lo 0, bound hi xs.length with
    | some l, some h => if l ≤ h ∧ h ≤ xs.length then some (.l ((xs.take h).drop l)) else none
    | _, _ => none
  | _ => none

/-- Data that fills exactly one cell, and is known. -/
def D.one : D → Bool
  | .u => false
  | .g _ => false
  | _ => true

/-- Numbers, bools, strings. -/
def D.flat : D → Bool
  | .i _ _ => true
  | .b _ => true
  | .s _ => true
  | _ => false

def appD (fl : Bool) : D → D → Option D
  | .l xs, .l ys => if xs.length + ys.length ≤ big ∧ ys.all (if fl = true then D.flat else D.one) = true then some (.l (xs ++ ys)) else none
  | _, _ => none

def mkD (d : D) : D → D → Option D
  | .i _ n, .i _ c => if 0 ≤ n ∧ n ≤ c ∧ c ≤ (big : Int) then some (.l (List.replicate n.toNat d)) else none
  | _, _ => none

def flatD (d : D) : Option D := if d.flat = true then some d else none

def bytesOf : List D → Option (List Nat)
  | [] => some []
  | .i .u8 n :: ds => if 0 ≤ n ∧ n < 256 then (bytesOf ds).map (n.toNat :: ·) else none
  | _ :: _ => none

def bsD : D → Option D
  | .l xs => (bytesOf xs).map .s
  | _ => none

def syD : D → Option D
  | .s x => if x.length ≤ big then some (.l (x.map D.y)) else none
  | _ => none

def pathD (E : Nat → D) (p : List PE) (d : D) : Option D := (p.mapM (PE.ev E)).bind fun is => getP is d

/-- What an operation that pushes one entry, and calls nothing, gives. -/
def evP (E : Nat → D) : Pr → Option D
  | .cs _ d => some d
  | .cy a => some (ev E a)
  | .bi op a b => binD op (ev E a) (ev E b)
  | .bb op a b => boolD op (ev E a) (ev E b)
  | .un op a => unD op (ev E a)
  | .pk c a b => match ev E c with
    | .b true => some (ev E a)
    | .b false => some (ev E b)
    | _ => none
  | .cv k a => match ev E a with
    | .i _ n => some (.i k (k.wrap n))
    | _ => none
  | .ln a p => (pathD E p (ev E a)).bind lenD
  | .sn a => snD (ev E a)
  | .sx a i => sxD (ev E a) (ev E i)
  | .ss a lo hi => ssD (ev E a) (lo.map (ev E)) (hi.map (ev E))
  | .ix a p i => (pathD E p (ev E a)).bind fun d => ixD d (ev E i)
  | .up n p a => if (ev E a).one = true then (p.mapM (PE.ev E)).bind fun is => setP is (E n) (ev E a) else none
  | .sb _ a lo hi => subD (ev E a) (lo.map (ev E)) (hi.map (ev E))
  | .ap fl a b => appD fl (ev E a) (ev E b)
  | .mk d n c => mkD d (ev E n) (ev E c)
  | .iy a i => (ixD (ev E a) (ev E i)).bind flatD
  | .li _ xs => if (xs.map (ev E)).all D.one = true then some (.l (xs.map (ev E))) else none
  | .bs a => bsD (ev E a)
  | .sy a => syD (ev E a)
  | .mx a b => match ev E a, ev E b with
    | .i k x, .i k' y => if k = k' then some (.i k (if y > x then y else x)) else none
    | _, _ => none
  | .mn a b => match ev E a, ev E b with
    | .i k x, .i k' y => if k = k' then some (.i k (if y < x then y else x)) else none
    | _, _ => none
  | _ => none

/-- How many entries an operation pushes. -/
def Pr.np : Pr → Nat
  | .nop => 0
  | .ca _ _ r => r
  | _ => 1

abbrev Env.E (e : Env) : Nat → D := fun n => e.getD n .u

section
variable (K : Nat → List D → List D → Prop)

def wpPr (p : Pr) (e : Env) (Q : Env → Prop) : Prop :=
  match p with
  | .nop => Q e
  | .ca g xs r => ∃ rs : List D, K g (xs.map (ev e.E)) rs ∧ rs.length = r ∧ Q (e ++ rs)
  | p => match evP e.E p with
    | some d => Q (e ++ [d])
    | none => False

/-- Are the guards met? (Nothing, where one of them is no bool.) -/
def gdE (E : Nat → D) : List (Nat × Bool) → Option Bool
  | [] => some true
  | (n, want) :: r => match E n with
    | .b x => if x = want then gdE E r else some false
    | _ => none

def wpIt (it : It) (e : Env) (Q : Env → Prop) : Prop :=
  match gdE e.E it.g with
  | some true => wpPr K it.p e Q
  | some false => Q (e ++ List.replicate it.p.np .u)
  | none => False

def wpIts : List It → Env → (Env → Prop) → Prop
  | [], e, Q => Q e
  | it :: r, e, Q => wpIt K it e fun e1 => wpIts r e1 Q

def outE (out : List (Option Nat)) (e : Env) : Env :=
  out.map fun
    | some n => e.E n
    | none => .u

def wpLoop (R : (X → Env → Prop) → Env → Prop) : Nat → (X → Env → Prop) → Env → Prop
  | 0, _, _ => False
  | n + 1, Q, e => R (fun
    | .n, e1 => wpLoop R n Q e1
    | x, e1 => Q x e1) e

def wpS : S → (X → Env → Prop) → Env → Prop
  | .skip, Q, e => Q .n e
  | .reg its out, Q, e => wpIts K its e fun e1 => Q .n (outE out e1)
  | .seq a b, Q, e => wpS a (fun
    | .n, e1 => wpS b Q e1
    | x, e1 => Q x e1) e
  | .cond n x y, Q, e => match e.E n with
    | .b true => wpS x Q (e.set n .u)
    | .b false => wpS y Q (e.set n .u)
    | _ => False
  | .block id b, Q, e => wpS b (fun
    | .ex j, e1 => if j = id then Q .n e1 else Q (.ex j) e1
    | x, e1 => Q x e1) e
  | .loop b, Q, e => ∃ n, wpLoop (wpS b) n Q e
  | .exit id, Q, e => Q (.ex id) e
  | .ret, Q, e => Q .r e
end

end Go.Cat
