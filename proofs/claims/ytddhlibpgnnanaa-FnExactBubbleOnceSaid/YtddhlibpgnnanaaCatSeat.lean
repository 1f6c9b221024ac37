/-
  A seat's program: its functions by their own numbers, and their contracts.
-/
import Derived.Test.YtddhlibpgnnanaaCatFun
namespace Go.Cat

/-- A function of the seat: its own number, its number in the program, its signature. -/
structure Row where
  k : Nat
  f : Nat
  s : Sg

def rowOf (tab : List Row) (k : Nat) : Option Row := tab.find? fun r => r.k == k

def fidOf (tab : List Row) (k : Nat) : Nat := match rowOf tab k with | some r => r.f | none => 0
def gofOf (tab : List Row) (f : Nat) : Option Nat := (tab.find? fun r => r.f == f).map (·.k)
def sgOf (tab : List Row) (k : Nat) : Option Sg := (rowOf tab k).map (·.s)

def entersB (P : Program) (f : Nat) : Bool := match P.funcs[f]? with
  | some fn => fn.body.isSome && fn.name != "runtime.NumGoroutine"
  | none => false

def tabOK (P : Program) (tab : List Row) : Bool := tab.all fun r => (fidOf tab r.k == r.f) && entersB P r.f

def cfOf (P : Program) (tab : List Row) (nt : Nat) (io : List Nat := []) : CF := ⟨P, fidOf tab, gofOf tab, nt, io⟩

/-- The contracts of a seat. -/
def KS (P : Program) (tab : List Row) : Nat → List D → List D → Prop := fun k ds rs => ∃ r, rowOf tab k = some r ∧ Con P (fidOf tab) r.f r.s ds rs

theorem enters {P : Program} {f : Nat} (h : entersB P f = true) (args : Array Value) (w : World) : (callFunc f args).run P w = .ok (.enter f args) w := by
  unfold entersB at h
  split at h
  · rename_i fn hf
    simp only [Bool.and_eq_true, bne_iff_ne] at h
    unfold callFunc
    rw [Sem.run_bind]
    simp only [run_program, Result.andThen, hf]
    rw [if_neg (by simpa using h.2), if_neg (by cases hb : fn.body <;> simp [hb] at h ⊢)]
    rfl
  · simp at h

theorem row_mem {tab : List Row} {k : Nat} {r : Row} (h : rowOf tab k = some r) : r ∈ tab ∧ r.k = k := by
  refine ⟨List.mem_of_find?_eq_some h, ?_⟩
  have := List.find?_some h
  simpa using this

theorem KS.sound {P : Program} {tab : List Row} {nt : Nat} {io : List Nat} (h : tabOK P tab = true) : Sound (cfOf P tab nt io) (sgOf tab) (KS P tab) := by
  simp only [tabOK, List.all_eq_true, Bool.and_eq_true] at h
  constructor
  · rintro k ds rs s ⟨r, hr, hc⟩ hs
    simp only [sgOf, hr, Option.map_some, Option.some.injEq] at hs
    subst hs
    show Con P (fidOf tab) (fidOf tab k) r.s ds rs
    simp only [fidOf, hr]
    exact hc
  · intro k s hs args w
    simp only [sgOf, Option.map_eq_some_iff] at hs
    obtain ⟨r, hr, _⟩ := hs
    show (callFunc (fidOf tab k) args).run P w = _
    have : fidOf tab k = r.f := by simp only [fidOf, hr]
    rw [show (cfOf P tab nt io).fid k = r.f from this, show fidOf tab k = r.f from this]
    exact enters (h r (row_mem hr).1).2 args w

/-- A function's contract, from its body. -/
theorem KS.of_body {P : Program} {tab : List Row} (h : tabOK P tab = true) (hm : P.follows .mixedOrders = true) {k nt : Nat} {io : List Nat} {r : Row} {vt : VT} {hl : HL} {fn : Func} {f : IF} (hr : rowOf tab k = some r)
    (ht : trF (cfOf P tab nt io) (sgOf tab) vt hl fn r.s = some f) (hfn : P.funcs[r.f]? = some fn) {ds rs : List D} (hb : Body (KS P tab) f ds rs) : KS P tab k ds rs := by
  refine ⟨r, hr, con_of_body (cf := cfOf P tab nt io) (KS.sound h) hm ?_ ht hfn hb⟩
  intro g j hg
  simp only [cfOf, gofOf, Option.map_eq_some_iff] at hg
  obtain ⟨x, hx, rfl⟩ := hg
  have h1 := List.mem_of_find?_eq_some hx
  have h2 : x.f = g := by simpa using List.find?_some hx
  simp only [tabOK, List.all_eq_true, Bool.and_eq_true] at h
  have := (h x h1).1
  show fidOf tab x.k = g
  rw [← h2]
  simpa using this

end Go.Cat
