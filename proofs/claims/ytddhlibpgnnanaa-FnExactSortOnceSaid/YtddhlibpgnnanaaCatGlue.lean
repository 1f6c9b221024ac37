/-
  From a contract to a row: the law's call returns true and nothing below has turned.
-/
import Derived.Test.YtddhlibpgnnanaaCatSeat
import Derived.WalkKit
import Derived.ProofKit
import Derived.OpenShut
import Derived.Below
import Derived.Carry
namespace Go.Cat
open Go.ChangeShapes Go.WideShapes Go.ChangeAt Go.RowKit

section
variable {H : Type} {enc : TypeId × Value → H} {P : Program}
theorem post_below {f : Func} {s : ChangeSpec} {apart fresh handsOn again : Bool} {W W' : World} {args : Array Value} {v : Value} {ds gs : List (DataW H)} {before pa pv : List MemPlace}
    (hW : DataW.Whole enc P f.params.toList s.vars apart W args.toList ds gs before)
    (hres : ∀ (b : Nat) (sp : Nat → Bool) (hd : Bool), DataW.TrodAll enc P W' b sp hd f.resultTypes.toList (v.resultList f.resultTypes.size) (s.fn H (ds ++ gs)).results [])
    (hargs : ∀ sp : Nat → Bool, (∀ p ∈ before, sp p.block = true) → DataW.TrodAll enc P W' 0 sp true f.params.toList args.toList (s.fn H (ds ++ gs)).args pa)
    (hvars : ∀ sp : Nat → Bool, (∀ p ∈ before, sp p.block = true) → DataW.TrodVars enc P W' sp s.vars (s.fn H (ds ++ gs)).vars pv)
    (hps : before = pa ++ pv) (hb : Below W.heap.size W W')
    (hok : ∀ (j : Nat) (t : TypeId) (r : Value), f.resultTypes[j]? = some t → (v.resultList f.resultTypes.size)[j]? = some r → Value.okWide P W' .any 0 t r) :
    s.post enc P f apart fresh handsOn again W args v W' := by
  have hold : ∀ p ∈ before, (fun b => decide (b < W.heap.size)) p.block = true := fun p hp => by simpa using hW.lt p hp
  have hlt := hW.lt
  refine ⟨ds, gs, before, [], pa, pv, hW, hres _ _ _, hargs _ hold, hvars _ hold, World.keptBut_mono (fun p hp => ⟨hp, ?_⟩) (hb.frame (· ∈ before)), fun _ => ?_⟩
  · rw [hps, List.mem_append] at hp
    exact Or.inr hp
  · obtain ⟨_, _, _, _, _, hz, hn⟩ := hW
    refine ⟨hok, _, _, ([] ++ pa) ++ pv, ⟨[] ++ pa, pv, trodAll_append (hargs _ (fun _ _ => rfl)) (hres _ _ _), hvars _ (fun _ _ => rfl), rfl, ?_, ?_⟩, ?_⟩
    · intro b off hp
      have hp' : MemPlace.cell b off ∈ before := by rw [hps]; simpa using hp
      rw [hb.frozen (p := ⟨b, off, none⟩) (by simpa [MemPlace.block] using hlt _ hp')]
      exact hz b off hp'
    · intro ha
      have := hn ha
      rw [hps] at this
      simpa using this
    · intro p hp _
      rw [hps]
      simpa using hp
end

theorem con_bool {P : Program} {fid : Nat → Nat} {f : FuncId} {ps : List Sh} {ds : List D} (h : Con P fid f ⟨ps, [.v], []⟩ ds [.b true]) {w : World} {args : List Value}
    (ha : EachS (Own fid w.heap (· ∈ []) (fun _ => False)) ps ds args []) : Calls P f args.toArray w fun e w' => e = .returned (.bool true) ∧ Below w.heap.size w w' := by
  refine (h w (fun _ => False) args [] (by simp) (by simp) ha).mono ?_
  rintro e w' ⟨v, vs, B', rfl, ht, _, hA, h1, h2, h3, _, _, hE⟩
  simp only [Sg.outs, List.map_nil, List.append_nil] at hE
  refine ⟨?_, h1, h2, h3, hA.size, fun k hk => hA.same k hk (by simp)⟩
  match vs, hE with
  | [x], hE =>
    simp only [EachS, Own, Rd] at hE
    obtain ⟨B1, B2, rfl, ⟨_, hx⟩, _⟩ := hE
    simp only [tupled] at ht
    rw [ht, hx]

/-- A row's function as the seat knows it. -/
theorem con_row {P : Program} {tab : List Row} {k : Nat} {r : Row} {ds : List D} (h : KS P tab k ds [.b true]) (hr : rowOf tab k = some r) (hq : r.s.qs = [.v]) (hio : r.s.io = []) : Con P (fidOf tab) r.f ⟨r.s.ps, [.v], []⟩ ds [.b true] := by
  obtain ⟨r', h1, h2⟩ := h
  rw [hr] at h1
  cases h1
  rw [← hq, ← hio]
  exact h2

/-- Plain parameters. -/
def Plain : D → Value → Prop
  | .i k n, v => v = .int k n
  | .b x, v => v = .bool x
  | .s x, v => v = strV x ∧ (∀ c ∈ x, c < 256) ∧ x.length ≤ 9223372036854775807
  | _, _ => False

theorem plain_rd {fid : Nat → Nat} {h : Array Obj} {Z : Nat → Prop} {d : D} {v : Value} (p : Plain d v) : Rd fid h Z d v := by
  cases d <;> simp_all [Plain, Rd]

def Plains : List D → List Value → Prop
  | [], [] => True
  | d :: ds, v :: vs => Plain d v ∧ Plains ds vs
  | _, _ => False

theorem plains {fid : Nat → Nat} {h : Array Obj} {O X : Nat → Prop} : ∀ {ps : List Sh} {ds : List D} {vs : List Value}, ps = ds.map (fun _ => Sh.v) → Plains ds vs → EachS (Own fid h O X) ps ds vs []
  | _, [], [], hp, _ => by subst hp; simp [EachS]
  | _, d :: ds, v :: vs, hp, hq => by
    subst hp
    simp only [List.map_cons, EachS]
    exact ⟨[], [], rfl, by simp only [Own]; exact ⟨trivial, plain_rd hq.1⟩, plains rfl hq.2⟩
  | _, [], _ :: _, _, hq => by simp [Plains] at hq
  | _, _ :: _, [], _, hq => by simp [Plains] at hq

end Go.Cat
