/-
  No cell of these rows narrows 'for every input' (looked for: loops, veiled, ifaces, maps, wideKeys, modest, calm, conditions, laid).
  DERIVED. THE GIVEN ROWS OF THIS SEAT. 12 by the template 'for every input the law returns true; each argument reads behind the call as it read before'; 0 by the template 'total and deterministic' (their statements: YthbpihoafdpicaaTotals.lean).
  GIVEN WITH THE SEED: the statements are not yours to turn. If you find one false, say at which input.
  Laid BY PROGRAM, IN A SANDBOX (cutbox-rows.mjs): the forced cells as the released guide's own fill.sh prints them over the translation c5843328e309acaf… (all of the seat's roots in one cut). By AI agents, Wed Nov 11 2026. No macro, syntax, notation, axiom, sorry.
-/
import Derived.Test.YthbpihoafdpicaaChecked
import GoSem.Claim
import GoSem.ClaimJoined
import GoSem.ClaimMapViews
import Derived.JoinedTies
import Derived.KernelRfl
namespace Go.Proofs.Ythbpihoafdpicaa
/- THE CELL 'sum', in the pinned program and in every row, IS THE sha256 OF THE DUMP (.gsa) THAT YthbpihoafdpicaaProg.lean LOADS. Nothing in Lean hashes anything: it is a label: what it is worth is what the hold of that sum in a sandbox is worth. -/
noncomputable def Try.pinned : Pinned := { name := "ythbpihoafdpicaa", sum := "c5843328e309acaf6204a9b3c7e22ae7859d3ae4c7b7c29751280e56b1af54b7", checked := Try.checked }
namespace Rows
def none {H : Type} : Left H := { results := [], args := [] }

/-- 'laws.FnExactHankelOf': WHATEVER THE INPUT: true; the input reads as it did. -/
def fnExactHankelOfSpec : ChangeSpec := { name := "fnExactHankelOf", fn := fun _ => fun
  | [d1, d2, d3] => { results := [.lit (.bool true)], args := [d1, d2, d3] }
  | _ => none }
def fnExactHankelOfRow : OpenClaim := { program := "ythbpihoafdpicaa", sum := "c5843328e309acaf6204a9b3c7e22ae7859d3ae4c7b7c29751280e56b1af54b7", func := "loop.example/g03401/laws.FnExactHankelOf", spec := "fnExactHankelOf", recurses := true, apart := false }
def FnExactHankelOfSaid : Prop := fnExactHankelOfRow.holds Try.pinned (OpenSpec.ofChange fnExactHankelOfSpec)

/-- ITS FALSE NEIGHBOUR: 'it returns false'. Refute it at one input. -/
def fnExactHankelOfWrong : ChangeSpec := { name := "fnExactHankelOf", fn := fun _ => fun
  | [d1, d2, d3] => { results := [.lit (.bool false)], args := [d1, d2, d3] }
  | _ => none }
def FnExactHankelOfWrongFalsely : Prop := fnExactHankelOfRow.holds Try.pinned (OpenSpec.ofChange fnExactHankelOfWrong)

/-- 'laws.FnExactDyckOfCircle': WHATEVER THE INPUT: true; the input reads as it did. -/
def fnExactDyckOfCircleSpec : ChangeSpec := { name := "fnExactDyckOfCircle", fn := fun _ => fun
  | [d] => { results := [.lit (.bool true)], args := [d] }
  | _ => none }
def fnExactDyckOfCircleRow : OpenClaim := { program := "ythbpihoafdpicaa", sum := "c5843328e309acaf6204a9b3c7e22ae7859d3ae4c7b7c29751280e56b1af54b7", func := "loop.example/g03401/laws.FnExactDyckOfCircle", spec := "fnExactDyckOfCircle", apart := false }
def FnExactDyckOfCircleSaid : Prop := fnExactDyckOfCircleRow.holds Try.pinned (OpenSpec.ofChange fnExactDyckOfCircleSpec)

/-- ITS FALSE NEIGHBOUR: 'it returns false'. Refute it at one input. -/
def fnExactDyckOfCircleWrong : ChangeSpec := { name := "fnExactDyckOfCircle", fn := fun _ => fun
  | [d] => { results := [.lit (.bool false)], args := [d] }
  | _ => none }
def FnExactDyckOfCircleWrongFalsely : Prop := fnExactDyckOfCircleRow.holds Try.pinned (OpenSpec.ofChange fnExactDyckOfCircleWrong)

/-- 'laws.FnExactIsSortable': WHATEVER THE INPUT: true; the input reads as it did. -/
def fnExactIsSortableSpec : ChangeSpec := { name := "fnExactIsSortable", fn := fun _ => fun
  | [d] => { results := [.lit (.bool true)], args := [d] }
  | _ => none }
def fnExactIsSortableRow : OpenClaim := { program := "ythbpihoafdpicaa", sum := "c5843328e309acaf6204a9b3c7e22ae7859d3ae4c7b7c29751280e56b1af54b7", func := "loop.example/g03401/laws.FnExactIsSortable", spec := "fnExactIsSortable", apart := false }
def FnExactIsSortableSaid : Prop := fnExactIsSortableRow.holds Try.pinned (OpenSpec.ofChange fnExactIsSortableSpec)

/-- ITS FALSE NEIGHBOUR: 'it returns false'. Refute it at one input. -/
def fnExactIsSortableWrong : ChangeSpec := { name := "fnExactIsSortable", fn := fun _ => fun
  | [d] => { results := [.lit (.bool false)], args := [d] }
  | _ => none }
def FnExactIsSortableWrongFalsely : Prop := fnExactIsSortableRow.holds Try.pinned (OpenSpec.ofChange fnExactIsSortableWrong)

/-- 'laws.FnExactReversionOf': WHATEVER THE INPUT: true; the input reads as it did. -/
def fnExactReversionOfSpec : ChangeSpec := { name := "fnExactReversionOf", fn := fun _ => fun
  | [d] => { results := [.lit (.bool true)], args := [d] }
  | _ => none }
def fnExactReversionOfRow : OpenClaim := { program := "ythbpihoafdpicaa", sum := "c5843328e309acaf6204a9b3c7e22ae7859d3ae4c7b7c29751280e56b1af54b7", func := "loop.example/g03401/laws.FnExactReversionOf", spec := "fnExactReversionOf", apart := false }
def FnExactReversionOfSaid : Prop := fnExactReversionOfRow.holds Try.pinned (OpenSpec.ofChange fnExactReversionOfSpec)

/-- ITS FALSE NEIGHBOUR: 'it returns false'. Refute it at one input. -/
def fnExactReversionOfWrong : ChangeSpec := { name := "fnExactReversionOf", fn := fun _ => fun
  | [d] => { results := [.lit (.bool false)], args := [d] }
  | _ => none }
def FnExactReversionOfWrongFalsely : Prop := fnExactReversionOfRow.holds Try.pinned (OpenSpec.ofChange fnExactReversionOfWrong)

/-- 'laws.FnExactPassesOf': WHATEVER THE INPUT: true; the input reads as it did. -/
def fnExactPassesOfSpec : ChangeSpec := { name := "fnExactPassesOf", fn := fun _ => fun
  | [d] => { results := [.lit (.bool true)], args := [d] }
  | _ => none }
def fnExactPassesOfRow : OpenClaim := { program := "ythbpihoafdpicaa", sum := "c5843328e309acaf6204a9b3c7e22ae7859d3ae4c7b7c29751280e56b1af54b7", func := "loop.example/g03401/laws.FnExactPassesOf", spec := "fnExactPassesOf", apart := false }
def FnExactPassesOfSaid : Prop := fnExactPassesOfRow.holds Try.pinned (OpenSpec.ofChange fnExactPassesOfSpec)

/-- ITS FALSE NEIGHBOUR: 'it returns false'. Refute it at one input. -/
def fnExactPassesOfWrong : ChangeSpec := { name := "fnExactPassesOf", fn := fun _ => fun
  | [d] => { results := [.lit (.bool false)], args := [d] }
  | _ => none }
def FnExactPassesOfWrongFalsely : Prop := fnExactPassesOfRow.holds Try.pinned (OpenSpec.ofChange fnExactPassesOfWrong)

/-- 'laws.FnExactReflectBad': WHATEVER THE INPUT: true; the input reads as it did. -/
def fnExactReflectBadSpec : ChangeSpec := { name := "fnExactReflectBad", fn := fun _ => fun
  | [d] => { results := [.lit (.bool true)], args := [d] }
  | _ => none }
def fnExactReflectBadRow : OpenClaim := { program := "ythbpihoafdpicaa", sum := "c5843328e309acaf6204a9b3c7e22ae7859d3ae4c7b7c29751280e56b1af54b7", func := "loop.example/g03401/laws.FnExactReflectBad", spec := "fnExactReflectBad", apart := false }
def FnExactReflectBadSaid : Prop := fnExactReflectBadRow.holds Try.pinned (OpenSpec.ofChange fnExactReflectBadSpec)

/-- ITS FALSE NEIGHBOUR: 'it returns false'. Refute it at one input. -/
def fnExactReflectBadWrong : ChangeSpec := { name := "fnExactReflectBad", fn := fun _ => fun
  | [d] => { results := [.lit (.bool false)], args := [d] }
  | _ => none }
def FnExactReflectBadWrongFalsely : Prop := fnExactReflectBadRow.holds Try.pinned (OpenSpec.ofChange fnExactReflectBadWrong)

/-- 'laws.FnExactOutputOf': WHATEVER THE INPUT: true; the input reads as it did. -/
def fnExactOutputOfSpec : ChangeSpec := { name := "fnExactOutputOf", fn := fun _ => fun
  | [d1, d2] => { results := [.lit (.bool true)], args := [d1, d2] }
  | _ => none }
def fnExactOutputOfRow : OpenClaim := { program := "ythbpihoafdpicaa", sum := "c5843328e309acaf6204a9b3c7e22ae7859d3ae4c7b7c29751280e56b1af54b7", func := "loop.example/g03401/laws.FnExactOutputOf", spec := "fnExactOutputOf", apart := false }
def FnExactOutputOfSaid : Prop := fnExactOutputOfRow.holds Try.pinned (OpenSpec.ofChange fnExactOutputOfSpec)

/-- ITS FALSE NEIGHBOUR: 'it returns false'. Refute it at one input. -/
def fnExactOutputOfWrong : ChangeSpec := { name := "fnExactOutputOf", fn := fun _ => fun
  | [d1, d2] => { results := [.lit (.bool false)], args := [d1, d2] }
  | _ => none }
def FnExactOutputOfWrongFalsely : Prop := fnExactOutputOfRow.holds Try.pinned (OpenSpec.ofChange fnExactOutputOfWrong)

/-- 'laws.FnExactCountSortable': WHATEVER THE INPUT: true; the input reads as it did. -/
def fnExactCountSortableSpec : ChangeSpec := { name := "fnExactCountSortable", fn := fun _ => fun
  | [d1, d2] => { results := [.lit (.bool true)], args := [d1, d2] }
  | _ => none }
def fnExactCountSortableRow : OpenClaim := { program := "ythbpihoafdpicaa", sum := "c5843328e309acaf6204a9b3c7e22ae7859d3ae4c7b7c29751280e56b1af54b7", func := "loop.example/g03401/laws.FnExactCountSortable", spec := "fnExactCountSortable", unfollowed := true, recurses := true, apart := false }
def FnExactCountSortableSaid : Prop := fnExactCountSortableRow.holds Try.pinned (OpenSpec.ofChange fnExactCountSortableSpec)

/-- ITS FALSE NEIGHBOUR: 'it returns false'. Refute it at one input. -/
def fnExactCountSortableWrong : ChangeSpec := { name := "fnExactCountSortable", fn := fun _ => fun
  | [d1, d2] => { results := [.lit (.bool false)], args := [d1, d2] }
  | _ => none }
def FnExactCountSortableWrongFalsely : Prop := fnExactCountSortableRow.holds Try.pinned (OpenSpec.ofChange fnExactCountSortableWrong)

/-- 'laws.FnExactFriezeLine': WHATEVER THE INPUT: true; the input reads as it did. -/
def fnExactFriezeLineSpec : ChangeSpec := { name := "fnExactFriezeLine", fn := fun _ => fun
  | [d] => { results := [.lit (.bool true)], args := [d] }
  | _ => none }
def fnExactFriezeLineRow : OpenClaim := { program := "ythbpihoafdpicaa", sum := "c5843328e309acaf6204a9b3c7e22ae7859d3ae4c7b7c29751280e56b1af54b7", func := "loop.example/g03401/laws.FnExactFriezeLine", spec := "fnExactFriezeLine", apart := false }
def FnExactFriezeLineSaid : Prop := fnExactFriezeLineRow.holds Try.pinned (OpenSpec.ofChange fnExactFriezeLineSpec)

/-- ITS FALSE NEIGHBOUR: 'it returns false'. Refute it at one input. -/
def fnExactFriezeLineWrong : ChangeSpec := { name := "fnExactFriezeLine", fn := fun _ => fun
  | [d] => { results := [.lit (.bool false)], args := [d] }
  | _ => none }
def FnExactFriezeLineWrongFalsely : Prop := fnExactFriezeLineRow.holds Try.pinned (OpenSpec.ofChange fnExactFriezeLineWrong)

/-- 'laws.FnExactEqualClaims': WHATEVER THE INPUT: true; the input reads as it did. -/
def fnExactEqualClaimsSpec : ChangeSpec := { name := "fnExactEqualClaims", fn := fun _ => fun
  | [d1, d2] => { results := [.lit (.bool true)], args := [d1, d2] }
  | _ => none }
def fnExactEqualClaimsRow : OpenClaim := { program := "ythbpihoafdpicaa", sum := "c5843328e309acaf6204a9b3c7e22ae7859d3ae4c7b7c29751280e56b1af54b7", func := "loop.example/g03401/laws.FnExactEqualClaims", spec := "fnExactEqualClaims", unfollowed := true, recurses := true, apart := false }
def FnExactEqualClaimsSaid : Prop := fnExactEqualClaimsRow.holds Try.pinned (OpenSpec.ofChange fnExactEqualClaimsSpec)

/-- ITS FALSE NEIGHBOUR: 'it returns false'. Refute it at one input. -/
def fnExactEqualClaimsWrong : ChangeSpec := { name := "fnExactEqualClaims", fn := fun _ => fun
  | [d1, d2] => { results := [.lit (.bool false)], args := [d1, d2] }
  | _ => none }
def FnExactEqualClaimsWrongFalsely : Prop := fnExactEqualClaimsRow.holds Try.pinned (OpenSpec.ofChange fnExactEqualClaimsWrong)

/-- 'laws.FnExactClaimOfSorting': WHATEVER THE INPUT: true; the input reads as it did. -/
def fnExactClaimOfSortingSpec : ChangeSpec := { name := "fnExactClaimOfSorting", fn := fun _ => fun
  | [d] => { results := [.lit (.bool true)], args := [d] }
  | _ => none }
def fnExactClaimOfSortingRow : OpenClaim := { program := "ythbpihoafdpicaa", sum := "c5843328e309acaf6204a9b3c7e22ae7859d3ae4c7b7c29751280e56b1af54b7", func := "loop.example/g03401/laws.FnExactClaimOfSorting", spec := "fnExactClaimOfSorting", unfollowed := true, recurses := true, apart := false }
def FnExactClaimOfSortingSaid : Prop := fnExactClaimOfSortingRow.holds Try.pinned (OpenSpec.ofChange fnExactClaimOfSortingSpec)

/-- ITS FALSE NEIGHBOUR: 'it returns false'. Refute it at one input. -/
def fnExactClaimOfSortingWrong : ChangeSpec := { name := "fnExactClaimOfSorting", fn := fun _ => fun
  | [d] => { results := [.lit (.bool false)], args := [d] }
  | _ => none }
def FnExactClaimOfSortingWrongFalsely : Prop := fnExactClaimOfSortingRow.holds Try.pinned (OpenSpec.ofChange fnExactClaimOfSortingWrong)

/-- 'laws.FnExactTreeLine': WHATEVER THE INPUT: true; the input reads as it did. -/
def fnExactTreeLineSpec : ChangeSpec := { name := "fnExactTreeLine", fn := fun _ => fun
  | [d] => { results := [.lit (.bool true)], args := [d] }
  | _ => none }
def fnExactTreeLineRow : OpenClaim := { program := "ythbpihoafdpicaa", sum := "c5843328e309acaf6204a9b3c7e22ae7859d3ae4c7b7c29751280e56b1af54b7", func := "loop.example/g03401/laws.FnExactTreeLine", spec := "fnExactTreeLine", unfollowed := true, recurses := true, apart := false }
def FnExactTreeLineSaid : Prop := fnExactTreeLineRow.holds Try.pinned (OpenSpec.ofChange fnExactTreeLineSpec)

/-- ITS FALSE NEIGHBOUR: 'it returns false'. Refute it at one input. -/
def fnExactTreeLineWrong : ChangeSpec := { name := "fnExactTreeLine", fn := fun _ => fun
  | [d] => { results := [.lit (.bool false)], args := [d] }
  | _ => none }
def FnExactTreeLineWrongFalsely : Prop := fnExactTreeLineRow.holds Try.pinned (OpenSpec.ofChange fnExactTreeLineWrong)

/- THE SECOND FORM. 'bulk': how many values and letters a reading holds, each counted each time it is reached (what is shared counts as often as it is met; a slice's spare places count too). A statement '..UptoSaid' is the law's where the arguments, and the package variables that the reading takes, are together of bulk at most 1048576: NARROWER than '..Said'. Prove '..Said' where nothing that the law and all that it calls make is longer than what came in: it says more and counts as full. Else prove '..UptoSaid'. A law counts once. -/
mutual
def uptoBulk {H : Type} : DataW H → Nat
  | .lit (.string bytes) => bytes.length + 1
  | .lit _ => 1
  | .nil => 1
  | .ptr d => uptoBulk d + 1
  | .slice elems spare => uptoBulkAll elems + uptoBulkAll spare + 1
  | .agg parts => uptoBulkAll parts + 1
  | .iface _ d => uptoBulk d + 1
  | .map entries => uptoBulkEntries entries + 1
  | .held _ => 1
def uptoBulkAll {H : Type} : List (DataW H) → Nat
  | [] => 0
  | d :: r => uptoBulk d + uptoBulkAll r
def uptoBulkEntries {H : Type} : List (Lit × DataW H) → Nat
  | [] => 0
  | x :: r => uptoBulkEntry x + uptoBulkEntries r
def uptoBulkEntry {H : Type} : Lit × DataW H → Nat
  | (.string bytes, d) => bytes.length + uptoBulk d + 1
  | (_, d) => uptoBulk d + 1
 end
def uptoSmall : (H : Type) → List (DataW H) → Bool := fun _ ds => decide (uptoBulkAll ds ≤ 1048576)
def OpenSpec.upto (s : _root_.Go.ChangeSpec) : _root_.Go.OpenSpec := { _root_.Go.OpenSpec.ofChange s with cond := some uptoSmall }

/-- 'laws.FnExactHankelOf', WHERE WHAT IT READS IS OF BULK AT MOST 1048576: true; the input reads as it did. -/
def fnExactHankelOfUptoRow : OpenClaim := { program := "ythbpihoafdpicaa", sum := "c5843328e309acaf6204a9b3c7e22ae7859d3ae4c7b7c29751280e56b1af54b7", func := "loop.example/g03401/laws.FnExactHankelOf", spec := "fnExactHankelOf", recurses := true, apart := false, narrowed := true }
def FnExactHankelOfUptoSaid : Prop := fnExactHankelOfUptoRow.holds Try.pinned (OpenSpec.upto fnExactHankelOfSpec)

/-- 'laws.FnExactDyckOfCircle', WHERE WHAT IT READS IS OF BULK AT MOST 1048576: true; the input reads as it did. -/
def fnExactDyckOfCircleUptoRow : OpenClaim := { program := "ythbpihoafdpicaa", sum := "c5843328e309acaf6204a9b3c7e22ae7859d3ae4c7b7c29751280e56b1af54b7", func := "loop.example/g03401/laws.FnExactDyckOfCircle", spec := "fnExactDyckOfCircle", apart := false, narrowed := true }
def FnExactDyckOfCircleUptoSaid : Prop := fnExactDyckOfCircleUptoRow.holds Try.pinned (OpenSpec.upto fnExactDyckOfCircleSpec)

/-- 'laws.FnExactIsSortable', WHERE WHAT IT READS IS OF BULK AT MOST 1048576: true; the input reads as it did. -/
def fnExactIsSortableUptoRow : OpenClaim := { program := "ythbpihoafdpicaa", sum := "c5843328e309acaf6204a9b3c7e22ae7859d3ae4c7b7c29751280e56b1af54b7", func := "loop.example/g03401/laws.FnExactIsSortable", spec := "fnExactIsSortable", apart := false, narrowed := true }
def FnExactIsSortableUptoSaid : Prop := fnExactIsSortableUptoRow.holds Try.pinned (OpenSpec.upto fnExactIsSortableSpec)

/-- 'laws.FnExactReversionOf', WHERE WHAT IT READS IS OF BULK AT MOST 1048576: true; the input reads as it did. -/
def fnExactReversionOfUptoRow : OpenClaim := { program := "ythbpihoafdpicaa", sum := "c5843328e309acaf6204a9b3c7e22ae7859d3ae4c7b7c29751280e56b1af54b7", func := "loop.example/g03401/laws.FnExactReversionOf", spec := "fnExactReversionOf", apart := false, narrowed := true }
def FnExactReversionOfUptoSaid : Prop := fnExactReversionOfUptoRow.holds Try.pinned (OpenSpec.upto fnExactReversionOfSpec)

/-- 'laws.FnExactPassesOf', WHERE WHAT IT READS IS OF BULK AT MOST 1048576: true; the input reads as it did. -/
def fnExactPassesOfUptoRow : OpenClaim := { program := "ythbpihoafdpicaa", sum := "c5843328e309acaf6204a9b3c7e22ae7859d3ae4c7b7c29751280e56b1af54b7", func := "loop.example/g03401/laws.FnExactPassesOf", spec := "fnExactPassesOf", apart := false, narrowed := true }
def FnExactPassesOfUptoSaid : Prop := fnExactPassesOfUptoRow.holds Try.pinned (OpenSpec.upto fnExactPassesOfSpec)

/-- 'laws.FnExactReflectBad', WHERE WHAT IT READS IS OF BULK AT MOST 1048576: true; the input reads as it did. -/
def fnExactReflectBadUptoRow : OpenClaim := { program := "ythbpihoafdpicaa", sum := "c5843328e309acaf6204a9b3c7e22ae7859d3ae4c7b7c29751280e56b1af54b7", func := "loop.example/g03401/laws.FnExactReflectBad", spec := "fnExactReflectBad", apart := false, narrowed := true }
def FnExactReflectBadUptoSaid : Prop := fnExactReflectBadUptoRow.holds Try.pinned (OpenSpec.upto fnExactReflectBadSpec)

/-- 'laws.FnExactOutputOf', WHERE WHAT IT READS IS OF BULK AT MOST 1048576: true; the input reads as it did. -/
def fnExactOutputOfUptoRow : OpenClaim := { program := "ythbpihoafdpicaa", sum := "c5843328e309acaf6204a9b3c7e22ae7859d3ae4c7b7c29751280e56b1af54b7", func := "loop.example/g03401/laws.FnExactOutputOf", spec := "fnExactOutputOf", apart := false, narrowed := true }
def FnExactOutputOfUptoSaid : Prop := fnExactOutputOfUptoRow.holds Try.pinned (OpenSpec.upto fnExactOutputOfSpec)

/-- 'laws.FnExactCountSortable', WHERE WHAT IT READS IS OF BULK AT MOST 1048576: true; the input reads as it did. -/
def fnExactCountSortableUptoRow : OpenClaim := { program := "ythbpihoafdpicaa", sum := "c5843328e309acaf6204a9b3c7e22ae7859d3ae4c7b7c29751280e56b1af54b7", func := "loop.example/g03401/laws.FnExactCountSortable", spec := "fnExactCountSortable", unfollowed := true, recurses := true, apart := false, narrowed := true }
def FnExactCountSortableUptoSaid : Prop := fnExactCountSortableUptoRow.holds Try.pinned (OpenSpec.upto fnExactCountSortableSpec)

/-- 'laws.FnExactFriezeLine', WHERE WHAT IT READS IS OF BULK AT MOST 1048576: true; the input reads as it did. -/
def fnExactFriezeLineUptoRow : OpenClaim := { program := "ythbpihoafdpicaa", sum := "c5843328e309acaf6204a9b3c7e22ae7859d3ae4c7b7c29751280e56b1af54b7", func := "loop.example/g03401/laws.FnExactFriezeLine", spec := "fnExactFriezeLine", apart := false, narrowed := true }
def FnExactFriezeLineUptoSaid : Prop := fnExactFriezeLineUptoRow.holds Try.pinned (OpenSpec.upto fnExactFriezeLineSpec)

/-- 'laws.FnExactEqualClaims', WHERE WHAT IT READS IS OF BULK AT MOST 1048576: true; the input reads as it did. -/
def fnExactEqualClaimsUptoRow : OpenClaim := { program := "ythbpihoafdpicaa", sum := "c5843328e309acaf6204a9b3c7e22ae7859d3ae4c7b7c29751280e56b1af54b7", func := "loop.example/g03401/laws.FnExactEqualClaims", spec := "fnExactEqualClaims", unfollowed := true, recurses := true, apart := false, narrowed := true }
def FnExactEqualClaimsUptoSaid : Prop := fnExactEqualClaimsUptoRow.holds Try.pinned (OpenSpec.upto fnExactEqualClaimsSpec)

/-- 'laws.FnExactClaimOfSorting', WHERE WHAT IT READS IS OF BULK AT MOST 1048576: true; the input reads as it did. -/
def fnExactClaimOfSortingUptoRow : OpenClaim := { program := "ythbpihoafdpicaa", sum := "c5843328e309acaf6204a9b3c7e22ae7859d3ae4c7b7c29751280e56b1af54b7", func := "loop.example/g03401/laws.FnExactClaimOfSorting", spec := "fnExactClaimOfSorting", unfollowed := true, recurses := true, apart := false, narrowed := true }
def FnExactClaimOfSortingUptoSaid : Prop := fnExactClaimOfSortingUptoRow.holds Try.pinned (OpenSpec.upto fnExactClaimOfSortingSpec)

/-- 'laws.FnExactTreeLine', WHERE WHAT IT READS IS OF BULK AT MOST 1048576: true; the input reads as it did. -/
def fnExactTreeLineUptoRow : OpenClaim := { program := "ythbpihoafdpicaa", sum := "c5843328e309acaf6204a9b3c7e22ae7859d3ae4c7b7c29751280e56b1af54b7", func := "loop.example/g03401/laws.FnExactTreeLine", spec := "fnExactTreeLine", unfollowed := true, recurses := true, apart := false, narrowed := true }
def FnExactTreeLineUptoSaid : Prop := fnExactTreeLineUptoRow.holds Try.pinned (OpenSpec.upto fnExactTreeLineSpec)

end Rows
end Go.Proofs.Ythbpihoafdpicaa
