/-
  No cell of these rows narrows 'for every input' (looked for: loops, veiled, ifaces, maps, wideKeys, modest, calm, conditions, laid).
  DERIVED. THE GIVEN ROWS OF THIS SEAT. 6 by the template 'for every input the law returns true; each argument reads behind the call as it read before'; 0 by the template 'total and deterministic' (their statements: YtnlhpohgpmmiiaaTotals.lean).
  GIVEN WITH THE SEED: the statements are not yours to turn. If you find one false, say at which input.
  Laid BY PROGRAM, IN A SANDBOX (cutbox-rows.mjs): the forced cells as the released guide's own fill.sh prints them over the translation 37303370c796d6a3… (all of the seat's roots in one cut). By AI agents, Wed Nov 11 2026. No macro, syntax, notation, axiom, sorry.
-/
import Derived.Test.YtnlhpohgpmmiiaaChecked
import GoSem.Claim
import GoSem.ClaimJoined
import GoSem.ClaimMapViews
import Derived.JoinedTies
import Derived.KernelRfl
namespace Go.Proofs.Ytnlhpohgpmmiiaa
/- THE CELL 'sum', in the pinned program and in every row, IS THE sha256 OF THE DUMP (.gsa) THAT YtnlhpohgpmmiiaaProg.lean LOADS. Nothing in Lean hashes anything: it is a label: what it is worth is what the hold of that sum in a sandbox is worth. -/
noncomputable def Try.pinned : Pinned := { name := "ytnlhpohgpmmiiaa", sum := "37303370c796d6a3baa868357207cafdb411a8663c62470e6d1c5f43aad71eaa", checked := Try.checked }
namespace Rows
def none {H : Type} : Left H := { results := [], args := [] }

/-- 'laws.FnExactClaimWord': WHATEVER THE INPUT: true; the input reads as it did. -/
def fnExactClaimWordSpec : ChangeSpec := { name := "fnExactClaimWord", fn := fun _ => fun
  | [d] => { results := [.lit (.bool true)], args := [d] }
  | _ => none }
def fnExactClaimWordRow : OpenClaim := { program := "ytnlhpohgpmmiiaa", sum := "37303370c796d6a3baa868357207cafdb411a8663c62470e6d1c5f43aad71eaa", func := "loop.example/g03401/laws.FnExactClaimWord", spec := "fnExactClaimWord", apart := false }
def FnExactClaimWordSaid : Prop := fnExactClaimWordRow.holds Try.pinned (OpenSpec.ofChange fnExactClaimWordSpec)

/-- ITS FALSE NEIGHBOUR: 'it returns false'. Refute it at one input. -/
def fnExactClaimWordWrong : ChangeSpec := { name := "fnExactClaimWord", fn := fun _ => fun
  | [d] => { results := [.lit (.bool false)], args := [d] }
  | _ => none }
def FnExactClaimWordWrongFalsely : Prop := fnExactClaimWordRow.holds Try.pinned (OpenSpec.ofChange fnExactClaimWordWrong)

/-- 'laws.FnExactCountWords': WHATEVER THE INPUT: true; the input reads as it did. -/
def fnExactCountWordsSpec : ChangeSpec := { name := "fnExactCountWords", fn := fun _ => fun
  | [d1, d2] => { results := [.lit (.bool true)], args := [d1, d2] }
  | _ => none }
def fnExactCountWordsRow : OpenClaim := { program := "ytnlhpohgpmmiiaa", sum := "37303370c796d6a3baa868357207cafdb411a8663c62470e6d1c5f43aad71eaa", func := "loop.example/g03401/laws.FnExactCountWords", spec := "fnExactCountWords", apart := false }
def FnExactCountWordsSaid : Prop := fnExactCountWordsRow.holds Try.pinned (OpenSpec.ofChange fnExactCountWordsSpec)

/-- ITS FALSE NEIGHBOUR: 'it returns false'. Refute it at one input. -/
def fnExactCountWordsWrong : ChangeSpec := { name := "fnExactCountWords", fn := fun _ => fun
  | [d1, d2] => { results := [.lit (.bool false)], args := [d1, d2] }
  | _ => none }
def FnExactCountWordsWrongFalsely : Prop := fnExactCountWordsRow.holds Try.pinned (OpenSpec.ofChange fnExactCountWordsWrong)

/-- 'laws.FnExactCountWithin': WHATEVER THE INPUT: true; the input reads as it did. -/
def fnExactCountWithinSpec : ChangeSpec := { name := "fnExactCountWithin", fn := fun _ => fun
  | [d1, d2] => { results := [.lit (.bool true)], args := [d1, d2] }
  | _ => none }
def fnExactCountWithinRow : OpenClaim := { program := "ytnlhpohgpmmiiaa", sum := "37303370c796d6a3baa868357207cafdb411a8663c62470e6d1c5f43aad71eaa", func := "loop.example/g03401/laws.FnExactCountWithin", spec := "fnExactCountWithin", apart := false }
def FnExactCountWithinSaid : Prop := fnExactCountWithinRow.holds Try.pinned (OpenSpec.ofChange fnExactCountWithinSpec)

/-- ITS FALSE NEIGHBOUR: 'it returns false'. Refute it at one input. -/
def fnExactCountWithinWrong : ChangeSpec := { name := "fnExactCountWithin", fn := fun _ => fun
  | [d1, d2] => { results := [.lit (.bool false)], args := [d1, d2] }
  | _ => none }
def FnExactCountWithinWrongFalsely : Prop := fnExactCountWithinRow.holds Try.pinned (OpenSpec.ofChange fnExactCountWithinWrong)

/-- 'laws.FnExactKindNames': WHATEVER THE INPUT: true; the input reads as it did. -/
def fnExactKindNamesSpec : ChangeSpec := { name := "fnExactKindNames", fn := fun _ => fun
  | [] => { results := [.lit (.bool true)], args := [] }
  | _ => none }
def fnExactKindNamesRow : OpenClaim := { program := "ytnlhpohgpmmiiaa", sum := "37303370c796d6a3baa868357207cafdb411a8663c62470e6d1c5f43aad71eaa", func := "loop.example/g03401/laws.FnExactKindNames", spec := "fnExactKindNames", apart := false }
def FnExactKindNamesSaid : Prop := fnExactKindNamesRow.holds Try.pinned (OpenSpec.ofChange fnExactKindNamesSpec)

/-- ITS FALSE NEIGHBOUR: 'it returns false'. Refute it at one input. -/
def fnExactKindNamesWrong : ChangeSpec := { name := "fnExactKindNames", fn := fun _ => fun
  | [] => { results := [.lit (.bool false)], args := [] }
  | _ => none }
def FnExactKindNamesWrongFalsely : Prop := fnExactKindNamesRow.holds Try.pinned (OpenSpec.ofChange fnExactKindNamesWrong)

/-- 'laws.FnExactBallotByReflection': WHATEVER THE INPUT: true; the input reads as it did. -/
def fnExactBallotByReflectionSpec : ChangeSpec := { name := "fnExactBallotByReflection", fn := fun _ => fun
  | [d1, d2] => { results := [.lit (.bool true)], args := [d1, d2] }
  | _ => none }
def fnExactBallotByReflectionRow : OpenClaim := { program := "ytnlhpohgpmmiiaa", sum := "37303370c796d6a3baa868357207cafdb411a8663c62470e6d1c5f43aad71eaa", func := "loop.example/g03401/laws.FnExactBallotByReflection", spec := "fnExactBallotByReflection", apart := false }
def FnExactBallotByReflectionSaid : Prop := fnExactBallotByReflectionRow.holds Try.pinned (OpenSpec.ofChange fnExactBallotByReflectionSpec)

/-- ITS FALSE NEIGHBOUR: 'it returns false'. Refute it at one input. -/
def fnExactBallotByReflectionWrong : ChangeSpec := { name := "fnExactBallotByReflection", fn := fun _ => fun
  | [d1, d2] => { results := [.lit (.bool false)], args := [d1, d2] }
  | _ => none }
def FnExactBallotByReflectionWrongFalsely : Prop := fnExactBallotByReflectionRow.holds Try.pinned (OpenSpec.ofChange fnExactBallotByReflectionWrong)

/-- 'laws.FnExactCountBad': WHATEVER THE INPUT: true; the input reads as it did. -/
def fnExactCountBadSpec : ChangeSpec := { name := "fnExactCountBad", fn := fun _ => fun
  | [d] => { results := [.lit (.bool true)], args := [d] }
  | _ => none }
def fnExactCountBadRow : OpenClaim := { program := "ytnlhpohgpmmiiaa", sum := "37303370c796d6a3baa868357207cafdb411a8663c62470e6d1c5f43aad71eaa", func := "loop.example/g03401/laws.FnExactCountBad", spec := "fnExactCountBad", apart := false }
def FnExactCountBadSaid : Prop := fnExactCountBadRow.holds Try.pinned (OpenSpec.ofChange fnExactCountBadSpec)

/-- ITS FALSE NEIGHBOUR: 'it returns false'. Refute it at one input. -/
def fnExactCountBadWrong : ChangeSpec := { name := "fnExactCountBad", fn := fun _ => fun
  | [d] => { results := [.lit (.bool false)], args := [d] }
  | _ => none }
def FnExactCountBadWrongFalsely : Prop := fnExactCountBadRow.holds Try.pinned (OpenSpec.ofChange fnExactCountBadWrong)

/- THE SECOND FORM. 'bulk': how many values and letters a reading holds, each counted each time it is reached (what is shared counts as often as it is met; a slice's spare places count too). A statement '..UptoSaid' is the law's where the arguments, and the package variables that the reading takes, are together of bulk at most 1048576: NARROWER than '..Said'. Prove '..Said' where nothing that the law and all that it calls make is longer than what came in: it says more and counts as full. Else prove '..UptoSaid'. A law counts once. -/
mutual
def uptoBulk {H : Type} : DataW H → Nat
  | .lit (.string bytes) => bytes.length + 1
  | .lit _ => 1
  | .nil => 1
  | .ptr d => uptoBulk d + 1
  | .slice elems spare => uptoBulkAll elems + uptoBulkAll spare + 1
  | .agg parts => uptoBulkAll parts + 1
  | .iface _ d => uptoBulk d + 1
  | .map entries => uptoBulkEntries entries + 1
  | .held _ => 1
def uptoBulkAll {H : Type} : List (DataW H) → Nat
  | [] => 0
  | d :: r => uptoBulk d + uptoBulkAll r
def uptoBulkEntries {H : Type} : List (Lit × DataW H) → Nat
  | [] => 0
  | x :: r => uptoBulkEntry x + uptoBulkEntries r
def uptoBulkEntry {H : Type} : Lit × DataW H → Nat
  | (.string bytes, d) => bytes.length + uptoBulk d + 1
  | (_, d) => uptoBulk d + 1
 end
def uptoSmall : (H : Type) → List (DataW H) → Bool := fun _ ds => decide (uptoBulkAll ds ≤ 1048576)
def OpenSpec.upto (s : _root_.Go.ChangeSpec) : _root_.Go.OpenSpec := { _root_.Go.OpenSpec.ofChange s with cond := some uptoSmall }

/-- 'laws.FnExactClaimWord', WHERE WHAT IT READS IS OF BULK AT MOST 1048576: true; the input reads as it did. -/
def fnExactClaimWordUptoRow : OpenClaim := { program := "ytnlhpohgpmmiiaa", sum := "37303370c796d6a3baa868357207cafdb411a8663c62470e6d1c5f43aad71eaa", func := "loop.example/g03401/laws.FnExactClaimWord", spec := "fnExactClaimWord", apart := false, narrowed := true }
def FnExactClaimWordUptoSaid : Prop := fnExactClaimWordUptoRow.holds Try.pinned (OpenSpec.upto fnExactClaimWordSpec)

/-- 'laws.FnExactCountWords', WHERE WHAT IT READS IS OF BULK AT MOST 1048576: true; the input reads as it did. -/
def fnExactCountWordsUptoRow : OpenClaim := { program := "ytnlhpohgpmmiiaa", sum := "37303370c796d6a3baa868357207cafdb411a8663c62470e6d1c5f43aad71eaa", func := "loop.example/g03401/laws.FnExactCountWords", spec := "fnExactCountWords", apart := false, narrowed := true }
def FnExactCountWordsUptoSaid : Prop := fnExactCountWordsUptoRow.holds Try.pinned (OpenSpec.upto fnExactCountWordsSpec)

/-- 'laws.FnExactCountWithin', WHERE WHAT IT READS IS OF BULK AT MOST 1048576: true; the input reads as it did. -/
def fnExactCountWithinUptoRow : OpenClaim := { program := "ytnlhpohgpmmiiaa", sum := "37303370c796d6a3baa868357207cafdb411a8663c62470e6d1c5f43aad71eaa", func := "loop.example/g03401/laws.FnExactCountWithin", spec := "fnExactCountWithin", apart := false, narrowed := true }
def FnExactCountWithinUptoSaid : Prop := fnExactCountWithinUptoRow.holds Try.pinned (OpenSpec.upto fnExactCountWithinSpec)

/-- 'laws.FnExactKindNames', WHERE WHAT IT READS IS OF BULK AT MOST 1048576: true; the input reads as it did. -/
def fnExactKindNamesUptoRow : OpenClaim := { program := "ytnlhpohgpmmiiaa", sum := "37303370c796d6a3baa868357207cafdb411a8663c62470e6d1c5f43aad71eaa", func := "loop.example/g03401/laws.FnExactKindNames", spec := "fnExactKindNames", apart := false, narrowed := true }
def FnExactKindNamesUptoSaid : Prop := fnExactKindNamesUptoRow.holds Try.pinned (OpenSpec.upto fnExactKindNamesSpec)

/-- 'laws.FnExactBallotByReflection', WHERE WHAT IT READS IS OF BULK AT MOST 1048576: true; the input reads as it did. -/
def fnExactBallotByReflectionUptoRow : OpenClaim := { program := "ytnlhpohgpmmiiaa", sum := "37303370c796d6a3baa868357207cafdb411a8663c62470e6d1c5f43aad71eaa", func := "loop.example/g03401/laws.FnExactBallotByReflection", spec := "fnExactBallotByReflection", apart := false, narrowed := true }
def FnExactBallotByReflectionUptoSaid : Prop := fnExactBallotByReflectionUptoRow.holds Try.pinned (OpenSpec.upto fnExactBallotByReflectionSpec)

/-- 'laws.FnExactCountBad', WHERE WHAT IT READS IS OF BULK AT MOST 1048576: true; the input reads as it did. -/
def fnExactCountBadUptoRow : OpenClaim := { program := "ytnlhpohgpmmiiaa", sum := "37303370c796d6a3baa868357207cafdb411a8663c62470e6d1c5f43aad71eaa", func := "loop.example/g03401/laws.FnExactCountBad", spec := "fnExactCountBad", apart := false, narrowed := true }
def FnExactCountBadUptoSaid : Prop := fnExactCountBadUptoRow.holds Try.pinned (OpenSpec.upto fnExactCountBadSpec)

end Rows
end Go.Proofs.Ytnlhpohgpmmiiaa
