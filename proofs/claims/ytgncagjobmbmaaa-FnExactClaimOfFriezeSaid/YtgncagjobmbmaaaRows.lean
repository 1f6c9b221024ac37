/-
  No cell of these rows narrows 'for every input' (looked for: loops, veiled, ifaces, maps, wideKeys, modest, calm, conditions, laid).
  DERIVED. THE GIVEN ROWS OF THIS SEAT. 6 by the template 'for every input the law returns true; each argument reads behind the call as it read before'; 0 by the template 'total and deterministic' (their statements: YtgncagjobmbmaaaTotals.lean).
  GIVEN WITH THE SEED: the statements are not yours to turn. If you find one false, say at which input.
  Laid BY PROGRAM, IN A SANDBOX (cutbox-rows.mjs): the forced cells as the released guide's own fill.sh prints them over the translation 1645ac7a994518e1… (all of the seat's roots in one cut). By AI agents, Wed Nov 11 2026. No macro, syntax, notation, axiom, sorry.
-/
import Derived.Test.YtgncagjobmbmaaaChecked
import GoSem.Claim
import GoSem.ClaimJoined
import GoSem.ClaimMapViews
import Derived.JoinedTies
import Derived.KernelRfl
namespace Go.Proofs.Ytgncagjobmbmaaa
/- THE CELL 'sum', in the pinned program and in every row, IS THE sha256 OF THE DUMP (.gsa) THAT YtgncagjobmbmaaaProg.lean LOADS. Nothing in Lean hashes anything: it is a label: what it is worth is what the hold of that sum in a sandbox is worth. -/
noncomputable def Try.pinned : Pinned := { name := "ytgncagjobmbmaaa", sum := "1645ac7a994518e187c99bf562c26c0aae5d769573f61a4d065cea85f5ed6195", checked := Try.checked }
namespace Rows
def none {H : Type} : Left H := { results := [], args := [] }

/-- 'laws.FnExactClaimOfOrder': WHATEVER THE INPUT: true; the input reads as it did. -/
def fnExactClaimOfOrderSpec : ChangeSpec := { name := "fnExactClaimOfOrder", fn := fun _ => fun
  | [d1, d2] => { results := [.lit (.bool true)], args := [d1, d2] }
  | _ => none }
def fnExactClaimOfOrderRow : OpenClaim := { program := "ytgncagjobmbmaaa", sum := "1645ac7a994518e187c99bf562c26c0aae5d769573f61a4d065cea85f5ed6195", func := "loop.example/g03401/laws.FnExactClaimOfOrder", spec := "fnExactClaimOfOrder", unfollowed := true, recurses := true, apart := false }
def FnExactClaimOfOrderSaid : Prop := fnExactClaimOfOrderRow.holds Try.pinned (OpenSpec.ofChange fnExactClaimOfOrderSpec)

/-- ITS FALSE NEIGHBOUR: 'it returns false'. Refute it at one input. -/
def fnExactClaimOfOrderWrong : ChangeSpec := { name := "fnExactClaimOfOrder", fn := fun _ => fun
  | [d1, d2] => { results := [.lit (.bool false)], args := [d1, d2] }
  | _ => none }
def FnExactClaimOfOrderWrongFalsely : Prop := fnExactClaimOfOrderRow.holds Try.pinned (OpenSpec.ofChange fnExactClaimOfOrderWrong)

/-- 'laws.FnExactClaimOfDistance': WHATEVER THE INPUT: true; the input reads as it did. -/
def fnExactClaimOfDistanceSpec : ChangeSpec := { name := "fnExactClaimOfDistance", fn := fun _ => fun
  | [d1, d2] => { results := [.lit (.bool true)], args := [d1, d2] }
  | _ => none }
def fnExactClaimOfDistanceRow : OpenClaim := { program := "ytgncagjobmbmaaa", sum := "1645ac7a994518e187c99bf562c26c0aae5d769573f61a4d065cea85f5ed6195", func := "loop.example/g03401/laws.FnExactClaimOfDistance", spec := "fnExactClaimOfDistance", unfollowed := true, recurses := true, apart := false }
def FnExactClaimOfDistanceSaid : Prop := fnExactClaimOfDistanceRow.holds Try.pinned (OpenSpec.ofChange fnExactClaimOfDistanceSpec)

/-- ITS FALSE NEIGHBOUR: 'it returns false'. Refute it at one input. -/
def fnExactClaimOfDistanceWrong : ChangeSpec := { name := "fnExactClaimOfDistance", fn := fun _ => fun
  | [d1, d2] => { results := [.lit (.bool false)], args := [d1, d2] }
  | _ => none }
def FnExactClaimOfDistanceWrongFalsely : Prop := fnExactClaimOfDistanceRow.holds Try.pinned (OpenSpec.ofChange fnExactClaimOfDistanceWrong)

/-- 'laws.FnExactClaimOfFrieze': WHATEVER THE INPUT: true; the input reads as it did. -/
def fnExactClaimOfFriezeSpec : ChangeSpec := { name := "fnExactClaimOfFrieze", fn := fun _ => fun
  | [d] => { results := [.lit (.bool true)], args := [d] }
  | _ => none }
def fnExactClaimOfFriezeRow : OpenClaim := { program := "ytgncagjobmbmaaa", sum := "1645ac7a994518e187c99bf562c26c0aae5d769573f61a4d065cea85f5ed6195", func := "loop.example/g03401/laws.FnExactClaimOfFrieze", spec := "fnExactClaimOfFrieze", unfollowed := true, recurses := true, apart := false }
def FnExactClaimOfFriezeSaid : Prop := fnExactClaimOfFriezeRow.holds Try.pinned (OpenSpec.ofChange fnExactClaimOfFriezeSpec)

/-- ITS FALSE NEIGHBOUR: 'it returns false'. Refute it at one input. -/
def fnExactClaimOfFriezeWrong : ChangeSpec := { name := "fnExactClaimOfFrieze", fn := fun _ => fun
  | [d] => { results := [.lit (.bool false)], args := [d] }
  | _ => none }
def FnExactClaimOfFriezeWrongFalsely : Prop := fnExactClaimOfFriezeRow.holds Try.pinned (OpenSpec.ofChange fnExactClaimOfFriezeWrong)

/-- 'laws.FnExactFriezeLine': WHATEVER THE INPUT: true; the input reads as it did. -/
def fnExactFriezeLineSpec : ChangeSpec := { name := "fnExactFriezeLine", fn := fun _ => fun
  | [d] => { results := [.lit (.bool true)], args := [d] }
  | _ => none }
def fnExactFriezeLineRow : OpenClaim := { program := "ytgncagjobmbmaaa", sum := "1645ac7a994518e187c99bf562c26c0aae5d769573f61a4d065cea85f5ed6195", func := "loop.example/g03401/laws.FnExactFriezeLine", spec := "fnExactFriezeLine", apart := false }
def FnExactFriezeLineSaid : Prop := fnExactFriezeLineRow.holds Try.pinned (OpenSpec.ofChange fnExactFriezeLineSpec)

/-- ITS FALSE NEIGHBOUR: 'it returns false'. Refute it at one input. -/
def fnExactFriezeLineWrong : ChangeSpec := { name := "fnExactFriezeLine", fn := fun _ => fun
  | [d] => { results := [.lit (.bool false)], args := [d] }
  | _ => none }
def FnExactFriezeLineWrongFalsely : Prop := fnExactFriezeLineRow.holds Try.pinned (OpenSpec.ofChange fnExactFriezeLineWrong)

/-- 'laws.FnExactTreeLine': WHATEVER THE INPUT: true; the input reads as it did. -/
def fnExactTreeLineSpec : ChangeSpec := { name := "fnExactTreeLine", fn := fun _ => fun
  | [d] => { results := [.lit (.bool true)], args := [d] }
  | _ => none }
def fnExactTreeLineRow : OpenClaim := { program := "ytgncagjobmbmaaa", sum := "1645ac7a994518e187c99bf562c26c0aae5d769573f61a4d065cea85f5ed6195", func := "loop.example/g03401/laws.FnExactTreeLine", spec := "fnExactTreeLine", unfollowed := true, recurses := true, apart := false }
def FnExactTreeLineSaid : Prop := fnExactTreeLineRow.holds Try.pinned (OpenSpec.ofChange fnExactTreeLineSpec)

/-- ITS FALSE NEIGHBOUR: 'it returns false'. Refute it at one input. -/
def fnExactTreeLineWrong : ChangeSpec := { name := "fnExactTreeLine", fn := fun _ => fun
  | [d] => { results := [.lit (.bool false)], args := [d] }
  | _ => none }
def FnExactTreeLineWrongFalsely : Prop := fnExactTreeLineRow.holds Try.pinned (OpenSpec.ofChange fnExactTreeLineWrong)

/-- 'laws.FnExactPairLine': WHATEVER THE INPUT: true; the input reads as it did. -/
def fnExactPairLineSpec : ChangeSpec := { name := "fnExactPairLine", fn := fun _ => fun
  | [d1, d2] => { results := [.lit (.bool true)], args := [d1, d2] }
  | _ => none }
def fnExactPairLineRow : OpenClaim := { program := "ytgncagjobmbmaaa", sum := "1645ac7a994518e187c99bf562c26c0aae5d769573f61a4d065cea85f5ed6195", func := "loop.example/g03401/laws.FnExactPairLine", spec := "fnExactPairLine", unfollowed := true, recurses := true, apart := false }
def FnExactPairLineSaid : Prop := fnExactPairLineRow.holds Try.pinned (OpenSpec.ofChange fnExactPairLineSpec)

/-- ITS FALSE NEIGHBOUR: 'it returns false'. Refute it at one input. -/
def fnExactPairLineWrong : ChangeSpec := { name := "fnExactPairLine", fn := fun _ => fun
  | [d1, d2] => { results := [.lit (.bool false)], args := [d1, d2] }
  | _ => none }
def FnExactPairLineWrongFalsely : Prop := fnExactPairLineRow.holds Try.pinned (OpenSpec.ofChange fnExactPairLineWrong)

/- THE SECOND FORM. 'bulk': how many values and letters a reading holds, each counted each time it is reached (what is shared counts as often as it is met; a slice's spare places count too). A statement '..UptoSaid' is the law's where the arguments, and the package variables that the reading takes, are together of bulk at most 1048576: NARROWER than '..Said'. Prove '..Said' where nothing that the law and all that it calls make is longer than what came in: it says more and counts as full. Else prove '..UptoSaid'. A law counts once. -/
mutual
def uptoBulk {H : Type} : DataW H → Nat
  | .lit (.string bytes) => bytes.length + 1
  | .lit _ => 1
  | .nil => 1
  | .ptr d => uptoBulk d + 1
  | .slice elems spare => uptoBulkAll elems + uptoBulkAll spare + 1
  | .agg parts => uptoBulkAll parts + 1
  | .iface _ d => uptoBulk d + 1
  | .map entries => uptoBulkEntries entries + 1
  | .held _ => 1
def uptoBulkAll {H : Type} : List (DataW H) → Nat
  | [] => 0
  | d :: r => uptoBulk d + uptoBulkAll r
def uptoBulkEntries {H : Type} : List (Lit × DataW H) → Nat
  | [] => 0
  | x :: r => uptoBulkEntry x + uptoBulkEntries r
def uptoBulkEntry {H : Type} : Lit × DataW H → Nat
  | (.string bytes, d) => bytes.length + uptoBulk d + 1
  | (_, d) => uptoBulk d + 1
 end
def uptoSmall : (H : Type) → List (DataW H) → Bool := fun _ ds => decide (uptoBulkAll ds ≤ 1048576)
def OpenSpec.upto (s : _root_.Go.ChangeSpec) : _root_.Go.OpenSpec := { _root_.Go.OpenSpec.ofChange s with cond := some uptoSmall }

/-- 'laws.FnExactClaimOfOrder', WHERE WHAT IT READS IS OF BULK AT MOST 1048576: true; the input reads as it did. -/
def fnExactClaimOfOrderUptoRow : OpenClaim := { program := "ytgncagjobmbmaaa", sum := "1645ac7a994518e187c99bf562c26c0aae5d769573f61a4d065cea85f5ed6195", func := "loop.example/g03401/laws.FnExactClaimOfOrder", spec := "fnExactClaimOfOrder", unfollowed := true, recurses := true, apart := false, narrowed := true }
def FnExactClaimOfOrderUptoSaid : Prop := fnExactClaimOfOrderUptoRow.holds Try.pinned (OpenSpec.upto fnExactClaimOfOrderSpec)

/-- 'laws.FnExactClaimOfDistance', WHERE WHAT IT READS IS OF BULK AT MOST 1048576: true; the input reads as it did. -/
def fnExactClaimOfDistanceUptoRow : OpenClaim := { program := "ytgncagjobmbmaaa", sum := "1645ac7a994518e187c99bf562c26c0aae5d769573f61a4d065cea85f5ed6195", func := "loop.example/g03401/laws.FnExactClaimOfDistance", spec := "fnExactClaimOfDistance", unfollowed := true, recurses := true, apart := false, narrowed := true }
def FnExactClaimOfDistanceUptoSaid : Prop := fnExactClaimOfDistanceUptoRow.holds Try.pinned (OpenSpec.upto fnExactClaimOfDistanceSpec)

/-- 'laws.FnExactClaimOfFrieze', WHERE WHAT IT READS IS OF BULK AT MOST 1048576: true; the input reads as it did. -/
def fnExactClaimOfFriezeUptoRow : OpenClaim := { program := "ytgncagjobmbmaaa", sum := "1645ac7a994518e187c99bf562c26c0aae5d769573f61a4d065cea85f5ed6195", func := "loop.example/g03401/laws.FnExactClaimOfFrieze", spec := "fnExactClaimOfFrieze", unfollowed := true, recurses := true, apart := false, narrowed := true }
def FnExactClaimOfFriezeUptoSaid : Prop := fnExactClaimOfFriezeUptoRow.holds Try.pinned (OpenSpec.upto fnExactClaimOfFriezeSpec)

/-- 'laws.FnExactFriezeLine', WHERE WHAT IT READS IS OF BULK AT MOST 1048576: true; the input reads as it did. -/
def fnExactFriezeLineUptoRow : OpenClaim := { program := "ytgncagjobmbmaaa", sum := "1645ac7a994518e187c99bf562c26c0aae5d769573f61a4d065cea85f5ed6195", func := "loop.example/g03401/laws.FnExactFriezeLine", spec := "fnExactFriezeLine", apart := false, narrowed := true }
def FnExactFriezeLineUptoSaid : Prop := fnExactFriezeLineUptoRow.holds Try.pinned (OpenSpec.upto fnExactFriezeLineSpec)

/-- 'laws.FnExactTreeLine', WHERE WHAT IT READS IS OF BULK AT MOST 1048576: true; the input reads as it did. -/
def fnExactTreeLineUptoRow : OpenClaim := { program := "ytgncagjobmbmaaa", sum := "1645ac7a994518e187c99bf562c26c0aae5d769573f61a4d065cea85f5ed6195", func := "loop.example/g03401/laws.FnExactTreeLine", spec := "fnExactTreeLine", unfollowed := true, recurses := true, apart := false, narrowed := true }
def FnExactTreeLineUptoSaid : Prop := fnExactTreeLineUptoRow.holds Try.pinned (OpenSpec.upto fnExactTreeLineSpec)

/-- 'laws.FnExactPairLine', WHERE WHAT IT READS IS OF BULK AT MOST 1048576: true; the input reads as it did. -/
def fnExactPairLineUptoRow : OpenClaim := { program := "ytgncagjobmbmaaa", sum := "1645ac7a994518e187c99bf562c26c0aae5d769573f61a4d065cea85f5ed6195", func := "loop.example/g03401/laws.FnExactPairLine", spec := "fnExactPairLine", unfollowed := true, recurses := true, apart := false, narrowed := true }
def FnExactPairLineUptoSaid : Prop := fnExactPairLineUptoRow.holds Try.pinned (OpenSpec.upto fnExactPairLineSpec)

end Rows
end Go.Proofs.Ytgncagjobmbmaaa
