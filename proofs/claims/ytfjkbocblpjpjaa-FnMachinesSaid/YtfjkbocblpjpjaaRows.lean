/-
  No cell of these rows narrows 'for every input' (looked for: loops, veiled, ifaces, maps, wideKeys, modest, calm, conditions, laid).
  DERIVED. THE GIVEN ROWS OF THIS SEAT. 7 by the template 'for every input the law returns true; each argument reads behind the call as it read before'; 0 by the template 'total and deterministic' (their statements: YtfjkbocblpjpjaaTotals.lean).
  GIVEN WITH THE SEED: the statements are not yours to turn. If you find one false, say at which input.
  Laid BY PROGRAM, IN A SANDBOX (cutbox-rows.mjs): the forced cells as the released guide's own fill.sh prints them over the translation 1a7af869872a2b8d… (all of the seat's roots in one cut). By AI agents, Wed Nov 11 2026. No macro, syntax, notation, axiom, sorry.
-/
import Derived.Test.YtfjkbocblpjpjaaChecked
import GoSem.Claim
import GoSem.ClaimJoined
import GoSem.ClaimMapViews
import Derived.JoinedTies
import Derived.KernelRfl
namespace Go.Proofs.Ytfjkbocblpjpjaa
/- THE CELL 'sum', in the pinned program and in every row, IS THE sha256 OF THE DUMP (.gsa) THAT YtfjkbocblpjpjaaProg.lean LOADS. Nothing in Lean hashes anything: it is a label: what it is worth is what the hold of that sum in a sandbox is worth. -/
noncomputable def Try.pinned : Pinned := { name := "ytfjkbocblpjpjaa", sum := "1a7af869872a2b8da8b10d7e9399544bc861adb9349ae32084f5b892b2488494", checked := Try.checked }
namespace Rows
def none {H : Type} : Left H := { results := [], args := [] }

/-- 'laws.FnExactCountWithin': WHATEVER THE INPUT: true; the input reads as it did. -/
def fnExactCountWithinSpec : ChangeSpec := { name := "fnExactCountWithin", fn := fun _ => fun
  | [d1, d2] => { results := [.lit (.bool true)], args := [d1, d2] }
  | _ => none }
def fnExactCountWithinRow : OpenClaim := { program := "ytfjkbocblpjpjaa", sum := "1a7af869872a2b8da8b10d7e9399544bc861adb9349ae32084f5b892b2488494", func := "loop.example/g03401/laws.FnExactCountWithin", spec := "fnExactCountWithin", apart := false }
def FnExactCountWithinSaid : Prop := fnExactCountWithinRow.holds Try.pinned (OpenSpec.ofChange fnExactCountWithinSpec)

/-- ITS FALSE NEIGHBOUR: 'it returns false'. Refute it at one input. -/
def fnExactCountWithinWrong : ChangeSpec := { name := "fnExactCountWithin", fn := fun _ => fun
  | [d1, d2] => { results := [.lit (.bool false)], args := [d1, d2] }
  | _ => none }
def FnExactCountWithinWrongFalsely : Prop := fnExactCountWithinRow.holds Try.pinned (OpenSpec.ofChange fnExactCountWithinWrong)

/-- 'laws.FnCycles': WHATEVER THE INPUT: true; the input reads as it did. -/
def fnCyclesSpec : ChangeSpec := { name := "fnCycles", fn := fun _ => fun
  | [d] => { results := [.lit (.bool true)], args := [d] }
  | _ => none }
def fnCyclesRow : OpenClaim := { program := "ytfjkbocblpjpjaa", sum := "1a7af869872a2b8da8b10d7e9399544bc861adb9349ae32084f5b892b2488494", func := "loop.example/g03401/laws.FnCycles", spec := "fnCycles", apart := false }
def FnCyclesSaid : Prop := fnCyclesRow.holds Try.pinned (OpenSpec.ofChange fnCyclesSpec)

/-- ITS FALSE NEIGHBOUR: 'it returns false'. Refute it at one input. -/
def fnCyclesWrong : ChangeSpec := { name := "fnCycles", fn := fun _ => fun
  | [d] => { results := [.lit (.bool false)], args := [d] }
  | _ => none }
def FnCyclesWrongFalsely : Prop := fnCyclesRow.holds Try.pinned (OpenSpec.ofChange fnCyclesWrong)

/-- 'laws.FnReflections': WHATEVER THE INPUT: true; the input reads as it did. -/
def fnReflectionsSpec : ChangeSpec := { name := "fnReflections", fn := fun _ => fun
  | [d] => { results := [.lit (.bool true)], args := [d] }
  | _ => none }
def fnReflectionsRow : OpenClaim := { program := "ytfjkbocblpjpjaa", sum := "1a7af869872a2b8da8b10d7e9399544bc861adb9349ae32084f5b892b2488494", func := "loop.example/g03401/laws.FnReflections", spec := "fnReflections", recurses := true, apart := false }
def FnReflectionsSaid : Prop := fnReflectionsRow.holds Try.pinned (OpenSpec.ofChange fnReflectionsSpec)

/-- ITS FALSE NEIGHBOUR: 'it returns false'. Refute it at one input. -/
def fnReflectionsWrong : ChangeSpec := { name := "fnReflections", fn := fun _ => fun
  | [d] => { results := [.lit (.bool false)], args := [d] }
  | _ => none }
def FnReflectionsWrongFalsely : Prop := fnReflectionsRow.holds Try.pinned (OpenSpec.ofChange fnReflectionsWrong)

/-- 'laws.FnMachines': WHATEVER THE INPUT: true; the input reads as it did. -/
def fnMachinesSpec : ChangeSpec := { name := "fnMachines", fn := fun _ => fun
  | [d] => { results := [.lit (.bool true)], args := [d] }
  | _ => none }
def fnMachinesRow : OpenClaim := { program := "ytfjkbocblpjpjaa", sum := "1a7af869872a2b8da8b10d7e9399544bc861adb9349ae32084f5b892b2488494", func := "loop.example/g03401/laws.FnMachines", spec := "fnMachines", unfollowed := true, recurses := true, apart := false }
def FnMachinesSaid : Prop := fnMachinesRow.holds Try.pinned (OpenSpec.ofChange fnMachinesSpec)

/-- ITS FALSE NEIGHBOUR: 'it returns false'. Refute it at one input. -/
def fnMachinesWrong : ChangeSpec := { name := "fnMachines", fn := fun _ => fun
  | [d] => { results := [.lit (.bool false)], args := [d] }
  | _ => none }
def FnMachinesWrongFalsely : Prop := fnMachinesRow.holds Try.pinned (OpenSpec.ofChange fnMachinesWrong)

/-- 'laws.FnSeries': WHATEVER THE INPUT: true; the input reads as it did. -/
def fnSeriesSpec : ChangeSpec := { name := "fnSeries", fn := fun _ => fun
  | [d] => { results := [.lit (.bool true)], args := [d] }
  | _ => none }
def fnSeriesRow : OpenClaim := { program := "ytfjkbocblpjpjaa", sum := "1a7af869872a2b8da8b10d7e9399544bc861adb9349ae32084f5b892b2488494", func := "loop.example/g03401/laws.FnSeries", spec := "fnSeries", recurses := true, apart := false }
def FnSeriesSaid : Prop := fnSeriesRow.holds Try.pinned (OpenSpec.ofChange fnSeriesSpec)

/-- ITS FALSE NEIGHBOUR: 'it returns false'. Refute it at one input. -/
def fnSeriesWrong : ChangeSpec := { name := "fnSeries", fn := fun _ => fun
  | [d] => { results := [.lit (.bool false)], args := [d] }
  | _ => none }
def FnSeriesWrongFalsely : Prop := fnSeriesRow.holds Try.pinned (OpenSpec.ofChange fnSeriesWrong)

/-- 'laws.FnMotzkin': WHATEVER THE INPUT: true; the input reads as it did. -/
def fnMotzkinSpec : ChangeSpec := { name := "fnMotzkin", fn := fun _ => fun
  | [d] => { results := [.lit (.bool true)], args := [d] }
  | _ => none }
def fnMotzkinRow : OpenClaim := { program := "ytfjkbocblpjpjaa", sum := "1a7af869872a2b8da8b10d7e9399544bc861adb9349ae32084f5b892b2488494", func := "loop.example/g03401/laws.FnMotzkin", spec := "fnMotzkin", unfollowed := true, recurses := true, apart := false }
def FnMotzkinSaid : Prop := fnMotzkinRow.holds Try.pinned (OpenSpec.ofChange fnMotzkinSpec)

/-- ITS FALSE NEIGHBOUR: 'it returns false'. Refute it at one input. -/
def fnMotzkinWrong : ChangeSpec := { name := "fnMotzkin", fn := fun _ => fun
  | [d] => { results := [.lit (.bool false)], args := [d] }
  | _ => none }
def FnMotzkinWrongFalsely : Prop := fnMotzkinRow.holds Try.pinned (OpenSpec.ofChange fnMotzkinWrong)

/-- 'laws.FnRanks': WHATEVER THE INPUT: true; the input reads as it did. -/
def fnRanksSpec : ChangeSpec := { name := "fnRanks", fn := fun _ => fun
  | [d] => { results := [.lit (.bool true)], args := [d] }
  | _ => none }
def fnRanksRow : OpenClaim := { program := "ytfjkbocblpjpjaa", sum := "1a7af869872a2b8da8b10d7e9399544bc861adb9349ae32084f5b892b2488494", func := "loop.example/g03401/laws.FnRanks", spec := "fnRanks", unfollowed := true, recurses := true, apart := false }
def FnRanksSaid : Prop := fnRanksRow.holds Try.pinned (OpenSpec.ofChange fnRanksSpec)

/-- ITS FALSE NEIGHBOUR: 'it returns false'. Refute it at one input. -/
def fnRanksWrong : ChangeSpec := { name := "fnRanks", fn := fun _ => fun
  | [d] => { results := [.lit (.bool false)], args := [d] }
  | _ => none }
def FnRanksWrongFalsely : Prop := fnRanksRow.holds Try.pinned (OpenSpec.ofChange fnRanksWrong)

/- THE SECOND FORM. 'bulk': how many values and letters a reading holds, each counted each time it is reached (what is shared counts as often as it is met; a slice's spare places count too). A statement '..UptoSaid' is the law's where the arguments, and the package variables that the reading takes, are together of bulk at most 1048576: NARROWER than '..Said'. Prove '..Said' where nothing that the law and all that it calls make is longer than what came in: it says more and counts as full. Else prove '..UptoSaid'. A law counts once. -/
mutual
def uptoBulk {H : Type} : DataW H → Nat
  | .lit (.string bytes) => bytes.length + 1
  | .lit _ => 1
  | .nil => 1
  | .ptr d => uptoBulk d + 1
  | .slice elems spare => uptoBulkAll elems + uptoBulkAll spare + 1
  | .agg parts => uptoBulkAll parts + 1
  | .iface _ d => uptoBulk d + 1
  | .map entries => uptoBulkEntries entries + 1
  | .held _ => 1
def uptoBulkAll {H : Type} : List (DataW H) → Nat
  | [] => 0
  | d :: r => uptoBulk d + uptoBulkAll r
def uptoBulkEntries {H : Type} : List (Lit × DataW H) → Nat
  | [] => 0
  | x :: r => uptoBulkEntry x + uptoBulkEntries r
def uptoBulkEntry {H : Type} : Lit × DataW H → Nat
  | (.string bytes, d) => bytes.length + uptoBulk d + 1
  | (_, d) => uptoBulk d + 1
 end
def uptoSmall : (H : Type) → List (DataW H) → Bool := fun _ ds => decide (uptoBulkAll ds ≤ 1048576)
def OpenSpec.upto (s : _root_.Go.ChangeSpec) : _root_.Go.OpenSpec := { _root_.Go.OpenSpec.ofChange s with cond := some uptoSmall }

/-- 'laws.FnExactCountWithin', WHERE WHAT IT READS IS OF BULK AT MOST 1048576: true; the input reads as it did. -/
def fnExactCountWithinUptoRow : OpenClaim := { program := "ytfjkbocblpjpjaa", sum := "1a7af869872a2b8da8b10d7e9399544bc861adb9349ae32084f5b892b2488494", func := "loop.example/g03401/laws.FnExactCountWithin", spec := "fnExactCountWithin", apart := false, narrowed := true }
def FnExactCountWithinUptoSaid : Prop := fnExactCountWithinUptoRow.holds Try.pinned (OpenSpec.upto fnExactCountWithinSpec)

/-- 'laws.FnCycles', WHERE WHAT IT READS IS OF BULK AT MOST 1048576: true; the input reads as it did. -/
def fnCyclesUptoRow : OpenClaim := { program := "ytfjkbocblpjpjaa", sum := "1a7af869872a2b8da8b10d7e9399544bc861adb9349ae32084f5b892b2488494", func := "loop.example/g03401/laws.FnCycles", spec := "fnCycles", apart := false, narrowed := true }
def FnCyclesUptoSaid : Prop := fnCyclesUptoRow.holds Try.pinned (OpenSpec.upto fnCyclesSpec)

/-- 'laws.FnReflections', WHERE WHAT IT READS IS OF BULK AT MOST 1048576: true; the input reads as it did. -/
def fnReflectionsUptoRow : OpenClaim := { program := "ytfjkbocblpjpjaa", sum := "1a7af869872a2b8da8b10d7e9399544bc861adb9349ae32084f5b892b2488494", func := "loop.example/g03401/laws.FnReflections", spec := "fnReflections", recurses := true, apart := false, narrowed := true }
def FnReflectionsUptoSaid : Prop := fnReflectionsUptoRow.holds Try.pinned (OpenSpec.upto fnReflectionsSpec)

/-- 'laws.FnMachines', WHERE WHAT IT READS IS OF BULK AT MOST 1048576: true; the input reads as it did. -/
def fnMachinesUptoRow : OpenClaim := { program := "ytfjkbocblpjpjaa", sum := "1a7af869872a2b8da8b10d7e9399544bc861adb9349ae32084f5b892b2488494", func := "loop.example/g03401/laws.FnMachines", spec := "fnMachines", unfollowed := true, recurses := true, apart := false, narrowed := true }
def FnMachinesUptoSaid : Prop := fnMachinesUptoRow.holds Try.pinned (OpenSpec.upto fnMachinesSpec)

/-- 'laws.FnSeries', WHERE WHAT IT READS IS OF BULK AT MOST 1048576: true; the input reads as it did. -/
def fnSeriesUptoRow : OpenClaim := { program := "ytfjkbocblpjpjaa", sum := "1a7af869872a2b8da8b10d7e9399544bc861adb9349ae32084f5b892b2488494", func := "loop.example/g03401/laws.FnSeries", spec := "fnSeries", recurses := true, apart := false, narrowed := true }
def FnSeriesUptoSaid : Prop := fnSeriesUptoRow.holds Try.pinned (OpenSpec.upto fnSeriesSpec)

/-- 'laws.FnMotzkin', WHERE WHAT IT READS IS OF BULK AT MOST 1048576: true; the input reads as it did. -/
def fnMotzkinUptoRow : OpenClaim := { program := "ytfjkbocblpjpjaa", sum := "1a7af869872a2b8da8b10d7e9399544bc861adb9349ae32084f5b892b2488494", func := "loop.example/g03401/laws.FnMotzkin", spec := "fnMotzkin", unfollowed := true, recurses := true, apart := false, narrowed := true }
def FnMotzkinUptoSaid : Prop := fnMotzkinUptoRow.holds Try.pinned (OpenSpec.upto fnMotzkinSpec)

/-- 'laws.FnRanks', WHERE WHAT IT READS IS OF BULK AT MOST 1048576: true; the input reads as it did. -/
def fnRanksUptoRow : OpenClaim := { program := "ytfjkbocblpjpjaa", sum := "1a7af869872a2b8da8b10d7e9399544bc861adb9349ae32084f5b892b2488494", func := "loop.example/g03401/laws.FnRanks", spec := "fnRanks", unfollowed := true, recurses := true, apart := false, narrowed := true }
def FnRanksUptoSaid : Prop := fnRanksUptoRow.holds Try.pinned (OpenSpec.upto fnRanksSpec)

end Rows
end Go.Proofs.Ytfjkbocblpjpjaa
