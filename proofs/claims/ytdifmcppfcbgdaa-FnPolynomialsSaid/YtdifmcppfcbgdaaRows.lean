/-
  No cell of these rows narrows 'for every input' (looked for: loops, veiled, ifaces, maps, wideKeys, modest, calm, conditions, laid).
  DERIVED. THE GIVEN ROWS OF THIS SEAT. 7 by the template 'for every input the law returns true; each argument reads behind the call as it read before'; 0 by the template 'total and deterministic' (their statements: YtdifmcppfcbgdaaTotals.lean).
  GIVEN WITH THE SEED: the statements are not yours to turn. If you find one false, say at which input.
  Laid BY PROGRAM, IN A SANDBOX (cutbox-rows.mjs): the forced cells as the released guide's own fill.sh prints them over the translation aaeeb22b8d1511a2… (all of the seat's roots in one cut). By AI agents, Wed Nov 11 2026. No macro, syntax, notation, axiom, sorry.
-/
import Derived.Test.YtdifmcppfcbgdaaChecked
import GoSem.Claim
import GoSem.ClaimJoined
import GoSem.ClaimMapViews
import Derived.JoinedTies
import Derived.KernelRfl
namespace Go.Proofs.Ytdifmcppfcbgdaa
/- THE CELL 'sum', in the pinned program and in every row, IS THE sha256 OF THE DUMP (.gsa) THAT YtdifmcppfcbgdaaProg.lean LOADS. Nothing in Lean hashes anything: it is a label: what it is worth is what the hold of that sum in a sandbox is worth. -/
noncomputable def Try.pinned : Pinned := { name := "ytdifmcppfcbgdaa", sum := "aaeeb22b8d1511a2b2d7b319bebc2e1665f7ba6f08c56291312cad934e350b86", checked := Try.checked }
namespace Rows
def none {H : Type} : Left H := { results := [], args := [] }

/-- 'laws.FnExactPathLine': WHATEVER THE INPUT: true; the input reads as it did. -/
def fnExactPathLineSpec : ChangeSpec := { name := "fnExactPathLine", fn := fun _ => fun
  | [d] => { results := [.lit (.bool true)], args := [d] }
  | _ => none }
def fnExactPathLineRow : OpenClaim := { program := "ytdifmcppfcbgdaa", sum := "aaeeb22b8d1511a2b2d7b319bebc2e1665f7ba6f08c56291312cad934e350b86", func := "loop.example/g03401/laws.FnExactPathLine", spec := "fnExactPathLine", plainKeys := false, apart := false }
def FnExactPathLineSaid : Prop := fnExactPathLineRow.holds Try.pinned (OpenSpec.ofChange fnExactPathLineSpec)

/-- ITS FALSE NEIGHBOUR: 'it returns false'. Refute it at one input. -/
def fnExactPathLineWrong : ChangeSpec := { name := "fnExactPathLine", fn := fun _ => fun
  | [d] => { results := [.lit (.bool false)], args := [d] }
  | _ => none }
def FnExactPathLineWrongFalsely : Prop := fnExactPathLineRow.holds Try.pinned (OpenSpec.ofChange fnExactPathLineWrong)

/-- 'laws.FnExactWriteAs': WHATEVER THE INPUT: true; the input reads as it did. -/
def fnExactWriteAsSpec : ChangeSpec := { name := "fnExactWriteAs", fn := fun _ => fun
  | [d1, d2] => { results := [.lit (.bool true)], args := [d1, d2] }
  | _ => none }
def fnExactWriteAsRow : OpenClaim := { program := "ytdifmcppfcbgdaa", sum := "aaeeb22b8d1511a2b2d7b319bebc2e1665f7ba6f08c56291312cad934e350b86", func := "loop.example/g03401/laws.FnExactWriteAs", spec := "fnExactWriteAs", unfollowed := true, recurses := true, plainKeys := false, apart := false }
def FnExactWriteAsSaid : Prop := fnExactWriteAsRow.holds Try.pinned (OpenSpec.ofChange fnExactWriteAsSpec)

/-- ITS FALSE NEIGHBOUR: 'it returns false'. Refute it at one input. -/
def fnExactWriteAsWrong : ChangeSpec := { name := "fnExactWriteAs", fn := fun _ => fun
  | [d1, d2] => { results := [.lit (.bool false)], args := [d1, d2] }
  | _ => none }
def FnExactWriteAsWrongFalsely : Prop := fnExactWriteAsRow.holds Try.pinned (OpenSpec.ofChange fnExactWriteAsWrong)

/-- 'laws.FnExactKindsLine': WHATEVER THE INPUT: true; the input reads as it did. -/
def fnExactKindsLineSpec : ChangeSpec := { name := "fnExactKindsLine", fn := fun _ => fun
  | [d] => { results := [.lit (.bool true)], args := [d] }
  | _ => none }
def fnExactKindsLineRow : OpenClaim := { program := "ytdifmcppfcbgdaa", sum := "aaeeb22b8d1511a2b2d7b319bebc2e1665f7ba6f08c56291312cad934e350b86", func := "loop.example/g03401/laws.FnExactKindsLine", spec := "fnExactKindsLine", unfollowed := true, recurses := true, plainKeys := false, apart := false }
def FnExactKindsLineSaid : Prop := fnExactKindsLineRow.holds Try.pinned (OpenSpec.ofChange fnExactKindsLineSpec)

/-- ITS FALSE NEIGHBOUR: 'it returns false'. Refute it at one input. -/
def fnExactKindsLineWrong : ChangeSpec := { name := "fnExactKindsLine", fn := fun _ => fun
  | [d] => { results := [.lit (.bool false)], args := [d] }
  | _ => none }
def FnExactKindsLineWrongFalsely : Prop := fnExactKindsLineRow.holds Try.pinned (OpenSpec.ofChange fnExactKindsLineWrong)

/-- 'laws.FnExactListOf': WHATEVER THE INPUT: true; the input reads as it did. -/
def fnExactListOfSpec : ChangeSpec := { name := "fnExactListOf", fn := fun _ => fun
  | [d1, d2] => { results := [.lit (.bool true)], args := [d1, d2] }
  | _ => none }
def fnExactListOfRow : OpenClaim := { program := "ytdifmcppfcbgdaa", sum := "aaeeb22b8d1511a2b2d7b319bebc2e1665f7ba6f08c56291312cad934e350b86", func := "loop.example/g03401/laws.FnExactListOf", spec := "fnExactListOf", unfollowed := true, recurses := true, plainKeys := false, apart := false }
def FnExactListOfSaid : Prop := fnExactListOfRow.holds Try.pinned (OpenSpec.ofChange fnExactListOfSpec)

/-- ITS FALSE NEIGHBOUR: 'it returns false'. Refute it at one input. -/
def fnExactListOfWrong : ChangeSpec := { name := "fnExactListOf", fn := fun _ => fun
  | [d1, d2] => { results := [.lit (.bool false)], args := [d1, d2] }
  | _ => none }
def FnExactListOfWrongFalsely : Prop := fnExactListOfRow.holds Try.pinned (OpenSpec.ofChange fnExactListOfWrong)

/-- 'laws.FnPolynomials': WHATEVER THE INPUT: true; the input reads as it did. -/
def fnPolynomialsSpec : ChangeSpec := { name := "fnPolynomials", fn := fun _ => fun
  | [d] => { results := [.lit (.bool true)], args := [d] }
  | _ => none }
def fnPolynomialsRow : OpenClaim := { program := "ytdifmcppfcbgdaa", sum := "aaeeb22b8d1511a2b2d7b319bebc2e1665f7ba6f08c56291312cad934e350b86", func := "loop.example/g03401/laws.FnPolynomials", spec := "fnPolynomials", unfollowed := true, recurses := true, plainKeys := false, apart := false }
def FnPolynomialsSaid : Prop := fnPolynomialsRow.holds Try.pinned (OpenSpec.ofChange fnPolynomialsSpec)

/-- ITS FALSE NEIGHBOUR: 'it returns false'. Refute it at one input. -/
def fnPolynomialsWrong : ChangeSpec := { name := "fnPolynomials", fn := fun _ => fun
  | [d] => { results := [.lit (.bool false)], args := [d] }
  | _ => none }
def FnPolynomialsWrongFalsely : Prop := fnPolynomialsRow.holds Try.pinned (OpenSpec.ofChange fnPolynomialsWrong)

/-- 'laws.FnKreweras': WHATEVER THE INPUT: true; the input reads as it did. -/
def fnKrewerasSpec : ChangeSpec := { name := "fnKreweras", fn := fun _ => fun
  | [d] => { results := [.lit (.bool true)], args := [d] }
  | _ => none }
def fnKrewerasRow : OpenClaim := { program := "ytdifmcppfcbgdaa", sum := "aaeeb22b8d1511a2b2d7b319bebc2e1665f7ba6f08c56291312cad934e350b86", func := "loop.example/g03401/laws.FnKreweras", spec := "fnKreweras", unfollowed := true, recurses := true, plainKeys := false, apart := false }
def FnKrewerasSaid : Prop := fnKrewerasRow.holds Try.pinned (OpenSpec.ofChange fnKrewerasSpec)

/-- ITS FALSE NEIGHBOUR: 'it returns false'. Refute it at one input. -/
def fnKrewerasWrong : ChangeSpec := { name := "fnKreweras", fn := fun _ => fun
  | [d] => { results := [.lit (.bool false)], args := [d] }
  | _ => none }
def FnKrewerasWrongFalsely : Prop := fnKrewerasRow.holds Try.pinned (OpenSpec.ofChange fnKrewerasWrong)

/-- 'laws.FnExactCountLine': WHATEVER THE INPUT: true; the input reads as it did. -/
def fnExactCountLineSpec : ChangeSpec := { name := "fnExactCountLine", fn := fun _ => fun
  | [d] => { results := [.lit (.bool true)], args := [d] }
  | _ => none }
def fnExactCountLineRow : OpenClaim := { program := "ytdifmcppfcbgdaa", sum := "aaeeb22b8d1511a2b2d7b319bebc2e1665f7ba6f08c56291312cad934e350b86", func := "loop.example/g03401/laws.FnExactCountLine", spec := "fnExactCountLine", unfollowed := true, recurses := true, plainKeys := false, apart := false }
def FnExactCountLineSaid : Prop := fnExactCountLineRow.holds Try.pinned (OpenSpec.ofChange fnExactCountLineSpec)

/-- ITS FALSE NEIGHBOUR: 'it returns false'. Refute it at one input. -/
def fnExactCountLineWrong : ChangeSpec := { name := "fnExactCountLine", fn := fun _ => fun
  | [d] => { results := [.lit (.bool false)], args := [d] }
  | _ => none }
def FnExactCountLineWrongFalsely : Prop := fnExactCountLineRow.holds Try.pinned (OpenSpec.ofChange fnExactCountLineWrong)

/- THE SECOND FORM. 'bulk': how many values and letters a reading holds, each counted each time it is reached (what is shared counts as often as it is met; a slice's spare places count too). A statement '..UptoSaid' is the law's where the arguments, and the package variables that the reading takes, are together of bulk at most 1048576: NARROWER than '..Said'. Prove '..Said' where nothing that the law and all that it calls make is longer than what came in: it says more and counts as full. Else prove '..UptoSaid'. A law counts once. -/
mutual
def uptoBulk {H : Type} : DataW H → Nat
  | .lit (.string bytes) => bytes.length + 1
  | .lit _ => 1
  | .nil => 1
  | .ptr d => uptoBulk d + 1
  | .slice elems spare => uptoBulkAll elems + uptoBulkAll spare + 1
  | .agg parts => uptoBulkAll parts + 1
  | .iface _ d => uptoBulk d + 1
  | .map entries => uptoBulkEntries entries + 1
  | .held _ => 1
def uptoBulkAll {H : Type} : List (DataW H) → Nat
  | [] => 0
  | d :: r => uptoBulk d + uptoBulkAll r
def uptoBulkEntries {H : Type} : List (Lit × DataW H) → Nat
  | [] => 0
  | x :: r => uptoBulkEntry x + uptoBulkEntries r
def uptoBulkEntry {H : Type} : Lit × DataW H → Nat
  | (.string bytes, d) => bytes.length + uptoBulk d + 1
  | (_, d) => uptoBulk d + 1
 end
def uptoSmall : (H : Type) → List (DataW H) → Bool := fun _ ds => decide (uptoBulkAll ds ≤ 1048576)
def OpenSpec.upto (s : _root_.Go.ChangeSpec) : _root_.Go.OpenSpec := { _root_.Go.OpenSpec.ofChange s with cond := some uptoSmall }

/-- 'laws.FnExactPathLine', WHERE WHAT IT READS IS OF BULK AT MOST 1048576: true; the input reads as it did. -/
def fnExactPathLineUptoRow : OpenClaim := { program := "ytdifmcppfcbgdaa", sum := "aaeeb22b8d1511a2b2d7b319bebc2e1665f7ba6f08c56291312cad934e350b86", func := "loop.example/g03401/laws.FnExactPathLine", spec := "fnExactPathLine", plainKeys := false, apart := false, narrowed := true }
def FnExactPathLineUptoSaid : Prop := fnExactPathLineUptoRow.holds Try.pinned (OpenSpec.upto fnExactPathLineSpec)

/-- 'laws.FnExactWriteAs', WHERE WHAT IT READS IS OF BULK AT MOST 1048576: true; the input reads as it did. -/
def fnExactWriteAsUptoRow : OpenClaim := { program := "ytdifmcppfcbgdaa", sum := "aaeeb22b8d1511a2b2d7b319bebc2e1665f7ba6f08c56291312cad934e350b86", func := "loop.example/g03401/laws.FnExactWriteAs", spec := "fnExactWriteAs", unfollowed := true, recurses := true, plainKeys := false, apart := false, narrowed := true }
def FnExactWriteAsUptoSaid : Prop := fnExactWriteAsUptoRow.holds Try.pinned (OpenSpec.upto fnExactWriteAsSpec)

/-- 'laws.FnExactKindsLine', WHERE WHAT IT READS IS OF BULK AT MOST 1048576: true; the input reads as it did. -/
def fnExactKindsLineUptoRow : OpenClaim := { program := "ytdifmcppfcbgdaa", sum := "aaeeb22b8d1511a2b2d7b319bebc2e1665f7ba6f08c56291312cad934e350b86", func := "loop.example/g03401/laws.FnExactKindsLine", spec := "fnExactKindsLine", unfollowed := true, recurses := true, plainKeys := false, apart := false, narrowed := true }
def FnExactKindsLineUptoSaid : Prop := fnExactKindsLineUptoRow.holds Try.pinned (OpenSpec.upto fnExactKindsLineSpec)

/-- 'laws.FnExactListOf', WHERE WHAT IT READS IS OF BULK AT MOST 1048576: true; the input reads as it did. -/
def fnExactListOfUptoRow : OpenClaim := { program := "ytdifmcppfcbgdaa", sum := "aaeeb22b8d1511a2b2d7b319bebc2e1665f7ba6f08c56291312cad934e350b86", func := "loop.example/g03401/laws.FnExactListOf", spec := "fnExactListOf", unfollowed := true, recurses := true, plainKeys := false, apart := false, narrowed := true }
def FnExactListOfUptoSaid : Prop := fnExactListOfUptoRow.holds Try.pinned (OpenSpec.upto fnExactListOfSpec)

/-- 'laws.FnPolynomials', WHERE WHAT IT READS IS OF BULK AT MOST 1048576: true; the input reads as it did. -/
def fnPolynomialsUptoRow : OpenClaim := { program := "ytdifmcppfcbgdaa", sum := "aaeeb22b8d1511a2b2d7b319bebc2e1665f7ba6f08c56291312cad934e350b86", func := "loop.example/g03401/laws.FnPolynomials", spec := "fnPolynomials", unfollowed := true, recurses := true, plainKeys := false, apart := false, narrowed := true }
def FnPolynomialsUptoSaid : Prop := fnPolynomialsUptoRow.holds Try.pinned (OpenSpec.upto fnPolynomialsSpec)

/-- 'laws.FnKreweras', WHERE WHAT IT READS IS OF BULK AT MOST 1048576: true; the input reads as it did. -/
def fnKrewerasUptoRow : OpenClaim := { program := "ytdifmcppfcbgdaa", sum := "aaeeb22b8d1511a2b2d7b319bebc2e1665f7ba6f08c56291312cad934e350b86", func := "loop.example/g03401/laws.FnKreweras", spec := "fnKreweras", unfollowed := true, recurses := true, plainKeys := false, apart := false, narrowed := true }
def FnKrewerasUptoSaid : Prop := fnKrewerasUptoRow.holds Try.pinned (OpenSpec.upto fnKrewerasSpec)

/-- 'laws.FnExactCountLine', WHERE WHAT IT READS IS OF BULK AT MOST 1048576: true; the input reads as it did. -/
def fnExactCountLineUptoRow : OpenClaim := { program := "ytdifmcppfcbgdaa", sum := "aaeeb22b8d1511a2b2d7b319bebc2e1665f7ba6f08c56291312cad934e350b86", func := "loop.example/g03401/laws.FnExactCountLine", spec := "fnExactCountLine", unfollowed := true, recurses := true, plainKeys := false, apart := false, narrowed := true }
def FnExactCountLineUptoSaid : Prop := fnExactCountLineUptoRow.holds Try.pinned (OpenSpec.upto fnExactCountLineSpec)

end Rows
end Go.Proofs.Ytdifmcppfcbgdaa
