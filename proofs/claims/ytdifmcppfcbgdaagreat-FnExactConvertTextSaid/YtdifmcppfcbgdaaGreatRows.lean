/-
  No cell of these rows narrows 'for every input' (looked for: loops, veiled, ifaces, maps, wideKeys, modest, calm, conditions, laid).
  DERIVED. THE GIVEN ROWS OF THIS SEAT. 5 by the template 'for every input the law returns true; each argument reads behind the call as it read before'; 0 by the template 'total and deterministic' (their statements: YtdifmcppfcbgdaaGreatTotals.lean).
  GIVEN WITH THE SEED: the statements are not yours to turn. If you find one false, say at which input.
  Laid BY PROGRAM, IN A SANDBOX (cutbox-rows.mjs): the forced cells as the released guide's own fill.sh prints them over the translation f0a3b59a273d32d3… (all of the seat's roots in one cut). By AI agents, Wed Nov 11 2026. No macro, syntax, notation, axiom, sorry.
-/
import Derived.Test.YtdifmcppfcbgdaaGreatChecked
import GoSem.Claim
import GoSem.ClaimJoined
import GoSem.ClaimMapViews
import Derived.JoinedTies
import Derived.KernelRfl
namespace Go.Proofs.YtdifmcppfcbgdaaGreat
/- THE CELL 'sum', in the pinned program and in every row, IS THE sha256 OF THE DUMP (.gsa) THAT YtdifmcppfcbgdaaGreatProg.lean LOADS. Nothing in Lean hashes anything: it is a label: what it is worth is what the hold of that sum in a sandbox is worth. -/
noncomputable def Tryz.pinned : Pinned := { name := "ytdifmcppfcbgdaagreat", sum := "f0a3b59a273d32d39e4f81753e94a7f5ca4853d2b5a6f665d2ff55e7fea4ce2a", checked := Tryz.checked }
namespace Rows
def none {H : Type} : Left H := { results := [], args := [] }

/-- 'laws.FnExactReadAs': WHATEVER THE INPUT: true; the input reads as it did. -/
def fnExactReadAsSpec : ChangeSpec := { name := "fnExactReadAs", fn := fun _ => fun
  | [d1, d2] => { results := [.lit (.bool true)], args := [d1, d2] }
  | _ => none }
def fnExactReadAsRow : OpenClaim := { program := "ytdifmcppfcbgdaagreat", sum := "f0a3b59a273d32d39e4f81753e94a7f5ca4853d2b5a6f665d2ff55e7fea4ce2a", func := "loop.example/g03401/laws.FnExactReadAs", spec := "fnExactReadAs", unfollowed := true, recurses := true, apart := false }
def FnExactReadAsSaid : Prop := fnExactReadAsRow.holds Tryz.pinned (OpenSpec.ofChange fnExactReadAsSpec)

/-- ITS FALSE NEIGHBOUR: 'it returns false'. Refute it at one input. -/
def fnExactReadAsWrong : ChangeSpec := { name := "fnExactReadAs", fn := fun _ => fun
  | [d1, d2] => { results := [.lit (.bool false)], args := [d1, d2] }
  | _ => none }
def FnExactReadAsWrongFalsely : Prop := fnExactReadAsRow.holds Tryz.pinned (OpenSpec.ofChange fnExactReadAsWrong)

/-- 'laws.FnExactPlaceIn': WHATEVER THE INPUT: true; the input reads as it did. -/
def fnExactPlaceInSpec : ChangeSpec := { name := "fnExactPlaceIn", fn := fun _ => fun
  | [d1, d2] => { results := [.lit (.bool true)], args := [d1, d2] }
  | _ => none }
def fnExactPlaceInRow : OpenClaim := { program := "ytdifmcppfcbgdaagreat", sum := "f0a3b59a273d32d39e4f81753e94a7f5ca4853d2b5a6f665d2ff55e7fea4ce2a", func := "loop.example/g03401/laws.FnExactPlaceIn", spec := "fnExactPlaceIn", unfollowed := true, recurses := true, apart := false }
def FnExactPlaceInSaid : Prop := fnExactPlaceInRow.holds Tryz.pinned (OpenSpec.ofChange fnExactPlaceInSpec)

/-- ITS FALSE NEIGHBOUR: 'it returns false'. Refute it at one input. -/
def fnExactPlaceInWrong : ChangeSpec := { name := "fnExactPlaceIn", fn := fun _ => fun
  | [d1, d2] => { results := [.lit (.bool false)], args := [d1, d2] }
  | _ => none }
def FnExactPlaceInWrongFalsely : Prop := fnExactPlaceInRow.holds Tryz.pinned (OpenSpec.ofChange fnExactPlaceInWrong)

/-- 'laws.FnExactConvertText': WHATEVER THE INPUT: true; the input reads as it did. -/
def fnExactConvertTextSpec : ChangeSpec := { name := "fnExactConvertText", fn := fun _ => fun
  | [d1, d2, d3] => { results := [.lit (.bool true)], args := [d1, d2, d3] }
  | _ => none }
def fnExactConvertTextRow : OpenClaim := { program := "ytdifmcppfcbgdaagreat", sum := "f0a3b59a273d32d39e4f81753e94a7f5ca4853d2b5a6f665d2ff55e7fea4ce2a", func := "loop.example/g03401/laws.FnExactConvertText", spec := "fnExactConvertText", unfollowed := true, recurses := true, apart := false }
def FnExactConvertTextSaid : Prop := fnExactConvertTextRow.holds Tryz.pinned (OpenSpec.ofChange fnExactConvertTextSpec)

/-- ITS FALSE NEIGHBOUR: 'it returns false'. Refute it at one input. -/
def fnExactConvertTextWrong : ChangeSpec := { name := "fnExactConvertText", fn := fun _ => fun
  | [d1, d2, d3] => { results := [.lit (.bool false)], args := [d1, d2, d3] }
  | _ => none }
def FnExactConvertTextWrongFalsely : Prop := fnExactConvertTextRow.holds Tryz.pinned (OpenSpec.ofChange fnExactConvertTextWrong)

/-- 'laws.FnTop': WHATEVER THE INPUT: true; the input reads as it did. -/
def fnTopSpec : ChangeSpec := { name := "fnTop", fn := fun _ => fun
  | [d] => { results := [.lit (.bool true)], args := [d] }
  | _ => none }
def fnTopRow : OpenClaim := { program := "ytdifmcppfcbgdaagreat", sum := "f0a3b59a273d32d39e4f81753e94a7f5ca4853d2b5a6f665d2ff55e7fea4ce2a", func := "loop.example/g03401/laws.FnTop", spec := "fnTop", unfollowed := true, recurses := true, apart := false }
def FnTopSaid : Prop := fnTopRow.holds Tryz.pinned (OpenSpec.ofChange fnTopSpec)

/-- ITS FALSE NEIGHBOUR: 'it returns false'. Refute it at one input. -/
def fnTopWrong : ChangeSpec := { name := "fnTop", fn := fun _ => fun
  | [d] => { results := [.lit (.bool false)], args := [d] }
  | _ => none }
def FnTopWrongFalsely : Prop := fnTopRow.holds Tryz.pinned (OpenSpec.ofChange fnTopWrong)

/-- 'laws.FnExactSieveLine': WHATEVER THE INPUT: true; the input reads as it did. -/
def fnExactSieveLineSpec : ChangeSpec := { name := "fnExactSieveLine", fn := fun _ => fun
  | [d1, d2] => { results := [.lit (.bool true)], args := [d1, d2] }
  | _ => none }
def fnExactSieveLineRow : OpenClaim := { program := "ytdifmcppfcbgdaagreat", sum := "f0a3b59a273d32d39e4f81753e94a7f5ca4853d2b5a6f665d2ff55e7fea4ce2a", func := "loop.example/g03401/laws.FnExactSieveLine", spec := "fnExactSieveLine", unfollowed := true, recurses := true, apart := false }
def FnExactSieveLineSaid : Prop := fnExactSieveLineRow.holds Tryz.pinned (OpenSpec.ofChange fnExactSieveLineSpec)

/-- ITS FALSE NEIGHBOUR: 'it returns false'. Refute it at one input. -/
def fnExactSieveLineWrong : ChangeSpec := { name := "fnExactSieveLine", fn := fun _ => fun
  | [d1, d2] => { results := [.lit (.bool false)], args := [d1, d2] }
  | _ => none }
def FnExactSieveLineWrongFalsely : Prop := fnExactSieveLineRow.holds Tryz.pinned (OpenSpec.ofChange fnExactSieveLineWrong)

/- THE SECOND FORM. 'bulk': how many values and letters a reading holds, each counted each time it is reached (what is shared counts as often as it is met; a slice's spare places count too). A statement '..UptoSaid' is the law's where the arguments, and the package variables that the reading takes, are together of bulk at most 1048576: NARROWER than '..Said'. Prove '..Said' where nothing that the law and all that it calls make is longer than what came in: it says more and counts as full. Else prove '..UptoSaid'. A law counts once. -/
mutual
def uptoBulk {H : Type} : DataW H → Nat
  | .lit (.string bytes) => bytes.length + 1
  | .lit _ => 1
  | .nil => 1
  | .ptr d => uptoBulk d + 1
  | .slice elems spare => uptoBulkAll elems + uptoBulkAll spare + 1
  | .agg parts => uptoBulkAll parts + 1
  | .iface _ d => uptoBulk d + 1
  | .map entries => uptoBulkEntries entries + 1
  | .held _ => 1
def uptoBulkAll {H : Type} : List (DataW H) → Nat
  | [] => 0
  | d :: r => uptoBulk d + uptoBulkAll r
def uptoBulkEntries {H : Type} : List (Lit × DataW H) → Nat
  | [] => 0
  | x :: r => uptoBulkEntry x + uptoBulkEntries r
def uptoBulkEntry {H : Type} : Lit × DataW H → Nat
  | (.string bytes, d) => bytes.length + uptoBulk d + 1
  | (_, d) => uptoBulk d + 1
 end
def uptoSmall : (H : Type) → List (DataW H) → Bool := fun _ ds => decide (uptoBulkAll ds ≤ 1048576)
def OpenSpec.upto (s : _root_.Go.ChangeSpec) : _root_.Go.OpenSpec := { _root_.Go.OpenSpec.ofChange s with cond := some uptoSmall }

/-- 'laws.FnExactReadAs', WHERE WHAT IT READS IS OF BULK AT MOST 1048576: true; the input reads as it did. -/
def fnExactReadAsUptoRow : OpenClaim := { program := "ytdifmcppfcbgdaagreat", sum := "f0a3b59a273d32d39e4f81753e94a7f5ca4853d2b5a6f665d2ff55e7fea4ce2a", func := "loop.example/g03401/laws.FnExactReadAs", spec := "fnExactReadAs", unfollowed := true, recurses := true, apart := false, narrowed := true }
def FnExactReadAsUptoSaid : Prop := fnExactReadAsUptoRow.holds Tryz.pinned (OpenSpec.upto fnExactReadAsSpec)

/-- 'laws.FnExactPlaceIn', WHERE WHAT IT READS IS OF BULK AT MOST 1048576: true; the input reads as it did. -/
def fnExactPlaceInUptoRow : OpenClaim := { program := "ytdifmcppfcbgdaagreat", sum := "f0a3b59a273d32d39e4f81753e94a7f5ca4853d2b5a6f665d2ff55e7fea4ce2a", func := "loop.example/g03401/laws.FnExactPlaceIn", spec := "fnExactPlaceIn", unfollowed := true, recurses := true, apart := false, narrowed := true }
def FnExactPlaceInUptoSaid : Prop := fnExactPlaceInUptoRow.holds Tryz.pinned (OpenSpec.upto fnExactPlaceInSpec)

/-- 'laws.FnExactConvertText', WHERE WHAT IT READS IS OF BULK AT MOST 1048576: true; the input reads as it did. -/
def fnExactConvertTextUptoRow : OpenClaim := { program := "ytdifmcppfcbgdaagreat", sum := "f0a3b59a273d32d39e4f81753e94a7f5ca4853d2b5a6f665d2ff55e7fea4ce2a", func := "loop.example/g03401/laws.FnExactConvertText", spec := "fnExactConvertText", unfollowed := true, recurses := true, apart := false, narrowed := true }
def FnExactConvertTextUptoSaid : Prop := fnExactConvertTextUptoRow.holds Tryz.pinned (OpenSpec.upto fnExactConvertTextSpec)

/-- 'laws.FnTop', WHERE WHAT IT READS IS OF BULK AT MOST 1048576: true; the input reads as it did. -/
def fnTopUptoRow : OpenClaim := { program := "ytdifmcppfcbgdaagreat", sum := "f0a3b59a273d32d39e4f81753e94a7f5ca4853d2b5a6f665d2ff55e7fea4ce2a", func := "loop.example/g03401/laws.FnTop", spec := "fnTop", unfollowed := true, recurses := true, apart := false, narrowed := true }
def FnTopUptoSaid : Prop := fnTopUptoRow.holds Tryz.pinned (OpenSpec.upto fnTopSpec)

/-- 'laws.FnExactSieveLine', WHERE WHAT IT READS IS OF BULK AT MOST 1048576: true; the input reads as it did. -/
def fnExactSieveLineUptoRow : OpenClaim := { program := "ytdifmcppfcbgdaagreat", sum := "f0a3b59a273d32d39e4f81753e94a7f5ca4853d2b5a6f665d2ff55e7fea4ce2a", func := "loop.example/g03401/laws.FnExactSieveLine", spec := "fnExactSieveLine", unfollowed := true, recurses := true, apart := false, narrowed := true }
def FnExactSieveLineUptoSaid : Prop := fnExactSieveLineUptoRow.holds Tryz.pinned (OpenSpec.upto fnExactSieveLineSpec)

end Rows
end Go.Proofs.YtdifmcppfcbgdaaGreat
