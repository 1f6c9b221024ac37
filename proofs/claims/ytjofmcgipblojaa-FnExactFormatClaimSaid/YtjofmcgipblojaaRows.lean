/-
  No cell of these rows narrows 'for every input' (looked for: loops, veiled, ifaces, maps, wideKeys, modest, calm, conditions, laid).
  DERIVED. THE GIVEN ROWS OF THIS SEAT. 5 by the template 'for every input the law returns true; each argument reads behind the call as it read before'; 0 by the template 'total and deterministic' (their statements: YtjofmcgipblojaaTotals.lean).
  GIVEN WITH THE SEED: the statements are not yours to turn. If you find one false, say at which input.
  Laid BY PROGRAM, IN A SANDBOX (cutbox-rows.mjs): the forced cells as the released guide's own fill.sh prints them over the translation 6a010cc286d40d08… (all of the seat's roots in one cut). By AI agents, Wed Nov 11 2026. No macro, syntax, notation, axiom, sorry.
-/
import Derived.Test.YtjofmcgipblojaaChecked
import GoSem.Claim
import GoSem.ClaimJoined
import GoSem.ClaimMapViews
import Derived.JoinedTies
import Derived.KernelRfl
namespace Go.Proofs.Ytjofmcgipblojaa
/- THE CELL 'sum', in the pinned program and in every row, IS THE sha256 OF THE DUMP (.gsa) THAT YtjofmcgipblojaaProg.lean LOADS. Nothing in Lean hashes anything: it is a label: what it is worth is what the hold of that sum in a sandbox is worth. -/
noncomputable def Try.pinned : Pinned := { name := "ytjofmcgipblojaa", sum := "6a010cc286d40d08d98f4ff0d26e9de5baf1fd0c9b92e963191eb2c4756780fc", checked := Try.checked }
namespace Rows
def none {H : Type} : Left H := { results := [], args := [] }

/-- 'laws.FnExactClaimOfMeander': WHATEVER THE INPUT: true; the input reads as it did. -/
def fnExactClaimOfMeanderSpec : ChangeSpec := { name := "fnExactClaimOfMeander", fn := fun _ => fun
  | [d] => { results := [.lit (.bool true)], args := [d] }
  | _ => none }
def fnExactClaimOfMeanderRow : OpenClaim := { program := "ytjofmcgipblojaa", sum := "6a010cc286d40d08d98f4ff0d26e9de5baf1fd0c9b92e963191eb2c4756780fc", func := "loop.example/g03401/laws.FnExactClaimOfMeander", spec := "fnExactClaimOfMeander", unfollowed := true, recurses := true, apart := false }
def FnExactClaimOfMeanderSaid : Prop := fnExactClaimOfMeanderRow.holds Try.pinned (OpenSpec.ofChange fnExactClaimOfMeanderSpec)

/-- ITS FALSE NEIGHBOUR: 'it returns false'. Refute it at one input. -/
def fnExactClaimOfMeanderWrong : ChangeSpec := { name := "fnExactClaimOfMeander", fn := fun _ => fun
  | [d] => { results := [.lit (.bool false)], args := [d] }
  | _ => none }
def FnExactClaimOfMeanderWrongFalsely : Prop := fnExactClaimOfMeanderRow.holds Try.pinned (OpenSpec.ofChange fnExactClaimOfMeanderWrong)

/-- 'laws.FnExactClaimOfFrieze': WHATEVER THE INPUT: true; the input reads as it did. -/
def fnExactClaimOfFriezeSpec : ChangeSpec := { name := "fnExactClaimOfFrieze", fn := fun _ => fun
  | [d] => { results := [.lit (.bool true)], args := [d] }
  | _ => none }
def fnExactClaimOfFriezeRow : OpenClaim := { program := "ytjofmcgipblojaa", sum := "6a010cc286d40d08d98f4ff0d26e9de5baf1fd0c9b92e963191eb2c4756780fc", func := "loop.example/g03401/laws.FnExactClaimOfFrieze", spec := "fnExactClaimOfFrieze", unfollowed := true, recurses := true, apart := false }
def FnExactClaimOfFriezeSaid : Prop := fnExactClaimOfFriezeRow.holds Try.pinned (OpenSpec.ofChange fnExactClaimOfFriezeSpec)

/-- ITS FALSE NEIGHBOUR: 'it returns false'. Refute it at one input. -/
def fnExactClaimOfFriezeWrong : ChangeSpec := { name := "fnExactClaimOfFrieze", fn := fun _ => fun
  | [d] => { results := [.lit (.bool false)], args := [d] }
  | _ => none }
def FnExactClaimOfFriezeWrongFalsely : Prop := fnExactClaimOfFriezeRow.holds Try.pinned (OpenSpec.ofChange fnExactClaimOfFriezeWrong)

/-- 'laws.FnExactClaimOfDistance': WHATEVER THE INPUT: true; the input reads as it did. -/
def fnExactClaimOfDistanceSpec : ChangeSpec := { name := "fnExactClaimOfDistance", fn := fun _ => fun
  | [d1, d2] => { results := [.lit (.bool true)], args := [d1, d2] }
  | _ => none }
def fnExactClaimOfDistanceRow : OpenClaim := { program := "ytjofmcgipblojaa", sum := "6a010cc286d40d08d98f4ff0d26e9de5baf1fd0c9b92e963191eb2c4756780fc", func := "loop.example/g03401/laws.FnExactClaimOfDistance", spec := "fnExactClaimOfDistance", unfollowed := true, recurses := true, apart := false }
def FnExactClaimOfDistanceSaid : Prop := fnExactClaimOfDistanceRow.holds Try.pinned (OpenSpec.ofChange fnExactClaimOfDistanceSpec)

/-- ITS FALSE NEIGHBOUR: 'it returns false'. Refute it at one input. -/
def fnExactClaimOfDistanceWrong : ChangeSpec := { name := "fnExactClaimOfDistance", fn := fun _ => fun
  | [d1, d2] => { results := [.lit (.bool false)], args := [d1, d2] }
  | _ => none }
def FnExactClaimOfDistanceWrongFalsely : Prop := fnExactClaimOfDistanceRow.holds Try.pinned (OpenSpec.ofChange fnExactClaimOfDistanceWrong)

/-- 'laws.FnExactClaimOfOrder': WHATEVER THE INPUT: true; the input reads as it did. -/
def fnExactClaimOfOrderSpec : ChangeSpec := { name := "fnExactClaimOfOrder", fn := fun _ => fun
  | [d1, d2] => { results := [.lit (.bool true)], args := [d1, d2] }
  | _ => none }
def fnExactClaimOfOrderRow : OpenClaim := { program := "ytjofmcgipblojaa", sum := "6a010cc286d40d08d98f4ff0d26e9de5baf1fd0c9b92e963191eb2c4756780fc", func := "loop.example/g03401/laws.FnExactClaimOfOrder", spec := "fnExactClaimOfOrder", unfollowed := true, recurses := true, apart := false }
def FnExactClaimOfOrderSaid : Prop := fnExactClaimOfOrderRow.holds Try.pinned (OpenSpec.ofChange fnExactClaimOfOrderSpec)

/-- ITS FALSE NEIGHBOUR: 'it returns false'. Refute it at one input. -/
def fnExactClaimOfOrderWrong : ChangeSpec := { name := "fnExactClaimOfOrder", fn := fun _ => fun
  | [d1, d2] => { results := [.lit (.bool false)], args := [d1, d2] }
  | _ => none }
def FnExactClaimOfOrderWrongFalsely : Prop := fnExactClaimOfOrderRow.holds Try.pinned (OpenSpec.ofChange fnExactClaimOfOrderWrong)

/-- 'laws.FnExactFormatClaim': WHATEVER THE INPUT: true; the input reads as it did. -/
def fnExactFormatClaimSpec : ChangeSpec := { name := "fnExactFormatClaim", fn := fun _ => fun
  | [d] => { results := [.lit (.bool true)], args := [d] }
  | _ => none }
def fnExactFormatClaimRow : OpenClaim := { program := "ytjofmcgipblojaa", sum := "6a010cc286d40d08d98f4ff0d26e9de5baf1fd0c9b92e963191eb2c4756780fc", func := "loop.example/g03401/laws.FnExactFormatClaim", spec := "fnExactFormatClaim", recurses := true, apart := false }
def FnExactFormatClaimSaid : Prop := fnExactFormatClaimRow.holds Try.pinned (OpenSpec.ofChange fnExactFormatClaimSpec)

/-- ITS FALSE NEIGHBOUR: 'it returns false'. Refute it at one input. -/
def fnExactFormatClaimWrong : ChangeSpec := { name := "fnExactFormatClaim", fn := fun _ => fun
  | [d] => { results := [.lit (.bool false)], args := [d] }
  | _ => none }
def FnExactFormatClaimWrongFalsely : Prop := fnExactFormatClaimRow.holds Try.pinned (OpenSpec.ofChange fnExactFormatClaimWrong)

/- THE SECOND FORM. 'bulk': how many values and letters a reading holds, each counted each time it is reached (what is shared counts as often as it is met; a slice's spare places count too). A statement '..UptoSaid' is the law's where the arguments, and the package variables that the reading takes, are together of bulk at most 1048576: NARROWER than '..Said'. Prove '..Said' where nothing that the law and all that it calls make is longer than what came in: it says more and counts as full. Else prove '..UptoSaid'. A law counts once. -/
mutual
def uptoBulk {H : Type} : DataW H → Nat
  | .lit (.string bytes) => bytes.length + 1
  | .lit _ => 1
  | .nil => 1
  | .ptr d => uptoBulk d + 1
  | .slice elems spare => uptoBulkAll elems + uptoBulkAll spare + 1
  | .agg parts => uptoBulkAll parts + 1
  | .iface _ d => uptoBulk d + 1
  | .map entries => uptoBulkEntries entries + 1
  | .held _ => 1
def uptoBulkAll {H : Type} : List (DataW H) → Nat
  | [] => 0
  | d :: r => uptoBulk d + uptoBulkAll r
def uptoBulkEntries {H : Type} : List (Lit × DataW H) → Nat
  | [] => 0
  | x :: r => uptoBulkEntry x + uptoBulkEntries r
def uptoBulkEntry {H : Type} : Lit × DataW H → Nat
  | (.string bytes, d) => bytes.length + uptoBulk d + 1
  | (_, d) => uptoBulk d + 1
 end
def uptoSmall : (H : Type) → List (DataW H) → Bool := fun _ ds => decide (uptoBulkAll ds ≤ 1048576)
def OpenSpec.upto (s : _root_.Go.ChangeSpec) : _root_.Go.OpenSpec := { _root_.Go.OpenSpec.ofChange s with cond := some uptoSmall }

/-- 'laws.FnExactClaimOfMeander', WHERE WHAT IT READS IS OF BULK AT MOST 1048576: true; the input reads as it did. -/
def fnExactClaimOfMeanderUptoRow : OpenClaim := { program := "ytjofmcgipblojaa", sum := "6a010cc286d40d08d98f4ff0d26e9de5baf1fd0c9b92e963191eb2c4756780fc", func := "loop.example/g03401/laws.FnExactClaimOfMeander", spec := "fnExactClaimOfMeander", unfollowed := true, recurses := true, apart := false, narrowed := true }
def FnExactClaimOfMeanderUptoSaid : Prop := fnExactClaimOfMeanderUptoRow.holds Try.pinned (OpenSpec.upto fnExactClaimOfMeanderSpec)

/-- 'laws.FnExactClaimOfFrieze', WHERE WHAT IT READS IS OF BULK AT MOST 1048576: true; the input reads as it did. -/
def fnExactClaimOfFriezeUptoRow : OpenClaim := { program := "ytjofmcgipblojaa", sum := "6a010cc286d40d08d98f4ff0d26e9de5baf1fd0c9b92e963191eb2c4756780fc", func := "loop.example/g03401/laws.FnExactClaimOfFrieze", spec := "fnExactClaimOfFrieze", unfollowed := true, recurses := true, apart := false, narrowed := true }
def FnExactClaimOfFriezeUptoSaid : Prop := fnExactClaimOfFriezeUptoRow.holds Try.pinned (OpenSpec.upto fnExactClaimOfFriezeSpec)

/-- 'laws.FnExactClaimOfDistance', WHERE WHAT IT READS IS OF BULK AT MOST 1048576: true; the input reads as it did. -/
def fnExactClaimOfDistanceUptoRow : OpenClaim := { program := "ytjofmcgipblojaa", sum := "6a010cc286d40d08d98f4ff0d26e9de5baf1fd0c9b92e963191eb2c4756780fc", func := "loop.example/g03401/laws.FnExactClaimOfDistance", spec := "fnExactClaimOfDistance", unfollowed := true, recurses := true, apart := false, narrowed := true }
def FnExactClaimOfDistanceUptoSaid : Prop := fnExactClaimOfDistanceUptoRow.holds Try.pinned (OpenSpec.upto fnExactClaimOfDistanceSpec)

/-- 'laws.FnExactClaimOfOrder', WHERE WHAT IT READS IS OF BULK AT MOST 1048576: true; the input reads as it did. -/
def fnExactClaimOfOrderUptoRow : OpenClaim := { program := "ytjofmcgipblojaa", sum := "6a010cc286d40d08d98f4ff0d26e9de5baf1fd0c9b92e963191eb2c4756780fc", func := "loop.example/g03401/laws.FnExactClaimOfOrder", spec := "fnExactClaimOfOrder", unfollowed := true, recurses := true, apart := false, narrowed := true }
def FnExactClaimOfOrderUptoSaid : Prop := fnExactClaimOfOrderUptoRow.holds Try.pinned (OpenSpec.upto fnExactClaimOfOrderSpec)

/-- 'laws.FnExactFormatClaim', WHERE WHAT IT READS IS OF BULK AT MOST 1048576: true; the input reads as it did. -/
def fnExactFormatClaimUptoRow : OpenClaim := { program := "ytjofmcgipblojaa", sum := "6a010cc286d40d08d98f4ff0d26e9de5baf1fd0c9b92e963191eb2c4756780fc", func := "loop.example/g03401/laws.FnExactFormatClaim", spec := "fnExactFormatClaim", recurses := true, apart := false, narrowed := true }
def FnExactFormatClaimUptoSaid : Prop := fnExactFormatClaimUptoRow.holds Try.pinned (OpenSpec.upto fnExactFormatClaimSpec)

end Rows
end Go.Proofs.Ytjofmcgipblojaa
