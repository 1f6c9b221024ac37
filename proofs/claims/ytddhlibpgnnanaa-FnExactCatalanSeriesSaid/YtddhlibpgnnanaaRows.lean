/-
  No cell of these rows narrows 'for every input' (looked for: loops, veiled, ifaces, maps, wideKeys, modest, calm, conditions, laid).
  DERIVED. THE GIVEN ROWS OF THIS SEAT. 12 by the template 'for every input the law returns true; each argument reads behind the call as it read before'; 0 by the template 'total and deterministic' (their statements: YtddhlibpgnnanaaTotals.lean).
  GIVEN WITH THE SEED: the statements are not yours to turn. If you find one false, say at which input.
  Laid BY PROGRAM, IN A SANDBOX (cutbox-rows.mjs): the forced cells as the released guide's own fill.sh prints them over the translation 7746394b1963afff… (all of the seat's roots in one cut). By AI agents, Wed Nov 11 2026. No macro, syntax, notation, axiom, sorry.
-/
import Derived.Test.YtddhlibpgnnanaaChecked
import GoSem.Claim
import GoSem.ClaimJoined
import GoSem.ClaimMapViews
import Derived.JoinedTies
import Derived.KernelRfl
namespace Go.Proofs.Ytddhlibpgnnanaa
/- THE CELL 'sum', in the pinned program and in every row, IS THE sha256 OF THE DUMP (.gsa) THAT YtddhlibpgnnanaaProg.lean LOADS. Nothing in Lean hashes anything: it is a label: what it is worth is what the hold of that sum in a sandbox is worth. -/
noncomputable def Try.pinned : Pinned := { name := "ytddhlibpgnnanaa", sum := "7746394b1963afff1e6aa17436f804f536ada60c517dd480b9e2ae9cf188f1e9", checked := Try.checked }
namespace Rows
def none {H : Type} : Left H := { results := [], args := [] }

/-- 'laws.FnExactCountWithin': WHATEVER THE INPUT: true; the input reads as it did. -/
def fnExactCountWithinSpec : ChangeSpec := { name := "fnExactCountWithin", fn := fun _ => fun
  | [d1, d2] => { results := [.lit (.bool true)], args := [d1, d2] }
  | _ => none }
def fnExactCountWithinRow : OpenClaim := { program := "ytddhlibpgnnanaa", sum := "7746394b1963afff1e6aa17436f804f536ada60c517dd480b9e2ae9cf188f1e9", func := "loop.example/g03401/laws.FnExactCountWithin", spec := "fnExactCountWithin", apart := false }
def FnExactCountWithinSaid : Prop := fnExactCountWithinRow.holds Try.pinned (OpenSpec.ofChange fnExactCountWithinSpec)

/-- ITS FALSE NEIGHBOUR: 'it returns false'. Refute it at one input. -/
def fnExactCountWithinWrong : ChangeSpec := { name := "fnExactCountWithin", fn := fun _ => fun
  | [d1, d2] => { results := [.lit (.bool false)], args := [d1, d2] }
  | _ => none }
def FnExactCountWithinWrongFalsely : Prop := fnExactCountWithinRow.holds Try.pinned (OpenSpec.ofChange fnExactCountWithinWrong)

/-- 'laws.FnExactKindNames': WHATEVER THE INPUT: true; the input reads as it did. -/
def fnExactKindNamesSpec : ChangeSpec := { name := "fnExactKindNames", fn := fun _ => fun
  | [] => { results := [.lit (.bool true)], args := [] }
  | _ => none }
def fnExactKindNamesRow : OpenClaim := { program := "ytddhlibpgnnanaa", sum := "7746394b1963afff1e6aa17436f804f536ada60c517dd480b9e2ae9cf188f1e9", func := "loop.example/g03401/laws.FnExactKindNames", spec := "fnExactKindNames", apart := false }
def FnExactKindNamesSaid : Prop := fnExactKindNamesRow.holds Try.pinned (OpenSpec.ofChange fnExactKindNamesSpec)

/-- ITS FALSE NEIGHBOUR: 'it returns false'. Refute it at one input. -/
def fnExactKindNamesWrong : ChangeSpec := { name := "fnExactKindNames", fn := fun _ => fun
  | [] => { results := [.lit (.bool false)], args := [] }
  | _ => none }
def FnExactKindNamesWrongFalsely : Prop := fnExactKindNamesRow.holds Try.pinned (OpenSpec.ofChange fnExactKindNamesWrong)

/-- 'laws.FnExactIsBad': WHATEVER THE INPUT: true; the input reads as it did. -/
def fnExactIsBadSpec : ChangeSpec := { name := "fnExactIsBad", fn := fun _ => fun
  | [d] => { results := [.lit (.bool true)], args := [d] }
  | _ => none }
def fnExactIsBadRow : OpenClaim := { program := "ytddhlibpgnnanaa", sum := "7746394b1963afff1e6aa17436f804f536ada60c517dd480b9e2ae9cf188f1e9", func := "loop.example/g03401/laws.FnExactIsBad", spec := "fnExactIsBad", apart := false }
def FnExactIsBadSaid : Prop := fnExactIsBadRow.holds Try.pinned (OpenSpec.ofChange fnExactIsBadSpec)

/-- ITS FALSE NEIGHBOUR: 'it returns false'. Refute it at one input. -/
def fnExactIsBadWrong : ChangeSpec := { name := "fnExactIsBad", fn := fun _ => fun
  | [d] => { results := [.lit (.bool false)], args := [d] }
  | _ => none }
def FnExactIsBadWrongFalsely : Prop := fnExactIsBadRow.holds Try.pinned (OpenSpec.ofChange fnExactIsBadWrong)

/-- 'laws.FnExactMultiplySeries': WHATEVER THE INPUT: true; the input reads as it did. -/
def fnExactMultiplySeriesSpec : ChangeSpec := { name := "fnExactMultiplySeries", fn := fun _ => fun
  | [d1, d2] => { results := [.lit (.bool true)], args := [d1, d2] }
  | _ => none }
def fnExactMultiplySeriesRow : OpenClaim := { program := "ytddhlibpgnnanaa", sum := "7746394b1963afff1e6aa17436f804f536ada60c517dd480b9e2ae9cf188f1e9", func := "loop.example/g03401/laws.FnExactMultiplySeries", spec := "fnExactMultiplySeries", apart := false }
def FnExactMultiplySeriesSaid : Prop := fnExactMultiplySeriesRow.holds Try.pinned (OpenSpec.ofChange fnExactMultiplySeriesSpec)

/-- ITS FALSE NEIGHBOUR: 'it returns false'. Refute it at one input. -/
def fnExactMultiplySeriesWrong : ChangeSpec := { name := "fnExactMultiplySeries", fn := fun _ => fun
  | [d1, d2] => { results := [.lit (.bool false)], args := [d1, d2] }
  | _ => none }
def FnExactMultiplySeriesWrongFalsely : Prop := fnExactMultiplySeriesRow.holds Try.pinned (OpenSpec.ofChange fnExactMultiplySeriesWrong)

/-- 'laws.FnExactSatisfiesCatalan': WHATEVER THE INPUT: true; the input reads as it did. -/
def fnExactSatisfiesCatalanSpec : ChangeSpec := { name := "fnExactSatisfiesCatalan", fn := fun _ => fun
  | [d] => { results := [.lit (.bool true)], args := [d] }
  | _ => none }
def fnExactSatisfiesCatalanRow : OpenClaim := { program := "ytddhlibpgnnanaa", sum := "7746394b1963afff1e6aa17436f804f536ada60c517dd480b9e2ae9cf188f1e9", func := "loop.example/g03401/laws.FnExactSatisfiesCatalan", spec := "fnExactSatisfiesCatalan", apart := false }
def FnExactSatisfiesCatalanSaid : Prop := fnExactSatisfiesCatalanRow.holds Try.pinned (OpenSpec.ofChange fnExactSatisfiesCatalanSpec)

/-- ITS FALSE NEIGHBOUR: 'it returns false'. Refute it at one input. -/
def fnExactSatisfiesCatalanWrong : ChangeSpec := { name := "fnExactSatisfiesCatalan", fn := fun _ => fun
  | [d] => { results := [.lit (.bool false)], args := [d] }
  | _ => none }
def FnExactSatisfiesCatalanWrongFalsely : Prop := fnExactSatisfiesCatalanRow.holds Try.pinned (OpenSpec.ofChange fnExactSatisfiesCatalanWrong)

/-- 'laws.FnExactPatternOf231': WHATEVER THE INPUT: true; the input reads as it did. -/
def fnExactPatternOf231Spec : ChangeSpec := { name := "fnExactPatternOf231", fn := fun _ => fun
  | [d] => { results := [.lit (.bool true)], args := [d] }
  | _ => none }
def fnExactPatternOf231Row : OpenClaim := { program := "ytddhlibpgnnanaa", sum := "7746394b1963afff1e6aa17436f804f536ada60c517dd480b9e2ae9cf188f1e9", func := "loop.example/g03401/laws.FnExactPatternOf231", spec := "fnExactPatternOf231", apart := false }
def FnExactPatternOf231Said : Prop := fnExactPatternOf231Row.holds Try.pinned (OpenSpec.ofChange fnExactPatternOf231Spec)

/-- ITS FALSE NEIGHBOUR: 'it returns false'. Refute it at one input. -/
def fnExactPatternOf231Wrong : ChangeSpec := { name := "fnExactPatternOf231", fn := fun _ => fun
  | [d] => { results := [.lit (.bool false)], args := [d] }
  | _ => none }
def FnExactPatternOf231WrongFalsely : Prop := fnExactPatternOf231Row.holds Try.pinned (OpenSpec.ofChange fnExactPatternOf231Wrong)

/-- 'laws.FnExactBubbleOnce': WHATEVER THE INPUT: true; the input reads as it did. -/
def fnExactBubbleOnceSpec : ChangeSpec := { name := "fnExactBubbleOnce", fn := fun _ => fun
  | [d] => { results := [.lit (.bool true)], args := [d] }
  | _ => none }
def fnExactBubbleOnceRow : OpenClaim := { program := "ytddhlibpgnnanaa", sum := "7746394b1963afff1e6aa17436f804f536ada60c517dd480b9e2ae9cf188f1e9", func := "loop.example/g03401/laws.FnExactBubbleOnce", spec := "fnExactBubbleOnce", apart := false }
def FnExactBubbleOnceSaid : Prop := fnExactBubbleOnceRow.holds Try.pinned (OpenSpec.ofChange fnExactBubbleOnceSpec)

/-- ITS FALSE NEIGHBOUR: 'it returns false'. Refute it at one input. -/
def fnExactBubbleOnceWrong : ChangeSpec := { name := "fnExactBubbleOnce", fn := fun _ => fun
  | [d] => { results := [.lit (.bool false)], args := [d] }
  | _ => none }
def FnExactBubbleOnceWrongFalsely : Prop := fnExactBubbleOnceRow.holds Try.pinned (OpenSpec.ofChange fnExactBubbleOnceWrong)

/-- 'laws.FnExactUnreflectWord': WHATEVER THE INPUT: true; the input reads as it did. -/
def fnExactUnreflectWordSpec : ChangeSpec := { name := "fnExactUnreflectWord", fn := fun _ => fun
  | [d] => { results := [.lit (.bool true)], args := [d] }
  | _ => none }
def fnExactUnreflectWordRow : OpenClaim := { program := "ytddhlibpgnnanaa", sum := "7746394b1963afff1e6aa17436f804f536ada60c517dd480b9e2ae9cf188f1e9", func := "loop.example/g03401/laws.FnExactUnreflectWord", spec := "fnExactUnreflectWord", apart := false }
def FnExactUnreflectWordSaid : Prop := fnExactUnreflectWordRow.holds Try.pinned (OpenSpec.ofChange fnExactUnreflectWordSpec)

/-- ITS FALSE NEIGHBOUR: 'it returns false'. Refute it at one input. -/
def fnExactUnreflectWordWrong : ChangeSpec := { name := "fnExactUnreflectWord", fn := fun _ => fun
  | [d] => { results := [.lit (.bool false)], args := [d] }
  | _ => none }
def FnExactUnreflectWordWrongFalsely : Prop := fnExactUnreflectWordRow.holds Try.pinned (OpenSpec.ofChange fnExactUnreflectWordWrong)

/-- 'laws.FnExactInverseSeries': WHATEVER THE INPUT: true; the input reads as it did. -/
def fnExactInverseSeriesSpec : ChangeSpec := { name := "fnExactInverseSeries", fn := fun _ => fun
  | [d] => { results := [.lit (.bool true)], args := [d] }
  | _ => none }
def fnExactInverseSeriesRow : OpenClaim := { program := "ytddhlibpgnnanaa", sum := "7746394b1963afff1e6aa17436f804f536ada60c517dd480b9e2ae9cf188f1e9", func := "loop.example/g03401/laws.FnExactInverseSeries", spec := "fnExactInverseSeries", apart := false }
def FnExactInverseSeriesSaid : Prop := fnExactInverseSeriesRow.holds Try.pinned (OpenSpec.ofChange fnExactInverseSeriesSpec)

/-- ITS FALSE NEIGHBOUR: 'it returns false'. Refute it at one input. -/
def fnExactInverseSeriesWrong : ChangeSpec := { name := "fnExactInverseSeries", fn := fun _ => fun
  | [d] => { results := [.lit (.bool false)], args := [d] }
  | _ => none }
def FnExactInverseSeriesWrongFalsely : Prop := fnExactInverseSeriesRow.holds Try.pinned (OpenSpec.ofChange fnExactInverseSeriesWrong)

/-- 'laws.FnExactBinomialTransform': WHATEVER THE INPUT: true; the input reads as it did. -/
def fnExactBinomialTransformSpec : ChangeSpec := { name := "fnExactBinomialTransform", fn := fun _ => fun
  | [d] => { results := [.lit (.bool true)], args := [d] }
  | _ => none }
def fnExactBinomialTransformRow : OpenClaim := { program := "ytddhlibpgnnanaa", sum := "7746394b1963afff1e6aa17436f804f536ada60c517dd480b9e2ae9cf188f1e9", func := "loop.example/g03401/laws.FnExactBinomialTransform", spec := "fnExactBinomialTransform", apart := false }
def FnExactBinomialTransformSaid : Prop := fnExactBinomialTransformRow.holds Try.pinned (OpenSpec.ofChange fnExactBinomialTransformSpec)

/-- ITS FALSE NEIGHBOUR: 'it returns false'. Refute it at one input. -/
def fnExactBinomialTransformWrong : ChangeSpec := { name := "fnExactBinomialTransform", fn := fun _ => fun
  | [d] => { results := [.lit (.bool false)], args := [d] }
  | _ => none }
def FnExactBinomialTransformWrongFalsely : Prop := fnExactBinomialTransformRow.holds Try.pinned (OpenSpec.ofChange fnExactBinomialTransformWrong)

/-- 'laws.FnExactCatalanSeries': WHATEVER THE INPUT: true; the input reads as it did. -/
def fnExactCatalanSeriesSpec : ChangeSpec := { name := "fnExactCatalanSeries", fn := fun _ => fun
  | [d] => { results := [.lit (.bool true)], args := [d] }
  | _ => none }
def fnExactCatalanSeriesRow : OpenClaim := { program := "ytddhlibpgnnanaa", sum := "7746394b1963afff1e6aa17436f804f536ada60c517dd480b9e2ae9cf188f1e9", func := "loop.example/g03401/laws.FnExactCatalanSeries", spec := "fnExactCatalanSeries", apart := false }
def FnExactCatalanSeriesSaid : Prop := fnExactCatalanSeriesRow.holds Try.pinned (OpenSpec.ofChange fnExactCatalanSeriesSpec)

/-- ITS FALSE NEIGHBOUR: 'it returns false'. Refute it at one input. -/
def fnExactCatalanSeriesWrong : ChangeSpec := { name := "fnExactCatalanSeries", fn := fun _ => fun
  | [d] => { results := [.lit (.bool false)], args := [d] }
  | _ => none }
def FnExactCatalanSeriesWrongFalsely : Prop := fnExactCatalanSeriesRow.holds Try.pinned (OpenSpec.ofChange fnExactCatalanSeriesWrong)

/-- 'laws.FnExactSortOnce': WHATEVER THE INPUT: true; the input reads as it did. -/
def fnExactSortOnceSpec : ChangeSpec := { name := "fnExactSortOnce", fn := fun _ => fun
  | [d] => { results := [.lit (.bool true)], args := [d] }
  | _ => none }
def fnExactSortOnceRow : OpenClaim := { program := "ytddhlibpgnnanaa", sum := "7746394b1963afff1e6aa17436f804f536ada60c517dd480b9e2ae9cf188f1e9", func := "loop.example/g03401/laws.FnExactSortOnce", spec := "fnExactSortOnce", apart := false }
def FnExactSortOnceSaid : Prop := fnExactSortOnceRow.holds Try.pinned (OpenSpec.ofChange fnExactSortOnceSpec)

/-- ITS FALSE NEIGHBOUR: 'it returns false'. Refute it at one input. -/
def fnExactSortOnceWrong : ChangeSpec := { name := "fnExactSortOnce", fn := fun _ => fun
  | [d] => { results := [.lit (.bool false)], args := [d] }
  | _ => none }
def FnExactSortOnceWrongFalsely : Prop := fnExactSortOnceRow.holds Try.pinned (OpenSpec.ofChange fnExactSortOnceWrong)

/- THE SECOND FORM. 'bulk': how many values and letters a reading holds, each counted each time it is reached (what is shared counts as often as it is met; a slice's spare places count too). A statement '..UptoSaid' is the law's where the arguments, and the package variables that the reading takes, are together of bulk at most 1048576: NARROWER than '..Said'. Prove '..Said' where nothing that the law and all that it calls make is longer than what came in: it says more and counts as full. Else prove '..UptoSaid'. A law counts once. -/
mutual
def uptoBulk {H : Type} : DataW H → Nat
  | .lit (.string bytes) => bytes.length + 1
  | .lit _ => 1
  | .nil => 1
  | .ptr d => uptoBulk d + 1
  | .slice elems spare => uptoBulkAll elems + uptoBulkAll spare + 1
  | .agg parts => uptoBulkAll parts + 1
  | .iface _ d => uptoBulk d + 1
  | .map entries => uptoBulkEntries entries + 1
  | .held _ => 1
def uptoBulkAll {H : Type} : List (DataW H) → Nat
  | [] => 0
  | d :: r => uptoBulk d + uptoBulkAll r
def uptoBulkEntries {H : Type} : List (Lit × DataW H) → Nat
  | [] => 0
  | x :: r => uptoBulkEntry x + uptoBulkEntries r
def uptoBulkEntry {H : Type} : Lit × DataW H → Nat
  | (.string bytes, d) => bytes.length + uptoBulk d + 1
  | (_, d) => uptoBulk d + 1
 end
def uptoSmall : (H : Type) → List (DataW H) → Bool := fun _ ds => decide (uptoBulkAll ds ≤ 1048576)
def OpenSpec.upto (s : _root_.Go.ChangeSpec) : _root_.Go.OpenSpec := { _root_.Go.OpenSpec.ofChange s with cond := some uptoSmall }

/-- 'laws.FnExactCountWithin', WHERE WHAT IT READS IS OF BULK AT MOST 1048576: true; the input reads as it did. -/
def fnExactCountWithinUptoRow : OpenClaim := { program := "ytddhlibpgnnanaa", sum := "7746394b1963afff1e6aa17436f804f536ada60c517dd480b9e2ae9cf188f1e9", func := "loop.example/g03401/laws.FnExactCountWithin", spec := "fnExactCountWithin", apart := false, narrowed := true }
def FnExactCountWithinUptoSaid : Prop := fnExactCountWithinUptoRow.holds Try.pinned (OpenSpec.upto fnExactCountWithinSpec)

/-- 'laws.FnExactKindNames', WHERE WHAT IT READS IS OF BULK AT MOST 1048576: true; the input reads as it did. -/
def fnExactKindNamesUptoRow : OpenClaim := { program := "ytddhlibpgnnanaa", sum := "7746394b1963afff1e6aa17436f804f536ada60c517dd480b9e2ae9cf188f1e9", func := "loop.example/g03401/laws.FnExactKindNames", spec := "fnExactKindNames", apart := false, narrowed := true }
def FnExactKindNamesUptoSaid : Prop := fnExactKindNamesUptoRow.holds Try.pinned (OpenSpec.upto fnExactKindNamesSpec)

/-- 'laws.FnExactIsBad', WHERE WHAT IT READS IS OF BULK AT MOST 1048576: true; the input reads as it did. -/
def fnExactIsBadUptoRow : OpenClaim := { program := "ytddhlibpgnnanaa", sum := "7746394b1963afff1e6aa17436f804f536ada60c517dd480b9e2ae9cf188f1e9", func := "loop.example/g03401/laws.FnExactIsBad", spec := "fnExactIsBad", apart := false, narrowed := true }
def FnExactIsBadUptoSaid : Prop := fnExactIsBadUptoRow.holds Try.pinned (OpenSpec.upto fnExactIsBadSpec)

/-- 'laws.FnExactMultiplySeries', WHERE WHAT IT READS IS OF BULK AT MOST 1048576: true; the input reads as it did. -/
def fnExactMultiplySeriesUptoRow : OpenClaim := { program := "ytddhlibpgnnanaa", sum := "7746394b1963afff1e6aa17436f804f536ada60c517dd480b9e2ae9cf188f1e9", func := "loop.example/g03401/laws.FnExactMultiplySeries", spec := "fnExactMultiplySeries", apart := false, narrowed := true }
def FnExactMultiplySeriesUptoSaid : Prop := fnExactMultiplySeriesUptoRow.holds Try.pinned (OpenSpec.upto fnExactMultiplySeriesSpec)

/-- 'laws.FnExactSatisfiesCatalan', WHERE WHAT IT READS IS OF BULK AT MOST 1048576: true; the input reads as it did. -/
def fnExactSatisfiesCatalanUptoRow : OpenClaim := { program := "ytddhlibpgnnanaa", sum := "7746394b1963afff1e6aa17436f804f536ada60c517dd480b9e2ae9cf188f1e9", func := "loop.example/g03401/laws.FnExactSatisfiesCatalan", spec := "fnExactSatisfiesCatalan", apart := false, narrowed := true }
def FnExactSatisfiesCatalanUptoSaid : Prop := fnExactSatisfiesCatalanUptoRow.holds Try.pinned (OpenSpec.upto fnExactSatisfiesCatalanSpec)

/-- 'laws.FnExactPatternOf231', WHERE WHAT IT READS IS OF BULK AT MOST 1048576: true; the input reads as it did. -/
def fnExactPatternOf231UptoRow : OpenClaim := { program := "ytddhlibpgnnanaa", sum := "7746394b1963afff1e6aa17436f804f536ada60c517dd480b9e2ae9cf188f1e9", func := "loop.example/g03401/laws.FnExactPatternOf231", spec := "fnExactPatternOf231", apart := false, narrowed := true }
def FnExactPatternOf231UptoSaid : Prop := fnExactPatternOf231UptoRow.holds Try.pinned (OpenSpec.upto fnExactPatternOf231Spec)

/-- 'laws.FnExactBubbleOnce', WHERE WHAT IT READS IS OF BULK AT MOST 1048576: true; the input reads as it did. -/
def fnExactBubbleOnceUptoRow : OpenClaim := { program := "ytddhlibpgnnanaa", sum := "7746394b1963afff1e6aa17436f804f536ada60c517dd480b9e2ae9cf188f1e9", func := "loop.example/g03401/laws.FnExactBubbleOnce", spec := "fnExactBubbleOnce", apart := false, narrowed := true }
def FnExactBubbleOnceUptoSaid : Prop := fnExactBubbleOnceUptoRow.holds Try.pinned (OpenSpec.upto fnExactBubbleOnceSpec)

/-- 'laws.FnExactUnreflectWord', WHERE WHAT IT READS IS OF BULK AT MOST 1048576: true; the input reads as it did. -/
def fnExactUnreflectWordUptoRow : OpenClaim := { program := "ytddhlibpgnnanaa", sum := "7746394b1963afff1e6aa17436f804f536ada60c517dd480b9e2ae9cf188f1e9", func := "loop.example/g03401/laws.FnExactUnreflectWord", spec := "fnExactUnreflectWord", apart := false, narrowed := true }
def FnExactUnreflectWordUptoSaid : Prop := fnExactUnreflectWordUptoRow.holds Try.pinned (OpenSpec.upto fnExactUnreflectWordSpec)

/-- 'laws.FnExactInverseSeries', WHERE WHAT IT READS IS OF BULK AT MOST 1048576: true; the input reads as it did. -/
def fnExactInverseSeriesUptoRow : OpenClaim := { program := "ytddhlibpgnnanaa", sum := "7746394b1963afff1e6aa17436f804f536ada60c517dd480b9e2ae9cf188f1e9", func := "loop.example/g03401/laws.FnExactInverseSeries", spec := "fnExactInverseSeries", apart := false, narrowed := true }
def FnExactInverseSeriesUptoSaid : Prop := fnExactInverseSeriesUptoRow.holds Try.pinned (OpenSpec.upto fnExactInverseSeriesSpec)

/-- 'laws.FnExactBinomialTransform', WHERE WHAT IT READS IS OF BULK AT MOST 1048576: true; the input reads as it did. -/
def fnExactBinomialTransformUptoRow : OpenClaim := { program := "ytddhlibpgnnanaa", sum := "7746394b1963afff1e6aa17436f804f536ada60c517dd480b9e2ae9cf188f1e9", func := "loop.example/g03401/laws.FnExactBinomialTransform", spec := "fnExactBinomialTransform", apart := false, narrowed := true }
def FnExactBinomialTransformUptoSaid : Prop := fnExactBinomialTransformUptoRow.holds Try.pinned (OpenSpec.upto fnExactBinomialTransformSpec)

/-- 'laws.FnExactCatalanSeries', WHERE WHAT IT READS IS OF BULK AT MOST 1048576: true; the input reads as it did. -/
def fnExactCatalanSeriesUptoRow : OpenClaim := { program := "ytddhlibpgnnanaa", sum := "7746394b1963afff1e6aa17436f804f536ada60c517dd480b9e2ae9cf188f1e9", func := "loop.example/g03401/laws.FnExactCatalanSeries", spec := "fnExactCatalanSeries", apart := false, narrowed := true }
def FnExactCatalanSeriesUptoSaid : Prop := fnExactCatalanSeriesUptoRow.holds Try.pinned (OpenSpec.upto fnExactCatalanSeriesSpec)

/-- 'laws.FnExactSortOnce', WHERE WHAT IT READS IS OF BULK AT MOST 1048576: true; the input reads as it did. -/
def fnExactSortOnceUptoRow : OpenClaim := { program := "ytddhlibpgnnanaa", sum := "7746394b1963afff1e6aa17436f804f536ada60c517dd480b9e2ae9cf188f1e9", func := "loop.example/g03401/laws.FnExactSortOnce", spec := "fnExactSortOnce", apart := false, narrowed := true }
def FnExactSortOnceUptoSaid : Prop := fnExactSortOnceUptoRow.holds Try.pinned (OpenSpec.upto fnExactSortOnceSpec)

end Rows
end Go.Proofs.Ytddhlibpgnnanaa
