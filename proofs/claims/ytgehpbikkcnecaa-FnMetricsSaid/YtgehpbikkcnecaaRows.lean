/-
  No cell of these rows narrows 'for every input' (looked for: loops, veiled, ifaces, maps, wideKeys, modest, calm, conditions, laid).
  DERIVED. THE GIVEN ROWS OF THIS SEAT. 7 by the template 'for every input the law returns true; each argument reads behind the call as it read before'; 0 by the template 'total and deterministic' (their statements: YtgehpbikkcnecaaTotals.lean).
  GIVEN WITH THE SEED: the statements are not yours to turn. If you find one false, say at which input.
  Laid BY PROGRAM, IN A SANDBOX (cutbox-rows.mjs): the forced cells as the released guide's own fill.sh prints them over the translation a7af5220f7634976… (all of the seat's roots in one cut). By AI agents, Wed Nov 11 2026. No macro, syntax, notation, axiom, sorry.
-/
import Derived.Test.YtgehpbikkcnecaaChecked
import GoSem.Claim
import GoSem.ClaimJoined
import GoSem.ClaimMapViews
import Derived.JoinedTies
import Derived.KernelRfl
namespace Go.Proofs.Ytgehpbikkcnecaa
/- THE CELL 'sum', in the pinned program and in every row, IS THE sha256 OF THE DUMP (.gsa) THAT YtgehpbikkcnecaaProg.lean LOADS. Nothing in Lean hashes anything: it is a label: what it is worth is what the hold of that sum in a sandbox is worth. -/
noncomputable def Try.pinned : Pinned := { name := "ytgehpbikkcnecaa", sum := "a7af5220f76349766e3433f099210ca509ca1f3b572be3747c9a537a00d8b5cf", checked := Try.checked }
namespace Rows
def none {H : Type} : Left H := { results := [], args := [] }

/-- 'laws.FnExactFScore': WHATEVER THE INPUT: true; the input reads as it did. -/
def fnExactFScoreSpec : ChangeSpec := { name := "fnExactFScore", fn := fun _ => fun
  | [d] => { results := [.lit (.bool true)], args := [d] }
  | _ => none }
def fnExactFScoreRow : OpenClaim := { program := "ytgehpbikkcnecaa", sum := "a7af5220f76349766e3433f099210ca509ca1f3b572be3747c9a537a00d8b5cf", func := "loop.example/g01923/laws.FnExactFScore", spec := "fnExactFScore", apart := false }
def FnExactFScoreSaid : Prop := fnExactFScoreRow.holds Try.pinned (OpenSpec.ofChange fnExactFScoreSpec)

/-- ITS FALSE NEIGHBOUR: 'it returns false'. Refute it at one input. -/
def fnExactFScoreWrong : ChangeSpec := { name := "fnExactFScore", fn := fun _ => fun
  | [d] => { results := [.lit (.bool false)], args := [d] }
  | _ => none }
def FnExactFScoreWrongFalsely : Prop := fnExactFScoreRow.holds Try.pinned (OpenSpec.ofChange fnExactFScoreWrong)

/-- 'laws.FnExactPrecision': WHATEVER THE INPUT: true; the input reads as it did. -/
def fnExactPrecisionSpec : ChangeSpec := { name := "fnExactPrecision", fn := fun _ => fun
  | [d] => { results := [.lit (.bool true)], args := [d] }
  | _ => none }
def fnExactPrecisionRow : OpenClaim := { program := "ytgehpbikkcnecaa", sum := "a7af5220f76349766e3433f099210ca509ca1f3b572be3747c9a537a00d8b5cf", func := "loop.example/g01923/laws.FnExactPrecision", spec := "fnExactPrecision", apart := false }
def FnExactPrecisionSaid : Prop := fnExactPrecisionRow.holds Try.pinned (OpenSpec.ofChange fnExactPrecisionSpec)

/-- ITS FALSE NEIGHBOUR: 'it returns false'. Refute it at one input. -/
def fnExactPrecisionWrong : ChangeSpec := { name := "fnExactPrecision", fn := fun _ => fun
  | [d] => { results := [.lit (.bool false)], args := [d] }
  | _ => none }
def FnExactPrecisionWrongFalsely : Prop := fnExactPrecisionRow.holds Try.pinned (OpenSpec.ofChange fnExactPrecisionWrong)

/-- 'laws.FnExactRecall': WHATEVER THE INPUT: true; the input reads as it did. -/
def fnExactRecallSpec : ChangeSpec := { name := "fnExactRecall", fn := fun _ => fun
  | [d] => { results := [.lit (.bool true)], args := [d] }
  | _ => none }
def fnExactRecallRow : OpenClaim := { program := "ytgehpbikkcnecaa", sum := "a7af5220f76349766e3433f099210ca509ca1f3b572be3747c9a537a00d8b5cf", func := "loop.example/g01923/laws.FnExactRecall", spec := "fnExactRecall", apart := false }
def FnExactRecallSaid : Prop := fnExactRecallRow.holds Try.pinned (OpenSpec.ofChange fnExactRecallSpec)

/-- ITS FALSE NEIGHBOUR: 'it returns false'. Refute it at one input. -/
def fnExactRecallWrong : ChangeSpec := { name := "fnExactRecall", fn := fun _ => fun
  | [d] => { results := [.lit (.bool false)], args := [d] }
  | _ => none }
def FnExactRecallWrongFalsely : Prop := fnExactRecallRow.holds Try.pinned (OpenSpec.ofChange fnExactRecallWrong)

/-- 'laws.FnExactCountPairs': WHATEVER THE INPUT: true; the input reads as it did. -/
def fnExactCountPairsSpec : ChangeSpec := { name := "fnExactCountPairs", fn := fun _ => fun
  | [d1, d2] => { results := [.lit (.bool true)], args := [d1, d2] }
  | _ => none }
def fnExactCountPairsRow : OpenClaim := { program := "ytgehpbikkcnecaa", sum := "a7af5220f76349766e3433f099210ca509ca1f3b572be3747c9a537a00d8b5cf", func := "loop.example/g01923/laws.FnExactCountPairs", spec := "fnExactCountPairs", apart := false }
def FnExactCountPairsSaid : Prop := fnExactCountPairsRow.holds Try.pinned (OpenSpec.ofChange fnExactCountPairsSpec)

/-- ITS FALSE NEIGHBOUR: 'it returns false'. Refute it at one input. -/
def fnExactCountPairsWrong : ChangeSpec := { name := "fnExactCountPairs", fn := fun _ => fun
  | [d1, d2] => { results := [.lit (.bool false)], args := [d1, d2] }
  | _ => none }
def FnExactCountPairsWrongFalsely : Prop := fnExactCountPairsRow.holds Try.pinned (OpenSpec.ofChange fnExactCountPairsWrong)

/-- 'laws.FnExactExactBlocks': WHATEVER THE INPUT: true; the input reads as it did. -/
def fnExactExactBlocksSpec : ChangeSpec := { name := "fnExactExactBlocks", fn := fun _ => fun
  | [d1, d2] => { results := [.lit (.bool true)], args := [d1, d2] }
  | _ => none }
def fnExactExactBlocksRow : OpenClaim := { program := "ytgehpbikkcnecaa", sum := "a7af5220f76349766e3433f099210ca509ca1f3b572be3747c9a537a00d8b5cf", func := "loop.example/g01923/laws.FnExactExactBlocks", spec := "fnExactExactBlocks", unfollowed := true, recurses := true, apart := false }
def FnExactExactBlocksSaid : Prop := fnExactExactBlocksRow.holds Try.pinned (OpenSpec.ofChange fnExactExactBlocksSpec)

/-- ITS FALSE NEIGHBOUR: 'it returns false'. Refute it at one input. -/
def fnExactExactBlocksWrong : ChangeSpec := { name := "fnExactExactBlocks", fn := fun _ => fun
  | [d1, d2] => { results := [.lit (.bool false)], args := [d1, d2] }
  | _ => none }
def FnExactExactBlocksWrongFalsely : Prop := fnExactExactBlocksRow.holds Try.pinned (OpenSpec.ofChange fnExactExactBlocksWrong)

/-- 'laws.FnExactPartitionDistance': WHATEVER THE INPUT: true; the input reads as it did. -/
def fnExactPartitionDistanceSpec : ChangeSpec := { name := "fnExactPartitionDistance", fn := fun _ => fun
  | [d1, d2] => { results := [.lit (.bool true)], args := [d1, d2] }
  | _ => none }
def fnExactPartitionDistanceRow : OpenClaim := { program := "ytgehpbikkcnecaa", sum := "a7af5220f76349766e3433f099210ca509ca1f3b572be3747c9a537a00d8b5cf", func := "loop.example/g01923/laws.FnExactPartitionDistance", spec := "fnExactPartitionDistance", unfollowed := true, recurses := true, apart := false }
def FnExactPartitionDistanceSaid : Prop := fnExactPartitionDistanceRow.holds Try.pinned (OpenSpec.ofChange fnExactPartitionDistanceSpec)

/-- ITS FALSE NEIGHBOUR: 'it returns false'. Refute it at one input. -/
def fnExactPartitionDistanceWrong : ChangeSpec := { name := "fnExactPartitionDistance", fn := fun _ => fun
  | [d1, d2] => { results := [.lit (.bool false)], args := [d1, d2] }
  | _ => none }
def FnExactPartitionDistanceWrongFalsely : Prop := fnExactPartitionDistanceRow.holds Try.pinned (OpenSpec.ofChange fnExactPartitionDistanceWrong)

/-- 'laws.FnMetrics': WHATEVER THE INPUT: true; the input reads as it did. -/
def fnMetricsSpec : ChangeSpec := { name := "fnMetrics", fn := fun _ => fun
  | [d] => { results := [.lit (.bool true)], args := [d] }
  | _ => none }
def fnMetricsRow : OpenClaim := { program := "ytgehpbikkcnecaa", sum := "a7af5220f76349766e3433f099210ca509ca1f3b572be3747c9a537a00d8b5cf", func := "loop.example/g01923/laws.FnMetrics", spec := "fnMetrics", unfollowed := true, recurses := true, apart := false }
def FnMetricsSaid : Prop := fnMetricsRow.holds Try.pinned (OpenSpec.ofChange fnMetricsSpec)

/-- ITS FALSE NEIGHBOUR: 'it returns false'. Refute it at one input. -/
def fnMetricsWrong : ChangeSpec := { name := "fnMetrics", fn := fun _ => fun
  | [d] => { results := [.lit (.bool false)], args := [d] }
  | _ => none }
def FnMetricsWrongFalsely : Prop := fnMetricsRow.holds Try.pinned (OpenSpec.ofChange fnMetricsWrong)

/- THE SECOND FORM. 'bulk': how many values and letters a reading holds, each counted each time it is reached (what is shared counts as often as it is met; a slice's spare places count too). A statement '..UptoSaid' is the law's where the arguments, and the package variables that the reading takes, are together of bulk at most 1048576: NARROWER than '..Said'. Prove '..Said' where nothing that the law and all that it calls make is longer than what came in: it says more and counts as full. Else prove '..UptoSaid'. A law counts once. -/
mutual
def uptoBulk {H : Type} : DataW H → Nat
  | .lit (.string bytes) => bytes.length + 1
  | .lit _ => 1
  | .nil => 1
  | .ptr d => uptoBulk d + 1
  | .slice elems spare => uptoBulkAll elems + uptoBulkAll spare + 1
  | .agg parts => uptoBulkAll parts + 1
  | .iface _ d => uptoBulk d + 1
  | .map entries => uptoBulkEntries entries + 1
  | .held _ => 1
def uptoBulkAll {H : Type} : List (DataW H) → Nat
  | [] => 0
  | d :: r => uptoBulk d + uptoBulkAll r
def uptoBulkEntries {H : Type} : List (Lit × DataW H) → Nat
  | [] => 0
  | x :: r => uptoBulkEntry x + uptoBulkEntries r
def uptoBulkEntry {H : Type} : Lit × DataW H → Nat
  | (.string bytes, d) => bytes.length + uptoBulk d + 1
  | (_, d) => uptoBulk d + 1
 end
def uptoSmall : (H : Type) → List (DataW H) → Bool := fun _ ds => decide (uptoBulkAll ds ≤ 1048576)
def OpenSpec.upto (s : _root_.Go.ChangeSpec) : _root_.Go.OpenSpec := { _root_.Go.OpenSpec.ofChange s with cond := some uptoSmall }

/-- 'laws.FnExactFScore', WHERE WHAT IT READS IS OF BULK AT MOST 1048576: true; the input reads as it did. -/
def fnExactFScoreUptoRow : OpenClaim := { program := "ytgehpbikkcnecaa", sum := "a7af5220f76349766e3433f099210ca509ca1f3b572be3747c9a537a00d8b5cf", func := "loop.example/g01923/laws.FnExactFScore", spec := "fnExactFScore", apart := false, narrowed := true }
def FnExactFScoreUptoSaid : Prop := fnExactFScoreUptoRow.holds Try.pinned (OpenSpec.upto fnExactFScoreSpec)

/-- 'laws.FnExactPrecision', WHERE WHAT IT READS IS OF BULK AT MOST 1048576: true; the input reads as it did. -/
def fnExactPrecisionUptoRow : OpenClaim := { program := "ytgehpbikkcnecaa", sum := "a7af5220f76349766e3433f099210ca509ca1f3b572be3747c9a537a00d8b5cf", func := "loop.example/g01923/laws.FnExactPrecision", spec := "fnExactPrecision", apart := false, narrowed := true }
def FnExactPrecisionUptoSaid : Prop := fnExactPrecisionUptoRow.holds Try.pinned (OpenSpec.upto fnExactPrecisionSpec)

/-- 'laws.FnExactRecall', WHERE WHAT IT READS IS OF BULK AT MOST 1048576: true; the input reads as it did. -/
def fnExactRecallUptoRow : OpenClaim := { program := "ytgehpbikkcnecaa", sum := "a7af5220f76349766e3433f099210ca509ca1f3b572be3747c9a537a00d8b5cf", func := "loop.example/g01923/laws.FnExactRecall", spec := "fnExactRecall", apart := false, narrowed := true }
def FnExactRecallUptoSaid : Prop := fnExactRecallUptoRow.holds Try.pinned (OpenSpec.upto fnExactRecallSpec)

/-- 'laws.FnExactCountPairs', WHERE WHAT IT READS IS OF BULK AT MOST 1048576: true; the input reads as it did. -/
def fnExactCountPairsUptoRow : OpenClaim := { program := "ytgehpbikkcnecaa", sum := "a7af5220f76349766e3433f099210ca509ca1f3b572be3747c9a537a00d8b5cf", func := "loop.example/g01923/laws.FnExactCountPairs", spec := "fnExactCountPairs", apart := false, narrowed := true }
def FnExactCountPairsUptoSaid : Prop := fnExactCountPairsUptoRow.holds Try.pinned (OpenSpec.upto fnExactCountPairsSpec)

/-- 'laws.FnExactExactBlocks', WHERE WHAT IT READS IS OF BULK AT MOST 1048576: true; the input reads as it did. -/
def fnExactExactBlocksUptoRow : OpenClaim := { program := "ytgehpbikkcnecaa", sum := "a7af5220f76349766e3433f099210ca509ca1f3b572be3747c9a537a00d8b5cf", func := "loop.example/g01923/laws.FnExactExactBlocks", spec := "fnExactExactBlocks", unfollowed := true, recurses := true, apart := false, narrowed := true }
def FnExactExactBlocksUptoSaid : Prop := fnExactExactBlocksUptoRow.holds Try.pinned (OpenSpec.upto fnExactExactBlocksSpec)

/-- 'laws.FnExactPartitionDistance', WHERE WHAT IT READS IS OF BULK AT MOST 1048576: true; the input reads as it did. -/
def fnExactPartitionDistanceUptoRow : OpenClaim := { program := "ytgehpbikkcnecaa", sum := "a7af5220f76349766e3433f099210ca509ca1f3b572be3747c9a537a00d8b5cf", func := "loop.example/g01923/laws.FnExactPartitionDistance", spec := "fnExactPartitionDistance", unfollowed := true, recurses := true, apart := false, narrowed := true }
def FnExactPartitionDistanceUptoSaid : Prop := fnExactPartitionDistanceUptoRow.holds Try.pinned (OpenSpec.upto fnExactPartitionDistanceSpec)

/-- 'laws.FnMetrics', WHERE WHAT IT READS IS OF BULK AT MOST 1048576: true; the input reads as it did. -/
def fnMetricsUptoRow : OpenClaim := { program := "ytgehpbikkcnecaa", sum := "a7af5220f76349766e3433f099210ca509ca1f3b572be3747c9a537a00d8b5cf", func := "loop.example/g01923/laws.FnMetrics", spec := "fnMetrics", unfollowed := true, recurses := true, apart := false, narrowed := true }
def FnMetricsUptoSaid : Prop := fnMetricsUptoRow.holds Try.pinned (OpenSpec.upto fnMetricsSpec)

end Rows
end Go.Proofs.Ytgehpbikkcnecaa
