/-
  No cell of these rows narrows 'for every input' (looked for: loops, veiled, ifaces, maps, wideKeys, modest, calm, conditions, laid).
  DERIVED. THE GIVEN ROWS OF THIS SEAT. 12 by the template 'for every input the law returns true; each argument reads behind the call as it read before'; 0 by the template 'total and deterministic' (their statements: YtdepfcejgbnkdaaTotals.lean).
  GIVEN WITH THE SEED: the statements are not yours to turn. If you find one false, say at which input.
  Laid BY PROGRAM, IN A SANDBOX (cutbox-rows.mjs): the forced cells as the released guide's own fill.sh prints them over the translation 2015ec58dcc23b3e… (all of the seat's roots in one cut). By AI agents, Wed Nov 11 2026. No macro, syntax, notation, axiom, sorry.
-/
import Derived.Test.YtdepfcejgbnkdaaChecked
import GoSem.Claim
import GoSem.ClaimJoined
import GoSem.ClaimMapViews
import Derived.JoinedTies
import Derived.KernelRfl
namespace Go.Proofs.Ytdepfcejgbnkdaa
/- THE CELL 'sum', in the pinned program and in every row, IS THE sha256 OF THE DUMP (.gsa) THAT YtdepfcejgbnkdaaProg.lean LOADS. Nothing in Lean hashes anything: it is a label: what it is worth is what the hold of that sum in a sandbox is worth. -/
noncomputable def Try.pinned : Pinned := { name := "ytdepfcejgbnkdaa", sum := "2015ec58dcc23b3e8391db7d83594e8011453fbe8275ae66ba46cea2c27bcbe2", checked := Try.checked }
namespace Rows
def none {H : Type} : Left H := { results := [], args := [] }

/-- 'laws.FnExactConstants': WHATEVER THE INPUT: true; the input reads as it did. -/
def fnExactConstantsSpec : ChangeSpec := { name := "fnExactConstants", fn := fun _ => fun
  | [] => { results := [.lit (.bool true)], args := [] }
  | _ => none }
def fnExactConstantsRow : OpenClaim := { program := "ytdepfcejgbnkdaa", sum := "2015ec58dcc23b3e8391db7d83594e8011453fbe8275ae66ba46cea2c27bcbe2", func := "loop.example/g01135/laws.FnExactConstants", spec := "fnExactConstants", apart := false }
def FnExactConstantsSaid : Prop := fnExactConstantsRow.holds Try.pinned (OpenSpec.ofChange fnExactConstantsSpec)

/-- ITS FALSE NEIGHBOUR: 'it returns false'. Refute it at one input. -/
def fnExactConstantsWrong : ChangeSpec := { name := "fnExactConstants", fn := fun _ => fun
  | [] => { results := [.lit (.bool false)], args := [] }
  | _ => none }
def FnExactConstantsWrongFalsely : Prop := fnExactConstantsRow.holds Try.pinned (OpenSpec.ofChange fnExactConstantsWrong)

/-- 'laws.FnExactLessString': WHATEVER THE INPUT: true; the input reads as it did. -/
def fnExactLessStringSpec : ChangeSpec := { name := "fnExactLessString", fn := fun _ => fun
  | [d1, d2] => { results := [.lit (.bool true)], args := [d1, d2] }
  | _ => none }
def fnExactLessStringRow : OpenClaim := { program := "ytdepfcejgbnkdaa", sum := "2015ec58dcc23b3e8391db7d83594e8011453fbe8275ae66ba46cea2c27bcbe2", func := "loop.example/g01135/laws.FnExactLessString", spec := "fnExactLessString", apart := false }
def FnExactLessStringSaid : Prop := fnExactLessStringRow.holds Try.pinned (OpenSpec.ofChange fnExactLessStringSpec)

/-- ITS FALSE NEIGHBOUR: 'it returns false'. Refute it at one input. -/
def fnExactLessStringWrong : ChangeSpec := { name := "fnExactLessString", fn := fun _ => fun
  | [d1, d2] => { results := [.lit (.bool false)], args := [d1, d2] }
  | _ => none }
def FnExactLessStringWrongFalsely : Prop := fnExactLessStringRow.holds Try.pinned (OpenSpec.ofChange fnExactLessStringWrong)

/-- 'laws.FnExactWinnowBound': WHATEVER THE INPUT: true; the input reads as it did. -/
def fnExactWinnowBoundSpec : ChangeSpec := { name := "fnExactWinnowBound", fn := fun _ => fun
  | [d1, d2] => { results := [.lit (.bool true)], args := [d1, d2] }
  | _ => none }
def fnExactWinnowBoundRow : OpenClaim := { program := "ytdepfcejgbnkdaa", sum := "2015ec58dcc23b3e8391db7d83594e8011453fbe8275ae66ba46cea2c27bcbe2", func := "loop.example/g01135/laws.FnExactWinnowBound", spec := "fnExactWinnowBound", apart := false }
def FnExactWinnowBoundSaid : Prop := fnExactWinnowBoundRow.holds Try.pinned (OpenSpec.ofChange fnExactWinnowBoundSpec)

/-- ITS FALSE NEIGHBOUR: 'it returns false'. Refute it at one input. -/
def fnExactWinnowBoundWrong : ChangeSpec := { name := "fnExactWinnowBound", fn := fun _ => fun
  | [d1, d2] => { results := [.lit (.bool false)], args := [d1, d2] }
  | _ => none }
def FnExactWinnowBoundWrongFalsely : Prop := fnExactWinnowBoundRow.holds Try.pinned (OpenSpec.ofChange fnExactWinnowBoundWrong)

/-- 'laws.FnExactChecksum': WHATEVER THE INPUT: true; the input reads as it did. -/
def fnExactChecksumSpec : ChangeSpec := { name := "fnExactChecksum", fn := fun _ => fun
  | [d] => { results := [.lit (.bool true)], args := [d] }
  | _ => none }
def fnExactChecksumRow : OpenClaim := { program := "ytdepfcejgbnkdaa", sum := "2015ec58dcc23b3e8391db7d83594e8011453fbe8275ae66ba46cea2c27bcbe2", func := "loop.example/g01135/laws.FnExactChecksum", spec := "fnExactChecksum", apart := false }
def FnExactChecksumSaid : Prop := fnExactChecksumRow.holds Try.pinned (OpenSpec.ofChange fnExactChecksumSpec)

/-- ITS FALSE NEIGHBOUR: 'it returns false'. Refute it at one input. -/
def fnExactChecksumWrong : ChangeSpec := { name := "fnExactChecksum", fn := fun _ => fun
  | [d] => { results := [.lit (.bool false)], args := [d] }
  | _ => none }
def FnExactChecksumWrongFalsely : Prop := fnExactChecksumRow.holds Try.pinned (OpenSpec.ofChange fnExactChecksumWrong)

/-- 'laws.FnExactAreShares': WHATEVER THE INPUT: true; the input reads as it did. -/
def fnExactAreSharesSpec : ChangeSpec := { name := "fnExactAreShares", fn := fun _ => fun
  | [d] => { results := [.lit (.bool true)], args := [d] }
  | _ => none }
def fnExactAreSharesRow : OpenClaim := { program := "ytdepfcejgbnkdaa", sum := "2015ec58dcc23b3e8391db7d83594e8011453fbe8275ae66ba46cea2c27bcbe2", func := "loop.example/g01135/laws.FnExactAreShares", spec := "fnExactAreShares", apart := false }
def FnExactAreSharesSaid : Prop := fnExactAreSharesRow.holds Try.pinned (OpenSpec.ofChange fnExactAreSharesSpec)

/-- ITS FALSE NEIGHBOUR: 'it returns false'. Refute it at one input. -/
def fnExactAreSharesWrong : ChangeSpec := { name := "fnExactAreShares", fn := fun _ => fun
  | [d] => { results := [.lit (.bool false)], args := [d] }
  | _ => none }
def FnExactAreSharesWrongFalsely : Prop := fnExactAreSharesRow.holds Try.pinned (OpenSpec.ofChange fnExactAreSharesWrong)

/-- 'laws.FnExactPartingBound': WHATEVER THE INPUT: true; the input reads as it did. -/
def fnExactPartingBoundSpec : ChangeSpec := { name := "fnExactPartingBound", fn := fun _ => fun
  | [d1, d2] => { results := [.lit (.bool true)], args := [d1, d2] }
  | _ => none }
def fnExactPartingBoundRow : OpenClaim := { program := "ytdepfcejgbnkdaa", sum := "2015ec58dcc23b3e8391db7d83594e8011453fbe8275ae66ba46cea2c27bcbe2", func := "loop.example/g01135/laws.FnExactPartingBound", spec := "fnExactPartingBound", apart := false }
def FnExactPartingBoundSaid : Prop := fnExactPartingBoundRow.holds Try.pinned (OpenSpec.ofChange fnExactPartingBoundSpec)

/-- ITS FALSE NEIGHBOUR: 'it returns false'. Refute it at one input. -/
def fnExactPartingBoundWrong : ChangeSpec := { name := "fnExactPartingBound", fn := fun _ => fun
  | [d1, d2] => { results := [.lit (.bool false)], args := [d1, d2] }
  | _ => none }
def FnExactPartingBoundWrongFalsely : Prop := fnExactPartingBoundRow.holds Try.pinned (OpenSpec.ofChange fnExactPartingBoundWrong)

/-- 'laws.FnExactIsPoint': WHATEVER THE INPUT: true; the input reads as it did. -/
def fnExactIsPointSpec : ChangeSpec := { name := "fnExactIsPoint", fn := fun _ => fun
  | [d] => { results := [.lit (.bool true)], args := [d] }
  | _ => none }
def fnExactIsPointRow : OpenClaim := { program := "ytdepfcejgbnkdaa", sum := "2015ec58dcc23b3e8391db7d83594e8011453fbe8275ae66ba46cea2c27bcbe2", func := "loop.example/g01135/laws.FnExactIsPoint", spec := "fnExactIsPoint", apart := false }
def FnExactIsPointSaid : Prop := fnExactIsPointRow.holds Try.pinned (OpenSpec.ofChange fnExactIsPointSpec)

/-- ITS FALSE NEIGHBOUR: 'it returns false'. Refute it at one input. -/
def fnExactIsPointWrong : ChangeSpec := { name := "fnExactIsPoint", fn := fun _ => fun
  | [d] => { results := [.lit (.bool false)], args := [d] }
  | _ => none }
def FnExactIsPointWrongFalsely : Prop := fnExactIsPointRow.holds Try.pinned (OpenSpec.ofChange fnExactIsPointWrong)

/-- 'laws.FnExactIsTable': WHATEVER THE INPUT: true; the input reads as it did. -/
def fnExactIsTableSpec : ChangeSpec := { name := "fnExactIsTable", fn := fun _ => fun
  | [d1, d2] => { results := [.lit (.bool true)], args := [d1, d2] }
  | _ => none }
def fnExactIsTableRow : OpenClaim := { program := "ytdepfcejgbnkdaa", sum := "2015ec58dcc23b3e8391db7d83594e8011453fbe8275ae66ba46cea2c27bcbe2", func := "loop.example/g01135/laws.FnExactIsTable", spec := "fnExactIsTable", apart := false }
def FnExactIsTableSaid : Prop := fnExactIsTableRow.holds Try.pinned (OpenSpec.ofChange fnExactIsTableSpec)

/-- ITS FALSE NEIGHBOUR: 'it returns false'. Refute it at one input. -/
def fnExactIsTableWrong : ChangeSpec := { name := "fnExactIsTable", fn := fun _ => fun
  | [d1, d2] => { results := [.lit (.bool false)], args := [d1, d2] }
  | _ => none }
def FnExactIsTableWrongFalsely : Prop := fnExactIsTableRow.holds Try.pinned (OpenSpec.ofChange fnExactIsTableWrong)

/-- 'laws.FnExactBitPoint': WHATEVER THE INPUT: true; the input reads as it did. -/
def fnExactBitPointSpec : ChangeSpec := { name := "fnExactBitPoint", fn := fun _ => fun
  | [d1, d2] => { results := [.lit (.bool true)], args := [d1, d2] }
  | _ => none }
def fnExactBitPointRow : OpenClaim := { program := "ytdepfcejgbnkdaa", sum := "2015ec58dcc23b3e8391db7d83594e8011453fbe8275ae66ba46cea2c27bcbe2", func := "loop.example/g01135/laws.FnExactBitPoint", spec := "fnExactBitPoint", apart := false }
def FnExactBitPointSaid : Prop := fnExactBitPointRow.holds Try.pinned (OpenSpec.ofChange fnExactBitPointSpec)

/-- ITS FALSE NEIGHBOUR: 'it returns false'. Refute it at one input. -/
def fnExactBitPointWrong : ChangeSpec := { name := "fnExactBitPoint", fn := fun _ => fun
  | [d1, d2] => { results := [.lit (.bool false)], args := [d1, d2] }
  | _ => none }
def FnExactBitPointWrongFalsely : Prop := fnExactBitPointRow.holds Try.pinned (OpenSpec.ofChange fnExactBitPointWrong)

/-- 'laws.FnExactSquareDistance': WHATEVER THE INPUT: true; the input reads as it did. -/
def fnExactSquareDistanceSpec : ChangeSpec := { name := "fnExactSquareDistance", fn := fun _ => fun
  | [d1, d2] => { results := [.lit (.bool true)], args := [d1, d2] }
  | _ => none }
def fnExactSquareDistanceRow : OpenClaim := { program := "ytdepfcejgbnkdaa", sum := "2015ec58dcc23b3e8391db7d83594e8011453fbe8275ae66ba46cea2c27bcbe2", func := "loop.example/g01135/laws.FnExactSquareDistance", spec := "fnExactSquareDistance", apart := false }
def FnExactSquareDistanceSaid : Prop := fnExactSquareDistanceRow.holds Try.pinned (OpenSpec.ofChange fnExactSquareDistanceSpec)

/-- ITS FALSE NEIGHBOUR: 'it returns false'. Refute it at one input. -/
def fnExactSquareDistanceWrong : ChangeSpec := { name := "fnExactSquareDistance", fn := fun _ => fun
  | [d1, d2] => { results := [.lit (.bool false)], args := [d1, d2] }
  | _ => none }
def FnExactSquareDistanceWrongFalsely : Prop := fnExactSquareDistanceRow.holds Try.pinned (OpenSpec.ofChange fnExactSquareDistanceWrong)

/-- 'laws.FnExactIsPlane': WHATEVER THE INPUT: true; the input reads as it did. -/
def fnExactIsPlaneSpec : ChangeSpec := { name := "fnExactIsPlane", fn := fun _ => fun
  | [d] => { results := [.lit (.bool true)], args := [d] }
  | _ => none }
def fnExactIsPlaneRow : OpenClaim := { program := "ytdepfcejgbnkdaa", sum := "2015ec58dcc23b3e8391db7d83594e8011453fbe8275ae66ba46cea2c27bcbe2", func := "loop.example/g01135/laws.FnExactIsPlane", spec := "fnExactIsPlane", apart := false }
def FnExactIsPlaneSaid : Prop := fnExactIsPlaneRow.holds Try.pinned (OpenSpec.ofChange fnExactIsPlaneSpec)

/-- ITS FALSE NEIGHBOUR: 'it returns false'. Refute it at one input. -/
def fnExactIsPlaneWrong : ChangeSpec := { name := "fnExactIsPlane", fn := fun _ => fun
  | [d] => { results := [.lit (.bool false)], args := [d] }
  | _ => none }
def FnExactIsPlaneWrongFalsely : Prop := fnExactIsPlaneRow.holds Try.pinned (OpenSpec.ofChange fnExactIsPlaneWrong)

/-- 'laws.FnExactJoinTables': WHATEVER THE INPUT: true; the input reads as it did. -/
def fnExactJoinTablesSpec : ChangeSpec := { name := "fnExactJoinTables", fn := fun _ => fun
  | [d1, d2, d3] => { results := [.lit (.bool true)], args := [d1, d2, d3] }
  | _ => none }
def fnExactJoinTablesRow : OpenClaim := { program := "ytdepfcejgbnkdaa", sum := "2015ec58dcc23b3e8391db7d83594e8011453fbe8275ae66ba46cea2c27bcbe2", func := "loop.example/g01135/laws.FnExactJoinTables", spec := "fnExactJoinTables", apart := false }
def FnExactJoinTablesSaid : Prop := fnExactJoinTablesRow.holds Try.pinned (OpenSpec.ofChange fnExactJoinTablesSpec)

/-- ITS FALSE NEIGHBOUR: 'it returns false'. Refute it at one input. -/
def fnExactJoinTablesWrong : ChangeSpec := { name := "fnExactJoinTables", fn := fun _ => fun
  | [d1, d2, d3] => { results := [.lit (.bool false)], args := [d1, d2, d3] }
  | _ => none }
def FnExactJoinTablesWrongFalsely : Prop := fnExactJoinTablesRow.holds Try.pinned (OpenSpec.ofChange fnExactJoinTablesWrong)

/- THE SECOND FORM. 'bulk': how many values and letters a reading holds, each counted each time it is reached (what is shared counts as often as it is met; a slice's spare places count too). A statement '..UptoSaid' is the law's where the arguments, and the package variables that the reading takes, are together of bulk at most 1048576: NARROWER than '..Said'. Prove '..Said' where nothing that the law and all that it calls make is longer than what came in: it says more and counts as full. Else prove '..UptoSaid'. A law counts once. -/
mutual
def uptoBulk {H : Type} : DataW H → Nat
  | .lit (.string bytes) => bytes.length + 1
  | .lit _ => 1
  | .nil => 1
  | .ptr d => uptoBulk d + 1
  | .slice elems spare => uptoBulkAll elems + uptoBulkAll spare + 1
  | .agg parts => uptoBulkAll parts + 1
  | .iface _ d => uptoBulk d + 1
  | .map entries => uptoBulkEntries entries + 1
  | .held _ => 1
def uptoBulkAll {H : Type} : List (DataW H) → Nat
  | [] => 0
  | d :: r => uptoBulk d + uptoBulkAll r
def uptoBulkEntries {H : Type} : List (Lit × DataW H) → Nat
  | [] => 0
  | x :: r => uptoBulkEntry x + uptoBulkEntries r
def uptoBulkEntry {H : Type} : Lit × DataW H → Nat
  | (.string bytes, d) => bytes.length + uptoBulk d + 1
  | (_, d) => uptoBulk d + 1
 end
def uptoSmall : (H : Type) → List (DataW H) → Bool := fun _ ds => decide (uptoBulkAll ds ≤ 1048576)
def OpenSpec.upto (s : _root_.Go.ChangeSpec) : _root_.Go.OpenSpec := { _root_.Go.OpenSpec.ofChange s with cond := some uptoSmall }

/-- 'laws.FnExactConstants', WHERE WHAT IT READS IS OF BULK AT MOST 1048576: true; the input reads as it did. -/
def fnExactConstantsUptoRow : OpenClaim := { program := "ytdepfcejgbnkdaa", sum := "2015ec58dcc23b3e8391db7d83594e8011453fbe8275ae66ba46cea2c27bcbe2", func := "loop.example/g01135/laws.FnExactConstants", spec := "fnExactConstants", apart := false, narrowed := true }
def FnExactConstantsUptoSaid : Prop := fnExactConstantsUptoRow.holds Try.pinned (OpenSpec.upto fnExactConstantsSpec)

/-- 'laws.FnExactLessString', WHERE WHAT IT READS IS OF BULK AT MOST 1048576: true; the input reads as it did. -/
def fnExactLessStringUptoRow : OpenClaim := { program := "ytdepfcejgbnkdaa", sum := "2015ec58dcc23b3e8391db7d83594e8011453fbe8275ae66ba46cea2c27bcbe2", func := "loop.example/g01135/laws.FnExactLessString", spec := "fnExactLessString", apart := false, narrowed := true }
def FnExactLessStringUptoSaid : Prop := fnExactLessStringUptoRow.holds Try.pinned (OpenSpec.upto fnExactLessStringSpec)

/-- 'laws.FnExactWinnowBound', WHERE WHAT IT READS IS OF BULK AT MOST 1048576: true; the input reads as it did. -/
def fnExactWinnowBoundUptoRow : OpenClaim := { program := "ytdepfcejgbnkdaa", sum := "2015ec58dcc23b3e8391db7d83594e8011453fbe8275ae66ba46cea2c27bcbe2", func := "loop.example/g01135/laws.FnExactWinnowBound", spec := "fnExactWinnowBound", apart := false, narrowed := true }
def FnExactWinnowBoundUptoSaid : Prop := fnExactWinnowBoundUptoRow.holds Try.pinned (OpenSpec.upto fnExactWinnowBoundSpec)

/-- 'laws.FnExactChecksum', WHERE WHAT IT READS IS OF BULK AT MOST 1048576: true; the input reads as it did. -/
def fnExactChecksumUptoRow : OpenClaim := { program := "ytdepfcejgbnkdaa", sum := "2015ec58dcc23b3e8391db7d83594e8011453fbe8275ae66ba46cea2c27bcbe2", func := "loop.example/g01135/laws.FnExactChecksum", spec := "fnExactChecksum", apart := false, narrowed := true }
def FnExactChecksumUptoSaid : Prop := fnExactChecksumUptoRow.holds Try.pinned (OpenSpec.upto fnExactChecksumSpec)

/-- 'laws.FnExactAreShares', WHERE WHAT IT READS IS OF BULK AT MOST 1048576: true; the input reads as it did. -/
def fnExactAreSharesUptoRow : OpenClaim := { program := "ytdepfcejgbnkdaa", sum := "2015ec58dcc23b3e8391db7d83594e8011453fbe8275ae66ba46cea2c27bcbe2", func := "loop.example/g01135/laws.FnExactAreShares", spec := "fnExactAreShares", apart := false, narrowed := true }
def FnExactAreSharesUptoSaid : Prop := fnExactAreSharesUptoRow.holds Try.pinned (OpenSpec.upto fnExactAreSharesSpec)

/-- 'laws.FnExactPartingBound', WHERE WHAT IT READS IS OF BULK AT MOST 1048576: true; the input reads as it did. -/
def fnExactPartingBoundUptoRow : OpenClaim := { program := "ytdepfcejgbnkdaa", sum := "2015ec58dcc23b3e8391db7d83594e8011453fbe8275ae66ba46cea2c27bcbe2", func := "loop.example/g01135/laws.FnExactPartingBound", spec := "fnExactPartingBound", apart := false, narrowed := true }
def FnExactPartingBoundUptoSaid : Prop := fnExactPartingBoundUptoRow.holds Try.pinned (OpenSpec.upto fnExactPartingBoundSpec)

/-- 'laws.FnExactIsPoint', WHERE WHAT IT READS IS OF BULK AT MOST 1048576: true; the input reads as it did. -/
def fnExactIsPointUptoRow : OpenClaim := { program := "ytdepfcejgbnkdaa", sum := "2015ec58dcc23b3e8391db7d83594e8011453fbe8275ae66ba46cea2c27bcbe2", func := "loop.example/g01135/laws.FnExactIsPoint", spec := "fnExactIsPoint", apart := false, narrowed := true }
def FnExactIsPointUptoSaid : Prop := fnExactIsPointUptoRow.holds Try.pinned (OpenSpec.upto fnExactIsPointSpec)

/-- 'laws.FnExactIsTable', WHERE WHAT IT READS IS OF BULK AT MOST 1048576: true; the input reads as it did. -/
def fnExactIsTableUptoRow : OpenClaim := { program := "ytdepfcejgbnkdaa", sum := "2015ec58dcc23b3e8391db7d83594e8011453fbe8275ae66ba46cea2c27bcbe2", func := "loop.example/g01135/laws.FnExactIsTable", spec := "fnExactIsTable", apart := false, narrowed := true }
def FnExactIsTableUptoSaid : Prop := fnExactIsTableUptoRow.holds Try.pinned (OpenSpec.upto fnExactIsTableSpec)

/-- 'laws.FnExactBitPoint', WHERE WHAT IT READS IS OF BULK AT MOST 1048576: true; the input reads as it did. -/
def fnExactBitPointUptoRow : OpenClaim := { program := "ytdepfcejgbnkdaa", sum := "2015ec58dcc23b3e8391db7d83594e8011453fbe8275ae66ba46cea2c27bcbe2", func := "loop.example/g01135/laws.FnExactBitPoint", spec := "fnExactBitPoint", apart := false, narrowed := true }
def FnExactBitPointUptoSaid : Prop := fnExactBitPointUptoRow.holds Try.pinned (OpenSpec.upto fnExactBitPointSpec)

/-- 'laws.FnExactSquareDistance', WHERE WHAT IT READS IS OF BULK AT MOST 1048576: true; the input reads as it did. -/
def fnExactSquareDistanceUptoRow : OpenClaim := { program := "ytdepfcejgbnkdaa", sum := "2015ec58dcc23b3e8391db7d83594e8011453fbe8275ae66ba46cea2c27bcbe2", func := "loop.example/g01135/laws.FnExactSquareDistance", spec := "fnExactSquareDistance", apart := false, narrowed := true }
def FnExactSquareDistanceUptoSaid : Prop := fnExactSquareDistanceUptoRow.holds Try.pinned (OpenSpec.upto fnExactSquareDistanceSpec)

/-- 'laws.FnExactIsPlane', WHERE WHAT IT READS IS OF BULK AT MOST 1048576: true; the input reads as it did. -/
def fnExactIsPlaneUptoRow : OpenClaim := { program := "ytdepfcejgbnkdaa", sum := "2015ec58dcc23b3e8391db7d83594e8011453fbe8275ae66ba46cea2c27bcbe2", func := "loop.example/g01135/laws.FnExactIsPlane", spec := "fnExactIsPlane", apart := false, narrowed := true }
def FnExactIsPlaneUptoSaid : Prop := fnExactIsPlaneUptoRow.holds Try.pinned (OpenSpec.upto fnExactIsPlaneSpec)

/-- 'laws.FnExactJoinTables', WHERE WHAT IT READS IS OF BULK AT MOST 1048576: true; the input reads as it did. -/
def fnExactJoinTablesUptoRow : OpenClaim := { program := "ytdepfcejgbnkdaa", sum := "2015ec58dcc23b3e8391db7d83594e8011453fbe8275ae66ba46cea2c27bcbe2", func := "loop.example/g01135/laws.FnExactJoinTables", spec := "fnExactJoinTables", apart := false, narrowed := true }
def FnExactJoinTablesUptoSaid : Prop := fnExactJoinTablesUptoRow.holds Try.pinned (OpenSpec.upto fnExactJoinTablesSpec)

end Rows
end Go.Proofs.Ytdepfcejgbnkdaa
