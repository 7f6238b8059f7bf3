/-
  No cell of these rows narrows 'for every input' (looked for: loops, veiled, ifaces, maps, wideKeys, modest, calm, conditions, laid).
  DERIVED. THE GIVEN ROWS OF THIS SEAT. 12 by the template 'for every input the law returns true; each argument reads behind the call as it read before'; 0 by the template 'total and deterministic' (their statements: YtgbgkifddjeabaaTotals.lean).
  GIVEN WITH THE SEED: the statements are not yours to turn. If you find one false, say at which input.
  Laid BY PROGRAM, IN A SANDBOX (cutbox-rows.mjs): the forced cells as the released guide's own fill.sh prints them over the translation 46d7d676c67aff2b… (all of the seat's roots in one cut). By AI agents, Wed Nov 11 2026. No macro, syntax, notation, axiom, sorry.
-/
import Derived.Test.YtgbgkifddjeabaaChecked
import GoSem.Claim
import GoSem.ClaimJoined
import GoSem.ClaimMapViews
import Derived.JoinedTies
import Derived.KernelRfl
namespace Go.Proofs.Ytgbgkifddjeabaa
/- THE CELL 'sum', in the pinned program and in every row, IS THE sha256 OF THE DUMP (.gsa) THAT YtgbgkifddjeabaaProg.lean LOADS. Nothing in Lean hashes anything: it is a label: what it is worth is what the hold of that sum in a sandbox is worth. -/
noncomputable def Try.pinned : Pinned := { name := "ytgbgkifddjeabaa", sum := "46d7d676c67aff2b633bb406acba15f425950da41ee0a65b0c867e1d086dbea3", checked := Try.checked }
namespace Rows
def none {H : Type} : Left H := { results := [], args := [] }

/-- 'laws.FnExactOrAnswers': WHATEVER THE INPUT: true; the input reads as it did. -/
def fnExactOrAnswersSpec : ChangeSpec := { name := "fnExactOrAnswers", fn := fun _ => fun
  | [d1, d2, d3] => { results := [.lit (.bool true)], args := [d1, d2, d3] }
  | _ => none }
def fnExactOrAnswersRow : OpenClaim := { program := "ytgbgkifddjeabaa", sum := "46d7d676c67aff2b633bb406acba15f425950da41ee0a65b0c867e1d086dbea3", func := "loop.example/g01135/laws.FnExactOrAnswers", spec := "fnExactOrAnswers", apart := false }
def FnExactOrAnswersSaid : Prop := fnExactOrAnswersRow.holds Try.pinned (OpenSpec.ofChange fnExactOrAnswersSpec)

/-- ITS FALSE NEIGHBOUR: 'it returns false'. Refute it at one input. -/
def fnExactOrAnswersWrong : ChangeSpec := { name := "fnExactOrAnswers", fn := fun _ => fun
  | [d1, d2, d3] => { results := [.lit (.bool false)], args := [d1, d2, d3] }
  | _ => none }
def FnExactOrAnswersWrongFalsely : Prop := fnExactOrAnswersRow.holds Try.pinned (OpenSpec.ofChange fnExactOrAnswersWrong)

/-- 'laws.FnExactFirstConflict': WHATEVER THE INPUT: true; the input reads as it did. -/
def fnExactFirstConflictSpec : ChangeSpec := { name := "fnExactFirstConflict", fn := fun _ => fun
  | [d] => { results := [.lit (.bool true)], args := [d] }
  | _ => none }
def fnExactFirstConflictRow : OpenClaim := { program := "ytgbgkifddjeabaa", sum := "46d7d676c67aff2b633bb406acba15f425950da41ee0a65b0c867e1d086dbea3", func := "loop.example/g01135/laws.FnExactFirstConflict", spec := "fnExactFirstConflict", apart := false }
def FnExactFirstConflictSaid : Prop := fnExactFirstConflictRow.holds Try.pinned (OpenSpec.ofChange fnExactFirstConflictSpec)

/-- ITS FALSE NEIGHBOUR: 'it returns false'. Refute it at one input. -/
def fnExactFirstConflictWrong : ChangeSpec := { name := "fnExactFirstConflict", fn := fun _ => fun
  | [d] => { results := [.lit (.bool false)], args := [d] }
  | _ => none }
def FnExactFirstConflictWrongFalsely : Prop := fnExactFirstConflictRow.holds Try.pinned (OpenSpec.ofChange fnExactFirstConflictWrong)

/-- 'laws.FnExactPointsWith': WHATEVER THE INPUT: true; the input reads as it did. -/
def fnExactPointsWithSpec : ChangeSpec := { name := "fnExactPointsWith", fn := fun _ => fun
  | [d1, d2] => { results := [.lit (.bool true)], args := [d1, d2] }
  | _ => none }
def fnExactPointsWithRow : OpenClaim := { program := "ytgbgkifddjeabaa", sum := "46d7d676c67aff2b633bb406acba15f425950da41ee0a65b0c867e1d086dbea3", func := "loop.example/g01135/laws.FnExactPointsWith", spec := "fnExactPointsWith", apart := false }
def FnExactPointsWithSaid : Prop := fnExactPointsWithRow.holds Try.pinned (OpenSpec.ofChange fnExactPointsWithSpec)

/-- ITS FALSE NEIGHBOUR: 'it returns false'. Refute it at one input. -/
def fnExactPointsWithWrong : ChangeSpec := { name := "fnExactPointsWith", fn := fun _ => fun
  | [d1, d2] => { results := [.lit (.bool false)], args := [d1, d2] }
  | _ => none }
def FnExactPointsWithWrongFalsely : Prop := fnExactPointsWithRow.holds Try.pinned (OpenSpec.ofChange fnExactPointsWithWrong)

/-- 'laws.FnExactRunWinnow': WHATEVER THE INPUT: true; the input reads as it did. -/
def fnExactRunWinnowSpec : ChangeSpec := { name := "fnExactRunWinnow", fn := fun _ => fun
  | [d1, d2, d3] => { results := [.lit (.bool true)], args := [d1, d2, d3] }
  | _ => none }
def fnExactRunWinnowRow : OpenClaim := { program := "ytgbgkifddjeabaa", sum := "46d7d676c67aff2b633bb406acba15f425950da41ee0a65b0c867e1d086dbea3", func := "loop.example/g01135/laws.FnExactRunWinnow", spec := "fnExactRunWinnow", apart := false }
def FnExactRunWinnowSaid : Prop := fnExactRunWinnowRow.holds Try.pinned (OpenSpec.ofChange fnExactRunWinnowSpec)

/-- ITS FALSE NEIGHBOUR: 'it returns false'. Refute it at one input. -/
def fnExactRunWinnowWrong : ChangeSpec := { name := "fnExactRunWinnow", fn := fun _ => fun
  | [d1, d2, d3] => { results := [.lit (.bool false)], args := [d1, d2, d3] }
  | _ => none }
def FnExactRunWinnowWrongFalsely : Prop := fnExactRunWinnowRow.holds Try.pinned (OpenSpec.ofChange fnExactRunWinnowWrong)

/-- 'laws.FnExactNearestPair': WHATEVER THE INPUT: true; the input reads as it did. -/
def fnExactNearestPairSpec : ChangeSpec := { name := "fnExactNearestPair", fn := fun _ => fun
  | [d] => { results := [.lit (.bool true)], args := [d] }
  | _ => none }
def fnExactNearestPairRow : OpenClaim := { program := "ytgbgkifddjeabaa", sum := "46d7d676c67aff2b633bb406acba15f425950da41ee0a65b0c867e1d086dbea3", func := "loop.example/g01135/laws.FnExactNearestPair", spec := "fnExactNearestPair", apart := false }
def FnExactNearestPairSaid : Prop := fnExactNearestPairRow.holds Try.pinned (OpenSpec.ofChange fnExactNearestPairSpec)

/-- ITS FALSE NEIGHBOUR: 'it returns false'. Refute it at one input. -/
def fnExactNearestPairWrong : ChangeSpec := { name := "fnExactNearestPair", fn := fun _ => fun
  | [d] => { results := [.lit (.bool false)], args := [d] }
  | _ => none }
def FnExactNearestPairWrongFalsely : Prop := fnExactNearestPairRow.holds Try.pinned (OpenSpec.ofChange fnExactNearestPairWrong)

/-- 'laws.FnExactMarginOf': WHATEVER THE INPUT: true; the input reads as it did. -/
def fnExactMarginOfSpec : ChangeSpec := { name := "fnExactMarginOf", fn := fun _ => fun
  | [d1, d2] => { results := [.lit (.bool true)], args := [d1, d2] }
  | _ => none }
def fnExactMarginOfRow : OpenClaim := { program := "ytgbgkifddjeabaa", sum := "46d7d676c67aff2b633bb406acba15f425950da41ee0a65b0c867e1d086dbea3", func := "loop.example/g01135/laws.FnExactMarginOf", spec := "fnExactMarginOf", apart := false }
def FnExactMarginOfSaid : Prop := fnExactMarginOfRow.holds Try.pinned (OpenSpec.ofChange fnExactMarginOfSpec)

/-- ITS FALSE NEIGHBOUR: 'it returns false'. Refute it at one input. -/
def fnExactMarginOfWrong : ChangeSpec := { name := "fnExactMarginOf", fn := fun _ => fun
  | [d1, d2] => { results := [.lit (.bool false)], args := [d1, d2] }
  | _ => none }
def FnExactMarginOfWrongFalsely : Prop := fnExactMarginOfRow.holds Try.pinned (OpenSpec.ofChange fnExactMarginOfWrong)

/-- 'laws.FnExactWidthOf': WHATEVER THE INPUT: true; the input reads as it did. -/
def fnExactWidthOfSpec : ChangeSpec := { name := "fnExactWidthOf", fn := fun _ => fun
  | [d1, d2] => { results := [.lit (.bool true)], args := [d1, d2] }
  | _ => none }
def fnExactWidthOfRow : OpenClaim := { program := "ytgbgkifddjeabaa", sum := "46d7d676c67aff2b633bb406acba15f425950da41ee0a65b0c867e1d086dbea3", func := "loop.example/g01135/laws.FnExactWidthOf", spec := "fnExactWidthOf", apart := false }
def FnExactWidthOfSaid : Prop := fnExactWidthOfRow.holds Try.pinned (OpenSpec.ofChange fnExactWidthOfSpec)

/-- ITS FALSE NEIGHBOUR: 'it returns false'. Refute it at one input. -/
def fnExactWidthOfWrong : ChangeSpec := { name := "fnExactWidthOf", fn := fun _ => fun
  | [d1, d2] => { results := [.lit (.bool false)], args := [d1, d2] }
  | _ => none }
def FnExactWidthOfWrongFalsely : Prop := fnExactWidthOfRow.holds Try.pinned (OpenSpec.ofChange fnExactWidthOfWrong)

/-- 'laws.FnExactIsCertificate': WHATEVER THE INPUT: true; the input reads as it did. -/
def fnExactIsCertificateSpec : ChangeSpec := { name := "fnExactIsCertificate", fn := fun _ => fun
  | [d1, d2] => { results := [.lit (.bool true)], args := [d1, d2] }
  | _ => none }
def fnExactIsCertificateRow : OpenClaim := { program := "ytgbgkifddjeabaa", sum := "46d7d676c67aff2b633bb406acba15f425950da41ee0a65b0c867e1d086dbea3", func := "loop.example/g01135/laws.FnExactIsCertificate", spec := "fnExactIsCertificate", apart := false }
def FnExactIsCertificateSaid : Prop := fnExactIsCertificateRow.holds Try.pinned (OpenSpec.ofChange fnExactIsCertificateSpec)

/-- ITS FALSE NEIGHBOUR: 'it returns false'. Refute it at one input. -/
def fnExactIsCertificateWrong : ChangeSpec := { name := "fnExactIsCertificate", fn := fun _ => fun
  | [d1, d2] => { results := [.lit (.bool false)], args := [d1, d2] }
  | _ => none }
def FnExactIsCertificateWrongFalsely : Prop := fnExactIsCertificateRow.holds Try.pinned (OpenSpec.ofChange fnExactIsCertificateWrong)

/-- 'laws.FnExactPlaneOfCounts': WHATEVER THE INPUT: true; the input reads as it did. -/
def fnExactPlaneOfCountsSpec : ChangeSpec := { name := "fnExactPlaneOfCounts", fn := fun _ => fun
  | [d1, d2] => { results := [.lit (.bool true)], args := [d1, d2] }
  | _ => none }
def fnExactPlaneOfCountsRow : OpenClaim := { program := "ytgbgkifddjeabaa", sum := "46d7d676c67aff2b633bb406acba15f425950da41ee0a65b0c867e1d086dbea3", func := "loop.example/g01135/laws.FnExactPlaneOfCounts", spec := "fnExactPlaneOfCounts", apart := false }
def FnExactPlaneOfCountsSaid : Prop := fnExactPlaneOfCountsRow.holds Try.pinned (OpenSpec.ofChange fnExactPlaneOfCountsSpec)

/-- ITS FALSE NEIGHBOUR: 'it returns false'. Refute it at one input. -/
def fnExactPlaneOfCountsWrong : ChangeSpec := { name := "fnExactPlaneOfCounts", fn := fun _ => fun
  | [d1, d2] => { results := [.lit (.bool false)], args := [d1, d2] }
  | _ => none }
def FnExactPlaneOfCountsWrongFalsely : Prop := fnExactPlaneOfCountsRow.holds Try.pinned (OpenSpec.ofChange fnExactPlaneOfCountsWrong)

/-- 'laws.FnExactPartSample': WHATEVER THE INPUT: true; the input reads as it did. -/
def fnExactPartSampleSpec : ChangeSpec := { name := "fnExactPartSample", fn := fun _ => fun
  | [d1, d2] => { results := [.lit (.bool true)], args := [d1, d2] }
  | _ => none }
def fnExactPartSampleRow : OpenClaim := { program := "ytgbgkifddjeabaa", sum := "46d7d676c67aff2b633bb406acba15f425950da41ee0a65b0c867e1d086dbea3", func := "loop.example/g01135/laws.FnExactPartSample", spec := "fnExactPartSample", apart := false }
def FnExactPartSampleSaid : Prop := fnExactPartSampleRow.holds Try.pinned (OpenSpec.ofChange fnExactPartSampleSpec)

/-- ITS FALSE NEIGHBOUR: 'it returns false'. Refute it at one input. -/
def fnExactPartSampleWrong : ChangeSpec := { name := "fnExactPartSample", fn := fun _ => fun
  | [d1, d2] => { results := [.lit (.bool false)], args := [d1, d2] }
  | _ => none }
def FnExactPartSampleWrongFalsely : Prop := fnExactPartSampleRow.holds Try.pinned (OpenSpec.ofChange fnExactPartSampleWrong)

/-- 'laws.FnExactSidesOf': WHATEVER THE INPUT: true; the input reads as it did. -/
def fnExactSidesOfSpec : ChangeSpec := { name := "fnExactSidesOf", fn := fun _ => fun
  | [d1, d2] => { results := [.lit (.bool true)], args := [d1, d2] }
  | _ => none }
def fnExactSidesOfRow : OpenClaim := { program := "ytgbgkifddjeabaa", sum := "46d7d676c67aff2b633bb406acba15f425950da41ee0a65b0c867e1d086dbea3", func := "loop.example/g01135/laws.FnExactSidesOf", spec := "fnExactSidesOf", apart := false }
def FnExactSidesOfSaid : Prop := fnExactSidesOfRow.holds Try.pinned (OpenSpec.ofChange fnExactSidesOfSpec)

/-- ITS FALSE NEIGHBOUR: 'it returns false'. Refute it at one input. -/
def fnExactSidesOfWrong : ChangeSpec := { name := "fnExactSidesOf", fn := fun _ => fun
  | [d1, d2] => { results := [.lit (.bool false)], args := [d1, d2] }
  | _ => none }
def FnExactSidesOfWrongFalsely : Prop := fnExactSidesOfRow.holds Try.pinned (OpenSpec.ofChange fnExactSidesOfWrong)

/-- 'laws.FnWinnow': WHATEVER THE INPUT: true; the input reads as it did. -/
def fnWinnowSpec : ChangeSpec := { name := "fnWinnow", fn := fun _ => fun
  | [d] => { results := [.lit (.bool true)], args := [d] }
  | _ => none }
def fnWinnowRow : OpenClaim := { program := "ytgbgkifddjeabaa", sum := "46d7d676c67aff2b633bb406acba15f425950da41ee0a65b0c867e1d086dbea3", func := "loop.example/g01135/laws.FnWinnow", spec := "fnWinnow", apart := false }
def FnWinnowSaid : Prop := fnWinnowRow.holds Try.pinned (OpenSpec.ofChange fnWinnowSpec)

/-- ITS FALSE NEIGHBOUR: 'it returns false'. Refute it at one input. -/
def fnWinnowWrong : ChangeSpec := { name := "fnWinnow", fn := fun _ => fun
  | [d] => { results := [.lit (.bool false)], args := [d] }
  | _ => none }
def FnWinnowWrongFalsely : Prop := fnWinnowRow.holds Try.pinned (OpenSpec.ofChange fnWinnowWrong)

/- THE SECOND FORM. 'bulk': how many values and letters a reading holds, each counted each time it is reached (what is shared counts as often as it is met; a slice's spare places count too). A statement '..UptoSaid' is the law's where the arguments, and the package variables that the reading takes, are together of bulk at most 1048576: NARROWER than '..Said'. Prove '..Said' where nothing that the law and all that it calls make is longer than what came in: it says more and counts as full. Else prove '..UptoSaid'. A law counts once. -/
mutual
def uptoBulk {H : Type} : DataW H → Nat
  | .lit (.string bytes) => bytes.length + 1
  | .lit _ => 1
  | .nil => 1
  | .ptr d => uptoBulk d + 1
  | .slice elems spare => uptoBulkAll elems + uptoBulkAll spare + 1
  | .agg parts => uptoBulkAll parts + 1
  | .iface _ d => uptoBulk d + 1
  | .map entries => uptoBulkEntries entries + 1
  | .held _ => 1
def uptoBulkAll {H : Type} : List (DataW H) → Nat
  | [] => 0
  | d :: r => uptoBulk d + uptoBulkAll r
def uptoBulkEntries {H : Type} : List (Lit × DataW H) → Nat
  | [] => 0
  | x :: r => uptoBulkEntry x + uptoBulkEntries r
def uptoBulkEntry {H : Type} : Lit × DataW H → Nat
  | (.string bytes, d) => bytes.length + uptoBulk d + 1
  | (_, d) => uptoBulk d + 1
 end
def uptoSmall : (H : Type) → List (DataW H) → Bool := fun _ ds => decide (uptoBulkAll ds ≤ 1048576)
def OpenSpec.upto (s : _root_.Go.ChangeSpec) : _root_.Go.OpenSpec := { _root_.Go.OpenSpec.ofChange s with cond := some uptoSmall }

/-- 'laws.FnExactOrAnswers', WHERE WHAT IT READS IS OF BULK AT MOST 1048576: true; the input reads as it did. -/
def fnExactOrAnswersUptoRow : OpenClaim := { program := "ytgbgkifddjeabaa", sum := "46d7d676c67aff2b633bb406acba15f425950da41ee0a65b0c867e1d086dbea3", func := "loop.example/g01135/laws.FnExactOrAnswers", spec := "fnExactOrAnswers", apart := false, narrowed := true }
def FnExactOrAnswersUptoSaid : Prop := fnExactOrAnswersUptoRow.holds Try.pinned (OpenSpec.upto fnExactOrAnswersSpec)

/-- 'laws.FnExactFirstConflict', WHERE WHAT IT READS IS OF BULK AT MOST 1048576: true; the input reads as it did. -/
def fnExactFirstConflictUptoRow : OpenClaim := { program := "ytgbgkifddjeabaa", sum := "46d7d676c67aff2b633bb406acba15f425950da41ee0a65b0c867e1d086dbea3", func := "loop.example/g01135/laws.FnExactFirstConflict", spec := "fnExactFirstConflict", apart := false, narrowed := true }
def FnExactFirstConflictUptoSaid : Prop := fnExactFirstConflictUptoRow.holds Try.pinned (OpenSpec.upto fnExactFirstConflictSpec)

/-- 'laws.FnExactPointsWith', WHERE WHAT IT READS IS OF BULK AT MOST 1048576: true; the input reads as it did. -/
def fnExactPointsWithUptoRow : OpenClaim := { program := "ytgbgkifddjeabaa", sum := "46d7d676c67aff2b633bb406acba15f425950da41ee0a65b0c867e1d086dbea3", func := "loop.example/g01135/laws.FnExactPointsWith", spec := "fnExactPointsWith", apart := false, narrowed := true }
def FnExactPointsWithUptoSaid : Prop := fnExactPointsWithUptoRow.holds Try.pinned (OpenSpec.upto fnExactPointsWithSpec)

/-- 'laws.FnExactRunWinnow', WHERE WHAT IT READS IS OF BULK AT MOST 1048576: true; the input reads as it did. -/
def fnExactRunWinnowUptoRow : OpenClaim := { program := "ytgbgkifddjeabaa", sum := "46d7d676c67aff2b633bb406acba15f425950da41ee0a65b0c867e1d086dbea3", func := "loop.example/g01135/laws.FnExactRunWinnow", spec := "fnExactRunWinnow", apart := false, narrowed := true }
def FnExactRunWinnowUptoSaid : Prop := fnExactRunWinnowUptoRow.holds Try.pinned (OpenSpec.upto fnExactRunWinnowSpec)

/-- 'laws.FnExactNearestPair', WHERE WHAT IT READS IS OF BULK AT MOST 1048576: true; the input reads as it did. -/
def fnExactNearestPairUptoRow : OpenClaim := { program := "ytgbgkifddjeabaa", sum := "46d7d676c67aff2b633bb406acba15f425950da41ee0a65b0c867e1d086dbea3", func := "loop.example/g01135/laws.FnExactNearestPair", spec := "fnExactNearestPair", apart := false, narrowed := true }
def FnExactNearestPairUptoSaid : Prop := fnExactNearestPairUptoRow.holds Try.pinned (OpenSpec.upto fnExactNearestPairSpec)

/-- 'laws.FnExactMarginOf', WHERE WHAT IT READS IS OF BULK AT MOST 1048576: true; the input reads as it did. -/
def fnExactMarginOfUptoRow : OpenClaim := { program := "ytgbgkifddjeabaa", sum := "46d7d676c67aff2b633bb406acba15f425950da41ee0a65b0c867e1d086dbea3", func := "loop.example/g01135/laws.FnExactMarginOf", spec := "fnExactMarginOf", apart := false, narrowed := true }
def FnExactMarginOfUptoSaid : Prop := fnExactMarginOfUptoRow.holds Try.pinned (OpenSpec.upto fnExactMarginOfSpec)

/-- 'laws.FnExactWidthOf', WHERE WHAT IT READS IS OF BULK AT MOST 1048576: true; the input reads as it did. -/
def fnExactWidthOfUptoRow : OpenClaim := { program := "ytgbgkifddjeabaa", sum := "46d7d676c67aff2b633bb406acba15f425950da41ee0a65b0c867e1d086dbea3", func := "loop.example/g01135/laws.FnExactWidthOf", spec := "fnExactWidthOf", apart := false, narrowed := true }
def FnExactWidthOfUptoSaid : Prop := fnExactWidthOfUptoRow.holds Try.pinned (OpenSpec.upto fnExactWidthOfSpec)

/-- 'laws.FnExactIsCertificate', WHERE WHAT IT READS IS OF BULK AT MOST 1048576: true; the input reads as it did. -/
def fnExactIsCertificateUptoRow : OpenClaim := { program := "ytgbgkifddjeabaa", sum := "46d7d676c67aff2b633bb406acba15f425950da41ee0a65b0c867e1d086dbea3", func := "loop.example/g01135/laws.FnExactIsCertificate", spec := "fnExactIsCertificate", apart := false, narrowed := true }
def FnExactIsCertificateUptoSaid : Prop := fnExactIsCertificateUptoRow.holds Try.pinned (OpenSpec.upto fnExactIsCertificateSpec)

/-- 'laws.FnExactPlaneOfCounts', WHERE WHAT IT READS IS OF BULK AT MOST 1048576: true; the input reads as it did. -/
def fnExactPlaneOfCountsUptoRow : OpenClaim := { program := "ytgbgkifddjeabaa", sum := "46d7d676c67aff2b633bb406acba15f425950da41ee0a65b0c867e1d086dbea3", func := "loop.example/g01135/laws.FnExactPlaneOfCounts", spec := "fnExactPlaneOfCounts", apart := false, narrowed := true }
def FnExactPlaneOfCountsUptoSaid : Prop := fnExactPlaneOfCountsUptoRow.holds Try.pinned (OpenSpec.upto fnExactPlaneOfCountsSpec)

/-- 'laws.FnExactPartSample', WHERE WHAT IT READS IS OF BULK AT MOST 1048576: true; the input reads as it did. -/
def fnExactPartSampleUptoRow : OpenClaim := { program := "ytgbgkifddjeabaa", sum := "46d7d676c67aff2b633bb406acba15f425950da41ee0a65b0c867e1d086dbea3", func := "loop.example/g01135/laws.FnExactPartSample", spec := "fnExactPartSample", apart := false, narrowed := true }
def FnExactPartSampleUptoSaid : Prop := fnExactPartSampleUptoRow.holds Try.pinned (OpenSpec.upto fnExactPartSampleSpec)

/-- 'laws.FnExactSidesOf', WHERE WHAT IT READS IS OF BULK AT MOST 1048576: true; the input reads as it did. -/
def fnExactSidesOfUptoRow : OpenClaim := { program := "ytgbgkifddjeabaa", sum := "46d7d676c67aff2b633bb406acba15f425950da41ee0a65b0c867e1d086dbea3", func := "loop.example/g01135/laws.FnExactSidesOf", spec := "fnExactSidesOf", apart := false, narrowed := true }
def FnExactSidesOfUptoSaid : Prop := fnExactSidesOfUptoRow.holds Try.pinned (OpenSpec.upto fnExactSidesOfSpec)

/-- 'laws.FnWinnow', WHERE WHAT IT READS IS OF BULK AT MOST 1048576: true; the input reads as it did. -/
def fnWinnowUptoRow : OpenClaim := { program := "ytgbgkifddjeabaa", sum := "46d7d676c67aff2b633bb406acba15f425950da41ee0a65b0c867e1d086dbea3", func := "loop.example/g01135/laws.FnWinnow", spec := "fnWinnow", apart := false, narrowed := true }
def FnWinnowUptoSaid : Prop := fnWinnowUptoRow.holds Try.pinned (OpenSpec.upto fnWinnowSpec)

end Rows
end Go.Proofs.Ytgbgkifddjeabaa
