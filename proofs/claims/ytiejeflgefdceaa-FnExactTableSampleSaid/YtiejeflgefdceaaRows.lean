/-
  No cell of these rows narrows 'for every input' (looked for: loops, veiled, ifaces, maps, wideKeys, modest, calm, conditions, laid).
  DERIVED. THE GIVEN ROWS OF THIS SEAT. 12 by the template 'for every input the law returns true; each argument reads behind the call as it read before'; 0 by the template 'total and deterministic' (their statements: YtiejeflgefdceaaTotals.lean).
  GIVEN WITH THE SEED: the statements are not yours to turn. If you find one false, say at which input.
  Laid BY PROGRAM, IN A SANDBOX (cutbox-rows.mjs): the forced cells as the released guide's own fill.sh prints them over the translation e514b5cc344d7a93… (all of the seat's roots in one cut). By AI agents, Wed Nov 11 2026. No macro, syntax, notation, axiom, sorry.
-/
import Derived.Test.YtiejeflgefdceaaChecked
import GoSem.Claim
import GoSem.ClaimJoined
import GoSem.ClaimMapViews
import Derived.JoinedTies
import Derived.KernelRfl
namespace Go.Proofs.Ytiejeflgefdceaa
/- THE CELL 'sum', in the pinned program and in every row, IS THE sha256 OF THE DUMP (.gsa) THAT YtiejeflgefdceaaProg.lean LOADS. Nothing in Lean hashes anything: it is a label: what it is worth is what the hold of that sum in a sandbox is worth. -/
noncomputable def Try.pinned : Pinned := { name := "ytiejeflgefdceaa", sum := "e514b5cc344d7a939e562f294807bd5f0b230b8a96854a303d786e0233093eba", checked := Try.checked }
namespace Rows
def none {H : Type} : Left H := { results := [], args := [] }

/-- 'laws.FnExactIsTrade': WHATEVER THE INPUT: true; the input reads as it did. -/
def fnExactIsTradeSpec : ChangeSpec := { name := "fnExactIsTrade", fn := fun _ => fun
  | [d1, d2, d3] => { results := [.lit (.bool true)], args := [d1, d2, d3] }
  | _ => none }
def fnExactIsTradeRow : OpenClaim := { program := "ytiejeflgefdceaa", sum := "e514b5cc344d7a939e562f294807bd5f0b230b8a96854a303d786e0233093eba", func := "loop.example/g01135/laws.FnExactIsTrade", spec := "fnExactIsTrade", apart := false }
def FnExactIsTradeSaid : Prop := fnExactIsTradeRow.holds Try.pinned (OpenSpec.ofChange fnExactIsTradeSpec)

/-- ITS FALSE NEIGHBOUR: 'it returns false'. Refute it at one input. -/
def fnExactIsTradeWrong : ChangeSpec := { name := "fnExactIsTrade", fn := fun _ => fun
  | [d1, d2, d3] => { results := [.lit (.bool false)], args := [d1, d2, d3] }
  | _ => none }
def FnExactIsTradeWrongFalsely : Prop := fnExactIsTradeRow.holds Try.pinned (OpenSpec.ofChange fnExactIsTradeWrong)

/-- 'laws.FnExactDualTable': WHATEVER THE INPUT: true; the input reads as it did. -/
def fnExactDualTableSpec : ChangeSpec := { name := "fnExactDualTable", fn := fun _ => fun
  | [d1, d2] => { results := [.lit (.bool true)], args := [d1, d2] }
  | _ => none }
def fnExactDualTableRow : OpenClaim := { program := "ytiejeflgefdceaa", sum := "e514b5cc344d7a939e562f294807bd5f0b230b8a96854a303d786e0233093eba", func := "loop.example/g01135/laws.FnExactDualTable", spec := "fnExactDualTable", unfollowed := true, recurses := true, apart := false }
def FnExactDualTableSaid : Prop := fnExactDualTableRow.holds Try.pinned (OpenSpec.ofChange fnExactDualTableSpec)

/-- ITS FALSE NEIGHBOUR: 'it returns false'. Refute it at one input. -/
def fnExactDualTableWrong : ChangeSpec := { name := "fnExactDualTable", fn := fun _ => fun
  | [d1, d2] => { results := [.lit (.bool false)], args := [d1, d2] }
  | _ => none }
def FnExactDualTableWrongFalsely : Prop := fnExactDualTableRow.holds Try.pinned (OpenSpec.ofChange fnExactDualTableWrong)

/-- 'laws.FnExactRestrictBit': WHATEVER THE INPUT: true; the input reads as it did. -/
def fnExactRestrictBitSpec : ChangeSpec := { name := "fnExactRestrictBit", fn := fun _ => fun
  | [d1, d2, d3, d4] => { results := [.lit (.bool true)], args := [d1, d2, d3, d4] }
  | _ => none }
def fnExactRestrictBitRow : OpenClaim := { program := "ytiejeflgefdceaa", sum := "e514b5cc344d7a939e562f294807bd5f0b230b8a96854a303d786e0233093eba", func := "loop.example/g01135/laws.FnExactRestrictBit", spec := "fnExactRestrictBit", unfollowed := true, recurses := true, apart := false }
def FnExactRestrictBitSaid : Prop := fnExactRestrictBitRow.holds Try.pinned (OpenSpec.ofChange fnExactRestrictBitSpec)

/-- ITS FALSE NEIGHBOUR: 'it returns false'. Refute it at one input. -/
def fnExactRestrictBitWrong : ChangeSpec := { name := "fnExactRestrictBit", fn := fun _ => fun
  | [d1, d2, d3, d4] => { results := [.lit (.bool false)], args := [d1, d2, d3, d4] }
  | _ => none }
def FnExactRestrictBitWrongFalsely : Prop := fnExactRestrictBitRow.holds Try.pinned (OpenSpec.ofChange fnExactRestrictBitWrong)

/-- 'laws.FnExactChowNumbers': WHATEVER THE INPUT: true; the input reads as it did. -/
def fnExactChowNumbersSpec : ChangeSpec := { name := "fnExactChowNumbers", fn := fun _ => fun
  | [d1, d2] => { results := [.lit (.bool true)], args := [d1, d2] }
  | _ => none }
def fnExactChowNumbersRow : OpenClaim := { program := "ytiejeflgefdceaa", sum := "e514b5cc344d7a939e562f294807bd5f0b230b8a96854a303d786e0233093eba", func := "loop.example/g01135/laws.FnExactChowNumbers", spec := "fnExactChowNumbers", apart := false }
def FnExactChowNumbersSaid : Prop := fnExactChowNumbersRow.holds Try.pinned (OpenSpec.ofChange fnExactChowNumbersSpec)

/-- ITS FALSE NEIGHBOUR: 'it returns false'. Refute it at one input. -/
def fnExactChowNumbersWrong : ChangeSpec := { name := "fnExactChowNumbers", fn := fun _ => fun
  | [d1, d2] => { results := [.lit (.bool false)], args := [d1, d2] }
  | _ => none }
def FnExactChowNumbersWrongFalsely : Prop := fnExactChowNumbersRow.holds Try.pinned (OpenSpec.ofChange fnExactChowNumbersWrong)

/-- 'laws.FnExactProductOf': WHATEVER THE INPUT: true; the input reads as it did. -/
def fnExactProductOfSpec : ChangeSpec := { name := "fnExactProductOf", fn := fun _ => fun
  | [d1, d2] => { results := [.lit (.bool true)], args := [d1, d2] }
  | _ => none }
def fnExactProductOfRow : OpenClaim := { program := "ytiejeflgefdceaa", sum := "e514b5cc344d7a939e562f294807bd5f0b230b8a96854a303d786e0233093eba", func := "loop.example/g01135/laws.FnExactProductOf", spec := "fnExactProductOf", apart := false }
def FnExactProductOfSaid : Prop := fnExactProductOfRow.holds Try.pinned (OpenSpec.ofChange fnExactProductOfSpec)

/-- ITS FALSE NEIGHBOUR: 'it returns false'. Refute it at one input. -/
def fnExactProductOfWrong : ChangeSpec := { name := "fnExactProductOf", fn := fun _ => fun
  | [d1, d2] => { results := [.lit (.bool false)], args := [d1, d2] }
  | _ => none }
def FnExactProductOfWrongFalsely : Prop := fnExactProductOfRow.holds Try.pinned (OpenSpec.ofChange fnExactProductOfWrong)

/-- 'laws.FnExactLiftPlane': WHATEVER THE INPUT: true; the input reads as it did. -/
def fnExactLiftPlaneSpec : ChangeSpec := { name := "fnExactLiftPlane", fn := fun _ => fun
  | [d] => { results := [.lit (.bool true)], args := [d] }
  | _ => none }
def fnExactLiftPlaneRow : OpenClaim := { program := "ytiejeflgefdceaa", sum := "e514b5cc344d7a939e562f294807bd5f0b230b8a96854a303d786e0233093eba", func := "loop.example/g01135/laws.FnExactLiftPlane", spec := "fnExactLiftPlane", apart := false }
def FnExactLiftPlaneSaid : Prop := fnExactLiftPlaneRow.holds Try.pinned (OpenSpec.ofChange fnExactLiftPlaneSpec)

/-- ITS FALSE NEIGHBOUR: 'it returns false'. Refute it at one input. -/
def fnExactLiftPlaneWrong : ChangeSpec := { name := "fnExactLiftPlane", fn := fun _ => fun
  | [d] => { results := [.lit (.bool false)], args := [d] }
  | _ => none }
def FnExactLiftPlaneWrongFalsely : Prop := fnExactLiftPlaneRow.holds Try.pinned (OpenSpec.ofChange fnExactLiftPlaneWrong)

/-- 'laws.FnExactSideOf': WHATEVER THE INPUT: true; the input reads as it did. -/
def fnExactSideOfSpec : ChangeSpec := { name := "fnExactSideOf", fn := fun _ => fun
  | [d1, d2] => { results := [.lit (.bool true)], args := [d1, d2] }
  | _ => none }
def fnExactSideOfRow : OpenClaim := { program := "ytiejeflgefdceaa", sum := "e514b5cc344d7a939e562f294807bd5f0b230b8a96854a303d786e0233093eba", func := "loop.example/g01135/laws.FnExactSideOf", spec := "fnExactSideOf", apart := false }
def FnExactSideOfSaid : Prop := fnExactSideOfRow.holds Try.pinned (OpenSpec.ofChange fnExactSideOfSpec)

/-- ITS FALSE NEIGHBOUR: 'it returns false'. Refute it at one input. -/
def fnExactSideOfWrong : ChangeSpec := { name := "fnExactSideOf", fn := fun _ => fun
  | [d1, d2] => { results := [.lit (.bool false)], args := [d1, d2] }
  | _ => none }
def FnExactSideOfWrongFalsely : Prop := fnExactSideOfRow.holds Try.pinned (OpenSpec.ofChange fnExactSideOfWrong)

/-- 'laws.FnExactStepWinnow': WHATEVER THE INPUT: true; the input reads as it did. -/
def fnExactStepWinnowSpec : ChangeSpec := { name := "fnExactStepWinnow", fn := fun _ => fun
  | [d1, d2, d3] => { results := [.lit (.bool true)], args := [d1, d2, d3] }
  | _ => none }
def fnExactStepWinnowRow : OpenClaim := { program := "ytiejeflgefdceaa", sum := "e514b5cc344d7a939e562f294807bd5f0b230b8a96854a303d786e0233093eba", func := "loop.example/g01135/laws.FnExactStepWinnow", spec := "fnExactStepWinnow", apart := false }
def FnExactStepWinnowSaid : Prop := fnExactStepWinnowRow.holds Try.pinned (OpenSpec.ofChange fnExactStepWinnowSpec)

/-- ITS FALSE NEIGHBOUR: 'it returns false'. Refute it at one input. -/
def fnExactStepWinnowWrong : ChangeSpec := { name := "fnExactStepWinnow", fn := fun _ => fun
  | [d1, d2, d3] => { results := [.lit (.bool false)], args := [d1, d2, d3] }
  | _ => none }
def FnExactStepWinnowWrongFalsely : Prop := fnExactStepWinnowRow.holds Try.pinned (OpenSpec.ofChange fnExactStepWinnowWrong)

/-- 'laws.FnExactTurnPlane': WHATEVER THE INPUT: true; the input reads as it did. -/
def fnExactTurnPlaneSpec : ChangeSpec := { name := "fnExactTurnPlane", fn := fun _ => fun
  | [d] => { results := [.lit (.bool true)], args := [d] }
  | _ => none }
def fnExactTurnPlaneRow : OpenClaim := { program := "ytiejeflgefdceaa", sum := "e514b5cc344d7a939e562f294807bd5f0b230b8a96854a303d786e0233093eba", func := "loop.example/g01135/laws.FnExactTurnPlane", spec := "fnExactTurnPlane", apart := false }
def FnExactTurnPlaneSaid : Prop := fnExactTurnPlaneRow.holds Try.pinned (OpenSpec.ofChange fnExactTurnPlaneSpec)

/-- ITS FALSE NEIGHBOUR: 'it returns false'. Refute it at one input. -/
def fnExactTurnPlaneWrong : ChangeSpec := { name := "fnExactTurnPlane", fn := fun _ => fun
  | [d] => { results := [.lit (.bool false)], args := [d] }
  | _ => none }
def FnExactTurnPlaneWrongFalsely : Prop := fnExactTurnPlaneRow.holds Try.pinned (OpenSpec.ofChange fnExactTurnPlaneWrong)

/-- 'laws.FnExactIsSample': WHATEVER THE INPUT: true; the input reads as it did. -/
def fnExactIsSampleSpec : ChangeSpec := { name := "fnExactIsSample", fn := fun _ => fun
  | [d] => { results := [.lit (.bool true)], args := [d] }
  | _ => none }
def fnExactIsSampleRow : OpenClaim := { program := "ytiejeflgefdceaa", sum := "e514b5cc344d7a939e562f294807bd5f0b230b8a96854a303d786e0233093eba", func := "loop.example/g01135/laws.FnExactIsSample", spec := "fnExactIsSample", apart := false }
def FnExactIsSampleSaid : Prop := fnExactIsSampleRow.holds Try.pinned (OpenSpec.ofChange fnExactIsSampleSpec)

/-- ITS FALSE NEIGHBOUR: 'it returns false'. Refute it at one input. -/
def fnExactIsSampleWrong : ChangeSpec := { name := "fnExactIsSample", fn := fun _ => fun
  | [d] => { results := [.lit (.bool false)], args := [d] }
  | _ => none }
def FnExactIsSampleWrongFalsely : Prop := fnExactIsSampleRow.holds Try.pinned (OpenSpec.ofChange fnExactIsSampleWrong)

/-- 'laws.FnExactMovePlane': WHATEVER THE INPUT: true; the input reads as it did. -/
def fnExactMovePlaneSpec : ChangeSpec := { name := "fnExactMovePlane", fn := fun _ => fun
  | [d1, d2] => { results := [.lit (.bool true)], args := [d1, d2] }
  | _ => none }
def fnExactMovePlaneRow : OpenClaim := { program := "ytiejeflgefdceaa", sum := "e514b5cc344d7a939e562f294807bd5f0b230b8a96854a303d786e0233093eba", func := "loop.example/g01135/laws.FnExactMovePlane", spec := "fnExactMovePlane", apart := false }
def FnExactMovePlaneSaid : Prop := fnExactMovePlaneRow.holds Try.pinned (OpenSpec.ofChange fnExactMovePlaneSpec)

/-- ITS FALSE NEIGHBOUR: 'it returns false'. Refute it at one input. -/
def fnExactMovePlaneWrong : ChangeSpec := { name := "fnExactMovePlane", fn := fun _ => fun
  | [d1, d2] => { results := [.lit (.bool false)], args := [d1, d2] }
  | _ => none }
def FnExactMovePlaneWrongFalsely : Prop := fnExactMovePlaneRow.holds Try.pinned (OpenSpec.ofChange fnExactMovePlaneWrong)

/-- 'laws.FnExactTableSample': WHATEVER THE INPUT: true; the input reads as it did. -/
def fnExactTableSampleSpec : ChangeSpec := { name := "fnExactTableSample", fn := fun _ => fun
  | [d1, d2] => { results := [.lit (.bool true)], args := [d1, d2] }
  | _ => none }
def fnExactTableSampleRow : OpenClaim := { program := "ytiejeflgefdceaa", sum := "e514b5cc344d7a939e562f294807bd5f0b230b8a96854a303d786e0233093eba", func := "loop.example/g01135/laws.FnExactTableSample", spec := "fnExactTableSample", apart := false }
def FnExactTableSampleSaid : Prop := fnExactTableSampleRow.holds Try.pinned (OpenSpec.ofChange fnExactTableSampleSpec)

/-- ITS FALSE NEIGHBOUR: 'it returns false'. Refute it at one input. -/
def fnExactTableSampleWrong : ChangeSpec := { name := "fnExactTableSample", fn := fun _ => fun
  | [d1, d2] => { results := [.lit (.bool false)], args := [d1, d2] }
  | _ => none }
def FnExactTableSampleWrongFalsely : Prop := fnExactTableSampleRow.holds Try.pinned (OpenSpec.ofChange fnExactTableSampleWrong)

/- THE SECOND FORM. 'bulk': how many values and letters a reading holds, each counted each time it is reached (what is shared counts as often as it is met; a slice's spare places count too). A statement '..UptoSaid' is the law's where the arguments, and the package variables that the reading takes, are together of bulk at most 1048576: NARROWER than '..Said'. Prove '..Said' where nothing that the law and all that it calls make is longer than what came in: it says more and counts as full. Else prove '..UptoSaid'. A law counts once. -/
mutual
def uptoBulk {H : Type} : DataW H → Nat
  | .lit (.string bytes) => bytes.length + 1
  | .lit _ => 1
  | .nil => 1
  | .ptr d => uptoBulk d + 1
  | .slice elems spare => uptoBulkAll elems + uptoBulkAll spare + 1
  | .agg parts => uptoBulkAll parts + 1
  | .iface _ d => uptoBulk d + 1
  | .map entries => uptoBulkEntries entries + 1
  | .held _ => 1
def uptoBulkAll {H : Type} : List (DataW H) → Nat
  | [] => 0
  | d :: r => uptoBulk d + uptoBulkAll r
def uptoBulkEntries {H : Type} : List (Lit × DataW H) → Nat
  | [] => 0
  | x :: r => uptoBulkEntry x + uptoBulkEntries r
def uptoBulkEntry {H : Type} : Lit × DataW H → Nat
  | (.string bytes, d) => bytes.length + uptoBulk d + 1
  | (_, d) => uptoBulk d + 1
 end
def uptoSmall : (H : Type) → List (DataW H) → Bool := fun _ ds => decide (uptoBulkAll ds ≤ 1048576)
def OpenSpec.upto (s : _root_.Go.ChangeSpec) : _root_.Go.OpenSpec := { _root_.Go.OpenSpec.ofChange s with cond := some uptoSmall }

/-- 'laws.FnExactIsTrade', WHERE WHAT IT READS IS OF BULK AT MOST 1048576: true; the input reads as it did. -/
def fnExactIsTradeUptoRow : OpenClaim := { program := "ytiejeflgefdceaa", sum := "e514b5cc344d7a939e562f294807bd5f0b230b8a96854a303d786e0233093eba", func := "loop.example/g01135/laws.FnExactIsTrade", spec := "fnExactIsTrade", apart := false, narrowed := true }
def FnExactIsTradeUptoSaid : Prop := fnExactIsTradeUptoRow.holds Try.pinned (OpenSpec.upto fnExactIsTradeSpec)

/-- 'laws.FnExactDualTable', WHERE WHAT IT READS IS OF BULK AT MOST 1048576: true; the input reads as it did. -/
def fnExactDualTableUptoRow : OpenClaim := { program := "ytiejeflgefdceaa", sum := "e514b5cc344d7a939e562f294807bd5f0b230b8a96854a303d786e0233093eba", func := "loop.example/g01135/laws.FnExactDualTable", spec := "fnExactDualTable", unfollowed := true, recurses := true, apart := false, narrowed := true }
def FnExactDualTableUptoSaid : Prop := fnExactDualTableUptoRow.holds Try.pinned (OpenSpec.upto fnExactDualTableSpec)

/-- 'laws.FnExactRestrictBit', WHERE WHAT IT READS IS OF BULK AT MOST 1048576: true; the input reads as it did. -/
def fnExactRestrictBitUptoRow : OpenClaim := { program := "ytiejeflgefdceaa", sum := "e514b5cc344d7a939e562f294807bd5f0b230b8a96854a303d786e0233093eba", func := "loop.example/g01135/laws.FnExactRestrictBit", spec := "fnExactRestrictBit", unfollowed := true, recurses := true, apart := false, narrowed := true }
def FnExactRestrictBitUptoSaid : Prop := fnExactRestrictBitUptoRow.holds Try.pinned (OpenSpec.upto fnExactRestrictBitSpec)

/-- 'laws.FnExactChowNumbers', WHERE WHAT IT READS IS OF BULK AT MOST 1048576: true; the input reads as it did. -/
def fnExactChowNumbersUptoRow : OpenClaim := { program := "ytiejeflgefdceaa", sum := "e514b5cc344d7a939e562f294807bd5f0b230b8a96854a303d786e0233093eba", func := "loop.example/g01135/laws.FnExactChowNumbers", spec := "fnExactChowNumbers", apart := false, narrowed := true }
def FnExactChowNumbersUptoSaid : Prop := fnExactChowNumbersUptoRow.holds Try.pinned (OpenSpec.upto fnExactChowNumbersSpec)

/-- 'laws.FnExactProductOf', WHERE WHAT IT READS IS OF BULK AT MOST 1048576: true; the input reads as it did. -/
def fnExactProductOfUptoRow : OpenClaim := { program := "ytiejeflgefdceaa", sum := "e514b5cc344d7a939e562f294807bd5f0b230b8a96854a303d786e0233093eba", func := "loop.example/g01135/laws.FnExactProductOf", spec := "fnExactProductOf", apart := false, narrowed := true }
def FnExactProductOfUptoSaid : Prop := fnExactProductOfUptoRow.holds Try.pinned (OpenSpec.upto fnExactProductOfSpec)

/-- 'laws.FnExactLiftPlane', WHERE WHAT IT READS IS OF BULK AT MOST 1048576: true; the input reads as it did. -/
def fnExactLiftPlaneUptoRow : OpenClaim := { program := "ytiejeflgefdceaa", sum := "e514b5cc344d7a939e562f294807bd5f0b230b8a96854a303d786e0233093eba", func := "loop.example/g01135/laws.FnExactLiftPlane", spec := "fnExactLiftPlane", apart := false, narrowed := true }
def FnExactLiftPlaneUptoSaid : Prop := fnExactLiftPlaneUptoRow.holds Try.pinned (OpenSpec.upto fnExactLiftPlaneSpec)

/-- 'laws.FnExactSideOf', WHERE WHAT IT READS IS OF BULK AT MOST 1048576: true; the input reads as it did. -/
def fnExactSideOfUptoRow : OpenClaim := { program := "ytiejeflgefdceaa", sum := "e514b5cc344d7a939e562f294807bd5f0b230b8a96854a303d786e0233093eba", func := "loop.example/g01135/laws.FnExactSideOf", spec := "fnExactSideOf", apart := false, narrowed := true }
def FnExactSideOfUptoSaid : Prop := fnExactSideOfUptoRow.holds Try.pinned (OpenSpec.upto fnExactSideOfSpec)

/-- 'laws.FnExactStepWinnow', WHERE WHAT IT READS IS OF BULK AT MOST 1048576: true; the input reads as it did. -/
def fnExactStepWinnowUptoRow : OpenClaim := { program := "ytiejeflgefdceaa", sum := "e514b5cc344d7a939e562f294807bd5f0b230b8a96854a303d786e0233093eba", func := "loop.example/g01135/laws.FnExactStepWinnow", spec := "fnExactStepWinnow", apart := false, narrowed := true }
def FnExactStepWinnowUptoSaid : Prop := fnExactStepWinnowUptoRow.holds Try.pinned (OpenSpec.upto fnExactStepWinnowSpec)

/-- 'laws.FnExactTurnPlane', WHERE WHAT IT READS IS OF BULK AT MOST 1048576: true; the input reads as it did. -/
def fnExactTurnPlaneUptoRow : OpenClaim := { program := "ytiejeflgefdceaa", sum := "e514b5cc344d7a939e562f294807bd5f0b230b8a96854a303d786e0233093eba", func := "loop.example/g01135/laws.FnExactTurnPlane", spec := "fnExactTurnPlane", apart := false, narrowed := true }
def FnExactTurnPlaneUptoSaid : Prop := fnExactTurnPlaneUptoRow.holds Try.pinned (OpenSpec.upto fnExactTurnPlaneSpec)

/-- 'laws.FnExactIsSample', WHERE WHAT IT READS IS OF BULK AT MOST 1048576: true; the input reads as it did. -/
def fnExactIsSampleUptoRow : OpenClaim := { program := "ytiejeflgefdceaa", sum := "e514b5cc344d7a939e562f294807bd5f0b230b8a96854a303d786e0233093eba", func := "loop.example/g01135/laws.FnExactIsSample", spec := "fnExactIsSample", apart := false, narrowed := true }
def FnExactIsSampleUptoSaid : Prop := fnExactIsSampleUptoRow.holds Try.pinned (OpenSpec.upto fnExactIsSampleSpec)

/-- 'laws.FnExactMovePlane', WHERE WHAT IT READS IS OF BULK AT MOST 1048576: true; the input reads as it did. -/
def fnExactMovePlaneUptoRow : OpenClaim := { program := "ytiejeflgefdceaa", sum := "e514b5cc344d7a939e562f294807bd5f0b230b8a96854a303d786e0233093eba", func := "loop.example/g01135/laws.FnExactMovePlane", spec := "fnExactMovePlane", apart := false, narrowed := true }
def FnExactMovePlaneUptoSaid : Prop := fnExactMovePlaneUptoRow.holds Try.pinned (OpenSpec.upto fnExactMovePlaneSpec)

/-- 'laws.FnExactTableSample', WHERE WHAT IT READS IS OF BULK AT MOST 1048576: true; the input reads as it did. -/
def fnExactTableSampleUptoRow : OpenClaim := { program := "ytiejeflgefdceaa", sum := "e514b5cc344d7a939e562f294807bd5f0b230b8a96854a303d786e0233093eba", func := "loop.example/g01135/laws.FnExactTableSample", spec := "fnExactTableSample", apart := false, narrowed := true }
def FnExactTableSampleUptoSaid : Prop := fnExactTableSampleUptoRow.holds Try.pinned (OpenSpec.upto fnExactTableSampleSpec)

end Rows
end Go.Proofs.Ytiejeflgefdceaa
