/-
  No cell of these rows narrows 'for every input' (looked for: loops, veiled, ifaces, maps, wideKeys, modest, calm, conditions, laid).
  DERIVED. THE GIVEN ROWS OF THIS SEAT. 12 by the template 'for every input the law returns true; each argument reads behind the call as it read before'; 0 by the template 'total and deterministic' (their statements: YtdjclffkidoohaaTotals.lean).
  GIVEN WITH THE SEED: the statements are not yours to turn. If you find one false, say at which input.
  Laid BY PROGRAM, IN A SANDBOX (cutbox-rows.mjs): the forced cells as the released guide's own fill.sh prints them over the translation bb3d39d3beb4c59a… (all of the seat's roots in one cut). By AI agents, Wed Nov 11 2026. No macro, syntax, notation, axiom, sorry.
-/
import Derived.Test.YtdjclffkidoohaaChecked
import GoSem.Claim
import GoSem.ClaimJoined
import GoSem.ClaimMapViews
import Derived.JoinedTies
import Derived.KernelRfl
namespace Go.Proofs.Ytdjclffkidoohaa
/- THE CELL 'sum', in the pinned program and in every row, IS THE sha256 OF THE DUMP (.gsa) THAT YtdjclffkidoohaaProg.lean LOADS. Nothing in Lean hashes anything: it is a label: what it is worth is what the hold of that sum in a sandbox is worth. -/
noncomputable def Try.pinned : Pinned := { name := "ytdjclffkidoohaa", sum := "bb3d39d3beb4c59a4b8bb5ef28ab7a2e095297878a08bc340b2e2287e7dec167", checked := Try.checked }
namespace Rows
def none {H : Type} : Left H := { results := [], args := [] }

/-- 'laws.FnExactWeightsTable': WHATEVER THE INPUT: true; the input reads as it did. -/
def fnExactWeightsTableSpec : ChangeSpec := { name := "fnExactWeightsTable", fn := fun _ => fun
  | [d1, d2] => { results := [.lit (.bool true)], args := [d1, d2] }
  | _ => none }
def fnExactWeightsTableRow : OpenClaim := { program := "ytdjclffkidoohaa", sum := "bb3d39d3beb4c59a4b8bb5ef28ab7a2e095297878a08bc340b2e2287e7dec167", func := "loop.example/g01135/laws.FnExactWeightsTable", spec := "fnExactWeightsTable", unfollowed := true, recurses := true, apart := false }
def FnExactWeightsTableSaid : Prop := fnExactWeightsTableRow.holds Try.pinned (OpenSpec.ofChange fnExactWeightsTableSpec)

/-- ITS FALSE NEIGHBOUR: 'it returns false'. Refute it at one input. -/
def fnExactWeightsTableWrong : ChangeSpec := { name := "fnExactWeightsTable", fn := fun _ => fun
  | [d1, d2] => { results := [.lit (.bool false)], args := [d1, d2] }
  | _ => none }
def FnExactWeightsTableWrongFalsely : Prop := fnExactWeightsTableRow.holds Try.pinned (OpenSpec.ofChange fnExactWeightsTableWrong)

/-- 'laws.FnExactWidestWeights': WHATEVER THE INPUT: true; the input reads as it did. -/
def fnExactWidestWeightsSpec : ChangeSpec := { name := "fnExactWidestWeights", fn := fun _ => fun
  | [d1, d2] => { results := [.lit (.bool true)], args := [d1, d2] }
  | _ => none }
def fnExactWidestWeightsRow : OpenClaim := { program := "ytdjclffkidoohaa", sum := "bb3d39d3beb4c59a4b8bb5ef28ab7a2e095297878a08bc340b2e2287e7dec167", func := "loop.example/g01135/laws.FnExactWidestWeights", spec := "fnExactWidestWeights", unfollowed := true, recurses := true, apart := false }
def FnExactWidestWeightsSaid : Prop := fnExactWidestWeightsRow.holds Try.pinned (OpenSpec.ofChange fnExactWidestWeightsSpec)

/-- ITS FALSE NEIGHBOUR: 'it returns false'. Refute it at one input. -/
def fnExactWidestWeightsWrong : ChangeSpec := { name := "fnExactWidestWeights", fn := fun _ => fun
  | [d1, d2] => { results := [.lit (.bool false)], args := [d1, d2] }
  | _ => none }
def FnExactWidestWeightsWrongFalsely : Prop := fnExactWidestWeightsRow.holds Try.pinned (OpenSpec.ofChange fnExactWidestWeightsWrong)

/-- 'laws.FnExactInGeneralPosition': WHATEVER THE INPUT: true; the input reads as it did. -/
def fnExactInGeneralPositionSpec : ChangeSpec := { name := "fnExactInGeneralPosition", fn := fun _ => fun
  | [d] => { results := [.lit (.bool true)], args := [d] }
  | _ => none }
def fnExactInGeneralPositionRow : OpenClaim := { program := "ytdjclffkidoohaa", sum := "bb3d39d3beb4c59a4b8bb5ef28ab7a2e095297878a08bc340b2e2287e7dec167", func := "loop.example/g01135/laws.FnExactInGeneralPosition", spec := "fnExactInGeneralPosition", unfollowed := true, recurses := true, apart := false }
def FnExactInGeneralPositionSaid : Prop := fnExactInGeneralPositionRow.holds Try.pinned (OpenSpec.ofChange fnExactInGeneralPositionSpec)

/-- ITS FALSE NEIGHBOUR: 'it returns false'. Refute it at one input. -/
def fnExactInGeneralPositionWrong : ChangeSpec := { name := "fnExactInGeneralPosition", fn := fun _ => fun
  | [d] => { results := [.lit (.bool false)], args := [d] }
  | _ => none }
def FnExactInGeneralPositionWrongFalsely : Prop := fnExactInGeneralPositionRow.holds Try.pinned (OpenSpec.ofChange fnExactInGeneralPositionWrong)

/-- 'laws.FnExactSmallPlane': WHATEVER THE INPUT: true; the input reads as it did. -/
def fnExactSmallPlaneSpec : ChangeSpec := { name := "fnExactSmallPlane", fn := fun _ => fun
  | [d1, d2] => { results := [.lit (.bool true)], args := [d1, d2] }
  | _ => none }
def fnExactSmallPlaneRow : OpenClaim := { program := "ytdjclffkidoohaa", sum := "bb3d39d3beb4c59a4b8bb5ef28ab7a2e095297878a08bc340b2e2287e7dec167", func := "loop.example/g01135/laws.FnExactSmallPlane", spec := "fnExactSmallPlane", unfollowed := true, recurses := true, apart := false }
def FnExactSmallPlaneSaid : Prop := fnExactSmallPlaneRow.holds Try.pinned (OpenSpec.ofChange fnExactSmallPlaneSpec)

/-- ITS FALSE NEIGHBOUR: 'it returns false'. Refute it at one input. -/
def fnExactSmallPlaneWrong : ChangeSpec := { name := "fnExactSmallPlane", fn := fun _ => fun
  | [d1, d2] => { results := [.lit (.bool false)], args := [d1, d2] }
  | _ => none }
def FnExactSmallPlaneWrongFalsely : Prop := fnExactSmallPlaneRow.holds Try.pinned (OpenSpec.ofChange fnExactSmallPlaneWrong)

/-- 'laws.FnExactCanPart': WHATEVER THE INPUT: true; the input reads as it did. -/
def fnExactCanPartSpec : ChangeSpec := { name := "fnExactCanPart", fn := fun _ => fun
  | [d] => { results := [.lit (.bool true)], args := [d] }
  | _ => none }
def fnExactCanPartRow : OpenClaim := { program := "ytdjclffkidoohaa", sum := "bb3d39d3beb4c59a4b8bb5ef28ab7a2e095297878a08bc340b2e2287e7dec167", func := "loop.example/g01135/laws.FnExactCanPart", spec := "fnExactCanPart", unfollowed := true, recurses := true, apart := false }
def FnExactCanPartSaid : Prop := fnExactCanPartRow.holds Try.pinned (OpenSpec.ofChange fnExactCanPartSpec)

/-- ITS FALSE NEIGHBOUR: 'it returns false'. Refute it at one input. -/
def fnExactCanPartWrong : ChangeSpec := { name := "fnExactCanPart", fn := fun _ => fun
  | [d] => { results := [.lit (.bool false)], args := [d] }
  | _ => none }
def FnExactCanPartWrongFalsely : Prop := fnExactCanPartRow.holds Try.pinned (OpenSpec.ofChange fnExactCanPartWrong)

/-- 'laws.FnExactCountPartings': WHATEVER THE INPUT: true; the input reads as it did. -/
def fnExactCountPartingsSpec : ChangeSpec := { name := "fnExactCountPartings", fn := fun _ => fun
  | [d] => { results := [.lit (.bool true)], args := [d] }
  | _ => none }
def fnExactCountPartingsRow : OpenClaim := { program := "ytdjclffkidoohaa", sum := "bb3d39d3beb4c59a4b8bb5ef28ab7a2e095297878a08bc340b2e2287e7dec167", func := "loop.example/g01135/laws.FnExactCountPartings", spec := "fnExactCountPartings", unfollowed := true, recurses := true, apart := false }
def FnExactCountPartingsSaid : Prop := fnExactCountPartingsRow.holds Try.pinned (OpenSpec.ofChange fnExactCountPartingsSpec)

/-- ITS FALSE NEIGHBOUR: 'it returns false'. Refute it at one input. -/
def fnExactCountPartingsWrong : ChangeSpec := { name := "fnExactCountPartings", fn := fun _ => fun
  | [d] => { results := [.lit (.bool false)], args := [d] }
  | _ => none }
def FnExactCountPartingsWrongFalsely : Prop := fnExactCountPartingsRow.holds Try.pinned (OpenSpec.ofChange fnExactCountPartingsWrong)

/-- 'laws.FnExactHardPart': WHATEVER THE INPUT: true; the input reads as it did. -/
def fnExactHardPartSpec : ChangeSpec := { name := "fnExactHardPart", fn := fun _ => fun
  | [d] => { results := [.lit (.bool true)], args := [d] }
  | _ => none }
def fnExactHardPartRow : OpenClaim := { program := "ytdjclffkidoohaa", sum := "bb3d39d3beb4c59a4b8bb5ef28ab7a2e095297878a08bc340b2e2287e7dec167", func := "loop.example/g01135/laws.FnExactHardPart", spec := "fnExactHardPart", unfollowed := true, recurses := true, apart := false }
def FnExactHardPartSaid : Prop := fnExactHardPartRow.holds Try.pinned (OpenSpec.ofChange fnExactHardPartSpec)

/-- ITS FALSE NEIGHBOUR: 'it returns false'. Refute it at one input. -/
def fnExactHardPartWrong : ChangeSpec := { name := "fnExactHardPart", fn := fun _ => fun
  | [d] => { results := [.lit (.bool false)], args := [d] }
  | _ => none }
def FnExactHardPartWrongFalsely : Prop := fnExactHardPartRow.holds Try.pinned (OpenSpec.ofChange fnExactHardPartWrong)

/-- 'laws.FnExactFindCertificate': WHATEVER THE INPUT: true; the input reads as it did. -/
def fnExactFindCertificateSpec : ChangeSpec := { name := "fnExactFindCertificate", fn := fun _ => fun
  | [d] => { results := [.lit (.bool true)], args := [d] }
  | _ => none }
def fnExactFindCertificateRow : OpenClaim := { program := "ytdjclffkidoohaa", sum := "bb3d39d3beb4c59a4b8bb5ef28ab7a2e095297878a08bc340b2e2287e7dec167", func := "loop.example/g01135/laws.FnExactFindCertificate", spec := "fnExactFindCertificate", unfollowed := true, recurses := true, apart := false }
def FnExactFindCertificateSaid : Prop := fnExactFindCertificateRow.holds Try.pinned (OpenSpec.ofChange fnExactFindCertificateSpec)

/-- ITS FALSE NEIGHBOUR: 'it returns false'. Refute it at one input. -/
def fnExactFindCertificateWrong : ChangeSpec := { name := "fnExactFindCertificate", fn := fun _ => fun
  | [d] => { results := [.lit (.bool false)], args := [d] }
  | _ => none }
def FnExactFindCertificateWrongFalsely : Prop := fnExactFindCertificateRow.holds Try.pinned (OpenSpec.ofChange fnExactFindCertificateWrong)

/-- 'laws.FnExactLeastMistakes': WHATEVER THE INPUT: true; the input reads as it did. -/
def fnExactLeastMistakesSpec : ChangeSpec := { name := "fnExactLeastMistakes", fn := fun _ => fun
  | [d] => { results := [.lit (.bool true)], args := [d] }
  | _ => none }
def fnExactLeastMistakesRow : OpenClaim := { program := "ytdjclffkidoohaa", sum := "bb3d39d3beb4c59a4b8bb5ef28ab7a2e095297878a08bc340b2e2287e7dec167", func := "loop.example/g01135/laws.FnExactLeastMistakes", spec := "fnExactLeastMistakes", unfollowed := true, recurses := true, apart := false }
def FnExactLeastMistakesSaid : Prop := fnExactLeastMistakesRow.holds Try.pinned (OpenSpec.ofChange fnExactLeastMistakesSpec)

/-- ITS FALSE NEIGHBOUR: 'it returns false'. Refute it at one input. -/
def fnExactLeastMistakesWrong : ChangeSpec := { name := "fnExactLeastMistakes", fn := fun _ => fun
  | [d] => { results := [.lit (.bool false)], args := [d] }
  | _ => none }
def FnExactLeastMistakesWrongFalsely : Prop := fnExactLeastMistakesRow.holds Try.pinned (OpenSpec.ofChange fnExactLeastMistakesWrong)

/-- 'laws.FnCertificates': WHATEVER THE INPUT: true; the input reads as it did. -/
def fnCertificatesSpec : ChangeSpec := { name := "fnCertificates", fn := fun _ => fun
  | [d] => { results := [.lit (.bool true)], args := [d] }
  | _ => none }
def fnCertificatesRow : OpenClaim := { program := "ytdjclffkidoohaa", sum := "bb3d39d3beb4c59a4b8bb5ef28ab7a2e095297878a08bc340b2e2287e7dec167", func := "loop.example/g01135/laws.FnCertificates", spec := "fnCertificates", unfollowed := true, recurses := true, apart := false }
def FnCertificatesSaid : Prop := fnCertificatesRow.holds Try.pinned (OpenSpec.ofChange fnCertificatesSpec)

/-- ITS FALSE NEIGHBOUR: 'it returns false'. Refute it at one input. -/
def fnCertificatesWrong : ChangeSpec := { name := "fnCertificates", fn := fun _ => fun
  | [d] => { results := [.lit (.bool false)], args := [d] }
  | _ => none }
def FnCertificatesWrongFalsely : Prop := fnCertificatesRow.holds Try.pinned (OpenSpec.ofChange fnCertificatesWrong)

/-- 'laws.FnPartings': WHATEVER THE INPUT: true; the input reads as it did. -/
def fnPartingsSpec : ChangeSpec := { name := "fnPartings", fn := fun _ => fun
  | [d] => { results := [.lit (.bool true)], args := [d] }
  | _ => none }
def fnPartingsRow : OpenClaim := { program := "ytdjclffkidoohaa", sum := "bb3d39d3beb4c59a4b8bb5ef28ab7a2e095297878a08bc340b2e2287e7dec167", func := "loop.example/g01135/laws.FnPartings", spec := "fnPartings", unfollowed := true, recurses := true, apart := false }
def FnPartingsSaid : Prop := fnPartingsRow.holds Try.pinned (OpenSpec.ofChange fnPartingsSpec)

/-- ITS FALSE NEIGHBOUR: 'it returns false'. Refute it at one input. -/
def fnPartingsWrong : ChangeSpec := { name := "fnPartings", fn := fun _ => fun
  | [d] => { results := [.lit (.bool false)], args := [d] }
  | _ => none }
def FnPartingsWrongFalsely : Prop := fnPartingsRow.holds Try.pinned (OpenSpec.ofChange fnPartingsWrong)

/-- 'laws.FnExactCommonPoint': WHATEVER THE INPUT: true; the input reads as it did. -/
def fnExactCommonPointSpec : ChangeSpec := { name := "fnExactCommonPoint", fn := fun _ => fun
  | [d1, d2] => { results := [.lit (.bool true)], args := [d1, d2] }
  | _ => none }
def fnExactCommonPointRow : OpenClaim := { program := "ytdjclffkidoohaa", sum := "bb3d39d3beb4c59a4b8bb5ef28ab7a2e095297878a08bc340b2e2287e7dec167", func := "loop.example/g01135/laws.FnExactCommonPoint", spec := "fnExactCommonPoint", apart := false }
def FnExactCommonPointSaid : Prop := fnExactCommonPointRow.holds Try.pinned (OpenSpec.ofChange fnExactCommonPointSpec)

/-- ITS FALSE NEIGHBOUR: 'it returns false'. Refute it at one input. -/
def fnExactCommonPointWrong : ChangeSpec := { name := "fnExactCommonPoint", fn := fun _ => fun
  | [d1, d2] => { results := [.lit (.bool false)], args := [d1, d2] }
  | _ => none }
def FnExactCommonPointWrongFalsely : Prop := fnExactCommonPointRow.holds Try.pinned (OpenSpec.ofChange fnExactCommonPointWrong)

/- THE SECOND FORM. 'bulk': how many values and letters a reading holds, each counted each time it is reached (what is shared counts as often as it is met; a slice's spare places count too). A statement '..UptoSaid' is the law's where the arguments, and the package variables that the reading takes, are together of bulk at most 1048576: NARROWER than '..Said'. Prove '..Said' where nothing that the law and all that it calls make is longer than what came in: it says more and counts as full. Else prove '..UptoSaid'. A law counts once. -/
mutual
def uptoBulk {H : Type} : DataW H → Nat
  | .lit (.string bytes) => bytes.length + 1
  | .lit _ => 1
  | .nil => 1
  | .ptr d => uptoBulk d + 1
  | .slice elems spare => uptoBulkAll elems + uptoBulkAll spare + 1
  | .agg parts => uptoBulkAll parts + 1
  | .iface _ d => uptoBulk d + 1
  | .map entries => uptoBulkEntries entries + 1
  | .held _ => 1
def uptoBulkAll {H : Type} : List (DataW H) → Nat
  | [] => 0
  | d :: r => uptoBulk d + uptoBulkAll r
def uptoBulkEntries {H : Type} : List (Lit × DataW H) → Nat
  | [] => 0
  | x :: r => uptoBulkEntry x + uptoBulkEntries r
def uptoBulkEntry {H : Type} : Lit × DataW H → Nat
  | (.string bytes, d) => bytes.length + uptoBulk d + 1
  | (_, d) => uptoBulk d + 1
 end
def uptoSmall : (H : Type) → List (DataW H) → Bool := fun _ ds => decide (uptoBulkAll ds ≤ 1048576)
def OpenSpec.upto (s : _root_.Go.ChangeSpec) : _root_.Go.OpenSpec := { _root_.Go.OpenSpec.ofChange s with cond := some uptoSmall }

/-- 'laws.FnExactWeightsTable', WHERE WHAT IT READS IS OF BULK AT MOST 1048576: true; the input reads as it did. -/
def fnExactWeightsTableUptoRow : OpenClaim := { program := "ytdjclffkidoohaa", sum := "bb3d39d3beb4c59a4b8bb5ef28ab7a2e095297878a08bc340b2e2287e7dec167", func := "loop.example/g01135/laws.FnExactWeightsTable", spec := "fnExactWeightsTable", unfollowed := true, recurses := true, apart := false, narrowed := true }
def FnExactWeightsTableUptoSaid : Prop := fnExactWeightsTableUptoRow.holds Try.pinned (OpenSpec.upto fnExactWeightsTableSpec)

/-- 'laws.FnExactWidestWeights', WHERE WHAT IT READS IS OF BULK AT MOST 1048576: true; the input reads as it did. -/
def fnExactWidestWeightsUptoRow : OpenClaim := { program := "ytdjclffkidoohaa", sum := "bb3d39d3beb4c59a4b8bb5ef28ab7a2e095297878a08bc340b2e2287e7dec167", func := "loop.example/g01135/laws.FnExactWidestWeights", spec := "fnExactWidestWeights", unfollowed := true, recurses := true, apart := false, narrowed := true }
def FnExactWidestWeightsUptoSaid : Prop := fnExactWidestWeightsUptoRow.holds Try.pinned (OpenSpec.upto fnExactWidestWeightsSpec)

/-- 'laws.FnExactInGeneralPosition', WHERE WHAT IT READS IS OF BULK AT MOST 1048576: true; the input reads as it did. -/
def fnExactInGeneralPositionUptoRow : OpenClaim := { program := "ytdjclffkidoohaa", sum := "bb3d39d3beb4c59a4b8bb5ef28ab7a2e095297878a08bc340b2e2287e7dec167", func := "loop.example/g01135/laws.FnExactInGeneralPosition", spec := "fnExactInGeneralPosition", unfollowed := true, recurses := true, apart := false, narrowed := true }
def FnExactInGeneralPositionUptoSaid : Prop := fnExactInGeneralPositionUptoRow.holds Try.pinned (OpenSpec.upto fnExactInGeneralPositionSpec)

/-- 'laws.FnExactSmallPlane', WHERE WHAT IT READS IS OF BULK AT MOST 1048576: true; the input reads as it did. -/
def fnExactSmallPlaneUptoRow : OpenClaim := { program := "ytdjclffkidoohaa", sum := "bb3d39d3beb4c59a4b8bb5ef28ab7a2e095297878a08bc340b2e2287e7dec167", func := "loop.example/g01135/laws.FnExactSmallPlane", spec := "fnExactSmallPlane", unfollowed := true, recurses := true, apart := false, narrowed := true }
def FnExactSmallPlaneUptoSaid : Prop := fnExactSmallPlaneUptoRow.holds Try.pinned (OpenSpec.upto fnExactSmallPlaneSpec)

/-- 'laws.FnExactCanPart', WHERE WHAT IT READS IS OF BULK AT MOST 1048576: true; the input reads as it did. -/
def fnExactCanPartUptoRow : OpenClaim := { program := "ytdjclffkidoohaa", sum := "bb3d39d3beb4c59a4b8bb5ef28ab7a2e095297878a08bc340b2e2287e7dec167", func := "loop.example/g01135/laws.FnExactCanPart", spec := "fnExactCanPart", unfollowed := true, recurses := true, apart := false, narrowed := true }
def FnExactCanPartUptoSaid : Prop := fnExactCanPartUptoRow.holds Try.pinned (OpenSpec.upto fnExactCanPartSpec)

/-- 'laws.FnExactCountPartings', WHERE WHAT IT READS IS OF BULK AT MOST 1048576: true; the input reads as it did. -/
def fnExactCountPartingsUptoRow : OpenClaim := { program := "ytdjclffkidoohaa", sum := "bb3d39d3beb4c59a4b8bb5ef28ab7a2e095297878a08bc340b2e2287e7dec167", func := "loop.example/g01135/laws.FnExactCountPartings", spec := "fnExactCountPartings", unfollowed := true, recurses := true, apart := false, narrowed := true }
def FnExactCountPartingsUptoSaid : Prop := fnExactCountPartingsUptoRow.holds Try.pinned (OpenSpec.upto fnExactCountPartingsSpec)

/-- 'laws.FnExactHardPart', WHERE WHAT IT READS IS OF BULK AT MOST 1048576: true; the input reads as it did. -/
def fnExactHardPartUptoRow : OpenClaim := { program := "ytdjclffkidoohaa", sum := "bb3d39d3beb4c59a4b8bb5ef28ab7a2e095297878a08bc340b2e2287e7dec167", func := "loop.example/g01135/laws.FnExactHardPart", spec := "fnExactHardPart", unfollowed := true, recurses := true, apart := false, narrowed := true }
def FnExactHardPartUptoSaid : Prop := fnExactHardPartUptoRow.holds Try.pinned (OpenSpec.upto fnExactHardPartSpec)

/-- 'laws.FnExactFindCertificate', WHERE WHAT IT READS IS OF BULK AT MOST 1048576: true; the input reads as it did. -/
def fnExactFindCertificateUptoRow : OpenClaim := { program := "ytdjclffkidoohaa", sum := "bb3d39d3beb4c59a4b8bb5ef28ab7a2e095297878a08bc340b2e2287e7dec167", func := "loop.example/g01135/laws.FnExactFindCertificate", spec := "fnExactFindCertificate", unfollowed := true, recurses := true, apart := false, narrowed := true }
def FnExactFindCertificateUptoSaid : Prop := fnExactFindCertificateUptoRow.holds Try.pinned (OpenSpec.upto fnExactFindCertificateSpec)

/-- 'laws.FnExactLeastMistakes', WHERE WHAT IT READS IS OF BULK AT MOST 1048576: true; the input reads as it did. -/
def fnExactLeastMistakesUptoRow : OpenClaim := { program := "ytdjclffkidoohaa", sum := "bb3d39d3beb4c59a4b8bb5ef28ab7a2e095297878a08bc340b2e2287e7dec167", func := "loop.example/g01135/laws.FnExactLeastMistakes", spec := "fnExactLeastMistakes", unfollowed := true, recurses := true, apart := false, narrowed := true }
def FnExactLeastMistakesUptoSaid : Prop := fnExactLeastMistakesUptoRow.holds Try.pinned (OpenSpec.upto fnExactLeastMistakesSpec)

/-- 'laws.FnCertificates', WHERE WHAT IT READS IS OF BULK AT MOST 1048576: true; the input reads as it did. -/
def fnCertificatesUptoRow : OpenClaim := { program := "ytdjclffkidoohaa", sum := "bb3d39d3beb4c59a4b8bb5ef28ab7a2e095297878a08bc340b2e2287e7dec167", func := "loop.example/g01135/laws.FnCertificates", spec := "fnCertificates", unfollowed := true, recurses := true, apart := false, narrowed := true }
def FnCertificatesUptoSaid : Prop := fnCertificatesUptoRow.holds Try.pinned (OpenSpec.upto fnCertificatesSpec)

/-- 'laws.FnPartings', WHERE WHAT IT READS IS OF BULK AT MOST 1048576: true; the input reads as it did. -/
def fnPartingsUptoRow : OpenClaim := { program := "ytdjclffkidoohaa", sum := "bb3d39d3beb4c59a4b8bb5ef28ab7a2e095297878a08bc340b2e2287e7dec167", func := "loop.example/g01135/laws.FnPartings", spec := "fnPartings", unfollowed := true, recurses := true, apart := false, narrowed := true }
def FnPartingsUptoSaid : Prop := fnPartingsUptoRow.holds Try.pinned (OpenSpec.upto fnPartingsSpec)

/-- 'laws.FnExactCommonPoint', WHERE WHAT IT READS IS OF BULK AT MOST 1048576: true; the input reads as it did. -/
def fnExactCommonPointUptoRow : OpenClaim := { program := "ytdjclffkidoohaa", sum := "bb3d39d3beb4c59a4b8bb5ef28ab7a2e095297878a08bc340b2e2287e7dec167", func := "loop.example/g01135/laws.FnExactCommonPoint", spec := "fnExactCommonPoint", apart := false, narrowed := true }
def FnExactCommonPointUptoSaid : Prop := fnExactCommonPointUptoRow.holds Try.pinned (OpenSpec.upto fnExactCommonPointSpec)

end Rows
end Go.Proofs.Ytdjclffkidoohaa
