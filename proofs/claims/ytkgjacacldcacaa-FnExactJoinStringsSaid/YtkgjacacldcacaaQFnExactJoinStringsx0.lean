-- Laid by a program of this session for this claim.
import Derived.Test.YtkgjacacldcacaaProg
import Derived.Below
import Derived.Deep.Draws
import Derived.Deep.AppendLies
import Derived.Maps.AppendAt
import Derived.OwnWalk
import Derived.Laws.BytesArg
import Derived.Laws.MakeOwn
import Derived.Laws.OwnMore
import Derived.Deep.OwnRows
import Derived.Tactics
import Derived.Lib.ConvBytes
import Derived.Laws.Slices
import Derived.WalkKit
import Derived.KernelRfl
import Derived.RowKit3
import Derived.Deep.LoopGhost
import Derived.Deep.QuietTactic
import Derived.BigQuiet
import Derived.WideLaws
import Derived.Deep.DeepCutAuto
import Derived.Deep.CutBlock
import Derived.Deep.RegionHeld3
import Derived.Laws.Rows
import Derived.Lib.AppendStr
import Derived.ArgAppend
import Derived.Laws.IdiomCopy
import Derived.OrdersHeld
import Derived.Laws.BitsLemmas
import Derived.RowKit
import Derived.Test.YtkgjacacldcacaaWWords
import Derived.Test.YtkgjacacldcacaaWLast
import Derived.Test.YtkgjacacldcacaaWTab
import Derived.Test.YtkgjacacldcacaaWFour
import Derived.Test.YtkgjacacldcacaaWQPut
import Derived.Test.YtkgjacacldcacaaWApart
import Derived.Test.YtkgjacacldcacaaWArr
import Derived.Test.YtkgjacacldcacaaWZeros
import Derived.Test.YtkgjacacldcacaaWFoot
import Derived.Test.YtkgjacacldcacaaWKept
import Derived.Test.YtkgjacacldcacaaWShare
import Derived.Test.YtkgjacacldcacaaWN
import Derived.Test.YtkgjacacldcacaaWFootNe
import Derived.Test.YtkgjacacldcacaaWAt
import Derived.Test.YtkgjacacldcacaaWEqStruct
import Derived.Test.YtkgjacacldcacaaWRepsOne
import Derived.Test.YtkgjacacldcacaaWInv
import Derived.Test.YtkgjacacldcacaaWInvWords
import Derived.Test.YtkgjacacldcacaaWGuard
import Derived.Test.YtkgjacacldcacaaWNEv
import Derived.Test.YtkgjacacldcacaaWMore
namespace Go.Proofs.Ytkgjacacldcacaa.QFnExactJoinStrings
open Go.RowKit Go.Proofs.YtkgjacacldcacaaW.PrintWords Go.Proofs.YtkgjacacldcacaaW.PrintLast Go.Proofs.YtkgjacacldcacaaW.PrintMore
attribute [local go_sem] max2_int min2_int max_two min_two max_three min_three max_four min_four   -- for this text's walks alone
set_option linter.unusedVariables false
set_option linter.unusedSimpArgs false



def errW : Option Int → Value
  | none => .nilIface
  | some c => .iface 0 (.int .i64 c)
theorem errW_none : errW none = .nilIface := rfl
theorem errW_some (c : Int) : errW (some c) = .iface 0 (.int .i64 c) := rfl

theorem info9 : (Try.prog.info? 9).map (fun i => (i.zero, i.size, i.bytes)) = some (some (.string ⟨#[]⟩), 1, 16) := by kernel_rfl
-- the values' own types

end Go.Proofs.Ytkgjacacldcacaa.QFnExactJoinStrings
