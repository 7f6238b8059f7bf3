-- Laid by a program of this session for this claim.
import Derived.Test.YtkgjacacldcacaaDoorProg
import Derived.Below
import Derived.Deep.Draws
import Derived.Deep.AppendLies
import Derived.Maps.AppendAt
import Derived.OwnWalk
import Derived.Laws.BytesArg
import Derived.Laws.MakeOwn
import Derived.Laws.OwnMore
import Derived.Deep.OwnRows
import Derived.Tactics
import Derived.Lib.ConvBytes
import Derived.Laws.Slices
import Derived.WalkKit
import Derived.KernelRfl
import Derived.RowKit3
import Derived.Deep.LoopGhost
import Derived.Deep.QuietTactic
import Derived.BigQuiet
import Derived.WideLaws
import Derived.Deep.DeepCutAuto
import Derived.Deep.CutBlock
import Derived.Deep.RegionHeld3
import Derived.Laws.Rows
import Derived.Lib.AppendStr
import Derived.ArgAppend
import Derived.Laws.IdiomCopy
import Derived.OrdersHeld
import Derived.Laws.BitsLemmas
import Derived.RowKit
import Derived.Test.YtkgjacacldcacaaDoorWWords
import Derived.Test.YtkgjacacldcacaaDoorWLast
import Derived.Test.YtkgjacacldcacaaDoorWTab
import Derived.Test.YtkgjacacldcacaaDoorWFour
import Derived.Test.YtkgjacacldcacaaDoorWQPut
import Derived.Test.YtkgjacacldcacaaDoorWApart
import Derived.Test.YtkgjacacldcacaaDoorWArr
import Derived.Test.YtkgjacacldcacaaDoorWZeros
import Derived.Test.YtkgjacacldcacaaDoorWFoot
import Derived.Test.YtkgjacacldcacaaDoorWKept
import Derived.Test.YtkgjacacldcacaaDoorWShare
import Derived.Test.YtkgjacacldcacaaDoorWN
import Derived.Test.YtkgjacacldcacaaDoorWFootNe
import Derived.Test.YtkgjacacldcacaaDoorWAt
import Derived.Test.YtkgjacacldcacaaDoorWEqStruct
import Derived.Test.YtkgjacacldcacaaDoorWRepsOne
import Derived.Test.YtkgjacacldcacaaDoorWInv
import Derived.Test.YtkgjacacldcacaaDoorWInvWords
import Derived.Test.YtkgjacacldcacaaDoorWGuard
import Derived.Test.YtkgjacacldcacaaDoorWNEv
import Derived.Test.YtkgjacacldcacaaDoorWMore
namespace Go.Proofs.YtkgjacacldcacaaDoor.QFnStrings
open Go.RowKit Go.Proofs.YtkgjacacldcacaaDoorW.PrintWords Go.Proofs.YtkgjacacldcacaaDoorW.PrintLast Go.Proofs.YtkgjacacldcacaaDoorW.PrintMore
attribute [local go_sem] max2_int min2_int max_two min_two max_three min_three max_four min_four   -- for this text's walks alone
set_option linter.unusedVariables false
set_option linter.unusedSimpArgs false



def errW : Option Int → Value
  | none => .nilIface
  | some c => .iface 0 (.int .i64 c)
theorem errW_none : errW none = .nilIface := rfl
theorem errW_some (c : Int) : errW (some c) = .iface 0 (.int .i64 c) := rfl

theorem info3 : (Tryd.prog.info? 3).map (fun i => (i.zero, i.size, i.bytes)) = some (some (.int .i64 0), 1, 8) := by kernel_rfl
theorem info5 : (Tryd.prog.info? 5).map (fun i => (i.zero, i.size, i.bytes)) = some (some (.int .u8 0), 1, 1) := by kernel_rfl
theorem info9 : (Tryd.prog.info? 9).map (fun i => (i.zero, i.size, i.bytes)) = some (some (.string ⟨#[]⟩), 1, 16) := by kernel_rfl
-- the values' own types

end Go.Proofs.YtkgjacacldcacaaDoor.QFnStrings
