/- What the functions that this law reaches come to, function by function: printed for this claim by a program of the session over the kit's print. No condition beside each statement's own. -/
import Derived.Test.YtbafockooilcnacDoorProg
import Derived.Below
import Derived.Deep.Draws
import Derived.Deep.AppendLies
import Derived.Maps.AppendAt
import Derived.OwnWalk
import Derived.Laws.BytesArg
import Derived.Laws.MakeOwn
import Derived.Laws.OwnMore
import Derived.Deep.OwnRows
import Derived.Tactics
import Derived.Lib.ConvBytes
import Derived.Laws.Slices
import Derived.WalkKit
import Derived.KernelRfl
import Derived.RowKit3
import Derived.Deep.LoopGhost
import Derived.Deep.QuietTactic
import Derived.BigQuiet
import Derived.WideLaws
import Derived.Deep.DeepCutAuto
import Derived.Deep.CutBlock
import Derived.Deep.RegionHeld3
import Derived.Laws.Rows
import Derived.Lib.AppendStr
import Derived.ArgAppend
import Derived.Laws.IdiomCopy
import Derived.OrdersHeld
import Derived.Laws.BitsLemmas
import Derived.RowKit
import Derived.Test.YtbafockooilcnacDoorShelf
import Derived.Lib.AppendIntMem
import Derived.Lib.SliceRun
import Derived.Laws.CopyOwn
import Derived.Lib.Overlaps
import Derived.Lib.AppendZerosOnto
import Derived.Laws.Externs
import Derived.Laws.NewBlocks
import Derived.Deep.RegionLaw
import Derived.RegionTactic
import Derived.ChangeAlike
import Derived.BigRegion
import Derived.Test.YtbafockooilcnacDoorWWords
import Derived.Test.YtbafockooilcnacDoorWLast
import Derived.Test.YtbafockooilcnacDoorWTab
import Derived.Test.YtbafockooilcnacDoorWFour
import Derived.Test.YtbafockooilcnacDoorWQPut
import Derived.Test.YtbafockooilcnacDoorWApart
import Derived.Test.YtbafockooilcnacDoorWArr
import Derived.Test.YtbafockooilcnacDoorWZeros
import Derived.Test.YtbafockooilcnacDoorWFoot
import Derived.Test.YtbafockooilcnacDoorWKept
import Derived.Test.YtbafockooilcnacDoorWShare
import Derived.Test.YtbafockooilcnacDoorWN
import Derived.Test.YtbafockooilcnacDoorWFootNe
import Derived.Test.YtbafockooilcnacDoorWAt
import Derived.Test.YtbafockooilcnacDoorWEqStruct
import Derived.Test.YtbafockooilcnacDoorWRepsOne
import Derived.Test.YtbafockooilcnacDoorWInv
import Derived.Test.YtbafockooilcnacDoorWInvWords
import Derived.Test.YtbafockooilcnacDoorWGuard
import Derived.Test.YtbafockooilcnacDoorWNEv
import Derived.Test.YtbafockooilcnacDoorWMore
namespace Go.Proofs.YtbafockooilcnacDoor.QFnExactEditText
open Go.RowKit Go.Proofs.YtbafockooilcnacDoorW.PrintWords Go.Proofs.YtbafockooilcnacDoorW.PrintLast Go.Proofs.YtbafockooilcnacDoorW.PrintMore
attribute [local go_sem] max2_int min2_int max_two min_two max_three min_three max_four min_four   -- for this text's walks alone
set_option linter.unusedVariables false
set_option linter.unusedSimpArgs false



def errW : Option Int → Value
  | none => .nilIface
  | some c => .iface 0 (.int .i64 c)
theorem errW_none : errW none = .nilIface := rfl
theorem errW_some (c : Int) : errW (some c) = .iface 0 (.int .i64 c) := rfl

theorem info5 : (Tryd.prog.info? 5).map (fun i => (i.zero, i.size, i.bytes)) = some (some (.int .u8 0), 1, 1) := by kernel_rfl
-- the values' own types

end Go.Proofs.YtbafockooilcnacDoor.QFnExactEditText
