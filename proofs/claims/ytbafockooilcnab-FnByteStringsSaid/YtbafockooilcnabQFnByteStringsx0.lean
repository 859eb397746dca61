/- What the functions that this law reaches come to, function by function: printed for this claim by a program of the session over the kit's print. No condition beside each statement's own. -/
import Derived.Test.YtbafockooilcnabProg
import Derived.Below
import Derived.Deep.Draws
import Derived.Deep.AppendLies
import Derived.Maps.AppendAt
import Derived.OwnWalk
import Derived.Laws.BytesArg
import Derived.Laws.MakeOwn
import Derived.Laws.OwnMore
import Derived.Deep.OwnRows
import Derived.Tactics
import Derived.Lib.ConvBytes
import Derived.Laws.Slices
import Derived.WalkKit
import Derived.KernelRfl
import Derived.RowKit3
import Derived.Deep.LoopGhost
import Derived.Deep.QuietTactic
import Derived.BigQuiet
import Derived.WideLaws
import Derived.Deep.DeepCutAuto
import Derived.Deep.CutBlock
import Derived.Deep.RegionHeld3
import Derived.Laws.Rows
import Derived.Lib.AppendStr
import Derived.ArgAppend
import Derived.Laws.IdiomCopy
import Derived.OrdersHeld
import Derived.Laws.BitsLemmas
import Derived.RowKit
import Derived.Test.YtbafockooilcnabWWords
import Derived.Test.YtbafockooilcnabWLast
import Derived.Test.YtbafockooilcnabWTab
import Derived.Test.YtbafockooilcnabWFour
import Derived.Test.YtbafockooilcnabWQPut
import Derived.Test.YtbafockooilcnabWApart
import Derived.Test.YtbafockooilcnabWArr
import Derived.Test.YtbafockooilcnabWZeros
import Derived.Test.YtbafockooilcnabWFoot
import Derived.Test.YtbafockooilcnabWKept
import Derived.Test.YtbafockooilcnabWShare
import Derived.Test.YtbafockooilcnabWN
import Derived.Test.YtbafockooilcnabWFootNe
import Derived.Test.YtbafockooilcnabWAt
import Derived.Test.YtbafockooilcnabWEqStruct
import Derived.Test.YtbafockooilcnabWRepsOne
import Derived.Test.YtbafockooilcnabWInv
import Derived.Test.YtbafockooilcnabWInvWords
import Derived.Test.YtbafockooilcnabWGuard
import Derived.Test.YtbafockooilcnabWNEv
import Derived.Test.YtbafockooilcnabWMore
namespace Go.Proofs.Ytbafockooilcnab.QFnByteStrings
open Go.RowKit Go.Proofs.YtbafockooilcnabW.PrintWords Go.Proofs.YtbafockooilcnabW.PrintLast Go.Proofs.YtbafockooilcnabW.PrintMore
attribute [local go_sem] max2_int min2_int max_two min_two max_three min_three max_four min_four   -- for this text's walks alone
set_option linter.unusedVariables false
set_option linter.unusedSimpArgs false



def errW : Option Int → Value
  | none => .nilIface
  | some c => .iface 0 (.int .i64 c)
theorem errW_none : errW none = .nilIface := rfl
theorem errW_some (c : Int) : errW (some c) = .iface 0 (.int .i64 c) := rfl

theorem info3 : (Try.prog.info? 3).map (fun i => (i.zero, i.size, i.bytes)) = some (some (.int .i64 0), 1, 8) := by kernel_rfl
theorem info5 : (Try.prog.info? 5).map (fun i => (i.zero, i.size, i.bytes)) = some (some (.int .u8 0), 1, 1) := by kernel_rfl
-- the values' own types

end Go.Proofs.Ytbafockooilcnab.QFnByteStrings
