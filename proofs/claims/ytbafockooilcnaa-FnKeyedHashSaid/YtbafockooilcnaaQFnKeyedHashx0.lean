/- What the functions that this law reaches come to, function by function: printed for this claim by a program of the session over the kit's print. No condition beside each statement's own. -/
import Derived.Test.YtbafockooilcnaaProg
import Derived.Below
import Derived.Deep.Draws
import Derived.Deep.AppendLies
import Derived.Maps.AppendAt
import Derived.OwnWalk
import Derived.Laws.BytesArg
import Derived.Laws.MakeOwn
import Derived.Laws.OwnMore
import Derived.Deep.OwnRows
import Derived.Tactics
import Derived.Lib.ConvBytes
import Derived.Laws.Slices
import Derived.WalkKit
import Derived.KernelRfl
import Derived.RowKit3
import Derived.Deep.LoopGhost
import Derived.Deep.QuietTactic
import Derived.BigQuiet
import Derived.WideLaws
import Derived.Deep.DeepCutAuto
import Derived.Deep.CutBlock
import Derived.Deep.RegionHeld3
import Derived.Laws.Rows
import Derived.Lib.AppendStr
import Derived.ArgAppend
import Derived.Laws.IdiomCopy
import Derived.OrdersHeld
import Derived.Laws.BitsLemmas
import Derived.RowKit
import Derived.Lib.SliceRun
import Derived.Test.YtbafockooilcnaaWWords
import Derived.Test.YtbafockooilcnaaWLast
import Derived.Test.YtbafockooilcnaaWTab
import Derived.Test.YtbafockooilcnaaWFour
import Derived.Test.YtbafockooilcnaaWQPut
import Derived.Test.YtbafockooilcnaaWApart
import Derived.Test.YtbafockooilcnaaWArr
import Derived.Test.YtbafockooilcnaaWZeros
import Derived.Test.YtbafockooilcnaaWFoot
import Derived.Test.YtbafockooilcnaaWKept
import Derived.Test.YtbafockooilcnaaWShare
import Derived.Test.YtbafockooilcnaaWN
import Derived.Test.YtbafockooilcnaaWFootNe
import Derived.Test.YtbafockooilcnaaWAt
import Derived.Test.YtbafockooilcnaaWEqStruct
import Derived.Test.YtbafockooilcnaaWRepsOne
import Derived.Test.YtbafockooilcnaaWInv
import Derived.Test.YtbafockooilcnaaWInvWords
import Derived.Test.YtbafockooilcnaaWGuard
import Derived.Test.YtbafockooilcnaaWNEv
import Derived.Test.YtbafockooilcnaaWMore
namespace Go.Proofs.Ytbafockooilcnaa.QFnKeyedHash
open Go.RowKit Go.Proofs.YtbafockooilcnaaW.PrintWords Go.Proofs.YtbafockooilcnaaW.PrintLast Go.Proofs.YtbafockooilcnaaW.PrintMore
attribute [local go_sem] max2_int min2_int max_two min_two max_three min_three max_four min_four   -- for this text's walks alone
set_option linter.unusedVariables false
set_option linter.unusedSimpArgs false



def errW : Option Int → Value
  | none => .nilIface
  | some c => .iface 0 (.int .i64 c)
theorem errW_none : errW none = .nilIface := rfl
theorem errW_some (c : Int) : errW (some c) = .iface 0 (.int .i64 c) := rfl

theorem info3 : (Try.prog.info? 3).map (fun i => (i.zero, i.size, i.bytes)) = some (some (.int .i64 0), 1, 8) := by kernel_rfl
theorem info9 : (Try.prog.info? 9).map (fun i => (i.zero, i.size, i.bytes)) = some (some (.string ⟨#[]⟩), 1, 16) := by kernel_rfl
-- the values' own types

end Go.Proofs.Ytbafockooilcnaa.QFnKeyedHash
