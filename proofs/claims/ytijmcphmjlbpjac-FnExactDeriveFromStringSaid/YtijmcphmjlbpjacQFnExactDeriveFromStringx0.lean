/- What the functions that this law reaches come to, function by function: printed for this claim by a program of the session over the kit's print. No condition beside each statement's own. -/
import Derived.Test.YtijmcphmjlbpjacProg
import Derived.Below
import Derived.Deep.Draws
import Derived.Deep.AppendLies
import Derived.Maps.AppendAt
import Derived.OwnWalk
import Derived.Laws.BytesArg
import Derived.Laws.MakeOwn
import Derived.Laws.OwnMore
import Derived.Deep.OwnRows
import Derived.Tactics
import Derived.Lib.ConvBytes
import Derived.Laws.Slices
import Derived.WalkKit
import Derived.KernelRfl
import Derived.RowKit3
import Derived.Deep.LoopGhost
import Derived.Deep.QuietTactic
import Derived.BigQuiet
import Derived.WideLaws
import Derived.Deep.DeepCutAuto
import Derived.Deep.CutBlock
import Derived.Deep.RegionHeld3
import Derived.Laws.Rows
import Derived.Lib.AppendStr
import Derived.ArgAppend
import Derived.Laws.IdiomCopy
import Derived.OrdersHeld
import Derived.Laws.BitsLemmas
import Derived.RowKit
import Derived.Test.YtijmcphmjlbpjacWWords
import Derived.Test.YtijmcphmjlbpjacWLast
import Derived.Test.YtijmcphmjlbpjacWTab
import Derived.Test.YtijmcphmjlbpjacWFour
import Derived.Test.YtijmcphmjlbpjacWQPut
import Derived.Test.YtijmcphmjlbpjacWApart
import Derived.Test.YtijmcphmjlbpjacWArr
import Derived.Test.YtijmcphmjlbpjacWZeros
import Derived.Test.YtijmcphmjlbpjacWFoot
import Derived.Test.YtijmcphmjlbpjacWKept
import Derived.Test.YtijmcphmjlbpjacWShare
import Derived.Test.YtijmcphmjlbpjacWN
import Derived.Test.YtijmcphmjlbpjacWFootNe
import Derived.Test.YtijmcphmjlbpjacWAt
import Derived.Test.YtijmcphmjlbpjacWEqStruct
import Derived.Test.YtijmcphmjlbpjacWRepsOne
import Derived.Test.YtijmcphmjlbpjacWInv
import Derived.Test.YtijmcphmjlbpjacWInvWords
import Derived.Test.YtijmcphmjlbpjacWGuard
import Derived.Test.YtijmcphmjlbpjacWNEv
import Derived.Test.YtijmcphmjlbpjacWMore
namespace Go.Proofs.Ytijmcphmjlbpjac.QFnExactDeriveFromString
open Go.RowKit Go.Proofs.YtijmcphmjlbpjacW.PrintWords Go.Proofs.YtijmcphmjlbpjacW.PrintLast Go.Proofs.YtijmcphmjlbpjacW.PrintMore
attribute [local go_sem] max2_int min2_int max_two min_two max_three min_three max_four min_four   -- for this text's walks alone
set_option linter.unusedVariables false
set_option linter.unusedSimpArgs false



def errW : Option Int → Value
  | none => .nilIface
  | some c => .iface 0 (.int .i64 c)
theorem errW_none : errW none = .nilIface := rfl
theorem errW_some (c : Int) : errW (some c) = .iface 0 (.int .i64 c) := rfl

theorem info3 : (Try.prog.info? 3).map (fun i => (i.zero, i.size, i.bytes)) = some (some (.int .i64 0), 1, 8) := by kernel_rfl
-- the values' own types

end Go.Proofs.Ytijmcphmjlbpjac.QFnExactDeriveFromString
