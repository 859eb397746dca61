/- What the functions that this law reaches come to, function by function: printed for this claim by a program of the session over the kit's print. No condition beside each statement's own. -/
import Derived.Test.YtijmcphmjlbpjabProg
import Derived.Below
import Derived.Deep.Draws
import Derived.Deep.AppendLies
import Derived.Maps.AppendAt
import Derived.OwnWalk
import Derived.Laws.BytesArg
import Derived.Laws.MakeOwn
import Derived.Laws.OwnMore
import Derived.Deep.OwnRows
import Derived.Tactics
import Derived.Lib.ConvBytes
import Derived.Laws.Slices
import Derived.WalkKit
import Derived.KernelRfl
import Derived.RowKit3
import Derived.Deep.LoopGhost
import Derived.Deep.QuietTactic
import Derived.BigQuiet
import Derived.WideLaws
import Derived.Deep.DeepCutAuto
import Derived.Deep.CutBlock
import Derived.Deep.RegionHeld3
import Derived.Laws.Rows
import Derived.Lib.AppendStr
import Derived.ArgAppend
import Derived.Laws.IdiomCopy
import Derived.OrdersHeld
import Derived.Laws.BitsLemmas
import Derived.RowKit
import Derived.Test.YtijmcphmjlbpjabWWords
import Derived.Test.YtijmcphmjlbpjabWLast
import Derived.Test.YtijmcphmjlbpjabWTab
import Derived.Test.YtijmcphmjlbpjabWFour
import Derived.Test.YtijmcphmjlbpjabWQPut
import Derived.Test.YtijmcphmjlbpjabWApart
import Derived.Test.YtijmcphmjlbpjabWArr
import Derived.Test.YtijmcphmjlbpjabWZeros
import Derived.Test.YtijmcphmjlbpjabWFoot
import Derived.Test.YtijmcphmjlbpjabWKept
import Derived.Test.YtijmcphmjlbpjabWShare
import Derived.Test.YtijmcphmjlbpjabWN
import Derived.Test.YtijmcphmjlbpjabWFootNe
import Derived.Test.YtijmcphmjlbpjabWAt
import Derived.Test.YtijmcphmjlbpjabWEqStruct
import Derived.Test.YtijmcphmjlbpjabWRepsOne
import Derived.Test.YtijmcphmjlbpjabWInv
import Derived.Test.YtijmcphmjlbpjabWInvWords
import Derived.Test.YtijmcphmjlbpjabWGuard
import Derived.Test.YtijmcphmjlbpjabWNEv
import Derived.Test.YtijmcphmjlbpjabWMore
namespace Go.Proofs.Ytijmcphmjlbpjab.QFnExactMeetPatterns
open Go.RowKit Go.Proofs.YtijmcphmjlbpjabW.PrintWords Go.Proofs.YtijmcphmjlbpjabW.PrintLast Go.Proofs.YtijmcphmjlbpjabW.PrintMore
attribute [local go_sem] max2_int min2_int max_two min_two max_three min_three max_four min_four   -- for this text's walks alone
set_option linter.unusedVariables false
set_option linter.unusedSimpArgs false



def errW : Option Int → Value
  | none => .nilIface
  | some c => .iface 0 (.int .i64 c)
theorem errW_none : errW none = .nilIface := rfl
theorem errW_some (c : Int) : errW (some c) = .iface 0 (.int .i64 c) := rfl

-- the values' own types

end Go.Proofs.Ytijmcphmjlbpjab.QFnExactMeetPatterns
