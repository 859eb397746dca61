/- Words that the printed proofs use: laid for this claim by a program of the session, out of the kit's print, without what no text here names. -/
import Derived.Test.YtiiibfpijmmbfaaWInv
import Derived.Test.YtiiibfpijmmbfaaWFootNe
namespace Go.Proofs.YtiiibfpijmmbfaaW.PrintWords
open Go.RowKit
end Go.Proofs.YtiiibfpijmmbfaaW.PrintWords
namespace Go.Proofs.YtiiibfpijmmbfaaW.PrintLast
section
variable {ops : Array Oper} {a : Act} {o og : Oper} {g : Nat} {t : Tmp} {u : Bool}
end
end Go.Proofs.YtiiibfpijmmbfaaW.PrintLast
