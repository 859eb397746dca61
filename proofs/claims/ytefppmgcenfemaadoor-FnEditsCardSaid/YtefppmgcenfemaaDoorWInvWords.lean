/- Words that the printed proofs use: laid for this claim by a program of the session, out of the kit's print, without what no text here names. -/
import Derived.Test.YtefppmgcenfemaaDoorWInv
import Derived.Test.YtefppmgcenfemaaDoorWFootNe
namespace Go.Proofs.YtefppmgcenfemaaDoorW.PrintWords
open Go.RowKit
end Go.Proofs.YtefppmgcenfemaaDoorW.PrintWords
namespace Go.Proofs.YtefppmgcenfemaaDoorW.PrintLast
section
variable {ops : Array Oper} {a : Act} {o og : Oper} {g : Nat} {t : Tmp} {u : Bool}
end
end Go.Proofs.YtefppmgcenfemaaDoorW.PrintLast
