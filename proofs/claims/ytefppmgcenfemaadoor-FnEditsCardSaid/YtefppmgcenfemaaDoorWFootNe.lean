/- Words that the printed proofs use: laid for this claim by a program of the session, out of the kit's print, without what no text here names. -/
import Derived.Test.YtefppmgcenfemaaDoorWN
namespace Go.Proofs.YtefppmgcenfemaaDoorW.PrintWords
open Go.RowKit
namespace Kd
section
variable {α : Type} {d : Kd α} {W : World} {g n : Nat} {S ok : Nat → Prop} {A : Option Addr} {ad : Addr} {xs : List α}
end
end Kd
end Go.Proofs.YtefppmgcenfemaaDoorW.PrintWords
