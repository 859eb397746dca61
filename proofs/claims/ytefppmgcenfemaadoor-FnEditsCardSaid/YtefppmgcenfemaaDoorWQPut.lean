/- Words that the printed proofs use: laid for this claim by a program of the session, out of the kit's print, without what no text here names. -/
import Derived.Test.YtefppmgcenfemaaDoorWWords
import Derived.Test.YtefppmgcenfemaaDoorWLast
namespace Go.Proofs.YtefppmgcenfemaaDoorW.PrintWords
open Go.RowKit
namespace Kd
section
variable {α : Type} {d : Kd α} {e base g o n cap : Nat} {ok okp : Nat → Prop} {w W : World} {v : Value} {xs : List α}
end
section
variable {α : Type} {enc : α → Value} {h1 : ∀ x, (enc x).oneCell' = true} {e base g o n cap : Nat} {ok : Nat → Prop} {W : World} {xs : List α}
end
end Kd
end Go.Proofs.YtefppmgcenfemaaDoorW.PrintWords
