/- Words that the printed proofs use: laid for this claim by a program of the session, out of the kit's print, without what no text here names. -/
import Derived.Test.YtefppmgcenfemaaDoorWN
namespace Go.Proofs.YtefppmgcenfemaaDoorW.PrintWords
open Go.RowKit
namespace Kd
section
variable {α : Type} {d : Kd α} {e base n cap g : Nat} {ok ok' okp : Nat → Prop} {w w1 W : World} {v v1 : Value} {xs ys : List α}
end
section
variable {P : Program} {ops : Array Oper} {rest : List Oper} {o : Oper} {a : Act} {Q : Exit → Act → World → Prop} {Kc : Act → World → Prop} {α : Type}
end
end Kd
end Go.Proofs.YtefppmgcenfemaaDoorW.PrintWords
