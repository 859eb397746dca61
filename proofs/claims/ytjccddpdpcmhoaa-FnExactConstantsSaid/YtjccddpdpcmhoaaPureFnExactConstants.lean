/- FnExactConstants: the pure statement of the law, for every input: what the program's functions and the reference's come to is the same, or what the law says holds. No condition beside the statement's own. -/
import Derived.Test.YtjccddpdpcmhoaaPFnExactConstantsx1
namespace Go.Proofs.Ytjccddpdpcmhoaa.Pure
open Go.RowKit Go.Proofs.Ytjccddpdpcmhoaa.PFnExactConstants Go.Proofs.YtjccddpdpcmhoaaW.PrintWords Go.Proofs.YtjccddpdpcmhoaaW.PrintLast Go.Proofs.YtjccddpdpcmhoaaW.PrintMore
set_option linter.unusedVariables false
set_option linter.unusedSimpArgs false

theorem FnExactConstants : laws_FnExactConstants.Pure := rfl

end Go.Proofs.Ytjccddpdpcmhoaa.Pure
