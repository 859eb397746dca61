/- FnExactMin: the pure statement of the law, for every input: what the program's functions and the reference's come to is the same, or what the law says holds. No condition beside the statement's own. -/
import Derived.Test.YtjccddpdpcmhoaaPFnExactMinx1
namespace Go.Proofs.Ytjccddpdpcmhoaa.Pure
open Go.RowKit Go.Proofs.Ytjccddpdpcmhoaa.PFnExactMin Go.Proofs.YtjccddpdpcmhoaaW.PrintWords Go.Proofs.YtjccddpdpcmhoaaW.PrintLast Go.Proofs.YtjccddpdpcmhoaaW.PrintMore
set_option linter.unusedVariables false
set_option linter.unusedSimpArgs false

theorem FnExactMin : laws_FnExactMin.Pure := by
  intro a b _ _
  unfold laws_FnExactMin.f spec_Min.f impl_Min.f mn
  by_cases h : b < a
  · rw [if_pos h]
    simp
    omega
  · rw [if_neg h]
    simp
    omega

end Go.Proofs.Ytjccddpdpcmhoaa.Pure
