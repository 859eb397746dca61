/- FnExactInRange: the pure statement of the law, for every input: what the program's functions and the reference's come to is the same, or what the law says holds. No condition beside the statement's own. -/
import Derived.Test.YtjccddpdpcmhoaaPFnExactInRangex1
namespace Go.Proofs.Ytjccddpdpcmhoaa.Pure
open Go.RowKit Go.Proofs.Ytjccddpdpcmhoaa.PFnExactInRange Go.Proofs.YtjccddpdpcmhoaaW.PrintWords Go.Proofs.YtjccddpdpcmhoaaW.PrintLast Go.Proofs.YtjccddpdpcmhoaaW.PrintMore
set_option linter.unusedVariables false
set_option linter.unusedSimpArgs false

theorem FnExactInRange : laws_FnExactInRange.Pure := by
  intro a b c _ _ _
  unfold laws_FnExactInRange.f spec_InRange.f impl_InRange.f
  simp only [ge_iff_le]
  by_cases h : b ≤ a
  · rw [if_pos h]
    simp
  · rw [if_neg h]
    simp

end Go.Proofs.Ytjccddpdpcmhoaa.Pure
