/- FnExactIsValidKey: the pure statement of the law, for every input: what the program's functions and the reference's come to is the same, or what the law says holds. No condition beside the statement's own. -/
import Derived.Test.YtjccddpdpcmhoaaPFnExactIsValidKeyx1
namespace Go.Proofs.Ytjccddpdpcmhoaa.Pure
open Go.RowKit Go.Proofs.Ytjccddpdpcmhoaa.PFnExactIsValidKey Go.Proofs.YtjccddpdpcmhoaaW.PrintWords Go.Proofs.YtjccddpdpcmhoaaW.PrintLast Go.Proofs.YtjccddpdpcmhoaaW.PrintMore
set_option linter.unusedVariables false
set_option linter.unusedSimpArgs false

theorem FnExactIsValidKey : laws_FnExactIsValidKey.Pure := by
  intro a _
  unfold laws_FnExactIsValidKey.f spec_IsValidKey.f impl_IsValidKey.f spec_l1In.f impl_InRange.f
  simp only [ge_iff_le]
  by_cases h : (1 : Int) ≤ a
  · rw [if_pos h]
    simp
  · rw [if_neg h]
    simp

end Go.Proofs.Ytjccddpdpcmhoaa.Pure
