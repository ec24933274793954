/- The law FnExactRiCall answers true whatever its arguments hold: the program's function and the reference's come to the same, and no list of an answer is shared. No condition. -/
import Derived.Test.YtfahmmlkcmadeaaPFnExactRiCallx1
namespace Go.Proofs.Ytfahmmlkcmadeaa.Pure
open Go.RowKit Go.Proofs.Ytfahmmlkcmadeaa.PFnExactRiCall Go.Proofs.YtfahmmlkcmadeaaW.PrintWords Go.Proofs.YtfahmmlkcmadeaaW.PrintLast
set_option linter.unusedSimpArgs false
set_option linter.unusedVariables false


theorem FnExactRiCall : laws_FnExactRiCall.Pure := by
  intro a0 a1 _ _
  have e : impl_RiCall.f a0 a1 = spec_RiCall.f a0 a1 := rfl
  have t : ∀ r0 r1 r2 r3 r4 r5 r6 r7 r8 r9, laws_eqCall.f r0 r1 r2 r3 r4 r5 r6 r7 r8 r9 r0 r1 r2 r3 r4 r5 r6 r7 r8 r9 = some true := by
    intro r0 r1 r2 r3 r4 r5 r6 r7 r8 r9
    simp [laws_eqCall.f]
  obtain ⟨r, hr⟩ : ∃ r, spec_RiCall.f a0 a1 = some r := by
    unfold spec_RiCall.f
    repeat' (first | exact ⟨_, rfl⟩ | split)
  unfold laws_FnExactRiCall.f
  rw [e, hr]
  simp only [Option.bind_some, t, if_true]

end Go.Proofs.Ytfahmmlkcmadeaa.Pure
