/- The law FnExactLiCall answers true whatever its arguments hold: the program's function and the reference's come to the same, and no list of an answer is shared. No condition. -/
import Derived.Test.YtjikobdblohphaaPFnExactLiCallx1
namespace Go.Proofs.Ytjikobdblohphaa.Pure
open Go.RowKit Go.Proofs.Ytjikobdblohphaa.PFnExactLiCall Go.Proofs.YtjikobdblohphaaW.PrintWords Go.Proofs.YtjikobdblohphaaW.PrintLast
set_option linter.unusedSimpArgs false
set_option linter.unusedVariables false


theorem FnExactLiCall : laws_FnExactLiCall.Pure := by
  intro a0 a1 a2 _ _ _
  have e : impl_LiCall.f a0 a1 a2 = spec_LiCall.f a0 a1 a2 := rfl
  have t : ∀ r0 r1 r2 r3 r4 r5 r6 r7 r8 r9, laws_eqCall.f r0 r1 r2 r3 r4 r5 r6 r7 r8 r9 r0 r1 r2 r3 r4 r5 r6 r7 r8 r9 = some true := by
    intro r0 r1 r2 r3 r4 r5 r6 r7 r8 r9
    simp [laws_eqCall.f]
  obtain ⟨r, hr⟩ : ∃ r, spec_LiCall.f a0 a1 a2 = some r := by
    unfold spec_LiCall.f
    repeat' (first | exact ⟨_, rfl⟩ | split)
  unfold laws_FnExactLiCall.f
  rw [e, hr]
  simp only [Option.bind_some, t, if_true]

end Go.Proofs.Ytjikobdblohphaa.Pure
