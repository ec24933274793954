/- The law FnExactNextTag answers true for every input: what the program's function and the reference's come to is the same. No condition. -/
import Derived.Test.YtmpokfmibhkilaaPFnExactNextTagx1
namespace Go.Proofs.Ytmpokfmibhkilaa.Pure
open Go.RowKit Go.Proofs.Ytmpokfmibhkilaa.PFnExactNextTag Go.Proofs.YtmpokfmibhkilaaW.PrintWords Go.Proofs.YtmpokfmibhkilaaW.PrintLast

theorem FnExactNextTag : laws_FnExactNextTag.Pure := by
  intro a0 _
  have e : impl_NextTag.f a0 = spec_NextTag.f a0 := by
    unfold impl_NextTag.f spec_NextTag.f
    rfl
  obtain ⟨r, hr⟩ : ∃ r, spec_NextTag.f a0 = some r := by
    unfold spec_NextTag.f spec_l01In.f
    repeat' (first | exact ⟨_, rfl⟩ | (simp only [Option.bind_some]; split) | split | (exfalso; simp_all; omega))
  unfold laws_FnExactNextTag.f
  rw [e, hr]
  simp

end Go.Proofs.Ytmpokfmibhkilaa.Pure
