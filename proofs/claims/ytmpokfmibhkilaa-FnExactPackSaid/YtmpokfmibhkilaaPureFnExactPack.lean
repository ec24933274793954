/- The law FnExactPack answers true for every input: what the program's function and the reference's come to is the same. No condition. -/
import Derived.Test.YtmpokfmibhkilaaPFnExactPackx1
namespace Go.Proofs.Ytmpokfmibhkilaa.Pure
open Go.RowKit Go.Proofs.Ytmpokfmibhkilaa.PFnExactPack Go.Proofs.YtmpokfmibhkilaaW.PrintWords Go.Proofs.YtmpokfmibhkilaaW.PrintLast

theorem FnExactPack : laws_FnExactPack.Pure := by
  intro a0 a1 _ _
  have e : impl_Pack.f a0 a1 = spec_Pack.f a0 a1 := by
    unfold impl_Pack.f spec_Pack.f
    rfl
  obtain ⟨r, hr⟩ : ∃ r, spec_Pack.f a0 a1 = some r := by
    unfold spec_Pack.f spec_l01In.f
    repeat' (first | exact ⟨_, rfl⟩ | (simp only [Option.bind_some]; split) | split | (exfalso; simp_all; omega))
  unfold laws_FnExactPack.f
  rw [e, hr]
  simp

end Go.Proofs.Ytmpokfmibhkilaa.Pure
