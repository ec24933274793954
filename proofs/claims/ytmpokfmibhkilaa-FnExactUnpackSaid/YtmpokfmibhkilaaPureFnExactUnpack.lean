/- The law FnExactUnpack answers true for every input: what the program's function and the reference's come to is the same. No condition. -/
import Derived.Test.YtmpokfmibhkilaaPFnExactUnpackx1
namespace Go.Proofs.Ytmpokfmibhkilaa.Pure
open Go.RowKit Go.Proofs.Ytmpokfmibhkilaa.PFnExactUnpack Go.Proofs.YtmpokfmibhkilaaW.PrintWords Go.Proofs.YtmpokfmibhkilaaW.PrintLast

theorem FnExactUnpack : laws_FnExactUnpack.Pure := by
  intro a0 _
  have e : impl_Unpack.f a0 = spec_Unpack.f a0 := rfl
  obtain ⟨r, hr⟩ : ∃ r, spec_Unpack.f a0 = some r := by
    unfold spec_Unpack.f
    repeat' (first | exact ⟨_, rfl⟩ | split)
  unfold laws_FnExactUnpack.f
  rw [e, hr]
  simp

end Go.Proofs.Ytmpokfmibhkilaa.Pure
