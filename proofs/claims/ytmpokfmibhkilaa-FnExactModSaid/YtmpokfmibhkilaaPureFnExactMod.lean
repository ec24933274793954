/- The law FnExactMod answers true for every input: what the program's function and the reference's come to is the same. No condition. -/
import Derived.Test.YtmpokfmibhkilaaPFnExactModx1
namespace Go.Proofs.Ytmpokfmibhkilaa.Pure
open Go.RowKit Go.Proofs.Ytmpokfmibhkilaa.PFnExactMod Go.Proofs.YtmpokfmibhkilaaW.PrintWords Go.Proofs.YtmpokfmibhkilaaW.PrintLast

theorem FnExactMod : laws_FnExactMod.Pure := by
  intro a0 a1 _ _
  have e : impl_Mod.f a0 a1 = spec_Mod.f a0 a1 := rfl
  obtain ⟨r, hr⟩ : ∃ r, spec_Mod.f a0 a1 = some r := by
    unfold spec_Mod.f
    by_cases h : a1 < 1
    · exact ⟨_, if_pos h⟩
    · rw [if_neg h, if_neg (by omega)]
      split <;> exact ⟨_, rfl⟩
  unfold laws_FnExactMod.f
  rw [e, hr]
  simp

end Go.Proofs.Ytmpokfmibhkilaa.Pure
