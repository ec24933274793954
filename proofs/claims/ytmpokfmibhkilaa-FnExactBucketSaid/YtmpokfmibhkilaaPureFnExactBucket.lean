/- The law FnExactBucket answers true for every input: what the program's function and the reference's come to is the same. No condition. -/
import Derived.Test.YtmpokfmibhkilaaPFnExactBucketx1
namespace Go.Proofs.Ytmpokfmibhkilaa.Pure
open Go.RowKit Go.Proofs.Ytmpokfmibhkilaa.PFnExactBucket Go.Proofs.YtmpokfmibhkilaaW.PrintWords Go.Proofs.YtmpokfmibhkilaaW.PrintLast

theorem FnExactBucket : laws_FnExactBucket.Pure := by
  intro a0 a1 _ _
  have e : impl_Bucket.f a0 a1 = spec_Bucket.f a0 a1 := by
    unfold impl_Bucket.f spec_Bucket.f impl_isNum.f spec_l01Num.f
    simp only [impl_within.f, spec_l01In.f]
    by_cases h : a0 ≥ 0 <;> simp [h]
  obtain ⟨r, hr⟩ : ∃ r, spec_Bucket.f a0 a1 = some r := by
    unfold spec_Bucket.f spec_l01Num.f spec_l01In.f
    by_cases h : a0 ≥ 0 <;> by_cases h2 : a0 ≤ 4294967295 <;> by_cases h3 : a1 ≥ 1 <;> by_cases h4 : a1 ≤ 4294967295 <;> simp [h, h2, h3, h4] <;> omega
  unfold laws_FnExactBucket.f
  rw [e, hr]
  simp

end Go.Proofs.Ytmpokfmibhkilaa.Pure
