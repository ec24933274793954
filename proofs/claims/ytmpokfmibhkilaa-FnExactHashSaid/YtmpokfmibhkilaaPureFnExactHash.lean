/- The law FnExactHash answers true for every input: what the program's function and the reference's come to is the same. No condition. -/
import Derived.Test.YtmpokfmibhkilaaPFnExactHashx1
namespace Go.Proofs.Ytmpokfmibhkilaa.Pure
open Go.RowKit Go.Proofs.Ytmpokfmibhkilaa.PFnExactHash Go.Proofs.YtmpokfmibhkilaaW.PrintWords Go.Proofs.YtmpokfmibhkilaaW.PrintLast

theorem same (k : Nat) : ∀ (s : ByteArray) (h i : Int), impl_Hash.l0 k s h i = spec_Hash.l0 k s h i := by
  induction k with
  | zero => intros; rfl
  | succ k ih =>
    intro s h i
    simp only [impl_Hash.l0, spec_Hash.l0, ih]

theorem tells (s : ByteArray) (hs : s.size ≤ 1048576) (d : Nat) : ∀ (k : Nat) (h i : Int), 0 ≤ i → i ≤ s.size → (s.size : Int) - i = d → d < k → ∃ r, spec_Hash.l0 k s h i = some r := by
  induction d with
  | zero =>
    intro k h i h0 h1 hd hk
    obtain ⟨k, rfl⟩ : ∃ m, k = m + 1 := ⟨k - 1, by omega⟩
    exact ⟨h, by simp only [spec_Hash.l0]; rw [if_neg (by omega)]⟩
  | succ d ih =>
    intro k h i h0 h1 hd hk
    obtain ⟨k, rfl⟩ : ∃ m, k = m + 1 := ⟨k - 1, by omega⟩
    simp only [spec_Hash.l0]
    rw [if_pos (by omega), if_pos h0, show wrap64 (i + 1) = i + 1 by unfold wrap64; omega]
    exact ih k _ (i + 1) (by omega) (by omega) (by omega) (by omega)

theorem FnExactHash : laws_FnExactHash.Pure := by
  intro s _
  by_cases hs : (s.size : Int) > 1048576
  · exact ⟨0, by unfold laws_FnExactHash.f; rw [if_pos hs]⟩
  · obtain ⟨r, hr⟩ := tells s (by omega) s.size (s.size + 1) 2166136261 0 (by omega) (by omega) (by omega) (by omega)
    refine ⟨s.size + 1, ?_⟩
    unfold laws_FnExactHash.f spec_Hash.f impl_Hash.f
    rw [if_neg hs, same, hr]
    simp

end Go.Proofs.Ytmpokfmibhkilaa.Pure
