/- The law FnExactCellOf answers true whatever its arguments hold: the program's function and the reference's come to the same, and no list of an answer is shared. No condition. -/
import Derived.Test.YtgmnnkodcmmfdaaPFnExactCellOfx2
namespace Go.Proofs.Ytgmnnkodcmmfdaa.Pure
open Go.RowKit Go.Proofs.Ytgmnnkodcmmfdaa.PFnExactCellOf Go.Proofs.YtgmnnkodcmmfdaaW.PrintWords Go.Proofs.YtgmnnkodcmmfdaaW.PrintLast
set_option linter.unusedSimpArgs false
set_option linter.unusedVariables false

/-! Small facts. -/
theorem w64 {x : Int} (h0 : -9223372036854775808 ≤ x) (h1 : x ≤ 9223372036854775807) : wrap64 x = x := by unfold wrap64; omega
theorem rd_nat (l : List Int) (j : Nat) : rd l (j : Int) = l.getD j 0 := by simp [rd]
/-- The numbers from m on, n of them. -/
def marked (m : Int) (n : Nat) : List Int := (List.range n).map fun (i : Nat) => m + (i : Int)
theorem marked_len (m : Int) (n : Nat) : (marked m n).length = n := by simp [marked]
theorem marked_get (m : Int) (n j : Nat) (h : j < n) : (marked m n).getD j 0 = m + j := by simp [marked, List.getD, h]
theorem neg1 (n : Nat) : ((1 : Int) + (n : Int) < 0) = False := by simp only [eq_iff_iff, iff_false]; omega
theorem neg0 : ((-1 : Int) < 0) = True := by simp

theorem within (a lo hi : Int) : impl_within.f a lo hi = some (decide (lo ≤ a ∧ a ≤ hi)) := by
  unfold impl_within.f
  by_cases h : a ≥ lo
  · rw [if_pos h]
    have h' : lo ≤ a := h
    simp [h']
  · rw [if_neg h]
    have h' : ¬ lo ≤ a := h
    simp [h']

/-! Lists of numbers: copied, compared, marked, held. -/
theorem toIntS_go (x0 : List Int) (hx : x0.length ≤ 140737488355328) (d : Nat) : ∀ (k j : Nat) (x3 : List Int), x3.length = x0.length → x0.length - j = d → j ≤ x0.length → d < k → (∀ i, i < j → x3[i]? = x0[i]?) → laws_toIntS.l0 k x0 x3 (j : Int) = some x0 := by
  induction d with
  | zero =>
    intro k j x3 hl hd hj hk he
    obtain ⟨k, rfl⟩ : ∃ m, k = m + 1 := ⟨k - 1, by omega⟩
    simp only [laws_toIntS.l0]
    rw [if_neg (by omega)]
    refine congrArg some (List.ext_getElem? fun i => ?_)
    by_cases hi : i < j
    · exact he i hi
    · rw [List.getElem?_eq_none (by omega), List.getElem?_eq_none (by omega)]
  | succ d ih =>
    intro k j x3 hl hd hj hk he
    obtain ⟨k, rfl⟩ : ∃ m, k = m + 1 := ⟨k - 1, by omega⟩
    simp only [laws_toIntS.l0]
    rw [if_pos (by omega), if_pos (by omega), if_pos (by omega), w64 (by omega) (by omega)]
    refine ih k (j + 1) _ (by simpa using hl) (by omega) (by omega) (by omega) ?_
    intro i hi
    rw [rd_nat, Int.toNat_natCast, List.getElem?_set]
    by_cases hij : j = i
    · subst hij
      rw [if_pos rfl, if_pos (by omega), List.getElem?_eq_getElem (by omega)]
      simp [List.getD, List.getElem?_eq_getElem (show j < x0.length by omega)]
    · rw [if_neg hij]
      exact he i (by omega)
theorem toIntS (k : Nat) (l : List Int) (hl : l.length ≤ 1048576) (hk : l.length < k) : laws_toIntS.f k l = some l := by
  unfold laws_toIntS.f
  rw [if_pos (by omega), if_pos (by omega)]
  exact toIntS_go l (by omega) l.length k 0 _ (by simp) (by omega) (by omega) (by omega) (fun i hi => absurd hi (by omega))
theorem eqIntS_go (x : List Int) (hx : x.length ≤ 140737488355328) (d : Nat) : ∀ (k j : Nat), x.length - j = d → j ≤ x.length → d < k → laws_eqIntS.l0 k x x (j : Int) = some true := by
  induction d with
  | zero =>
    intro k j hd hj hk
    obtain ⟨k, rfl⟩ : ∃ m, k = m + 1 := ⟨k - 1, by omega⟩
    simp only [laws_eqIntS.l0]
    rw [if_neg (by omega)]
  | succ d ih =>
    intro k j hd hj hk
    obtain ⟨k, rfl⟩ : ∃ m, k = m + 1 := ⟨k - 1, by omega⟩
    simp only [laws_eqIntS.l0]
    rw [if_pos (by omega), if_pos (by omega), if_pos (by omega), if_pos trivial, w64 (by omega) (by omega)]
    exact ih k (j + 1) (by omega) (by omega) (by omega)
theorem eqIntS (k : Nat) (l : List Int) (hl : l.length ≤ 140737488355328) (hk : l.length < k) : laws_eqIntS.f k l l = some true := by
  unfold laws_eqIntS.f
  rw [if_pos rfl]
  exact eqIntS_go l hl l.length k 0 (by omega) (by omega) hk

theorem szMem_big (l : List Int) (hl : l.length ≤ maxLen) (h : 1048576 < l.length) : laws_szMem.f l 1048576 = some (-1) := by
  simp only [maxLen] at hl
  unfold laws_szMem.f laws_szIntS.f
  rw [w64 (by omega) (by omega), if_pos (by omega)]
  rfl
theorem szMem_small (l : List Int) (h : l.length ≤ 1048576) : laws_szMem.f l 1048576 = some (1048576 - (l.length : Int)) := by
  unfold laws_szMem.f laws_szIntS.f
  rw [w64 (by omega) (by omega), if_neg (by omega)]
  simp only [Option.bind_some]
  rw [if_neg (by omega)]
theorem toMem (k : Nat) (l : List Int) (hl : l.length ≤ 1048576) (hk : l.length < k) : laws_toMem.f k l = some l := by
  unfold laws_toMem.f
  rw [toIntS k l hl hk]; rfl
theorem eqMem (k : Nat) (l : List Int) (hl : l.length ≤ 1048576) (hk : l.length < k) : laws_eqMem.f k l l = some true := by
  unfold laws_eqMem.f
  rw [eqIntS k l (by omega) hk]; rfl


theorem spec_CellOf (l : List Int) (at_ : Int) : spec_CellOf.f l at_ = some (if 0 ≤ at_ ∧ at_ < l.length then rd l at_ else 0) := by
  unfold spec_CellOf.f
  repeat' split
  all_goals first | rfl | omega
theorem impl_CellOf (l : List Int) (hl : l.length ≤ 1048576) (at_ : Int) : impl_CellOf.f l at_ = some (if 0 ≤ at_ ∧ at_ < l.length then rd l at_ else 0) := by
  unfold impl_CellOf.f
  rw [w64 (by omega) (by omega)]
  simp only [within, Option.bind_some, decide_eq_true_eq]
  repeat' split
  all_goals first | rfl | omega

theorem FnExactCellOf : laws_FnExactCellOf.Pure := by
  intro l at_ ⟨hm, _⟩ _
  by_cases hl : l.length ≤ 1048576
  · refine ⟨1048576 + 10, ?_⟩
    unfold laws_FnExactCellOf.f
    simp (disch := omega) only [szMem_small, Option.bind_some, toMem, spec_CellOf, impl_CellOf, eqMem, if_true, ite_self]
  · refine ⟨0, ?_⟩
    unfold laws_FnExactCellOf.f
    rw [szMem_big l hm (by omega)]
    simp

end Go.Proofs.Ytgmnnkodcmmfdaa.Pure
