/- The law FnExactMemNew answers true whatever its arguments hold: the program's function and the reference's come to the same, and no list of an answer is shared. No condition. -/
import Derived.Test.YtgmnnkodcmmfdaaPFnExactMemNewx2
namespace Go.Proofs.Ytgmnnkodcmmfdaa.Pure
open Go.RowKit Go.Proofs.Ytgmnnkodcmmfdaa.PFnExactMemNew Go.Proofs.YtgmnnkodcmmfdaaW.PrintWords Go.Proofs.YtgmnnkodcmmfdaaW.PrintLast
set_option linter.unusedSimpArgs false
set_option linter.unusedVariables false

/-! Small facts. -/
theorem w64 {x : Int} (h0 : -9223372036854775808 ≤ x) (h1 : x ≤ 9223372036854775807) : wrap64 x = x := by unfold wrap64; omega
theorem rd_nat (l : List Int) (j : Nat) : rd l (j : Int) = l.getD j 0 := by simp [rd]
/-- The numbers from m on, n of them. -/
def marked (m : Int) (n : Nat) : List Int := (List.range n).map fun (i : Nat) => m + (i : Int)
theorem marked_len (m : Int) (n : Nat) : (marked m n).length = n := by simp [marked]
theorem marked_get (m : Int) (n j : Nat) (h : j < n) : (marked m n).getD j 0 = m + j := by simp [marked, List.getD, h]
theorem neg1 (n : Nat) : ((1 : Int) + (n : Int) < 0) = False := by simp only [eq_iff_iff, iff_false]; omega
theorem neg0 : ((-1 : Int) < 0) = True := by simp

theorem within (a lo hi : Int) : impl_within.f a lo hi = some (decide (lo ≤ a ∧ a ≤ hi)) := by
  unfold impl_within.f
  by_cases h : a ≥ lo
  · rw [if_pos h]
    have h' : lo ≤ a := h
    simp [h']
  · rw [if_neg h]
    have h' : ¬ lo ≤ a := h
    simp [h']

theorem eqIntS_go (x : List Int) (hx : x.length ≤ 140737488355328) (d : Nat) : ∀ (k j : Nat), x.length - j = d → j ≤ x.length → d < k → laws_eqIntS.l0 k x x (j : Int) = some true := by
  induction d with
  | zero =>
    intro k j hd hj hk
    obtain ⟨k, rfl⟩ : ∃ m, k = m + 1 := ⟨k - 1, by omega⟩
    simp only [laws_eqIntS.l0]
    rw [if_neg (by omega)]
  | succ d ih =>
    intro k j hd hj hk
    obtain ⟨k, rfl⟩ : ∃ m, k = m + 1 := ⟨k - 1, by omega⟩
    simp only [laws_eqIntS.l0]
    rw [if_pos (by omega), if_pos (by omega), if_pos (by omega), if_pos trivial, w64 (by omega) (by omega)]
    exact ih k (j + 1) (by omega) (by omega) (by omega)
theorem eqIntS (k : Nat) (l : List Int) (hl : l.length ≤ 140737488355328) (hk : l.length < k) : laws_eqIntS.f k l l = some true := by
  unfold laws_eqIntS.f
  rw [if_pos rfl]
  exact eqIntS_go l hl l.length k 0 (by omega) (by omega) hk

theorem markIntS_go (n : Nat) (hn : n ≤ 140737488355328) (m : Int) (hm0 : 0 ≤ m) (hm : m + n ≤ 140737488355328) (d : Nat) : ∀ (k j : Nat) (x0 : List Int), x0.length = n → n - j = d → j ≤ n → d < k → (∀ i, i < j → x0[i]? = some (m + i)) →
    laws_markIntS.l0 k x0 (m + j) (j : Int) = some (m + n, marked m n) := by
  induction d with
  | zero =>
    intro k j x0 hl hd hj hk he
    obtain ⟨k, rfl⟩ : ∃ m, k = m + 1 := ⟨k - 1, by omega⟩
    simp only [laws_markIntS.l0]
    rw [if_neg (by omega)]
    obtain rfl : j = n := by omega
    refine congrArg some (Prod.ext rfl (List.ext_getElem? fun i => ?_))
    show x0[i]? = (marked m j)[i]?
    by_cases hi : i < j
    · rw [he i hi]; simp [marked, hi]
    · rw [List.getElem?_eq_none (by omega), List.getElem?_eq_none (by rw [marked_len]; omega)]
  | succ d ih =>
    intro k j x0 hl hd hj hk he
    obtain ⟨k, rfl⟩ : ∃ m, k = m + 1 := ⟨k - 1, by omega⟩
    simp only [laws_markIntS.l0]
    rw [if_pos (by omega), if_pos (by omega), w64 (by omega) (by omega), w64 (by omega) (by omega), show m + (j : Int) + 1 = m + ((j + 1 : Nat) : Int) by omega]
    refine ih k (j + 1) _ (by simpa using hl) (by omega) (by omega) (by omega) ?_
    intro i hi
    rw [Int.toNat_natCast, List.getElem?_set]
    by_cases hij : j = i
    · subst hij
      rw [if_pos rfl, if_pos (by omega)]
    · rw [if_neg hij]
      exact he i (by omega)
theorem markIntS (k : Nat) (l : List Int) (m : Int) (hm0 : 0 ≤ m) (hm : m + l.length ≤ 140737488355328) (hk : l.length < k) : laws_markIntS.f k l m = some (m + l.length, marked m l.length) := by
  unfold laws_markIntS.f
  have := markIntS_go l.length (by omega) m hm0 hm l.length k 0 l rfl (by omega) (by omega) hk (fun i hi => absurd hi (by omega))
  simpa using this
theorem heldIntS_go (n : Nat) (m : Int) (hm0 : 0 ≤ m) (hm : m + n ≤ 140737488355328) (d : Nat) : ∀ (k j : Nat), n - j = d → j ≤ n → d < k → laws_heldIntS.l0 k (marked m n) (m + j) (j : Int) = some (m + n) := by
  induction d with
  | zero =>
    intro k j hd hj hk
    obtain ⟨k, rfl⟩ : ∃ m, k = m + 1 := ⟨k - 1, by omega⟩
    simp only [laws_heldIntS.l0, marked_len]
    rw [if_neg (by omega)]
    obtain rfl : j = n := by omega
    rfl
  | succ d ih =>
    intro k j hd hj hk
    obtain ⟨k, rfl⟩ : ∃ m, k = m + 1 := ⟨k - 1, by omega⟩
    simp only [laws_heldIntS.l0, marked_len]
    rw [if_pos (by omega), if_pos (by omega), if_pos (by rw [rd_nat]; exact marked_get m n j (by omega)), w64 (by omega) (by omega), w64 (by omega) (by omega), show m + (j : Int) + 1 = m + ((j + 1 : Nat) : Int) by omega]
    exact ih k (j + 1) (by omega) (by omega) (by omega)
theorem heldIntS (k : Nat) (n : Nat) (m : Int) (hm0 : 0 ≤ m) (hm : m + n ≤ 140737488355328) (hk : n < k) : laws_heldIntS.f k (marked m n) m = some (m + n) := by
  unfold laws_heldIntS.f
  have := heldIntS_go n m hm0 hm n k 0 (by omega) (by omega) hk
  simpa using this

theorem eqMem (k : Nat) (l : List Int) (hl : l.length ≤ 1048576) (hk : l.length < k) : laws_eqMem.f k l l = some true := by
  unfold laws_eqMem.f
  rw [eqIntS k l (by omega) hk]; rfl

theorem markMem (k : Nat) (l : List Int) (hl : l.length ≤ 1048576) (hk : l.length < k) : laws_markMem.f k l 1 = some (1 + (l.length : Int), marked 1 l.length) := by
  unfold laws_markMem.f
  rw [markIntS k l 1 (by omega) (by omega) hk]; rfl
theorem heldMem (k n : Nat) (hn : n ≤ 1048576) (hk : n < k) : laws_heldMem.f k (marked 1 n) 1 = some (1 + (n : Int)) := by
  unfold laws_heldMem.f
  rw [heldIntS k n 1 (by omega) (by omega) hk]
  simp only [Option.bind_some]
  rw [if_neg (by omega)]


theorem spec_MemNew (n : Int) : spec_MemNew.f n = some (if 0 ≤ n ∧ n ≤ 300 then (List.replicate n.toNat 0, true) else ([], false)) := by
  unfold spec_MemNew.f
  repeat' split
  all_goals first | rfl | omega
theorem impl_MemNew (n : Int) : impl_MemNew.f n = some (if 0 ≤ n ∧ n ≤ 300 then (List.replicate n.toNat 0, true) else ([], false)) := by
  unfold impl_MemNew.f
  simp only [within, Option.bind_some, decide_eq_true_eq]
  repeat' split
  all_goals first | rfl | omega

theorem FnExactMemNew : laws_FnExactMemNew.Pure := by
  intro n _
  obtain ⟨r, b, hr, hs⟩ : ∃ (r : List Int) (b : Bool), r.length ≤ 1048576 ∧ (if 0 ≤ n ∧ n ≤ 300 then (List.replicate n.toNat (0 : Int), true) else (([] : List Int), false)) = (r, b) := by
    split
    · exact ⟨_, _, by simp; omega, rfl⟩
    · exact ⟨_, _, by simp, rfl⟩
  refine ⟨1048576 + 10, ?_⟩
  unfold laws_FnExactMemNew.f
  simp (disch := omega) only [Option.bind_some, spec_MemNew, impl_MemNew, hs, eqMem, laws_FnExactMemNew.j0, laws_FnExactMemNew.j1, bne_self_eq_false, markMem, heldMem, neg1, if_true, if_false, ite_self, reduceIte, Bool.false_eq_true]

end Go.Proofs.Ytgmnnkodcmmfdaa.Pure
