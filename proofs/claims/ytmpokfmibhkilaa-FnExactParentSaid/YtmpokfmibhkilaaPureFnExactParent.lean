/- The law FnExactParent answers true whatever its arguments hold: the program's function and the reference's come to the same, and no list of an answer is shared. No condition. -/
import Derived.Test.YtmpokfmibhkilaaPFnExactParentx1
namespace Go.Proofs.Ytmpokfmibhkilaa.Pure
open Go.RowKit Go.Proofs.Ytmpokfmibhkilaa.PFnExactParent Go.Proofs.YtmpokfmibhkilaaW.PrintWords Go.Proofs.YtmpokfmibhkilaaW.PrintLast
set_option linter.unusedSimpArgs false
set_option linter.unusedVariables false

/-! Small facts. -/
theorem w64 {x : Int} (h0 : -9223372036854775808 ≤ x) (h1 : x ≤ 9223372036854775807) : wrap64 x = x := by unfold wrap64; omega
theorem rd_nat (l : List Int) (j : Nat) : rd l (j : Int) = l.getD j 0 := by simp [rd]
/-- The numbers from m on, n of them. -/
def marked (m : Int) (n : Nat) : List Int := (List.range n).map fun (i : Nat) => m + (i : Int)
theorem marked_len (m : Int) (n : Nat) : (marked m n).length = n := by simp [marked]
theorem marked_get (m : Int) (n j : Nat) (h : j < n) : (marked m n).getD j 0 = m + j := by simp [marked, List.getD, h]
theorem neg1 (n : Nat) : ((1 : Int) + (n : Int) < 0) = False := by simp only [eq_iff_iff, iff_false]; omega
theorem neg0 : ((-1 : Int) < 0) = True := by simp
theorem i64r {n : Int} (h : (Lit.int .i64 n).wf = true) : -9223372036854775808 ≤ n ∧ n ≤ 9223372036854775807 := by
  have e1 : IntKind.i64.min = -9223372036854775808 := by decide
  have e2 : IntKind.i64.max = 9223372036854775807 := by decide
  simp only [Lit.wf, Bool.and_eq_true, decide_eq_true_eq, e1, e2] at h
  exact h

theorem within (a lo hi : Int) : impl_within.f a lo hi = some (decide (lo ≤ a ∧ a ≤ hi)) := by
  unfold impl_within.f
  by_cases h : a ≥ lo
  · rw [if_pos h]
    have h' : lo ≤ a := h
    simp [h']
  · rw [if_neg h]
    have h' : ¬ lo ≤ a := h
    simp [h']

theorem l01In (a lo hi : Int) : spec_l01In.f a lo hi = some (decide (lo ≤ a ∧ a ≤ hi)) := by
  unfold spec_l01In.f
  by_cases h : a ≥ lo
  · rw [if_pos h]
    have h' : lo ≤ a := h
    simp [h']
  · rw [if_neg h]
    have h' : ¬ lo ≤ a := h
    simp [h']


set_option maxRecDepth 100000
/-- The table of the lengths. -/
def T : ByteArray := (⟨((([0, 1, 2, 2, 3, 3, 3, 3, 4, 4, 4, 4, 4, 4, 4, 4, 5, 5, 5, 5, 5, 5, 5, 5, 5, 5, 5, 5, 5, 5, 5, 5, 6, 6, 6, 6, 6, 6, 6, 6, 6, 6, 6, 6, 6, 6, 6, 6, 6, 6, 6, 6, 6, 6, 6, 6, 6, 6, 6, 6, 6, 6, 6, 6] : List UInt8).append ([7, 7, 7, 7, 7, 7, 7, 7, 7, 7, 7, 7, 7, 7, 7, 7, 7, 7, 7, 7, 7, 7, 7, 7, 7, 7, 7, 7, 7, 7, 7, 7, 7, 7, 7, 7, 7, 7, 7, 7, 7, 7, 7, 7, 7, 7, 7, 7, 7, 7, 7, 7, 7, 7, 7, 7, 7, 7, 7, 7, 7, 7, 7, 7] : List UInt8)).append (([8, 8, 8, 8, 8, 8, 8, 8, 8, 8, 8, 8, 8, 8, 8, 8, 8, 8, 8, 8, 8, 8, 8, 8, 8, 8, 8, 8, 8, 8, 8, 8, 8, 8, 8, 8, 8, 8, 8, 8, 8, 8, 8, 8, 8, 8, 8, 8, 8, 8, 8, 8, 8, 8, 8, 8, 8, 8, 8, 8, 8, 8, 8, 8] : List UInt8).append ([8, 8, 8, 8, 8, 8, 8, 8, 8, 8, 8, 8, 8, 8, 8, 8, 8, 8, 8, 8, 8, 8, 8, 8, 8, 8, 8, 8, 8, 8, 8, 8, 8, 8, 8, 8, 8, 8, 8, 8, 8, 8, 8, 8, 8, 8, 8, 8, 8, 8, 8, 8, 8, 8, 8, 8, 8, 8, 8, 8, 8, 8, 8, 8] : List UInt8))).toArray⟩ : ByteArray)
theorem j0_eq (k : Nat) (x0 x2 : Int) : bits_Len64.j0 (k + 1) x0 x2 = (if x0 ≥ 65536 then (if (x0 / 65536) ≥ 256 then (if 0 ≤ (((x0 / 65536) / 256) % 256) then (if (((x0 / 65536) / 256) % 256) < (T.size : Int) then (some (wrap64 ((wrap64 ((wrap64 (x2 + 16)) + 8)) + (wrap64 (bt T (((x0 / 65536) / 256) % 256)))))) else (none)) else (none)) else (if 0 ≤ ((x0 / 65536) % 256) then (if ((x0 / 65536) % 256) < (T.size : Int) then (some (wrap64 ((wrap64 (x2 + 16)) + (wrap64 (bt T ((x0 / 65536) % 256)))))) else (none)) else (none))) else (if x0 ≥ 256 then (if 0 ≤ ((x0 / 256) % 256) then (if ((x0 / 256) % 256) < (T.size : Int) then (some (wrap64 ((wrap64 (x2 + 8)) + (wrap64 (bt T ((x0 / 256) % 256)))))) else (none)) else (none)) else (if 0 ≤ ((x0) % 256) then (if ((x0) % 256) < (T.size : Int) then (some (wrap64 (x2 + (wrap64 (bt T ((x0) % 256)))))) else (none)) else (none)))) := rfl
theorem T_size : (T.size : Int) = 256 := by decide +kernel
theorem T_tab : ∀ i : Fin 256, 1 ≤ i.val → ∃ l : Fin 8, bt T (i.val : Int) = (l.val : Int) + 1 ∧ 2 ^ l.val ≤ i.val ∧ i.val < 2 ^ (l.val + 1) := by decide +kernel
theorem T_at (i : Int) (h0 : 1 ≤ i) (h1 : i < 256) : ∃ l : Nat, l < 8 ∧ bt T i = (l : Int) + 1 ∧ (2 : Int) ^ l ≤ i ∧ i < (2 : Int) ^ (l + 1) := by
  obtain ⟨l, h2, h3, h4⟩ := T_tab ⟨i.toNat, by omega⟩ (by show 1 ≤ i.toNat; omega)
  have e : ((i.toNat : Nat) : Int) = i := by omega
  refine ⟨l.val, l.isLt, ?_, ?_, ?_⟩
  · simpa only [e] using h2
  · rw [← e]; exact_mod_cast h3
  · rw [← e]; exact_mod_cast h4
theorem len (k : Nat) (n : Int) (h0 : 1 ≤ n) (h1 : n ≤ 4294967295) : ∃ p : Nat, p < 32 ∧ (2 : Int) ^ p ≤ n ∧ n < (2 : Int) ^ (p + 1) ∧ bits_Len.f (k + 1) n = some ((p : Int) + 1) := by
  unfold bits_Len.f bits_Len64.f
  rw [if_neg (by omega), j0_eq]
  by_cases c1 : n ≥ 65536
  · by_cases c2 : n / 65536 ≥ 256
    · obtain ⟨l, hl, h2, h3, h4⟩ := T_at (n / 65536 / 256 % 256) (by omega) (by omega)
      rw [if_pos c1, if_pos c2, if_pos (by omega), T_size, if_pos (by omega), h2]
      have : l = 0 ∨ l = 1 ∨ l = 2 ∨ l = 3 ∨ l = 4 ∨ l = 5 ∨ l = 6 ∨ l = 7 := by omega
      rcases this with rfl | rfl | rfl | rfl | rfl | rfl | rfl | rfl
      · exact ⟨24, by omega, by omega, by omega, by decide +kernel⟩
      · exact ⟨25, by omega, by omega, by omega, by decide +kernel⟩
      · exact ⟨26, by omega, by omega, by omega, by decide +kernel⟩
      · exact ⟨27, by omega, by omega, by omega, by decide +kernel⟩
      · exact ⟨28, by omega, by omega, by omega, by decide +kernel⟩
      · exact ⟨29, by omega, by omega, by omega, by decide +kernel⟩
      · exact ⟨30, by omega, by omega, by omega, by decide +kernel⟩
      · exact ⟨31, by omega, by omega, by omega, by decide +kernel⟩
    · obtain ⟨l, hl, h2, h3, h4⟩ := T_at (n / 65536 % 256) (by omega) (by omega)
      rw [if_pos c1, if_neg c2, if_pos (by omega), T_size, if_pos (by omega), h2]
      have : l = 0 ∨ l = 1 ∨ l = 2 ∨ l = 3 ∨ l = 4 ∨ l = 5 ∨ l = 6 ∨ l = 7 := by omega
      rcases this with rfl | rfl | rfl | rfl | rfl | rfl | rfl | rfl
      · exact ⟨16, by omega, by omega, by omega, by decide +kernel⟩
      · exact ⟨17, by omega, by omega, by omega, by decide +kernel⟩
      · exact ⟨18, by omega, by omega, by omega, by decide +kernel⟩
      · exact ⟨19, by omega, by omega, by omega, by decide +kernel⟩
      · exact ⟨20, by omega, by omega, by omega, by decide +kernel⟩
      · exact ⟨21, by omega, by omega, by omega, by decide +kernel⟩
      · exact ⟨22, by omega, by omega, by omega, by decide +kernel⟩
      · exact ⟨23, by omega, by omega, by omega, by decide +kernel⟩
  · by_cases c2 : n ≥ 256
    · obtain ⟨l, hl, h2, h3, h4⟩ := T_at (n / 256 % 256) (by omega) (by omega)
      rw [if_neg c1, if_pos c2, if_pos (by omega), T_size, if_pos (by omega), h2]
      have : l = 0 ∨ l = 1 ∨ l = 2 ∨ l = 3 ∨ l = 4 ∨ l = 5 ∨ l = 6 ∨ l = 7 := by omega
      rcases this with rfl | rfl | rfl | rfl | rfl | rfl | rfl | rfl
      · exact ⟨8, by omega, by omega, by omega, by decide +kernel⟩
      · exact ⟨9, by omega, by omega, by omega, by decide +kernel⟩
      · exact ⟨10, by omega, by omega, by omega, by decide +kernel⟩
      · exact ⟨11, by omega, by omega, by omega, by decide +kernel⟩
      · exact ⟨12, by omega, by omega, by omega, by decide +kernel⟩
      · exact ⟨13, by omega, by omega, by omega, by decide +kernel⟩
      · exact ⟨14, by omega, by omega, by omega, by decide +kernel⟩
      · exact ⟨15, by omega, by omega, by omega, by decide +kernel⟩
    · obtain ⟨l, hl, h2, h3, h4⟩ := T_at (n % 256) (by omega) (by omega)
      rw [if_neg c1, if_neg c2, if_pos (by omega), T_size, if_pos (by omega), h2]
      have : l = 0 ∨ l = 1 ∨ l = 2 ∨ l = 3 ∨ l = 4 ∨ l = 5 ∨ l = 6 ∨ l = 7 := by omega
      rcases this with rfl | rfl | rfl | rfl | rfl | rfl | rfl | rfl
      · exact ⟨0, by omega, by omega, by omega, by decide +kernel⟩
      · exact ⟨1, by omega, by omega, by omega, by decide +kernel⟩
      · exact ⟨2, by omega, by omega, by omega, by decide +kernel⟩
      · exact ⟨3, by omega, by omega, by omega, by decide +kernel⟩
      · exact ⟨4, by omega, by omega, by omega, by decide +kernel⟩
      · exact ⟨5, by omega, by omega, by omega, by decide +kernel⟩
      · exact ⟨6, by omega, by omega, by omega, by decide +kernel⟩
      · exact ⟨7, by omega, by omega, by omega, by decide +kernel⟩
theorem shl_at : ∀ p : Fin 32, shl .i64 1 (p.val : Int) = (2 : Int) ^ p.val := by decide +kernel
theorem pow_le (a b : Nat) (h : a ≤ b) : (2 : Int) ^ a ≤ (2 : Int) ^ b := by exact_mod_cast Nat.pow_le_pow_right (show 0 < 2 by omega) h
theorem spec_go (n : Int) (h1 : n ≤ 4294967295) (p : Nat) (hp : p < 32) (h2 : (2 : Int) ^ p ≤ n) (h3 : n < (2 : Int) ^ (p + 1)) (d : Nat) : ∀ (m k : Nat), p - m = d → m ≤ p → d < k → spec_Parent.l0 k n ((2 : Int) ^ m) = some (n - (2 : Int) ^ p) := by
  have pb : (2 : Int) ^ p ≤ 4294967295 := by omega
  have pp : 0 < (2 : Int) ^ p := by exact_mod_cast Nat.pow_pos (show 0 < 2 by omega)
  induction d with
  | zero =>
    intro m k hd hm hk
    obtain ⟨k, rfl⟩ : ∃ m, k = m + 1 := ⟨k - 1, by omega⟩
    have : m = p := by omega
    subst this
    rw [Int.pow_succ] at h3
    simp only [spec_Parent.l0]
    rw [w64 (x := (2 : Int) ^ m * 2) (by omega) (by omega), if_neg (by omega), w64 (by omega) (by omega)]
  | succ d ih =>
    intro m k hd hm hk
    obtain ⟨k, rfl⟩ : ∃ m, k = m + 1 := ⟨k - 1, by omega⟩
    have := pow_le (m + 1) p (by omega)
    have pm : 0 < (2 : Int) ^ m := by exact_mod_cast Nat.pow_pos (show 0 < 2 by omega)
    rw [Int.pow_succ] at this
    simp only [spec_Parent.l0]
    rw [w64 (x := (2 : Int) ^ m * 2) (by omega) (by omega), if_pos (by omega), ← Int.pow_succ]
    exact ih (m + 1) k (by omega) (by omega) (by omega)
theorem FnExactParent : laws_FnExactParent.Pure := by
  intro n _
  refine ⟨101, ?_⟩
  unfold laws_FnExactParent.f spec_Parent.f impl_Parent.f
  rw [l01In, within]
  simp only [Option.bind_some]
  by_cases h : 1 ≤ n ∧ n ≤ 4294967295
  · have hw : IntKind.u64.wrap n = n := by
      unfold IntKind.wrap
      first | (simp [IntKind.signed, IntKind.bits]; omega) | omega | (simp; omega)
    obtain ⟨p, hp, h2, h3, h4⟩ := len 100 n h.1 h.2
    have s := spec_go n h.2 p hp h2 h3 p 0 101 (by omega) (by omega) (by omega)
    rw [show (2 : Int) ^ 0 = 1 from rfl] at s
    have pp : 0 < (2 : Int) ^ p := by exact_mod_cast Nat.pow_pos (show 0 < 2 by omega)
    rw [if_pos (decide_eq_true h), if_pos (decide_eq_true h), s, hw, h4]
    simp only [Option.bind_some]
    rw [w64 (x := (p : Int) + 1 - 1) (by omega) (by omega), show (p : Int) + 1 - 1 = (p : Int) by omega, if_pos (by omega), shl_at ⟨p, hp⟩]
    simp only [Option.bind_some]
    rw [w64 (by omega) (by omega), if_pos rfl]
  · have hn : ¬ decide (1 ≤ n ∧ n ≤ 4294967295) = true := by rw [decide_eq_true_eq]; exact h
    rw [if_neg hn, if_neg hn]
    simp

end Go.Proofs.Ytmpokfmibhkilaa.Pure
