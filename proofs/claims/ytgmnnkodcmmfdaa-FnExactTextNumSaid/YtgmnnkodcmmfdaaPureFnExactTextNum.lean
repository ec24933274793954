/- The law FnExactTextNum answers true whatever its arguments hold: the program's function and the reference's come to the same, and no list of an answer is shared. No condition. -/
import Derived.Test.YtgmnnkodcmmfdaaPFnExactTextNumx2
namespace Go.Proofs.Ytgmnnkodcmmfdaa.Pure
open Go.RowKit Go.Proofs.Ytgmnnkodcmmfdaa.PFnExactTextNum Go.Proofs.YtgmnnkodcmmfdaaW.PrintWords Go.Proofs.YtgmnnkodcmmfdaaW.PrintLast
set_option linter.unusedSimpArgs false
set_option linter.unusedVariables false

/-! Small facts. -/
theorem w64 {x : Int} (h0 : -9223372036854775808 ≤ x) (h1 : x ≤ 9223372036854775807) : wrap64 x = x := by unfold wrap64; omega
theorem rd_nat (l : List Int) (j : Nat) : rd l (j : Int) = l.getD j 0 := by simp [rd]
/-- The numbers from m on, n of them. -/
def marked (m : Int) (n : Nat) : List Int := (List.range n).map fun (i : Nat) => m + (i : Int)
theorem marked_len (m : Int) (n : Nat) : (marked m n).length = n := by simp [marked]
theorem marked_get (m : Int) (n j : Nat) (h : j < n) : (marked m n).getD j 0 = m + j := by simp [marked, List.getD, h]
theorem neg1 (n : Nat) : ((1 : Int) + (n : Int) < 0) = False := by simp only [eq_iff_iff, iff_false]; omega
theorem neg0 : ((-1 : Int) < 0) = True := by simp
theorem i64r {n : Int} (h : (Lit.int .i64 n).wf = true) : -9223372036854775808 ≤ n ∧ n ≤ 9223372036854775807 := by
  have e1 : IntKind.i64.min = -9223372036854775808 := by decide
  have e2 : IntKind.i64.max = 9223372036854775807 := by decide
  simp only [Lit.wf, Bool.and_eq_true, decide_eq_true_eq, e1, e2] at h
  exact h

theorem within (a lo hi : Int) : impl_within.f a lo hi = some (decide (lo ≤ a ∧ a ≤ hi)) := by
  unfold impl_within.f
  by_cases h : a ≥ lo
  · rw [if_pos h]
    have h' : lo ≤ a := h
    simp [h']
  · rw [if_neg h]
    have h' : ¬ lo ≤ a := h
    simp [h']

theorem isNum (x : Int) : impl_isNum.f x = some (decide (0 ≤ x ∧ x ≤ 4294967295)) := by
  unfold impl_isNum.f
  rw [within]; rfl
theorem l01Num (x : Int) : spec_l01Num.f x = some (decide (0 ≤ x ∧ x ≤ 4294967295)) := by
  unfold spec_l01Num.f
  by_cases h : x ≥ 0
  · have h' : 0 ≤ x := h
    rw [if_pos h]; simp [h']
  · have h' : ¬ 0 ≤ x := h
    rw [if_neg h]; simp [h']

/-! NumText. -/
def dig (m : Int) : ByteArray := strOfNums [(wrap64 (48 + m)) % 256]
theorem dig_size (m : Int) : (dig m).size = 1 := by simp [dig, strOfNums, ByteArray.size]
theorem NumText_go (d : Nat) : d ≤ 20 → ∀ (n : Int), 0 ≤ n → n ≤ 4294967295 → n < (10 : Int) ^ (d + 1) → ∃ s : ByteArray, s.size ≤ d + 1 ∧ (∀ k, d + 1 ≤ k → spec_NumText.f k n = some s) ∧ ∀ k, d + 1 ≤ k → ∀ x3 : ByteArray, x3.size + d ≤ 1000 → impl_NumText.l0 k n x3 = some (s ++ x3) := by
  induction d with
  | zero =>
    intro h20 n h0 h1 h2
    have hlt : n < 10 := by simpa using h2
    refine ⟨dig n, by rw [dig_size]; omega, fun k hk => ?_, fun k hk x3 hx => ?_⟩
    · obtain ⟨k, rfl⟩ : ∃ m, k = m + 1 := ⟨k - 1, by omega⟩
      simp only [spec_NumText.f]
      rw [l01Num]
      simp only [Option.bind_some]
      rw [if_pos (decide_eq_true ⟨h0, h1⟩), if_pos hlt]; rfl
    · obtain ⟨k, rfl⟩ : ∃ m, k = m + 1 := ⟨k - 1, by omega⟩
      simp only [impl_NumText.l0, Option.bind_some]
      rw [if_neg (by omega)]
      have := dig_size n
      unfold dig at this
      rw [this, if_pos (by omega)]; rfl
  | succ d ih =>
    intro h20 n h0 h1 h2
    by_cases hlt : n < 10
    · refine ⟨dig n, by rw [dig_size]; omega, fun k hk => ?_, fun k hk x3 hx => ?_⟩
      · obtain ⟨k, rfl⟩ : ∃ m, k = m + 1 := ⟨k - 1, by omega⟩
        simp only [spec_NumText.f]
        rw [l01Num]
        simp only [Option.bind_some]
        rw [if_pos (decide_eq_true ⟨h0, h1⟩), if_pos hlt]; rfl
      · obtain ⟨k, rfl⟩ : ∃ m, k = m + 1 := ⟨k - 1, by omega⟩
        simp only [impl_NumText.l0, Option.bind_some]
        rw [if_neg (by omega)]
        have := dig_size n
        unfold dig at this
        rw [this, if_pos (by omega)]; rfl
    · have ht : Int.tdiv n 10 = n / 10 := by rw [Int.tdiv_eq_ediv_of_nonneg h0]
      have hm : wrap64 (Int.tdiv n 10) = n / 10 := by rw [ht]; exact w64 (by omega) (by omega)
      rw [Int.pow_succ] at h2
      obtain ⟨s, hs, h3, h4⟩ := ih (by omega) (n / 10) (by omega) (by omega) (by omega)
      have hd := dig_size (Int.tmod n 10)
      refine ⟨s ++ dig (Int.tmod n 10), by rw [ByteArray.size_append, hd]; omega, fun k hk => ?_, fun k hk x3 hx => ?_⟩
      · obtain ⟨k, rfl⟩ : ∃ m, k = m + 1 := ⟨k - 1, by omega⟩
        simp only [spec_NumText.f]
        rw [l01Num]
        simp only [Option.bind_some]
        rw [if_pos (decide_eq_true ⟨h0, h1⟩), if_neg hlt, hm, h3 k (by omega)]
        simp only [Option.bind_some]
        unfold dig at hd
        rw [hd, if_pos (by omega)]; rfl
      · obtain ⟨k, rfl⟩ : ∃ m, k = m + 1 := ⟨k - 1, by omega⟩
        simp only [impl_NumText.l0, Option.bind_some]
        rw [if_pos (by omega), hm]
        have hd' := hd
        unfold dig at hd'
        rw [hd', if_pos (by omega)]
        have := h4 k (by omega) (dig (Int.tmod n 10) ++ x3) (by rw [ByteArray.size_append, hd]; omega)
        rw [← ByteArray.append_assoc] at this
        exact this
theorem NumText_both (n : Int) : ∃ s : ByteArray, s.size ≤ 11 ∧ ∀ k, 20 ≤ k → spec_NumText.f k n = some s ∧ impl_NumText.f k n = some s := by
  by_cases h : 0 ≤ n ∧ n ≤ 4294967295
  · obtain ⟨s, h1, h2, h3⟩ := NumText_go 10 (by omega) n h.1 h.2 (by rw [show (10 : Int) ^ (10 + 1) = 100000000000 by decide]; omega)
    refine ⟨s, h1, fun k hk => ⟨h2 k (by omega), ?_⟩⟩
    unfold impl_NumText.f
    rw [isNum]
    simp only [Option.bind_some]
    rw [if_pos (decide_eq_true h), h3 k (by omega) _ (by simp [ByteArray.size])]
    refine congrArg some ?_
    exact ByteArray.append_empty
  · refine ⟨⟨#[]⟩, by simp [ByteArray.size], fun k hk => ⟨?_, ?_⟩⟩
    · obtain ⟨k, rfl⟩ : ∃ m, k = m + 1 := ⟨k - 1, by omega⟩
      simp only [spec_NumText.f]
      rw [l01Num]
      simp only [Option.bind_some]
      rw [if_neg (by rw [decide_eq_true_eq]; exact h)]
    · unfold impl_NumText.f
      rw [isNum]
      simp only [Option.bind_some]
      rw [if_neg (by rw [decide_eq_true_eq]; exact h)]


theorem TextNum_go (x : ByteArray) (hx : x.size ≤ 10) (d : Nat) : ∀ (j : Nat) (v : Int), x.size - j = d → j ≤ x.size → ∃ r : Int × Bool, ∀ k, d + 20 < k → spec_TextNum.l0 k x v (j : Int) = some r ∧ impl_TextNum.l0 k x v (j : Int) = some r := by
  induction d with
  | zero =>
    intro j v hd hj
    obtain ⟨s, _, h⟩ := NumText_both v
    refine ⟨if s.toList = x.toList then (v, true) else (0, false), fun k hk => ?_⟩
    obtain ⟨k, rfl⟩ : ∃ m, k = m + 1 := ⟨k - 1, by omega⟩
    refine ⟨?_, ?_⟩
    · simp only [spec_TextNum.l0]
      rw [if_neg (by omega), (h k (by omega)).1]
      simp only [Option.bind_some]
      split <;> rfl
    · simp only [impl_TextNum.l0]
      rw [if_neg (by omega), (h k (by omega)).2]
      simp only [Option.bind_some]
      split <;> rfl
  | succ d ih =>
    intro j v hd hj
    have g : (j : Int) < (x.size : Int) := by omega
    have g0 : 0 ≤ (j : Int) := by omega
    have gw : wrap64 ((j : Int) + 1) = ((j + 1 : Nat) : Int) := by rw [w64 (by omega) (by omega)]; omega
    by_cases h : bt x (j : Int) < 48
    · refine ⟨(0, false), fun k hk => ?_⟩
      obtain ⟨k, rfl⟩ : ∃ m, k = m + 1 := ⟨k - 1, by omega⟩
      refine ⟨?_, ?_⟩
      · simp only [spec_TextNum.l0]
        rw [if_pos g, if_pos g0, if_pos h]
      · simp only [impl_TextNum.l0]
        rw [if_pos g, if_pos g0, if_pos h]
    · by_cases h2 : bt x (j : Int) > 57
      · refine ⟨(0, false), fun k hk => ?_⟩
        obtain ⟨k, rfl⟩ : ∃ m, k = m + 1 := ⟨k - 1, by omega⟩
        refine ⟨?_, ?_⟩
        · simp only [spec_TextNum.l0]
          rw [if_pos g, if_pos g0, if_neg h, if_pos h2]
        · simp only [impl_TextNum.l0]
          rw [if_pos g, if_pos g0, if_neg h, if_pos h2]
      · obtain ⟨r, hr⟩ := ih (j + 1) (wrap64 ((wrap64 (v * 10)) + (((bt x (j : Int)) - 48) % 256))) (by omega) (by omega)
        refine ⟨r, fun k hk => ?_⟩
        obtain ⟨k, rfl⟩ : ∃ m, k = m + 1 := ⟨k - 1, by omega⟩
        obtain ⟨h3, h4⟩ := hr k (by omega)
        refine ⟨?_, ?_⟩
        · simp only [spec_TextNum.l0, gw]
          rw [if_pos g, if_pos g0, if_neg h, if_neg h2]
          exact h3
        · simp only [impl_TextNum.l0, gw]
          rw [if_pos g, if_pos g0, if_neg h, if_neg h2, Int.mul_comm 10 v]
          exact h4
theorem FnExactTextNum : laws_FnExactTextNum.Pure := by
  intro x _
  by_cases hl : x.size ≤ 1048576
  · have key : ∃ r : Int × Bool, spec_TextNum.f 100 x = some r ∧ impl_TextNum.f 100 x = some r := by
      by_cases h : 1 ≤ (x.size : Int) ∧ (x.size : Int) ≤ 10
      · obtain ⟨r, hr⟩ := TextNum_go x (by omega) x.size 0 0 (by omega) (by omega)
        refine ⟨r, ?_, ?_⟩
        · unfold spec_TextNum.f
          rw [if_neg (by omega), decide_eq_false (by omega)]
          simp only [spec_TextNum.j0, Bool.false_eq_true, if_false]
          exact (hr 99 (by omega)).1
        · unfold impl_TextNum.f
          rw [within]
          simp only [Option.bind_some]
          rw [if_pos (decide_eq_true h)]
          exact (hr 100 (by omega)).2
      · refine ⟨(0, false), ?_, ?_⟩
        · unfold spec_TextNum.f
          by_cases h1 : (x.size : Int) < 1
          · rw [if_pos h1]
            simp only [spec_TextNum.j0, if_true]
          · rw [if_neg h1, decide_eq_true (show (x.size : Int) > 10 by omega)]
            simp only [spec_TextNum.j0, if_true]
        · unfold impl_TextNum.f
          rw [within]
          simp only [Option.bind_some]
          rw [if_neg (by rw [decide_eq_true_eq]; exact h)]
    obtain ⟨r, h1, h2⟩ := key
    refine ⟨100, ?_⟩
    unfold laws_FnExactTextNum.f
    rw [if_neg (by omega), h1, h2]
    simp
  · refine ⟨0, ?_⟩
    unfold laws_FnExactTextNum.f
    rw [if_pos (by omega)]

end Go.Proofs.Ytgmnnkodcmmfdaa.Pure
