/- The law FnExactRiAct answers true whatever its arguments hold: the program's function and the reference's come to the same, and no list of an answer is shared. No condition. -/
import Derived.Test.YtfahmmlkcmadeaaPFnExactRiActx5
namespace Go.Proofs.Ytfahmmlkcmadeaa.Pure
open Go.RowKit Go.Proofs.Ytfahmmlkcmadeaa.PFnExactRiAct Go.Proofs.YtfahmmlkcmadeaaW.PrintWords Go.Proofs.YtfahmmlkcmadeaaW.PrintLast
set_option linter.unusedSimpArgs false
set_option linter.unusedVariables false

/-! Small facts. -/
theorem w64 {x : Int} (h0 : -9223372036854775808 ≤ x) (h1 : x ≤ 9223372036854775807) : wrap64 x = x := by unfold wrap64; omega
theorem rd_nat (l : List Int) (j : Nat) : rd l (j : Int) = l.getD j 0 := by simp [rd]
/-- The numbers from m on, n of them. -/
def marked (m : Int) (n : Nat) : List Int := (List.range n).map fun (i : Nat) => m + (i : Int)
theorem marked_len (m : Int) (n : Nat) : (marked m n).length = n := by simp [marked]
theorem marked_get (m : Int) (n j : Nat) (h : j < n) : (marked m n).getD j 0 = m + j := by simp [marked, List.getD, h]
theorem neg1 (n : Nat) : ((1 : Int) + (n : Int) < 0) = False := by simp only [eq_iff_iff, iff_false]; omega
theorem neg0 : ((-1 : Int) < 0) = True := by simp
theorem i64r {n : Int} (h : (Lit.int .i64 n).wf = true) : -9223372036854775808 ≤ n ∧ n ≤ 9223372036854775807 := by
  have e1 : IntKind.i64.min = -9223372036854775808 := by decide
  have e2 : IntKind.i64.max = 9223372036854775807 := by decide
  simp only [Lit.wf, Bool.and_eq_true, decide_eq_true_eq, e1, e2] at h
  exact h

theorem within (a lo hi : Int) : impl_within.f a lo hi = some (decide (lo ≤ a ∧ a ≤ hi)) := by
  unfold impl_within.f
  by_cases h : a ≥ lo
  · rw [if_pos h]
    have h' : lo ≤ a := h
    simp [h']
  · rw [if_neg h]
    have h' : ¬ lo ≤ a := h
    simp [h']

theorem modB (n m : Int) (hm : 1 ≤ m) (hm2 : m ≤ 1000) (hn : -9223372036854775808 ≤ n) (hn2 : n ≤ 9223372036854775807) : spec_Mod.f n m = some (n % m) ∧ impl_Mod.f n m = some (n % m) := by
  have h0 : 0 ≤ n % m := Int.emod_nonneg _ (by omega)
  have h1 : n % m < m := Int.emod_lt_of_pos _ (by omega)
  have key : (if Int.tmod n m < 0 then (some (wrap64 (Int.tmod n m + m))) else some (Int.tmod n m)) = some (n % m) := by
    rw [Int.tmod_eq_emod]
    by_cases h : 0 ≤ n ∨ m ∣ n
    · rw [if_pos h, show ((0 : Nat) : Int) = 0 from rfl, Int.sub_zero, if_neg (by omega)]
    · rw [if_neg h, show ((m.natAbs : Nat) : Int) = m by omega, if_pos (by omega), w64 (by omega) (by omega), show n % m - m + m = n % m by omega]
  constructor
  · unfold spec_Mod.f
    rw [if_neg (by omega), if_neg (by omega), key]
  · unfold impl_Mod.f
    rw [if_neg (by omega), if_neg (by omega), key]

/-! RiAct: both come to the same. -/
theorem RiAct_both (k : Nat) (n kd a x pc p c w r v : Int) (done : Bool) (hp0 : -9223372036854775808 ≤ p) (hp1 : p ≤ 9223372036854775807) :
    ∃ q0 q1 q2 q3 q4, spec_RiAct.f (k + 5) n kd a x pc p c w r v done = some (q0, q1, q2, q3, q4) ∧ impl_RiAct.f (k + 5) n kd a x pc p c w r v done = some (q0, q1, q2, q3, q4) := by
  by_cases hd : done = true
  · subst hd
    exact ⟨0, 0, 0, 0, false, by simp [spec_RiAct.f, spec_RiAct.j0], by simp [impl_RiAct.f, impl_RiAct.j0]⟩
  · obtain rfl : done = false := by simpa using hd
    by_cases hn : 2 ≤ n ∧ n ≤ 16
    · have hz : spec_l04Size.f n = some true := by unfold spec_l04Size.f; rw [if_pos (by omega), decide_eq_true hn.2]
      by_cases hk : kd = 1 ∨ kd = 2
      · by_cases hp : pc = 0 ∨ pc = 1 ∨ pc = 2 ∨ pc = 3 ∨ pc = 4
        · obtain ⟨hm1, hm2⟩ := modB p n (by omega) (by omega) hp0 hp1
          have m0 : 0 ≤ p % n := Int.emod_nonneg _ (by omega)
          have m1 : p % n < n := Int.emod_lt_of_pos _ (by omega)
          have e1 : wrap64 (2 * (p % n)) = 2 * (p % n) := w64 (by omega) (by omega)
          have e2 : wrap64 (2 + 2 * (p % n)) = 2 + 2 * (p % n) := w64 (by omega) (by omega)
          have e3 : wrap64 (2 + 2 * (p % n) + 1) = 2 + 2 * (p % n) + 1 := w64 (by omega) (by omega)
          have c0 : wrap64 (1 - 1) = 0 := by decide +kernel
          have c1 : wrap64 (2 - 1) = 1 := by decide +kernel
          have d0 : wrap64 (wrap64 (10 * 1) + 0) = 10 := by decide +kernel
          have d1 : wrap64 (wrap64 (10 * 1) + 1) = 11 := by decide +kernel
          have d2 : wrap64 (wrap64 (10 * 1) + 2) = 12 := by decide +kernel
          have d3 : wrap64 (wrap64 (10 * 1) + 3) = 13 := by decide +kernel
          have d4 : wrap64 (wrap64 (10 * 1) + 4) = 14 := by decide +kernel
          have f0 : wrap64 (wrap64 (10 * 2) + 0) = 20 := by decide +kernel
          have f1 : wrap64 (wrap64 (10 * 2) + 1) = 21 := by decide +kernel
          have f2 : wrap64 (wrap64 (10 * 2) + 2) = 22 := by decide +kernel
          have f3 : wrap64 (wrap64 (10 * 2) + 3) = 23 := by decide +kernel
          have f4 : wrap64 (wrap64 (10 * 2) + 4) = 24 := by decide +kernel
          rcases hk with rfl | rfl <;> rcases hp with rfl | rfl | rfl | rfl | rfl <;>
            exact ⟨_, _, _, _, _, by simp only [spec_RiAct.f, spec_RiAct.j0, spec_RiAct.j1, spec_RiAct.j2, spec_RiAct.j3, spec_l03Load.f, spec_l03Store.f, spec_l03Cas.f, spec_l04Seq.f, hz, hm1, Option.bind_some, d0, d1, d2, d3, d4, f0, f1, f2, f3, f4, c0, c1, e1, e2, e3]; rfl,
              by simp only [impl_RiAct.f, impl_RiAct.j0, impl_RiAct.j1, within, hm2, Option.bind_some, c0, c1, e1, e2, e3, decide_eq_true hn]; rfl⟩
        · refine ⟨0, 0, 0, 0, false, ?_, ?_⟩
          · have : pc < 0 ∨ (¬ pc < 0 ∧ pc > 4) := by omega
            rcases hk with rfl | rfl <;> rcases this with h | h <;> simp [spec_RiAct.f, spec_RiAct.j0, hz, h]
          · have : ¬ (0 ≤ pc ∧ pc ≤ 4) := by omega
            rcases hk with rfl | rfl <;> simp [impl_RiAct.f, impl_RiAct.j0, within, hn, this]
      · refine ⟨0, 0, 0, 0, false, ?_, ?_⟩
        · have : kd < 1 ∨ (¬ kd < 1 ∧ kd > 2) := by omega
          rcases this with h | h <;> simp [spec_RiAct.f, spec_RiAct.j0, hz, h]
        · have : ¬ (1 ≤ kd ∧ kd ≤ 2) := by omega
          simp [impl_RiAct.f, impl_RiAct.j0, within, hn, this]
    · have hz : spec_l04Size.f n = some false := by
        unfold spec_l04Size.f
        split
        · rw [decide_eq_false (by omega)]
        · rfl
      exact ⟨0, 0, 0, 0, false, by simp [spec_RiAct.f, spec_RiAct.j0, hz], by simp [impl_RiAct.f, impl_RiAct.j0, within, hn]⟩


theorem FnExactRiAct : laws_FnExactRiAct.Pure := by
  intro n kd a x pc p c w r v done _ ⟨_, _, _, _, hp, _, _, _, _, _⟩
  refine ⟨5, ?_⟩
  obtain ⟨q0, q1, q2, q3, q4, h1, h2⟩ := RiAct_both 0 n kd a x pc p c w r v done (i64r hp).1 (i64r hp).2
  unfold laws_FnExactRiAct.f laws_toCall.f
  simp only [Option.bind_some]
  rw [h1, h2]
  simp [laws_eqAct.f]

end Go.Proofs.Ytfahmmlkcmadeaa.Pure
