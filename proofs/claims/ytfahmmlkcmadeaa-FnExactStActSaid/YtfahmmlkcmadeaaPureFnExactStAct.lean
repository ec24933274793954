/- The law FnExactStAct answers true whatever its arguments hold: the program's function and the reference's come to the same, and no list of an answer is shared. No condition. -/
import Derived.Test.YtfahmmlkcmadeaaPFnExactStActx5
namespace Go.Proofs.Ytfahmmlkcmadeaa.Pure
open Go.RowKit Go.Proofs.Ytfahmmlkcmadeaa.PFnExactStAct Go.Proofs.YtfahmmlkcmadeaaW.PrintWords Go.Proofs.YtfahmmlkcmadeaaW.PrintLast
set_option linter.unusedSimpArgs false
set_option linter.unusedVariables false

/-! Small facts. -/
theorem w64 {x : Int} (h0 : -9223372036854775808 ≤ x) (h1 : x ≤ 9223372036854775807) : wrap64 x = x := by unfold wrap64; omega
theorem rd_nat (l : List Int) (j : Nat) : rd l (j : Int) = l.getD j 0 := by simp [rd]
/-- The numbers from m on, n of them. -/
def marked (m : Int) (n : Nat) : List Int := (List.range n).map fun (i : Nat) => m + (i : Int)
theorem marked_len (m : Int) (n : Nat) : (marked m n).length = n := by simp [marked]
theorem marked_get (m : Int) (n j : Nat) (h : j < n) : (marked m n).getD j 0 = m + j := by simp [marked, List.getD, h]
theorem neg1 (n : Nat) : ((1 : Int) + (n : Int) < 0) = False := by simp only [eq_iff_iff, iff_false]; omega
theorem neg0 : ((-1 : Int) < 0) = True := by simp
theorem i64r {n : Int} (h : (Lit.int .i64 n).wf = true) : -9223372036854775808 ≤ n ∧ n ≤ 9223372036854775807 := by
  have e1 : IntKind.i64.min = -9223372036854775808 := by decide
  have e2 : IntKind.i64.max = 9223372036854775807 := by decide
  simp only [Lit.wf, Bool.and_eq_true, decide_eq_true_eq, e1, e2] at h
  exact h

theorem within (a lo hi : Int) : impl_within.f a lo hi = some (decide (lo ≤ a ∧ a ≤ hi)) := by
  unfold impl_within.f
  by_cases h : a ≥ lo
  · rw [if_pos h]
    have h' : lo ≤ a := h
    simp [h']
  · rw [if_neg h]
    have h' : ¬ lo ≤ a := h
    simp [h']

theorem l01In (a lo hi : Int) : spec_l01In.f a lo hi = some (decide (lo ≤ a ∧ a ≤ hi)) := by
  unfold spec_l01In.f
  by_cases h : a ≥ lo
  · rw [if_pos h]
    have h' : lo ≤ a := h
    simp [h']
  · rw [if_neg h]
    have h' : ¬ lo ≤ a := h
    simp [h']

/-! Words. -/
theorem unpack (w : Int) (hw : w ≤ 9223372036854775807) : ∃ t i b, spec_Unpack.f w = some (t, i, b) ∧ impl_Unpack.f w = some (t, i, b) ∧ 0 ≤ i ∧ i ≤ 1048575 ∧ 0 ≤ t ∧ t ≤ 1073741823 ∧ (b = false → i = 0 ∧ t = 0) ∧ (b = true → w = t * 1048576 + i) := by
  by_cases h0 : w < 0
  · exact ⟨0, 0, false, by unfold spec_Unpack.f; rw [if_pos h0], by unfold impl_Unpack.f; rw [if_pos h0], by omega, by omega, by omega, by omega, by simp, by simp⟩
  · have e1 : Int.tdiv w 1048576 = w / 1048576 := Int.tdiv_eq_ediv_of_nonneg (by omega)
    have e2 : Int.tmod w 1048576 = w % 1048576 := Int.tmod_eq_emod_of_nonneg (by omega)
    have e3 : wrap64 (w / 1048576) = w / 1048576 := w64 (by omega) (by omega)
    by_cases h1 : w / 1048576 > 1073741823
    · exact ⟨0, 0, false, by unfold spec_Unpack.f; rw [if_neg h0, e1, e3, if_pos h1], by unfold impl_Unpack.f; rw [if_neg h0, e1, e3, if_pos h1], by omega, by omega, by omega, by omega, by simp, by simp⟩
    · exact ⟨w / 1048576, w % 1048576, true, by unfold spec_Unpack.f; rw [if_neg h0, e1, e2, e3, if_neg h1], by unfold impl_Unpack.f; rw [if_neg h0, e1, e2, e3, if_neg h1], by omega, by omega, by omega, by omega, by simp, fun _ => by omega⟩

theorem nextTag (t : Int) : spec_NextTag.f t = some (if 0 ≤ t ∧ t ≤ 1073741822 then t + 1 else 0) ∧ impl_NextTag.f t = some (if 0 ≤ t ∧ t ≤ 1073741822 then t + 1 else 0) := by
  unfold spec_NextTag.f impl_NextTag.f
  simp only [l01In, within, Option.bind_some, decide_eq_true_eq]
  by_cases h : 0 ≤ t ∧ t ≤ 1073741822
  · simp only [if_pos h]; rw [w64 (by omega) (by omega)]; exact ⟨rfl, rfl⟩
  · simp only [if_neg h]; exact ⟨trivial, trivial⟩
theorem packB (t i : Int) : ∃ w b, spec_Pack.f t i = some (w, b) ∧ impl_Pack.f t i = some (w, b) ∧ (b = decide ((0 ≤ t ∧ t ≤ 1073741823) ∧ 0 ≤ i ∧ i ≤ 1048575)) ∧ (b = true → w = t * 1048576 + i) := by
  unfold spec_Pack.f impl_Pack.f
  simp only [l01In, within, Option.bind_some, decide_eq_true_eq]
  by_cases h : 0 ≤ t ∧ t ≤ 1073741823
  · by_cases h2 : 0 ≤ i ∧ i ≤ 1048575
    · simp only [if_pos h, if_pos h2]
      refine ⟨_, _, rfl, rfl, (decide_eq_true ⟨h, h2⟩).symm, fun _ => ?_⟩
      rw [w64 (x := t * 1048576) (by omega) (by omega), w64 (by omega) (by omega)]
    · simp only [if_pos h, if_neg h2]
      exact ⟨_, _, rfl, rfl, (decide_eq_false fun hh => h2 hh.2).symm, by simp⟩
  · simp only [if_neg h]
    exact ⟨_, _, rfl, rfl, (decide_eq_false fun hh => h hh.1).symm, by simp⟩

/-! StAct: both come to the same. -/
theorem StAct_both (k : Nat) (n kd a x pc p c w r v : Int) (done : Bool) (hw : w ≤ 9223372036854775807) :
    ∃ q0 q1 q2 q3 q4, spec_StAct.f (k + 5) n kd a x pc p c w r v done = some (q0, q1, q2, q3, q4) ∧ impl_StAct.f (k + 5) n kd a x pc p c w r v done = some (q0, q1, q2, q3, q4) := by
  obtain ⟨t, i, b, hu1, hu2, hi0, hi1, ht0, ht1, -, -⟩ := unpack w hw
  obtain ⟨hn1, hn2⟩ := nextTag t
  by_cases hd : done = true
  · subst hd
    exact ⟨0, 0, 0, 0, false, by simp [spec_StAct.f, spec_StAct.j0], by simp [impl_StAct.f, impl_StAct.j0, impl_top.f, hu2]⟩
  · obtain rfl : done = false := by simpa using hd
    by_cases hn : 1 ≤ n ∧ n ≤ 16
    · have hz : spec_l03Size.f n = some true := by unfold spec_l03Size.f; rw [if_pos (by omega), decide_eq_true hn.2]
      by_cases hk : kd = 1 ∨ kd = 2
      · by_cases hp : pc = 0 ∨ pc = 1 ∨ pc = 2
        · have pk : ∀ z, ∃ u b', spec_Pack.f (if 0 ≤ t ∧ t ≤ 1073741822 then t + 1 else 0) z = some (u, b') ∧ impl_Pack.f (if 0 ≤ t ∧ t ≤ 1073741822 then t + 1 else 0) z = some (u, b') := fun z => by
            obtain ⟨u, b', h1, h2, _⟩ := packB (if 0 ≤ t ∧ t ≤ 1073741822 then t + 1 else 0) z
            exact ⟨u, b', h1, h2⟩
          obtain ⟨u1, b1, p1, p2⟩ := pk (a + 1)
          obtain ⟨u2, b2, p3, p4⟩ := pk c
          have hwn : wrap64 (n - 1) = n - 1 := w64 (by omega) (by omega)
          have hwi : wrap64 (i - 1) = i - 1 := w64 (by omega) (by omega)
          have hwi2 : wrap64 i = i := w64 (by omega) (by omega)
          rcases hk with rfl | rfl
          · by_cases ha : 0 ≤ a ∧ a ≤ n - 1
            · have hwa : wrap64 (a + 1) = a + 1 := w64 (by omega) (by omega)
              have hq : ∃ q0 q1 q2 q3 q4, (if b1 = true then some ((3 : Int), (0 : Int), w, u1, true) else some (0, 0, 0, 0, false)) = some (q0, q1, q2, q3, q4) := by
                split <;> exact ⟨_, _, _, _, _, rfl⟩
              obtain ⟨q0, q1, q2, q3, q4, hq⟩ := hq
              rcases hp with rfl | rfl | rfl
              · exact ⟨1, 0, 0, 0, true, by simp [spec_StAct.f, spec_StAct.j0, spec_StAct.j1, spec_l03Place.f, spec_l03Word.f, spec_l03Load.f, hz, hu1, l01In, hwn, ha], by simp [impl_StAct.f, impl_StAct.j0, impl_StAct.j1, impl_StAct.j2, impl_top.f, hu2, within, hwn, ha, hn]⟩
              · exact ⟨2, wrap64 (1 + a), i, 0, true, by simp [spec_StAct.f, spec_StAct.j0, spec_StAct.j1, spec_StAct.j2, spec_l03Place.f, spec_l03Word.f, spec_l03Store.f, hz, hu1, l01In, hwn, ha], by simp [impl_StAct.f, impl_StAct.j0, impl_StAct.j1, impl_StAct.j2, impl_StAct.j3, impl_top.f, hu2, within, hwn, ha, hn, hwi, hwi2]⟩
              · exact ⟨q0, q1, q2, q3, q4, by rw [← hq]; simp [spec_StAct.f, spec_StAct.j0, spec_StAct.j1, spec_StAct.j2, spec_StAct.j3, spec_l03Place.f, spec_l03Word.f, spec_l03Cas.f, hz, hu1, l01In, hwn, ha, hn1, hwa, p1], by rw [← hq]; simp [impl_StAct.f, impl_StAct.j0, impl_StAct.j1, impl_StAct.j2, impl_StAct.j3, impl_top.f, hu2, within, hwn, ha, hn, hn2, hwa, p2]⟩
            · have ha' : ∀ h : 0 ≤ a, ¬ a ≤ n - 1 := fun h h2 => ha ⟨h, h2⟩
              refine ⟨0, 0, 0, 0, false, ?_, ?_⟩
              · rcases hp with rfl | rfl | rfl <;> simp [spec_StAct.f, spec_StAct.j0, spec_StAct.j1, spec_l03Place.f, spec_l03Word.f, hz, hu1, l01In, hwn] <;> omega
              · rcases hp with rfl | rfl | rfl <;> simp [impl_StAct.f, impl_StAct.j0, impl_StAct.j1, impl_top.f, hu2, within, hwn, hn] <;> omega
          · have hq : ∃ q0 q1 q2 q3 q4, (if b2 = true then some ((3 : Int), (0 : Int), w, u2, true) else some (0, 0, 0, 0, false)) = some (q0, q1, q2, q3, q4) := by
              split <;> exact ⟨_, _, _, _, _, rfl⟩
            obtain ⟨q0, q1, q2, q3, q4, hq⟩ := hq
            by_cases ha : 0 ≤ i - 1 ∧ i - 1 ≤ n - 1
            · have hb1 : 1 ≤ i := by omega
              have hb2 : i ≤ n := by omega
              have hb3 : ¬ n < i := by omega
              rcases hp with rfl | rfl | rfl
              · exact ⟨1, 0, 0, 0, true, by simp [spec_StAct.f, spec_StAct.j0, spec_StAct.j1, spec_l03Place.f, spec_l03Word.f, spec_l03Load.f, hz, hu1], by simp [impl_StAct.f, impl_StAct.j0, impl_StAct.j1, impl_StAct.j2, impl_top.f, hu2, within, hn]⟩
              · exact ⟨1, wrap64 (1 + (i - 1)), 0, 0, true, by simp [spec_StAct.f, spec_StAct.j0, spec_StAct.j1, spec_StAct.j2, spec_l03Place.f, spec_l03Word.f, spec_l03Load.f, hz, hu1, l01In, hwn, hwi, hb1, hb2], by simp [impl_StAct.f, impl_StAct.j0, impl_StAct.j1, impl_StAct.j2, impl_StAct.j3, impl_top.f, hu2, within, hwn, hwi, hb1, hb2, hb3, hn]⟩
              · exact ⟨q0, q1, q2, q3, q4, by rw [← hq]; simp [spec_StAct.f, spec_StAct.j0, spec_StAct.j1, spec_StAct.j2, spec_StAct.j3, spec_l03Place.f, spec_l03Word.f, spec_l03Cas.f, hz, hu1, l01In, hwn, hwi, hb1, hb2, hb3, hn1, p3], by rw [← hq]; simp [impl_StAct.f, impl_StAct.j0, impl_StAct.j1, impl_StAct.j2, impl_StAct.j3, impl_top.f, hu2, within, hwn, hwi, hb1, hb2, hb3, hn, hn2, p4]⟩
            · rcases hp with rfl | rfl | rfl
              · exact ⟨1, 0, 0, 0, true, by simp [spec_StAct.f, spec_StAct.j0, spec_StAct.j1, spec_l03Place.f, spec_l03Word.f, spec_l03Load.f, hz, hu1], by simp [impl_StAct.f, impl_StAct.j0, impl_StAct.j1, impl_StAct.j2, impl_top.f, hu2, within, hn]⟩
              · refine ⟨0, 0, 0, 0, false, ?_, ?_⟩
                · simp [spec_StAct.f, spec_StAct.j0, spec_StAct.j1, spec_l03Place.f, spec_l03Word.f, hz, hu1, l01In, hwn, hwi]; omega
                · simp [impl_StAct.f, impl_StAct.j0, impl_StAct.j1, impl_top.f, hu2, within, hwn, hwi, hn]; omega
              · refine ⟨0, 0, 0, 0, false, ?_, ?_⟩
                · simp [spec_StAct.f, spec_StAct.j0, spec_StAct.j1, spec_l03Place.f, spec_l03Word.f, hz, hu1, l01In, hwn, hwi]; omega
                · simp [impl_StAct.f, impl_StAct.j0, impl_StAct.j1, impl_top.f, hu2, within, hwn, hwi, hn]; omega
        · refine ⟨0, 0, 0, 0, false, ?_, ?_⟩
          · have : pc < 0 ∨ pc > 2 := by omega
            rcases hk with rfl | rfl <;> rcases this with h | h <;> simp [spec_StAct.f, spec_StAct.j0, hz, h] <;> omega
          · have : ¬ (0 ≤ pc ∧ pc ≤ 2) := by omega
            rcases hk with rfl | rfl <;> simp [impl_StAct.f, impl_StAct.j0, impl_top.f, hu2, within, hn, this]
      · refine ⟨0, 0, 0, 0, false, ?_, ?_⟩
        · have : kd < 1 ∨ (¬ kd < 1 ∧ kd > 2) := by omega
          rcases this with h | h <;> simp [spec_StAct.f, spec_StAct.j0, hz, h]
        · have : ¬ (1 ≤ kd ∧ kd ≤ 2) := by omega
          simp [impl_StAct.f, impl_StAct.j0, impl_top.f, hu2, within, hn, this]
    · have hz : spec_l03Size.f n = some false := by
        unfold spec_l03Size.f
        split
        · rw [decide_eq_false (by omega)]
        · rfl
      exact ⟨0, 0, 0, 0, false, by simp [spec_StAct.f, spec_StAct.j0, hz], by simp [impl_StAct.f, impl_StAct.j0, impl_top.f, hu2, within, hn]⟩


theorem FnExactStAct : laws_FnExactStAct.Pure := by
  intro n kd a x pc p c w r v done _ ⟨_, _, _, _, _, _, hw, _, _, _⟩
  refine ⟨5, ?_⟩
  obtain ⟨q0, q1, q2, q3, q4, h1, h2⟩ := StAct_both 0 n kd a x pc p c w r v done (i64r hw).2
  unfold laws_FnExactStAct.f laws_toCall.f
  simp only [Option.bind_some]
  rw [h1, h2]
  simp [laws_eqAct.f]

end Go.Proofs.Ytfahmmlkcmadeaa.Pure
