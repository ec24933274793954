/- The law FnExactDo answers true whatever its arguments hold: the program's function and the reference's come to the same, and no list of an answer is shared. No condition. -/
import Derived.Test.YtgmnnkodcmmfdaaPFnExactDox3
namespace Go.Proofs.Ytgmnnkodcmmfdaa.Pure
open Go.RowKit Go.Proofs.Ytgmnnkodcmmfdaa.PFnExactDo Go.Proofs.YtgmnnkodcmmfdaaW.PrintWords Go.Proofs.YtgmnnkodcmmfdaaW.PrintLast
set_option linter.unusedSimpArgs false
set_option linter.unusedVariables false

/-! Small facts. -/
theorem w64 {x : Int} (h0 : -9223372036854775808 ≤ x) (h1 : x ≤ 9223372036854775807) : wrap64 x = x := by unfold wrap64; omega
theorem rd_nat (l : List Int) (j : Nat) : rd l (j : Int) = l.getD j 0 := by simp [rd]
/-- The numbers from m on, n of them. -/
def marked (m : Int) (n : Nat) : List Int := (List.range n).map fun (i : Nat) => m + (i : Int)
theorem marked_len (m : Int) (n : Nat) : (marked m n).length = n := by simp [marked]
theorem marked_get (m : Int) (n j : Nat) (h : j < n) : (marked m n).getD j 0 = m + j := by simp [marked, List.getD, h]
theorem neg1 (n : Nat) : ((1 : Int) + (n : Int) < 0) = False := by simp only [eq_iff_iff, iff_false]; omega
theorem neg0 : ((-1 : Int) < 0) = True := by simp
theorem i64r {n : Int} (h : (Lit.int .i64 n).wf = true) : -9223372036854775808 ≤ n ∧ n ≤ 9223372036854775807 := by
  have e1 : IntKind.i64.min = -9223372036854775808 := by decide
  have e2 : IntKind.i64.max = 9223372036854775807 := by decide
  simp only [Lit.wf, Bool.and_eq_true, decide_eq_true_eq, e1, e2] at h
  exact h

theorem within (a lo hi : Int) : impl_within.f a lo hi = some (decide (lo ≤ a ∧ a ≤ hi)) := by
  unfold impl_within.f
  by_cases h : a ≥ lo
  · rw [if_pos h]
    have h' : lo ≤ a := h
    simp [h']
  · rw [if_neg h]
    have h' : ¬ lo ≤ a := h
    simp [h']

/-! Lists of numbers: copied, compared, marked, held. -/
theorem toIntS_go (x0 : List Int) (hx : x0.length ≤ 140737488355328) (d : Nat) : ∀ (k j : Nat) (x3 : List Int), x3.length = x0.length → x0.length - j = d → j ≤ x0.length → d < k → (∀ i, i < j → x3[i]? = x0[i]?) → laws_toIntS.l0 k x0 x3 (j : Int) = some x0 := by
  induction d with
  | zero =>
    intro k j x3 hl hd hj hk he
    obtain ⟨k, rfl⟩ : ∃ m, k = m + 1 := ⟨k - 1, by omega⟩
    simp only [laws_toIntS.l0]
    rw [if_neg (by omega)]
    refine congrArg some (List.ext_getElem? fun i => ?_)
    by_cases hi : i < j
    · exact he i hi
    · rw [List.getElem?_eq_none (by omega), List.getElem?_eq_none (by omega)]
  | succ d ih =>
    intro k j x3 hl hd hj hk he
    obtain ⟨k, rfl⟩ : ∃ m, k = m + 1 := ⟨k - 1, by omega⟩
    simp only [laws_toIntS.l0]
    rw [if_pos (by omega), if_pos (by omega), if_pos (by omega), w64 (by omega) (by omega)]
    refine ih k (j + 1) _ (by simpa using hl) (by omega) (by omega) (by omega) ?_
    intro i hi
    rw [rd_nat, Int.toNat_natCast, List.getElem?_set]
    by_cases hij : j = i
    · subst hij
      rw [if_pos rfl, if_pos (by omega), List.getElem?_eq_getElem (by omega)]
      simp [List.getD, List.getElem?_eq_getElem (show j < x0.length by omega)]
    · rw [if_neg hij]
      exact he i (by omega)
theorem toIntS (k : Nat) (l : List Int) (hl : l.length ≤ 1048576) (hk : l.length < k) : laws_toIntS.f k l = some l := by
  unfold laws_toIntS.f
  rw [if_pos (by omega), if_pos (by omega)]
  exact toIntS_go l (by omega) l.length k 0 _ (by simp) (by omega) (by omega) (by omega) (fun i hi => absurd hi (by omega))
theorem eqIntS_go (x : List Int) (hx : x.length ≤ 140737488355328) (d : Nat) : ∀ (k j : Nat), x.length - j = d → j ≤ x.length → d < k → laws_eqIntS.l0 k x x (j : Int) = some true := by
  induction d with
  | zero =>
    intro k j hd hj hk
    obtain ⟨k, rfl⟩ : ∃ m, k = m + 1 := ⟨k - 1, by omega⟩
    simp only [laws_eqIntS.l0]
    rw [if_neg (by omega)]
  | succ d ih =>
    intro k j hd hj hk
    obtain ⟨k, rfl⟩ : ∃ m, k = m + 1 := ⟨k - 1, by omega⟩
    simp only [laws_eqIntS.l0]
    rw [if_pos (by omega), if_pos (by omega), if_pos (by omega), if_pos trivial, w64 (by omega) (by omega)]
    exact ih k (j + 1) (by omega) (by omega) (by omega)
theorem eqIntS (k : Nat) (l : List Int) (hl : l.length ≤ 140737488355328) (hk : l.length < k) : laws_eqIntS.f k l l = some true := by
  unfold laws_eqIntS.f
  rw [if_pos rfl]
  exact eqIntS_go l hl l.length k 0 (by omega) (by omega) hk

theorem markIntS_go (n : Nat) (hn : n ≤ 140737488355328) (m : Int) (hm0 : 0 ≤ m) (hm : m + n ≤ 140737488355328) (d : Nat) : ∀ (k j : Nat) (x0 : List Int), x0.length = n → n - j = d → j ≤ n → d < k → (∀ i, i < j → x0[i]? = some (m + i)) →
    laws_markIntS.l0 k x0 (m + j) (j : Int) = some (m + n, marked m n) := by
  induction d with
  | zero =>
    intro k j x0 hl hd hj hk he
    obtain ⟨k, rfl⟩ : ∃ m, k = m + 1 := ⟨k - 1, by omega⟩
    simp only [laws_markIntS.l0]
    rw [if_neg (by omega)]
    obtain rfl : j = n := by omega
    refine congrArg some (Prod.ext rfl (List.ext_getElem? fun i => ?_))
    show x0[i]? = (marked m j)[i]?
    by_cases hi : i < j
    · rw [he i hi]; simp [marked, hi]
    · rw [List.getElem?_eq_none (by omega), List.getElem?_eq_none (by rw [marked_len]; omega)]
  | succ d ih =>
    intro k j x0 hl hd hj hk he
    obtain ⟨k, rfl⟩ : ∃ m, k = m + 1 := ⟨k - 1, by omega⟩
    simp only [laws_markIntS.l0]
    rw [if_pos (by omega), if_pos (by omega), w64 (by omega) (by omega), w64 (by omega) (by omega), show m + (j : Int) + 1 = m + ((j + 1 : Nat) : Int) by omega]
    refine ih k (j + 1) _ (by simpa using hl) (by omega) (by omega) (by omega) ?_
    intro i hi
    rw [Int.toNat_natCast, List.getElem?_set]
    by_cases hij : j = i
    · subst hij
      rw [if_pos rfl, if_pos (by omega)]
    · rw [if_neg hij]
      exact he i (by omega)
theorem markIntS (k : Nat) (l : List Int) (m : Int) (hm0 : 0 ≤ m) (hm : m + l.length ≤ 140737488355328) (hk : l.length < k) : laws_markIntS.f k l m = some (m + l.length, marked m l.length) := by
  unfold laws_markIntS.f
  have := markIntS_go l.length (by omega) m hm0 hm l.length k 0 l rfl (by omega) (by omega) hk (fun i hi => absurd hi (by omega))
  simpa using this
theorem heldIntS_go (n : Nat) (m : Int) (hm0 : 0 ≤ m) (hm : m + n ≤ 140737488355328) (d : Nat) : ∀ (k j : Nat), n - j = d → j ≤ n → d < k → laws_heldIntS.l0 k (marked m n) (m + j) (j : Int) = some (m + n) := by
  induction d with
  | zero =>
    intro k j hd hj hk
    obtain ⟨k, rfl⟩ : ∃ m, k = m + 1 := ⟨k - 1, by omega⟩
    simp only [laws_heldIntS.l0, marked_len]
    rw [if_neg (by omega)]
    obtain rfl : j = n := by omega
    rfl
  | succ d ih =>
    intro k j hd hj hk
    obtain ⟨k, rfl⟩ : ∃ m, k = m + 1 := ⟨k - 1, by omega⟩
    simp only [laws_heldIntS.l0, marked_len]
    rw [if_pos (by omega), if_pos (by omega), if_pos (by rw [rd_nat]; exact marked_get m n j (by omega)), w64 (by omega) (by omega), w64 (by omega) (by omega), show m + (j : Int) + 1 = m + ((j + 1 : Nat) : Int) by omega]
    exact ih k (j + 1) (by omega) (by omega) (by omega)
theorem heldIntS (k : Nat) (n : Nat) (m : Int) (hm0 : 0 ≤ m) (hm : m + n ≤ 140737488355328) (hk : n < k) : laws_heldIntS.f k (marked m n) m = some (m + n) := by
  unfold laws_heldIntS.f
  have := heldIntS_go n m hm0 hm n k 0 (by omega) (by omega) hk
  simpa using this

theorem szMem_big (l : List Int) (hl : l.length ≤ maxLen) (h : 1048576 < l.length) : laws_szMem.f l 1048576 = some (-1) := by
  simp only [maxLen] at hl
  unfold laws_szMem.f laws_szIntS.f
  rw [w64 (by omega) (by omega), if_pos (by omega)]
  rfl
theorem szMem_small (l : List Int) (h : l.length ≤ 1048576) : laws_szMem.f l 1048576 = some (1048576 - (l.length : Int)) := by
  unfold laws_szMem.f laws_szIntS.f
  rw [w64 (by omega) (by omega), if_neg (by omega)]
  simp only [Option.bind_some]
  rw [if_neg (by omega)]
theorem toMem (k : Nat) (l : List Int) (hl : l.length ≤ 1048576) (hk : l.length < k) : laws_toMem.f k l = some l := by
  unfold laws_toMem.f
  rw [toIntS k l hl hk]; rfl
theorem eqMem (k : Nat) (l : List Int) (hl : l.length ≤ 1048576) (hk : l.length < k) : laws_eqMem.f k l l = some true := by
  unfold laws_eqMem.f
  rw [eqIntS k l (by omega) hk]; rfl

theorem markMem (k : Nat) (l : List Int) (hl : l.length ≤ 1048576) (hk : l.length < k) : laws_markMem.f k l 1 = some (1 + (l.length : Int), marked 1 l.length) := by
  unfold laws_markMem.f
  rw [markIntS k l 1 (by omega) (by omega) hk]; rfl
theorem heldMem (k n : Nat) (hn : n ≤ 1048576) (hk : n < k) : laws_heldMem.f k (marked 1 n) 1 = some (1 + (n : Int)) := by
  unfold laws_heldMem.f
  rw [heldIntS k n 1 (by omega) (by omega) hk]
  simp only [Option.bind_some]
  rw [if_neg (by omega)]

/-! ActOk. -/
def okB (l : List Int) (kd at_ a b : Int) : Bool := decide (1 ≤ kd ∧ kd ≤ 4 ∧ 0 ≤ at_ ∧ at_ < l.length ∧ l.length ≤ 300 ∧ (kd = 1 → a = 0) ∧ (kd ≠ 3 → b = 0))
theorem spec_ActOk (l : List Int) (kd at_ a b : Int) : spec_ActOk.f l kd at_ a b = some (okB l kd at_ a b) := by
  unfold spec_ActOk.f okB
  repeat' split
  all_goals (refine congrArg some ?_; rw [Bool.eq_iff_iff]; simp only [beq_iff_eq, decide_eq_true_eq, Bool.false_eq_true, true_iff, false_iff]; omega)
theorem impl_ActOk (l : List Int) (hl : l.length ≤ 1048576) (kd at_ a b : Int) : impl_ActOk.f l kd at_ a b = some (okB l kd at_ a b) := by
  unfold impl_ActOk.f okB
  rw [w64 (by omega) (by omega)]
  simp only [within, Option.bind_some, decide_eq_true_eq]
  repeat' split
  all_goals (refine congrArg some ?_; rw [Bool.eq_iff_iff]; simp only [beq_iff_eq, decide_eq_true_eq, Bool.false_eq_true, true_iff, false_iff]; omega)


theorem Do_both (l : List Int) (hl : l.length ≤ 1048576) (kd a x y : Int) : ∃ (r : List Int) (t : Int) (q : Bool), r.length ≤ 1048576 ∧ spec_Do.f l kd a x y = some (r, t, q) ∧ impl_Do.f l kd a x y = some (r, t, q) := by
  have sc : spec_l02Copy.f l = some l := by
    unfold spec_l02Copy.f
    simp only [Option.bind_some]
    rw [if_pos (by rw [List.length_nil]; omega)]; rfl
  have ic : impl_copyMem.f l = some l := by
    unfold impl_copyMem.f impl_copyInts.f
    rw [if_pos (by rw [List.length_nil]; omega)]; rfl
  by_cases hb : okB l kd a x y = true
  · have h := hb
    unfold okB at h
    rw [decide_eq_true_eq] at h
    obtain ⟨k1, k2, a0, a1, _⟩ := h
    have hk : kd = 1 ∨ kd = 2 ∨ kd = 3 ∨ kd = 4 := by omega
    rcases hk with rfl | rfl | rfl | rfl
    · refine ⟨l, rd l a, true, hl, ?_, ?_⟩
      · unfold spec_Do.f
        rw [spec_ActOk, hb]
        simp only [Option.bind_some, if_true]
        rw [sc]
        simp only [Option.bind_some]
        rw [if_pos a0, if_pos a1, if_neg (by omega), if_neg (by omega), if_neg (by omega)]
      · unfold impl_Do.f
        rw [impl_ActOk l hl, hb]
        simp only [Option.bind_some, if_true]
        rw [ic]
        simp only [Option.bind_some]
        rw [if_pos a0, if_pos a1]
    · refine ⟨l.set a.toNat x, 0, true, by rw [List.length_set]; exact hl, ?_, ?_⟩
      · unfold spec_Do.f
        rw [spec_ActOk, hb]
        simp only [Option.bind_some, if_true]
        rw [sc]
        simp only [Option.bind_some]
        rw [if_pos a0, if_pos a1, if_pos a1]
      · unfold impl_Do.f
        rw [impl_ActOk l hl, hb]
        simp only [Option.bind_some, if_true]
        rw [ic]
        simp only [Option.bind_some]
        rw [if_pos a0, if_pos a1, if_neg (by omega), if_pos a1]
    · by_cases hx : rd l a = x
      · refine ⟨l.set a.toNat y, 1, true, by rw [List.length_set]; exact hl, ?_, ?_⟩
        · unfold spec_Do.f
          rw [spec_ActOk, hb]
          simp only [Option.bind_some, if_true]
          rw [sc]
          simp only [Option.bind_some]
          rw [if_pos a0, if_pos a1, if_neg (by omega), if_pos hx, if_pos a1]
        · unfold impl_Do.f
          rw [impl_ActOk l hl, hb]
          simp only [Option.bind_some, if_true]
          rw [ic]
          simp only [Option.bind_some]
          rw [if_pos a0, if_pos a1, if_neg (by omega), if_neg (by omega), if_pos hx, if_pos a1]
      · refine ⟨l, 0, true, hl, ?_, ?_⟩
        · unfold spec_Do.f
          rw [spec_ActOk, hb]
          simp only [Option.bind_some, if_true]
          rw [sc]
          simp only [Option.bind_some]
          rw [if_pos a0, if_pos a1, if_neg (by omega), if_neg hx]
        · unfold impl_Do.f
          rw [impl_ActOk l hl, hb]
          simp only [Option.bind_some, if_true]
          rw [ic]
          simp only [Option.bind_some]
          rw [if_pos a0, if_pos a1, if_neg (by omega), if_neg (by omega), if_neg hx]
    · refine ⟨l.set a.toNat (wrap64 (rd l a + x)), wrap64 (rd l a + x), true, by rw [List.length_set]; exact hl, ?_, ?_⟩
      · unfold spec_Do.f
        rw [spec_ActOk, hb]
        simp only [Option.bind_some, if_true]
        rw [sc]
        simp only [Option.bind_some]
        rw [if_pos a0, if_pos a1, if_neg (by omega), if_neg (by omega), if_pos a1]
      · unfold impl_Do.f
        rw [impl_ActOk l hl, hb]
        simp only [Option.bind_some, if_true]
        rw [ic]
        simp only [Option.bind_some]
        rw [if_pos a0, if_pos a1, if_neg (by omega), if_neg (by omega), if_neg (by omega), if_pos a1]
  · have hb' : okB l kd a x y = false := by simpa using hb
    refine ⟨[], 0, false, by simp, ?_, ?_⟩
    · unfold spec_Do.f
      rw [spec_ActOk, hb']
      simp
    · unfold impl_Do.f
      rw [impl_ActOk l hl, hb']
      simp
theorem FnExactDo : laws_FnExactDo.Pure := by
  intro l kd a x y ⟨hm, _⟩ _
  by_cases hl : l.length ≤ 1048576
  · obtain ⟨r, t, q, hr, hs, hi⟩ := Do_both l hl kd a x y
    obtain ⟨K, hK⟩ : ∃ K : Nat, 1048600 ≤ K := ⟨1048600, Nat.le_refl _⟩
    refine ⟨K + 3, ?_⟩
    unfold laws_FnExactDo.f
    rw [szMem_small l hl]
    simp only [Option.bind_some]
    rw [if_neg (by omega)]
    simp (disch := omega) only [Option.bind_some, toMem, laws_toAct.f, hs, hi, eqMem, bne_self_eq_false, if_true, if_false, ite_self, reduceIte, Bool.false_eq_true]
    simp (disch := omega) only [laws_FnExactDo.j0, Option.bind_some, toMem, laws_toAct.f, hs, hi, eqMem, bne_self_eq_false, markMem, neg1, if_true, if_false, ite_self, reduceIte, Bool.false_eq_true]
    simp (disch := omega) only [laws_FnExactDo.j1, Option.bind_some, toMem, laws_toAct.f, hs, hi, eqMem, bne_self_eq_false, markMem, heldMem, neg1, if_true, if_false, ite_self, reduceIte, Bool.false_eq_true]
    simp (disch := omega) only [laws_FnExactDo.j2, Option.bind_some, heldMem, neg1, if_true, if_false, ite_self, reduceIte, Bool.false_eq_true]
  · refine ⟨0, ?_⟩
    unfold laws_FnExactDo.f
    rw [szMem_big l hm (by omega)]
    simp

end Go.Proofs.Ytgmnnkodcmmfdaa.Pure
