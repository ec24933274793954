/- The law FnExactRiStep answers true whatever its arguments hold: the program's function and the reference's come to the same, and no list of an answer is shared. No condition. -/
import Derived.Test.YtfahmmlkcmadeaaPFnExactRiStepx10
namespace Go.Proofs.Ytfahmmlkcmadeaa.Pure
open Go.RowKit Go.Proofs.Ytfahmmlkcmadeaa.PFnExactRiStep Go.Proofs.YtfahmmlkcmadeaaW.PrintWords Go.Proofs.YtfahmmlkcmadeaaW.PrintLast
set_option linter.unusedSimpArgs false
set_option linter.unusedVariables false

/-! Small facts. -/
theorem w64 {x : Int} (h0 : -9223372036854775808 ≤ x) (h1 : x ≤ 9223372036854775807) : wrap64 x = x := by unfold wrap64; omega
theorem rd_nat (l : List Int) (j : Nat) : rd l (j : Int) = l.getD j 0 := by simp [rd]
/-- The numbers from m on, n of them. -/
def marked (m : Int) (n : Nat) : List Int := (List.range n).map fun (i : Nat) => m + (i : Int)
theorem marked_len (m : Int) (n : Nat) : (marked m n).length = n := by simp [marked]
theorem marked_get (m : Int) (n j : Nat) (h : j < n) : (marked m n).getD j 0 = m + j := by simp [marked, List.getD, h]
theorem neg1 (n : Nat) : ((1 : Int) + (n : Int) < 0) = False := by simp only [eq_iff_iff, iff_false]; omega
theorem neg0 : ((-1 : Int) < 0) = True := by simp
theorem i64r {n : Int} (h : (Lit.int .i64 n).wf = true) : -9223372036854775808 ≤ n ∧ n ≤ 9223372036854775807 := by
  have e1 : IntKind.i64.min = -9223372036854775808 := by decide
  have e2 : IntKind.i64.max = 9223372036854775807 := by decide
  simp only [Lit.wf, Bool.and_eq_true, decide_eq_true_eq, e1, e2] at h
  exact h

theorem within (a lo hi : Int) : impl_within.f a lo hi = some (decide (lo ≤ a ∧ a ≤ hi)) := by
  unfold impl_within.f
  by_cases h : a ≥ lo
  · rw [if_pos h]
    have h' : lo ≤ a := h
    simp [h']
  · rw [if_neg h]
    have h' : ¬ lo ≤ a := h
    simp [h']

/-! Lists of numbers: copied, compared, marked, held. -/
theorem toIntS_go (x0 : List Int) (hx : x0.length ≤ 140737488355328) (d : Nat) : ∀ (k j : Nat) (x3 : List Int), x3.length = x0.length → x0.length - j = d → j ≤ x0.length → d < k → (∀ i, i < j → x3[i]? = x0[i]?) → laws_toIntS.l0 k x0 x3 (j : Int) = some x0 := by
  induction d with
  | zero =>
    intro k j x3 hl hd hj hk he
    obtain ⟨k, rfl⟩ : ∃ m, k = m + 1 := ⟨k - 1, by omega⟩
    simp only [laws_toIntS.l0]
    rw [if_neg (by omega)]
    refine congrArg some (List.ext_getElem? fun i => ?_)
    by_cases hi : i < j
    · exact he i hi
    · rw [List.getElem?_eq_none (by omega), List.getElem?_eq_none (by omega)]
  | succ d ih =>
    intro k j x3 hl hd hj hk he
    obtain ⟨k, rfl⟩ : ∃ m, k = m + 1 := ⟨k - 1, by omega⟩
    simp only [laws_toIntS.l0]
    rw [if_pos (by omega), if_pos (by omega), if_pos (by omega), w64 (by omega) (by omega)]
    refine ih k (j + 1) _ (by simpa using hl) (by omega) (by omega) (by omega) ?_
    intro i hi
    rw [rd_nat, Int.toNat_natCast, List.getElem?_set]
    by_cases hij : j = i
    · subst hij
      rw [if_pos rfl, if_pos (by omega), List.getElem?_eq_getElem (by omega)]
      simp [List.getD, List.getElem?_eq_getElem (show j < x0.length by omega)]
    · rw [if_neg hij]
      exact he i (by omega)
theorem toIntS (k : Nat) (l : List Int) (hl : l.length ≤ 1048576) (hk : l.length < k) : laws_toIntS.f k l = some l := by
  unfold laws_toIntS.f
  rw [if_pos (by omega), if_pos (by omega)]
  exact toIntS_go l (by omega) l.length k 0 _ (by simp) (by omega) (by omega) (by omega) (fun i hi => absurd hi (by omega))
theorem eqIntS_go (x : List Int) (hx : x.length ≤ 140737488355328) (d : Nat) : ∀ (k j : Nat), x.length - j = d → j ≤ x.length → d < k → laws_eqIntS.l0 k x x (j : Int) = some true := by
  induction d with
  | zero =>
    intro k j hd hj hk
    obtain ⟨k, rfl⟩ : ∃ m, k = m + 1 := ⟨k - 1, by omega⟩
    simp only [laws_eqIntS.l0]
    rw [if_neg (by omega)]
  | succ d ih =>
    intro k j hd hj hk
    obtain ⟨k, rfl⟩ : ∃ m, k = m + 1 := ⟨k - 1, by omega⟩
    simp only [laws_eqIntS.l0]
    rw [if_pos (by omega), if_pos (by omega), if_pos (by omega), if_pos trivial, w64 (by omega) (by omega)]
    exact ih k (j + 1) (by omega) (by omega) (by omega)
theorem eqIntS (k : Nat) (l : List Int) (hl : l.length ≤ 140737488355328) (hk : l.length < k) : laws_eqIntS.f k l l = some true := by
  unfold laws_eqIntS.f
  rw [if_pos rfl]
  exact eqIntS_go l hl l.length k 0 (by omega) (by omega) hk

theorem markIntS_go (n : Nat) (hn : n ≤ 140737488355328) (m : Int) (hm0 : 0 ≤ m) (hm : m + n ≤ 140737488355328) (d : Nat) : ∀ (k j : Nat) (x0 : List Int), x0.length = n → n - j = d → j ≤ n → d < k → (∀ i, i < j → x0[i]? = some (m + i)) →
    laws_markIntS.l0 k x0 (m + j) (j : Int) = some (m + n, marked m n) := by
  induction d with
  | zero =>
    intro k j x0 hl hd hj hk he
    obtain ⟨k, rfl⟩ : ∃ m, k = m + 1 := ⟨k - 1, by omega⟩
    simp only [laws_markIntS.l0]
    rw [if_neg (by omega)]
    obtain rfl : j = n := by omega
    refine congrArg some (Prod.ext rfl (List.ext_getElem? fun i => ?_))
    show x0[i]? = (marked m j)[i]?
    by_cases hi : i < j
    · rw [he i hi]; simp [marked, hi]
    · rw [List.getElem?_eq_none (by omega), List.getElem?_eq_none (by rw [marked_len]; omega)]
  | succ d ih =>
    intro k j x0 hl hd hj hk he
    obtain ⟨k, rfl⟩ : ∃ m, k = m + 1 := ⟨k - 1, by omega⟩
    simp only [laws_markIntS.l0]
    rw [if_pos (by omega), if_pos (by omega), w64 (by omega) (by omega), w64 (by omega) (by omega), show m + (j : Int) + 1 = m + ((j + 1 : Nat) : Int) by omega]
    refine ih k (j + 1) _ (by simpa using hl) (by omega) (by omega) (by omega) ?_
    intro i hi
    rw [Int.toNat_natCast, List.getElem?_set]
    by_cases hij : j = i
    · subst hij
      rw [if_pos rfl, if_pos (by omega)]
    · rw [if_neg hij]
      exact he i (by omega)
theorem markIntS (k : Nat) (l : List Int) (m : Int) (hm0 : 0 ≤ m) (hm : m + l.length ≤ 140737488355328) (hk : l.length < k) : laws_markIntS.f k l m = some (m + l.length, marked m l.length) := by
  unfold laws_markIntS.f
  have := markIntS_go l.length (by omega) m hm0 hm l.length k 0 l rfl (by omega) (by omega) hk (fun i hi => absurd hi (by omega))
  simpa using this
theorem heldIntS_go (n : Nat) (m : Int) (hm0 : 0 ≤ m) (hm : m + n ≤ 140737488355328) (d : Nat) : ∀ (k j : Nat), n - j = d → j ≤ n → d < k → laws_heldIntS.l0 k (marked m n) (m + j) (j : Int) = some (m + n) := by
  induction d with
  | zero =>
    intro k j hd hj hk
    obtain ⟨k, rfl⟩ : ∃ m, k = m + 1 := ⟨k - 1, by omega⟩
    simp only [laws_heldIntS.l0, marked_len]
    rw [if_neg (by omega)]
    obtain rfl : j = n := by omega
    rfl
  | succ d ih =>
    intro k j hd hj hk
    obtain ⟨k, rfl⟩ : ∃ m, k = m + 1 := ⟨k - 1, by omega⟩
    simp only [laws_heldIntS.l0, marked_len]
    rw [if_pos (by omega), if_pos (by omega), if_pos (by rw [rd_nat]; exact marked_get m n j (by omega)), w64 (by omega) (by omega), w64 (by omega) (by omega), show m + (j : Int) + 1 = m + ((j + 1 : Nat) : Int) by omega]
    exact ih k (j + 1) (by omega) (by omega) (by omega)
theorem heldIntS (k : Nat) (n : Nat) (m : Int) (hm0 : 0 ≤ m) (hm : m + n ≤ 140737488355328) (hk : n < k) : laws_heldIntS.f k (marked m n) m = some (m + n) := by
  unfold laws_heldIntS.f
  have := heldIntS_go n m hm0 hm n k 0 (by omega) (by omega) hk
  simpa using this

theorem szMem_big (l : List Int) (hl : l.length ≤ maxLen) (h : 1048576 < l.length) : laws_szMem.f l 1048576 = some (-1) := by
  simp only [maxLen] at hl
  unfold laws_szMem.f laws_szIntS.f
  rw [w64 (by omega) (by omega), if_pos (by omega)]
  rfl
theorem szMem_small (l : List Int) (h : l.length ≤ 1048576) : laws_szMem.f l 1048576 = some (1048576 - (l.length : Int)) := by
  unfold laws_szMem.f laws_szIntS.f
  rw [w64 (by omega) (by omega), if_neg (by omega)]
  simp only [Option.bind_some]
  rw [if_neg (by omega)]
theorem toMem (k : Nat) (l : List Int) (hl : l.length ≤ 1048576) (hk : l.length < k) : laws_toMem.f k l = some l := by
  unfold laws_toMem.f
  rw [toIntS k l hl hk]; rfl
theorem eqMem (k : Nat) (l : List Int) (hl : l.length ≤ 1048576) (hk : l.length < k) : laws_eqMem.f k l l = some true := by
  unfold laws_eqMem.f
  rw [eqIntS k l (by omega) hk]; rfl

theorem markMem (k : Nat) (l : List Int) (hl : l.length ≤ 1048576) (hk : l.length < k) : laws_markMem.f k l 1 = some (1 + (l.length : Int), marked 1 l.length) := by
  unfold laws_markMem.f
  rw [markIntS k l 1 (by omega) (by omega) hk]; rfl
theorem heldMem (k n : Nat) (hn : n ≤ 1048576) (hk : n < k) : laws_heldMem.f k (marked 1 n) 1 = some (1 + (n : Int)) := by
  unfold laws_heldMem.f
  rw [heldIntS k n 1 (by omega) (by omega) hk]
  simp only [Option.bind_some]
  rw [if_neg (by omega)]

theorem modB (n m : Int) (hm : 1 ≤ m) (hm2 : m ≤ 1000) (hn : -9223372036854775808 ≤ n) (hn2 : n ≤ 9223372036854775807) : spec_Mod.f n m = some (n % m) ∧ impl_Mod.f n m = some (n % m) := by
  have h0 : 0 ≤ n % m := Int.emod_nonneg _ (by omega)
  have h1 : n % m < m := Int.emod_lt_of_pos _ (by omega)
  have key : (if Int.tmod n m < 0 then (some (wrap64 (Int.tmod n m + m))) else some (Int.tmod n m)) = some (n % m) := by
    rw [Int.tmod_eq_emod]
    by_cases h : 0 ≤ n ∨ m ∣ n
    · rw [if_pos h, show ((0 : Nat) : Int) = 0 from rfl, Int.sub_zero, if_neg (by omega)]
    · rw [if_neg h, show ((m.natAbs : Nat) : Int) = m by omega, if_pos (by omega), w64 (by omega) (by omega), show n % m - m + m = n % m by omega]
  constructor
  · unfold spec_Mod.f
    rw [if_neg (by omega), if_neg (by omega), key]
  · unfold impl_Mod.f
    rw [if_neg (by omega), if_neg (by omega), key]

/-! RiAct: both come to the same. -/
theorem RiAct_both (k : Nat) (n kd a x pc p c w r v : Int) (done : Bool) (hp0 : -9223372036854775808 ≤ p) (hp1 : p ≤ 9223372036854775807) :
    ∃ q0 q1 q2 q3 q4, spec_RiAct.f (k + 5) n kd a x pc p c w r v done = some (q0, q1, q2, q3, q4) ∧ impl_RiAct.f (k + 5) n kd a x pc p c w r v done = some (q0, q1, q2, q3, q4) := by
  by_cases hd : done = true
  · subst hd
    exact ⟨0, 0, 0, 0, false, by simp [spec_RiAct.f, spec_RiAct.j0], by simp [impl_RiAct.f, impl_RiAct.j0]⟩
  · obtain rfl : done = false := by simpa using hd
    by_cases hn : 2 ≤ n ∧ n ≤ 16
    · have hz : spec_l04Size.f n = some true := by unfold spec_l04Size.f; rw [if_pos (by omega), decide_eq_true hn.2]
      by_cases hk : kd = 1 ∨ kd = 2
      · by_cases hp : pc = 0 ∨ pc = 1 ∨ pc = 2 ∨ pc = 3 ∨ pc = 4
        · obtain ⟨hm1, hm2⟩ := modB p n (by omega) (by omega) hp0 hp1
          have m0 : 0 ≤ p % n := Int.emod_nonneg _ (by omega)
          have m1 : p % n < n := Int.emod_lt_of_pos _ (by omega)
          have e1 : wrap64 (2 * (p % n)) = 2 * (p % n) := w64 (by omega) (by omega)
          have e2 : wrap64 (2 + 2 * (p % n)) = 2 + 2 * (p % n) := w64 (by omega) (by omega)
          have e3 : wrap64 (2 + 2 * (p % n) + 1) = 2 + 2 * (p % n) + 1 := w64 (by omega) (by omega)
          have c0 : wrap64 (1 - 1) = 0 := by decide +kernel
          have c1 : wrap64 (2 - 1) = 1 := by decide +kernel
          have d0 : wrap64 (wrap64 (10 * 1) + 0) = 10 := by decide +kernel
          have d1 : wrap64 (wrap64 (10 * 1) + 1) = 11 := by decide +kernel
          have d2 : wrap64 (wrap64 (10 * 1) + 2) = 12 := by decide +kernel
          have d3 : wrap64 (wrap64 (10 * 1) + 3) = 13 := by decide +kernel
          have d4 : wrap64 (wrap64 (10 * 1) + 4) = 14 := by decide +kernel
          have f0 : wrap64 (wrap64 (10 * 2) + 0) = 20 := by decide +kernel
          have f1 : wrap64 (wrap64 (10 * 2) + 1) = 21 := by decide +kernel
          have f2 : wrap64 (wrap64 (10 * 2) + 2) = 22 := by decide +kernel
          have f3 : wrap64 (wrap64 (10 * 2) + 3) = 23 := by decide +kernel
          have f4 : wrap64 (wrap64 (10 * 2) + 4) = 24 := by decide +kernel
          rcases hk with rfl | rfl <;> rcases hp with rfl | rfl | rfl | rfl | rfl <;>
            exact ⟨_, _, _, _, _, by simp only [spec_RiAct.f, spec_RiAct.j0, spec_RiAct.j1, spec_RiAct.j2, spec_RiAct.j3, spec_l03Load.f, spec_l03Store.f, spec_l03Cas.f, spec_l04Seq.f, hz, hm1, Option.bind_some, d0, d1, d2, d3, d4, f0, f1, f2, f3, f4, c0, c1, e1, e2, e3]; rfl,
              by simp only [impl_RiAct.f, impl_RiAct.j0, impl_RiAct.j1, within, hm2, Option.bind_some, c0, c1, e1, e2, e3, decide_eq_true hn]; rfl⟩
        · refine ⟨0, 0, 0, 0, false, ?_, ?_⟩
          · have : pc < 0 ∨ (¬ pc < 0 ∧ pc > 4) := by omega
            rcases hk with rfl | rfl <;> rcases this with h | h <;> simp [spec_RiAct.f, spec_RiAct.j0, hz, h]
          · have : ¬ (0 ≤ pc ∧ pc ≤ 4) := by omega
            rcases hk with rfl | rfl <;> simp [impl_RiAct.f, impl_RiAct.j0, within, hn, this]
      · refine ⟨0, 0, 0, 0, false, ?_, ?_⟩
        · have : kd < 1 ∨ (¬ kd < 1 ∧ kd > 2) := by omega
          rcases this with h | h <;> simp [spec_RiAct.f, spec_RiAct.j0, hz, h]
        · have : ¬ (1 ≤ kd ∧ kd ≤ 2) := by omega
          simp [impl_RiAct.f, impl_RiAct.j0, within, hn, this]
    · have hz : spec_l04Size.f n = some false := by
        unfold spec_l04Size.f
        split
        · rw [decide_eq_false (by omega)]
        · rfl
      exact ⟨0, 0, 0, 0, false, by simp [spec_RiAct.f, spec_RiAct.j0, hz], by simp [impl_RiAct.f, impl_RiAct.j0, within, hn]⟩

/-! ActOk. -/
def okB (l : List Int) (kd at_ a b : Int) : Bool := decide (1 ≤ kd ∧ kd ≤ 4 ∧ 0 ≤ at_ ∧ at_ < l.length ∧ l.length ≤ 300 ∧ (kd = 1 → a = 0) ∧ (kd ≠ 3 → b = 0))
theorem spec_ActOk (l : List Int) (kd at_ a b : Int) : spec_ActOk.f l kd at_ a b = some (okB l kd at_ a b) := by
  unfold spec_ActOk.f okB
  repeat' split
  all_goals (refine congrArg some ?_; rw [Bool.eq_iff_iff]; simp only [beq_iff_eq, decide_eq_true_eq, Bool.false_eq_true, true_iff, false_iff]; omega)
theorem impl_ActOk (l : List Int) (hl : l.length ≤ 1048576) (kd at_ a b : Int) : impl_ActOk.f l kd at_ a b = some (okB l kd at_ a b) := by
  unfold impl_ActOk.f okB
  rw [w64 (by omega) (by omega)]
  simp only [within, Option.bind_some, decide_eq_true_eq]
  repeat' split
  all_goals (refine congrArg some ?_; rw [Bool.eq_iff_iff]; simp only [beq_iff_eq, decide_eq_true_eq, Bool.false_eq_true, true_iff, false_iff]; omega)

/-! Do: both come to the same. -/
theorem Do_both (l : List Int) (hl : l.length ≤ 1048576) (kd a x y : Int) : ∃ (r : List Int) (t : Int) (q : Bool), r.length ≤ 1048576 ∧ spec_Do.f l kd a x y = some (r, t, q) ∧ impl_Do.f l kd a x y = some (r, t, q) := by
  have sc : spec_l02Copy.f l = some l := by
    unfold spec_l02Copy.f
    simp only [Option.bind_some]
    rw [if_pos (by rw [List.length_nil]; omega)]; rfl
  have ic : impl_copyMem.f l = some l := by
    unfold impl_copyMem.f impl_copyInts.f
    rw [if_pos (by rw [List.length_nil]; omega)]; rfl
  by_cases hb : okB l kd a x y = true
  · have h := hb
    unfold okB at h
    rw [decide_eq_true_eq] at h
    obtain ⟨k1, k2, a0, a1, _⟩ := h
    have hk : kd = 1 ∨ kd = 2 ∨ kd = 3 ∨ kd = 4 := by omega
    rcases hk with rfl | rfl | rfl | rfl
    · refine ⟨l, rd l a, true, hl, ?_, ?_⟩
      · unfold spec_Do.f
        rw [spec_ActOk, hb]
        simp only [Option.bind_some, if_true]
        rw [sc]
        simp only [Option.bind_some]
        rw [if_pos a0, if_pos a1, if_neg (by omega), if_neg (by omega), if_neg (by omega)]
      · unfold impl_Do.f
        rw [impl_ActOk l hl, hb]
        simp only [Option.bind_some, if_true]
        rw [ic]
        simp only [Option.bind_some]
        rw [if_pos a0, if_pos a1]
    · refine ⟨l.set a.toNat x, 0, true, by rw [List.length_set]; exact hl, ?_, ?_⟩
      · unfold spec_Do.f
        rw [spec_ActOk, hb]
        simp only [Option.bind_some, if_true]
        rw [sc]
        simp only [Option.bind_some]
        rw [if_pos a0, if_pos a1, if_pos a1]
      · unfold impl_Do.f
        rw [impl_ActOk l hl, hb]
        simp only [Option.bind_some, if_true]
        rw [ic]
        simp only [Option.bind_some]
        rw [if_pos a0, if_pos a1, if_neg (by omega), if_pos a1]
    · by_cases hx : rd l a = x
      · refine ⟨l.set a.toNat y, 1, true, by rw [List.length_set]; exact hl, ?_, ?_⟩
        · unfold spec_Do.f
          rw [spec_ActOk, hb]
          simp only [Option.bind_some, if_true]
          rw [sc]
          simp only [Option.bind_some]
          rw [if_pos a0, if_pos a1, if_neg (by omega), if_pos hx, if_pos a1]
        · unfold impl_Do.f
          rw [impl_ActOk l hl, hb]
          simp only [Option.bind_some, if_true]
          rw [ic]
          simp only [Option.bind_some]
          rw [if_pos a0, if_pos a1, if_neg (by omega), if_neg (by omega), if_pos hx, if_pos a1]
      · refine ⟨l, 0, true, hl, ?_, ?_⟩
        · unfold spec_Do.f
          rw [spec_ActOk, hb]
          simp only [Option.bind_some, if_true]
          rw [sc]
          simp only [Option.bind_some]
          rw [if_pos a0, if_pos a1, if_neg (by omega), if_neg hx]
        · unfold impl_Do.f
          rw [impl_ActOk l hl, hb]
          simp only [Option.bind_some, if_true]
          rw [ic]
          simp only [Option.bind_some]
          rw [if_pos a0, if_pos a1, if_neg (by omega), if_neg (by omega), if_neg hx]
    · refine ⟨l.set a.toNat (wrap64 (rd l a + x)), wrap64 (rd l a + x), true, by rw [List.length_set]; exact hl, ?_, ?_⟩
      · unfold spec_Do.f
        rw [spec_ActOk, hb]
        simp only [Option.bind_some, if_true]
        rw [sc]
        simp only [Option.bind_some]
        rw [if_pos a0, if_pos a1, if_neg (by omega), if_neg (by omega), if_pos a1]
      · unfold impl_Do.f
        rw [impl_ActOk l hl, hb]
        simp only [Option.bind_some, if_true]
        rw [ic]
        simp only [Option.bind_some]
        rw [if_pos a0, if_pos a1, if_neg (by omega), if_neg (by omega), if_neg (by omega), if_pos a1]
  · have hb' : okB l kd a x y = false := by simpa using hb
    refine ⟨[], 0, false, by simp, ?_, ?_⟩
    · unfold spec_Do.f
      rw [spec_ActOk, hb']
      simp
    · unfold impl_Do.f
      rw [impl_ActOk l hl, hb']
      simp
theorem rd_le (l : List Int) (B : Int) (hB : 0 ≤ B) (h : ∀ y ∈ l, y ≤ B) (i : Int) : rd l i ≤ B := by
  unfold rd
  rw [List.getD_eq_getElem?_getD]
  cases e : l[i.toNat]? with
  | none => simpa using hB
  | some y => simpa using h y (List.mem_of_getElem? e)
theorem wrap_le (x : Int) : wrap64 x ≤ 9223372036854775807 := by unfold wrap64; omega
/-- What Do tells: a word, and of a CAS 0 or 1. -/
theorem Do_told (l : List Int) (hl : l.length ≤ 1048576) (hw : ∀ y ∈ l, y ≤ 9223372036854775807) (kd a x y : Int) (r : List Int) (t : Int) (q : Bool) (h : impl_Do.f l kd a x y = some (r, t, q)) : t ≤ 9223372036854775807 ∧ (kd = 3 → t = 0 ∨ t = 1) := by
  have ic : impl_copyMem.f l = some l := by
    unfold impl_copyMem.f impl_copyInts.f
    rw [if_pos (by rw [List.length_nil]; omega)]; rfl
  have hr : rd l a ≤ 9223372036854775807 := rd_le l _ (by omega) hw a
  have hz := wrap_le (rd l a + x)
  unfold impl_Do.f at h
  rw [impl_ActOk l hl, ic] at h
  simp only [Option.bind_some] at h
  by_cases c0 : okB l kd a x y = true
  · rw [if_pos c0] at h
    by_cases c1 : 0 ≤ a
    · rw [if_pos c1] at h
      by_cases c2 : a < (l.length : Int)
      · rw [if_pos c2] at h
        by_cases k1 : kd = 1
        · rw [if_pos k1] at h
          injection h with h; injection h with h1 h2; injection h2 with h2 h3
          subst h2; exact ⟨hr, fun z => by omega⟩
        · rw [if_neg k1] at h
          by_cases k2 : kd = 2
          · rw [if_pos k2, if_pos c2] at h
            injection h with h; injection h with h1 h2; injection h2 with h2 h3
            subst h2; exact ⟨by omega, fun z => by omega⟩
          · rw [if_neg k2] at h
            by_cases k3 : kd = 3
            · rw [if_pos k3] at h
              by_cases c3 : rd l a = x
              · rw [if_pos c3, if_pos c2] at h
                injection h with h; injection h with h1 h2; injection h2 with h2 h3
                subst h2; exact ⟨by omega, fun _ => Or.inr rfl⟩
              · rw [if_neg c3] at h
                injection h with h; injection h with h1 h2; injection h2 with h2 h3
                subst h2; exact ⟨by omega, fun _ => Or.inl rfl⟩
            · rw [if_neg k3, if_pos c2] at h
              injection h with h; injection h with h1 h2; injection h2 with h2 h3
              subst h2; exact ⟨hz, fun z => absurd z k3⟩
      · rw [if_neg c2] at h; cases h
    · rw [if_neg c1] at h; cases h
  · rw [if_neg c0] at h
    injection h with h; injection h with h1 h2; injection h2 with h2 h3
    subst h2; exact ⟨by omega, fun _ => Or.inl rfl⟩


theorem eqCall_refl (a b c d e f g h i : Int) (j : Bool) : laws_eqCall.f a b c d e f g h i j a b c d e f g h i j = some true := by
  simp [laws_eqCall.f]
theorem RiStep_both (n : Int) (l : List Int) (hl : l.length ≤ 1048576) (kd a x pc p c w r v : Int) (done : Bool) (hp0 : -9223372036854775808 ≤ p) (hp1 : p ≤ 9223372036854775807) :
    ∃ (m : List Int) (r1 r2 r3 r4 r5 r6 r7 r8 r9 : Int) (r10 r11 : Bool), m.length ≤ 1048576 ∧ ∀ k, 30 ≤ k → spec_RiStep.f k n l kd a x pc p c w r v done = some (m, r1, r2, r3, r4, r5, r6, r7, r8, r9, r10, r11) ∧ impl_RiStep.f k n l kd a x pc p c w r v done = some (m, r1, r2, r3, r4, r5, r6, r7, r8, r9, r10, r11) := by
  obtain ⟨q0, q1, q2, q3, q4, h1, h2⟩ := RiAct_both 0 n kd a x pc p c w r v done hp0 hp1
  have s1 : ∀ k, 5 ≤ k → spec_RiAct.f k n kd a x pc p c w r v done = some (q0, q1, q2, q3, q4) := fun k hk => at_rounds (g := fun k => spec_RiAct.f k n kd a x pc p c w r v done) (fun k => spec_RiAct.mono n kd a x pc p c w r v done k) hk h1
  have i1 : ∀ k, 5 ≤ k → impl_RiAct.f k n kd a x pc p c w r v done = some (q0, q1, q2, q3, q4) := fun k hk => at_rounds (g := fun k => impl_RiAct.f k n kd a x pc p c w r v done) (fun k => impl_RiAct.mono n kd a x pc p c w r v done k) hk h2
  obtain ⟨m, t, q, hm, hs, hi⟩ := Do_both l hl q0 q1 q2 q3
  by_cases ok : q4 = true
  · subst ok
    by_cases hq : q = true
    · subst hq
      by_cases hlen : (l.length : Int) = wrap64 (2 + wrap64 (2 * n))
      · have hb : ((l.length : Int) != wrap64 (2 + wrap64 (2 * n))) = false := by simp [hlen]
        have key : ∃ (r1 r2 r3 r4 r5 r6 r7 r8 r9 : Int) (r10 r11 : Bool), ∀ k, spec_RiStep.j0 (k + 10) t false kd a x pc p c w r v done m = some (m, r1, r2, r3, r4, r5, r6, r7, r8, r9, r10, r11) ∧ impl_RiStep.j0 (k + 10) false l kd a x pc p c w r v done q0 q1 q2 q3 = some (m, r1, r2, r3, r4, r5, r6, r7, r8, r9, r10, r11) := by
          have h10 : ¬ ((1 : Int) = 0) := by decide
          have h11 : ((1 : Int) = 1) = True := by simp
          by_cases p0 : pc = 0
          · refine ⟨kd, a, x, wrap64 (pc + 1), t, c, w, r, v, done, true, fun k => ⟨?_, ?_⟩⟩
            rotate_left
            · simp only [impl_RiStep.j0, impl_RiStep.j1, impl_RiStep.j2, impl_RiStep.j3, impl_Call_end.f, hi, p0, Option.bind_some, Bool.false_eq_true, if_false, if_true]
            · simp only [spec_RiStep.j0, spec_RiStep.j1, spec_RiStep.j2, spec_RiStep.j3, spec_l04Seen.f, spec_l04Seen.j0, spec_l04Seen.j1, spec_l03End.f, p0, Option.bind_some, Bool.false_eq_true, if_false, if_true]
          · by_cases p1 : pc = 1
            · subst p1
              by_cases hk2 : kd = 2
              · subst hk2
                generalize hd : wrap64 (t - wrap64 (p + 1)) = d
                by_cases d0 : d < 0
                · refine ⟨2, a, x, wrap64 (1 + 1), p, t, w, 2, v, true, true, fun k => ⟨?_, ?_⟩⟩
                  rotate_left
                  · simp only [impl_RiStep.j0, impl_RiStep.j1, impl_RiStep.j2, impl_RiStep.j3, impl_Call_end.f, hi, d0, hd, show ((2 : Int) == 1) = false by decide, hd, h10, h11, Option.bind_some, Bool.false_eq_true, if_false, if_true]
                  · simp only [spec_RiStep.j0, spec_RiStep.j1, spec_RiStep.j2, spec_RiStep.j3, spec_l04Seen.f, spec_l04Seen.j0, spec_l04Seen.j1, spec_l03End.f, d0, hd, show ((2 : Int) == 1) = false by decide, hd, h10, h11, Option.bind_some, Bool.false_eq_true, if_false, if_true]
                · by_cases d1 : d > 0
                  · refine ⟨2, a, x, 0, p, t, w, r, v, done, true, fun k => ⟨?_, ?_⟩⟩
                    rotate_left
                    · simp only [impl_RiStep.j0, impl_RiStep.j1, impl_RiStep.j2, impl_RiStep.j3, impl_Call_end.f, hi, d0, hd, hd, h10, h11, d1, Option.bind_some, Bool.false_eq_true, if_false, if_true]
                    · simp only [spec_RiStep.j0, spec_RiStep.j1, spec_RiStep.j2, spec_RiStep.j3, spec_l04Seen.f, spec_l04Seen.j0, spec_l04Seen.j1, spec_l03End.f, d0, hd, hd, h10, h11, d1, Option.bind_some, Bool.false_eq_true, if_false, if_true]
                  · refine ⟨2, a, x, wrap64 (1 + 1), p, t, w, r, v, done, true, fun k => ⟨?_, ?_⟩⟩
                    rotate_left
                    · simp only [impl_RiStep.j0, impl_RiStep.j1, impl_RiStep.j2, impl_RiStep.j3, impl_Call_end.f, hi, d0, hd, hd, h10, h11, d1, Option.bind_some, Bool.false_eq_true, if_false, if_true]
                    · simp only [spec_RiStep.j0, spec_RiStep.j1, spec_RiStep.j2, spec_RiStep.j3, spec_l04Seen.f, spec_l04Seen.j0, spec_l04Seen.j1, spec_l03End.f, d0, hd, hd, h10, h11, d1, Option.bind_some, Bool.false_eq_true, if_false, if_true]
              · by_cases hk1_ : kd = 1
                · subst hk1_
                  generalize hd : wrap64 (t - p) = d
                  by_cases d0 : d < 0
                  · refine ⟨1, a, x, wrap64 (1 + 1), p, t, w, 3, v, true, true, fun k => ⟨?_, ?_⟩⟩
                    rotate_left
                    · simp only [impl_RiStep.j0, impl_RiStep.j1, impl_RiStep.j2, impl_RiStep.j3, impl_Call_end.f, hi, d0, hd, show ((1 : Int) == 1) = true by decide, show ¬ ((1 : Int) = 2) by decide, h10, h11, Option.bind_some, Bool.false_eq_true, if_false, if_true]
                    · simp only [spec_RiStep.j0, spec_RiStep.j1, spec_RiStep.j2, spec_RiStep.j3, spec_l04Seen.f, spec_l04Seen.j0, spec_l04Seen.j1, spec_l03End.f, d0, hd, show ((1 : Int) == 1) = true by decide, show ¬ ((1 : Int) = 2) by decide, h10, h11, Option.bind_some, Bool.false_eq_true, if_false, if_true]
                  · by_cases d1 : d > 0
                    · refine ⟨1, a, x, 0, p, t, w, r, v, done, true, fun k => ⟨?_, ?_⟩⟩
                      rotate_left
                      · simp only [impl_RiStep.j0, impl_RiStep.j1, impl_RiStep.j2, impl_RiStep.j3, impl_Call_end.f, hi, d0, hd, show ¬ ((1 : Int) = 2) by decide, h10, h11, d1, Option.bind_some, Bool.false_eq_true, if_false, if_true]
                      · simp only [spec_RiStep.j0, spec_RiStep.j1, spec_RiStep.j2, spec_RiStep.j3, spec_l04Seen.f, spec_l04Seen.j0, spec_l04Seen.j1, spec_l03End.f, d0, hd, show ¬ ((1 : Int) = 2) by decide, h10, h11, d1, Option.bind_some, Bool.false_eq_true, if_false, if_true]
                    · refine ⟨1, a, x, wrap64 (1 + 1), p, t, w, r, v, done, true, fun k => ⟨?_, ?_⟩⟩
                      rotate_left
                      · simp only [impl_RiStep.j0, impl_RiStep.j1, impl_RiStep.j2, impl_RiStep.j3, impl_Call_end.f, hi, d0, hd, show ¬ ((1 : Int) = 2) by decide, h10, h11, d1, Option.bind_some, Bool.false_eq_true, if_false, if_true]
                      · simp only [spec_RiStep.j0, spec_RiStep.j1, spec_RiStep.j2, spec_RiStep.j3, spec_l04Seen.f, spec_l04Seen.j0, spec_l04Seen.j1, spec_l03End.f, d0, hd, show ¬ ((1 : Int) = 2) by decide, h10, h11, d1, Option.bind_some, Bool.false_eq_true, if_false, if_true]
                · have hk1 : (kd == 1) = false := by simp [hk1_]
                  generalize hd : wrap64 (t - p) = d
                  by_cases d0 : d < 0
                  · refine ⟨kd, a, x, wrap64 (1 + 1), p, t, w, 2, v, true, true, fun k => ⟨?_, ?_⟩⟩
                    rotate_left
                    · simp only [impl_RiStep.j0, impl_RiStep.j1, impl_RiStep.j2, impl_RiStep.j3, impl_Call_end.f, hi, d0, hd, hk1, hk2, h10, h11, Option.bind_some, Bool.false_eq_true, if_false, if_true]
                    · simp only [spec_RiStep.j0, spec_RiStep.j1, spec_RiStep.j2, spec_RiStep.j3, spec_l04Seen.f, spec_l04Seen.j0, spec_l04Seen.j1, spec_l03End.f, d0, hd, hk1, hk2, h10, h11, Option.bind_some, Bool.false_eq_true, if_false, if_true]
                  · by_cases d1 : d > 0
                    · refine ⟨kd, a, x, 0, p, t, w, r, v, done, true, fun k => ⟨?_, ?_⟩⟩
                      rotate_left
                      · simp only [impl_RiStep.j0, impl_RiStep.j1, impl_RiStep.j2, impl_RiStep.j3, impl_Call_end.f, hi, d0, hd, hk2, h10, h11, d1, Option.bind_some, Bool.false_eq_true, if_false, if_true]
                      · simp only [spec_RiStep.j0, spec_RiStep.j1, spec_RiStep.j2, spec_RiStep.j3, spec_l04Seen.f, spec_l04Seen.j0, spec_l04Seen.j1, spec_l03End.f, d0, hd, hk2, h10, h11, d1, Option.bind_some, Bool.false_eq_true, if_false, if_true]
                    · refine ⟨kd, a, x, wrap64 (1 + 1), p, t, w, r, v, done, true, fun k => ⟨?_, ?_⟩⟩
                      rotate_left
                      · simp only [impl_RiStep.j0, impl_RiStep.j1, impl_RiStep.j2, impl_RiStep.j3, impl_Call_end.f, hi, d0, hd, hk2, h10, h11, d1, Option.bind_some, Bool.false_eq_true, if_false, if_true]
                      · simp only [spec_RiStep.j0, spec_RiStep.j1, spec_RiStep.j2, spec_RiStep.j3, spec_l04Seen.f, spec_l04Seen.j0, spec_l04Seen.j1, spec_l03End.f, d0, hd, hk2, h10, h11, d1, Option.bind_some, Bool.false_eq_true, if_false, if_true]
            · by_cases p2 : pc = 2
              · subst p2
                have h20 : ¬ ((2 : Int) = 0) := by decide
                have h21 : ¬ ((2 : Int) = 1) := by decide
                have h23 : ¬ ((2 : Int) = 3) := by decide
                have h24 : ¬ ((2 : Int) = 4) := by decide
                by_cases t0 : t = 0
                · refine ⟨kd, a, x, 0, p, c, w, r, v, done, true, fun k => ⟨?_, ?_⟩⟩
                  rotate_left
                  · simp only [impl_RiStep.j0, impl_RiStep.j1, impl_RiStep.j2, impl_RiStep.j3, impl_Call_end.f, hi, h20, h21, t0, Option.bind_some, Bool.false_eq_true, if_false, if_true]
                  · simp only [spec_RiStep.j0, spec_RiStep.j1, spec_RiStep.j2, spec_RiStep.j3, spec_l04Seen.f, spec_l04Seen.j0, spec_l04Seen.j1, spec_l03End.f, h20, h21, t0, beq_self_eq_true, Option.bind_some, Bool.false_eq_true, if_false, if_true]
                · have t1 : (t == 0) = false := by simp [t0]
                  refine ⟨kd, a, x, wrap64 (2 + 1), p, c, w, r, v, done, true, fun k => ⟨?_, ?_⟩⟩
                  rotate_left
                  · simp only [impl_RiStep.j0, impl_RiStep.j1, impl_RiStep.j2, impl_RiStep.j3, impl_Call_end.f, hi, h20, h21, t0, Option.bind_some, Bool.false_eq_true, if_false, if_true]
                  · simp only [spec_RiStep.j0, spec_RiStep.j1, spec_RiStep.j2, spec_RiStep.j3, spec_l04Seen.f, spec_l04Seen.j0, spec_l04Seen.j1, spec_l03End.f, h20, h21, h23, h24, t1, Option.bind_some, Bool.false_eq_true, if_false, if_true]
              · by_cases p3 : pc = 3
                · subst p3
                  have h30 : ¬ ((3 : Int) = 0) := by decide
                  have h31 : ¬ ((3 : Int) = 1) := by decide
                  have h32 : ¬ ((3 : Int) = 2) := by decide
                  have h34 : ¬ ((3 : Int) = 4) := by decide
                  by_cases hk2 : kd = 2
                  · refine ⟨kd, a, x, wrap64 (3 + 1), p, c, w, r, t, done, true, fun k => ⟨?_, ?_⟩⟩
                    rotate_left
                    · simp only [impl_RiStep.j0, impl_RiStep.j1, impl_RiStep.j2, impl_RiStep.j3, impl_Call_end.f, hi, h30, h31, h32, hk2, Option.bind_some, Bool.false_eq_true, if_false, if_true]
                    · simp only [spec_RiStep.j0, spec_RiStep.j1, spec_RiStep.j2, spec_RiStep.j3, spec_l04Seen.f, spec_l04Seen.j0, spec_l04Seen.j1, spec_l03End.f, h30, h31, h32, hk2, beq_self_eq_true, Option.bind_some, Bool.false_eq_true, if_false, if_true]
                  · have hk3 : (kd == 2) = false := by simp [hk2]
                    refine ⟨kd, a, x, wrap64 (3 + 1), p, c, w, r, v, done, true, fun k => ⟨?_, ?_⟩⟩
                    rotate_left
                    · simp only [impl_RiStep.j0, impl_RiStep.j1, impl_RiStep.j2, impl_RiStep.j3, impl_Call_end.f, hi, h30, h31, h32, hk2, Option.bind_some, Bool.false_eq_true, if_false, if_true]
                    · simp only [spec_RiStep.j0, spec_RiStep.j1, spec_RiStep.j2, spec_RiStep.j3, spec_l04Seen.f, spec_l04Seen.j0, spec_l04Seen.j1, spec_l03End.f, h30, h31, h32, h34, hk3, Option.bind_some, Bool.false_eq_true, if_false, if_true]
                · by_cases p4 : pc = 4
                  · subst p4
                    have h40 : ¬ ((4 : Int) = 0) := by decide
                    have h41 : ¬ ((4 : Int) = 1) := by decide
                    have h42 : ¬ ((4 : Int) = 2) := by decide
                    have h43 : ¬ ((4 : Int) = 3) := by decide
                    refine ⟨kd, a, x, wrap64 (4 + 1), p, c, w, 1, v, true, true, fun k => ⟨?_, ?_⟩⟩
                    rotate_left
                    · simp only [impl_RiStep.j0, impl_RiStep.j1, impl_RiStep.j2, impl_RiStep.j3, impl_Call_end.f, hi, h40, h41, h42, h43, Option.bind_some, Bool.false_eq_true, if_false, if_true]
                    · simp only [spec_RiStep.j0, spec_RiStep.j1, spec_RiStep.j2, spec_RiStep.j3, spec_l04Seen.f, spec_l04Seen.j0, spec_l04Seen.j1, spec_l03End.f, h40, h41, h42, h43, Option.bind_some, Bool.false_eq_true, if_false, if_true]
                  · refine ⟨kd, a, x, wrap64 (pc + 1), p, c, w, r, v, done, true, fun k => ⟨?_, ?_⟩⟩
                    rotate_left
                    · simp only [impl_RiStep.j0, impl_RiStep.j1, impl_RiStep.j2, impl_RiStep.j3, impl_Call_end.f, hi, p0, p1, p2, p3, p4, Option.bind_some, Bool.false_eq_true, if_false, if_true]
                    · simp only [spec_RiStep.j0, spec_RiStep.j1, spec_RiStep.j2, spec_RiStep.j3, spec_l04Seen.f, spec_l04Seen.j0, spec_l04Seen.j1, spec_l03End.f, p0, p1, p2, p3, p4, Option.bind_some, Bool.false_eq_true, if_false, if_true]
        obtain ⟨r1, r2, r3, r4, r5, r6, r7, r8, r9, r10, r11, hk⟩ := key
        refine ⟨m, r1, r2, r3, r4, r5, r6, r7, r8, r9, r10, r11, hm, fun k hk30 => ?_⟩
        obtain ⟨k, rfl⟩ : ∃ e, k = e + 10 := ⟨k - 10, by omega⟩
        unfold spec_RiStep.f impl_RiStep.f
        rw [s1 _ (by omega), i1 _ (by omega)]
        simp only [Option.bind_some, hs, if_true, hb]
        exact hk k
      · have hb : ((l.length : Int) != wrap64 (2 + wrap64 (2 * n))) = true := by simp [hlen]
        refine ⟨[], 0, 0, 0, 0, 0, 0, 0, 0, 0, false, false, by simp, fun k hk => ?_⟩
        obtain ⟨k, rfl⟩ : ∃ e, k = e + 10 := ⟨k - 10, by omega⟩
        unfold spec_RiStep.f impl_RiStep.f
        rw [s1 _ (by omega), i1 _ (by omega)]
        simp only [Option.bind_some, hs, if_true, hb, spec_RiStep.j0, impl_RiStep.j0, and_self]
    · obtain rfl : q = false := by simpa using hq
      refine ⟨[], 0, 0, 0, 0, 0, 0, 0, 0, 0, false, false, by simp, fun k hk => ?_⟩
      obtain ⟨k, rfl⟩ : ∃ e, k = e + 10 := ⟨k - 10, by omega⟩
      unfold spec_RiStep.f impl_RiStep.f
      rw [s1 _ (by omega), i1 _ (by omega)]
      simp only [Option.bind_some, hs, hi, if_true, if_false, Bool.false_eq_true, spec_RiStep.j0, impl_RiStep.j0, ite_self, and_self]
  · obtain rfl : q4 = false := by simpa using ok
    refine ⟨[], 0, 0, 0, 0, 0, 0, 0, 0, 0, false, false, by simp, fun k hk => ?_⟩
    obtain ⟨k, rfl⟩ : ∃ e, k = e + 10 := ⟨k - 10, by omega⟩
    unfold spec_RiStep.f impl_RiStep.f
    rw [s1 _ (by omega), i1 _ (by omega)]
    simp only [Option.bind_some, hs, if_true, if_false, Bool.false_eq_true, spec_RiStep.j0, impl_RiStep.j0, ite_self, and_self]
theorem FnExactRiStep : laws_FnExactRiStep.Pure := by
  intro n l kd a x pc p c w r v done _ ⟨hm, hB⟩ ⟨_, _, _, _, hp, _⟩
  by_cases hl : l.length ≤ 1048576
  · obtain ⟨m, r1, r2, r3, r4, r5, r6, r7, r8, r9, r10, r11, hml, hk⟩ := RiStep_both n l hl kd a x pc p c w r v done (i64r hp).1 (i64r hp).2
    obtain ⟨K, hK⟩ : ∃ K : Nat, 1048600 ≤ K := ⟨1048600, Nat.le_refl _⟩
    refine Or.inr ⟨K, 1048576 - (l.length : Int), m, marked 1 m.length, marked 1 l.length, r1, r2, r3, r4, r5, r6, r7, r8, r9, r10, r11, 1 + (m.length : Int), 1 + (l.length : Int), szMem_small l hl, by omega, toMem K l hl (by omega), (hk K (by omega)).1, (hk K (by omega)).2, eqMem K m hml (by omega), eqMem K l hl (by omega), eqCall_refl _ _ _ _ _ _ _ _ _ _, markMem K l hl (by omega), by omega, markMem K m hml (by omega), heldMem K m.length hml (by omega), by omega⟩
  · exact Or.inl ⟨-1, szMem_big l hm (by omega), by omega⟩

end Go.Proofs.Ytfahmmlkcmadeaa.Pure
