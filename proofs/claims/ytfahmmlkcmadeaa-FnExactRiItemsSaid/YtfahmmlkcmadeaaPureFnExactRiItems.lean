/- The law FnExactRiItems answers true whatever its arguments hold: the program's function and the reference's come to the same, and no list of an answer is shared. No condition. -/
import Derived.Test.YtfahmmlkcmadeaaPFnExactRiItemsx4
namespace Go.Proofs.Ytfahmmlkcmadeaa.Pure
open Go.RowKit Go.Proofs.Ytfahmmlkcmadeaa.PFnExactRiItems Go.Proofs.YtfahmmlkcmadeaaW.PrintWords Go.Proofs.YtfahmmlkcmadeaaW.PrintLast
set_option linter.unusedSimpArgs false
set_option linter.unusedVariables false

/-! Small facts. -/
theorem w64 {x : Int} (h0 : -9223372036854775808 ≤ x) (h1 : x ≤ 9223372036854775807) : wrap64 x = x := by unfold wrap64; omega
theorem rd_nat (l : List Int) (j : Nat) : rd l (j : Int) = l.getD j 0 := by simp [rd]
/-- The numbers from m on, n of them. -/
def marked (m : Int) (n : Nat) : List Int := (List.range n).map fun (i : Nat) => m + (i : Int)
theorem marked_len (m : Int) (n : Nat) : (marked m n).length = n := by simp [marked]
theorem marked_get (m : Int) (n j : Nat) (h : j < n) : (marked m n).getD j 0 = m + j := by simp [marked, List.getD, h]
theorem neg1 (n : Nat) : ((1 : Int) + (n : Int) < 0) = False := by simp only [eq_iff_iff, iff_false]; omega
theorem neg0 : ((-1 : Int) < 0) = True := by simp
theorem i64r {n : Int} (h : (Lit.int .i64 n).wf = true) : -9223372036854775808 ≤ n ∧ n ≤ 9223372036854775807 := by
  have e1 : IntKind.i64.min = -9223372036854775808 := by decide
  have e2 : IntKind.i64.max = 9223372036854775807 := by decide
  simp only [Lit.wf, Bool.and_eq_true, decide_eq_true_eq, e1, e2] at h
  exact h

theorem within (a lo hi : Int) : impl_within.f a lo hi = some (decide (lo ≤ a ∧ a ≤ hi)) := by
  unfold impl_within.f
  by_cases h : a ≥ lo
  · rw [if_pos h]
    have h' : lo ≤ a := h
    simp [h']
  · rw [if_neg h]
    have h' : ¬ lo ≤ a := h
    simp [h']

theorem l01In (a lo hi : Int) : spec_l01In.f a lo hi = some (decide (lo ≤ a ∧ a ≤ hi)) := by
  unfold spec_l01In.f
  by_cases h : a ≥ lo
  · rw [if_pos h]
    have h' : lo ≤ a := h
    simp [h']
  · rw [if_neg h]
    have h' : ¬ lo ≤ a := h
    simp [h']

theorem modS (n m : Int) (hm : 1 ≤ m) (hm2 : m ≤ 1000) (hn : -9223372036854775808 ≤ n) (hn2 : n ≤ 9223372036854775807) : spec_Mod.f n m = some (n % m) := by
  have h0 : 0 ≤ n % m := Int.emod_nonneg _ (by omega)
  have h1 : n % m < m := Int.emod_lt_of_pos _ (by omega)
  have key : (if Int.tmod n m < 0 then (some (wrap64 (Int.tmod n m + m))) else some (Int.tmod n m)) = some (n % m) := by
    rw [Int.tmod_eq_emod]
    by_cases h : 0 ≤ n ∨ m ∣ n
    · rw [if_pos h, show ((0 : Nat) : Int) = 0 from rfl, Int.sub_zero, if_neg (by omega)]
    · rw [if_neg h, show ((m.natAbs : Nat) : Int) = m by omega, if_pos (by omega), w64 (by omega) (by omega), show n % m - m + m = n % m by omega]
  unfold spec_Mod.f
  rw [if_neg (by omega), if_neg (by omega), key]

/-! Lists of numbers: copied, compared, marked, held. -/
theorem toIntS_go (x0 : List Int) (hx : x0.length ≤ 140737488355328) (d : Nat) : ∀ (k j : Nat) (x3 : List Int), x3.length = x0.length → x0.length - j = d → j ≤ x0.length → d < k → (∀ i, i < j → x3[i]? = x0[i]?) → laws_toIntS.l0 k x0 x3 (j : Int) = some x0 := by
  induction d with
  | zero =>
    intro k j x3 hl hd hj hk he
    obtain ⟨k, rfl⟩ : ∃ m, k = m + 1 := ⟨k - 1, by omega⟩
    simp only [laws_toIntS.l0]
    rw [if_neg (by omega)]
    refine congrArg some (List.ext_getElem? fun i => ?_)
    by_cases hi : i < j
    · exact he i hi
    · rw [List.getElem?_eq_none (by omega), List.getElem?_eq_none (by omega)]
  | succ d ih =>
    intro k j x3 hl hd hj hk he
    obtain ⟨k, rfl⟩ : ∃ m, k = m + 1 := ⟨k - 1, by omega⟩
    simp only [laws_toIntS.l0]
    rw [if_pos (by omega), if_pos (by omega), if_pos (by omega), w64 (by omega) (by omega)]
    refine ih k (j + 1) _ (by simpa using hl) (by omega) (by omega) (by omega) ?_
    intro i hi
    rw [rd_nat, Int.toNat_natCast, List.getElem?_set]
    by_cases hij : j = i
    · subst hij
      rw [if_pos rfl, if_pos (by omega), List.getElem?_eq_getElem (by omega)]
      simp [List.getD, List.getElem?_eq_getElem (show j < x0.length by omega)]
    · rw [if_neg hij]
      exact he i (by omega)
theorem toIntS (k : Nat) (l : List Int) (hl : l.length ≤ 1048576) (hk : l.length < k) : laws_toIntS.f k l = some l := by
  unfold laws_toIntS.f
  rw [if_pos (by omega), if_pos (by omega)]
  exact toIntS_go l (by omega) l.length k 0 _ (by simp) (by omega) (by omega) (by omega) (fun i hi => absurd hi (by omega))
theorem eqIntS_go (x : List Int) (hx : x.length ≤ 140737488355328) (d : Nat) : ∀ (k j : Nat), x.length - j = d → j ≤ x.length → d < k → laws_eqIntS.l0 k x x (j : Int) = some true := by
  induction d with
  | zero =>
    intro k j hd hj hk
    obtain ⟨k, rfl⟩ : ∃ m, k = m + 1 := ⟨k - 1, by omega⟩
    simp only [laws_eqIntS.l0]
    rw [if_neg (by omega)]
  | succ d ih =>
    intro k j hd hj hk
    obtain ⟨k, rfl⟩ : ∃ m, k = m + 1 := ⟨k - 1, by omega⟩
    simp only [laws_eqIntS.l0]
    rw [if_pos (by omega), if_pos (by omega), if_pos (by omega), if_pos trivial, w64 (by omega) (by omega)]
    exact ih k (j + 1) (by omega) (by omega) (by omega)
theorem eqIntS (k : Nat) (l : List Int) (hl : l.length ≤ 140737488355328) (hk : l.length < k) : laws_eqIntS.f k l l = some true := by
  unfold laws_eqIntS.f
  rw [if_pos rfl]
  exact eqIntS_go l hl l.length k 0 (by omega) (by omega) hk

theorem markIntS_go (n : Nat) (hn : n ≤ 140737488355328) (m : Int) (hm0 : 0 ≤ m) (hm : m + n ≤ 140737488355328) (d : Nat) : ∀ (k j : Nat) (x0 : List Int), x0.length = n → n - j = d → j ≤ n → d < k → (∀ i, i < j → x0[i]? = some (m + i)) →
    laws_markIntS.l0 k x0 (m + j) (j : Int) = some (m + n, marked m n) := by
  induction d with
  | zero =>
    intro k j x0 hl hd hj hk he
    obtain ⟨k, rfl⟩ : ∃ m, k = m + 1 := ⟨k - 1, by omega⟩
    simp only [laws_markIntS.l0]
    rw [if_neg (by omega)]
    obtain rfl : j = n := by omega
    refine congrArg some (Prod.ext rfl (List.ext_getElem? fun i => ?_))
    show x0[i]? = (marked m j)[i]?
    by_cases hi : i < j
    · rw [he i hi]; simp [marked, hi]
    · rw [List.getElem?_eq_none (by omega), List.getElem?_eq_none (by rw [marked_len]; omega)]
  | succ d ih =>
    intro k j x0 hl hd hj hk he
    obtain ⟨k, rfl⟩ : ∃ m, k = m + 1 := ⟨k - 1, by omega⟩
    simp only [laws_markIntS.l0]
    rw [if_pos (by omega), if_pos (by omega), w64 (by omega) (by omega), w64 (by omega) (by omega), show m + (j : Int) + 1 = m + ((j + 1 : Nat) : Int) by omega]
    refine ih k (j + 1) _ (by simpa using hl) (by omega) (by omega) (by omega) ?_
    intro i hi
    rw [Int.toNat_natCast, List.getElem?_set]
    by_cases hij : j = i
    · subst hij
      rw [if_pos rfl, if_pos (by omega)]
    · rw [if_neg hij]
      exact he i (by omega)
theorem markIntS (k : Nat) (l : List Int) (m : Int) (hm0 : 0 ≤ m) (hm : m + l.length ≤ 140737488355328) (hk : l.length < k) : laws_markIntS.f k l m = some (m + l.length, marked m l.length) := by
  unfold laws_markIntS.f
  have := markIntS_go l.length (by omega) m hm0 hm l.length k 0 l rfl (by omega) (by omega) hk (fun i hi => absurd hi (by omega))
  simpa using this
theorem heldIntS_go (n : Nat) (m : Int) (hm0 : 0 ≤ m) (hm : m + n ≤ 140737488355328) (d : Nat) : ∀ (k j : Nat), n - j = d → j ≤ n → d < k → laws_heldIntS.l0 k (marked m n) (m + j) (j : Int) = some (m + n) := by
  induction d with
  | zero =>
    intro k j hd hj hk
    obtain ⟨k, rfl⟩ : ∃ m, k = m + 1 := ⟨k - 1, by omega⟩
    simp only [laws_heldIntS.l0, marked_len]
    rw [if_neg (by omega)]
    obtain rfl : j = n := by omega
    rfl
  | succ d ih =>
    intro k j hd hj hk
    obtain ⟨k, rfl⟩ : ∃ m, k = m + 1 := ⟨k - 1, by omega⟩
    simp only [laws_heldIntS.l0, marked_len]
    rw [if_pos (by omega), if_pos (by omega), if_pos (by rw [rd_nat]; exact marked_get m n j (by omega)), w64 (by omega) (by omega), w64 (by omega) (by omega), show m + (j : Int) + 1 = m + ((j + 1 : Nat) : Int) by omega]
    exact ih k (j + 1) (by omega) (by omega) (by omega)
theorem heldIntS (k : Nat) (n : Nat) (m : Int) (hm0 : 0 ≤ m) (hm : m + n ≤ 140737488355328) (hk : n < k) : laws_heldIntS.f k (marked m n) m = some (m + n) := by
  unfold laws_heldIntS.f
  have := heldIntS_go n m hm0 hm n k 0 (by omega) (by omega) hk
  simpa using this

theorem szMem_big (l : List Int) (hl : l.length ≤ maxLen) (h : 1048576 < l.length) : laws_szMem.f l 1048576 = some (-1) := by
  simp only [maxLen] at hl
  unfold laws_szMem.f laws_szIntS.f
  rw [w64 (by omega) (by omega), if_pos (by omega)]
  rfl
theorem szMem_small (l : List Int) (h : l.length ≤ 1048576) : laws_szMem.f l 1048576 = some (1048576 - (l.length : Int)) := by
  unfold laws_szMem.f laws_szIntS.f
  rw [w64 (by omega) (by omega), if_neg (by omega)]
  simp only [Option.bind_some]
  rw [if_neg (by omega)]
theorem toMem (k : Nat) (l : List Int) (hl : l.length ≤ 1048576) (hk : l.length < k) : laws_toMem.f k l = some l := by
  unfold laws_toMem.f
  rw [toIntS k l hl hk]; rfl
theorem eqMem (k : Nat) (l : List Int) (hl : l.length ≤ 1048576) (hk : l.length < k) : laws_eqMem.f k l l = some true := by
  unfold laws_eqMem.f
  rw [eqIntS k l (by omega) hk]; rfl

theorem markMem (k : Nat) (l : List Int) (hl : l.length ≤ 1048576) (hk : l.length < k) : laws_markMem.f k l 1 = some (1 + (l.length : Int), marked 1 l.length) := by
  unfold laws_markMem.f
  rw [markIntS k l 1 (by omega) (by omega) hk]; rfl

/-! RiItems. -/
theorem RiItems_go (n h : Int) (hn : 2 ≤ n ∧ n ≤ 16) (hh : 0 ≤ h ∧ h ≤ 4294967295) (l : List Int) (hl : (l.length : Int) = 2 + 2 * n) (d : Nat) : ∀ (out : List Int) (j : Int), 0 ≤ j → (h - j).toNat = d → out.length + d ≤ 100 →
    ∃ r : List Int, r.length ≤ 100 ∧ ∀ k, d + 1 ≤ k → spec_RiItems.l0 k n out h j l = some r ∧ impl_RiItems.l0 k n out h j l = some r := by
  induction d with
  | zero =>
    intro out j h0 hd ho
    refine ⟨out, by omega, fun k hk => ?_⟩
    obtain ⟨k, rfl⟩ : ∃ m, k = m + 1 := ⟨k - 1, by omega⟩
    simp only [spec_RiItems.l0, impl_RiItems.l0]
    rw [if_neg (by omega), if_neg (by omega)]
    exact ⟨rfl, rfl⟩
  | succ d ih =>
    intro out j h0 hd ho
    have m0 : 0 ≤ j % n := Int.emod_nonneg _ (by omega)
    have m1 : j % n < n := Int.emod_lt_of_pos _ (by omega)
    have hm := modS j n (by omega) (by omega) (by omega) (by omega)
    have ht : Int.tmod j n = j % n := by rw [Int.tmod_eq_emod, if_pos (Or.inl h0)]; simp
    have e1 : wrap64 (2 * (j % n)) = 2 * (j % n) := w64 (by omega) (by omega)
    have e2 : wrap64 (2 + 2 * (j % n)) = 2 + 2 * (j % n) := w64 (by omega) (by omega)
    have e3 : wrap64 (2 + 2 * (j % n) + 1) = 3 + 2 * (j % n) := by rw [w64 (by omega) (by omega)]; omega
    have e4 : wrap64 (3 + 2 * (j % n)) = 3 + 2 * (j % n) := w64 (by omega) (by omega)
    have e5 : wrap64 (j + 1) = j + 1 := w64 (by omega) (by omega)
    obtain ⟨r, hr, hrr⟩ := ih (out ++ [rd l (3 + 2 * (j % n))]) (j + 1) (by omega) (by omega) (by rw [List.length_append]; simp; omega)
    refine ⟨r, hr, fun k hk => ?_⟩
    obtain ⟨k, rfl⟩ : ∃ m, k = m + 1 := ⟨k - 1, by omega⟩
    obtain ⟨g1, g2⟩ := hrr k (by omega)
    have a1 : 0 ≤ 3 + 2 * (j % n) := by omega
    have a2 : 3 + 2 * (j % n) < (l.length : Int) := by omega
    have a3 : out.length < 17592186044416 := by omega
    have a4 : j < h := by omega
    have a5 : ¬ n = 0 := by omega
    constructor
    · simp only [spec_RiItems.l0, spec_l04Seq.f]
      rw [if_pos a4, hm]
      simp only [Option.bind_some, e1, e2, e3, e5]
      rw [if_pos a1, if_pos a2, if_pos a3]
      exact g1
    · simp only [impl_RiItems.l0, ht, e1, e4, e5]
      rw [if_pos a4, if_neg a5, if_pos a1, if_pos a2, if_pos a3]
      exact g2
theorem RiItems_both (n : Int) (l : List Int) (hl : l.length ≤ 140737488355328) (hw : ∀ x ∈ l, (Lit.int .i64 x).wf = true) : ∃ r : List Int, r.length ≤ 100 ∧ ∀ k, 300 ≤ k → spec_RiItems.f k n l = some r ∧ impl_RiItems.f k n l = some r := by
  have hz : spec_l04Size.f n = some (decide (2 ≤ n ∧ n ≤ 16)) := by
    unfold spec_l04Size.f
    by_cases h : n ≥ 2
    · have h' : 2 ≤ n := h
      rw [if_pos h]; simp [h']
    · have h' : ¬ 2 ≤ n := h
      rw [if_neg h]; simp [h']
  by_cases hn : 2 ≤ n ∧ n ≤ 16
  · have hw1 : wrap64 (2 * n) = 2 * n := w64 (by omega) (by omega)
    have hw2 : wrap64 (2 + 2 * n) = 2 + 2 * n := w64 (by omega) (by omega)
    by_cases hlen : (l.length : Int) = 2 + 2 * n
    · have hb : ((l.length : Int) != 2 + 2 * n) = false := by simpa using hlen
      have p0 : (0 : Int) < (l.length : Int) := by omega
      have p1 : (1 : Int) < (l.length : Int) := by omega
      have fin : ∀ (b1 b2 b3 : Bool), (b1 = true → 0 ≤ rd l 0 ∧ rd l 0 ≤ 4294967295) → (b2 = true → 0 ≤ rd l 1 ∧ rd l 1 ≤ 4294967295) → (b3 = decide (0 ≤ wrap64 (rd l 0 - rd l 1) ∧ wrap64 (rd l 0 - rd l 1) ≤ n)) → ∃ r : List Int, r.length ≤ 100 ∧ ∀ k, 200 ≤ k →
          (if b1 = true ∧ b2 = true then spec_RiItems.j1 k n [] (rd l 0) (rd l 1) (!b3) l else spec_RiItems.j1 k n [] (rd l 0) (rd l 1) true l) = some r ∧
          (if b1 = true ∧ b2 = true then impl_RiItems.j1 k n [] (rd l 0) (rd l 1) (!b3) l else impl_RiItems.j1 k n [] (rd l 0) (rd l 1) true l) = some r := by
        intro b1 b2 b3 h1 h2 h3
        by_cases hb12 : b1 = true ∧ b2 = true
        · cases b3 with
          | false =>
            refine ⟨[], by simp, fun k hk => ?_⟩
            obtain ⟨k, rfl⟩ : ∃ m, k = m + 1 := ⟨k - 1, by omega⟩
            rw [if_pos hb12, if_pos hb12]
            simp [spec_RiItems.j1, impl_RiItems.j1]
          | true =>
            have h1 := h1 hb12.1
            have h2 := h2 hb12.2
            have h3 := of_decide_eq_true h3.symm
            rw [w64 (by omega) (by omega)] at h3
            obtain ⟨r, hr, hrr⟩ := RiItems_go n (rd l 0) hn h1 l hlen (rd l 0 - rd l 1).toNat [] (rd l 1) (by omega) rfl (by simp; omega)
            refine ⟨r, hr, fun k hk => ?_⟩
            obtain ⟨k, rfl⟩ : ∃ m, k = m + 1 := ⟨k - 1, by omega⟩
            rw [if_pos hb12, if_pos hb12]
            simp only [spec_RiItems.j1, impl_RiItems.j1]
            simpa using hrr k (by omega)
        · refine ⟨[], by simp, fun k hk => ?_⟩
          obtain ⟨k, rfl⟩ : ∃ m, k = m + 1 := ⟨k - 1, by omega⟩
          rw [if_neg hb12, if_neg hb12]
          simp [spec_RiItems.j1, impl_RiItems.j1]
      obtain ⟨r, hr, hrr⟩ := fin (decide (0 ≤ rd l 0 ∧ rd l 0 ≤ 4294967295)) (decide (0 ≤ rd l 1 ∧ rd l 1 ≤ 4294967295)) _ of_decide_eq_true of_decide_eq_true rfl
      have sn : ∀ x, spec_l01Num.f x = some (decide (0 ≤ x ∧ x ≤ 4294967295)) := by
        intro x
        unfold spec_l01Num.f
        by_cases h : x ≥ 0
        · have h' : 0 ≤ x := h
          rw [if_pos h]; simp [h']
        · have h' : ¬ 0 ≤ x := h
          rw [if_neg h]; simp [h']
      have im : ∀ x, impl_isNum.f x = some (decide (0 ≤ x ∧ x ≤ 4294967295)) := by
        intro x
        unfold impl_isNum.f
        rw [within]; rfl
      refine ⟨r, hr, fun k hk => ?_⟩
      obtain ⟨k, rfl⟩ : ∃ m, k = m + 1 := ⟨k - 1, by omega⟩
      obtain ⟨g1, g2⟩ := hrr k (by omega)
      constructor
      · unfold spec_RiItems.f
        rw [hz]
        simp only [Option.bind_some, decide_eq_true hn, if_true, hw1, hw2, hb, spec_RiItems.j0, p0, p1, sn, l01In, Bool.false_eq_true, if_false]
        rw [← g1]
        by_cases c1 : 0 ≤ rd l 0 ∧ rd l 0 ≤ 4294967295
        · by_cases c2 : 0 ≤ rd l 1 ∧ rd l 1 ≤ 4294967295
          · simp [c1, c2]
          · simp [c1, c2]
        · simp [c1]
      · unfold impl_RiItems.f
        rw [within]
        simp only [Option.bind_some, decide_eq_true hn, if_true, hw1, hw2, hb, impl_RiItems.j0, p0, p1, im, within, Bool.false_eq_true, if_false]
        rw [← g2]
        by_cases c1 : 0 ≤ rd l 0 ∧ rd l 0 ≤ 4294967295
        · by_cases c2 : 0 ≤ rd l 1 ∧ rd l 1 ≤ 4294967295
          · simp [c1, c2]
          · simp [c1, c2]
        · simp [c1]
    · have hb : ((l.length : Int) != 2 + 2 * n) = true := by simpa using hlen
      refine ⟨[], by simp, fun k hk => ?_⟩
      obtain ⟨k, rfl⟩ : ∃ m, k = m + 1 := ⟨k - 1, by omega⟩
      refine ⟨?_, ?_⟩
      · unfold spec_RiItems.f
        rw [hz]
        simp only [Option.bind_some, decide_eq_true hn, if_true, hw1, hw2, hb, spec_RiItems.j0]
      · unfold impl_RiItems.f
        rw [within]
        simp only [Option.bind_some, decide_eq_true hn, if_true, hw1, hw2, hb, impl_RiItems.j0]
  · refine ⟨[], by simp, fun k hk => ?_⟩
    obtain ⟨k, rfl⟩ : ∃ m, k = m + 1 := ⟨k - 1, by omega⟩
    refine ⟨?_, ?_⟩
    · unfold spec_RiItems.f
      rw [hz]
      simp [hn, spec_RiItems.j0]
    · unfold impl_RiItems.f
      rw [within]
      simp [hn, impl_RiItems.j0]


theorem FnExactRiItems : laws_FnExactRiItems.Pure := by
  intro n l _ ⟨hm, hwf⟩
  by_cases hl : l.length ≤ 1048576
  · obtain ⟨r, hr, hrr⟩ := RiItems_both n l (by omega) hwf
    have h1 : ∀ k, 300 ≤ k → spec_RiItems.f k n l = some r := fun k hk => (hrr k hk).1
    have h2 : ∀ k, 300 ≤ k → impl_RiItems.f k n l = some r := fun k hk => (hrr k hk).2
    refine ⟨1048576 + 300, ?_⟩
    unfold laws_FnExactRiItems.f
    simp (disch := omega) only [szMem_small, Option.bind_some, toMem, h1, h2, eqIntS, eqMem]
    rw [if_neg (by omega)]
    simp (disch := omega) only [laws_FnExactRiItems.j0, Bool.not_true, toMem, h2, eqIntS, eqMem, markMem, markIntS, heldIntS, Option.bind_some, neg1, if_true, if_false, ite_self, reduceIte, Bool.false_eq_true]
  · refine ⟨0, ?_⟩
    unfold laws_FnExactRiItems.f
    rw [szMem_big l hm (by omega)]
    simp

end Go.Proofs.Ytfahmmlkcmadeaa.Pure
