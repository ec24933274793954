/- The law FnExactStItems answers true whatever its arguments hold: the program's function and the reference's come to the same, and no list of an answer is shared. No condition. -/
import Derived.Test.YtfahmmlkcmadeaaPFnExactStItemsx4
namespace Go.Proofs.Ytfahmmlkcmadeaa.Pure
open Go.RowKit Go.Proofs.Ytfahmmlkcmadeaa.PFnExactStItems Go.Proofs.YtfahmmlkcmadeaaW.PrintWords Go.Proofs.YtfahmmlkcmadeaaW.PrintLast
set_option linter.unusedSimpArgs false
set_option linter.unusedVariables false

/-! Small facts. -/
theorem w64 {x : Int} (h0 : -9223372036854775808 ≤ x) (h1 : x ≤ 9223372036854775807) : wrap64 x = x := by unfold wrap64; omega
theorem rd_nat (l : List Int) (j : Nat) : rd l (j : Int) = l.getD j 0 := by simp [rd]
/-- The numbers from m on, n of them. -/
def marked (m : Int) (n : Nat) : List Int := (List.range n).map fun (i : Nat) => m + (i : Int)
theorem marked_len (m : Int) (n : Nat) : (marked m n).length = n := by simp [marked]
theorem marked_get (m : Int) (n j : Nat) (h : j < n) : (marked m n).getD j 0 = m + j := by simp [marked, List.getD, h]
theorem neg1 (n : Nat) : ((1 : Int) + (n : Int) < 0) = False := by simp only [eq_iff_iff, iff_false]; omega
theorem neg0 : ((-1 : Int) < 0) = True := by simp
theorem i64r {n : Int} (h : (Lit.int .i64 n).wf = true) : -9223372036854775808 ≤ n ∧ n ≤ 9223372036854775807 := by
  have e1 : IntKind.i64.min = -9223372036854775808 := by decide
  have e2 : IntKind.i64.max = 9223372036854775807 := by decide
  simp only [Lit.wf, Bool.and_eq_true, decide_eq_true_eq, e1, e2] at h
  exact h

theorem within (a lo hi : Int) : impl_within.f a lo hi = some (decide (lo ≤ a ∧ a ≤ hi)) := by
  unfold impl_within.f
  by_cases h : a ≥ lo
  · rw [if_pos h]
    have h' : lo ≤ a := h
    simp [h']
  · rw [if_neg h]
    have h' : ¬ lo ≤ a := h
    simp [h']

theorem l01In (a lo hi : Int) : spec_l01In.f a lo hi = some (decide (lo ≤ a ∧ a ≤ hi)) := by
  unfold spec_l01In.f
  by_cases h : a ≥ lo
  · rw [if_pos h]
    have h' : lo ≤ a := h
    simp [h']
  · rw [if_neg h]
    have h' : ¬ lo ≤ a := h
    simp [h']

/-! Words. -/
theorem unpack (w : Int) (hw : w ≤ 9223372036854775807) : ∃ t i b, spec_Unpack.f w = some (t, i, b) ∧ impl_Unpack.f w = some (t, i, b) ∧ 0 ≤ i ∧ i ≤ 1048575 ∧ 0 ≤ t ∧ t ≤ 1073741823 ∧ (b = false → i = 0 ∧ t = 0) ∧ (b = true → w = t * 1048576 + i) := by
  by_cases h0 : w < 0
  · exact ⟨0, 0, false, by unfold spec_Unpack.f; rw [if_pos h0], by unfold impl_Unpack.f; rw [if_pos h0], by omega, by omega, by omega, by omega, by simp, by simp⟩
  · have e1 : Int.tdiv w 1048576 = w / 1048576 := Int.tdiv_eq_ediv_of_nonneg (by omega)
    have e2 : Int.tmod w 1048576 = w % 1048576 := Int.tmod_eq_emod_of_nonneg (by omega)
    have e3 : wrap64 (w / 1048576) = w / 1048576 := w64 (by omega) (by omega)
    by_cases h1 : w / 1048576 > 1073741823
    · exact ⟨0, 0, false, by unfold spec_Unpack.f; rw [if_neg h0, e1, e3, if_pos h1], by unfold impl_Unpack.f; rw [if_neg h0, e1, e3, if_pos h1], by omega, by omega, by omega, by omega, by simp, by simp⟩
    · exact ⟨w / 1048576, w % 1048576, true, by unfold spec_Unpack.f; rw [if_neg h0, e1, e2, e3, if_neg h1], by unfold impl_Unpack.f; rw [if_neg h0, e1, e2, e3, if_neg h1], by omega, by omega, by omega, by omega, by simp, fun _ => by omega⟩

/-! Lists of numbers: copied, compared, marked, held. -/
theorem toIntS_go (x0 : List Int) (hx : x0.length ≤ 140737488355328) (d : Nat) : ∀ (k j : Nat) (x3 : List Int), x3.length = x0.length → x0.length - j = d → j ≤ x0.length → d < k → (∀ i, i < j → x3[i]? = x0[i]?) → laws_toIntS.l0 k x0 x3 (j : Int) = some x0 := by
  induction d with
  | zero =>
    intro k j x3 hl hd hj hk he
    obtain ⟨k, rfl⟩ : ∃ m, k = m + 1 := ⟨k - 1, by omega⟩
    simp only [laws_toIntS.l0]
    rw [if_neg (by omega)]
    refine congrArg some (List.ext_getElem? fun i => ?_)
    by_cases hi : i < j
    · exact he i hi
    · rw [List.getElem?_eq_none (by omega), List.getElem?_eq_none (by omega)]
  | succ d ih =>
    intro k j x3 hl hd hj hk he
    obtain ⟨k, rfl⟩ : ∃ m, k = m + 1 := ⟨k - 1, by omega⟩
    simp only [laws_toIntS.l0]
    rw [if_pos (by omega), if_pos (by omega), if_pos (by omega), w64 (by omega) (by omega)]
    refine ih k (j + 1) _ (by simpa using hl) (by omega) (by omega) (by omega) ?_
    intro i hi
    rw [rd_nat, Int.toNat_natCast, List.getElem?_set]
    by_cases hij : j = i
    · subst hij
      rw [if_pos rfl, if_pos (by omega), List.getElem?_eq_getElem (by omega)]
      simp [List.getD, List.getElem?_eq_getElem (show j < x0.length by omega)]
    · rw [if_neg hij]
      exact he i (by omega)
theorem toIntS (k : Nat) (l : List Int) (hl : l.length ≤ 1048576) (hk : l.length < k) : laws_toIntS.f k l = some l := by
  unfold laws_toIntS.f
  rw [if_pos (by omega), if_pos (by omega)]
  exact toIntS_go l (by omega) l.length k 0 _ (by simp) (by omega) (by omega) (by omega) (fun i hi => absurd hi (by omega))
theorem eqIntS_go (x : List Int) (hx : x.length ≤ 140737488355328) (d : Nat) : ∀ (k j : Nat), x.length - j = d → j ≤ x.length → d < k → laws_eqIntS.l0 k x x (j : Int) = some true := by
  induction d with
  | zero =>
    intro k j hd hj hk
    obtain ⟨k, rfl⟩ : ∃ m, k = m + 1 := ⟨k - 1, by omega⟩
    simp only [laws_eqIntS.l0]
    rw [if_neg (by omega)]
  | succ d ih =>
    intro k j hd hj hk
    obtain ⟨k, rfl⟩ : ∃ m, k = m + 1 := ⟨k - 1, by omega⟩
    simp only [laws_eqIntS.l0]
    rw [if_pos (by omega), if_pos (by omega), if_pos (by omega), if_pos trivial, w64 (by omega) (by omega)]
    exact ih k (j + 1) (by omega) (by omega) (by omega)
theorem eqIntS (k : Nat) (l : List Int) (hl : l.length ≤ 140737488355328) (hk : l.length < k) : laws_eqIntS.f k l l = some true := by
  unfold laws_eqIntS.f
  rw [if_pos rfl]
  exact eqIntS_go l hl l.length k 0 (by omega) (by omega) hk

theorem markIntS_go (n : Nat) (hn : n ≤ 140737488355328) (m : Int) (hm0 : 0 ≤ m) (hm : m + n ≤ 140737488355328) (d : Nat) : ∀ (k j : Nat) (x0 : List Int), x0.length = n → n - j = d → j ≤ n → d < k → (∀ i, i < j → x0[i]? = some (m + i)) →
    laws_markIntS.l0 k x0 (m + j) (j : Int) = some (m + n, marked m n) := by
  induction d with
  | zero =>
    intro k j x0 hl hd hj hk he
    obtain ⟨k, rfl⟩ : ∃ m, k = m + 1 := ⟨k - 1, by omega⟩
    simp only [laws_markIntS.l0]
    rw [if_neg (by omega)]
    obtain rfl : j = n := by omega
    refine congrArg some (Prod.ext rfl (List.ext_getElem? fun i => ?_))
    show x0[i]? = (marked m j)[i]?
    by_cases hi : i < j
    · rw [he i hi]; simp [marked, hi]
    · rw [List.getElem?_eq_none (by omega), List.getElem?_eq_none (by rw [marked_len]; omega)]
  | succ d ih =>
    intro k j x0 hl hd hj hk he
    obtain ⟨k, rfl⟩ : ∃ m, k = m + 1 := ⟨k - 1, by omega⟩
    simp only [laws_markIntS.l0]
    rw [if_pos (by omega), if_pos (by omega), w64 (by omega) (by omega), w64 (by omega) (by omega), show m + (j : Int) + 1 = m + ((j + 1 : Nat) : Int) by omega]
    refine ih k (j + 1) _ (by simpa using hl) (by omega) (by omega) (by omega) ?_
    intro i hi
    rw [Int.toNat_natCast, List.getElem?_set]
    by_cases hij : j = i
    · subst hij
      rw [if_pos rfl, if_pos (by omega)]
    · rw [if_neg hij]
      exact he i (by omega)
theorem markIntS (k : Nat) (l : List Int) (m : Int) (hm0 : 0 ≤ m) (hm : m + l.length ≤ 140737488355328) (hk : l.length < k) : laws_markIntS.f k l m = some (m + l.length, marked m l.length) := by
  unfold laws_markIntS.f
  have := markIntS_go l.length (by omega) m hm0 hm l.length k 0 l rfl (by omega) (by omega) hk (fun i hi => absurd hi (by omega))
  simpa using this
theorem heldIntS_go (n : Nat) (m : Int) (hm0 : 0 ≤ m) (hm : m + n ≤ 140737488355328) (d : Nat) : ∀ (k j : Nat), n - j = d → j ≤ n → d < k → laws_heldIntS.l0 k (marked m n) (m + j) (j : Int) = some (m + n) := by
  induction d with
  | zero =>
    intro k j hd hj hk
    obtain ⟨k, rfl⟩ : ∃ m, k = m + 1 := ⟨k - 1, by omega⟩
    simp only [laws_heldIntS.l0, marked_len]
    rw [if_neg (by omega)]
    obtain rfl : j = n := by omega
    rfl
  | succ d ih =>
    intro k j hd hj hk
    obtain ⟨k, rfl⟩ : ∃ m, k = m + 1 := ⟨k - 1, by omega⟩
    simp only [laws_heldIntS.l0, marked_len]
    rw [if_pos (by omega), if_pos (by omega), if_pos (by rw [rd_nat]; exact marked_get m n j (by omega)), w64 (by omega) (by omega), w64 (by omega) (by omega), show m + (j : Int) + 1 = m + ((j + 1 : Nat) : Int) by omega]
    exact ih k (j + 1) (by omega) (by omega) (by omega)
theorem heldIntS (k : Nat) (n : Nat) (m : Int) (hm0 : 0 ≤ m) (hm : m + n ≤ 140737488355328) (hk : n < k) : laws_heldIntS.f k (marked m n) m = some (m + n) := by
  unfold laws_heldIntS.f
  have := heldIntS_go n m hm0 hm n k 0 (by omega) (by omega) hk
  simpa using this

theorem szMem_big (l : List Int) (hl : l.length ≤ maxLen) (h : 1048576 < l.length) : laws_szMem.f l 1048576 = some (-1) := by
  simp only [maxLen] at hl
  unfold laws_szMem.f laws_szIntS.f
  rw [w64 (by omega) (by omega), if_pos (by omega)]
  rfl
theorem szMem_small (l : List Int) (h : l.length ≤ 1048576) : laws_szMem.f l 1048576 = some (1048576 - (l.length : Int)) := by
  unfold laws_szMem.f laws_szIntS.f
  rw [w64 (by omega) (by omega), if_neg (by omega)]
  simp only [Option.bind_some]
  rw [if_neg (by omega)]
theorem toMem (k : Nat) (l : List Int) (hl : l.length ≤ 1048576) (hk : l.length < k) : laws_toMem.f k l = some l := by
  unfold laws_toMem.f
  rw [toIntS k l hl hk]; rfl
theorem eqMem (k : Nat) (l : List Int) (hl : l.length ≤ 1048576) (hk : l.length < k) : laws_eqMem.f k l l = some true := by
  unfold laws_eqMem.f
  rw [eqIntS k l (by omega) hk]; rfl

theorem markMem (k : Nat) (l : List Int) (hl : l.length ≤ 1048576) (hk : l.length < k) : laws_markMem.f k l 1 = some (1 + (l.length : Int), marked 1 l.length) := by
  unfold laws_markMem.f
  rw [markIntS k l 1 (by omega) (by omega) hk]; rfl

/-! Whether a number is in a list. -/
theorem getD_drop (l : List Int) (j : Nat) (h : j < l.length) : l.drop j = l.getD j 0 :: l.drop (j + 1) := by
  rw [List.drop_eq_getElem_cons h]; simp [List.getD, h]
theorem l03Has_go (x : Int) (l : List Int) (hl : l.length ≤ 140737488355328) (d : Nat) : ∀ (k j : Nat), l.length - j = d → j ≤ l.length → d < k → spec_l03Has.l0 k x l (l.length : Int) (j : Int) = some (decide (x ∈ l.drop j)) := by
  induction d with
  | zero =>
    intro k j hd hj hk
    obtain ⟨k, rfl⟩ : ∃ m, k = m + 1 := ⟨k - 1, by omega⟩
    simp only [spec_l03Has.l0]
    rw [if_neg (by omega), List.drop_eq_nil_of_le (by omega)]
    simp
  | succ d ih =>
    intro k j hd hj hk
    obtain ⟨k, rfl⟩ : ∃ m, k = m + 1 := ⟨k - 1, by omega⟩
    simp only [spec_l03Has.l0]
    rw [if_pos (by omega), if_pos (by omega), if_pos (by omega), rd_nat, w64 (by omega) (by omega), getD_drop l j (by omega)]
    have := ih k (j + 1) (by omega) (by omega) (by omega)
    by_cases h : l.getD j 0 = x
    · rw [if_pos h]; refine congrArg some (Eq.symm (decide_eq_true ?_)); rw [List.mem_cons]; exact Or.inl h.symm
    · rw [if_neg h, show (j : Int) + 1 = ((j + 1 : Nat) : Int) by omega, this]
      refine congrArg some ?_
      rw [Bool.eq_iff_iff]
      simp only [decide_eq_true_eq, List.mem_cons]
      exact ⟨Or.inr, fun hh => hh.resolve_left (fun e => h e.symm)⟩
theorem l03Has (k : Nat) (x : Int) (l : List Int) (hl : l.length ≤ 1048576) (hk : l.length < k) : spec_l03Has.f k l x = some (decide (x ∈ l)) := by
  unfold spec_l03Has.f
  have := l03Has_go x l (by omega) l.length k 0 (by omega) (by omega) hk
  simpa using this

theorem index_go (x : Int) (l : List Int) (hl : l.length ≤ 140737488355328) (d : Nat) : ∀ (k j : Nat), l.length - j = d → j ≤ l.length → d < k → ∃ r, slices_Index_int_int.l0 k l x (l.length : Int) (j : Int) = some r ∧ (0 ≤ r ↔ x ∈ l.drop j) := by
  induction d with
  | zero =>
    intro k j hd hj hk
    obtain ⟨k, rfl⟩ : ∃ m, k = m + 1 := ⟨k - 1, by omega⟩
    refine ⟨-1, ?_, ?_⟩
    · simp only [slices_Index_int_int.l0]; rw [if_neg (by omega)]
    · rw [List.drop_eq_nil_of_le (by omega)]; simp
  | succ d ih =>
    intro k j hd hj hk
    obtain ⟨k, rfl⟩ : ∃ m, k = m + 1 := ⟨k - 1, by omega⟩
    obtain ⟨r, h1, h2⟩ := ih k (j + 1) (by omega) (by omega) (by omega)
    by_cases h : x = l.getD j 0
    · refine ⟨j, ?_, ?_⟩
      · simp only [slices_Index_int_int.l0]
        rw [if_pos (by omega), if_pos (by omega), if_pos (by omega), rd_nat, if_pos h]
      · rw [getD_drop l j (by omega), List.mem_cons]; exact ⟨fun _ => Or.inl h, fun _ => by omega⟩
    · refine ⟨r, ?_, ?_⟩
      · simp only [slices_Index_int_int.l0]
        rw [if_pos (by omega), if_pos (by omega), if_pos (by omega), rd_nat, if_neg h, w64 (by omega) (by omega), show (j : Int) + 1 = ((j + 1 : Nat) : Int) by omega, h1]
      · rw [getD_drop l j (by omega), List.mem_cons, h2]
        exact ⟨Or.inr, fun hh => hh.resolve_left h⟩
theorem contains (k : Nat) (x : Int) (l : List Int) (hl : l.length ≤ 1048576) (hk : l.length < k) : slices_Contains_int_int.f k l x = some (decide (x ∈ l)) := by
  obtain ⟨r, h1, h2⟩ := index_go x l (by omega) l.length k 0 (by omega) (by omega) hk
  unfold slices_Contains_int_int.f slices_Index_int_int.f
  rw [show ((0 : Int)) = ((0 : Nat) : Int) from rfl, h1]
  simp only [Option.bind_some]
  refine congrArg some ?_
  rw [Bool.eq_iff_iff]
  simp only [decide_eq_true_eq]
  have : r ≥ ((0 : Nat) : Int) ↔ 0 ≤ r := Iff.rfl
  rw [this, h2, List.drop_zero]

theorem pigeon : ∀ (n : Nat) (l : List Int), l.Nodup → (∀ x ∈ l, 0 ≤ x ∧ x < n) → l.length ≤ n := by
  intro n
  induction n with
  | zero =>
    intro l _ h
    cases l with
    | nil => simp
    | cons a t => exact absurd (h a (List.mem_cons_self)) (by omega)
  | succ n ih =>
    intro l hn h
    have h1 := ih (l.erase (n : Int)) (hn.erase _) (fun x hx => by
      have := h x (List.mem_of_mem_erase hx)
      have hne : x ≠ (n : Int) := fun e => by
        subst e
        exact absurd hx (by rw [hn.mem_erase_iff]; simp)
      omega)
    by_cases hm : (n : Int) ∈ l
    · rw [List.length_erase_of_mem hm] at h1; omega
    · rw [List.erase_of_not_mem hm] at h1; omega

/-! StItems. -/
theorem StItems_go (N : Nat) (hN : 1 ≤ N ∧ N ≤ 16) (l : List Int) (hl : l.length = 1 + N) (d : Nat) : ∀ (out : List Int) (at_ : Int), out.Nodup → (∀ x ∈ out, 0 ≤ x ∧ x < (N : Int)) → N - out.length = d →
    ∃ r : List Int, r.length ≤ 16 ∧ ∀ k, 3 * d + 40 ≤ k → spec_StItems.l0 k (N : Int) out at_ l = some r ∧ impl_StItems.l0 k (N : Int) out at_ true l = some r := by
  induction d with
  | zero =>
    intro out at_ hnd hr hd
    have hle := pigeon N out hnd hr
    by_cases h0 : at_ = 0
    · refine ⟨out, by omega, fun k hk => ?_⟩
      obtain ⟨k, rfl⟩ : ∃ m, k = m + 2 := ⟨k - 2, by omega⟩
      subst h0
      exact ⟨by simp [spec_StItems.l0], by simp [impl_StItems.l0, impl_StItems.j2]⟩
    · refine ⟨[], by simp, fun k hk => ?_⟩
      obtain ⟨k, rfl⟩ : ∃ m, k = m + 2 := ⟨k - 2, by omega⟩
      have hb : (at_ != 0) = true := by simpa using h0
      by_cases hin : 1 ≤ at_ ∧ at_ ≤ (N : Int)
      · have hm : at_ - 1 ∈ out := by
          refine Classical.byContradiction fun hm => ?_
          have := pigeon N (out ++ [at_ - 1]) (by
            rw [List.nodup_append]
            refine ⟨hnd, by simp, ?_⟩
            intro a ha b hb' e
            rw [List.mem_singleton] at hb'
            exact hm (by rw [← hb', ← e]; exact ha)) (fun x hx => by
            rcases List.mem_append.1 hx with hx | hx
            · exact hr x hx
            · rw [List.mem_singleton.1 hx]; omega)
          rw [List.length_append] at this
          simp at this
          omega
        have hw : wrap64 (at_ - 1) = at_ - 1 := w64 (by omega) (by omega)
        exact ⟨by simp [spec_StItems.l0, h0, l01In, hin, hw, l03Has (k + 1) (at_ - 1) out (by omega) (by omega), hm], by simp [impl_StItems.l0, impl_StItems.j2, h0, within, hin, hw, contains k (at_ - 1) out (by omega) (by omega), hm]⟩
      · exact ⟨by simp [spec_StItems.l0, h0, l01In, hin], by simp [impl_StItems.l0, impl_StItems.j2, h0, within, hin]⟩
  | succ d ih =>
    intro out at_ hnd hr hd
    have hle := pigeon N out hnd hr
    by_cases h0 : at_ = 0
    · refine ⟨out, by omega, fun k hk => ?_⟩
      obtain ⟨k, rfl⟩ : ∃ m, k = m + 2 := ⟨k - 2, by omega⟩
      subst h0
      exact ⟨by simp [spec_StItems.l0], by simp [impl_StItems.l0, impl_StItems.j2]⟩
    · by_cases hin : 1 ≤ at_ ∧ at_ ≤ (N : Int)
      · have hw : wrap64 (at_ - 1) = at_ - 1 := w64 (by omega) (by omega)
        by_cases hm : at_ - 1 ∈ out
        · refine ⟨[], by simp, fun k hk => ?_⟩
          obtain ⟨k, rfl⟩ : ∃ m, k = m + 2 := ⟨k - 2, by omega⟩
          exact ⟨by simp [spec_StItems.l0, h0, l01In, hin, hw, l03Has (k + 1) (at_ - 1) out (by omega) (by omega), hm], by simp [impl_StItems.l0, impl_StItems.j2, h0, within, hin, hw, contains k (at_ - 1) out (by omega) (by omega), hm]⟩
        · obtain ⟨r, hrl, hrr⟩ := ih (out ++ [at_ - 1]) (rd l at_) (by
            rw [List.nodup_append]
            refine ⟨hnd, by simp, ?_⟩
            intro a ha b hb' e
            rw [List.mem_singleton] at hb'
            exact hm (by rw [← hb', ← e]; exact ha)) (fun x hx => by
            rcases List.mem_append.1 hx with hx | hx
            · exact hr x hx
            · rw [List.mem_singleton.1 hx]; omega) (by rw [List.length_append]; simp; omega)
          refine ⟨r, hrl, fun k hk => ?_⟩
          obtain ⟨k, rfl⟩ : ∃ m, k = m + 2 := ⟨k - 2, by omega⟩
          have a0 : 0 ≤ at_ := by omega
          have a1 : at_ < (l.length : Int) := by omega
          have a2 : out.length < 17592186044416 := by omega
          exact ⟨by simp only [spec_StItems.l0]; rw [if_neg h0, l01In, hw]; simp only [Option.bind_some]; rw [if_pos (decide_eq_true hin), l03Has (k + 1) (at_ - 1) out (by omega) (by omega)]; simp only [Option.bind_some]; rw [if_neg (by simpa using hm), if_pos a2, if_pos a0, if_pos a1]; exact (hrr (k + 1) (by omega)).1,
            by simp only [impl_StItems.l0, impl_StItems.j2, if_true]; rw [if_pos (by simpa using h0), within, hw]; simp only [Option.bind_some]; rw [if_pos (decide_eq_true hin), contains k (at_ - 1) out (by omega) (by omega)]; simp only [Option.bind_some]; rw [if_neg (by simpa using hm), if_pos a2, if_pos a0, if_pos a1]; exact (hrr k (by omega)).2⟩
      · refine ⟨[], by simp, fun k hk => ?_⟩
        obtain ⟨k, rfl⟩ : ∃ m, k = m + 2 := ⟨k - 2, by omega⟩
        exact ⟨by simp [spec_StItems.l0, h0, l01In, hin], by simp [impl_StItems.l0, impl_StItems.j2, h0, within, hin]⟩
theorem StItems_both (n : Int) (l : List Int) (hl : l.length ≤ 140737488355328) (hw : ∀ x ∈ l, (Lit.int .i64 x).wf = true) : ∃ r : List Int, r.length ≤ 16 ∧ ∀ k, 100 ≤ k → spec_StItems.f k n l = some r ∧ impl_StItems.f k n l = some r := by
  have hz : spec_l03Size.f n = some (decide (1 ≤ n ∧ n ≤ 16)) := by
    unfold spec_l03Size.f
    by_cases h : n ≥ 1
    · have h' : 1 ≤ n := h
      rw [if_pos h]; simp [h']
    · have h' : ¬ 1 ≤ n := h
      rw [if_neg h]; simp [h']
  by_cases hn : 1 ≤ n ∧ n ≤ 16
  · have hw1 : wrap64 (1 + n) = 1 + n := w64 (by omega) (by omega)
    by_cases hlen : (l.length : Int) = 1 + n
    · obtain ⟨N, rfl⟩ := Int.eq_ofNat_of_zero_le (show 0 ≤ n by omega)
      have h0l : l.getD 0 0 ∈ l := by
        cases l with
        | nil => simp at hlen; omega
        | cons a t => simp
      obtain ⟨t, i, b, u1, u2, hi0, hi1, -, -, -, -⟩ := unpack (rd l 0) (by
        have := (i64r (hw _ h0l)).2
        rw [show ((0 : Int)) = ((0 : Nat) : Int) from rfl, rd_nat]; exact this)
      cases b with
      | false =>
        refine ⟨[], by simp, fun k hk => ?_⟩
        obtain ⟨k, rfl⟩ : ∃ m, k = m + 5 := ⟨k - 5, by omega⟩
        refine ⟨?_, ?_⟩
        · unfold spec_StItems.f
          rw [hz]
          simp only [Option.bind_some, decide_eq_true hn, if_true, hw1, spec_StItems.j0]
          rw [if_neg (by simpa using hlen), if_pos (by omega), u1]
          simp
        · unfold impl_StItems.f
          rw [within]
          simp only [Option.bind_some, decide_eq_true hn, if_true, hw1, impl_StItems.j0]
          rw [if_neg (by simpa using hlen), if_pos (by omega), u2]
          simp [impl_StItems.l0, impl_StItems.j2]
      | true =>
        obtain ⟨r, hr, hrr⟩ := StItems_go N (by omega) l (by omega) N [] i (by simp) (by simp) (by simp)
        refine ⟨r, hr, fun k hk => ?_⟩
        obtain ⟨k, rfl⟩ : ∃ m, k = m + 1 := ⟨k - 1, by omega⟩
        refine ⟨?_, ?_⟩
        · unfold spec_StItems.f
          rw [hz]
          simp only [Option.bind_some, decide_eq_true hn, if_true, hw1, spec_StItems.j0]
          rw [if_neg (by simpa using hlen), if_pos (by omega), u1]
          simp only [Option.bind_some, if_true]
          exact (hrr k (by omega)).1
        · unfold impl_StItems.f
          rw [within]
          simp only [Option.bind_some, decide_eq_true hn, if_true, hw1, impl_StItems.j0]
          rw [if_neg (by simpa using hlen), if_pos (by omega), u2]
          simp only [Option.bind_some]
          exact (hrr k (by omega)).2
    · refine ⟨[], by simp, fun k hk => ?_⟩
      obtain ⟨k, rfl⟩ : ∃ m, k = m + 1 := ⟨k - 1, by omega⟩
      refine ⟨?_, ?_⟩
      · unfold spec_StItems.f
        rw [hz]
        simp only [Option.bind_some, decide_eq_true hn, if_true, hw1, spec_StItems.j0]
        rw [if_pos (by simpa using hlen)]
      · unfold impl_StItems.f
        rw [within]
        simp only [Option.bind_some, decide_eq_true hn, if_true, hw1, impl_StItems.j0]
        rw [if_pos (by simpa using hlen)]
  · refine ⟨[], by simp, fun k hk => ?_⟩
    obtain ⟨k, rfl⟩ : ∃ m, k = m + 1 := ⟨k - 1, by omega⟩
    refine ⟨?_, ?_⟩
    · unfold spec_StItems.f
      rw [hz]
      simp [hn, spec_StItems.j0]
    · unfold impl_StItems.f
      rw [within]
      simp [hn, impl_StItems.j0]


theorem FnExactStItems : laws_FnExactStItems.Pure := by
  intro n l _ ⟨hm, hwf⟩
  by_cases hl : l.length ≤ 1048576
  · obtain ⟨r, hr, hrr⟩ := StItems_both n l (by omega) hwf
    have h1 : ∀ k, 100 ≤ k → spec_StItems.f k n l = some r := fun k hk => (hrr k hk).1
    have h2 : ∀ k, 100 ≤ k → impl_StItems.f k n l = some r := fun k hk => (hrr k hk).2
    refine ⟨1048576 + 300, ?_⟩
    unfold laws_FnExactStItems.f
    simp (disch := omega) only [szMem_small, Option.bind_some, toMem, h1, h2, eqIntS, eqMem]
    rw [if_neg (by omega)]
    simp (disch := omega) only [laws_FnExactStItems.j0, Bool.not_true, toMem, h2, eqIntS, eqMem, markMem, markIntS, heldIntS, Option.bind_some, neg1, if_true, if_false, ite_self, reduceIte, Bool.false_eq_true]
  · refine ⟨0, ?_⟩
    unfold laws_FnExactStItems.f
    rw [szMem_big l hm (by omega)]
    simp

end Go.Proofs.Ytfahmmlkcmadeaa.Pure
