/- The law FnExactLiApply answers true whatever its arguments hold: the program's function and the reference's come to the same, and no list of an answer is shared. No condition. -/
import Derived.Test.YtjikobdblohphaaPFnExactLiApplyx5
namespace Go.Proofs.Ytjikobdblohphaa.Pure
open Go.RowKit Go.Proofs.Ytjikobdblohphaa.PFnExactLiApply Go.Proofs.YtjikobdblohphaaW.PrintWords Go.Proofs.YtjikobdblohphaaW.PrintLast
set_option linter.unusedSimpArgs false
set_option linter.unusedVariables false

/-! Small facts. -/
theorem w64 {x : Int} (h0 : -9223372036854775808 ≤ x) (h1 : x ≤ 9223372036854775807) : wrap64 x = x := by unfold wrap64; omega
theorem rd_nat (l : List Int) (j : Nat) : rd l (j : Int) = l.getD j 0 := by simp [rd]
/-- The numbers from m on, n of them. -/
def marked (m : Int) (n : Nat) : List Int := (List.range n).map fun (i : Nat) => m + (i : Int)
theorem marked_len (m : Int) (n : Nat) : (marked m n).length = n := by simp [marked]
theorem marked_get (m : Int) (n j : Nat) (h : j < n) : (marked m n).getD j 0 = m + j := by simp [marked, List.getD, h]
theorem neg1 (n : Nat) : ((1 : Int) + (n : Int) < 0) = False := by simp only [eq_iff_iff, iff_false]; omega
theorem neg0 : ((-1 : Int) < 0) = True := by simp
theorem i64r {n : Int} (h : (Lit.int .i64 n).wf = true) : -9223372036854775808 ≤ n ∧ n ≤ 9223372036854775807 := by
  have e1 : IntKind.i64.min = -9223372036854775808 := by decide
  have e2 : IntKind.i64.max = 9223372036854775807 := by decide
  simp only [Lit.wf, Bool.and_eq_true, decide_eq_true_eq, e1, e2] at h
  exact h

/-! Lists of numbers: copied, compared, marked, held. -/
theorem toIntS_go (x0 : List Int) (hx : x0.length ≤ 140737488355328) (d : Nat) : ∀ (k j : Nat) (x3 : List Int), x3.length = x0.length → x0.length - j = d → j ≤ x0.length → d < k → (∀ i, i < j → x3[i]? = x0[i]?) → laws_toIntS.l0 k x0 x3 (j : Int) = some x0 := by
  induction d with
  | zero =>
    intro k j x3 hl hd hj hk he
    obtain ⟨k, rfl⟩ : ∃ m, k = m + 1 := ⟨k - 1, by omega⟩
    simp only [laws_toIntS.l0]
    rw [if_neg (by omega)]
    refine congrArg some (List.ext_getElem? fun i => ?_)
    by_cases hi : i < j
    · exact he i hi
    · rw [List.getElem?_eq_none (by omega), List.getElem?_eq_none (by omega)]
  | succ d ih =>
    intro k j x3 hl hd hj hk he
    obtain ⟨k, rfl⟩ : ∃ m, k = m + 1 := ⟨k - 1, by omega⟩
    simp only [laws_toIntS.l0]
    rw [if_pos (by omega), if_pos (by omega), if_pos (by omega), w64 (by omega) (by omega)]
    refine ih k (j + 1) _ (by simpa using hl) (by omega) (by omega) (by omega) ?_
    intro i hi
    rw [rd_nat, Int.toNat_natCast, List.getElem?_set]
    by_cases hij : j = i
    · subst hij
      rw [if_pos rfl, if_pos (by omega), List.getElem?_eq_getElem (by omega)]
      simp [List.getD, List.getElem?_eq_getElem (show j < x0.length by omega)]
    · rw [if_neg hij]
      exact he i (by omega)
theorem toIntS (k : Nat) (l : List Int) (hl : l.length ≤ 1048576) (hk : l.length < k) : laws_toIntS.f k l = some l := by
  unfold laws_toIntS.f
  rw [if_pos (by omega), if_pos (by omega)]
  exact toIntS_go l (by omega) l.length k 0 _ (by simp) (by omega) (by omega) (by omega) (fun i hi => absurd hi (by omega))
theorem eqIntS_go (x : List Int) (hx : x.length ≤ 140737488355328) (d : Nat) : ∀ (k j : Nat), x.length - j = d → j ≤ x.length → d < k → laws_eqIntS.l0 k x x (j : Int) = some true := by
  induction d with
  | zero =>
    intro k j hd hj hk
    obtain ⟨k, rfl⟩ : ∃ m, k = m + 1 := ⟨k - 1, by omega⟩
    simp only [laws_eqIntS.l0]
    rw [if_neg (by omega)]
  | succ d ih =>
    intro k j hd hj hk
    obtain ⟨k, rfl⟩ : ∃ m, k = m + 1 := ⟨k - 1, by omega⟩
    simp only [laws_eqIntS.l0]
    rw [if_pos (by omega), if_pos (by omega), if_pos (by omega), if_pos trivial, w64 (by omega) (by omega)]
    exact ih k (j + 1) (by omega) (by omega) (by omega)
theorem eqIntS (k : Nat) (l : List Int) (hl : l.length ≤ 140737488355328) (hk : l.length < k) : laws_eqIntS.f k l l = some true := by
  unfold laws_eqIntS.f
  rw [if_pos rfl]
  exact eqIntS_go l hl l.length k 0 (by omega) (by omega) hk

theorem markIntS_go (n : Nat) (hn : n ≤ 140737488355328) (m : Int) (hm0 : 0 ≤ m) (hm : m + n ≤ 140737488355328) (d : Nat) : ∀ (k j : Nat) (x0 : List Int), x0.length = n → n - j = d → j ≤ n → d < k → (∀ i, i < j → x0[i]? = some (m + i)) →
    laws_markIntS.l0 k x0 (m + j) (j : Int) = some (m + n, marked m n) := by
  induction d with
  | zero =>
    intro k j x0 hl hd hj hk he
    obtain ⟨k, rfl⟩ : ∃ m, k = m + 1 := ⟨k - 1, by omega⟩
    simp only [laws_markIntS.l0]
    rw [if_neg (by omega)]
    obtain rfl : j = n := by omega
    refine congrArg some (Prod.ext rfl (List.ext_getElem? fun i => ?_))
    show x0[i]? = (marked m j)[i]?
    by_cases hi : i < j
    · rw [he i hi]; simp [marked, hi]
    · rw [List.getElem?_eq_none (by omega), List.getElem?_eq_none (by rw [marked_len]; omega)]
  | succ d ih =>
    intro k j x0 hl hd hj hk he
    obtain ⟨k, rfl⟩ : ∃ m, k = m + 1 := ⟨k - 1, by omega⟩
    simp only [laws_markIntS.l0]
    rw [if_pos (by omega), if_pos (by omega), w64 (by omega) (by omega), w64 (by omega) (by omega), show m + (j : Int) + 1 = m + ((j + 1 : Nat) : Int) by omega]
    refine ih k (j + 1) _ (by simpa using hl) (by omega) (by omega) (by omega) ?_
    intro i hi
    rw [Int.toNat_natCast, List.getElem?_set]
    by_cases hij : j = i
    · subst hij
      rw [if_pos rfl, if_pos (by omega)]
    · rw [if_neg hij]
      exact he i (by omega)
theorem markIntS (k : Nat) (l : List Int) (m : Int) (hm0 : 0 ≤ m) (hm : m + l.length ≤ 140737488355328) (hk : l.length < k) : laws_markIntS.f k l m = some (m + l.length, marked m l.length) := by
  unfold laws_markIntS.f
  have := markIntS_go l.length (by omega) m hm0 hm l.length k 0 l rfl (by omega) (by omega) hk (fun i hi => absurd hi (by omega))
  simpa using this
theorem heldIntS_go (n : Nat) (m : Int) (hm0 : 0 ≤ m) (hm : m + n ≤ 140737488355328) (d : Nat) : ∀ (k j : Nat), n - j = d → j ≤ n → d < k → laws_heldIntS.l0 k (marked m n) (m + j) (j : Int) = some (m + n) := by
  induction d with
  | zero =>
    intro k j hd hj hk
    obtain ⟨k, rfl⟩ : ∃ m, k = m + 1 := ⟨k - 1, by omega⟩
    simp only [laws_heldIntS.l0, marked_len]
    rw [if_neg (by omega)]
    obtain rfl : j = n := by omega
    rfl
  | succ d ih =>
    intro k j hd hj hk
    obtain ⟨k, rfl⟩ : ∃ m, k = m + 1 := ⟨k - 1, by omega⟩
    simp only [laws_heldIntS.l0, marked_len]
    rw [if_pos (by omega), if_pos (by omega), if_pos (by rw [rd_nat]; exact marked_get m n j (by omega)), w64 (by omega) (by omega), w64 (by omega) (by omega), show m + (j : Int) + 1 = m + ((j + 1 : Nat) : Int) by omega]
    exact ih k (j + 1) (by omega) (by omega) (by omega)
theorem heldIntS (k : Nat) (n : Nat) (m : Int) (hm0 : 0 ≤ m) (hm : m + n ≤ 140737488355328) (hk : n < k) : laws_heldIntS.f k (marked m n) m = some (m + n) := by
  unfold laws_heldIntS.f
  have := heldIntS_go n m hm0 hm n k 0 (by omega) (by omega) hk
  simpa using this

/-! Whether a number is in a list. -/
theorem getD_drop (l : List Int) (j : Nat) (h : j < l.length) : l.drop j = l.getD j 0 :: l.drop (j + 1) := by
  rw [List.drop_eq_getElem_cons h]; simp [List.getD, h]
theorem l03Has_go (x : Int) (l : List Int) (hl : l.length ≤ 140737488355328) (d : Nat) : ∀ (k j : Nat), l.length - j = d → j ≤ l.length → d < k → spec_l03Has.l0 k x l (l.length : Int) (j : Int) = some (decide (x ∈ l.drop j)) := by
  induction d with
  | zero =>
    intro k j hd hj hk
    obtain ⟨k, rfl⟩ : ∃ m, k = m + 1 := ⟨k - 1, by omega⟩
    simp only [spec_l03Has.l0]
    rw [if_neg (by omega), List.drop_eq_nil_of_le (by omega)]
    simp
  | succ d ih =>
    intro k j hd hj hk
    obtain ⟨k, rfl⟩ : ∃ m, k = m + 1 := ⟨k - 1, by omega⟩
    simp only [spec_l03Has.l0]
    rw [if_pos (by omega), if_pos (by omega), if_pos (by omega), rd_nat, w64 (by omega) (by omega), getD_drop l j (by omega)]
    have := ih k (j + 1) (by omega) (by omega) (by omega)
    by_cases h : l.getD j 0 = x
    · rw [if_pos h]; refine congrArg some (Eq.symm (decide_eq_true ?_)); rw [List.mem_cons]; exact Or.inl h.symm
    · rw [if_neg h, show (j : Int) + 1 = ((j + 1 : Nat) : Int) by omega, this]
      refine congrArg some ?_
      rw [Bool.eq_iff_iff]
      simp only [decide_eq_true_eq, List.mem_cons]
      exact ⟨Or.inr, fun hh => hh.resolve_left (fun e => h e.symm)⟩
theorem l03Has (k : Nat) (x : Int) (l : List Int) (hl : l.length ≤ 1048576) (hk : l.length < k) : spec_l03Has.f k l x = some (decide (x ∈ l)) := by
  unfold spec_l03Has.f
  have := l03Has_go x l (by omega) l.length k 0 (by omega) (by omega) hk
  simpa using this

/-! LiApply. -/
theorem copyInts (l : List Int) (hl : l.length ≤ 1048577) : impl_copyInts.f l = some l := by
  unfold impl_copyInts.f
  rw [if_pos (by rw [List.length_nil]; omega)]; rfl
theorem Index_go (x : Int) (l : List Int) (hl : l.length ≤ 1048576) (d : Nat) : ∀ (k j : Nat), l.length - j = d → j ≤ l.length → d < k → ∃ i : Int, slices_Index_int_int.l0 k l x (l.length : Int) (j : Int) = some i ∧ (0 ≤ i ↔ x ∈ l.drop j) := by
  induction d with
  | zero =>
    intro k j hd hj hk
    obtain ⟨k, rfl⟩ : ∃ m, k = m + 1 := ⟨k - 1, by omega⟩
    simp only [slices_Index_int_int.l0]
    rw [if_neg (by omega), List.drop_eq_nil_of_le (by omega)]
    exact ⟨-1, rfl, by simp⟩
  | succ d ih =>
    intro k j hd hj hk
    obtain ⟨k, rfl⟩ : ∃ m, k = m + 1 := ⟨k - 1, by omega⟩
    simp only [slices_Index_int_int.l0]
    rw [if_pos (by omega), if_pos (by omega), if_pos (by omega), rd_nat, w64 (by omega) (by omega), getD_drop l j (by omega)]
    by_cases h : x = l.getD j 0
    · rw [if_pos h]
      exact ⟨_, rfl, by rw [List.mem_cons]; exact ⟨fun _ => Or.inl h, fun _ => by omega⟩⟩
    · obtain ⟨i, h1, h2⟩ := ih k (j + 1) (by omega) (by omega) (by omega)
      rw [if_neg h, show (j : Int) + 1 = ((j + 1 : Nat) : Int) by omega, h1]
      exact ⟨i, rfl, by rw [h2, List.mem_cons]; exact ⟨Or.inr, fun hh => hh.resolve_left h⟩⟩
theorem Index (x : Int) (l : List Int) (hl : l.length ≤ 1048576) : ∃ i : Int, slices_Index_int_int.f (l.length + 2) l x = some i ∧ (0 ≤ i ↔ x ∈ l) := by
  have := Index_go x l hl l.length (l.length + 2) 0 (by omega) (by omega) (by omega)
  simpa [slices_Index_int_int.f] using this
theorem But_go (x : Int) (l : List Int) (hl : l.length ≤ 1048576) (d : Nat) : ∀ (k j : Nat) (out : List Int), l.length - j = d → j ≤ l.length → d < k → out.length + d ≤ 1048576 → spec_l08But.l0 k x out l (l.length : Int) (j : Int) = some (out ++ (l.drop j).filter fun y => !decide (y = x)) := by
  induction d with
  | zero =>
    intro k j out hd hj hk ho
    obtain ⟨k, rfl⟩ : ∃ m, k = m + 1 := ⟨k - 1, by omega⟩
    simp only [spec_l08But.l0]
    rw [if_neg (by omega), List.drop_eq_nil_of_le (by omega)]
    simp
  | succ d ih =>
    intro k j out hd hj hk ho
    obtain ⟨k, rfl⟩ : ∃ m, k = m + 1 := ⟨k - 1, by omega⟩
    simp only [spec_l08But.l0]
    rw [if_pos (by omega), if_pos (by omega), if_pos (by omega), rd_nat, w64 (by omega) (by omega), getD_drop l j (by omega), show (j : Int) + 1 = ((j + 1 : Nat) : Int) by omega]
    by_cases h : l.getD j 0 = x
    · rw [if_pos h, ih k (j + 1) out (by omega) (by omega) (by omega) (by omega), List.filter_cons_of_neg (by simp only [h]; decide)]
    · rw [if_neg h, if_pos (by omega), ih k (j + 1) _ (by omega) (by omega) (by omega) (by rw [List.length_append, List.length_singleton]; omega), List.filter_cons_of_pos (by simpa using h), List.append_assoc, List.singleton_append]
theorem But (k : Nat) (x : Int) (l : List Int) (hl : l.length ≤ 1048576) (hk : l.length < k) : spec_l08But.f k l x = some (l.filter fun y => !decide (y = x)) := by
  have := But_go x l hl l.length k 0 [] (by omega) (by omega) hk (by simpa using hl)
  simpa [spec_l08But.f] using this
def ins (x : Int) : List Int → List Int
  | [] => [x]
  | y :: t => if x < y then x :: y :: t else y :: ins x t
theorem ins_len (x : Int) (l : List Int) : (ins x l).length = l.length + 1 := by
  induction l with
  | nil => rfl
  | cons y t ih =>
    unfold ins
    split
    · rfl
    · rw [List.length_cons, ih]; rfl
theorem With_t (x : Int) (l : List Int) (hl : l.length ≤ 1048576) (d : Nat) : ∀ (k j : Nat) (out : List Int), l.length - j = d → j ≤ l.length → d < k → out.length + d ≤ 1048577 → spec_l08With.l0 k x out true l (l.length : Int) (j : Int) = some (out ++ l.drop j) := by
  induction d with
  | zero =>
    intro k j out hd hj hk ho
    obtain ⟨k, rfl⟩ : ∃ m, k = m + 1 := ⟨k - 1, by omega⟩
    simp only [spec_l08With.l0]
    rw [if_neg (by omega), List.drop_eq_nil_of_le (by omega)]
    simp
  | succ d ih =>
    intro k j out hd hj hk ho
    obtain ⟨k, rfl⟩ : ∃ m, k = m + 1 := ⟨k - 1, by omega⟩
    simp only [spec_l08With.l0]
    rw [if_pos (by omega), if_pos (by omega), if_pos (by omega), if_pos trivial, if_pos (by omega), rd_nat, w64 (by omega) (by omega), getD_drop l j (by omega), show (j : Int) + 1 = ((j + 1 : Nat) : Int) by omega,
      ih k (j + 1) _ (by omega) (by omega) (by omega) (by rw [List.length_append, List.length_singleton]; omega), List.append_assoc, List.singleton_append]
theorem With_go (x : Int) (l : List Int) (hl : l.length ≤ 1048576) (d : Nat) : ∀ (k j : Nat) (out : List Int), l.length - j = d → j ≤ l.length → d < k → out.length + d ≤ 1048576 → spec_l08With.l0 k x out false l (l.length : Int) (j : Int) = some (out ++ ins x (l.drop j)) := by
  induction d with
  | zero =>
    intro k j out hd hj hk ho
    obtain ⟨k, rfl⟩ : ∃ m, k = m + 1 := ⟨k - 1, by omega⟩
    simp only [spec_l08With.l0]
    rw [if_neg (by omega), if_neg (by decide), List.drop_eq_nil_of_le (by omega), if_pos (by omega)]
    rfl
  | succ d ih =>
    intro k j out hd hj hk ho
    obtain ⟨k, rfl⟩ : ∃ m, k = m + 1 := ⟨k - 1, by omega⟩
    simp only [spec_l08With.l0]
    rw [if_pos (by omega), if_pos (by omega), if_pos (by omega), if_neg (by decide), rd_nat, w64 (by omega) (by omega), getD_drop l j (by omega), show (j : Int) + 1 = ((j + 1 : Nat) : Int) by omega]
    by_cases h : x < l.getD j 0
    · rw [if_pos h, if_pos (by omega), Option.bind_some, if_pos (by rw [List.length_append, List.length_singleton]; omega),
        With_t x l hl d k (j + 1) _ (by omega) (by omega) (by omega) (by simp only [List.length_append, List.length_singleton]; omega)]
      simp only [ins]
      rw [if_pos h]
      simp
    · rw [if_neg h, if_pos (by omega), ih k (j + 1) _ (by omega) (by omega) (by omega) (by rw [List.length_append, List.length_singleton]; omega), List.append_assoc, List.singleton_append]
      simp only [ins]
      rw [if_neg h]
theorem With (k : Nat) (x : Int) (l : List Int) (hl : l.length ≤ 1048576) (hk : l.length < k) : spec_l08With.f k l x = some (ins x l) := by
  have := With_go x l hl l.length k 0 [] (by omega) (by omega) hk (by simpa using hl)
  simpa [spec_l08With.f] using this
theorem At_go (x : Int) (l : List Int) (hl : l.length ≤ 1048576) (hx : x ∉ l) (d : Nat) : ∀ (k j : Nat), l.length - j = d → j ≤ l.length → d < k → ∃ i : Nat, impl_LiApply.l0 k x l (j : Int) = some (i : Int) ∧ j ≤ i ∧ i ≤ l.length ∧ (l.drop j).take (i - j) ++ [x] ++ l.drop i = ins x (l.drop j) := by
  induction d with
  | zero =>
    intro k j hd hj hk
    obtain ⟨k, rfl⟩ : ∃ m, k = m + 1 := ⟨k - 1, by omega⟩
    simp only [impl_LiApply.l0]
    rw [if_neg (by omega)]
    exact ⟨j, rfl, by omega, by omega, by rw [List.drop_eq_nil_of_le (by omega)]; simp [ins]⟩
  | succ d ih =>
    intro k j hd hj hk
    obtain ⟨k, rfl⟩ : ∃ m, k = m + 1 := ⟨k - 1, by omega⟩
    simp only [impl_LiApply.l0]
    rw [if_pos (by omega), if_pos (by omega), rd_nat, w64 (by omega) (by omega), show (j : Int) + 1 = ((j + 1 : Nat) : Int) by omega]
    have hne : l.getD j 0 ≠ x := fun e => hx (by rw [← e]; simp only [List.getD, List.getElem?_eq_getElem (show j < l.length by omega), Option.getD_some]; exact List.getElem_mem _)
    by_cases h : l.getD j 0 < x
    · obtain ⟨i, h1, h2, h3, h4⟩ := ih k (j + 1) (by omega) (by omega) (by omega)
      rw [if_pos h, h1]
      refine ⟨i, rfl, by omega, h3, ?_⟩
      rw [getD_drop l j (by omega), show i - j = (i - (j + 1)) + 1 by omega, List.take_succ_cons]
      simp only [ins]
      rw [if_neg (by omega), ← h4]
      simp
    · rw [if_neg h]
      refine ⟨j, rfl, by omega, by omega, ?_⟩
      rw [getD_drop l j (by omega)]
      simp only [ins]
      rw [if_pos (by omega)]
      simp
theorem At (x : Int) (l : List Int) (hl : l.length ≤ 1048576) (hx : x ∉ l) : ∃ i : Nat, impl_LiApply.l0 (l.length + 2) x l 0 = some (i : Int) ∧ i ≤ l.length ∧ l.take i ++ [x] ++ l.drop i = ins x l := by
  obtain ⟨i, h1, _, h3, h4⟩ := At_go x l hl hx l.length (l.length + 2) 0 (by omega) (by omega) (by omega)
  exact ⟨i, by simpa using h1, h3, by simpa using h4⟩
theorem LiApply_both (l : List Int) (hl : l.length ≤ 1048576) (a b c d e f g h : Int) : ∃ (r : List Int) (q : Bool), r.length ≤ 1048577 ∧
    (∀ k, 1048577 ≤ k → spec_LiApply.f (k + 5) l a b c d e f g h = some (r, q)) ∧ impl_LiApply.f l a b c d e f g h = some (r, q) := by
  have cc := copyInts l (by omega)
  obtain ⟨ix, hix, hmem⟩ := Index c l hl
  have hHas : ∀ k, 1048577 ≤ k → spec_l03Has.f k l c = some (decide (c ∈ l)) := fun k hk => l03Has _ c l hl (by omega)
  have hBut : ∀ k, 1048577 ≤ k → spec_l08But.f k l c = some (l.filter fun y => !decide (y = c)) := fun k hk => But _ c l hl (by omega)
  have hWith : ∀ k, 1048577 ≤ k → spec_l08With.f k l c = some (ins c l) := fun k hk => With _ c l hl (by omega)
  have hcp : l.length < 17592186044416 := by omega
  have hfl := List.length_filter_le (fun y => !decide (y = c)) l
  unfold impl_LiApply.f
  simp only [cc, hix, Option.bind_some]
  by_cases hm : c ∈ l
  · have h0 : 0 ≤ ix := hmem.2 hm
    have h0' : ¬ ix < 0 := by omega
    have hlp : 0 < l.length := List.length_pos_of_mem hm
    by_cases b1 : b = 1
    · subst b1
      by_cases d4 : d = 4
      · subst d4
        exact ⟨l, true, by omega, fun k hk => by simp (disch := omega) [spec_LiApply.f, spec_LiApply.j0, spec_LiApply.j1, spec_LiApply.j2, spec_LiApply.j3, hHas, hm, hcp], by simp [h0, h0']⟩
      · by_cases d1 : d = 1
        · subst d1
          exact ⟨[], false, by simp, fun k hk => by simp (disch := omega) [spec_LiApply.f, spec_LiApply.j0, spec_LiApply.j1, spec_LiApply.j2, spec_LiApply.j3, hHas, hm, hcp], by simp [h0, h0']⟩
        · exact ⟨[], false, by simp, fun k hk => by simp (disch := omega) [spec_LiApply.f, spec_LiApply.j0, spec_LiApply.j1, spec_LiApply.j2, spec_LiApply.j3, hHas, hm, hcp, d1, d4], by simp [h0, h0', d1, d4]⟩
    · by_cases b2 : b = 2
      · subst b2
        by_cases d1 : d = 1
        · subst d1
          exact ⟨l.filter fun y => !decide (y = c), true, by omega, fun k hk => by simp (disch := omega) [spec_LiApply.f, spec_LiApply.j0, spec_LiApply.j1, spec_LiApply.j2, spec_LiApply.j3, hHas, hm, hcp, hBut], by simp [h0, h0', hlp]⟩
        · by_cases d4 : d = 4
          · subst d4
            exact ⟨[], false, by simp, fun k hk => by simp (disch := omega) [spec_LiApply.f, spec_LiApply.j0, spec_LiApply.j1, spec_LiApply.j2, spec_LiApply.j3, hHas, hm, hcp], by simp [h0, h0']⟩
          · exact ⟨[], false, by simp, fun k hk => by simp (disch := omega) [spec_LiApply.f, spec_LiApply.j0, spec_LiApply.j1, spec_LiApply.j2, spec_LiApply.j3, hHas, hm, hcp, d1, d4], by simp [h0, h0', d1, d4]⟩
      · by_cases b3 : b = 3
        · subst b3
          by_cases d1 : d = 1
          · subst d1
            exact ⟨l, true, by omega, fun k hk => by simp (disch := omega) [spec_LiApply.f, spec_LiApply.j0, spec_LiApply.j1, spec_LiApply.j2, spec_LiApply.j3, hHas, hm, hcp], by simp [h0, h0']⟩
          · by_cases d4 : d = 4
            · subst d4
              exact ⟨[], false, by simp, fun k hk => by simp (disch := omega) [spec_LiApply.f, spec_LiApply.j0, spec_LiApply.j1, spec_LiApply.j2, spec_LiApply.j3, hHas, hm, hcp], by simp [h0, h0']⟩
            · exact ⟨[], false, by simp, fun k hk => by simp (disch := omega) [spec_LiApply.f, spec_LiApply.j0, spec_LiApply.j1, spec_LiApply.j2, spec_LiApply.j3, hHas, hm, hcp, d1, d4], by simp [h0, h0', d1, d4]⟩
        · exact ⟨[], false, by simp, fun k hk => by simp (disch := omega) [spec_LiApply.f, spec_LiApply.j0, spec_LiApply.j1, spec_LiApply.j2, spec_LiApply.j3, hHas, hm, hcp, b1, b2, b3], by simp [h0, h0', b1, b2, b3]⟩
  · have h0 : ¬ 0 ≤ ix := fun h => hm (hmem.1 h)
    have h0' : ix < 0 := by omega
    by_cases b1 : b = 1
    · subst b1
      by_cases d1 : d = 1
      · subst d1
        obtain ⟨i, hi1, hi2, hi3⟩ := At c l hl hm
        refine ⟨ins c l, true, by rw [ins_len]; omega, fun k hk => by simp (disch := omega) [spec_LiApply.f, spec_LiApply.j0, spec_LiApply.j1, spec_LiApply.j2, spec_LiApply.j3, hHas, hm, hcp, hWith], ?_⟩
        rw [if_pos ⟨rfl, rfl, h0'⟩, hi1, Option.bind_some, if_pos ⟨by omega, by omega, by omega⟩, Int.toNat_natCast, hi3]
      · by_cases d4 : d = 4
        · subst d4
          exact ⟨[], false, by simp, fun k hk => by simp (disch := omega) [spec_LiApply.f, spec_LiApply.j0, spec_LiApply.j1, spec_LiApply.j2, spec_LiApply.j3, hHas, hm, hcp], by simp [h0, h0']⟩
        · exact ⟨[], false, by simp, fun k hk => by simp (disch := omega) [spec_LiApply.f, spec_LiApply.j0, spec_LiApply.j1, spec_LiApply.j2, spec_LiApply.j3, hHas, hm, hcp, d1, d4], by simp [h0, h0', d1, d4]⟩
    · by_cases b2 : b = 2
      · subst b2
        by_cases d4 : d = 4
        · subst d4
          exact ⟨l, true, by omega, fun k hk => by simp (disch := omega) [spec_LiApply.f, spec_LiApply.j0, spec_LiApply.j1, spec_LiApply.j2, spec_LiApply.j3, hHas, hm, hcp], by simp [h0, h0']⟩
        · by_cases d1 : d = 1
          · subst d1
            exact ⟨[], false, by simp, fun k hk => by simp (disch := omega) [spec_LiApply.f, spec_LiApply.j0, spec_LiApply.j1, spec_LiApply.j2, spec_LiApply.j3, hHas, hm, hcp], by simp [h0, h0']⟩
          · exact ⟨[], false, by simp, fun k hk => by simp (disch := omega) [spec_LiApply.f, spec_LiApply.j0, spec_LiApply.j1, spec_LiApply.j2, spec_LiApply.j3, hHas, hm, hcp, d1, d4], by simp [h0, h0', d1, d4]⟩
      · by_cases b3 : b = 3
        · subst b3
          by_cases d4 : d = 4
          · subst d4
            exact ⟨l, true, by omega, fun k hk => by simp (disch := omega) [spec_LiApply.f, spec_LiApply.j0, spec_LiApply.j1, spec_LiApply.j2, spec_LiApply.j3, hHas, hm, hcp], by simp [h0, h0']⟩
          · by_cases d1 : d = 1
            · subst d1
              exact ⟨[], false, by simp, fun k hk => by simp (disch := omega) [spec_LiApply.f, spec_LiApply.j0, spec_LiApply.j1, spec_LiApply.j2, spec_LiApply.j3, hHas, hm, hcp], by simp [h0, h0']⟩
            · exact ⟨[], false, by simp, fun k hk => by simp (disch := omega) [spec_LiApply.f, spec_LiApply.j0, spec_LiApply.j1, spec_LiApply.j2, spec_LiApply.j3, hHas, hm, hcp, d1, d4], by simp [h0, h0', d1, d4]⟩
        · exact ⟨[], false, by simp, fun k hk => by simp (disch := omega) [spec_LiApply.f, spec_LiApply.j0, spec_LiApply.j1, spec_LiApply.j2, spec_LiApply.j3, hHas, hm, hcp, b1, b2, b3], by simp [h0, h0', b1, b2, b3]⟩


theorem FnExactLiApply : laws_FnExactLiApply.Pure := by
  intro l a b c d e f g h ⟨hm, _⟩ _
  by_cases hl : l.length ≤ 1048576
  · obtain ⟨K, hK⟩ : ∃ K : Nat, 1048600 ≤ K := ⟨1048600, Nat.le_refl _⟩
    refine ⟨K + 3, ?_⟩
    obtain ⟨r, q, hr, h1, h2⟩ := LiApply_both l hl a b c d e f g h
    have hs : ∀ k, 1048590 ≤ k → spec_LiApply.f k l a b c d e f g h = some (r, q) := fun k hk => by rw [show k = k - 5 + 5 by omega]; exact h1 _ (by omega)
    unfold laws_FnExactLiApply.f
    rw [if_neg (by omega)]
    simp (disch := omega) only [laws_toFact.f, Option.bind_some, toIntS, hs, h2, eqIntS, bne_self_eq_false, markIntS, heldIntS, neg1, if_true, if_false, ite_self, reduceIte, Bool.false_eq_true]
    simp (disch := omega) only [laws_FnExactLiApply.j0, Option.bind_some, toIntS, hs, h2, eqIntS, bne_self_eq_false, markIntS, heldIntS, neg1, if_true, if_false, ite_self, reduceIte, Bool.false_eq_true]
    simp (disch := omega) only [laws_FnExactLiApply.j1, laws_toFact.f, Option.bind_some, toIntS, hs, h2, eqIntS, bne_self_eq_false, markIntS, heldIntS, neg1, if_true, if_false, ite_self, reduceIte, Bool.false_eq_true]
    simp (disch := omega) only [laws_FnExactLiApply.j2, Option.bind_some, toIntS, hs, h2, eqIntS, bne_self_eq_false, markIntS, heldIntS, neg1, if_true, if_false, ite_self, reduceIte, Bool.false_eq_true]
  · refine ⟨0, ?_⟩
    unfold laws_FnExactLiApply.f
    rw [if_pos (by omega)]

end Go.Proofs.Ytjikobdblohphaa.Pure
