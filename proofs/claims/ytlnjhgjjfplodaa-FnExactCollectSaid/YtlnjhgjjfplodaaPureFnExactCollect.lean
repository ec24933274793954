/- The law FnExactCollect answers true whatever its arguments hold: the program's function and the reference's come to the same, and no list of an answer is shared. No condition. -/
import Derived.Test.YtlnjhgjjfplodaaPFnExactCollectx8
namespace Go.Proofs.Ytlnjhgjjfplodaa.Pure
open Go.RowKit Go.Proofs.Ytlnjhgjjfplodaa.PFnExactCollect Go.Proofs.YtlnjhgjjfplodaaW.PrintWords Go.Proofs.YtlnjhgjjfplodaaW.PrintLast
set_option linter.unusedSimpArgs false
set_option linter.unusedVariables false

/-! Small facts. -/
theorem w64 {x : Int} (h0 : -9223372036854775808 ≤ x) (h1 : x ≤ 9223372036854775807) : wrap64 x = x := by unfold wrap64; omega
theorem rd_nat (l : List Int) (j : Nat) : rd l (j : Int) = l.getD j 0 := by simp [rd]
/-- The numbers from m on, n of them. -/
def marked (m : Int) (n : Nat) : List Int := (List.range n).map fun (i : Nat) => m + (i : Int)
theorem marked_len (m : Int) (n : Nat) : (marked m n).length = n := by simp [marked]
theorem marked_get (m : Int) (n j : Nat) (h : j < n) : (marked m n).getD j 0 = m + j := by simp [marked, List.getD, h]
theorem neg1 (n : Nat) : ((1 : Int) + (n : Int) < 0) = False := by simp only [eq_iff_iff, iff_false]; omega
theorem neg0 : ((-1 : Int) < 0) = True := by simp
theorem i64r {n : Int} (h : (Lit.int .i64 n).wf = true) : -9223372036854775808 ≤ n ∧ n ≤ 9223372036854775807 := by
  have e1 : IntKind.i64.min = -9223372036854775808 := by decide
  have e2 : IntKind.i64.max = 9223372036854775807 := by decide
  simp only [Lit.wf, Bool.and_eq_true, decide_eq_true_eq, e1, e2] at h
  exact h

theorem within (a lo hi : Int) : impl_within.f a lo hi = some (decide (lo ≤ a ∧ a ≤ hi)) := by
  unfold impl_within.f
  by_cases h : a ≥ lo
  · rw [if_pos h]
    have h' : lo ≤ a := h
    simp [h']
  · rw [if_neg h]
    have h' : ¬ lo ≤ a := h
    simp [h']

/-! Lists of numbers: copied, compared, marked, held. -/
theorem toIntS_go (x0 : List Int) (hx : x0.length ≤ 140737488355328) (d : Nat) : ∀ (k j : Nat) (x3 : List Int), x3.length = x0.length → x0.length - j = d → j ≤ x0.length → d < k → (∀ i, i < j → x3[i]? = x0[i]?) → laws_toIntS.l0 k x0 x3 (j : Int) = some x0 := by
  induction d with
  | zero =>
    intro k j x3 hl hd hj hk he
    obtain ⟨k, rfl⟩ : ∃ m, k = m + 1 := ⟨k - 1, by omega⟩
    simp only [laws_toIntS.l0]
    rw [if_neg (by omega)]
    refine congrArg some (List.ext_getElem? fun i => ?_)
    by_cases hi : i < j
    · exact he i hi
    · rw [List.getElem?_eq_none (by omega), List.getElem?_eq_none (by omega)]
  | succ d ih =>
    intro k j x3 hl hd hj hk he
    obtain ⟨k, rfl⟩ : ∃ m, k = m + 1 := ⟨k - 1, by omega⟩
    simp only [laws_toIntS.l0]
    rw [if_pos (by omega), if_pos (by omega), if_pos (by omega), w64 (by omega) (by omega)]
    refine ih k (j + 1) _ (by simpa using hl) (by omega) (by omega) (by omega) ?_
    intro i hi
    rw [rd_nat, Int.toNat_natCast, List.getElem?_set]
    by_cases hij : j = i
    · subst hij
      rw [if_pos rfl, if_pos (by omega), List.getElem?_eq_getElem (by omega)]
      simp [List.getD, List.getElem?_eq_getElem (show j < x0.length by omega)]
    · rw [if_neg hij]
      exact he i (by omega)
theorem toIntS (k : Nat) (l : List Int) (hl : l.length ≤ 1048576) (hk : l.length < k) : laws_toIntS.f k l = some l := by
  unfold laws_toIntS.f
  rw [if_pos (by omega), if_pos (by omega)]
  exact toIntS_go l (by omega) l.length k 0 _ (by simp) (by omega) (by omega) (by omega) (fun i hi => absurd hi (by omega))
theorem eqIntS_go (x : List Int) (hx : x.length ≤ 140737488355328) (d : Nat) : ∀ (k j : Nat), x.length - j = d → j ≤ x.length → d < k → laws_eqIntS.l0 k x x (j : Int) = some true := by
  induction d with
  | zero =>
    intro k j hd hj hk
    obtain ⟨k, rfl⟩ : ∃ m, k = m + 1 := ⟨k - 1, by omega⟩
    simp only [laws_eqIntS.l0]
    rw [if_neg (by omega)]
  | succ d ih =>
    intro k j hd hj hk
    obtain ⟨k, rfl⟩ : ∃ m, k = m + 1 := ⟨k - 1, by omega⟩
    simp only [laws_eqIntS.l0]
    rw [if_pos (by omega), if_pos (by omega), if_pos (by omega), if_pos trivial, w64 (by omega) (by omega)]
    exact ih k (j + 1) (by omega) (by omega) (by omega)
theorem eqIntS (k : Nat) (l : List Int) (hl : l.length ≤ 140737488355328) (hk : l.length < k) : laws_eqIntS.f k l l = some true := by
  unfold laws_eqIntS.f
  rw [if_pos rfl]
  exact eqIntS_go l hl l.length k 0 (by omega) (by omega) hk

theorem markIntS_go (n : Nat) (hn : n ≤ 140737488355328) (m : Int) (hm0 : 0 ≤ m) (hm : m + n ≤ 140737488355328) (d : Nat) : ∀ (k j : Nat) (x0 : List Int), x0.length = n → n - j = d → j ≤ n → d < k → (∀ i, i < j → x0[i]? = some (m + i)) →
    laws_markIntS.l0 k x0 (m + j) (j : Int) = some (m + n, marked m n) := by
  induction d with
  | zero =>
    intro k j x0 hl hd hj hk he
    obtain ⟨k, rfl⟩ : ∃ m, k = m + 1 := ⟨k - 1, by omega⟩
    simp only [laws_markIntS.l0]
    rw [if_neg (by omega)]
    obtain rfl : j = n := by omega
    refine congrArg some (Prod.ext rfl (List.ext_getElem? fun i => ?_))
    show x0[i]? = (marked m j)[i]?
    by_cases hi : i < j
    · rw [he i hi]; simp [marked, hi]
    · rw [List.getElem?_eq_none (by omega), List.getElem?_eq_none (by rw [marked_len]; omega)]
  | succ d ih =>
    intro k j x0 hl hd hj hk he
    obtain ⟨k, rfl⟩ : ∃ m, k = m + 1 := ⟨k - 1, by omega⟩
    simp only [laws_markIntS.l0]
    rw [if_pos (by omega), if_pos (by omega), w64 (by omega) (by omega), w64 (by omega) (by omega), show m + (j : Int) + 1 = m + ((j + 1 : Nat) : Int) by omega]
    refine ih k (j + 1) _ (by simpa using hl) (by omega) (by omega) (by omega) ?_
    intro i hi
    rw [Int.toNat_natCast, List.getElem?_set]
    by_cases hij : j = i
    · subst hij
      rw [if_pos rfl, if_pos (by omega)]
    · rw [if_neg hij]
      exact he i (by omega)
theorem markIntS (k : Nat) (l : List Int) (m : Int) (hm0 : 0 ≤ m) (hm : m + l.length ≤ 140737488355328) (hk : l.length < k) : laws_markIntS.f k l m = some (m + l.length, marked m l.length) := by
  unfold laws_markIntS.f
  have := markIntS_go l.length (by omega) m hm0 hm l.length k 0 l rfl (by omega) (by omega) hk (fun i hi => absurd hi (by omega))
  simpa using this
theorem heldIntS_go (n : Nat) (m : Int) (hm0 : 0 ≤ m) (hm : m + n ≤ 140737488355328) (d : Nat) : ∀ (k j : Nat), n - j = d → j ≤ n → d < k → laws_heldIntS.l0 k (marked m n) (m + j) (j : Int) = some (m + n) := by
  induction d with
  | zero =>
    intro k j hd hj hk
    obtain ⟨k, rfl⟩ : ∃ m, k = m + 1 := ⟨k - 1, by omega⟩
    simp only [laws_heldIntS.l0, marked_len]
    rw [if_neg (by omega)]
    obtain rfl : j = n := by omega
    rfl
  | succ d ih =>
    intro k j hd hj hk
    obtain ⟨k, rfl⟩ : ∃ m, k = m + 1 := ⟨k - 1, by omega⟩
    simp only [laws_heldIntS.l0, marked_len]
    rw [if_pos (by omega), if_pos (by omega), if_pos (by rw [rd_nat]; exact marked_get m n j (by omega)), w64 (by omega) (by omega), w64 (by omega) (by omega), show m + (j : Int) + 1 = m + ((j + 1 : Nat) : Int) by omega]
    exact ih k (j + 1) (by omega) (by omega) (by omega)
theorem heldIntS (k : Nat) (n : Nat) (m : Int) (hm0 : 0 ≤ m) (hm : m + n ≤ 140737488355328) (hk : n < k) : laws_heldIntS.f k (marked m n) m = some (m + n) := by
  unfold laws_heldIntS.f
  have := heldIntS_go n m hm0 hm n k 0 (by omega) (by omega) hk
  simpa using this

/-! Lists of what is gone. -/
def gconv (x : S61) : S48 := ⟨x.f0, x.f1⟩
theorem rdT61_nat (l : List S61) (j : Nat) : rd_T61 l (j : Int) = l.getD j z61 := by simp [rd_T61]
theorem rdT48_nat (l : List S48) (j : Nat) : rd_T48 l (j : Int) = l.getD j z48 := by simp [rd_T48]
theorem toGoneS_go (x0 : List S61) (hx : x0.length ≤ 1048576) (d : Nat) : ∀ (k j : Nat) (x3 : List S48), x3.length = x0.length → x0.length - j = d → j ≤ x0.length → d < k → (∀ i, i < j → x3[i]? = (x0.map gconv)[i]?) → laws_toGoneS.l0 k x0 x3 (j : Int) = some (x0.map gconv) := by
  induction d with
  | zero =>
    intro k j x3 hl hd hj hk he
    obtain ⟨k, rfl⟩ : ∃ m, k = m + 1 := ⟨k - 1, by omega⟩
    simp only [laws_toGoneS.l0]
    rw [if_neg (by omega)]
    refine congrArg some (List.ext_getElem? fun i => ?_)
    by_cases hi : i < j
    · exact he i hi
    · rw [List.getElem?_eq_none (show x3.length ≤ i by omega)]
      exact (List.getElem?_eq_none (by rw [List.length_map]; omega)).symm
  | succ d ih =>
    intro k j x3 hl hd hj hk he
    obtain ⟨k, rfl⟩ : ∃ m, k = m + 1 := ⟨k - 1, by omega⟩
    simp only [laws_toGoneS.l0, laws_toGone.f]
    rw [if_pos (by omega), if_pos (by omega)]
    simp only [Option.bind_some]
    rw [if_pos (by omega), w64 (by omega) (by omega)]
    refine ih k (j + 1) _ (by simpa using hl) (by omega) (by omega) (by omega) ?_
    intro i hi
    rw [rdT61_nat, Int.toNat_natCast, List.getElem?_set]
    by_cases hij : j = i
    · subst hij
      rw [if_pos rfl, if_pos (by omega), List.getElem?_eq_getElem (by rw [List.length_map]; omega), List.getElem_map]
      simp [gconv, List.getD, List.getElem?_eq_getElem (show j < x0.length by omega)]
    · rw [if_neg hij]
      exact he i (by omega)
theorem toGoneS (k : Nat) (l : List S61) (hl : l.length ≤ 1048576) (hk : l.length < k) : laws_toGoneS.f k l = some (l.map gconv) := by
  unfold laws_toGoneS.f
  rw [if_pos (by omega), if_pos (by omega)]
  exact toGoneS_go l (by omega) l.length k 0 _ (by simp) (by omega) (by omega) (by omega) (fun i hi => absurd hi (by omega))
theorem eqGoneS_go (x : List S48) (hx : x.length ≤ 2097152) (d : Nat) : ∀ (k j : Nat), x.length - j = d → j ≤ x.length → d < k → laws_eqGoneS.l0 k x x (j : Int) = some true := by
  induction d with
  | zero =>
    intro k j hd hj hk
    obtain ⟨k, rfl⟩ : ∃ e, k = e + 1 := ⟨k - 1, by omega⟩
    simp only [laws_eqGoneS.l0]
    rw [if_neg (by omega)]
  | succ d ih =>
    intro k j hd hj hk
    obtain ⟨k, rfl⟩ : ∃ e, k = e + 1 := ⟨k - 1, by omega⟩
    simp only [laws_eqGoneS.l0, laws_eqGone.f]
    rw [if_pos (by omega), if_pos (by omega), if_pos (by omega)]
    simp only [if_true, Option.bind_some]
    rw [w64 (by omega) (by omega), show (j : Int) + 1 = ((j + 1 : Nat) : Int) by omega]
    exact ih k (j + 1) (by omega) (by omega) (by omega)
theorem eqGoneS (k : Nat) (l : List S48) (hl : l.length ≤ 2097152) (hk : l.length < k) : laws_eqGoneS.f k l l = some true := by
  unfold laws_eqGoneS.f
  rw [if_pos rfl]
  simpa using eqGoneS_go l (by omega) l.length k 0 (by omega) (by omega) hk
/-! The ages. -/
theorem szAges (a : Int) (c : List Int) (d : List S61) (hc : c.length ≤ maxLen) (hd : d.length ≤ maxLen) : (laws_szAges.f a c d 1048576 = some (-1)) ∨ (c.length + d.length ≤ 1048576 ∧ laws_szAges.f a c d 1048576 = some (1048576 - (c.length : Int) - (d.length : Int))) := by
  simp only [maxLen] at hc hd
  unfold laws_szAges.f laws_szIntS.f laws_szGoneS.f
  rw [w64 (x := 1048576 - (c.length : Int)) (by omega) (by omega)]
  by_cases h1 : 1048576 - (c.length : Int) < 0
  · refine Or.inl ?_
    rw [if_pos h1]; rfl
  · rw [if_neg h1]
    simp only [Option.bind_some]
    rw [if_neg h1, w64 (x := 1048576 - (c.length : Int) - (d.length : Int)) (by omega) (by omega)]
    by_cases h2 : 1048576 - (c.length : Int) - (d.length : Int) < 0
    · refine Or.inl ?_
      rw [if_pos h2]; rfl
    · rw [if_neg h2]
      simp only [Option.bind_some]
      rw [if_neg h2]
      exact Or.inr ⟨by omega, rfl⟩
theorem toAges (k : Nat) (a : Int) (c : List Int) (d : List S61) (h : c.length + d.length ≤ 1048576) (hk : 1048577 ≤ k) : laws_toAges.f k a c d = some (a, c, d.map gconv) := by
  unfold laws_toAges.f
  rw [toIntS k c (by omega) (by omega), toGoneS k d (by omega) (by omega)]
  rfl
theorem eqAges (k : Nat) (a : Int) (c : List Int) (d : List S48) (h : c.length ≤ 1048576) (h2 : d.length ≤ 2097152) (hk : 2097153 ≤ k) : laws_eqAges.f k a c d a c d = some true := by
  unfold laws_eqAges.f
  rw [eqIntS k c (by omega) (by omega), eqGoneS k d (by omega) (by omega)]
  simp

/-! AgesOk. -/
theorem isNum (x : Int) : impl_isNum.f x = some (decide (0 ≤ x ∧ x ≤ 4294967295)) := by
  unfold impl_isNum.f
  rw [within]; rfl
theorem l01Num (x : Int) : spec_l01Num.f x = some (decide (0 ≤ x ∧ x ≤ 4294967295)) := by
  unfold spec_l01Num.f
  by_cases h : x ≥ 0
  · have h' : 0 ≤ x := h
    rw [if_pos h]; simp [h']
  · have h' : ¬ 0 ≤ x := h
    rw [if_neg h]; simp [h']
theorem node_go (x : Int) (l : List S48) (hl : l.length ≤ 2097152) (d : Nat) : ∀ (k j : Nat), l.length - j = d → j ≤ l.length → d < k → spec_l06Node.l0 k x l (l.length : Int) (j : Int) = some (decide (x ∈ (l.drop j).map S48.f0)) := by
  induction d with
  | zero =>
    intro k j hd hj hk
    obtain ⟨k, rfl⟩ : ∃ m, k = m + 1 := ⟨k - 1, by omega⟩
    simp only [spec_l06Node.l0]
    rw [if_neg (by omega), List.drop_eq_nil_of_le (by omega)]
    simp
  | succ d ih =>
    intro k j hd hj hk
    obtain ⟨k, rfl⟩ : ∃ m, k = m + 1 := ⟨k - 1, by omega⟩
    have hlt : j < l.length := by omega
    have hdr : l.drop j = l.getD j z48 :: l.drop (j + 1) := by
      rw [List.drop_eq_getElem_cons hlt]; simp [List.getD, hlt]
    simp only [spec_l06Node.l0]
    rw [if_pos (by omega), if_pos (by omega), if_pos (by omega), rdT48_nat, w64 (by omega) (by omega), hdr, show (j : Int) + 1 = ((j + 1 : Nat) : Int) by omega, ih k (j + 1) (by omega) (by omega) (by omega)]
    by_cases h : (l.getD j z48).f0 = x
    · rw [if_pos h]
      refine congrArg some (Eq.symm (decide_eq_true ?_))
      rw [List.map_cons, List.mem_cons]; exact Or.inl h.symm
    · rw [if_neg h]
      refine congrArg some ?_
      rw [Bool.eq_iff_iff]
      simp only [decide_eq_true_eq, List.map_cons, List.mem_cons]
      exact ⟨Or.inr, fun hh => hh.resolve_left (fun e => h e.symm)⟩
theorem node (k : Nat) (x : Int) (l : List S48) (hl : l.length ≤ 2097152) (hk : l.length < k) : spec_l06Node.f k l x = some (decide (x ∈ l.map S48.f0)) := by
  unfold spec_l06Node.f
  have := node_go x l hl l.length k 0 (by omega) (by omega) hk
  simpa using this
theorem limbo_go (x : Int) (l : List S48) (hl : l.length ≤ 2097152) (i : Nat) (hi : i < l.length) (hx : (l.getD i z48).f0 = x) (d : Nat) : ∀ (k j : Nat), i - j = d → j ≤ i → d < k → ∃ r : Nat, r ≤ i ∧ impl_Ages_inLimbo.l0 k x l (l.length : Int) (j : Int) = some (r : Int) ∧ (r = i ↔ ∀ m, j ≤ m → m < i → (l.getD m z48).f0 ≠ x) := by
  induction d with
  | zero =>
    intro k j hd hj hk
    obtain ⟨k, rfl⟩ : ∃ m, k = m + 1 := ⟨k - 1, by omega⟩
    have : j = i := by omega
    subst this
    refine ⟨j, Nat.le_refl _, ?_, ?_⟩
    · simp only [impl_Ages_inLimbo.l0]
      rw [if_pos (by omega), if_pos (by omega), if_pos (by omega), rdT48_nat, if_pos hx]
    · exact ⟨fun _ m h1 h2 => by omega, fun _ => rfl⟩
  | succ d ih =>
    intro k j hd hj hk
    obtain ⟨k, rfl⟩ : ∃ m, k = m + 1 := ⟨k - 1, by omega⟩
    by_cases h : (l.getD j z48).f0 = x
    · refine ⟨j, by omega, ?_, ?_⟩
      · simp only [impl_Ages_inLimbo.l0]
        rw [if_pos (by omega), if_pos (by omega), if_pos (by omega), rdT48_nat, if_pos h]
      · exact ⟨fun e => by omega, fun hh => absurd h (hh j (Nat.le_refl _) (by omega))⟩
    · obtain ⟨r, h1, h2, h3⟩ := ih k (j + 1) (by omega) (by omega) (by omega)
      refine ⟨r, h1, ?_, ?_⟩
      · simp only [impl_Ages_inLimbo.l0]
        rw [if_pos (by omega), if_pos (by omega), if_pos (by omega), rdT48_nat, if_neg h, w64 (by omega) (by omega), show (j : Int) + 1 = ((j + 1 : Nat) : Int) by omega, h2]
      · rw [h3]
        exact ⟨fun hh m hm1 hm2 => by
          by_cases e : m = j
          · subst e; exact h
          · exact hh m (by omega) hm2, fun hh m hm1 hm2 => hh m (by omega) hm2⟩
theorem limbo (k : Nat) (a : Int) (c : List Int) (l : List S48) (hl : l.length ≤ 2097152) (i : Nat) (hi : i < l.length) (hk : l.length < k) : ∃ r : Nat, impl_Ages_inLimbo.f k a c l (l.getD i z48).f0 = some (r : Int) ∧ (r = i ↔ (l.getD i z48).f0 ∉ (l.take i).map S48.f0) := by
  obtain ⟨r, h1, h2, h3⟩ := limbo_go _ l hl i hi rfl i k 0 (by omega) (by omega) (by omega)
  refine ⟨r, ?_, ?_⟩
  · unfold impl_Ages_inLimbo.f
    simpa using h2
  · rw [h3]
    constructor
    · intro hh hm
      obtain ⟨y, hy, e⟩ := List.mem_map.1 hm
      obtain ⟨m, hm1, hm2⟩ := List.mem_iff_getElem.1 hy
      rw [List.length_take] at hm1
      rw [List.getElem_take] at hm2
      refine hh m (by omega) (by omega) ?_
      rw [← e, ← hm2]
      simp [List.getD, show m < l.length by omega]
    · intro hn m _ hm e
      refine hn (List.mem_map.2 ⟨l.getD m z48, ?_, e⟩)
      refine List.mem_iff_getElem.2 ⟨m, by rw [List.length_take]; omega, ?_⟩
      rw [List.getElem_take]
      simp [List.getD, show m < l.length by omega]
theorem AgesOk_l1 (a : Int) (ha : 0 ≤ a) (c : List Int) (l : List S48) (hl : l.length ≤ 100) (d : Nat) : ∀ (j : Nat), l.length - j = d → j ≤ l.length → ∃ b : Bool, (b = true → ∀ i, j ≤ i → i < l.length → (l.getD i z48).f0 ∉ (l.take i).map S48.f0) ∧ ∀ k, d + 200 < k → spec_AgesOk.l1 k l (l.length : Int) (j : Int) a c l = some b ∧ impl_AgesOk.l1 k l (l.length : Int) (j : Int) a c l = some b := by
  induction d with
  | zero =>
    intro j hd hj
    refine ⟨true, fun _ i h1 h2 => by omega, fun k hk => ?_⟩
    obtain ⟨k, rfl⟩ : ∃ m, k = m + 1 := ⟨k - 1, by omega⟩
    simp only [spec_AgesOk.l1, impl_AgesOk.l1]
    rw [if_neg (by omega), if_neg (by omega)]
    exact ⟨rfl, rfl⟩
  | succ d ih =>
    intro j hd hj
    obtain ⟨b, hbu, hb⟩ := ih (j + 1) (by omega) (by omega)
    have g : (j : Int) < (l.length : Int) := by omega
    have g0 : 0 ≤ (j : Int) := by omega
    have g1 : (j : Int) ≤ (l.length : Int) := by omega
    have gw : wrap64 ((j : Int) + 1) = ((j + 1 : Nat) : Int) := by rw [w64 (by omega) (by omega)]; omega
    have gm : wrap64 ((j : Int) - 1) = (j : Int) - 1 := w64 (by omega) (by omega)
    have gt : ((j : Int)).toNat = j := by omega
    by_cases hf : 0 ≤ (rd_T48 l (j : Int)).f1 ∧ (rd_T48 l (j : Int)).f1 ≤ a
    · by_cases ho : (j : Int) > 0 ∧ (rd_T48 l ((j : Int) - 1)).f1 > (rd_T48 l (j : Int)).f1
      · refine ⟨false, by simp, fun k hk => ?_⟩
        obtain ⟨k, rfl⟩ : ∃ m, k = m + 1 := ⟨k - 1, by omega⟩
        refine ⟨?_, ?_⟩
        · simp only [spec_AgesOk.l1]
          rw [if_pos g, if_pos g0, if_pos g, if_neg (by omega), if_neg (by omega), if_pos ho.1, gm, if_pos (by omega), if_pos (by omega), if_pos ho.2]
        · simp only [impl_AgesOk.l1, within]
          rw [if_pos g, if_pos g0, if_pos g]
          simp only [Option.bind_some]
          rw [if_pos (decide_eq_true hf), if_pos ho.1, gm, if_pos (by omega), if_pos (by omega), if_pos ho.2]
      · have key : ∃ b' : Bool, (b' = true → ∀ i, j ≤ i → i < l.length → (l.getD i z48).f0 ∉ (l.take i).map S48.f0) ∧ ∀ k, d + 200 < k →
            ((spec_l06Node.f k (l.take j) ((rd_T48 l (j : Int)).f0)).bind fun t => (if t = true then some false else spec_AgesOk.l1 k l (l.length : Int) ((j + 1 : Nat) : Int) a c l)) = some b' ∧
            ((impl_Ages_inLimbo.f k a c l ((rd_T48 l (j : Int)).f0)).bind fun t => (if t = (j : Int) then impl_AgesOk.l1 k l (l.length : Int) ((j + 1 : Nat) : Int) a c l else some false)) = some b' := by
          by_cases hm : (rd_T48 l (j : Int)).f0 ∈ (l.take j).map S48.f0
          · refine ⟨false, by simp, fun k hk => ?_⟩
            obtain ⟨r, h1, h2⟩ := limbo k a c l (by omega) j (by omega) (by omega)
            rw [rdT48_nat] at hm ⊢
            have hr : ¬ r = j := fun e => h2.1 e hm
            rw [node k _ _ (by rw [List.length_take]; omega) (by rw [List.length_take]; omega), h1]
            simp only [Option.bind_some]
            rw [if_pos (decide_eq_true hm), if_neg (by omega)]
            exact ⟨rfl, rfl⟩
          · refine ⟨b, fun hbt i h1 h2 => ?_, fun k hk => ?_⟩
            · by_cases e : i = j
              · subst e; rw [rdT48_nat] at hm; exact hm
              · exact hbu hbt i (by omega) h2
            obtain ⟨r, h1, h2⟩ := limbo k a c l (by omega) j (by omega) (by omega)
            rw [rdT48_nat] at hm ⊢
            have hr : r = j := h2.2 hm
            rw [node k _ _ (by rw [List.length_take]; omega) (by rw [List.length_take]; omega), h1]
            simp only [Option.bind_some]
            rw [if_neg (by rw [decide_eq_true_eq]; exact hm), if_pos (by omega)]
            exact hb k (by omega)
        obtain ⟨b', hbu', hb'⟩ := key
        refine ⟨b', hbu', fun k hk => ?_⟩
        obtain ⟨k, rfl⟩ : ∃ m, k = m + 1 := ⟨k - 1, by omega⟩
        obtain ⟨k1, k2⟩ := hb' k (by omega)
        refine ⟨?_, ?_⟩
        · simp only [spec_AgesOk.l1, gw, gt]
          rw [if_pos g, if_pos g0, if_pos g, if_neg (by omega), if_neg (by omega), if_pos g1, k1, gm]
          by_cases hj0 : (j : Int) > 0
          · have hno : ¬ (rd_T48 l ((j : Int) - 1)).f1 > (rd_T48 l (j : Int)).f1 := fun h => ho ⟨hj0, h⟩
            rw [if_pos hj0, if_pos (by omega), if_pos (by omega), if_neg hno]
          · rw [if_neg hj0]
        · simp only [impl_AgesOk.l1, within, gw]
          rw [if_pos g, if_pos g0, if_pos g]
          simp only [Option.bind_some]
          rw [if_pos (decide_eq_true hf), k2, gm]
          by_cases hj0 : (j : Int) > 0
          · have hno : ¬ (rd_T48 l ((j : Int) - 1)).f1 > (rd_T48 l (j : Int)).f1 := fun h => ho ⟨hj0, h⟩
            rw [if_pos hj0, if_pos (by omega), if_pos (by omega), if_neg hno]
          · rw [if_neg hj0]
    · refine ⟨false, by simp, fun k hk => ?_⟩
      obtain ⟨k, rfl⟩ : ∃ m, k = m + 1 := ⟨k - 1, by omega⟩
      refine ⟨?_, ?_⟩
      · simp only [spec_AgesOk.l1]
        rw [if_pos g, if_pos g0, if_pos g]
        by_cases h1 : (rd_T48 l (j : Int)).f1 < 0
        · rw [if_pos h1]
        · rw [if_neg h1, if_pos (by omega)]
      · simp only [impl_AgesOk.l1, within]
        rw [if_pos g, if_pos g0, if_pos g]
        simp only [Option.bind_some]
        rw [if_neg (by rw [decide_eq_true_eq]; exact hf)]
theorem AgesOk_l0 (a : Int) (ha : 0 ≤ a) (ha2 : a ≤ 4294967295) (c : List Int) (hc : c.length ≤ 8) (l : List S48) (hl : l.length ≤ 100) (d : Nat) : ∀ (j : Nat), c.length - j = d → j ≤ c.length → ∃ b : Bool, (b = true → ∀ i, i < l.length → (l.getD i z48).f0 ∉ (l.take i).map S48.f0) ∧ ∀ k, d + 400 < k → spec_AgesOk.l0 k c (c.length : Int) (j : Int) a c l = some b ∧ impl_AgesOk.l0 k c (c.length : Int) (j : Int) a c l = some b := by
  induction d with
  | zero =>
    intro j hd hj
    obtain ⟨b, hbu, hb⟩ := AgesOk_l1 a ha c l hl l.length 0 (by omega) (by omega)
    refine ⟨b, fun h i hi => hbu h i (by omega) hi, fun k hk => ?_⟩
    obtain ⟨k, rfl⟩ : ∃ m, k = m + 1 := ⟨k - 1, by omega⟩
    simp only [spec_AgesOk.l0, impl_AgesOk.l0]
    rw [if_neg (by omega), if_neg (by omega)]
    exact hb k (by omega)
  | succ d ih =>
    intro j hd hj
    obtain ⟨b, hbu, hb⟩ := ih (j + 1) (by omega) (by omega)
    have g : (j : Int) < (c.length : Int) := by omega
    have g0 : 0 ≤ (j : Int) := by omega
    have gw : wrap64 ((j : Int) + 1) = ((j + 1 : Nat) : Int) := by rw [w64 (by omega) (by omega)]; omega
    have gm : wrap64 (a - 1) = a - 1 := w64 (by omega) (by omega)
    by_cases h : rd c (j : Int) = -1 ∨ rd c (j : Int) = a ∨ (0 ≤ rd c (j : Int) ∧ rd c (j : Int) = a - 1)
    · refine ⟨b, hbu, fun k hk => ?_⟩
      obtain ⟨k, rfl⟩ : ∃ m, k = m + 1 := ⟨k - 1, by omega⟩
      have := hb k (by omega)
      refine ⟨?_, ?_⟩
      · simp only [spec_AgesOk.l0, gw, gm]
        rw [if_pos g, if_pos g0, if_pos g, this.1]
        by_cases h1 : rd c (j : Int) = -1
        · rw [if_pos h1]
        · rw [if_neg h1]
          by_cases h2 : rd c (j : Int) = a
          · rw [if_pos h2]
          · rw [if_neg h2, if_neg (by omega), if_pos (by omega)]
      · simp only [impl_AgesOk.l0, gw, gm]
        rw [if_pos g, if_pos g0, if_pos g, if_neg (show ¬ rd c (j : Int) < -1 by omega), this.2]
        by_cases h1 : rd c (j : Int) = -1
        · rw [if_pos h1]
        · rw [if_neg h1]
          by_cases h2 : rd c (j : Int) = a
          · rw [if_pos h2]
          · rw [if_neg h2, if_pos (by omega)]
    · refine ⟨false, by simp, fun k hk => ?_⟩
      obtain ⟨k, rfl⟩ : ∃ m, k = m + 1 := ⟨k - 1, by omega⟩
      refine ⟨?_, ?_⟩
      · simp only [spec_AgesOk.l0, gw, gm]
        rw [if_pos g, if_pos g0, if_pos g, if_neg (by omega), if_neg (by omega)]
        by_cases h3 : rd c (j : Int) < 0
        · rw [if_pos h3]
        · rw [if_neg h3, if_neg (by omega)]
      · simp only [impl_AgesOk.l0, gw, gm]
        rw [if_pos g, if_pos g0, if_pos g]
        by_cases h3 : rd c (j : Int) < -1
        · rw [if_pos h3]
        · rw [if_neg h3, if_neg (by omega), if_neg (by omega), if_neg (by omega)]
theorem AgesOk_both (a : Int) (c : List Int) (hcl : c.length ≤ 1048576) (l : List S48) (hll : l.length ≤ 2097152) : ∃ b : Bool, (b = true → 0 ≤ a ∧ a ≤ 4294967295 ∧ 1 ≤ c.length ∧ c.length ≤ 8 ∧ l.length ≤ 100 ∧ ∀ i, i < l.length → (l.getD i z48).f0 ∉ (l.take i).map S48.f0) ∧ ∀ k, 500 ≤ k → spec_AgesOk.f k a c l = some b ∧ impl_AgesOk.f k a c l = some b := by
  by_cases ha : 0 ≤ a ∧ a ≤ 4294967295
  · by_cases hc : 1 ≤ (c.length : Int) ∧ (c.length : Int) ≤ 8
    · by_cases hl : l.length ≤ 100
      · obtain ⟨b, hbu, hb⟩ := AgesOk_l0 a ha.1 ha.2 c (by omega) l hl c.length 0 (by omega) (by omega)
        refine ⟨b, fun h => ⟨ha.1, ha.2, by omega, by omega, hl, hbu h⟩, fun k hk => ?_⟩
        obtain ⟨k, rfl⟩ : ∃ m, k = m + 1 := ⟨k - 1, by omega⟩
        have := hb k (by omega)
        have hd : decide ((l.length : Int) > 100) = false := decide_eq_false (by omega)
        refine ⟨?_, ?_⟩
        · unfold spec_AgesOk.f
          rw [l01Num]
          simp only [Option.bind_some, hd]
          rw [if_pos (decide_eq_true ha), if_neg (by omega), if_neg (by omega)]
          simp only [spec_AgesOk.j0, Bool.false_eq_true, if_false]
          exact this.1
        · unfold impl_AgesOk.f
          rw [isNum, within]
          simp only [Option.bind_some, hd]
          rw [if_pos (decide_eq_true ha), if_pos (decide_eq_true hc)]
          simp only [impl_AgesOk.j0, Bool.false_eq_true, if_false]
          exact this.2
      · refine ⟨false, by simp, fun k hk => ?_⟩
        obtain ⟨k, rfl⟩ : ∃ m, k = m + 1 := ⟨k - 1, by omega⟩
        have hd : decide ((l.length : Int) > 100) = true := decide_eq_true (by omega)
        refine ⟨?_, ?_⟩
        · unfold spec_AgesOk.f
          rw [l01Num]
          simp only [Option.bind_some, hd]
          rw [if_pos (decide_eq_true ha), if_neg (by omega), if_neg (by omega)]
          simp only [spec_AgesOk.j0, if_true]
        · unfold impl_AgesOk.f
          rw [isNum, within]
          simp only [Option.bind_some, hd]
          rw [if_pos (decide_eq_true ha), if_pos (decide_eq_true hc)]
          simp only [impl_AgesOk.j0, if_true]
    · refine ⟨false, by simp, fun k hk => ?_⟩
      obtain ⟨k, rfl⟩ : ∃ m, k = m + 1 := ⟨k - 1, by omega⟩
      refine ⟨?_, ?_⟩
      · unfold spec_AgesOk.f
        rw [l01Num]
        simp only [Option.bind_some]
        rw [if_pos (decide_eq_true ha)]
        simp only [spec_AgesOk.j0, if_true]
        by_cases h1 : (c.length : Int) < 1
        · rw [if_pos h1]
        · rw [if_neg h1, if_pos (by omega)]
      · unfold impl_AgesOk.f
        rw [isNum, within]
        simp only [Option.bind_some]
        rw [if_pos (decide_eq_true ha), if_neg (by rw [decide_eq_true_eq]; exact hc)]
        simp only [impl_AgesOk.j0, if_true]
  · refine ⟨false, by simp, fun k hk => ?_⟩
    obtain ⟨k, rfl⟩ : ∃ m, k = m + 1 := ⟨k - 1, by omega⟩
    refine ⟨?_, ?_⟩
    · unfold spec_AgesOk.f
      rw [l01Num]
      simp only [Option.bind_some]
      rw [if_neg (by rw [decide_eq_true_eq]; exact ha)]
      simp only [spec_AgesOk.j0, if_true]
    · unfold impl_AgesOk.f
      rw [isNum]
      simp only [Option.bind_some]
      rw [if_neg (by rw [decide_eq_true_eq]; exact ha)]
      simp only [impl_AgesOk.j0, if_true]

/-! The marks of the ages. -/
def gmarked (m : Int) (n : Nat) : List S48 := (List.range n).map fun (i : Nat) => ⟨m + 2 * (i : Int), m + 2 * (i : Int) + 1⟩
theorem gmarked_len (m : Int) (n : Nat) : (gmarked m n).length = n := by simp [gmarked]
theorem gmarked_get (m : Int) (n j : Nat) (h : j < n) : (gmarked m n).getD j z48 = ⟨m + 2 * (j : Int), m + 2 * (j : Int) + 1⟩ := by simp [gmarked, List.getD, h]
theorem markGoneS_go (n : Nat) (hn : n ≤ 4194304) (m : Int) (hm0 : 0 ≤ m) (hm : m ≤ 1000000000) (d : Nat) : ∀ (k j : Nat) (x0 : List S48), x0.length = n → n - j = d → j ≤ n → d < k → (∀ i, i < j → x0[i]? = some ⟨m + 2 * (i : Int), m + 2 * (i : Int) + 1⟩) →
    laws_markGoneS.l0 k x0 (m + 2 * (j : Int)) (j : Int) = some (m + 2 * (n : Int), gmarked m n) := by
  induction d with
  | zero =>
    intro k j x0 hl hd hj hk hp
    obtain ⟨k, rfl⟩ : ∃ e, k = e + 1 := ⟨k - 1, by omega⟩
    simp only [laws_markGoneS.l0]
    rw [if_neg (by omega)]
    have : j = n := by omega
    subst this
    refine congrArg some (Prod.ext rfl ?_)
    refine List.ext_getElem? fun i => ?_
    by_cases h : i < j
    · rw [hp i h]; simp [gmarked, h]
    · rw [List.getElem?_eq_none (show (gmarked m j).length ≤ i by rw [gmarked_len]; omega)]
      exact List.getElem?_eq_none (show x0.length ≤ i by omega)
  | succ d ih =>
    intro k j x0 hl hd hj hk hp
    obtain ⟨k, rfl⟩ : ∃ e, k = e + 1 := ⟨k - 1, by omega⟩
    simp only [laws_markGoneS.l0]
    rw [if_pos (by omega), if_pos (by omega)]
    simp only [Option.bind_some]
    rw [w64 (x := m + 2 * (j : Int) + 1) (by omega) (by omega), w64 (x := m + 2 * (j : Int) + 1 + 1) (by omega) (by omega), w64 (x := (j : Int) + 1) (by omega) (by omega), show m + 2 * (j : Int) + 1 + 1 = m + 2 * ((j + 1 : Nat) : Int) by omega, show (j : Int) + 1 = ((j + 1 : Nat) : Int) by omega]
    refine ih k (j + 1) _ (by rw [List.length_set, List.length_set]; exact hl) (by omega) (by omega) (by omega) fun i hi => ?_
    rw [show ((j : Int)).toNat = j by omega]
    by_cases h : i = j
    · subst h
      rw [List.getElem?_set_self (by rw [List.length_set]; omega), rdT48_nat]
      simp [List.getD, List.getElem?_set, show i < x0.length by omega]
    · rw [List.getElem?_set_ne (by omega), List.getElem?_set_ne (by omega), hp i (by omega)]
theorem markGoneS (k : Nat) (l : List S48) (m : Int) (hm0 : 0 ≤ m) (hm : m ≤ 1000000000) (hl : l.length ≤ 4194304) (hk : l.length < k) : laws_markGoneS.f k l m = some (m + 2 * (l.length : Int), gmarked m l.length) := by
  unfold laws_markGoneS.f
  have := markGoneS_go l.length (by omega) m hm0 hm l.length k 0 l rfl (by omega) (by omega) (by omega) (fun i hi => by omega)
  simpa using this
theorem heldGoneS_go (n : Nat) (hn : n ≤ 4194304) (m : Int) (hm0 : 0 ≤ m) (hm : m ≤ 1000000000) (d : Nat) : ∀ (k j : Nat), n - j = d → j ≤ n → d < k →
    laws_heldGoneS.l0 k (gmarked m n) (m + 2 * (j : Int)) (j : Int) = some (m + 2 * (n : Int)) := by
  induction d with
  | zero =>
    intro k j hd hj hk
    obtain ⟨k, rfl⟩ : ∃ e, k = e + 1 := ⟨k - 1, by omega⟩
    simp only [laws_heldGoneS.l0]
    rw [gmarked_len, if_neg (by omega), show j = n by omega]
  | succ d ih =>
    intro k j hd hj hk
    obtain ⟨k, rfl⟩ : ∃ e, k = e + 1 := ⟨k - 1, by omega⟩
    simp only [laws_heldGoneS.l0]
    rw [gmarked_len, if_pos (by omega), if_pos (by omega), rdT48_nat, gmarked_get m n j (by omega), w64 (x := m + 2 * (j : Int) + 1) (by omega) (by omega), w64 (x := m + 2 * (j : Int) + 1 + 1) (by omega) (by omega), w64 (x := (j : Int) + 1) (by omega) (by omega)]
    dsimp only
    rw [if_pos rfl, if_pos rfl, show m + 2 * (j : Int) + 1 + 1 = m + 2 * ((j + 1 : Nat) : Int) by omega, show (j : Int) + 1 = ((j + 1 : Nat) : Int) by omega]
    exact ih k (j + 1) (by omega) (by omega) (by omega)
theorem heldGoneS (k n : Nat) (m : Int) (hm0 : 0 ≤ m) (hm : m ≤ 1000000000) (hn : n ≤ 4194304) (hk : n < k) : laws_heldGoneS.f k (gmarked m n) m = some (m + 2 * (n : Int)) := by
  unfold laws_heldGoneS.f
  have := heldGoneS_go n hn m hm0 hm n k 0 (by omega) (by omega) (by omega)
  simpa using this
theorem markAges (k : Nat) (a : Int) (c : List Int) (l : List S48) (h : c.length ≤ 1048576) (h2 : l.length ≤ 2097152) (hk : 2097153 ≤ k) : laws_markAges.f k a c l 1 = some (1 + (c.length : Int) + 2 * (l.length : Int), marked 1 c.length, gmarked (1 + (c.length : Int)) l.length) := by
  unfold laws_markAges.f
  rw [markIntS k c 1 (by omega) (by omega) (by omega)]
  simp only [Option.bind_some]
  rw [markGoneS k l _ (by omega) (by omega) (by omega) (by omega)]
  rfl
theorem heldAges (k : Nat) (a : Int) (n1 n2 : Nat) (h : n1 ≤ 1048576) (h2 : n2 ≤ 2097152) (hk : 2097153 ≤ k) : laws_heldAges.f k a (marked 1 n1) (gmarked (1 + (n1 : Int)) n2) 1 = some (1 + (n1 : Int) + 2 * (n2 : Int)) := by
  unfold laws_heldAges.f
  rw [heldIntS k n1 1 (by omega) (by omega) (by omega)]
  simp only [Option.bind_some]
  rw [if_neg (by omega), heldGoneS k n2 _ (by omega) (by omega) (by omega) (by omega)]
  simp only [Option.bind_some]
  rw [if_neg (by omega)]
theorem negA (n1 n2 : Nat) : ((1 : Int) + (n1 : Int) + 2 * (n2 : Int) < 0) = False := by simp only [eq_iff_iff, iff_false]; omega

theorem copyAges (a : Int) (c : List Int) (l : List S48) (hc : c.length ≤ 1048576) (hl : l.length ≤ 2097152) : impl_copyAges.f a c l = some (a, c, l) := by
  unfold impl_copyAges.f impl_copyInts.f
  rw [if_pos (by rw [List.length_nil]; omega)]
  simp only [Option.bind_some]
  rw [if_pos (by rw [List.length_nil]; omega)]; rfl


theorem negB (n1 n2 n3 : Nat) : ((1 : Int) + (n1 : Int) + 2 * (n2 : Int) + (n3 : Int) < 0) = False := by simp only [eq_iff_iff, iff_false]; omega
theorem Collect_go (a : Int) (c : List Int) (l : List S48) (hl : l.length ≤ 100) (d : Nat) : ∀ (j : Nat) (x : List Int) (g : List S48), l.length - j = d → j ≤ l.length → x.length ≤ j → g.length ≤ j → ∃ (g' : List S48) (x' : List Int), g'.length ≤ 100 ∧ x'.length ≤ 100 ∧ ∀ k, d < k → spec_Collect.l0 k x l (l.length : Int) (j : Int) a c l a c g = some (a, c, g', x') ∧ impl_Collect.l0 k x l (l.length : Int) (j : Int) a c l a c g = some (a, c, g', x') := by
  induction d with
  | zero =>
    intro j x g hd hj hx hg
    refine ⟨g, x, by omega, by omega, fun k hk => ?_⟩
    obtain ⟨k, rfl⟩ : ∃ m, k = m + 1 := ⟨k - 1, by omega⟩
    refine ⟨?_, ?_⟩
    · simp only [spec_Collect.l0]
      rw [if_neg (by omega)]
    · simp only [impl_Collect.l0]
      rw [if_neg (by omega)]
  | succ d ih =>
    intro j x g hd hj hx hg
    have h1 : (j : Int) < (l.length : Int) := by omega
    have h0 : 0 ≤ (j : Int) := by omega
    have gw : wrap64 ((j : Int) + 1) = ((j + 1 : Nat) : Int) := by rw [w64 (by omega) (by omega)]; omega
    by_cases h : (rd_T48 l (j : Int)).f1 ≤ wrap64 (a - 2)
    · obtain ⟨g', x', h2, h3, h4⟩ := ih (j + 1) (x ++ [(rd_T48 l (j : Int)).f0]) g (by omega) (by omega) (by rw [List.length_append]; simp; omega) (by omega)
      refine ⟨g', x', h2, h3, fun k hk => ?_⟩
      obtain ⟨k, rfl⟩ : ∃ m, k = m + 1 := ⟨k - 1, by omega⟩
      obtain ⟨h5, h6⟩ := h4 k (by omega)
      refine ⟨?_, ?_⟩
      · simp only [spec_Collect.l0, gw]
        rw [if_pos h1, if_pos h0, if_pos h1, if_pos h, if_pos (by omega)]
        exact h5
      · simp only [impl_Collect.l0, gw]
        rw [if_pos h1, if_pos h0, if_pos h1, if_pos h, if_pos (by omega)]
        exact h6
    · obtain ⟨g', x', h2, h3, h4⟩ := ih (j + 1) x (g ++ [⟨(rd_T48 l (j : Int)).f0, (rd_T48 l (j : Int)).f1⟩]) (by omega) (by omega) (by omega) (by rw [List.length_append]; simp; omega)
      refine ⟨g', x', h2, h3, fun k hk => ?_⟩
      obtain ⟨k, rfl⟩ : ∃ m, k = m + 1 := ⟨k - 1, by omega⟩
      obtain ⟨h5, h6⟩ := h4 k (by omega)
      refine ⟨?_, ?_⟩
      · simp only [spec_Collect.l0, gw]
        rw [if_pos h1, if_pos h0, if_pos h1, if_neg h, if_pos (by omega)]
        exact h5
      · simp only [impl_Collect.l0, gw]
        rw [if_pos h1, if_pos h0, if_pos h1, if_neg h, if_pos (by omega)]
        exact h6
theorem Collect_both (a : Int) (c : List Int) (hc : c.length ≤ 1048576) (l : List S48) (hl : l.length ≤ 2097151) : ∃ (e : Int) (p : List Int) (g : List S48) (x : List Int), p.length ≤ 1048576 ∧ g.length ≤ 100 ∧ x.length ≤ 100 ∧ ∀ k, 600 ≤ k → spec_Collect.f k a c l = some (e, p, g, x) ∧ impl_Collect.f k a c l = some (e, p, g, x) := by
  obtain ⟨b, hb1, hb2⟩ := AgesOk_both a c hc l (by omega)
  have cp := copyAges a c l hc (by omega)
  cases b with
  | false =>
    refine ⟨0, [], [], [], by simp, by simp, by simp, fun k hk => ⟨?_, ?_⟩⟩
    · unfold spec_Collect.f
      rw [(hb2 k (by omega)).1]
      simp
    · unfold impl_Collect.f
      rw [(hb2 k (by omega)).2]
      simp
  | true =>
    obtain ⟨-, -, -, -, hl100, -⟩ := hb1 rfl
    obtain ⟨g, x, h1, h2, h3⟩ := Collect_go a c l hl100 l.length 0 [] [] (by omega) (by omega) (by simp) (by simp)
    refine ⟨a, c, g, x, hc, h1, h2, fun k hk => ?_⟩
    obtain ⟨h4, h5⟩ := h3 k (by omega)
    refine ⟨?_, ?_⟩
    · unfold spec_Collect.f
      rw [(hb2 k (by omega)).1]
      simp only [Option.bind_some, if_true]
      rw [if_pos (by rw [List.length_nil]; omega)]
      simpa using h4
    · unfold impl_Collect.f
      rw [(hb2 k (by omega)).2]
      simp only [Option.bind_some, if_true]
      rw [cp]
      simpa using h5
theorem FnExactCollect : laws_FnExactCollect.Pure := by
  intro a c d ⟨_, ⟨hc, _⟩, ⟨hd, _⟩⟩
  rcases szAges a c d hc hd with h | ⟨hl, h⟩
  · refine ⟨0, ?_⟩
    unfold laws_FnExactCollect.f
    rw [h]; rfl
  · have lm : (d.map gconv).length = d.length := List.length_map _
    obtain ⟨e, p, g, x, hp, hg, hx, hh⟩ := Collect_both a c (by omega) (d.map gconv) (by omega)
    have hs : ∀ k, 600 ≤ k → spec_Collect.f k a c (d.map gconv) = some (e, p, g, x) := fun k hk => (hh k hk).1
    have hi : ∀ k, 600 ≤ k → impl_Collect.f k a c (d.map gconv) = some (e, p, g, x) := fun k hk => (hh k hk).2
    have ht : ∀ k, 1048577 ≤ k → laws_toAges.f k a c d = some (a, c, d.map gconv) := fun k hk => toAges k a c d hl hk
    obtain ⟨K, hK⟩ : ∃ K : Nat, 2200000 ≤ K := ⟨2200000, Nat.le_refl _⟩
    refine ⟨K + 3, ?_⟩
    unfold laws_FnExactCollect.f
    rw [h]
    simp only [Option.bind_some]
    rw [if_neg (by omega)]
    have lm2 : (d.map gconv).length ≤ 2097152 := by omega
    clear lm
    simp (disch := omega) only [Option.bind_some, ht, hs, hi, eqAges, eqIntS, Bool.not_true, if_true, if_false, ite_self, reduceIte, Bool.false_eq_true]
    simp (disch := omega) only [laws_FnExactCollect.j0, Option.bind_some, ht, hs, hi, eqAges, eqIntS, Bool.not_true, markAges, negA, if_true, if_false, ite_self, reduceIte, Bool.false_eq_true]
    simp (disch := omega) only [laws_FnExactCollect.j1, Option.bind_some, ht, hs, hi, eqAges, eqIntS, Bool.not_true, markAges, heldAges, markIntS, heldIntS, negA, negB, if_true, if_false, ite_self, reduceIte, Bool.false_eq_true]
    simp (disch := omega) only [laws_FnExactCollect.j2, Option.bind_some, heldAges, heldIntS, negA, negB, if_true, if_false, ite_self, reduceIte, Bool.false_eq_true]

end Go.Proofs.Ytlnjhgjjfplodaa.Pure
