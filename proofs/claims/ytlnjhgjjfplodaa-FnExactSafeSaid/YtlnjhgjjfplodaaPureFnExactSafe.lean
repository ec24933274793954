/- The law FnExactSafe answers true whatever its arguments hold: the program's function and the reference's come to the same, and no list of an answer is shared. No condition. -/
import Derived.Test.YtlnjhgjjfplodaaPFnExactSafex6
namespace Go.Proofs.Ytlnjhgjjfplodaa.Pure
open Go.RowKit Go.Proofs.Ytlnjhgjjfplodaa.PFnExactSafe Go.Proofs.YtlnjhgjjfplodaaW.PrintWords Go.Proofs.YtlnjhgjjfplodaaW.PrintLast
set_option linter.unusedSimpArgs false
set_option linter.unusedVariables false

/-! Small facts. -/
theorem w64 {x : Int} (h0 : -9223372036854775808 ≤ x) (h1 : x ≤ 9223372036854775807) : wrap64 x = x := by unfold wrap64; omega
theorem rd_nat (l : List Int) (j : Nat) : rd l (j : Int) = l.getD j 0 := by simp [rd]
/-- The numbers from m on, n of them. -/
def marked (m : Int) (n : Nat) : List Int := (List.range n).map fun (i : Nat) => m + (i : Int)
theorem marked_len (m : Int) (n : Nat) : (marked m n).length = n := by simp [marked]
theorem marked_get (m : Int) (n j : Nat) (h : j < n) : (marked m n).getD j 0 = m + j := by simp [marked, List.getD, h]
theorem neg1 (n : Nat) : ((1 : Int) + (n : Int) < 0) = False := by simp only [eq_iff_iff, iff_false]; omega
theorem neg0 : ((-1 : Int) < 0) = True := by simp
theorem i64r {n : Int} (h : (Lit.int .i64 n).wf = true) : -9223372036854775808 ≤ n ∧ n ≤ 9223372036854775807 := by
  have e1 : IntKind.i64.min = -9223372036854775808 := by decide
  have e2 : IntKind.i64.max = 9223372036854775807 := by decide
  simp only [Lit.wf, Bool.and_eq_true, decide_eq_true_eq, e1, e2] at h
  exact h

theorem within (a lo hi : Int) : impl_within.f a lo hi = some (decide (lo ≤ a ∧ a ≤ hi)) := by
  unfold impl_within.f
  by_cases h : a ≥ lo
  · rw [if_pos h]
    have h' : lo ≤ a := h
    simp [h']
  · rw [if_neg h]
    have h' : ¬ lo ≤ a := h
    simp [h']

/-! Lists of numbers: copied, compared, marked, held. -/
theorem toIntS_go (x0 : List Int) (hx : x0.length ≤ 140737488355328) (d : Nat) : ∀ (k j : Nat) (x3 : List Int), x3.length = x0.length → x0.length - j = d → j ≤ x0.length → d < k → (∀ i, i < j → x3[i]? = x0[i]?) → laws_toIntS.l0 k x0 x3 (j : Int) = some x0 := by
  induction d with
  | zero =>
    intro k j x3 hl hd hj hk he
    obtain ⟨k, rfl⟩ : ∃ m, k = m + 1 := ⟨k - 1, by omega⟩
    simp only [laws_toIntS.l0]
    rw [if_neg (by omega)]
    refine congrArg some (List.ext_getElem? fun i => ?_)
    by_cases hi : i < j
    · exact he i hi
    · rw [List.getElem?_eq_none (by omega), List.getElem?_eq_none (by omega)]
  | succ d ih =>
    intro k j x3 hl hd hj hk he
    obtain ⟨k, rfl⟩ : ∃ m, k = m + 1 := ⟨k - 1, by omega⟩
    simp only [laws_toIntS.l0]
    rw [if_pos (by omega), if_pos (by omega), if_pos (by omega), w64 (by omega) (by omega)]
    refine ih k (j + 1) _ (by simpa using hl) (by omega) (by omega) (by omega) ?_
    intro i hi
    rw [rd_nat, Int.toNat_natCast, List.getElem?_set]
    by_cases hij : j = i
    · subst hij
      rw [if_pos rfl, if_pos (by omega), List.getElem?_eq_getElem (by omega)]
      simp [List.getD, List.getElem?_eq_getElem (show j < x0.length by omega)]
    · rw [if_neg hij]
      exact he i (by omega)
theorem toIntS (k : Nat) (l : List Int) (hl : l.length ≤ 1048576) (hk : l.length < k) : laws_toIntS.f k l = some l := by
  unfold laws_toIntS.f
  rw [if_pos (by omega), if_pos (by omega)]
  exact toIntS_go l (by omega) l.length k 0 _ (by simp) (by omega) (by omega) (by omega) (fun i hi => absurd hi (by omega))
theorem eqIntS_go (x : List Int) (hx : x.length ≤ 140737488355328) (d : Nat) : ∀ (k j : Nat), x.length - j = d → j ≤ x.length → d < k → laws_eqIntS.l0 k x x (j : Int) = some true := by
  induction d with
  | zero =>
    intro k j hd hj hk
    obtain ⟨k, rfl⟩ : ∃ m, k = m + 1 := ⟨k - 1, by omega⟩
    simp only [laws_eqIntS.l0]
    rw [if_neg (by omega)]
  | succ d ih =>
    intro k j hd hj hk
    obtain ⟨k, rfl⟩ : ∃ m, k = m + 1 := ⟨k - 1, by omega⟩
    simp only [laws_eqIntS.l0]
    rw [if_pos (by omega), if_pos (by omega), if_pos (by omega), if_pos trivial, w64 (by omega) (by omega)]
    exact ih k (j + 1) (by omega) (by omega) (by omega)
theorem eqIntS (k : Nat) (l : List Int) (hl : l.length ≤ 140737488355328) (hk : l.length < k) : laws_eqIntS.f k l l = some true := by
  unfold laws_eqIntS.f
  rw [if_pos rfl]
  exact eqIntS_go l hl l.length k 0 (by omega) (by omega) hk

/-! Lists of what is gone. -/
def gconv (x : S61) : S48 := ⟨x.f0, x.f1⟩
theorem rdT61_nat (l : List S61) (j : Nat) : rd_T61 l (j : Int) = l.getD j z61 := by simp [rd_T61]
theorem rdT48_nat (l : List S48) (j : Nat) : rd_T48 l (j : Int) = l.getD j z48 := by simp [rd_T48]
theorem toGoneS_go (x0 : List S61) (hx : x0.length ≤ 1048576) (d : Nat) : ∀ (k j : Nat) (x3 : List S48), x3.length = x0.length → x0.length - j = d → j ≤ x0.length → d < k → (∀ i, i < j → x3[i]? = (x0.map gconv)[i]?) → laws_toGoneS.l0 k x0 x3 (j : Int) = some (x0.map gconv) := by
  induction d with
  | zero =>
    intro k j x3 hl hd hj hk he
    obtain ⟨k, rfl⟩ : ∃ m, k = m + 1 := ⟨k - 1, by omega⟩
    simp only [laws_toGoneS.l0]
    rw [if_neg (by omega)]
    refine congrArg some (List.ext_getElem? fun i => ?_)
    by_cases hi : i < j
    · exact he i hi
    · rw [List.getElem?_eq_none (show x3.length ≤ i by omega)]
      exact (List.getElem?_eq_none (by rw [List.length_map]; omega)).symm
  | succ d ih =>
    intro k j x3 hl hd hj hk he
    obtain ⟨k, rfl⟩ : ∃ m, k = m + 1 := ⟨k - 1, by omega⟩
    simp only [laws_toGoneS.l0, laws_toGone.f]
    rw [if_pos (by omega), if_pos (by omega)]
    simp only [Option.bind_some]
    rw [if_pos (by omega), w64 (by omega) (by omega)]
    refine ih k (j + 1) _ (by simpa using hl) (by omega) (by omega) (by omega) ?_
    intro i hi
    rw [rdT61_nat, Int.toNat_natCast, List.getElem?_set]
    by_cases hij : j = i
    · subst hij
      rw [if_pos rfl, if_pos (by omega), List.getElem?_eq_getElem (by rw [List.length_map]; omega), List.getElem_map]
      simp [gconv, List.getD, List.getElem?_eq_getElem (show j < x0.length by omega)]
    · rw [if_neg hij]
      exact he i (by omega)
theorem toGoneS (k : Nat) (l : List S61) (hl : l.length ≤ 1048576) (hk : l.length < k) : laws_toGoneS.f k l = some (l.map gconv) := by
  unfold laws_toGoneS.f
  rw [if_pos (by omega), if_pos (by omega)]
  exact toGoneS_go l (by omega) l.length k 0 _ (by simp) (by omega) (by omega) (by omega) (fun i hi => absurd hi (by omega))
theorem eqGoneS_go (x : List S48) (hx : x.length ≤ 2097152) (d : Nat) : ∀ (k j : Nat), x.length - j = d → j ≤ x.length → d < k → laws_eqGoneS.l0 k x x (j : Int) = some true := by
  induction d with
  | zero =>
    intro k j hd hj hk
    obtain ⟨k, rfl⟩ : ∃ e, k = e + 1 := ⟨k - 1, by omega⟩
    simp only [laws_eqGoneS.l0]
    rw [if_neg (by omega)]
  | succ d ih =>
    intro k j hd hj hk
    obtain ⟨k, rfl⟩ : ∃ e, k = e + 1 := ⟨k - 1, by omega⟩
    simp only [laws_eqGoneS.l0, laws_eqGone.f]
    rw [if_pos (by omega), if_pos (by omega), if_pos (by omega)]
    simp only [if_true, Option.bind_some]
    rw [w64 (by omega) (by omega), show (j : Int) + 1 = ((j + 1 : Nat) : Int) by omega]
    exact ih k (j + 1) (by omega) (by omega) (by omega)
theorem eqGoneS (k : Nat) (l : List S48) (hl : l.length ≤ 2097152) (hk : l.length < k) : laws_eqGoneS.f k l l = some true := by
  unfold laws_eqGoneS.f
  rw [if_pos rfl]
  simpa using eqGoneS_go l (by omega) l.length k 0 (by omega) (by omega) hk
/-! The ages. -/
theorem szAges (a : Int) (c : List Int) (d : List S61) (hc : c.length ≤ maxLen) (hd : d.length ≤ maxLen) : (laws_szAges.f a c d 1048576 = some (-1)) ∨ (c.length + d.length ≤ 1048576 ∧ laws_szAges.f a c d 1048576 = some (1048576 - (c.length : Int) - (d.length : Int))) := by
  simp only [maxLen] at hc hd
  unfold laws_szAges.f laws_szIntS.f laws_szGoneS.f
  rw [w64 (x := 1048576 - (c.length : Int)) (by omega) (by omega)]
  by_cases h1 : 1048576 - (c.length : Int) < 0
  · refine Or.inl ?_
    rw [if_pos h1]; rfl
  · rw [if_neg h1]
    simp only [Option.bind_some]
    rw [if_neg h1, w64 (x := 1048576 - (c.length : Int) - (d.length : Int)) (by omega) (by omega)]
    by_cases h2 : 1048576 - (c.length : Int) - (d.length : Int) < 0
    · refine Or.inl ?_
      rw [if_pos h2]; rfl
    · rw [if_neg h2]
      simp only [Option.bind_some]
      rw [if_neg h2]
      exact Or.inr ⟨by omega, rfl⟩
theorem toAges (k : Nat) (a : Int) (c : List Int) (d : List S61) (h : c.length + d.length ≤ 1048576) (hk : 1048577 ≤ k) : laws_toAges.f k a c d = some (a, c, d.map gconv) := by
  unfold laws_toAges.f
  rw [toIntS k c (by omega) (by omega), toGoneS k d (by omega) (by omega)]
  rfl
theorem eqAges (k : Nat) (a : Int) (c : List Int) (d : List S48) (h : c.length ≤ 1048576) (h2 : d.length ≤ 2097152) (hk : 2097153 ≤ k) : laws_eqAges.f k a c d a c d = some true := by
  unfold laws_eqAges.f
  rw [eqIntS k c (by omega) (by omega), eqGoneS k d (by omega) (by omega)]
  simp

/-! AgesOk. -/
theorem isNum (x : Int) : impl_isNum.f x = some (decide (0 ≤ x ∧ x ≤ 4294967295)) := by
  unfold impl_isNum.f
  rw [within]; rfl
theorem l01Num (x : Int) : spec_l01Num.f x = some (decide (0 ≤ x ∧ x ≤ 4294967295)) := by
  unfold spec_l01Num.f
  by_cases h : x ≥ 0
  · have h' : 0 ≤ x := h
    rw [if_pos h]; simp [h']
  · have h' : ¬ 0 ≤ x := h
    rw [if_neg h]; simp [h']
theorem node_go (x : Int) (l : List S48) (hl : l.length ≤ 2097152) (d : Nat) : ∀ (k j : Nat), l.length - j = d → j ≤ l.length → d < k → spec_l06Node.l0 k x l (l.length : Int) (j : Int) = some (decide (x ∈ (l.drop j).map S48.f0)) := by
  induction d with
  | zero =>
    intro k j hd hj hk
    obtain ⟨k, rfl⟩ : ∃ m, k = m + 1 := ⟨k - 1, by omega⟩
    simp only [spec_l06Node.l0]
    rw [if_neg (by omega), List.drop_eq_nil_of_le (by omega)]
    simp
  | succ d ih =>
    intro k j hd hj hk
    obtain ⟨k, rfl⟩ : ∃ m, k = m + 1 := ⟨k - 1, by omega⟩
    have hlt : j < l.length := by omega
    have hdr : l.drop j = l.getD j z48 :: l.drop (j + 1) := by
      rw [List.drop_eq_getElem_cons hlt]; simp [List.getD, hlt]
    simp only [spec_l06Node.l0]
    rw [if_pos (by omega), if_pos (by omega), if_pos (by omega), rdT48_nat, w64 (by omega) (by omega), hdr, show (j : Int) + 1 = ((j + 1 : Nat) : Int) by omega, ih k (j + 1) (by omega) (by omega) (by omega)]
    by_cases h : (l.getD j z48).f0 = x
    · rw [if_pos h]
      refine congrArg some (Eq.symm (decide_eq_true ?_))
      rw [List.map_cons, List.mem_cons]; exact Or.inl h.symm
    · rw [if_neg h]
      refine congrArg some ?_
      rw [Bool.eq_iff_iff]
      simp only [decide_eq_true_eq, List.map_cons, List.mem_cons]
      exact ⟨Or.inr, fun hh => hh.resolve_left (fun e => h e.symm)⟩
theorem node (k : Nat) (x : Int) (l : List S48) (hl : l.length ≤ 2097152) (hk : l.length < k) : spec_l06Node.f k l x = some (decide (x ∈ l.map S48.f0)) := by
  unfold spec_l06Node.f
  have := node_go x l hl l.length k 0 (by omega) (by omega) hk
  simpa using this
theorem limbo_go (x : Int) (l : List S48) (hl : l.length ≤ 2097152) (i : Nat) (hi : i < l.length) (hx : (l.getD i z48).f0 = x) (d : Nat) : ∀ (k j : Nat), i - j = d → j ≤ i → d < k → ∃ r : Nat, r ≤ i ∧ impl_Ages_inLimbo.l0 k x l (l.length : Int) (j : Int) = some (r : Int) ∧ (r = i ↔ ∀ m, j ≤ m → m < i → (l.getD m z48).f0 ≠ x) := by
  induction d with
  | zero =>
    intro k j hd hj hk
    obtain ⟨k, rfl⟩ : ∃ m, k = m + 1 := ⟨k - 1, by omega⟩
    have : j = i := by omega
    subst this
    refine ⟨j, Nat.le_refl _, ?_, ?_⟩
    · simp only [impl_Ages_inLimbo.l0]
      rw [if_pos (by omega), if_pos (by omega), if_pos (by omega), rdT48_nat, if_pos hx]
    · exact ⟨fun _ m h1 h2 => by omega, fun _ => rfl⟩
  | succ d ih =>
    intro k j hd hj hk
    obtain ⟨k, rfl⟩ : ∃ m, k = m + 1 := ⟨k - 1, by omega⟩
    by_cases h : (l.getD j z48).f0 = x
    · refine ⟨j, by omega, ?_, ?_⟩
      · simp only [impl_Ages_inLimbo.l0]
        rw [if_pos (by omega), if_pos (by omega), if_pos (by omega), rdT48_nat, if_pos h]
      · exact ⟨fun e => by omega, fun hh => absurd h (hh j (Nat.le_refl _) (by omega))⟩
    · obtain ⟨r, h1, h2, h3⟩ := ih k (j + 1) (by omega) (by omega) (by omega)
      refine ⟨r, h1, ?_, ?_⟩
      · simp only [impl_Ages_inLimbo.l0]
        rw [if_pos (by omega), if_pos (by omega), if_pos (by omega), rdT48_nat, if_neg h, w64 (by omega) (by omega), show (j : Int) + 1 = ((j + 1 : Nat) : Int) by omega, h2]
      · rw [h3]
        exact ⟨fun hh m hm1 hm2 => by
          by_cases e : m = j
          · subst e; exact h
          · exact hh m (by omega) hm2, fun hh m hm1 hm2 => hh m (by omega) hm2⟩
theorem limbo (k : Nat) (a : Int) (c : List Int) (l : List S48) (hl : l.length ≤ 2097152) (i : Nat) (hi : i < l.length) (hk : l.length < k) : ∃ r : Nat, impl_Ages_inLimbo.f k a c l (l.getD i z48).f0 = some (r : Int) ∧ (r = i ↔ (l.getD i z48).f0 ∉ (l.take i).map S48.f0) := by
  obtain ⟨r, h1, h2, h3⟩ := limbo_go _ l hl i hi rfl i k 0 (by omega) (by omega) (by omega)
  refine ⟨r, ?_, ?_⟩
  · unfold impl_Ages_inLimbo.f
    simpa using h2
  · rw [h3]
    constructor
    · intro hh hm
      obtain ⟨y, hy, e⟩ := List.mem_map.1 hm
      obtain ⟨m, hm1, hm2⟩ := List.mem_iff_getElem.1 hy
      rw [List.length_take] at hm1
      rw [List.getElem_take] at hm2
      refine hh m (by omega) (by omega) ?_
      rw [← e, ← hm2]
      simp [List.getD, show m < l.length by omega]
    · intro hn m _ hm e
      refine hn (List.mem_map.2 ⟨l.getD m z48, ?_, e⟩)
      refine List.mem_iff_getElem.2 ⟨m, by rw [List.length_take]; omega, ?_⟩
      rw [List.getElem_take]
      simp [List.getD, show m < l.length by omega]
theorem AgesOk_l1 (a : Int) (ha : 0 ≤ a) (c : List Int) (l : List S48) (hl : l.length ≤ 100) (d : Nat) : ∀ (j : Nat), l.length - j = d → j ≤ l.length → ∃ b : Bool, (b = true → ∀ i, j ≤ i → i < l.length → (l.getD i z48).f0 ∉ (l.take i).map S48.f0) ∧ ∀ k, d + 200 < k → spec_AgesOk.l1 k l (l.length : Int) (j : Int) a c l = some b ∧ impl_AgesOk.l1 k l (l.length : Int) (j : Int) a c l = some b := by
  induction d with
  | zero =>
    intro j hd hj
    refine ⟨true, fun _ i h1 h2 => by omega, fun k hk => ?_⟩
    obtain ⟨k, rfl⟩ : ∃ m, k = m + 1 := ⟨k - 1, by omega⟩
    simp only [spec_AgesOk.l1, impl_AgesOk.l1]
    rw [if_neg (by omega), if_neg (by omega)]
    exact ⟨rfl, rfl⟩
  | succ d ih =>
    intro j hd hj
    obtain ⟨b, hbu, hb⟩ := ih (j + 1) (by omega) (by omega)
    have g : (j : Int) < (l.length : Int) := by omega
    have g0 : 0 ≤ (j : Int) := by omega
    have g1 : (j : Int) ≤ (l.length : Int) := by omega
    have gw : wrap64 ((j : Int) + 1) = ((j + 1 : Nat) : Int) := by rw [w64 (by omega) (by omega)]; omega
    have gm : wrap64 ((j : Int) - 1) = (j : Int) - 1 := w64 (by omega) (by omega)
    have gt : ((j : Int)).toNat = j := by omega
    by_cases hf : 0 ≤ (rd_T48 l (j : Int)).f1 ∧ (rd_T48 l (j : Int)).f1 ≤ a
    · by_cases ho : (j : Int) > 0 ∧ (rd_T48 l ((j : Int) - 1)).f1 > (rd_T48 l (j : Int)).f1
      · refine ⟨false, by simp, fun k hk => ?_⟩
        obtain ⟨k, rfl⟩ : ∃ m, k = m + 1 := ⟨k - 1, by omega⟩
        refine ⟨?_, ?_⟩
        · simp only [spec_AgesOk.l1]
          rw [if_pos g, if_pos g0, if_pos g, if_neg (by omega), if_neg (by omega), if_pos ho.1, gm, if_pos (by omega), if_pos (by omega), if_pos ho.2]
        · simp only [impl_AgesOk.l1, within]
          rw [if_pos g, if_pos g0, if_pos g]
          simp only [Option.bind_some]
          rw [if_pos (decide_eq_true hf), if_pos ho.1, gm, if_pos (by omega), if_pos (by omega), if_pos ho.2]
      · have key : ∃ b' : Bool, (b' = true → ∀ i, j ≤ i → i < l.length → (l.getD i z48).f0 ∉ (l.take i).map S48.f0) ∧ ∀ k, d + 200 < k →
            ((spec_l06Node.f k (l.take j) ((rd_T48 l (j : Int)).f0)).bind fun t => (if t = true then some false else spec_AgesOk.l1 k l (l.length : Int) ((j + 1 : Nat) : Int) a c l)) = some b' ∧
            ((impl_Ages_inLimbo.f k a c l ((rd_T48 l (j : Int)).f0)).bind fun t => (if t = (j : Int) then impl_AgesOk.l1 k l (l.length : Int) ((j + 1 : Nat) : Int) a c l else some false)) = some b' := by
          by_cases hm : (rd_T48 l (j : Int)).f0 ∈ (l.take j).map S48.f0
          · refine ⟨false, by simp, fun k hk => ?_⟩
            obtain ⟨r, h1, h2⟩ := limbo k a c l (by omega) j (by omega) (by omega)
            rw [rdT48_nat] at hm ⊢
            have hr : ¬ r = j := fun e => h2.1 e hm
            rw [node k _ _ (by rw [List.length_take]; omega) (by rw [List.length_take]; omega), h1]
            simp only [Option.bind_some]
            rw [if_pos (decide_eq_true hm), if_neg (by omega)]
            exact ⟨rfl, rfl⟩
          · refine ⟨b, fun hbt i h1 h2 => ?_, fun k hk => ?_⟩
            · by_cases e : i = j
              · subst e; rw [rdT48_nat] at hm; exact hm
              · exact hbu hbt i (by omega) h2
            obtain ⟨r, h1, h2⟩ := limbo k a c l (by omega) j (by omega) (by omega)
            rw [rdT48_nat] at hm ⊢
            have hr : r = j := h2.2 hm
            rw [node k _ _ (by rw [List.length_take]; omega) (by rw [List.length_take]; omega), h1]
            simp only [Option.bind_some]
            rw [if_neg (by rw [decide_eq_true_eq]; exact hm), if_pos (by omega)]
            exact hb k (by omega)
        obtain ⟨b', hbu', hb'⟩ := key
        refine ⟨b', hbu', fun k hk => ?_⟩
        obtain ⟨k, rfl⟩ : ∃ m, k = m + 1 := ⟨k - 1, by omega⟩
        obtain ⟨k1, k2⟩ := hb' k (by omega)
        refine ⟨?_, ?_⟩
        · simp only [spec_AgesOk.l1, gw, gt]
          rw [if_pos g, if_pos g0, if_pos g, if_neg (by omega), if_neg (by omega), if_pos g1, k1, gm]
          by_cases hj0 : (j : Int) > 0
          · have hno : ¬ (rd_T48 l ((j : Int) - 1)).f1 > (rd_T48 l (j : Int)).f1 := fun h => ho ⟨hj0, h⟩
            rw [if_pos hj0, if_pos (by omega), if_pos (by omega), if_neg hno]
          · rw [if_neg hj0]
        · simp only [impl_AgesOk.l1, within, gw]
          rw [if_pos g, if_pos g0, if_pos g]
          simp only [Option.bind_some]
          rw [if_pos (decide_eq_true hf), k2, gm]
          by_cases hj0 : (j : Int) > 0
          · have hno : ¬ (rd_T48 l ((j : Int) - 1)).f1 > (rd_T48 l (j : Int)).f1 := fun h => ho ⟨hj0, h⟩
            rw [if_pos hj0, if_pos (by omega), if_pos (by omega), if_neg hno]
          · rw [if_neg hj0]
    · refine ⟨false, by simp, fun k hk => ?_⟩
      obtain ⟨k, rfl⟩ : ∃ m, k = m + 1 := ⟨k - 1, by omega⟩
      refine ⟨?_, ?_⟩
      · simp only [spec_AgesOk.l1]
        rw [if_pos g, if_pos g0, if_pos g]
        by_cases h1 : (rd_T48 l (j : Int)).f1 < 0
        · rw [if_pos h1]
        · rw [if_neg h1, if_pos (by omega)]
      · simp only [impl_AgesOk.l1, within]
        rw [if_pos g, if_pos g0, if_pos g]
        simp only [Option.bind_some]
        rw [if_neg (by rw [decide_eq_true_eq]; exact hf)]
theorem AgesOk_l0 (a : Int) (ha : 0 ≤ a) (ha2 : a ≤ 4294967295) (c : List Int) (hc : c.length ≤ 8) (l : List S48) (hl : l.length ≤ 100) (d : Nat) : ∀ (j : Nat), c.length - j = d → j ≤ c.length → ∃ b : Bool, (b = true → ∀ i, i < l.length → (l.getD i z48).f0 ∉ (l.take i).map S48.f0) ∧ ∀ k, d + 400 < k → spec_AgesOk.l0 k c (c.length : Int) (j : Int) a c l = some b ∧ impl_AgesOk.l0 k c (c.length : Int) (j : Int) a c l = some b := by
  induction d with
  | zero =>
    intro j hd hj
    obtain ⟨b, hbu, hb⟩ := AgesOk_l1 a ha c l hl l.length 0 (by omega) (by omega)
    refine ⟨b, fun h i hi => hbu h i (by omega) hi, fun k hk => ?_⟩
    obtain ⟨k, rfl⟩ : ∃ m, k = m + 1 := ⟨k - 1, by omega⟩
    simp only [spec_AgesOk.l0, impl_AgesOk.l0]
    rw [if_neg (by omega), if_neg (by omega)]
    exact hb k (by omega)
  | succ d ih =>
    intro j hd hj
    obtain ⟨b, hbu, hb⟩ := ih (j + 1) (by omega) (by omega)
    have g : (j : Int) < (c.length : Int) := by omega
    have g0 : 0 ≤ (j : Int) := by omega
    have gw : wrap64 ((j : Int) + 1) = ((j + 1 : Nat) : Int) := by rw [w64 (by omega) (by omega)]; omega
    have gm : wrap64 (a - 1) = a - 1 := w64 (by omega) (by omega)
    by_cases h : rd c (j : Int) = -1 ∨ rd c (j : Int) = a ∨ (0 ≤ rd c (j : Int) ∧ rd c (j : Int) = a - 1)
    · refine ⟨b, hbu, fun k hk => ?_⟩
      obtain ⟨k, rfl⟩ : ∃ m, k = m + 1 := ⟨k - 1, by omega⟩
      have := hb k (by omega)
      refine ⟨?_, ?_⟩
      · simp only [spec_AgesOk.l0, gw, gm]
        rw [if_pos g, if_pos g0, if_pos g, this.1]
        by_cases h1 : rd c (j : Int) = -1
        · rw [if_pos h1]
        · rw [if_neg h1]
          by_cases h2 : rd c (j : Int) = a
          · rw [if_pos h2]
          · rw [if_neg h2, if_neg (by omega), if_pos (by omega)]
      · simp only [impl_AgesOk.l0, gw, gm]
        rw [if_pos g, if_pos g0, if_pos g, if_neg (show ¬ rd c (j : Int) < -1 by omega), this.2]
        by_cases h1 : rd c (j : Int) = -1
        · rw [if_pos h1]
        · rw [if_neg h1]
          by_cases h2 : rd c (j : Int) = a
          · rw [if_pos h2]
          · rw [if_neg h2, if_pos (by omega)]
    · refine ⟨false, by simp, fun k hk => ?_⟩
      obtain ⟨k, rfl⟩ : ∃ m, k = m + 1 := ⟨k - 1, by omega⟩
      refine ⟨?_, ?_⟩
      · simp only [spec_AgesOk.l0, gw, gm]
        rw [if_pos g, if_pos g0, if_pos g, if_neg (by omega), if_neg (by omega)]
        by_cases h3 : rd c (j : Int) < 0
        · rw [if_pos h3]
        · rw [if_neg h3, if_neg (by omega)]
      · simp only [impl_AgesOk.l0, gw, gm]
        rw [if_pos g, if_pos g0, if_pos g]
        by_cases h3 : rd c (j : Int) < -1
        · rw [if_pos h3]
        · rw [if_neg h3, if_neg (by omega), if_neg (by omega), if_neg (by omega)]
theorem AgesOk_both (a : Int) (c : List Int) (hcl : c.length ≤ 1048576) (l : List S48) (hll : l.length ≤ 2097152) : ∃ b : Bool, (b = true → 0 ≤ a ∧ a ≤ 4294967295 ∧ 1 ≤ c.length ∧ c.length ≤ 8 ∧ l.length ≤ 100 ∧ ∀ i, i < l.length → (l.getD i z48).f0 ∉ (l.take i).map S48.f0) ∧ ∀ k, 500 ≤ k → spec_AgesOk.f k a c l = some b ∧ impl_AgesOk.f k a c l = some b := by
  by_cases ha : 0 ≤ a ∧ a ≤ 4294967295
  · by_cases hc : 1 ≤ (c.length : Int) ∧ (c.length : Int) ≤ 8
    · by_cases hl : l.length ≤ 100
      · obtain ⟨b, hbu, hb⟩ := AgesOk_l0 a ha.1 ha.2 c (by omega) l hl c.length 0 (by omega) (by omega)
        refine ⟨b, fun h => ⟨ha.1, ha.2, by omega, by omega, hl, hbu h⟩, fun k hk => ?_⟩
        obtain ⟨k, rfl⟩ : ∃ m, k = m + 1 := ⟨k - 1, by omega⟩
        have := hb k (by omega)
        have hd : decide ((l.length : Int) > 100) = false := decide_eq_false (by omega)
        refine ⟨?_, ?_⟩
        · unfold spec_AgesOk.f
          rw [l01Num]
          simp only [Option.bind_some, hd]
          rw [if_pos (decide_eq_true ha), if_neg (by omega), if_neg (by omega)]
          simp only [spec_AgesOk.j0, Bool.false_eq_true, if_false]
          exact this.1
        · unfold impl_AgesOk.f
          rw [isNum, within]
          simp only [Option.bind_some, hd]
          rw [if_pos (decide_eq_true ha), if_pos (decide_eq_true hc)]
          simp only [impl_AgesOk.j0, Bool.false_eq_true, if_false]
          exact this.2
      · refine ⟨false, by simp, fun k hk => ?_⟩
        obtain ⟨k, rfl⟩ : ∃ m, k = m + 1 := ⟨k - 1, by omega⟩
        have hd : decide ((l.length : Int) > 100) = true := decide_eq_true (by omega)
        refine ⟨?_, ?_⟩
        · unfold spec_AgesOk.f
          rw [l01Num]
          simp only [Option.bind_some, hd]
          rw [if_pos (decide_eq_true ha), if_neg (by omega), if_neg (by omega)]
          simp only [spec_AgesOk.j0, if_true]
        · unfold impl_AgesOk.f
          rw [isNum, within]
          simp only [Option.bind_some, hd]
          rw [if_pos (decide_eq_true ha), if_pos (decide_eq_true hc)]
          simp only [impl_AgesOk.j0, if_true]
    · refine ⟨false, by simp, fun k hk => ?_⟩
      obtain ⟨k, rfl⟩ : ∃ m, k = m + 1 := ⟨k - 1, by omega⟩
      refine ⟨?_, ?_⟩
      · unfold spec_AgesOk.f
        rw [l01Num]
        simp only [Option.bind_some]
        rw [if_pos (decide_eq_true ha)]
        simp only [spec_AgesOk.j0, if_true]
        by_cases h1 : (c.length : Int) < 1
        · rw [if_pos h1]
        · rw [if_neg h1, if_pos (by omega)]
      · unfold impl_AgesOk.f
        rw [isNum, within]
        simp only [Option.bind_some]
        rw [if_pos (decide_eq_true ha), if_neg (by rw [decide_eq_true_eq]; exact hc)]
        simp only [impl_AgesOk.j0, if_true]
  · refine ⟨false, by simp, fun k hk => ?_⟩
    obtain ⟨k, rfl⟩ : ∃ m, k = m + 1 := ⟨k - 1, by omega⟩
    refine ⟨?_, ?_⟩
    · unfold spec_AgesOk.f
      rw [l01Num]
      simp only [Option.bind_some]
      rw [if_neg (by rw [decide_eq_true_eq]; exact ha)]
      simp only [spec_AgesOk.j0, if_true]
    · unfold impl_AgesOk.f
      rw [isNum]
      simp only [Option.bind_some]
      rw [if_neg (by rw [decide_eq_true_eq]; exact ha)]
      simp only [impl_AgesOk.j0, if_true]

/-! Safe. -/
def pinok (e : Int) (c : List Int) : Bool := c.all fun p => decide (p = -1) || !(decide (p ≤ e))
theorem pinok_cons (e p : Int) (c : List Int) : pinok e (p :: c) = ((decide (p = -1) || !(decide (p ≤ e))) && pinok e c) := by simp [pinok]
theorem gd_drop (l : List Int) (j : Nat) (h : j < l.length) : l.drop j = l.getD j 0 :: l.drop (j + 1) := by
  rw [List.drop_eq_getElem_cons h]; simp [List.getD, h]
theorem gd48_drop (l : List S48) (j : Nat) (h : j < l.length) : l.drop j = l.getD j z48 :: l.drop (j + 1) := by
  rw [List.drop_eq_getElem_cons h]; simp [List.getD, h]
theorem limbo_none (k : Nat) (a x : Int) (c : List Int) (l : List S48) (hl : l.length ≤ 2097152) (hk : l.length < k) (hx : x ∉ l.map S48.f0) : impl_Ages_inLimbo.f k a c l x = some (-1) := by
  have go : ∀ d k j, l.length - j = d → j ≤ l.length → d < k → impl_Ages_inLimbo.l0 k x l (l.length : Int) ((j : Nat) : Int) = some (-1) := by
    intro d
    induction d with
    | zero =>
      intro k j hd hj hk
      obtain ⟨k, rfl⟩ : ∃ m, k = m + 1 := ⟨k - 1, by omega⟩
      simp only [impl_Ages_inLimbo.l0]
      rw [if_neg (by omega)]
    | succ d ih =>
      intro k j hd hj hk
      obtain ⟨k, rfl⟩ : ∃ m, k = m + 1 := ⟨k - 1, by omega⟩
      have hn : ¬ (l.getD j z48).f0 = x := fun e => hx (List.mem_map.2 ⟨l.getD j z48, by
        rw [List.getD_eq_getElem?_getD, List.getElem?_eq_getElem (show j < l.length by omega)]
        exact List.getElem_mem _, e⟩)
      simp only [impl_Ages_inLimbo.l0]
      rw [if_pos (by omega), if_pos (by omega), if_pos (by omega), rdT48_nat, if_neg hn, w64 (by omega) (by omega), show (j : Int) + 1 = ((j + 1 : Nat) : Int) by omega]
      exact ih k (j + 1) (by omega) (by omega) (by omega)
  unfold impl_Ages_inLimbo.f
  simpa using go l.length k 0 (by omega) (by omega) hk
theorem specSafe_l1 (x a : Int) (c : List Int) (hc : c.length ≤ 1048576) (l : List S48) (j : Nat) (y e : Int) (R : Bool) (N : Nat) (hR : ∀ k, N ≤ k → spec_Safe.l0 k x l (l.length : Int) (wrap64 ((j : Int) + 1)) a c l = some R) (d : Nat) :
    ∀ (i : Nat), c.length - i = d → i ≤ c.length → ∀ k, N + d + 1 ≤ k → spec_Safe.l1 k x l (l.length : Int) (j : Int) c (c.length : Int) (i : Int) a c l y e = some (pinok e (c.drop i) && R) := by
  induction d with
  | zero =>
    intro i hd hi k hk
    obtain ⟨k, rfl⟩ : ∃ m, k = m + 1 := ⟨k - 1, by omega⟩
    simp only [spec_Safe.l1]
    rw [if_neg (by omega), hR k (by omega), List.drop_eq_nil_of_le (by omega)]
    simp [pinok]
  | succ d ih =>
    intro i hd hi k hk
    obtain ⟨k, rfl⟩ : ∃ m, k = m + 1 := ⟨k - 1, by omega⟩
    simp only [spec_Safe.l1]
    rw [if_pos (by omega), if_pos (by omega), if_pos (by omega), rd_nat, w64 (x := (i : Int) + 1) (by omega) (by omega), show (i : Int) + 1 = ((i + 1 : Nat) : Int) by omega, ih (i + 1) (by omega) (by omega) k (by omega), gd_drop c i (by omega), pinok_cons]
    by_cases h1 : c.getD i 0 = -1
    · rw [if_pos h1, decide_eq_true h1]; simp
    · rw [if_neg h1, decide_eq_false h1]
      by_cases h2 : c.getD i 0 ≤ e
      · rw [if_pos h2, decide_eq_true h2]; simp
      · rw [if_neg h2, decide_eq_false h2]; simp
theorem specSafe_l0 (x a : Int) (c : List Int) (hc : c.length ≤ 1048576) (l : List S48) (hl : l.length ≤ 2097152) (b : Bool) (hb : ∀ k, 500 ≤ k → spec_AgesOk.f k a c l = some b) (d : Nat) :
    ∀ (j : Nat), l.length - j = d → j ≤ l.length → ∀ k, 501 + d * (c.length + 2) ≤ k → spec_Safe.l0 k x l (l.length : Int) (j : Int) a c l = some ((l.drop j).all (fun g => !(decide (g.f0 = x)) || pinok g.f1 c) && b) := by
  induction d with
  | zero =>
    intro j hd hj k hk
    obtain ⟨k, rfl⟩ : ∃ m, k = m + 1 := ⟨k - 1, by omega⟩
    simp only [spec_Safe.l0]
    rw [if_neg (by omega), hb k (by omega), List.drop_eq_nil_of_le (by omega)]
    simp
  | succ d ih =>
    intro j hd hj k hk
    rw [Nat.succ_mul] at hk
    obtain ⟨k, rfl⟩ : ∃ m, k = m + 1 := ⟨k - 1, by omega⟩
    have gw : wrap64 ((j : Int) + 1) = ((j + 1 : Nat) : Int) := by rw [w64 (by omega) (by omega)]; omega
    have ih' := ih (j + 1) (by omega) (by omega)
    simp only [spec_Safe.l0]
    rw [if_pos (by omega), if_pos (by omega), if_pos (by omega), rdT48_nat, gd48_drop l j (by omega)]
    by_cases h : (l.getD j z48).f0 = x
    · rw [if_pos h]
      have := specSafe_l1 x a c hc l j (l.getD j z48).f0 (l.getD j z48).f1 _ (501 + d * (c.length + 2)) (fun k hk => by rw [gw]; exact ih' k hk) c.length 0 (by omega) (by omega) k (by omega)
      rw [show ((0 : Nat) : Int) = 0 from rfl] at this
      rw [this]
      simp only [List.drop_zero, List.all_cons, decide_eq_true h, Bool.not_true, Bool.false_or, Bool.and_assoc]
    · rw [if_neg h, gw, ih' k (by omega)]
      simp only [List.all_cons, decide_eq_false h, Bool.not_false, Bool.true_or, Bool.true_and]
theorem implSafe_neg (a : Int) (c : List Int) (hc : c.length ≤ 1048576) (l : List S48) (d : Nat) : ∀ (i : Nat), c.length - i = d → i ≤ c.length → ∀ k, d + 1 ≤ k → impl_Safe.l0 k (-1) c (c.length : Int) (i : Int) a c l = some true := by
  induction d with
  | zero =>
    intro i hd hi k hk
    obtain ⟨k, rfl⟩ : ∃ m, k = m + 1 := ⟨k - 1, by omega⟩
    simp only [impl_Safe.l0]
    rw [if_neg (by omega)]
  | succ d ih =>
    intro i hd hi k hk
    obtain ⟨k, rfl⟩ : ∃ m, k = m + 1 := ⟨k - 1, by omega⟩
    simp only [impl_Safe.l0]
    rw [if_pos (by omega), if_pos (by omega), if_pos (by omega), if_neg (by omega), w64 (by omega) (by omega), show (i : Int) + 1 = ((i + 1 : Nat) : Int) by omega]
    exact ih (i + 1) (by omega) (by omega) k (by omega)
theorem implSafe_pos (a : Int) (c : List Int) (hc : c.length ≤ 1048576) (l : List S48) (r : Nat) (hr : r < l.length) (d : Nat) : ∀ (i : Nat), c.length - i = d → i ≤ c.length → ∀ k, d + 1 ≤ k → impl_Safe.l0 k (r : Int) c (c.length : Int) (i : Int) a c l = some (pinok (l.getD r z48).f1 (c.drop i)) := by
  induction d with
  | zero =>
    intro i hd hi k hk
    obtain ⟨k, rfl⟩ : ∃ m, k = m + 1 := ⟨k - 1, by omega⟩
    simp only [impl_Safe.l0]
    rw [if_neg (by omega), List.drop_eq_nil_of_le (by omega)]
    simp [pinok]
  | succ d ih =>
    intro i hd hi k hk
    obtain ⟨k, rfl⟩ : ∃ m, k = m + 1 := ⟨k - 1, by omega⟩
    simp only [impl_Safe.l0]
    rw [if_pos (by omega), if_pos (by omega), if_pos (by omega), if_pos (by omega), rd_nat, rdT48_nat, w64 (by omega) (by omega), show (i : Int) + 1 = ((i + 1 : Nat) : Int) by omega, ih (i + 1) (by omega) (by omega) k (by omega), gd_drop c i (by omega), pinok_cons]
    by_cases h1 : c.getD i 0 = -1
    · rw [if_pos h1, decide_eq_true h1]; simp
    · rw [if_neg h1, decide_eq_false h1, if_pos (by omega), if_pos (by omega)]
      by_cases h2 : c.getD i 0 ≤ (l.getD r z48).f1
      · rw [if_pos h2, decide_eq_true h2]; simp
      · rw [if_neg h2, decide_eq_false h2]; simp
theorem uniq (l : List S48) (hu : ∀ i, i < l.length → (l.getD i z48).f0 ∉ (l.take i).map S48.f0) (i m : Nat) (hi : i < l.length) (hm : m < l.length) (e : (l.getD i z48).f0 = (l.getD m z48).f0) : i = m := by
  have key : ∀ i m : Nat, m < l.length → i < m → (l.getD i z48).f0 = (l.getD m z48).f0 → False := by
    intro i m hm h e
    refine hu m hm (List.mem_map.2 ⟨l.getD i z48, ?_, e⟩)
    refine List.mem_iff_getElem.2 ⟨i, by rw [List.length_take]; omega, ?_⟩
    rw [List.getElem_take]
    simp [List.getD, show i < l.length by omega]
  rcases Nat.lt_trichotomy i m with h | h | h
  · exact (key i m hm h e).elim
  · exact h
  · exact (key m i hi h e.symm).elim
theorem Safe_both (x a : Int) (c : List Int) (hc : c.length ≤ 1048576) (l : List S48) (hl : l.length ≤ 2097152) : ∃ (b : Bool) (N : Nat), ∀ k, N ≤ k → spec_Safe.f k a c l x = some b ∧ impl_Safe.f k a c l x = some b := by
  obtain ⟨b, hb1, hb2⟩ := AgesOk_both a c hc l hl
  refine ⟨l.all (fun g => !(decide (g.f0 = x)) || pinok g.f1 c) && b, 501 + l.length * (c.length + 2) + l.length + c.length + 10, fun k hk => ⟨?_, ?_⟩⟩
  · unfold spec_Safe.f
    have := specSafe_l0 x a c hc l hl b (fun k hk => (hb2 k hk).1) l.length 0 (by omega) (by omega) k (by omega)
    simpa using this
  · unfold impl_Safe.f
    rw [(hb2 k (by omega)).2]
    cases b with
    | false => simp
    | true =>
      obtain ⟨-, -, -, -, -, hu⟩ := hb1 rfl
      simp only [Option.bind_some, if_true, Bool.and_true]
      by_cases hx : x ∈ l.map S48.f0
      · obtain ⟨y, hy, e⟩ := List.mem_map.1 hx
        obtain ⟨i, hi, ei⟩ := List.mem_iff_getElem.1 hy
        have eg : l.getD i z48 = y := by rw [← ei]; simp [List.getD, hi]
        obtain ⟨r, h1, h2⟩ := limbo k a c l hl i hi (by omega)
        rw [h2.2 (hu i hi), eg, e] at h1
        rw [h1]
        simp only [Option.bind_some]
        have := implSafe_pos a c hc l i hi c.length 0 (by omega) (by omega) k (by omega)
        rw [show ((0 : Nat) : Int) = 0 from rfl] at this
        rw [this, eg, List.drop_zero]
        refine congrArg some ?_
        rw [Bool.eq_iff_iff, List.all_eq_true]
        constructor
        · intro hp g hg
          by_cases hgx : g.f0 = x
          · obtain ⟨m, hm, em⟩ := List.mem_iff_getElem.1 hg
            have egm : l.getD m z48 = g := by rw [← em]; simp [List.getD, hm]
            have := uniq l hu i m hi hm (by rw [eg, egm, e, hgx])
            subst this
            rw [← egm, eg, hp]; simp
          · simp [hgx]
        · intro hg
          have := hg y hy
          simpa [e] using this
      · rw [limbo_none k a x c l hl (by omega) hx]
        simp only [Option.bind_some]
        have := implSafe_neg a c hc l c.length 0 (by omega) (by omega) k (by omega)
        rw [show ((0 : Nat) : Int) = 0 from rfl] at this
        rw [this]
        refine congrArg some (Eq.symm ?_)
        rw [List.all_eq_true]
        intro g hg
        have : ¬ g.f0 = x := fun e => hx (List.mem_map.2 ⟨g, hg, e⟩)
        simp [this]


theorem FnExactSafe : laws_FnExactSafe.Pure := by
  intro a c d x ⟨_, ⟨hc, _⟩, ⟨hd, _⟩⟩ _
  rcases szAges a c d hc hd with h | ⟨hl, h⟩
  · refine ⟨0, ?_⟩
    unfold laws_FnExactSafe.f
    rw [h]; rfl
  · have lm : (d.map gconv).length = d.length := List.length_map _
    obtain ⟨b, N, hb⟩ := Safe_both x a c (by omega) (d.map gconv) (by omega)
    obtain ⟨K, hK, hN⟩ : ∃ K : Nat, 2200000 ≤ K ∧ N ≤ K := ⟨2200000 + N, by omega, by omega⟩
    refine ⟨K, ?_⟩
    unfold laws_FnExactSafe.f
    rw [h]
    simp only [Option.bind_some]
    rw [if_neg (by omega), toAges K a c d hl (by omega)]
    simp only [Option.bind_some]
    rw [(hb K hN).1, (hb K hN).2]
    simp only [Option.bind_some, bne_self_eq_false, Bool.false_eq_true, if_false]
    rw [eqAges K a c (d.map gconv) (by omega) (by omega) (by omega)]
    simp

end Go.Proofs.Ytlnjhgjjfplodaa.Pure
