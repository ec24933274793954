/- The law FnExactCrewOk answers true whatever its arguments hold: the program's function and the reference's come to the same, and no list of an answer is shared. No condition. -/
import Derived.Test.YtndkfjecipjiaaaPFnExactCrewOkx11
namespace Go.Proofs.Ytndkfjecipjiaaa.Pure
open Go.RowKit Go.Proofs.Ytndkfjecipjiaaa.PFnExactCrewOk Go.Proofs.YtndkfjecipjiaaaW.PrintWords Go.Proofs.YtndkfjecipjiaaaW.PrintLast
set_option linter.unusedSimpArgs false
set_option linter.unusedVariables false

/-! Small facts. -/
theorem w64 {x : Int} (h0 : -9223372036854775808 ≤ x) (h1 : x ≤ 9223372036854775807) : wrap64 x = x := by unfold wrap64; omega
theorem rd_nat (l : List Int) (j : Nat) : rd l (j : Int) = l.getD j 0 := by simp [rd]
/-- The numbers from m on, n of them. -/
def marked (m : Int) (n : Nat) : List Int := (List.range n).map fun (i : Nat) => m + (i : Int)
theorem marked_len (m : Int) (n : Nat) : (marked m n).length = n := by simp [marked]
theorem marked_get (m : Int) (n j : Nat) (h : j < n) : (marked m n).getD j 0 = m + j := by simp [marked, List.getD, h]
theorem neg1 (n : Nat) : ((1 : Int) + (n : Int) < 0) = False := by simp only [eq_iff_iff, iff_false]; omega
theorem neg0 : ((-1 : Int) < 0) = True := by simp
theorem i64r {n : Int} (h : (Lit.int .i64 n).wf = true) : -9223372036854775808 ≤ n ∧ n ≤ 9223372036854775807 := by
  have e1 : IntKind.i64.min = -9223372036854775808 := by decide
  have e2 : IntKind.i64.max = 9223372036854775807 := by decide
  simp only [Lit.wf, Bool.and_eq_true, decide_eq_true_eq, e1, e2] at h
  exact h

/-! Lists of numbers: copied, compared, marked, held. -/
theorem toIntS_go (x0 : List Int) (hx : x0.length ≤ 140737488355328) (d : Nat) : ∀ (k j : Nat) (x3 : List Int), x3.length = x0.length → x0.length - j = d → j ≤ x0.length → d < k → (∀ i, i < j → x3[i]? = x0[i]?) → laws_toIntS.l0 k x0 x3 (j : Int) = some x0 := by
  induction d with
  | zero =>
    intro k j x3 hl hd hj hk he
    obtain ⟨k, rfl⟩ : ∃ m, k = m + 1 := ⟨k - 1, by omega⟩
    simp only [laws_toIntS.l0]
    rw [if_neg (by omega)]
    refine congrArg some (List.ext_getElem? fun i => ?_)
    by_cases hi : i < j
    · exact he i hi
    · rw [List.getElem?_eq_none (by omega), List.getElem?_eq_none (by omega)]
  | succ d ih =>
    intro k j x3 hl hd hj hk he
    obtain ⟨k, rfl⟩ : ∃ m, k = m + 1 := ⟨k - 1, by omega⟩
    simp only [laws_toIntS.l0]
    rw [if_pos (by omega), if_pos (by omega), if_pos (by omega), w64 (by omega) (by omega)]
    refine ih k (j + 1) _ (by simpa using hl) (by omega) (by omega) (by omega) ?_
    intro i hi
    rw [rd_nat, Int.toNat_natCast, List.getElem?_set]
    by_cases hij : j = i
    · subst hij
      rw [if_pos rfl, if_pos (by omega), List.getElem?_eq_getElem (by omega)]
      simp [List.getD, List.getElem?_eq_getElem (show j < x0.length by omega)]
    · rw [if_neg hij]
      exact he i (by omega)
theorem toIntS (k : Nat) (l : List Int) (hl : l.length ≤ 1048576) (hk : l.length < k) : laws_toIntS.f k l = some l := by
  unfold laws_toIntS.f
  rw [if_pos (by omega), if_pos (by omega)]
  exact toIntS_go l (by omega) l.length k 0 _ (by simp) (by omega) (by omega) (by omega) (fun i hi => absurd hi (by omega))
theorem eqIntS_go (x : List Int) (hx : x.length ≤ 140737488355328) (d : Nat) : ∀ (k j : Nat), x.length - j = d → j ≤ x.length → d < k → laws_eqIntS.l0 k x x (j : Int) = some true := by
  induction d with
  | zero =>
    intro k j hd hj hk
    obtain ⟨k, rfl⟩ : ∃ m, k = m + 1 := ⟨k - 1, by omega⟩
    simp only [laws_eqIntS.l0]
    rw [if_neg (by omega)]
  | succ d ih =>
    intro k j hd hj hk
    obtain ⟨k, rfl⟩ : ∃ m, k = m + 1 := ⟨k - 1, by omega⟩
    simp only [laws_eqIntS.l0]
    rw [if_pos (by omega), if_pos (by omega), if_pos (by omega), if_pos trivial, w64 (by omega) (by omega)]
    exact ih k (j + 1) (by omega) (by omega) (by omega)
theorem eqIntS (k : Nat) (l : List Int) (hl : l.length ≤ 140737488355328) (hk : l.length < k) : laws_eqIntS.f k l l = some true := by
  unfold laws_eqIntS.f
  rw [if_pos rfl]
  exact eqIntS_go l hl l.length k 0 (by omega) (by omega) hk

theorem toMem (k : Nat) (l : List Int) (hl : l.length ≤ 1048576) (hk : l.length < k) : laws_toMem.f k l = some l := by
  unfold laws_toMem.f
  rw [toIntS k l hl hk]; rfl

theorem eqMem (k : Nat) (l : List Int) (hl : l.length ≤ 1048576) (hk : l.length < k) : laws_eqMem.f k l l = some true := by
  unfold laws_eqMem.f
  rw [eqIntS k l (by omega) hk]; rfl

theorem within (a lo hi : Int) : impl_within.f a lo hi = some (decide (lo ≤ a ∧ a ≤ hi)) := by
  unfold impl_within.f
  by_cases h : a ≥ lo
  · rw [if_pos h]
    have h' : lo ≤ a := h
    simp [h']
  · rw [if_neg h]
    have h' : ¬ lo ≤ a := h
    simp [h']

theorem l01In (a lo hi : Int) : spec_l01In.f a lo hi = some (decide (lo ≤ a ∧ a ≤ hi)) := by
  unfold spec_l01In.f
  by_cases h : a ≥ lo
  · rw [if_pos h]
    have h' : lo ≤ a := h
    simp [h']
  · rw [if_neg h]
    have h' : ¬ lo ≤ a := h
    simp [h']

/-! Lists of calls. -/
def conv (x : S106) : S75 := ⟨x.f0, x.f1, x.f2, x.f3, x.f4, x.f5, x.f6, x.f7, x.f8, x.f9⟩
theorem rdT106_nat (l : List S106) (j : Nat) : rd_T106 l (j : Int) = l.getD j z106 := by simp [rd_T106]
theorem toCallS_go (x0 : List S106) (hx : x0.length ≤ 1048576) (d : Nat) : ∀ (k j : Nat) (x3 : List S75), x3.length = x0.length → x0.length - j = d → j ≤ x0.length → d < k → (∀ i, i < j → x3[i]? = (x0.map conv)[i]?) → laws_toCallS.l0 k x0 x3 (j : Int) = some (x0.map conv) := by
  induction d with
  | zero =>
    intro k j x3 hl hd hj hk he
    obtain ⟨k, rfl⟩ : ∃ m, k = m + 1 := ⟨k - 1, by omega⟩
    simp only [laws_toCallS.l0]
    rw [if_neg (by omega)]
    refine congrArg some (List.ext_getElem? fun i => ?_)
    by_cases hi : i < j
    · exact he i hi
    · rw [List.getElem?_eq_none (show x3.length ≤ i by omega)]
      exact (List.getElem?_eq_none (by rw [List.length_map]; omega)).symm
  | succ d ih =>
    intro k j x3 hl hd hj hk he
    obtain ⟨k, rfl⟩ : ∃ m, k = m + 1 := ⟨k - 1, by omega⟩
    simp only [laws_toCallS.l0, laws_toCall.f]
    rw [if_pos (by omega), if_pos (by omega)]
    simp only [Option.bind_some]
    rw [if_pos (by omega), w64 (by omega) (by omega)]
    refine ih k (j + 1) _ (by simpa using hl) (by omega) (by omega) (by omega) ?_
    intro i hi
    rw [rdT106_nat, Int.toNat_natCast, List.getElem?_set]
    by_cases hij : j = i
    · subst hij
      rw [if_pos rfl, if_pos (by omega), List.getElem?_eq_getElem (by rw [List.length_map]; omega), List.getElem_map]
      simp [conv, List.getD, List.getElem?_eq_getElem (show j < x0.length by omega)]
    · rw [if_neg hij]
      exact he i (by omega)
theorem toCallS (k : Nat) (l : List S106) (hl : l.length ≤ 1048576) (hk : l.length < k) : laws_toCallS.f k l = some (l.map conv) := by
  unfold laws_toCallS.f
  rw [if_pos (by omega), if_pos (by omega)]
  exact toCallS_go l (by omega) l.length k 0 _ (by simp) (by omega) (by omega) (by omega) (fun i hi => absurd hi (by omega))

theorem eqCall_refl (a b c d e f g h i : Int) (j : Bool) : laws_eqCall.f a b c d e f g h i j a b c d e f g h i j = some true := by
  simp [laws_eqCall.f]
theorem eqCallS_go (x : List S75) (hx : x.length ≤ 1048576) (d : Nat) : ∀ (k j : Nat), x.length - j = d → j ≤ x.length → d < k → laws_eqCallS.l0 k x x (j : Int) = some true := by
  induction d with
  | zero =>
    intro k j hd hj hk
    obtain ⟨k, rfl⟩ : ∃ e, k = e + 1 := ⟨k - 1, by omega⟩
    simp only [laws_eqCallS.l0]
    rw [if_neg (by omega)]
  | succ d ih =>
    intro k j hd hj hk
    obtain ⟨k, rfl⟩ : ∃ e, k = e + 1 := ⟨k - 1, by omega⟩
    simp only [laws_eqCallS.l0, eqCall_refl]
    rw [if_pos (by omega), if_pos (by omega), if_pos (by omega)]
    simp only [Option.bind_some, if_true]
    rw [w64 (by omega) (by omega), show (j : Int) + 1 = ((j + 1 : Nat) : Int) by omega]
    exact ih k (j + 1) (by omega) (by omega) (by omega)
theorem eqCallS (k : Nat) (l : List S75) (hl : l.length ≤ 1048576) (hk : l.length < k) : laws_eqCallS.f k l l = some true := by
  unfold laws_eqCallS.f
  rw [if_pos rfl]
  simpa using eqCallS_go l (by omega) l.length k 0 (by omega) (by omega) hk

/-! A thread: its size, its image. -/
theorem szThread (a : List S106) (b : Int) (c d : List Int) (ha : a.length ≤ maxLen) (hc : c.length ≤ maxLen) (hd : d.length ≤ maxLen) : (laws_szThread.f a b c d 1048576 = some (-1)) ∨ (a.length + c.length + d.length ≤ 1048576 ∧ ∃ r, 0 ≤ r ∧ laws_szThread.f a b c d 1048576 = some r) := by
  simp only [maxLen] at ha hc hd
  unfold laws_szThread.f laws_szCallS.f laws_szIntS.f
  rw [w64 (x := 1048576 - (a.length : Int)) (by omega) (by omega)]
  by_cases h1 : 1048576 - (a.length : Int) < 0
  · refine Or.inl ?_
    rw [if_pos h1]; rfl
  · rw [if_neg h1]
    simp only [Option.bind_some]
    rw [if_neg h1, w64 (x := 1048576 - (a.length : Int) - (c.length : Int)) (by omega) (by omega)]
    by_cases h2 : 1048576 - (a.length : Int) - (c.length : Int) < 0
    · refine Or.inl ?_
      rw [if_pos h2]; rfl
    · rw [if_neg h2]
      simp only [Option.bind_some]
      rw [if_neg h2, w64 (x := 1048576 - (a.length : Int) - (c.length : Int) - (d.length : Int)) (by omega) (by omega)]
      by_cases h3 : 1048576 - (a.length : Int) - (c.length : Int) - (d.length : Int) < 0
      · refine Or.inl ?_
        rw [if_pos h3]; rfl
      · rw [if_neg h3]
        simp only [Option.bind_some]
        rw [if_neg h3]
        exact Or.inr ⟨by omega, _, by omega, rfl⟩
theorem toThread (k : Nat) (a : List S106) (b : Int) (c d : List Int) (h : a.length + c.length + d.length ≤ 1048576) (hk : 1048577 ≤ k) : laws_toThread.f k a b c d = some (a.map conv, b, c, d) := by
  unfold laws_toThread.f
  rw [toCallS k a (by omega) (by omega), toIntS k c (by omega) (by omega), toIntS k d (by omega) (by omega)]
  rfl

theorem eqThread (k : Nat) (a : List S75) (b : Int) (c d : List Int) (h : a.length + c.length + d.length ≤ 1048576) (hk : 1048577 ≤ k) : laws_eqThread.f k a b c d a b c d = some true := by
  unfold laws_eqThread.f
  rw [eqCallS k a (by omega) (by omega), eqIntS k c (by omega) (by omega), eqIntS k d (by omega) (by omega)]
  simp

/-! A crew: its size, its image. -/
def tconv (t : S50) : S55 := ⟨t.f0.map conv, t.f1, t.f2, t.f3⟩
def tlen (t : S50) : Nat := t.f0.length + t.f2.length + t.f3.length
theorem rdT50_nat (l : List S50) (j : Nat) : rd_T50 l (j : Int) = l.getD j z50 := by simp [rd_T50]
theorem rdT55_nat (l : List S55) (j : Nat) : rd_T55 l (j : Int) = l.getD j z55 := by simp [rd_T55]
theorem gd50_mem (l : List S50) (j : Nat) (h : j < l.length) : l.getD j z50 ∈ l := by
  rw [List.getD_eq_getElem?_getD, List.getElem?_eq_getElem h]; exact List.getElem_mem _
theorem gd55_mem (l : List S55) (j : Nat) (h : j < l.length) : l.getD j z55 ∈ l := by
  rw [List.getD_eq_getElem?_getD, List.getElem?_eq_getElem h]; exact List.getElem_mem _
theorem szThreadG (a : List S106) (b : Int) (c d : List Int) (m : Int) (hm0 : 0 ≤ m) (hm : m ≤ 1048576) (ha : a.length ≤ maxLen) (hc : c.length ≤ maxLen) (hd : d.length ≤ maxLen) : (laws_szThread.f a b c d m = some (-1)) ∨ ((a.length + c.length + d.length : Int) ≤ m ∧ laws_szThread.f a b c d m = some (m - (a.length : Int) - (c.length : Int) - (d.length : Int))) := by
  simp only [maxLen] at ha hc hd
  unfold laws_szThread.f laws_szCallS.f laws_szIntS.f
  rw [w64 (x := m - (a.length : Int)) (by omega) (by omega)]
  by_cases h1 : m - (a.length : Int) < 0
  · refine Or.inl ?_
    rw [if_pos h1]; rfl
  · rw [if_neg h1]
    simp only [Option.bind_some]
    rw [if_neg h1, w64 (x := m - (a.length : Int) - (c.length : Int)) (by omega) (by omega)]
    by_cases h2 : m - (a.length : Int) - (c.length : Int) < 0
    · refine Or.inl ?_
      rw [if_pos h2]; rfl
    · rw [if_neg h2]
      simp only [Option.bind_some]
      rw [if_neg h2, w64 (x := m - (a.length : Int) - (c.length : Int) - (d.length : Int)) (by omega) (by omega)]
      by_cases h3 : m - (a.length : Int) - (c.length : Int) - (d.length : Int) < 0
      · refine Or.inl ?_
        rw [if_pos h3]; rfl
      · rw [if_neg h3]
        simp only [Option.bind_some]
        rw [if_neg h3]
        exact Or.inr ⟨by omega, rfl⟩
def fits (t : S50) : Prop := t.f0.length ≤ maxLen ∧ t.f2.length ≤ maxLen ∧ t.f3.length ≤ maxLen
theorem szThreadS_go (l : List S50) (hl : l.length ≤ 1048576) (hf : ∀ t ∈ l, fits t) (d : Nat) : ∀ (j : Nat) (m : Int), 0 ≤ m → m ≤ 1048576 → l.length - j = d → j ≤ l.length →
    ((∀ k, d < k → laws_szThreadS.l0 k l m (j : Int) = some (-1)) ∨ ((∀ i, j ≤ i → i < l.length → tlen (l.getD i z50) ≤ 1048576) ∧ ∃ r, 0 ≤ r ∧ ∀ k, d < k → laws_szThreadS.l0 k l m (j : Int) = some r)) := by
  induction d with
  | zero =>
    intro j m h0 h1 hd hj
    refine Or.inr ⟨fun i h2 h3 => by omega, m, h0, fun k hk => ?_⟩
    obtain ⟨k, rfl⟩ : ∃ e, k = e + 1 := ⟨k - 1, by omega⟩
    simp only [laws_szThreadS.l0]
    rw [if_neg (by omega)]
  | succ d ih =>
    intro j m h0 h1 hd hj
    obtain ⟨f1, f2, f3⟩ := hf _ (gd50_mem l j (by omega))
    have gw : wrap64 ((j : Int) + 1) = ((j + 1 : Nat) : Int) := by rw [w64 (by omega) (by omega)]; omega
    rcases szThreadG (l.getD j z50).f0 (l.getD j z50).f1 (l.getD j z50).f2 (l.getD j z50).f3 m h0 h1 f1 f2 f3 with h | ⟨hs, h⟩
    · refine Or.inl fun k hk => ?_
      obtain ⟨k, rfl⟩ : ∃ e, k = e + 1 := ⟨k - 1, by omega⟩
      simp only [laws_szThreadS.l0]
      rw [if_pos (by omega), if_pos (by omega), rdT50_nat, h]; rfl
    · rcases ih (j + 1) (m - ((l.getD j z50).f0.length : Int) - ((l.getD j z50).f2.length : Int) - ((l.getD j z50).f3.length : Int)) (by omega) (by omega) (by omega) (by omega) with h2 | ⟨h2, r, h3, h4⟩
      · refine Or.inl fun k hk => ?_
        obtain ⟨k, rfl⟩ : ∃ e, k = e + 1 := ⟨k - 1, by omega⟩
        simp only [laws_szThreadS.l0]
        rw [if_pos (by omega), if_pos (by omega), rdT50_nat, h]
        simp only [Option.bind_some]
        rw [if_neg (by omega), gw]
        exact h2 k (by omega)
      · refine Or.inr ⟨fun i h5 h6 => ?_, r, h3, fun k hk => ?_⟩
        · by_cases e : i = j
          · subst e; unfold tlen; omega
          · exact h2 i (by omega) h6
        · obtain ⟨k, rfl⟩ : ∃ e, k = e + 1 := ⟨k - 1, by omega⟩
          simp only [laws_szThreadS.l0]
          rw [if_pos (by omega), if_pos (by omega), rdT50_nat, h]
          simp only [Option.bind_some]
          rw [if_neg (by omega), gw]
          exact h4 k (by omega)
theorem szCrew (a b : Int) (c : List Int) (l : List S50) (e : Int) (hc : c.length ≤ maxLen) (hl : l.length ≤ maxLen) (hf : ∀ t ∈ l, fits t) : (∃ N, ∀ k, N ≤ k → laws_szCrew.f k a b c l e 1048576 = some (-1)) ∨ (c.length ≤ 1048576 ∧ l.length ≤ 1048576 ∧ (∀ t ∈ l, tlen t ≤ 1048576) ∧ ∃ N r, 0 ≤ r ∧ ∀ k, N ≤ k → laws_szCrew.f k a b c l e 1048576 = some r) := by
  simp only [maxLen] at hc hl
  unfold laws_szCrew.f laws_szMem.f laws_szIntS.f laws_szThreadS.f
  rw [w64 (x := 1048576 - (c.length : Int)) (by omega) (by omega)]
  by_cases h1 : 1048576 - (c.length : Int) < 0
  · refine Or.inl ⟨0, fun k _ => ?_⟩
    simp only [h1, if_true, Option.bind_some]
    rfl
  · simp only [h1, if_false, Option.bind_some]
    rw [w64 (x := 1048576 - (c.length : Int) - (l.length : Int)) (by omega) (by omega)]
    by_cases h2 : 1048576 - (c.length : Int) - (l.length : Int) < 0
    · refine Or.inl ⟨0, fun k _ => ?_⟩
      simp only [h2, if_true]
      rfl
    · simp only [h2, if_false]
      rcases szThreadS_go l (by omega) hf l.length 0 (1048576 - (c.length : Int) - (l.length : Int)) (by omega) (by omega) (by omega) (by omega) with h | ⟨h3, r, h4, h5⟩
      · refine Or.inl ⟨l.length + 1, fun k hk => ?_⟩
        have := h k (by omega)
        rw [show ((0 : Nat) : Int) = 0 from rfl] at this
        rw [this]; rfl
      · refine Or.inr ⟨by omega, by omega, fun t ht => ?_, l.length + 1, r, h4, fun k hk => ?_⟩
        · obtain ⟨i, hi, e⟩ := List.mem_iff_getElem.1 ht
          have := h3 i (by omega) hi
          rw [show l.getD i z50 = t by rw [← e]; simp [List.getD, hi]] at this
          exact this
        · have := h5 k (by omega)
          rw [show ((0 : Nat) : Int) = 0 from rfl] at this
          rw [this]
          simp only [Option.bind_some]
          rw [if_neg (by omega)]
theorem toThreadS_go (x0 : List S50) (hx : x0.length ≤ 1048576) (ht : ∀ t ∈ x0, tlen t ≤ 1048576) (d : Nat) : ∀ (k j : Nat) (x3 : List S55), x3.length = x0.length → x0.length - j = d → j ≤ x0.length → d + 1048577 < k → (∀ i, i < j → x3[i]? = (x0.map tconv)[i]?) → laws_toThreadS.l0 k x0 x3 (j : Int) = some (x0.map tconv) := by
  induction d with
  | zero =>
    intro k j x3 hl hd hj hk he
    obtain ⟨k, rfl⟩ : ∃ m, k = m + 1 := ⟨k - 1, by omega⟩
    simp only [laws_toThreadS.l0]
    rw [if_neg (by omega)]
    refine congrArg some (List.ext_getElem? fun i => ?_)
    by_cases hi : i < j
    · exact he i hi
    · rw [List.getElem?_eq_none (show x3.length ≤ i by omega)]
      exact (List.getElem?_eq_none (by rw [List.length_map]; omega)).symm
  | succ d ih =>
    intro k j x3 hl hd hj hk he
    obtain ⟨k, rfl⟩ : ∃ m, k = m + 1 := ⟨k - 1, by omega⟩
    have := ht _ (gd50_mem x0 j (by omega))
    unfold tlen at this
    simp only [laws_toThreadS.l0]
    rw [if_pos (by omega), if_pos (by omega), rdT50_nat, toThread k _ _ _ _ this (by omega)]
    simp only [Option.bind_some]
    rw [if_pos (by omega), w64 (by omega) (by omega)]
    refine ih k (j + 1) _ (by simpa using hl) (by omega) (by omega) (by omega) ?_
    intro i hi
    rw [Int.toNat_natCast, List.getElem?_set]
    by_cases hij : j = i
    · subst hij
      rw [if_pos rfl, if_pos (by omega), List.getElem?_eq_getElem (by rw [List.length_map]; omega), List.getElem_map]
      simp [tconv, List.getD, List.getElem?_eq_getElem (show j < x0.length by omega)]
    · rw [if_neg hij]
      exact he i (by omega)
theorem toCrew (k : Nat) (a b : Int) (c : List Int) (l : List S50) (e : Int) (hc : c.length ≤ 1048576) (hl : l.length ≤ 1048576) (ht : ∀ t ∈ l, tlen t ≤ 1048576) (hk : 2200000 ≤ k) : laws_toCrew.f k a b c l e = some (a, b, c, l.map tconv, e) := by
  unfold laws_toCrew.f laws_toThreadS.f
  rw [toMem k c hc (by omega)]
  simp only [Option.bind_some]
  rw [if_pos (by omega), if_pos (by omega)]
  rw [show (0 : Int) = ((0 : Nat) : Int) from rfl, toThreadS_go l hl ht l.length k 0 _ (by simp) (by omega) (by omega) (by omega) (fun i hi => absurd hi (by omega))]
  rfl
theorem eqThreadS_go (x : List S55) (hx : x.length ≤ 1048576) (ht : ∀ t ∈ x, t.f0.length + t.f2.length + t.f3.length ≤ 1048576) (d : Nat) : ∀ (k j : Nat), x.length - j = d → j ≤ x.length → d + 1048577 < k → laws_eqThreadS.l0 k x x (j : Int) = some true := by
  induction d with
  | zero =>
    intro k j hd hj hk
    obtain ⟨k, rfl⟩ : ∃ e, k = e + 1 := ⟨k - 1, by omega⟩
    simp only [laws_eqThreadS.l0]
    rw [if_neg (by omega)]
  | succ d ih =>
    intro k j hd hj hk
    obtain ⟨k, rfl⟩ : ∃ e, k = e + 1 := ⟨k - 1, by omega⟩
    simp only [laws_eqThreadS.l0]
    rw [if_pos (by omega), if_pos (by omega), if_pos (by omega), rdT55_nat, eqThread k _ _ _ _ (ht _ (gd55_mem x j (by omega))) (by omega)]
    simp only [Option.bind_some, if_true]
    rw [w64 (by omega) (by omega), show (j : Int) + 1 = ((j + 1 : Nat) : Int) by omega]
    exact ih k (j + 1) (by omega) (by omega) (by omega)
theorem eqCrew (k : Nat) (a b : Int) (c : List Int) (l : List S50) (e : Int) (hc : c.length ≤ 1048576) (hl : l.length ≤ 1048576) (ht : ∀ t ∈ l, tlen t ≤ 1048576) (hk : 2200000 ≤ k) : laws_eqCrew.f k a b c (l.map tconv) e a b c (l.map tconv) e = some true := by
  have := eqThreadS_go (l.map tconv) (by rw [List.length_map]; exact hl) (fun t h => by
    obtain ⟨u, hu, rfl⟩ := List.mem_map.1 h
    have := ht u hu
    unfold tlen at this
    show (u.f0.map conv).length + u.f2.length + u.f3.length ≤ 1048576
    rw [List.length_map]; exact this) l.length k 0 (by rw [List.length_map]; omega) (by omega) (by omega)
  rw [show ((0 : Nat) : Int) = 0 from rfl] at this
  unfold laws_eqCrew.f laws_eqThreadS.f
  rw [eqMem k c hc (by omega), this]
  simp


theorem rdT75_nat (l : List S75) (j : Nat) : rd_T75 l (j : Int) = l.getD j z75 := by simp [rd_T75]
theorem begins_eq (w a b c d e f g h i : Int) (j : Bool) : impl_begins.f w a b c d e f g h i j = spec_l07Begin.f w a b c d e f g h i j := rfl
theorem begin_some (w a b c d e f g h i : Int) (j : Bool) : ∃ r, spec_l07Begin.f w a b c d e f g h i j = some r := by
  unfold spec_l07Begin.f spec_StCall.f spec_RiCall.f spec_LiCall.f
  repeat' (first | exact ⟨_, rfl⟩ | split)
def timesB (dn : Bool) (pc bg en clk : Int) : Bool := decide ((if dn = true ∨ pc ≠ 0 then 0 else -1) ≤ bg ∧ bg ≤ clk - 1 ∧ (if dn = true then 0 ≤ en ∧ en ≤ clk - 1 else en = -1))
theorem spec_times (k : Nat) (a b : Int) (c : List Int) (l : List S55) (clk : Int) (h0 : 0 ≤ clk) (h1 : clk ≤ 9223372036854775807) (x0 x1 x2 x3 x4 x5 x6 x7 x8 : Int) (dn : Bool) (bg en : Int) : spec_l07Times.f (k + 1) a b c l clk x0 x1 x2 x3 x4 x5 x6 x7 x8 dn bg en = some (timesB dn x3 bg en clk) := by
  unfold spec_l07Times.f timesB
  simp only [spec_l07Times.j0, l01In, w64 (x := clk - 1) (by omega) (by omega), Option.bind_some]
  cases dn with
  | true =>
    simp only [if_true, true_or]
    by_cases hb : 0 ≤ bg ∧ bg ≤ clk - 1
    · rw [if_pos (by simp [hb])]
      by_cases he : en = -1
      · subst he
        simp
      · rw [if_pos (by simp [he])]
        refine congrArg some ?_
        rw [decide_eq_decide]
        omega
    · rw [if_neg (by simpa using hb)]
      refine congrArg some ?_
      symm
      rw [decide_eq_false_iff_not]
      omega
  | false =>
    simp only [Bool.false_eq_true, if_false, false_or]
    by_cases hp : x3 = 0
    · subst hp
      simp only [bne_self_eq_false, Bool.false_eq_true, if_false, ne_eq, not_true_eq_false]
      by_cases hb : -1 ≤ bg ∧ bg ≤ clk - 1
      · rw [if_pos (by simp [hb])]
        by_cases he : en = -1
        · subst he
          rw [if_pos (by simp)]
          refine congrArg some ?_
          rw [decide_eq_decide]
          omega
        · rw [if_neg (by simp [he])]
          refine congrArg some ?_
          symm
          rw [decide_eq_false_iff_not]
          omega
      · rw [if_neg (by simpa using hb)]
        refine congrArg some ?_
        symm
        rw [decide_eq_false_iff_not]
        omega
    · rw [if_pos (by simp [hp])]
      simp only [ne_eq, hp, not_false_eq_true, if_true]
      by_cases hb : 0 ≤ bg ∧ bg ≤ clk - 1
      · rw [if_pos (by simp [hb])]
        by_cases he : en = -1
        · subst he
          rw [if_pos (by simp)]
          refine congrArg some ?_
          rw [decide_eq_decide]
          omega
        · rw [if_neg (by simp [he])]
          refine congrArg some ?_
          symm
          rw [decide_eq_false_iff_not]
          omega
      · rw [if_neg (by simpa using hb)]
        refine congrArg some ?_
        symm
        rw [decide_eq_false_iff_not]
        omega
theorem impl_times (k : Nat) (i : Nat) (q0 : List S75) (n j : Int) (a b : Int) (c : List Int) (l : List S55) (clk : Int) (h0 : 0 ≤ clk) (h1 : clk ≤ 9223372036854775807) (q : List S75) (at_ : Int) (bg en : List Int) (hb : i < bg.length) (he : i < en.length) (x0 x1 x2 x3 x4 x5 x6 x7 x8 : Int) (dn : Bool) :
    impl_threadOk.j2 (k + 3) (i : Int) q0 n j false a b c l clk q at_ bg en x0 x1 x2 x3 x4 x5 x6 x7 x8 dn = if timesB dn x3 (rd bg (i : Int)) (rd en (i : Int)) clk = true then impl_threadOk.l0 k q0 n (wrap64 (j + 1)) a b c l clk q at_ bg en else some false := by
  generalize hB : rd bg (i : Int) = B
  generalize hE : rd en (i : Int) = E
  have g0 : (0 : Int) ≤ (i : Int) := by omega
  have g1 : (i : Int) < (bg.length : Int) := by omega
  have g2 : (i : Int) < (en.length : Int) := by omega
  have j4 : ∀ x8' : Int, impl_threadOk.j4 (k + 1) (i : Int) x8' (-1) q0 n j a b c l clk q at_ bg en x0 x1 x2 x3 x4 x5 x6 x7 x8 dn = if x8' ≤ B ∧ B ≤ clk - 1 ∧ (if dn = true then 0 ≤ E ∧ E ≤ clk - 1 else E = -1) then impl_threadOk.l0 k q0 n (wrap64 (j + 1)) a b c l clk q at_ bg en else some false := by
    intro x8'
    simp only [impl_threadOk.j4, hB, hE, within, w64 (x := clk - 1) (by omega) (by omega), Option.bind_some]
    rw [if_pos g0, if_pos g1]
    by_cases h : x8' ≤ B ∧ B ≤ clk - 1
    · rw [if_pos (by simp [h]), if_pos g2]
      cases dn with
      | true =>
        simp only [if_true, decide_eq_true_eq]
        by_cases h2 : 0 ≤ E ∧ E ≤ clk - 1
        · rw [if_pos h2, if_pos ⟨h.1, h.2, h2⟩]
        · rw [if_neg h2, if_neg (fun z => h2 z.2.2)]
      | false =>
        simp only [Bool.false_eq_true, if_false, decide_eq_true_eq]
        rw [if_pos g2]
        by_cases h2 : E = -1
        · rw [if_pos (by omega), if_pos ⟨h.1, h.2, h2⟩]
        · rw [if_neg (by omega), if_neg (fun z => h2 z.2.2)]
    · rw [if_neg (by simpa using h), if_neg (fun z => h ⟨z.1, z.2.1⟩)]
  unfold timesB
  simp only [impl_threadOk.j2, impl_threadOk.j3, j4, Bool.false_eq_true, if_false, decide_eq_true_eq]
  cases dn with
  | true => simp only [if_true, true_or]
  | false =>
    simp only [Bool.false_eq_true, if_false, false_or]
    by_cases hp : x3 = 0
    · subst hp
      simp only [bne_self_eq_false, Bool.false_eq_true, if_false, ne_eq, not_true_eq_false]
    · rw [if_pos (by simp [hp])]
      simp only [ne_eq, hp, not_false_eq_true, if_true]
theorem thread_go (a b : Int) (m : List Int) (l : List S55) (clk : Int) (h0 : 0 ≤ clk) (h1 : clk ≤ 9223372036854775807) (q : List S75) (at_ : Int) (c e : List Int) (hq : q.length ≤ 1048576) (hc : c.length = q.length) (he : e.length = q.length) (d : Nat) :
    ∀ j : Nat, q.length - j = d → j ≤ q.length → ∃ r, ∀ k, 4 * d < k → spec_l07Thread.l0 k q (q.length : Int) (j : Int) a b m l clk q at_ c e = some r ∧ impl_threadOk.l0 k q (q.length : Int) (j : Int) a b m l clk q at_ c e = some r := by
  induction d with
  | zero =>
    intro j hd hj
    refine ⟨true, fun k hk => ?_⟩
    obtain ⟨k, rfl⟩ : ∃ m, k = m + 1 := ⟨k - 1, by omega⟩
    simp only [spec_l07Thread.l0, impl_threadOk.l0]
    rw [if_neg (by omega), if_neg (by omega)]
    exact ⟨rfl, rfl⟩
  | succ d ih =>
    intro j hd hj
    have g : (j : Int) < (q.length : Int) := by omega
    have g0 : 0 ≤ (j : Int) := by omega
    have g1 : (j : Int) < (c.length : Int) := by omega
    have g2 : (j : Int) < (e.length : Int) := by omega
    have gw : wrap64 ((j : Int) + 1) = ((j + 1 : Nat) : Int) := by rw [w64 (by omega) (by omega)]; omega
    obtain ⟨r, hr⟩ := ih (j + 1) (by omega) (by omega)
    generalize hx : rd_T75 q (j : Int) = x
    have T : ∀ k, 4 * d < k → ((spec_l07Times.f (k + 3) a b m l clk x.f0 x.f1 x.f2 x.f3 x.f4 x.f5 x.f6 x.f7 x.f8 x.f9 (rd c (j : Int)) (rd e (j : Int))).bind fun t => if t = true then spec_l07Thread.l0 (k + 3) q (q.length : Int) (wrap64 ((j : Int) + 1)) a b m l clk q at_ c e else some false) = some (if timesB x.f9 x.f3 (rd c (j : Int)) (rd e (j : Int)) clk = true then r else false) ∧ impl_threadOk.j2 (k + 3) (j : Int) q (q.length : Int) (j : Int) false a b m l clk q at_ c e x.f0 x.f1 x.f2 x.f3 x.f4 x.f5 x.f6 x.f7 x.f8 x.f9 = some (if timesB x.f9 x.f3 (rd c (j : Int)) (rd e (j : Int)) clk = true then r else false) := by
      intro k hk
      rw [spec_times _ _ _ _ _ _ h0 h1, impl_times _ _ _ _ _ _ _ _ _ _ h0 h1 _ _ _ _ (by omega) (by omega), gw]
      simp only [Option.bind_some]
      by_cases ht : timesB x.f9 x.f3 (rd c (j : Int)) (rd e (j : Int)) clk = true
      · simp only [ht, if_true]; exact ⟨(hr _ (by omega)).1, (hr k hk).2⟩
      · simp only [ht, if_false]; exact ⟨rfl, rfl⟩
    by_cases c1 : (x.f9 != (decide ((j : Int) < at_))) = true
    · refine ⟨false, fun k hk => ?_⟩
      obtain ⟨k, rfl⟩ : ∃ m, k = m + 2 := ⟨k - 2, by omega⟩
      simp only [spec_l07Thread.l0, impl_threadOk.l0, hx]
      rw [if_pos g, if_pos g0, if_pos g, if_pos g, if_pos g0, if_pos g, if_pos c1, if_pos c1]
      simp only [impl_threadOk.j2, if_true, and_self]
    · by_cases c2 : (j : Int) > at_
      · obtain ⟨t, ht⟩ := begin_some a x.f0 x.f1 x.f2 x.f3 x.f4 x.f5 x.f6 x.f7 x.f8 x.f9
        generalize hn : (!(x.f0 == t.1) || (!(x.f1 == t.2.1) || (!(x.f2 == t.2.2.1) || (!(x.f3 == t.2.2.2.1) || (!(x.f4 == t.2.2.2.2.1) || (!(x.f5 == t.2.2.2.2.2.1) || (!(x.f6 == t.2.2.2.2.2.2.1) || (!(x.f7 == t.2.2.2.2.2.2.2.1) || (!(x.f8 == t.2.2.2.2.2.2.2.2.1) || (!(x.f9 == t.2.2.2.2.2.2.2.2.2))))))))))) = nb
        cases nb with
        | true =>
          refine ⟨false, fun k hk => ?_⟩
          obtain ⟨k, rfl⟩ : ∃ m, k = m + 2 := ⟨k - 2, by omega⟩
          simp only [spec_l07Thread.l0, impl_threadOk.l0, hx]
          rw [if_pos g, if_pos g0, if_pos g, if_pos g, if_pos g0, if_pos g, if_neg c1, if_neg c1, if_pos c2, if_pos c2, begins_eq, ht]
          simp only [Option.bind_some, hn, impl_threadOk.j2, if_true, and_self]
        | false =>
          refine ⟨if timesB x.f9 x.f3 (rd c (j : Int)) (rd e (j : Int)) clk = true then r else false, fun k hk => ?_⟩
          obtain ⟨k, rfl⟩ : ∃ m, k = m + 4 := ⟨k - 4, by omega⟩
          have := T k (by omega)
          simp only [spec_l07Thread.l0, impl_threadOk.l0, hx]
          rw [if_pos g, if_pos g0, if_pos g, if_pos g, if_pos g0, if_pos g, if_neg c1, if_neg c1, if_pos c2, if_pos c2, begins_eq, ht]
          simp only [Option.bind_some, hn, Bool.false_eq_true, if_false]
          rw [if_pos g1, if_pos g2]
          exact this
      · refine ⟨if timesB x.f9 x.f3 (rd c (j : Int)) (rd e (j : Int)) clk = true then r else false, fun k hk => ?_⟩
        obtain ⟨k, rfl⟩ : ∃ m, k = m + 4 := ⟨k - 4, by omega⟩
        have := T k (by omega)
        simp only [spec_l07Thread.l0, impl_threadOk.l0, hx]
        rw [if_pos g, if_pos g0, if_pos g, if_pos g, if_pos g0, if_pos g, if_neg c1, if_neg c1, if_neg c2, if_neg c2, if_pos g1, if_pos g2]
        exact this
theorem thread_ok (a b : Int) (m : List Int) (l : List S55) (clk : Int) (h0 : 0 ≤ clk) (h1 : clk ≤ 9223372036854775807) (q : List S75) (at_ : Int) (c e : List Int) (hq : q.length ≤ 1048576) : ∃ r, ∀ k, 4194310 < k → spec_l07Thread.f k a b m l clk q at_ c e = some r ∧ impl_threadOk.f k a b m l clk q at_ c e = some r := by
  unfold spec_l07Thread.f impl_threadOk.f
  simp only [within, Option.bind_some]
  by_cases d1 : (q.length : Int) > 12
  · refine ⟨false, fun k hk => ?_⟩
    obtain ⟨k, rfl⟩ : ∃ m, k = m + 1 := ⟨k - 1, by omega⟩
    rw [if_pos d1, if_pos d1]
    simp only [spec_l07Thread.j0, impl_threadOk.j0, if_true, and_self]
  · by_cases d2 : (c.length : Int) = (q.length : Int)
    · by_cases d3 : (e.length : Int) = (q.length : Int)
      · by_cases d4 : 0 ≤ at_ ∧ at_ ≤ (q.length : Int)
        · obtain ⟨r, hr⟩ := thread_go a b m l clk h0 h1 q at_ c e hq (by omega) (by omega) q.length 0 (by omega) (by omega)
          refine ⟨r, fun k hk => ?_⟩
          obtain ⟨k, rfl⟩ : ∃ m, k = m + 1 := ⟨k - 1, by omega⟩
          rw [if_neg d1, if_neg d1, if_pos d2, if_pos d2, if_pos d3, if_pos d3, if_neg (by omega)]
          have e1 : decide (at_ > (q.length : Int)) = false := by simp; omega
          have e2 : (!decide (0 ≤ at_ ∧ at_ ≤ (q.length : Int))) = false := by simp [d4]
          rw [e1, e2]
          simp only [spec_l07Thread.j0, impl_threadOk.j0, Bool.false_eq_true, if_false]
          exact hr k (by omega)
        · refine ⟨false, fun k hk => ?_⟩
          obtain ⟨k, rfl⟩ : ∃ m, k = m + 1 := ⟨k - 1, by omega⟩
          rw [if_neg d1, if_neg d1, if_pos d2, if_pos d2, if_pos d3, if_pos d3]
          have e2 : (!decide (0 ≤ at_ ∧ at_ ≤ (q.length : Int))) = true := by rw [decide_eq_false d4]; rfl
          rw [e2]
          simp only [impl_threadOk.j0, if_true, and_true]
          by_cases d5 : at_ < 0
          · rw [if_pos d5]; simp only [spec_l07Thread.j0, if_true]
          · rw [if_neg d5, show decide (at_ > (q.length : Int)) = true by simp; omega]; simp only [spec_l07Thread.j0, if_true]
      · refine ⟨false, fun k hk => ?_⟩
        obtain ⟨k, rfl⟩ : ∃ m, k = m + 1 := ⟨k - 1, by omega⟩
        rw [if_neg d1, if_neg d1, if_pos d2, if_pos d2, if_neg d3, if_neg d3]
        simp only [spec_l07Thread.j0, impl_threadOk.j0, if_true, and_self]
    · refine ⟨false, fun k hk => ?_⟩
      obtain ⟨k, rfl⟩ : ∃ m, k = m + 1 := ⟨k - 1, by omega⟩
      rw [if_neg d1, if_neg d1, if_neg d2, if_neg d2]
      simp only [spec_l07Thread.j0, impl_threadOk.j0, if_true, and_self]
theorem crew_go (a b : Int) (m : List Int) (l : List S55) (clk : Int) (h0 : 0 ≤ clk) (h1 : clk ≤ 9223372036854775807) (x : List S55) (hx : x.length ≤ 1048576) (ht : ∀ t ∈ x, t.f0.length ≤ 1048576) (d : Nat) :
    ∀ j : Nat, x.length - j = d → j ≤ x.length → ∃ r, ∀ k, 4194311 + d < k → spec_CrewOk.l0 k x (x.length : Int) (j : Int) a b m l clk = some r ∧ impl_CrewOk.l0 k x (x.length : Int) (j : Int) a b m l clk = some r := by
  induction d with
  | zero =>
    intro j hd hj
    refine ⟨true, fun k hk => ?_⟩
    obtain ⟨k, rfl⟩ : ∃ m, k = m + 1 := ⟨k - 1, by omega⟩
    simp only [spec_CrewOk.l0, impl_CrewOk.l0]
    rw [if_neg (by omega), if_neg (by omega)]
    exact ⟨rfl, rfl⟩
  | succ d ih =>
    intro j hd hj
    have g : (j : Int) < (x.length : Int) := by omega
    have g0 : 0 ≤ (j : Int) := by omega
    have gw : wrap64 ((j : Int) + 1) = ((j + 1 : Nat) : Int) := by rw [w64 (by omega) (by omega)]; omega
    obtain ⟨r, hr⟩ := ih (j + 1) (by omega) (by omega)
    obtain ⟨s, hs⟩ := thread_ok a b m l clk h0 h1 (x.getD j z55).f0 (x.getD j z55).f1 (x.getD j z55).f2 (x.getD j z55).f3 (ht _ (gd55_mem x j (by omega)))
    refine ⟨if s = true then r else false, fun k hk => ?_⟩
    obtain ⟨k, rfl⟩ : ∃ m, k = m + 1 := ⟨k - 1, by omega⟩
    simp only [spec_CrewOk.l0, impl_CrewOk.l0, rdT55_nat]
    rw [if_pos g, if_pos g0, if_pos g, if_pos g, if_pos g0, if_pos g, (hs k (by omega)).1, (hs k (by omega)).2, gw]
    simp only [Option.bind_some]
    cases s with
    | true => simp only [if_true]; exact hr k (by omega)
    | false => simp only [Bool.false_eq_true, if_false, and_self]
/-- What new cells come to: how many, and whether there are any. -/
def cellsN (a b : Int) : Option Int := if a = 1 then (if 1 ≤ b ∧ b ≤ 16 then some (1 + b) else none) else if a = 2 then (if 2 ≤ b ∧ b ≤ 16 then some (2 + 2 * b) else none) else if a = 3 then (if 1 ≤ b ∧ b ≤ 16 then some (1 + 2 * b) else none) else none
theorem cells_of (a b : Int) : ∃ p, (∀ k, 100 ≤ k → impl_cellsOf.f k a b false = some p) ∧ (match cellsN a b with | some n => p.2 = true ∧ (p.1.length : Int) = n | none => p.2 = false) := by
  unfold impl_cellsOf.f cellsN
  by_cases a1 : a = 1
  · simp only [if_pos a1]
    unfold impl_StNew.f
    simp only [within, Option.bind_some]
    by_cases h : 1 ≤ b ∧ b ≤ 16
    · simp only [if_pos h, decide_eq_true_eq]
      rw [w64 (x := 1 + b) (by omega) (by omega)]
      refine ⟨(List.replicate (1 + b).toNat 0, true), fun k hk => ?_, rfl, by simp; omega⟩
      rw [if_pos (by omega), if_pos (by omega)]
      simp
    · refine ⟨([], false), fun k hk => ?_, ?_⟩
      · rw [if_neg (by simpa using h)]; rfl
      · rw [if_neg h]
  · simp only [if_neg a1]
    by_cases a2 : a = 2
    · simp only [if_pos a2]
      by_cases h : 2 ≤ b ∧ b ≤ 16
      · have all : ∀ m : Fin 15, (impl_RiNew.f 100 (((m : Nat) : Int) + 2)).map (fun p => ((p.1.length : Int), p.2)) = some (2 + 2 * (((m : Nat) : Int) + 2), true) := by decide +kernel
        have h1 := all ⟨(b - 2).toNat, by omega⟩
        rw [show (((⟨(b - 2).toNat, by omega⟩ : Fin 15) : Nat) : Int) + 2 = b by show (((b - 2).toNat : Nat) : Int) + 2 = b; omega] at h1
        obtain ⟨p, hp, hq⟩ := Option.map_eq_some_iff.1 h1
        injection hq with hq1 hq2
        refine ⟨p, fun k hk => ?_, ?_⟩
        · rw [at_rounds (g := fun k => impl_RiNew.f k b) (fun k => impl_RiNew.mono b k) hk hp]; rfl
        · rw [if_pos h]; exact ⟨hq2, hq1⟩
      · refine ⟨([], false), fun k hk => ?_, ?_⟩
        · unfold impl_RiNew.f
          simp only [within, Option.bind_some]
          rw [if_neg (by simpa using h)]; rfl
        · rw [if_neg h]
    · simp only [if_neg a2]
      by_cases a3 : a = 3
      · simp only [if_pos a3]
        unfold impl_LiNew.f
        simp only [within, Option.bind_some]
        by_cases h : 1 ≤ b ∧ b ≤ 16
        · simp only [if_pos h, decide_eq_true_eq]
          rw [w64 (x := 2 * b) (by omega) (by omega), w64 (x := 1 + 2 * b) (by omega) (by omega)]
          refine ⟨(List.replicate (1 + 2 * b).toNat 0, true), fun k hk => ?_, rfl, by simp; omega⟩
          rw [if_pos (by omega), if_pos (by omega)]
          simp
        · refine ⟨([], false), fun k hk => ?_, ?_⟩
          · rw [if_neg (by simpa using h)]; rfl
          · rw [if_neg h]
      · simp only [if_neg a3]
        exact ⟨([], false), fun k hk => rfl, rfl⟩
theorem crew_ok (a b : Int) (m : List Int) (l : List S55) (clk : Int) (h1 : clk ≤ 9223372036854775807) (hl : l.length ≤ 1048576) (ht : ∀ t ∈ l, t.f0.length ≤ 1048576) : ∃ r, ∀ k, 6000000 < k → spec_CrewOk.f k a b m l clk = some r ∧ impl_CrewOk.f k a b m l clk = some r := by
  have sfalse : ∀ k, 0 < k → spec_CrewOk.j0 k true a b m l clk = some false := fun k hk => by
    obtain ⟨k, rfl⟩ : ∃ m, k = m + 1 := ⟨k - 1, by omega⟩
    simp only [spec_CrewOk.j0, if_true]
  have ifalse : ∀ k, 0 < k → impl_CrewOk.j0 k true a b m l clk = some false := fun k hk => by
    obtain ⟨k, rfl⟩ : ∃ m, k = m + 1 := ⟨k - 1, by omega⟩
    simp only [impl_CrewOk.j0, if_true]
  obtain ⟨p, hp, hN⟩ := cells_of a b
  have hi : ∀ k, 6000000 < k → impl_CrewOk.f k a b m l clk = if p.2 = true then (if (p.1.length : Int) = (m.length : Int) then (if (l.length : Int) > 6 then some false else impl_CrewOk.j0 k (decide (clk < 0)) a b m l clk) else some false) else some false := by
    intro k hk
    unfold impl_CrewOk.f
    rw [hp k (by omega)]
    simp only [Option.bind_some, ifalse k (by omega)]
  have hs : ∀ k, 6000000 < k → spec_CrewOk.f k a b m l clk = match cellsN a b with | some n => (if (m.length : Int) = n then (if (l.length : Int) > 6 then some false else spec_CrewOk.j0 k (decide (clk < 0)) a b m l clk) else some false) | none => some false := by
    intro k hk
    unfold spec_CrewOk.f spec_l07What.f spec_l03Size.f spec_l07Cells.f cellsN
    simp only [sfalse k (by omega)]
    by_cases w1 : a = 1
    · subst w1
      by_cases h : 1 ≤ b ∧ b ≤ 16
      · rw [w64 (x := 1 + b) (by omega) (by omega)]
        simp [h]
      · by_cases h2 : 1 ≤ b
        · have : ¬ b ≤ 16 := by omega
          simp [h2, this]
        · simp [h2]
    · by_cases w2 : a = 2
      · subst w2
        by_cases h : 2 ≤ b ∧ b ≤ 16
        · rw [w64 (x := 2 * b) (by omega) (by omega), w64 (x := 2 + 2 * b) (by omega) (by omega)]
          have g1 : 1 ≤ b := by omega
          have g2 : ¬ b < 2 := by omega
          simp [h, g1, g2]
        · by_cases h2 : 1 ≤ b
          · by_cases h3 : b ≤ 16
            · have h4 : b < 2 := by omega
              have h5 : ¬ 2 ≤ b := by omega
              simp [h2, h3, h4, h5]
            · have h5 : ¬ (2 ≤ b ∧ b ≤ 16) := by omega
              simp [h2, h3]
          · have h5 : ¬ 2 ≤ b := by omega
            simp [h2, h5]
      · by_cases w3 : a = 3
        · subst w3
          by_cases h : 1 ≤ b ∧ b ≤ 16
          · rw [w64 (x := 2 * b) (by omega) (by omega), w64 (x := 1 + 2 * b) (by omega) (by omega)]
            simp [h]
          · by_cases h2 : 1 ≤ b
            · have : ¬ b ≤ 16 := by omega
              simp [h2, this]
            · simp [h2]
        · by_cases h : a ≥ 1
          · have : ¬ a ≤ 3 := by omega
            simp [h, this, w1, w2, w3]
          · simp [h, w1, w2, w3]
  cases hc : cellsN a b with
  | none =>
    rw [hc] at hN
    refine ⟨false, fun k hk => ⟨by rw [hs k hk, hc], by rw [hi k hk, hN]; rfl⟩⟩
  | some n =>
    rw [hc] at hN
    obtain ⟨hp2, hpl⟩ := hN
    by_cases e1 : (m.length : Int) = n
    · by_cases e2 : (l.length : Int) > 6
      · refine ⟨false, fun k hk => ⟨?_, ?_⟩⟩
        · rw [hs k hk, hc]; simp only []; rw [if_pos e1, if_pos e2]
        · rw [hi k hk, if_pos hp2, if_pos (by omega), if_pos e2]
      · by_cases e3 : clk < 0
        · refine ⟨false, fun k hk => ⟨?_, ?_⟩⟩
          · rw [hs k hk, hc]; simp only []; rw [if_pos e1, if_neg e2, decide_eq_true e3, sfalse k (by omega)]
          · rw [hi k hk, if_pos hp2, if_pos (by omega), if_neg e2, decide_eq_true e3, ifalse k (by omega)]
        · obtain ⟨r, hr⟩ := crew_go a b m l clk (by omega) h1 l hl ht l.length 0 (by omega) (by omega)
          refine ⟨r, fun k hk => ?_⟩
          rw [hs k hk, hi k hk, hc, if_pos hp2, if_pos (show (p.1.length : Int) = (m.length : Int) by omega), if_neg e2, decide_eq_false e3]
          simp only []
          rw [if_pos e1, if_neg e2]
          obtain ⟨k, rfl⟩ : ∃ m, k = m + 1 := ⟨k - 1, by omega⟩
          simp only [spec_CrewOk.j0, impl_CrewOk.j0, Bool.false_eq_true, if_false]
          exact hr k (by omega)
    · refine ⟨false, fun k hk => ⟨?_, ?_⟩⟩
      · rw [hs k hk, hc]; simp only []; rw [if_neg e1]
      · rw [hi k hk, if_pos hp2, if_neg (by omega)]
theorem FnExactCrewOk : laws_FnExactCrewOk.Pure := by
  intro a b c l e ⟨_, _, ⟨hc, _⟩, ⟨hl, hw⟩, he⟩
  rcases szCrew a b c l e hc hl (fun t ht => ⟨(hw t ht).1.1, (hw t ht).2.2.1.1, (hw t ht).2.2.2.1⟩) with ⟨N, h⟩ | ⟨h1, h2, h3, N, r, h4, h5⟩
  · refine ⟨N, ?_⟩
    unfold laws_FnExactCrewOk.f
    rw [h N (Nat.le_refl _)]; rfl
  · obtain ⟨s, hs⟩ := crew_ok a b c (l.map tconv) e (i64r he).2 (by rw [List.length_map]; exact h2) (fun t ht => by
      obtain ⟨u, hu, rfl⟩ := List.mem_map.1 ht
      have := h3 u hu
      unfold tlen at this
      show (u.f0.map conv).length ≤ 1048576
      rw [List.length_map]; omega)
    obtain ⟨K, hK, hK2⟩ : ∃ K : Nat, N ≤ K ∧ 6000000 < K := ⟨N + 6000001, by omega, by omega⟩
    refine ⟨K, ?_⟩
    unfold laws_FnExactCrewOk.f
    rw [h5 K hK]
    simp only [Option.bind_some]
    rw [if_neg (by omega), toCrew K a b c l e h1 h2 h3 (by omega)]
    simp only [Option.bind_some]
    rw [(hs K hK2).1, (hs K hK2).2]
    simp only [Option.bind_some, bne_self_eq_false, Bool.false_eq_true, if_false]
    rw [eqCrew K a b c l e h1 h2 h3 (by omega)]
    simp only [Option.bind_some, if_true]

end Go.Proofs.Ytndkfjecipjiaaa.Pure
