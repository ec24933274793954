/- The law FnExactFacts answers true whatever its arguments hold: the program's function and the reference's come to the same, and no list of an answer is shared. No condition. -/
import Derived.Test.YtndkfjecipjiaaaPFnExactFactsx9
namespace Go.Proofs.Ytndkfjecipjiaaa.Pure
open Go.RowKit Go.Proofs.Ytndkfjecipjiaaa.PFnExactFacts Go.Proofs.YtndkfjecipjiaaaW.PrintWords Go.Proofs.YtndkfjecipjiaaaW.PrintLast
set_option linter.unusedSimpArgs false
set_option linter.unusedVariables false

/-! Small facts. -/
theorem w64 {x : Int} (h0 : -9223372036854775808 ≤ x) (h1 : x ≤ 9223372036854775807) : wrap64 x = x := by unfold wrap64; omega
theorem rd_nat (l : List Int) (j : Nat) : rd l (j : Int) = l.getD j 0 := by simp [rd]
/-- The numbers from m on, n of them. -/
def marked (m : Int) (n : Nat) : List Int := (List.range n).map fun (i : Nat) => m + (i : Int)
theorem marked_len (m : Int) (n : Nat) : (marked m n).length = n := by simp [marked]
theorem marked_get (m : Int) (n j : Nat) (h : j < n) : (marked m n).getD j 0 = m + j := by simp [marked, List.getD, h]
theorem neg1 (n : Nat) : ((1 : Int) + (n : Int) < 0) = False := by simp only [eq_iff_iff, iff_false]; omega
theorem neg0 : ((-1 : Int) < 0) = True := by simp
theorem i64r {n : Int} (h : (Lit.int .i64 n).wf = true) : -9223372036854775808 ≤ n ∧ n ≤ 9223372036854775807 := by
  have e1 : IntKind.i64.min = -9223372036854775808 := by decide
  have e2 : IntKind.i64.max = 9223372036854775807 := by decide
  simp only [Lit.wf, Bool.and_eq_true, decide_eq_true_eq, e1, e2] at h
  exact h

/-! Lists of numbers: copied, compared, marked, held. -/
theorem toIntS_go (x0 : List Int) (hx : x0.length ≤ 140737488355328) (d : Nat) : ∀ (k j : Nat) (x3 : List Int), x3.length = x0.length → x0.length - j = d → j ≤ x0.length → d < k → (∀ i, i < j → x3[i]? = x0[i]?) → laws_toIntS.l0 k x0 x3 (j : Int) = some x0 := by
  induction d with
  | zero =>
    intro k j x3 hl hd hj hk he
    obtain ⟨k, rfl⟩ : ∃ m, k = m + 1 := ⟨k - 1, by omega⟩
    simp only [laws_toIntS.l0]
    rw [if_neg (by omega)]
    refine congrArg some (List.ext_getElem? fun i => ?_)
    by_cases hi : i < j
    · exact he i hi
    · rw [List.getElem?_eq_none (by omega), List.getElem?_eq_none (by omega)]
  | succ d ih =>
    intro k j x3 hl hd hj hk he
    obtain ⟨k, rfl⟩ : ∃ m, k = m + 1 := ⟨k - 1, by omega⟩
    simp only [laws_toIntS.l0]
    rw [if_pos (by omega), if_pos (by omega), if_pos (by omega), w64 (by omega) (by omega)]
    refine ih k (j + 1) _ (by simpa using hl) (by omega) (by omega) (by omega) ?_
    intro i hi
    rw [rd_nat, Int.toNat_natCast, List.getElem?_set]
    by_cases hij : j = i
    · subst hij
      rw [if_pos rfl, if_pos (by omega), List.getElem?_eq_getElem (by omega)]
      simp [List.getD, List.getElem?_eq_getElem (show j < x0.length by omega)]
    · rw [if_neg hij]
      exact he i (by omega)
theorem toIntS (k : Nat) (l : List Int) (hl : l.length ≤ 1048576) (hk : l.length < k) : laws_toIntS.f k l = some l := by
  unfold laws_toIntS.f
  rw [if_pos (by omega), if_pos (by omega)]
  exact toIntS_go l (by omega) l.length k 0 _ (by simp) (by omega) (by omega) (by omega) (fun i hi => absurd hi (by omega))
theorem eqIntS_go (x : List Int) (hx : x.length ≤ 140737488355328) (d : Nat) : ∀ (k j : Nat), x.length - j = d → j ≤ x.length → d < k → laws_eqIntS.l0 k x x (j : Int) = some true := by
  induction d with
  | zero =>
    intro k j hd hj hk
    obtain ⟨k, rfl⟩ : ∃ m, k = m + 1 := ⟨k - 1, by omega⟩
    simp only [laws_eqIntS.l0]
    rw [if_neg (by omega)]
  | succ d ih =>
    intro k j hd hj hk
    obtain ⟨k, rfl⟩ : ∃ m, k = m + 1 := ⟨k - 1, by omega⟩
    simp only [laws_eqIntS.l0]
    rw [if_pos (by omega), if_pos (by omega), if_pos (by omega), if_pos trivial, w64 (by omega) (by omega)]
    exact ih k (j + 1) (by omega) (by omega) (by omega)
theorem eqIntS (k : Nat) (l : List Int) (hl : l.length ≤ 140737488355328) (hk : l.length < k) : laws_eqIntS.f k l l = some true := by
  unfold laws_eqIntS.f
  rw [if_pos rfl]
  exact eqIntS_go l hl l.length k 0 (by omega) (by omega) hk

theorem toMem (k : Nat) (l : List Int) (hl : l.length ≤ 1048576) (hk : l.length < k) : laws_toMem.f k l = some l := by
  unfold laws_toMem.f
  rw [toIntS k l hl hk]; rfl

theorem eqMem (k : Nat) (l : List Int) (hl : l.length ≤ 1048576) (hk : l.length < k) : laws_eqMem.f k l l = some true := by
  unfold laws_eqMem.f
  rw [eqIntS k l (by omega) hk]; rfl

/-! Lists of calls. -/
def conv (x : S106) : S75 := ⟨x.f0, x.f1, x.f2, x.f3, x.f4, x.f5, x.f6, x.f7, x.f8, x.f9⟩
theorem rdT106_nat (l : List S106) (j : Nat) : rd_T106 l (j : Int) = l.getD j z106 := by simp [rd_T106]
theorem toCallS_go (x0 : List S106) (hx : x0.length ≤ 1048576) (d : Nat) : ∀ (k j : Nat) (x3 : List S75), x3.length = x0.length → x0.length - j = d → j ≤ x0.length → d < k → (∀ i, i < j → x3[i]? = (x0.map conv)[i]?) → laws_toCallS.l0 k x0 x3 (j : Int) = some (x0.map conv) := by
  induction d with
  | zero =>
    intro k j x3 hl hd hj hk he
    obtain ⟨k, rfl⟩ : ∃ m, k = m + 1 := ⟨k - 1, by omega⟩
    simp only [laws_toCallS.l0]
    rw [if_neg (by omega)]
    refine congrArg some (List.ext_getElem? fun i => ?_)
    by_cases hi : i < j
    · exact he i hi
    · rw [List.getElem?_eq_none (show x3.length ≤ i by omega)]
      exact (List.getElem?_eq_none (by rw [List.length_map]; omega)).symm
  | succ d ih =>
    intro k j x3 hl hd hj hk he
    obtain ⟨k, rfl⟩ : ∃ m, k = m + 1 := ⟨k - 1, by omega⟩
    simp only [laws_toCallS.l0, laws_toCall.f]
    rw [if_pos (by omega), if_pos (by omega)]
    simp only [Option.bind_some]
    rw [if_pos (by omega), w64 (by omega) (by omega)]
    refine ih k (j + 1) _ (by simpa using hl) (by omega) (by omega) (by omega) ?_
    intro i hi
    rw [rdT106_nat, Int.toNat_natCast, List.getElem?_set]
    by_cases hij : j = i
    · subst hij
      rw [if_pos rfl, if_pos (by omega), List.getElem?_eq_getElem (by rw [List.length_map]; omega), List.getElem_map]
      simp [conv, List.getD, List.getElem?_eq_getElem (show j < x0.length by omega)]
    · rw [if_neg hij]
      exact he i (by omega)
theorem toCallS (k : Nat) (l : List S106) (hl : l.length ≤ 1048576) (hk : l.length < k) : laws_toCallS.f k l = some (l.map conv) := by
  unfold laws_toCallS.f
  rw [if_pos (by omega), if_pos (by omega)]
  exact toCallS_go l (by omega) l.length k 0 _ (by simp) (by omega) (by omega) (by omega) (fun i hi => absurd hi (by omega))

theorem eqCall_refl (a b c d e f g h i : Int) (j : Bool) : laws_eqCall.f a b c d e f g h i j a b c d e f g h i j = some true := by
  simp [laws_eqCall.f]
theorem eqCallS_go (x : List S75) (hx : x.length ≤ 1048576) (d : Nat) : ∀ (k j : Nat), x.length - j = d → j ≤ x.length → d < k → laws_eqCallS.l0 k x x (j : Int) = some true := by
  induction d with
  | zero =>
    intro k j hd hj hk
    obtain ⟨k, rfl⟩ : ∃ e, k = e + 1 := ⟨k - 1, by omega⟩
    simp only [laws_eqCallS.l0]
    rw [if_neg (by omega)]
  | succ d ih =>
    intro k j hd hj hk
    obtain ⟨k, rfl⟩ : ∃ e, k = e + 1 := ⟨k - 1, by omega⟩
    simp only [laws_eqCallS.l0, eqCall_refl]
    rw [if_pos (by omega), if_pos (by omega), if_pos (by omega)]
    simp only [Option.bind_some, if_true]
    rw [w64 (by omega) (by omega), show (j : Int) + 1 = ((j + 1 : Nat) : Int) by omega]
    exact ih k (j + 1) (by omega) (by omega) (by omega)
theorem eqCallS (k : Nat) (l : List S75) (hl : l.length ≤ 1048576) (hk : l.length < k) : laws_eqCallS.f k l l = some true := by
  unfold laws_eqCallS.f
  rw [if_pos rfl]
  simpa using eqCallS_go l (by omega) l.length k 0 (by omega) (by omega) hk

/-! A thread: its size, its image. -/
theorem szThread (a : List S106) (b : Int) (c d : List Int) (ha : a.length ≤ maxLen) (hc : c.length ≤ maxLen) (hd : d.length ≤ maxLen) : (laws_szThread.f a b c d 1048576 = some (-1)) ∨ (a.length + c.length + d.length ≤ 1048576 ∧ ∃ r, 0 ≤ r ∧ laws_szThread.f a b c d 1048576 = some r) := by
  simp only [maxLen] at ha hc hd
  unfold laws_szThread.f laws_szCallS.f laws_szIntS.f
  rw [w64 (x := 1048576 - (a.length : Int)) (by omega) (by omega)]
  by_cases h1 : 1048576 - (a.length : Int) < 0
  · refine Or.inl ?_
    rw [if_pos h1]; rfl
  · rw [if_neg h1]
    simp only [Option.bind_some]
    rw [if_neg h1, w64 (x := 1048576 - (a.length : Int) - (c.length : Int)) (by omega) (by omega)]
    by_cases h2 : 1048576 - (a.length : Int) - (c.length : Int) < 0
    · refine Or.inl ?_
      rw [if_pos h2]; rfl
    · rw [if_neg h2]
      simp only [Option.bind_some]
      rw [if_neg h2, w64 (x := 1048576 - (a.length : Int) - (c.length : Int) - (d.length : Int)) (by omega) (by omega)]
      by_cases h3 : 1048576 - (a.length : Int) - (c.length : Int) - (d.length : Int) < 0
      · refine Or.inl ?_
        rw [if_pos h3]; rfl
      · rw [if_neg h3]
        simp only [Option.bind_some]
        rw [if_neg h3]
        exact Or.inr ⟨by omega, _, by omega, rfl⟩
theorem toThread (k : Nat) (a : List S106) (b : Int) (c d : List Int) (h : a.length + c.length + d.length ≤ 1048576) (hk : 1048577 ≤ k) : laws_toThread.f k a b c d = some (a.map conv, b, c, d) := by
  unfold laws_toThread.f
  rw [toCallS k a (by omega) (by omega), toIntS k c (by omega) (by omega), toIntS k d (by omega) (by omega)]
  rfl

theorem eqThread (k : Nat) (a : List S75) (b : Int) (c d : List Int) (h : a.length + c.length + d.length ≤ 1048576) (hk : 1048577 ≤ k) : laws_eqThread.f k a b c d a b c d = some true := by
  unfold laws_eqThread.f
  rw [eqCallS k a (by omega) (by omega), eqIntS k c (by omega) (by omega), eqIntS k d (by omega) (by omega)]
  simp

/-! A crew: its size, its image. -/
def tconv (t : S50) : S55 := ⟨t.f0.map conv, t.f1, t.f2, t.f3⟩
def tlen (t : S50) : Nat := t.f0.length + t.f2.length + t.f3.length
theorem rdT50_nat (l : List S50) (j : Nat) : rd_T50 l (j : Int) = l.getD j z50 := by simp [rd_T50]
theorem rdT55_nat (l : List S55) (j : Nat) : rd_T55 l (j : Int) = l.getD j z55 := by simp [rd_T55]
theorem gd50_mem (l : List S50) (j : Nat) (h : j < l.length) : l.getD j z50 ∈ l := by
  rw [List.getD_eq_getElem?_getD, List.getElem?_eq_getElem h]; exact List.getElem_mem _
theorem gd55_mem (l : List S55) (j : Nat) (h : j < l.length) : l.getD j z55 ∈ l := by
  rw [List.getD_eq_getElem?_getD, List.getElem?_eq_getElem h]; exact List.getElem_mem _
theorem szThreadG (a : List S106) (b : Int) (c d : List Int) (m : Int) (hm0 : 0 ≤ m) (hm : m ≤ 1048576) (ha : a.length ≤ maxLen) (hc : c.length ≤ maxLen) (hd : d.length ≤ maxLen) : (laws_szThread.f a b c d m = some (-1)) ∨ ((a.length + c.length + d.length : Int) ≤ m ∧ laws_szThread.f a b c d m = some (m - (a.length : Int) - (c.length : Int) - (d.length : Int))) := by
  simp only [maxLen] at ha hc hd
  unfold laws_szThread.f laws_szCallS.f laws_szIntS.f
  rw [w64 (x := m - (a.length : Int)) (by omega) (by omega)]
  by_cases h1 : m - (a.length : Int) < 0
  · refine Or.inl ?_
    rw [if_pos h1]; rfl
  · rw [if_neg h1]
    simp only [Option.bind_some]
    rw [if_neg h1, w64 (x := m - (a.length : Int) - (c.length : Int)) (by omega) (by omega)]
    by_cases h2 : m - (a.length : Int) - (c.length : Int) < 0
    · refine Or.inl ?_
      rw [if_pos h2]; rfl
    · rw [if_neg h2]
      simp only [Option.bind_some]
      rw [if_neg h2, w64 (x := m - (a.length : Int) - (c.length : Int) - (d.length : Int)) (by omega) (by omega)]
      by_cases h3 : m - (a.length : Int) - (c.length : Int) - (d.length : Int) < 0
      · refine Or.inl ?_
        rw [if_pos h3]; rfl
      · rw [if_neg h3]
        simp only [Option.bind_some]
        rw [if_neg h3]
        exact Or.inr ⟨by omega, rfl⟩
def fits (t : S50) : Prop := t.f0.length ≤ maxLen ∧ t.f2.length ≤ maxLen ∧ t.f3.length ≤ maxLen
theorem szThreadS_go (l : List S50) (hl : l.length ≤ 1048576) (hf : ∀ t ∈ l, fits t) (d : Nat) : ∀ (j : Nat) (m : Int), 0 ≤ m → m ≤ 1048576 → l.length - j = d → j ≤ l.length →
    ((∀ k, d < k → laws_szThreadS.l0 k l m (j : Int) = some (-1)) ∨ ((∀ i, j ≤ i → i < l.length → tlen (l.getD i z50) ≤ 1048576) ∧ ∃ r, 0 ≤ r ∧ ∀ k, d < k → laws_szThreadS.l0 k l m (j : Int) = some r)) := by
  induction d with
  | zero =>
    intro j m h0 h1 hd hj
    refine Or.inr ⟨fun i h2 h3 => by omega, m, h0, fun k hk => ?_⟩
    obtain ⟨k, rfl⟩ : ∃ e, k = e + 1 := ⟨k - 1, by omega⟩
    simp only [laws_szThreadS.l0]
    rw [if_neg (by omega)]
  | succ d ih =>
    intro j m h0 h1 hd hj
    obtain ⟨f1, f2, f3⟩ := hf _ (gd50_mem l j (by omega))
    have gw : wrap64 ((j : Int) + 1) = ((j + 1 : Nat) : Int) := by rw [w64 (by omega) (by omega)]; omega
    rcases szThreadG (l.getD j z50).f0 (l.getD j z50).f1 (l.getD j z50).f2 (l.getD j z50).f3 m h0 h1 f1 f2 f3 with h | ⟨hs, h⟩
    · refine Or.inl fun k hk => ?_
      obtain ⟨k, rfl⟩ : ∃ e, k = e + 1 := ⟨k - 1, by omega⟩
      simp only [laws_szThreadS.l0]
      rw [if_pos (by omega), if_pos (by omega), rdT50_nat, h]; rfl
    · rcases ih (j + 1) (m - ((l.getD j z50).f0.length : Int) - ((l.getD j z50).f2.length : Int) - ((l.getD j z50).f3.length : Int)) (by omega) (by omega) (by omega) (by omega) with h2 | ⟨h2, r, h3, h4⟩
      · refine Or.inl fun k hk => ?_
        obtain ⟨k, rfl⟩ : ∃ e, k = e + 1 := ⟨k - 1, by omega⟩
        simp only [laws_szThreadS.l0]
        rw [if_pos (by omega), if_pos (by omega), rdT50_nat, h]
        simp only [Option.bind_some]
        rw [if_neg (by omega), gw]
        exact h2 k (by omega)
      · refine Or.inr ⟨fun i h5 h6 => ?_, r, h3, fun k hk => ?_⟩
        · by_cases e : i = j
          · subst e; unfold tlen; omega
          · exact h2 i (by omega) h6
        · obtain ⟨k, rfl⟩ : ∃ e, k = e + 1 := ⟨k - 1, by omega⟩
          simp only [laws_szThreadS.l0]
          rw [if_pos (by omega), if_pos (by omega), rdT50_nat, h]
          simp only [Option.bind_some]
          rw [if_neg (by omega), gw]
          exact h4 k (by omega)
theorem szCrew (a b : Int) (c : List Int) (l : List S50) (e : Int) (hc : c.length ≤ maxLen) (hl : l.length ≤ maxLen) (hf : ∀ t ∈ l, fits t) : (∃ N, ∀ k, N ≤ k → laws_szCrew.f k a b c l e 1048576 = some (-1)) ∨ (c.length ≤ 1048576 ∧ l.length ≤ 1048576 ∧ (∀ t ∈ l, tlen t ≤ 1048576) ∧ ∃ N r, 0 ≤ r ∧ ∀ k, N ≤ k → laws_szCrew.f k a b c l e 1048576 = some r) := by
  simp only [maxLen] at hc hl
  unfold laws_szCrew.f laws_szMem.f laws_szIntS.f laws_szThreadS.f
  rw [w64 (x := 1048576 - (c.length : Int)) (by omega) (by omega)]
  by_cases h1 : 1048576 - (c.length : Int) < 0
  · refine Or.inl ⟨0, fun k _ => ?_⟩
    simp only [h1, if_true, Option.bind_some]
    rfl
  · simp only [h1, if_false, Option.bind_some]
    rw [w64 (x := 1048576 - (c.length : Int) - (l.length : Int)) (by omega) (by omega)]
    by_cases h2 : 1048576 - (c.length : Int) - (l.length : Int) < 0
    · refine Or.inl ⟨0, fun k _ => ?_⟩
      simp only [h2, if_true]
      rfl
    · simp only [h2, if_false]
      rcases szThreadS_go l (by omega) hf l.length 0 (1048576 - (c.length : Int) - (l.length : Int)) (by omega) (by omega) (by omega) (by omega) with h | ⟨h3, r, h4, h5⟩
      · refine Or.inl ⟨l.length + 1, fun k hk => ?_⟩
        have := h k (by omega)
        rw [show ((0 : Nat) : Int) = 0 from rfl] at this
        rw [this]; rfl
      · refine Or.inr ⟨by omega, by omega, fun t ht => ?_, l.length + 1, r, h4, fun k hk => ?_⟩
        · obtain ⟨i, hi, e⟩ := List.mem_iff_getElem.1 ht
          have := h3 i (by omega) hi
          rw [show l.getD i z50 = t by rw [← e]; simp [List.getD, hi]] at this
          exact this
        · have := h5 k (by omega)
          rw [show ((0 : Nat) : Int) = 0 from rfl] at this
          rw [this]
          simp only [Option.bind_some]
          rw [if_neg (by omega)]
theorem toThreadS_go (x0 : List S50) (hx : x0.length ≤ 1048576) (ht : ∀ t ∈ x0, tlen t ≤ 1048576) (d : Nat) : ∀ (k j : Nat) (x3 : List S55), x3.length = x0.length → x0.length - j = d → j ≤ x0.length → d + 1048577 < k → (∀ i, i < j → x3[i]? = (x0.map tconv)[i]?) → laws_toThreadS.l0 k x0 x3 (j : Int) = some (x0.map tconv) := by
  induction d with
  | zero =>
    intro k j x3 hl hd hj hk he
    obtain ⟨k, rfl⟩ : ∃ m, k = m + 1 := ⟨k - 1, by omega⟩
    simp only [laws_toThreadS.l0]
    rw [if_neg (by omega)]
    refine congrArg some (List.ext_getElem? fun i => ?_)
    by_cases hi : i < j
    · exact he i hi
    · rw [List.getElem?_eq_none (show x3.length ≤ i by omega)]
      exact (List.getElem?_eq_none (by rw [List.length_map]; omega)).symm
  | succ d ih =>
    intro k j x3 hl hd hj hk he
    obtain ⟨k, rfl⟩ : ∃ m, k = m + 1 := ⟨k - 1, by omega⟩
    have := ht _ (gd50_mem x0 j (by omega))
    unfold tlen at this
    simp only [laws_toThreadS.l0]
    rw [if_pos (by omega), if_pos (by omega), rdT50_nat, toThread k _ _ _ _ this (by omega)]
    simp only [Option.bind_some]
    rw [if_pos (by omega), w64 (by omega) (by omega)]
    refine ih k (j + 1) _ (by simpa using hl) (by omega) (by omega) (by omega) ?_
    intro i hi
    rw [Int.toNat_natCast, List.getElem?_set]
    by_cases hij : j = i
    · subst hij
      rw [if_pos rfl, if_pos (by omega), List.getElem?_eq_getElem (by rw [List.length_map]; omega), List.getElem_map]
      simp [tconv, List.getD, List.getElem?_eq_getElem (show j < x0.length by omega)]
    · rw [if_neg hij]
      exact he i (by omega)
theorem toCrew (k : Nat) (a b : Int) (c : List Int) (l : List S50) (e : Int) (hc : c.length ≤ 1048576) (hl : l.length ≤ 1048576) (ht : ∀ t ∈ l, tlen t ≤ 1048576) (hk : 2200000 ≤ k) : laws_toCrew.f k a b c l e = some (a, b, c, l.map tconv, e) := by
  unfold laws_toCrew.f laws_toThreadS.f
  rw [toMem k c hc (by omega)]
  simp only [Option.bind_some]
  rw [if_pos (by omega), if_pos (by omega)]
  rw [show (0 : Int) = ((0 : Nat) : Int) from rfl, toThreadS_go l hl ht l.length k 0 _ (by simp) (by omega) (by omega) (by omega) (fun i hi => absurd hi (by omega))]
  rfl
theorem eqThreadS_go (x : List S55) (hx : x.length ≤ 1048576) (ht : ∀ t ∈ x, t.f0.length + t.f2.length + t.f3.length ≤ 1048576) (d : Nat) : ∀ (k j : Nat), x.length - j = d → j ≤ x.length → d + 1048577 < k → laws_eqThreadS.l0 k x x (j : Int) = some true := by
  induction d with
  | zero =>
    intro k j hd hj hk
    obtain ⟨k, rfl⟩ : ∃ e, k = e + 1 := ⟨k - 1, by omega⟩
    simp only [laws_eqThreadS.l0]
    rw [if_neg (by omega)]
  | succ d ih =>
    intro k j hd hj hk
    obtain ⟨k, rfl⟩ : ∃ e, k = e + 1 := ⟨k - 1, by omega⟩
    simp only [laws_eqThreadS.l0]
    rw [if_pos (by omega), if_pos (by omega), if_pos (by omega), rdT55_nat, eqThread k _ _ _ _ (ht _ (gd55_mem x j (by omega))) (by omega)]
    simp only [Option.bind_some, if_true]
    rw [w64 (by omega) (by omega), show (j : Int) + 1 = ((j + 1 : Nat) : Int) by omega]
    exact ih k (j + 1) (by omega) (by omega) (by omega)
theorem eqCrew (k : Nat) (a b : Int) (c : List Int) (l : List S50) (e : Int) (hc : c.length ≤ 1048576) (hl : l.length ≤ 1048576) (ht : ∀ t ∈ l, tlen t ≤ 1048576) (hk : 2200000 ≤ k) : laws_eqCrew.f k a b c (l.map tconv) e a b c (l.map tconv) e = some true := by
  have := eqThreadS_go (l.map tconv) (by rw [List.length_map]; exact hl) (fun t h => by
    obtain ⟨u, hu, rfl⟩ := List.mem_map.1 h
    have := ht u hu
    unfold tlen at this
    show (u.f0.map conv).length + u.f2.length + u.f3.length ≤ 1048576
    rw [List.length_map]; exact this) l.length k 0 (by rw [List.length_map]; omega) (by omega) (by omega)
  rw [show ((0 : Nat) : Int) = 0 from rfl] at this
  unfold laws_eqCrew.f laws_eqThreadS.f
  rw [eqMem k c hc (by omega), this]
  simp

/-! Marking a crew comes to no number below zero. -/
theorem bump_eq (n : Nat) : ∀ a : Int, 0 ≤ a → a + (n : Int) ≤ 9223372036854775807 → bump n a = a + (n : Int) := by
  induction n with
  | zero => intro a _ _; simp [bump]
  | succ n ih =>
    intro a h0 h1
    unfold bump
    rw [w64 (by omega) (by omega), ih _ (by omega) (by omega)]
    omega
theorem bumpC_eq (n : Nat) : ∀ a : Int, 0 ≤ a → a + 10 * (n : Int) ≤ 9223372036854775807 → bumpC n a = a + 10 * (n : Int) := by
  induction n with
  | zero => intro a _ _; simp [bumpC]
  | succ n ih =>
    intro a h0 h1
    unfold bumpC
    rw [bump_eq 10 a h0 (by omega), ih _ (by omega) (by omega)]
    omega
theorem bumpT_pos (l : List S55) (ht : ∀ t ∈ l, t.f0.length + t.f2.length + t.f3.length ≤ 1048576) : ∀ a : Int, 0 ≤ a → a + 20000000 * (l.length : Int) ≤ 9223372036854775807 → 0 ≤ bumpT l a := by
  induction l with
  | nil => intro a h _; exact h
  | cons t l ih =>
    intro a h0 h1
    have hs := ht t (List.mem_cons_self ..)
    rw [List.length_cons] at h1
    unfold bumpT
    rw [bumpC_eq _ a h0 (by omega), w64 (by omega) (by omega), bump_eq t.f2.length _ (by omega) (by omega), bump_eq t.f3.length _ (by omega) (by omega)]
    exact ih (fun u hu => ht u (List.mem_cons_of_mem _ hu)) _ (by omega) (by omega)
theorem tconv_len (l : List S50) (h : ∀ t ∈ l, tlen t ≤ 1048576) : ∀ t ∈ l.map tconv, t.f0.length + t.f2.length + t.f3.length ≤ 1048576 := by
  intro t ht
  obtain ⟨u, hu, rfl⟩ := List.mem_map.1 ht
  have := h u hu
  unfold tlen at this
  show (u.f0.map conv).length + u.f2.length + u.f3.length ≤ 1048576
  rw [List.length_map]; exact this
theorem markCrew_pos (c : List Int) (l : List S50) (hc : c.length ≤ 1048576) (hl : l.length ≤ 1048576) (h : ∀ t ∈ l, tlen t ≤ 1048576) : ¬ bumpT (l.map tconv) (bump c.length 1) < 0 := by
  rw [bump_eq _ 1 (by omega) (by omega)]
  have := bumpT_pos (l.map tconv) (tconv_len l h) (1 + (c.length : Int)) (by omega) (by rw [List.length_map]; omega)
  omega

/-! The rows of facts. -/
theorem rdT89_nat (l : List S89) (j : Nat) : rd_T89 l (j : Int) = l.getD j z89 := by simp [rd_T89]
theorem rdT55n (l : List S55) (j : Nat) : rd_T55 l (j : Int) = l.getD j z55 := by simp [rd_T55]
theorem rd89_set (l : List S89) (j : Nat) (h : j < l.length) (v : S89) : rd_T89 (l.set ((j : Int)).toNat v) (j : Int) = v := by
  rw [rdT89_nat, Int.toNat_natCast, List.getD_eq_getElem?_getD, List.getElem?_set_self h]; rfl
theorem bind_to {α β : Type} {a : α} (b : α) {f : α → Option β} (h : a = b) : (some a).bind f = f b := by rw [h]; rfl
theorem eqFactS_go (x : List S89) (hx : x.length ≤ 1099511627776) (d : Nat) : ∀ (k j : Nat), x.length - j = d → j ≤ x.length → d < k → laws_eqFactS.l0 k x x (j : Int) = some true := by
  induction d with
  | zero =>
    intro k j hd hj hk
    obtain ⟨k, rfl⟩ : ∃ e, k = e + 1 := ⟨k - 1, by omega⟩
    simp only [laws_eqFactS.l0]
    rw [if_neg (by omega)]
  | succ d ih =>
    intro k j hd hj hk
    obtain ⟨k, rfl⟩ : ∃ e, k = e + 1 := ⟨k - 1, by omega⟩
    simp only [laws_eqFactS.l0, laws_eqFact.f]
    rw [if_pos (by omega), if_pos (by omega), if_pos (by omega)]
    simp only [if_true, Option.bind_some]
    rw [w64 (by omega) (by omega), show (j : Int) + 1 = ((j + 1 : Nat) : Int) by omega]
    exact ih k (j + 1) (by omega) (by omega) (by omega)
theorem eqFactS (k : Nat) (l : List S89) (hl : l.length ≤ 1099511627776) (hk : l.length < k) : laws_eqFactS.f k l l = some true := by
  unfold laws_eqFactS.f
  rw [if_pos rfl]
  exact eqFactS_go l hl l.length k 0 (by omega) (by omega) hk
def fm (X : Int) : S89 := ⟨X, X + 1, X + 2, X + 3, X + 4, X + 5, X + 6, X + 7⟩
def fmarked (m : Int) (n : Nat) : List S89 := (List.range n).map fun (i : Nat) => fm (m + 8 * (i : Int))
theorem fmarked_len (m : Int) (n : Nat) : (fmarked m n).length = n := by simp [fmarked]
theorem fmarked_get (m : Int) (n j : Nat) (h : j < n) : (fmarked m n).getD j z89 = fm (m + 8 * (j : Int)) := by simp [fmarked, List.getD, h]
theorem wraps (X : Int) (h0 : 0 ≤ X) (h1 : X ≤ 1000000000000000000) : wrap64 (X + 1) = X + 1 ∧ wrap64 (X + 1 + 1) = X + 2 ∧ wrap64 (X + 2 + 1) = X + 3 ∧ wrap64 (X + 3 + 1) = X + 4 ∧ wrap64 (X + 4 + 1) = X + 5 ∧ wrap64 (X + 5 + 1) = X + 6 ∧ wrap64 (X + 6 + 1) = X + 7 ∧ wrap64 (X + 7 + 1) = X + 8 := by
  refine ⟨?_, ?_, ?_, ?_, ?_, ?_, ?_, ?_⟩ <;> (rw [w64 (by omega) (by omega)]; try omega)
theorem markFactS_step (k j : Nat) (x : List S89) (X : Int) (h : j < x.length) (hx : x.length ≤ 1099511627776) (h0 : 0 ≤ X) (h1 : X ≤ 1000000000000000000) : laws_markFactS.l0 (k + 1) x X (j : Int) = laws_markFactS.l0 k (x.set j (fm X)) (X + 8) ((j + 1 : Nat) : Int) := by
  obtain ⟨w1, w2, w3, w4, w5, w6, w7, w8⟩ := wraps X h0 h1
  simp only [laws_markFactS.l0]
  rw [if_pos (by omega), if_pos (by omega)]
  rw [w1, w2, w3, w4, w5, w6, w7, w8, w64 (x := (j : Int) + 1) (by omega) (by omega)]
  generalize rd_T89 x (j : Int) = t
  have st : ∀ v v' : S89, (x.set ((j : Int)).toNat v).set ((j : Int)).toNat v' = x.set ((j : Int)).toNat v' := fun v v' => List.set_set ..
  rw [bind_to (x.set ((j : Int)).toNat ⟨X, t.f1, t.f2, t.f3, t.f4, t.f5, t.f6, t.f7⟩) rfl]
  rw [bind_to (x.set ((j : Int)).toNat ⟨X, X + 1, t.f2, t.f3, t.f4, t.f5, t.f6, t.f7⟩) (by rw [rd89_set x j h, st])]
  rw [bind_to (x.set ((j : Int)).toNat ⟨X, X + 1, X + 2, t.f3, t.f4, t.f5, t.f6, t.f7⟩) (by rw [rd89_set x j h, st])]
  rw [bind_to (x.set ((j : Int)).toNat ⟨X, X + 1, X + 2, X + 3, t.f4, t.f5, t.f6, t.f7⟩) (by rw [rd89_set x j h, st])]
  rw [bind_to (x.set ((j : Int)).toNat ⟨X, X + 1, X + 2, X + 3, X + 4, t.f5, t.f6, t.f7⟩) (by rw [rd89_set x j h, st])]
  rw [bind_to (x.set ((j : Int)).toNat ⟨X, X + 1, X + 2, X + 3, X + 4, X + 5, t.f6, t.f7⟩) (by rw [rd89_set x j h, st])]
  rw [bind_to (x.set ((j : Int)).toNat ⟨X, X + 1, X + 2, X + 3, X + 4, X + 5, X + 6, t.f7⟩) (by rw [rd89_set x j h, st])]
  rw [rd89_set x j h, st, Int.toNat_natCast, show (j : Int) + 1 = ((j + 1 : Nat) : Int) by omega]
  rfl
theorem markFactS_go (n : Nat) (hn : n ≤ 1099511627776) (m : Int) (hm0 : 0 ≤ m) (hm : m ≤ 1000000000) (d : Nat) : ∀ (k j : Nat) (x0 : List S89), x0.length = n → n - j = d → j ≤ n → d < k → (∀ i, i < j → x0[i]? = some (fm (m + 8 * (i : Int)))) →
    laws_markFactS.l0 k x0 (m + 8 * (j : Int)) (j : Int) = some (m + 8 * (n : Int), fmarked m n) := by
  induction d with
  | zero =>
    intro k j x0 hl hd hj hk hp
    obtain ⟨k, rfl⟩ : ∃ e, k = e + 1 := ⟨k - 1, by omega⟩
    simp only [laws_markFactS.l0]
    rw [if_neg (by omega)]
    have : j = n := by omega
    subst this
    refine congrArg some (Prod.ext rfl ?_)
    refine List.ext_getElem? fun i => ?_
    by_cases h : i < j
    · rw [hp i h]; simp [fmarked, h]
    · rw [List.getElem?_eq_none (show (fmarked m j).length ≤ i by rw [fmarked_len]; omega)]
      exact List.getElem?_eq_none (show x0.length ≤ i by omega)
  | succ d ih =>
    intro k j x0 hl hd hj hk hp
    obtain ⟨k, rfl⟩ : ∃ e, k = e + 1 := ⟨k - 1, by omega⟩
    rw [markFactS_step k j x0 _ (by omega) (by omega) (by omega) (by omega), show m + 8 * (j : Int) + 8 = m + 8 * ((j + 1 : Nat) : Int) by omega]
    refine ih k (j + 1) _ (by rw [List.length_set]; exact hl) (by omega) (by omega) (by omega) fun i hi => ?_
    by_cases h : i = j
    · subst h
      rw [List.getElem?_set_self (by omega)]
    · rw [List.getElem?_set_ne (by omega), hp i (by omega)]
theorem markFactS (k : Nat) (l : List S89) (m : Int) (hm0 : 0 ≤ m) (hm : m ≤ 1000000000) (hl : l.length ≤ 1099511627776) (hk : l.length < k) : laws_markFactS.f k l m = some (m + 8 * (l.length : Int), fmarked m l.length) := by
  unfold laws_markFactS.f
  have := markFactS_go l.length (by omega) m hm0 hm l.length k 0 l rfl (by omega) (by omega) (by omega) (fun i hi => by omega)
  simpa using this
theorem heldFactS_go (n : Nat) (hn : n ≤ 1099511627776) (m : Int) (hm0 : 0 ≤ m) (hm : m ≤ 1000000000) (d : Nat) : ∀ (k j : Nat), n - j = d → j ≤ n → d < k →
    laws_heldFactS.l0 k (fmarked m n) (m + 8 * (j : Int)) (j : Int) = some (m + 8 * (n : Int)) := by
  induction d with
  | zero =>
    intro k j hd hj hk
    obtain ⟨k, rfl⟩ : ∃ e, k = e + 1 := ⟨k - 1, by omega⟩
    simp only [laws_heldFactS.l0]
    rw [fmarked_len, if_neg (by omega), show j = n by omega]
  | succ d ih =>
    intro k j hd hj hk
    obtain ⟨k, rfl⟩ : ∃ e, k = e + 1 := ⟨k - 1, by omega⟩
    obtain ⟨X, hX⟩ : ∃ X, X = m + 8 * (j : Int) := ⟨_, rfl⟩
    obtain ⟨w1, w2, w3, w4, w5, w6, w7, w8⟩ := wraps X (by omega) (by omega)
    simp only [laws_heldFactS.l0]
    rw [fmarked_len, if_pos (by omega), if_pos (by omega), rdT89_nat, fmarked_get m n j (by omega), ← hX, w1, w2, w3, w4, w5, w6, w7, w8, w64 (x := (j : Int) + 1) (by omega) (by omega)]
    rw [if_pos (show (fm X).f0 = X from rfl), if_pos (show (fm X).f1 = X + 1 from rfl), if_pos (show (fm X).f2 = X + 2 from rfl), if_pos (show (fm X).f3 = X + 3 from rfl), if_pos (show (fm X).f4 = X + 4 from rfl), if_pos (show (fm X).f5 = X + 5 from rfl), if_pos (show (fm X).f6 = X + 6 from rfl), if_pos (show (fm X).f7 = X + 7 from rfl), show X + 8 = m + 8 * ((j + 1 : Nat) : Int) by omega, show (j : Int) + 1 = ((j + 1 : Nat) : Int) by omega]
    exact ih k (j + 1) (by omega) (by omega) (by omega)
theorem heldFactS (k n : Nat) (m : Int) (hm0 : 0 ≤ m) (hm : m ≤ 1000000000) (hn : n ≤ 1099511627776) (hk : n < k) : laws_heldFactS.f k (fmarked m n) m = some (m + 8 * (n : Int)) := by
  unfold laws_heldFactS.f
  have := heldFactS_go n hn m hm0 hm n k 0 (by omega) (by omega) (by omega)
  simpa using this


theorem facts_in (i n x12 : Int) (L : List S55) (q : List S75) (hq : q.length ≤ 1048576) (a : Int) (c e : List Int) (d : Nat) : ∀ (j : Nat) (acc : List S89), q.length - j = d → j ≤ q.length → acc.length + d ≤ 1099511627776 →
    ∃ R : List S89, R.length ≤ acc.length + d ∧ ∀ k, spec_Facts.l1 (k + (2 * d + 1)) acc i L n x12 q (q.length : Int) (j : Int) q a c e = spec_Facts.l0 k R L n (wrap64 (x12 + 1)) ∧ impl_Facts.l1 (k + (2 * d + 1)) acc i L n x12 q (q.length : Int) (j : Int) q a c e = impl_Facts.l0 k R L n (wrap64 (x12 + 1)) := by
  induction d with
  | zero =>
    intro j acc hd hj ha
    refine ⟨acc, by omega, fun k => ?_⟩
    have g : ¬ (j : Int) < (q.length : Int) := by omega
    simp only [spec_Facts.l1, impl_Facts.l1, Nat.mul_zero, Nat.zero_add]
    rw [if_neg g, if_neg g]
    exact ⟨rfl, rfl⟩
  | succ d ih =>
    intro j acc hd hj ha
    have g : (j : Int) < (q.length : Int) := by omega
    have g0 : 0 ≤ (j : Int) := by omega
    have ga : acc.length < 2199023255552 := by omega
    have gw : wrap64 ((j : Int) + 1) = ((j + 1 : Nat) : Int) := by rw [w64 (by omega) (by omega)]; omega
    have keep : ∃ R : List S89, R.length ≤ acc.length + (d + 1) ∧ ∀ k, spec_Facts.l1 (k + (2 * d + 1)) acc i L n x12 q (q.length : Int) (wrap64 ((j : Int) + 1)) q a c e = spec_Facts.l0 k R L n (wrap64 (x12 + 1)) ∧ impl_Facts.l1 (k + (2 * d + 1)) acc i L n x12 q (q.length : Int) (wrap64 ((j : Int) + 1)) q a c e = impl_Facts.l0 k R L n (wrap64 (x12 + 1)) := by
      obtain ⟨R, h1, h2⟩ := ih (j + 1) acc (by omega) (by omega) (by omega)
      rw [gw]
      exact ⟨R, by omega, h2⟩
    have more : ∀ y : S89, ∃ R : List S89, R.length ≤ acc.length + (d + 1) ∧ ∀ k, spec_Facts.l1 (k + (2 * d + 1)) (acc ++ [y]) i L n x12 q (q.length : Int) (wrap64 ((j : Int) + 1)) q a c e = spec_Facts.l0 k R L n (wrap64 (x12 + 1)) ∧ impl_Facts.l1 (k + (2 * d + 1)) (acc ++ [y]) i L n x12 q (q.length : Int) (wrap64 ((j : Int) + 1)) q a c e = impl_Facts.l0 k R L n (wrap64 (x12 + 1)) := by
      intro y
      have hy : (acc ++ [y]).length = acc.length + 1 := by simp
      obtain ⟨R, h1, h2⟩ := ih (j + 1) (acc ++ [y]) (by omega) (by omega) (by omega)
      rw [gw]
      exact ⟨R, by omega, h2⟩
    have rec_ : ∀ y : S89, ∃ R : List S89, R.length ≤ acc.length + (d + 1) ∧ True := fun y => ⟨[], by simp, trivial⟩
    clear rec_ ih
    generalize hx : rd_T75 q (j : Int) = x
    by_cases f : x.f9 = true ∧ (j : Int) < (c.length : Int) ∧ (j : Int) < (e.length : Int)
    · obtain ⟨f1, f2, f3⟩ := f
      obtain ⟨R, h1, hR⟩ := more ⟨i, x.f0, x.f1, x.f7, x.f8, x.f4, rd c (j : Int), rd e (j : Int)⟩
      refine ⟨R, h1, fun k => ?_⟩
      have hR := hR k
      generalize hk9 : k + (2 * d + 1) = K at hR
      rw [show k + (2 * (d + 1) + 1) = K + 1 + 1 by omega]
      refine ⟨?_, ?_⟩
      · rw [← hR.1, spec_Facts.l1]
        rw [if_pos g, if_pos g0, if_pos g, hx, if_pos f1, if_pos f2, spec_Facts.j2, if_pos (decide_eq_true f3), if_pos g0, if_pos f2, if_pos f3, if_pos ga]
      · rw [← hR.2, impl_Facts.l1]
        rw [if_pos g, if_pos g0, if_pos g, hx, if_pos f1, if_pos f2, impl_Facts.j2, if_pos (decide_eq_true f3), if_pos g0, if_pos f2, if_pos f3, if_pos ga]
    · obtain ⟨R, h1, hR⟩ := keep
      refine ⟨R, h1, fun k => ?_⟩
      have hR := hR k
      generalize hk9 : k + (2 * d + 1) = K at hR
      rw [show k + (2 * (d + 1) + 1) = K + 1 + 1 by omega]
      refine ⟨?_, ?_⟩
      · rw [← hR.1, spec_Facts.l1]
        rw [if_pos g, if_pos g0, if_pos g, hx]
        by_cases f1 : x.f9 = true
        · rw [if_pos f1]
          by_cases f2 : (j : Int) < (c.length : Int)
          · rw [if_pos f2, spec_Facts.j2, if_neg (fun h => f ⟨f1, f2, of_decide_eq_true h⟩)]
          · rw [if_neg f2, spec_Facts.j2, if_neg (by simp)]
        · rw [if_neg f1, spec_Facts.j2, if_neg (by simp)]
      · rw [← hR.2, impl_Facts.l1]
        rw [if_pos g, if_pos g0, if_pos g, hx]
        by_cases f1 : x.f9 = true
        · rw [if_pos f1]
          by_cases f2 : (j : Int) < (c.length : Int)
          · rw [if_pos f2, impl_Facts.j2, if_neg (fun h => f ⟨f1, f2, of_decide_eq_true h⟩)]
          · rw [if_neg f2, impl_Facts.j2, if_neg (by simp)]
        · rw [if_neg f1, impl_Facts.j2, if_neg (by simp)]
theorem facts_out (L : List S55) (hL : L.length ≤ 1048576) (ht : ∀ t ∈ L, t.f0.length + t.f2.length + t.f3.length ≤ 1048576) (d : Nat) : ∀ (j : Nat) (acc : List S89), L.length - j = d → j ≤ L.length → acc.length ≤ j * 1048576 →
    ∃ (R : List S89) (N : Nat), R.length ≤ 1099511627776 ∧ ∀ k, N ≤ k → spec_Facts.l0 k acc L (L.length : Int) (j : Int) = some R ∧ impl_Facts.l0 k acc L (L.length : Int) (j : Int) = some R := by
  induction d with
  | zero =>
    intro j acc hd hj ha
    refine ⟨acc, 1, by omega, fun k hk => ?_⟩
    obtain ⟨k, rfl⟩ : ∃ m, k = m + 1 := ⟨k - 1, by omega⟩
    rw [spec_Facts.l0, impl_Facts.l0, if_neg (by omega), if_neg (by omega)]
    exact ⟨rfl, rfl⟩
  | succ d ih =>
    intro j acc hd hj ha
    have g : (j : Int) < (L.length : Int) := by omega
    have g0 : 0 ≤ (j : Int) := by omega
    have gw : wrap64 ((j : Int) + 1) = ((j + 1 : Nat) : Int) := by rw [w64 (by omega) (by omega)]; omega
    have hs := ht _ (gd55_mem L j (by omega))
    generalize hx : rd_T55 L (j : Int) = t
    rw [← rdT55_nat, hx] at hs
    obtain ⟨R, h1, h2⟩ := facts_in (j : Int) (L.length : Int) (j : Int) L t.f0 (by omega) t.f1 t.f2 t.f3 t.f0.length 0 acc (by omega) (by omega) (by omega)
    obtain ⟨R2, N, h3, h4⟩ := ih (j + 1) R (by omega) (by omega) (by omega)
    refine ⟨R2, N + (2 * t.f0.length + 1) + 1, h3, fun k hk => ?_⟩
    obtain ⟨k, rfl⟩ : ∃ m, k = m + (2 * t.f0.length + 1) + 1 := ⟨k - (2 * t.f0.length + 1) - 1, by omega⟩
    have h5 := h2 k
    have h6 := h4 k (by omega)
    rw [gw] at h5
    generalize hk9 : k + (2 * t.f0.length + 1) = K at h5
    refine ⟨?_, ?_⟩
    · rw [← h6.1, ← h5.1, spec_Facts.l0, if_pos g, if_pos g0, if_pos g, hx]; rfl
    · rw [← h6.2, ← h5.2, impl_Facts.l0, if_pos g, if_pos g0, if_pos g, hx]; rfl
theorem FnExactFacts : laws_FnExactFacts.Pure := by
  intro a b c l e ⟨_, _, ⟨hc, _⟩, ⟨hl, hw⟩, he⟩
  rcases szCrew a b c l e hc hl (fun t ht => ⟨(hw t ht).1.1, (hw t ht).2.2.1.1, (hw t ht).2.2.2.1⟩) with ⟨N, h⟩ | ⟨h1, h2, h3, N, r, h4, h5⟩
  · exact Or.inl ⟨N, -1, h N (Nat.le_refl _), by omega⟩
  · have hlen : (l.map tconv).length = l.length := List.length_map ..
    obtain ⟨R, M, hR, hk⟩ := facts_out (l.map tconv) (by rw [hlen]; exact h2) (tconv_len l h3) l.length 0 [] (by rw [hlen]; omega) (by omega) (by simp)
    obtain ⟨K, hK, hK2, hK3⟩ : ∃ K : Nat, N ≤ K ∧ M ≤ K ∧ 1099511627776 + 6000000 < K := ⟨N + M + 1099517627777, by omega, by omega, by omega⟩
    have hs := hk K hK2
    exact Or.inr ⟨K, r, a, b, e, c, l.map tconv, R, fmarked 1 R.length, 1 + 8 * (R.length : Int), h5 K hK, by omega, toCrew K a b c l e h1 h2 h3 (by omega), hs.1, hs.2, eqFactS K R (by omega) (by omega), eqCrew K a b c l e h1 h2 h3 (by omega), markCrew_pos c l h1 h2 h3, markFactS K R 1 (by omega) (by omega) (by omega) (by omega), heldFactS K R.length 1 (by omega) (by omega) (by omega) (by omega), by omega⟩

end Go.Proofs.Ytndkfjecipjiaaa.Pure
