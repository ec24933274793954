/- The law FnExactCrewNew answers true whatever its arguments hold: the program's function and the reference's come to the same, and no list of an answer is shared. No condition. -/
import Derived.Test.YtgghglocfdcegaaPFnExactCrewNewx10
namespace Go.Proofs.Ytgghglocfdcegaa.Pure
open Go.RowKit Go.Proofs.Ytgghglocfdcegaa.PFnExactCrewNew Go.Proofs.YtgghglocfdcegaaW.PrintWords Go.Proofs.YtgghglocfdcegaaW.PrintLast
set_option linter.unusedSimpArgs false
set_option linter.unusedVariables false

/-! Small facts. -/
theorem w64 {x : Int} (h0 : -9223372036854775808 ≤ x) (h1 : x ≤ 9223372036854775807) : wrap64 x = x := by unfold wrap64; omega
theorem rd_nat (l : List Int) (j : Nat) : rd l (j : Int) = l.getD j 0 := by simp [rd]
/-- The numbers from m on, n of them. -/
def marked (m : Int) (n : Nat) : List Int := (List.range n).map fun (i : Nat) => m + (i : Int)
theorem marked_len (m : Int) (n : Nat) : (marked m n).length = n := by simp [marked]
theorem marked_get (m : Int) (n j : Nat) (h : j < n) : (marked m n).getD j 0 = m + j := by simp [marked, List.getD, h]
theorem neg1 (n : Nat) : ((1 : Int) + (n : Int) < 0) = False := by simp only [eq_iff_iff, iff_false]; omega
theorem neg0 : ((-1 : Int) < 0) = True := by simp
theorem i64r {n : Int} (h : (Lit.int .i64 n).wf = true) : -9223372036854775808 ≤ n ∧ n ≤ 9223372036854775807 := by
  have e1 : IntKind.i64.min = -9223372036854775808 := by decide
  have e2 : IntKind.i64.max = 9223372036854775807 := by decide
  simp only [Lit.wf, Bool.and_eq_true, decide_eq_true_eq, e1, e2] at h
  exact h

/-! Lists of numbers: copied, compared, marked, held. -/
theorem toIntS_go (x0 : List Int) (hx : x0.length ≤ 140737488355328) (d : Nat) : ∀ (k j : Nat) (x3 : List Int), x3.length = x0.length → x0.length - j = d → j ≤ x0.length → d < k → (∀ i, i < j → x3[i]? = x0[i]?) → laws_toIntS.l0 k x0 x3 (j : Int) = some x0 := by
  induction d with
  | zero =>
    intro k j x3 hl hd hj hk he
    obtain ⟨k, rfl⟩ : ∃ m, k = m + 1 := ⟨k - 1, by omega⟩
    simp only [laws_toIntS.l0]
    rw [if_neg (by omega)]
    refine congrArg some (List.ext_getElem? fun i => ?_)
    by_cases hi : i < j
    · exact he i hi
    · rw [List.getElem?_eq_none (by omega), List.getElem?_eq_none (by omega)]
  | succ d ih =>
    intro k j x3 hl hd hj hk he
    obtain ⟨k, rfl⟩ : ∃ m, k = m + 1 := ⟨k - 1, by omega⟩
    simp only [laws_toIntS.l0]
    rw [if_pos (by omega), if_pos (by omega), if_pos (by omega), w64 (by omega) (by omega)]
    refine ih k (j + 1) _ (by simpa using hl) (by omega) (by omega) (by omega) ?_
    intro i hi
    rw [rd_nat, Int.toNat_natCast, List.getElem?_set]
    by_cases hij : j = i
    · subst hij
      rw [if_pos rfl, if_pos (by omega), List.getElem?_eq_getElem (by omega)]
      simp [List.getD, List.getElem?_eq_getElem (show j < x0.length by omega)]
    · rw [if_neg hij]
      exact he i (by omega)
theorem toIntS (k : Nat) (l : List Int) (hl : l.length ≤ 1048576) (hk : l.length < k) : laws_toIntS.f k l = some l := by
  unfold laws_toIntS.f
  rw [if_pos (by omega), if_pos (by omega)]
  exact toIntS_go l (by omega) l.length k 0 _ (by simp) (by omega) (by omega) (by omega) (fun i hi => absurd hi (by omega))
theorem eqIntS_go (x : List Int) (hx : x.length ≤ 140737488355328) (d : Nat) : ∀ (k j : Nat), x.length - j = d → j ≤ x.length → d < k → laws_eqIntS.l0 k x x (j : Int) = some true := by
  induction d with
  | zero =>
    intro k j hd hj hk
    obtain ⟨k, rfl⟩ : ∃ m, k = m + 1 := ⟨k - 1, by omega⟩
    simp only [laws_eqIntS.l0]
    rw [if_neg (by omega)]
  | succ d ih =>
    intro k j hd hj hk
    obtain ⟨k, rfl⟩ : ∃ m, k = m + 1 := ⟨k - 1, by omega⟩
    simp only [laws_eqIntS.l0]
    rw [if_pos (by omega), if_pos (by omega), if_pos (by omega), if_pos trivial, w64 (by omega) (by omega)]
    exact ih k (j + 1) (by omega) (by omega) (by omega)
theorem eqIntS (k : Nat) (l : List Int) (hl : l.length ≤ 140737488355328) (hk : l.length < k) : laws_eqIntS.f k l l = some true := by
  unfold laws_eqIntS.f
  rw [if_pos rfl]
  exact eqIntS_go l hl l.length k 0 (by omega) (by omega) hk

theorem markIntS_go (n : Nat) (hn : n ≤ 140737488355328) (m : Int) (hm0 : 0 ≤ m) (hm : m + n ≤ 140737488355328) (d : Nat) : ∀ (k j : Nat) (x0 : List Int), x0.length = n → n - j = d → j ≤ n → d < k → (∀ i, i < j → x0[i]? = some (m + i)) →
    laws_markIntS.l0 k x0 (m + j) (j : Int) = some (m + n, marked m n) := by
  induction d with
  | zero =>
    intro k j x0 hl hd hj hk he
    obtain ⟨k, rfl⟩ : ∃ m, k = m + 1 := ⟨k - 1, by omega⟩
    simp only [laws_markIntS.l0]
    rw [if_neg (by omega)]
    obtain rfl : j = n := by omega
    refine congrArg some (Prod.ext rfl (List.ext_getElem? fun i => ?_))
    show x0[i]? = (marked m j)[i]?
    by_cases hi : i < j
    · rw [he i hi]; simp [marked, hi]
    · rw [List.getElem?_eq_none (by omega), List.getElem?_eq_none (by rw [marked_len]; omega)]
  | succ d ih =>
    intro k j x0 hl hd hj hk he
    obtain ⟨k, rfl⟩ : ∃ m, k = m + 1 := ⟨k - 1, by omega⟩
    simp only [laws_markIntS.l0]
    rw [if_pos (by omega), if_pos (by omega), w64 (by omega) (by omega), w64 (by omega) (by omega), show m + (j : Int) + 1 = m + ((j + 1 : Nat) : Int) by omega]
    refine ih k (j + 1) _ (by simpa using hl) (by omega) (by omega) (by omega) ?_
    intro i hi
    rw [Int.toNat_natCast, List.getElem?_set]
    by_cases hij : j = i
    · subst hij
      rw [if_pos rfl, if_pos (by omega)]
    · rw [if_neg hij]
      exact he i (by omega)
theorem markIntS (k : Nat) (l : List Int) (m : Int) (hm0 : 0 ≤ m) (hm : m + l.length ≤ 140737488355328) (hk : l.length < k) : laws_markIntS.f k l m = some (m + l.length, marked m l.length) := by
  unfold laws_markIntS.f
  have := markIntS_go l.length (by omega) m hm0 hm l.length k 0 l rfl (by omega) (by omega) hk (fun i hi => absurd hi (by omega))
  simpa using this
theorem heldIntS_go (n : Nat) (m : Int) (hm0 : 0 ≤ m) (hm : m + n ≤ 140737488355328) (d : Nat) : ∀ (k j : Nat), n - j = d → j ≤ n → d < k → laws_heldIntS.l0 k (marked m n) (m + j) (j : Int) = some (m + n) := by
  induction d with
  | zero =>
    intro k j hd hj hk
    obtain ⟨k, rfl⟩ : ∃ m, k = m + 1 := ⟨k - 1, by omega⟩
    simp only [laws_heldIntS.l0, marked_len]
    rw [if_neg (by omega)]
    obtain rfl : j = n := by omega
    rfl
  | succ d ih =>
    intro k j hd hj hk
    obtain ⟨k, rfl⟩ : ∃ m, k = m + 1 := ⟨k - 1, by omega⟩
    simp only [laws_heldIntS.l0, marked_len]
    rw [if_pos (by omega), if_pos (by omega), if_pos (by rw [rd_nat]; exact marked_get m n j (by omega)), w64 (by omega) (by omega), w64 (by omega) (by omega), show m + (j : Int) + 1 = m + ((j + 1 : Nat) : Int) by omega]
    exact ih k (j + 1) (by omega) (by omega) (by omega)
theorem heldIntS (k : Nat) (n : Nat) (m : Int) (hm0 : 0 ≤ m) (hm : m + n ≤ 140737488355328) (hk : n < k) : laws_heldIntS.f k (marked m n) m = some (m + n) := by
  unfold laws_heldIntS.f
  have := heldIntS_go n m hm0 hm n k 0 (by omega) (by omega) hk
  simpa using this

theorem eqMem (k : Nat) (l : List Int) (hl : l.length ≤ 1048576) (hk : l.length < k) : laws_eqMem.f k l l = some true := by
  unfold laws_eqMem.f
  rw [eqIntS k l (by omega) hk]; rfl

/-! Lists of calls. -/
def conv (x : S106) : S75 := ⟨x.f0, x.f1, x.f2, x.f3, x.f4, x.f5, x.f6, x.f7, x.f8, x.f9⟩
theorem rdT106_nat (l : List S106) (j : Nat) : rd_T106 l (j : Int) = l.getD j z106 := by simp [rd_T106]
theorem toCallS_go (x0 : List S106) (hx : x0.length ≤ 1048576) (d : Nat) : ∀ (k j : Nat) (x3 : List S75), x3.length = x0.length → x0.length - j = d → j ≤ x0.length → d < k → (∀ i, i < j → x3[i]? = (x0.map conv)[i]?) → laws_toCallS.l0 k x0 x3 (j : Int) = some (x0.map conv) := by
  induction d with
  | zero =>
    intro k j x3 hl hd hj hk he
    obtain ⟨k, rfl⟩ : ∃ m, k = m + 1 := ⟨k - 1, by omega⟩
    simp only [laws_toCallS.l0]
    rw [if_neg (by omega)]
    refine congrArg some (List.ext_getElem? fun i => ?_)
    by_cases hi : i < j
    · exact he i hi
    · rw [List.getElem?_eq_none (show x3.length ≤ i by omega)]
      exact (List.getElem?_eq_none (by rw [List.length_map]; omega)).symm
  | succ d ih =>
    intro k j x3 hl hd hj hk he
    obtain ⟨k, rfl⟩ : ∃ m, k = m + 1 := ⟨k - 1, by omega⟩
    simp only [laws_toCallS.l0, laws_toCall.f]
    rw [if_pos (by omega), if_pos (by omega)]
    simp only [Option.bind_some]
    rw [if_pos (by omega), w64 (by omega) (by omega)]
    refine ih k (j + 1) _ (by simpa using hl) (by omega) (by omega) (by omega) ?_
    intro i hi
    rw [rdT106_nat, Int.toNat_natCast, List.getElem?_set]
    by_cases hij : j = i
    · subst hij
      rw [if_pos rfl, if_pos (by omega), List.getElem?_eq_getElem (by rw [List.length_map]; omega), List.getElem_map]
      simp [conv, List.getD, List.getElem?_eq_getElem (show j < x0.length by omega)]
    · rw [if_neg hij]
      exact he i (by omega)
theorem toCallS (k : Nat) (l : List S106) (hl : l.length ≤ 1048576) (hk : l.length < k) : laws_toCallS.f k l = some (l.map conv) := by
  unfold laws_toCallS.f
  rw [if_pos (by omega), if_pos (by omega)]
  exact toCallS_go l (by omega) l.length k 0 _ (by simp) (by omega) (by omega) (by omega) (fun i hi => absurd hi (by omega))

theorem eqCall_refl (a b c d e f g h i : Int) (j : Bool) : laws_eqCall.f a b c d e f g h i j a b c d e f g h i j = some true := by
  simp [laws_eqCall.f]
theorem eqCallS_go (x : List S75) (hx : x.length ≤ 1048576) (d : Nat) : ∀ (k j : Nat), x.length - j = d → j ≤ x.length → d < k → laws_eqCallS.l0 k x x (j : Int) = some true := by
  induction d with
  | zero =>
    intro k j hd hj hk
    obtain ⟨k, rfl⟩ : ∃ e, k = e + 1 := ⟨k - 1, by omega⟩
    simp only [laws_eqCallS.l0]
    rw [if_neg (by omega)]
  | succ d ih =>
    intro k j hd hj hk
    obtain ⟨k, rfl⟩ : ∃ e, k = e + 1 := ⟨k - 1, by omega⟩
    simp only [laws_eqCallS.l0, eqCall_refl]
    rw [if_pos (by omega), if_pos (by omega), if_pos (by omega)]
    simp only [Option.bind_some, if_true]
    rw [w64 (by omega) (by omega), show (j : Int) + 1 = ((j + 1 : Nat) : Int) by omega]
    exact ih k (j + 1) (by omega) (by omega) (by omega)
theorem eqCallS (k : Nat) (l : List S75) (hl : l.length ≤ 1048576) (hk : l.length < k) : laws_eqCallS.f k l l = some true := by
  unfold laws_eqCallS.f
  rw [if_pos rfl]
  simpa using eqCallS_go l (by omega) l.length k 0 (by omega) (by omega) hk

/-! A thread: its size, its image. -/
theorem szThread (a : List S106) (b : Int) (c d : List Int) (ha : a.length ≤ maxLen) (hc : c.length ≤ maxLen) (hd : d.length ≤ maxLen) : (laws_szThread.f a b c d 1048576 = some (-1)) ∨ (a.length + c.length + d.length ≤ 1048576 ∧ ∃ r, 0 ≤ r ∧ laws_szThread.f a b c d 1048576 = some r) := by
  simp only [maxLen] at ha hc hd
  unfold laws_szThread.f laws_szCallS.f laws_szIntS.f
  rw [w64 (x := 1048576 - (a.length : Int)) (by omega) (by omega)]
  by_cases h1 : 1048576 - (a.length : Int) < 0
  · refine Or.inl ?_
    rw [if_pos h1]; rfl
  · rw [if_neg h1]
    simp only [Option.bind_some]
    rw [if_neg h1, w64 (x := 1048576 - (a.length : Int) - (c.length : Int)) (by omega) (by omega)]
    by_cases h2 : 1048576 - (a.length : Int) - (c.length : Int) < 0
    · refine Or.inl ?_
      rw [if_pos h2]; rfl
    · rw [if_neg h2]
      simp only [Option.bind_some]
      rw [if_neg h2, w64 (x := 1048576 - (a.length : Int) - (c.length : Int) - (d.length : Int)) (by omega) (by omega)]
      by_cases h3 : 1048576 - (a.length : Int) - (c.length : Int) - (d.length : Int) < 0
      · refine Or.inl ?_
        rw [if_pos h3]; rfl
      · rw [if_neg h3]
        simp only [Option.bind_some]
        rw [if_neg h3]
        exact Or.inr ⟨by omega, _, by omega, rfl⟩
theorem toThread (k : Nat) (a : List S106) (b : Int) (c d : List Int) (h : a.length + c.length + d.length ≤ 1048576) (hk : 1048577 ≤ k) : laws_toThread.f k a b c d = some (a.map conv, b, c, d) := by
  unfold laws_toThread.f
  rw [toCallS k a (by omega) (by omega), toIntS k c (by omega) (by omega), toIntS k d (by omega) (by omega)]
  rfl

theorem eqThread (k : Nat) (a : List S75) (b : Int) (c d : List Int) (h : a.length + c.length + d.length ≤ 1048576) (hk : 1048577 ≤ k) : laws_eqThread.f k a b c d a b c d = some true := by
  unfold laws_eqThread.f
  rw [eqCallS k a (by omega) (by omega), eqIntS k c (by omega) (by omega), eqIntS k d (by omega) (by omega)]
  simp

/-! A crew: its size, its image. -/
def tconv (t : S50) : S55 := ⟨t.f0.map conv, t.f1, t.f2, t.f3⟩
def tlen (t : S50) : Nat := t.f0.length + t.f2.length + t.f3.length
theorem rdT50_nat (l : List S50) (j : Nat) : rd_T50 l (j : Int) = l.getD j z50 := by simp [rd_T50]
theorem rdT55_nat (l : List S55) (j : Nat) : rd_T55 l (j : Int) = l.getD j z55 := by simp [rd_T55]
theorem gd50_mem (l : List S50) (j : Nat) (h : j < l.length) : l.getD j z50 ∈ l := by
  rw [List.getD_eq_getElem?_getD, List.getElem?_eq_getElem h]; exact List.getElem_mem _
theorem gd55_mem (l : List S55) (j : Nat) (h : j < l.length) : l.getD j z55 ∈ l := by
  rw [List.getD_eq_getElem?_getD, List.getElem?_eq_getElem h]; exact List.getElem_mem _
theorem szThreadG (a : List S106) (b : Int) (c d : List Int) (m : Int) (hm0 : 0 ≤ m) (hm : m ≤ 1048576) (ha : a.length ≤ maxLen) (hc : c.length ≤ maxLen) (hd : d.length ≤ maxLen) : (laws_szThread.f a b c d m = some (-1)) ∨ ((a.length + c.length + d.length : Int) ≤ m ∧ laws_szThread.f a b c d m = some (m - (a.length : Int) - (c.length : Int) - (d.length : Int))) := by
  simp only [maxLen] at ha hc hd
  unfold laws_szThread.f laws_szCallS.f laws_szIntS.f
  rw [w64 (x := m - (a.length : Int)) (by omega) (by omega)]
  by_cases h1 : m - (a.length : Int) < 0
  · refine Or.inl ?_
    rw [if_pos h1]; rfl
  · rw [if_neg h1]
    simp only [Option.bind_some]
    rw [if_neg h1, w64 (x := m - (a.length : Int) - (c.length : Int)) (by omega) (by omega)]
    by_cases h2 : m - (a.length : Int) - (c.length : Int) < 0
    · refine Or.inl ?_
      rw [if_pos h2]; rfl
    · rw [if_neg h2]
      simp only [Option.bind_some]
      rw [if_neg h2, w64 (x := m - (a.length : Int) - (c.length : Int) - (d.length : Int)) (by omega) (by omega)]
      by_cases h3 : m - (a.length : Int) - (c.length : Int) - (d.length : Int) < 0
      · refine Or.inl ?_
        rw [if_pos h3]; rfl
      · rw [if_neg h3]
        simp only [Option.bind_some]
        rw [if_neg h3]
        exact Or.inr ⟨by omega, rfl⟩
def fits (t : S50) : Prop := t.f0.length ≤ maxLen ∧ t.f2.length ≤ maxLen ∧ t.f3.length ≤ maxLen
theorem szThreadS_go (l : List S50) (hl : l.length ≤ 1048576) (hf : ∀ t ∈ l, fits t) (d : Nat) : ∀ (j : Nat) (m : Int), 0 ≤ m → m ≤ 1048576 → l.length - j = d → j ≤ l.length →
    ((∀ k, d < k → laws_szThreadS.l0 k l m (j : Int) = some (-1)) ∨ ((∀ i, j ≤ i → i < l.length → tlen (l.getD i z50) ≤ 1048576) ∧ ∃ r, 0 ≤ r ∧ ∀ k, d < k → laws_szThreadS.l0 k l m (j : Int) = some r)) := by
  induction d with
  | zero =>
    intro j m h0 h1 hd hj
    refine Or.inr ⟨fun i h2 h3 => by omega, m, h0, fun k hk => ?_⟩
    obtain ⟨k, rfl⟩ : ∃ e, k = e + 1 := ⟨k - 1, by omega⟩
    simp only [laws_szThreadS.l0]
    rw [if_neg (by omega)]
  | succ d ih =>
    intro j m h0 h1 hd hj
    obtain ⟨f1, f2, f3⟩ := hf _ (gd50_mem l j (by omega))
    have gw : wrap64 ((j : Int) + 1) = ((j + 1 : Nat) : Int) := by rw [w64 (by omega) (by omega)]; omega
    rcases szThreadG (l.getD j z50).f0 (l.getD j z50).f1 (l.getD j z50).f2 (l.getD j z50).f3 m h0 h1 f1 f2 f3 with h | ⟨hs, h⟩
    · refine Or.inl fun k hk => ?_
      obtain ⟨k, rfl⟩ : ∃ e, k = e + 1 := ⟨k - 1, by omega⟩
      simp only [laws_szThreadS.l0]
      rw [if_pos (by omega), if_pos (by omega), rdT50_nat, h]; rfl
    · rcases ih (j + 1) (m - ((l.getD j z50).f0.length : Int) - ((l.getD j z50).f2.length : Int) - ((l.getD j z50).f3.length : Int)) (by omega) (by omega) (by omega) (by omega) with h2 | ⟨h2, r, h3, h4⟩
      · refine Or.inl fun k hk => ?_
        obtain ⟨k, rfl⟩ : ∃ e, k = e + 1 := ⟨k - 1, by omega⟩
        simp only [laws_szThreadS.l0]
        rw [if_pos (by omega), if_pos (by omega), rdT50_nat, h]
        simp only [Option.bind_some]
        rw [if_neg (by omega), gw]
        exact h2 k (by omega)
      · refine Or.inr ⟨fun i h5 h6 => ?_, r, h3, fun k hk => ?_⟩
        · by_cases e : i = j
          · subst e; unfold tlen; omega
          · exact h2 i (by omega) h6
        · obtain ⟨k, rfl⟩ : ∃ e, k = e + 1 := ⟨k - 1, by omega⟩
          simp only [laws_szThreadS.l0]
          rw [if_pos (by omega), if_pos (by omega), rdT50_nat, h]
          simp only [Option.bind_some]
          rw [if_neg (by omega), gw]
          exact h4 k (by omega)
theorem toThreadS_go (x0 : List S50) (hx : x0.length ≤ 1048576) (ht : ∀ t ∈ x0, tlen t ≤ 1048576) (d : Nat) : ∀ (k j : Nat) (x3 : List S55), x3.length = x0.length → x0.length - j = d → j ≤ x0.length → d + 1048577 < k → (∀ i, i < j → x3[i]? = (x0.map tconv)[i]?) → laws_toThreadS.l0 k x0 x3 (j : Int) = some (x0.map tconv) := by
  induction d with
  | zero =>
    intro k j x3 hl hd hj hk he
    obtain ⟨k, rfl⟩ : ∃ m, k = m + 1 := ⟨k - 1, by omega⟩
    simp only [laws_toThreadS.l0]
    rw [if_neg (by omega)]
    refine congrArg some (List.ext_getElem? fun i => ?_)
    by_cases hi : i < j
    · exact he i hi
    · rw [List.getElem?_eq_none (show x3.length ≤ i by omega)]
      exact (List.getElem?_eq_none (by rw [List.length_map]; omega)).symm
  | succ d ih =>
    intro k j x3 hl hd hj hk he
    obtain ⟨k, rfl⟩ : ∃ m, k = m + 1 := ⟨k - 1, by omega⟩
    have := ht _ (gd50_mem x0 j (by omega))
    unfold tlen at this
    simp only [laws_toThreadS.l0]
    rw [if_pos (by omega), if_pos (by omega), rdT50_nat, toThread k _ _ _ _ this (by omega)]
    simp only [Option.bind_some]
    rw [if_pos (by omega), w64 (by omega) (by omega)]
    refine ih k (j + 1) _ (by simpa using hl) (by omega) (by omega) (by omega) ?_
    intro i hi
    rw [Int.toNat_natCast, List.getElem?_set]
    by_cases hij : j = i
    · subst hij
      rw [if_pos rfl, if_pos (by omega), List.getElem?_eq_getElem (by rw [List.length_map]; omega), List.getElem_map]
      simp [tconv, List.getD, List.getElem?_eq_getElem (show j < x0.length by omega)]
    · rw [if_neg hij]
      exact he i (by omega)
theorem eqThreadS_go (x : List S55) (hx : x.length ≤ 1048576) (ht : ∀ t ∈ x, t.f0.length + t.f2.length + t.f3.length ≤ 1048576) (d : Nat) : ∀ (k j : Nat), x.length - j = d → j ≤ x.length → d + 1048577 < k → laws_eqThreadS.l0 k x x (j : Int) = some true := by
  induction d with
  | zero =>
    intro k j hd hj hk
    obtain ⟨k, rfl⟩ : ∃ e, k = e + 1 := ⟨k - 1, by omega⟩
    simp only [laws_eqThreadS.l0]
    rw [if_neg (by omega)]
  | succ d ih =>
    intro k j hd hj hk
    obtain ⟨k, rfl⟩ : ∃ e, k = e + 1 := ⟨k - 1, by omega⟩
    simp only [laws_eqThreadS.l0]
    rw [if_pos (by omega), if_pos (by omega), if_pos (by omega), rdT55_nat, eqThread k _ _ _ _ (ht _ (gd55_mem x j (by omega))) (by omega)]
    simp only [Option.bind_some, if_true]
    rw [w64 (by omega) (by omega), show (j : Int) + 1 = ((j + 1 : Nat) : Int) by omega]
    exact ih k (j + 1) (by omega) (by omega) (by omega)

/-! The marks of a row of calls, of a row of threads. -/
theorem rdT75_nat (l : List S75) (j : Nat) : rd_T75 l (j : Int) = l.getD j z75 := by simp [rd_T75]
theorem rd75_set (l : List S75) (j : Nat) (h : j < l.length) (v : S75) : rd_T75 (l.set ((j : Int)).toNat v) (j : Int) = v := by
  rw [rdT75_nat, Int.toNat_natCast, List.getD_eq_getElem?_getD, List.getElem?_set_self h]; rfl
theorem bind_to {α β : Type} {a : α} (b : α) {f : α → Option β} (h : a = b) : (some a).bind f = f b := by rw [h]; rfl
def cm (X : Int) : S75 := ⟨X, X + 1, X + 2, X + 3, X + 4, X + 5, X + 6, X + 7, X + 8, (Int.tmod (X + 9) 3) == 0⟩
def cmarked (m : Int) (n : Nat) : List S75 := (List.range n).map fun (i : Nat) => cm (m + 10 * (i : Int))
theorem cmarked_len (m : Int) (n : Nat) : (cmarked m n).length = n := by simp [cmarked]
theorem cmarked_get (m : Int) (n j : Nat) (h : j < n) : (cmarked m n).getD j z75 = cm (m + 10 * (j : Int)) := by simp [cmarked, List.getD, h]
theorem wraps (X : Int) (h0 : 0 ≤ X) (h1 : X ≤ 1000000000000000000) : wrap64 (X + 1) = X + 1 ∧ wrap64 (X + 1 + 1) = X + 2 ∧ wrap64 (X + 2 + 1) = X + 3 ∧ wrap64 (X + 3 + 1) = X + 4 ∧ wrap64 (X + 4 + 1) = X + 5 ∧ wrap64 (X + 5 + 1) = X + 6 ∧ wrap64 (X + 6 + 1) = X + 7 ∧ wrap64 (X + 7 + 1) = X + 8 ∧ wrap64 (X + 8 + 1) = X + 9 ∧ wrap64 (X + 9 + 1) = X + 10 := by
  refine ⟨?_, ?_, ?_, ?_, ?_, ?_, ?_, ?_, ?_, ?_⟩ <;> (rw [w64 (by omega) (by omega)]; try omega)
theorem markCallS_step (k j : Nat) (x : List S75) (X : Int) (h : j < x.length) (hx : x.length ≤ 1099511627776) (h0 : 0 ≤ X) (h1 : X ≤ 1000000000000000000) : laws_markCallS.l0 (k + 1) x X (j : Int) = laws_markCallS.l0 k (x.set j (cm X)) (X + 10) ((j + 1 : Nat) : Int) := by
  obtain ⟨w1, w2, w3, w4, w5, w6, w7, w8, w9, w10⟩ := wraps X h0 h1
  simp only [laws_markCallS.l0]
  rw [if_pos (by omega), if_pos (by omega)]
  rw [w1, w2, w3, w4, w5, w6, w7, w8, w9, w10, w64 (x := (j : Int) + 1) (by omega) (by omega)]
  generalize rd_T75 x (j : Int) = t
  have st : ∀ v v' : S75, (x.set ((j : Int)).toNat v).set ((j : Int)).toNat v' = x.set ((j : Int)).toNat v' := fun v v' => List.set_set ..
  rw [bind_to (x.set ((j : Int)).toNat ⟨X, t.f1, t.f2, t.f3, t.f4, t.f5, t.f6, t.f7, t.f8, t.f9⟩) rfl]
  rw [bind_to (x.set ((j : Int)).toNat ⟨X, X + 1, t.f2, t.f3, t.f4, t.f5, t.f6, t.f7, t.f8, t.f9⟩) (by rw [rd75_set x j h, st])]
  rw [bind_to (x.set ((j : Int)).toNat ⟨X, X + 1, X + 2, t.f3, t.f4, t.f5, t.f6, t.f7, t.f8, t.f9⟩) (by rw [rd75_set x j h, st])]
  rw [bind_to (x.set ((j : Int)).toNat ⟨X, X + 1, X + 2, X + 3, t.f4, t.f5, t.f6, t.f7, t.f8, t.f9⟩) (by rw [rd75_set x j h, st])]
  rw [bind_to (x.set ((j : Int)).toNat ⟨X, X + 1, X + 2, X + 3, X + 4, t.f5, t.f6, t.f7, t.f8, t.f9⟩) (by rw [rd75_set x j h, st])]
  rw [bind_to (x.set ((j : Int)).toNat ⟨X, X + 1, X + 2, X + 3, X + 4, X + 5, t.f6, t.f7, t.f8, t.f9⟩) (by rw [rd75_set x j h, st])]
  rw [bind_to (x.set ((j : Int)).toNat ⟨X, X + 1, X + 2, X + 3, X + 4, X + 5, X + 6, t.f7, t.f8, t.f9⟩) (by rw [rd75_set x j h, st])]
  rw [bind_to (x.set ((j : Int)).toNat ⟨X, X + 1, X + 2, X + 3, X + 4, X + 5, X + 6, X + 7, t.f8, t.f9⟩) (by rw [rd75_set x j h, st])]
  rw [bind_to (x.set ((j : Int)).toNat ⟨X, X + 1, X + 2, X + 3, X + 4, X + 5, X + 6, X + 7, X + 8, t.f9⟩) (by rw [rd75_set x j h, st])]
  rw [rd75_set x j h, st, Int.toNat_natCast, show (j : Int) + 1 = ((j + 1 : Nat) : Int) by omega]
  rfl
theorem markCallS_go (n : Nat) (hn : n ≤ 1099511627776) (m : Int) (hm0 : 0 ≤ m) (hm : m ≤ 100000000000000000) (d : Nat) : ∀ (k j : Nat) (x0 : List S75), x0.length = n → n - j = d → j ≤ n → d < k → (∀ i, i < j → x0[i]? = some (cm (m + 10 * (i : Int)))) →
    laws_markCallS.l0 k x0 (m + 10 * (j : Int)) (j : Int) = some (m + 10 * (n : Int), cmarked m n) := by
  induction d with
  | zero =>
    intro k j x0 hl hd hj hk hp
    obtain ⟨k, rfl⟩ : ∃ e, k = e + 1 := ⟨k - 1, by omega⟩
    simp only [laws_markCallS.l0]
    rw [if_neg (by omega)]
    have : j = n := by omega
    subst this
    refine congrArg some (Prod.ext rfl ?_)
    refine List.ext_getElem? fun i => ?_
    by_cases h : i < j
    · rw [hp i h]; simp [cmarked, h]
    · rw [List.getElem?_eq_none (show (cmarked m j).length ≤ i by rw [cmarked_len]; omega)]
      exact List.getElem?_eq_none (show x0.length ≤ i by omega)
  | succ d ih =>
    intro k j x0 hl hd hj hk hp
    obtain ⟨k, rfl⟩ : ∃ e, k = e + 1 := ⟨k - 1, by omega⟩
    rw [markCallS_step k j x0 _ (by omega) (by omega) (by omega) (by omega), show m + 10 * (j : Int) + 10 = m + 10 * ((j + 1 : Nat) : Int) by omega]
    refine ih k (j + 1) _ (by rw [List.length_set]; exact hl) (by omega) (by omega) (by omega) fun i hi => ?_
    by_cases h : i = j
    · subst h
      rw [List.getElem?_set_self (by omega)]
    · rw [List.getElem?_set_ne (by omega), hp i (by omega)]
theorem markCallS (k : Nat) (l : List S75) (m : Int) (hm0 : 0 ≤ m) (hm : m ≤ 100000000000000000) (hl : l.length ≤ 1099511627776) (hk : l.length < k) : laws_markCallS.f k l m = some (m + 10 * (l.length : Int), cmarked m l.length) := by
  unfold laws_markCallS.f
  have := markCallS_go l.length (by omega) m hm0 hm l.length k 0 l rfl (by omega) (by omega) (by omega) (fun i hi => by omega)
  simpa using this
theorem heldCallS_go (n : Nat) (hn : n ≤ 1099511627776) (m : Int) (hm0 : 0 ≤ m) (hm : m ≤ 100000000000000000) (d : Nat) : ∀ (k j : Nat), n - j = d → j ≤ n → d < k →
    laws_heldCallS.l0 k (cmarked m n) (m + 10 * (j : Int)) (j : Int) = some (m + 10 * (n : Int)) := by
  induction d with
  | zero =>
    intro k j hd hj hk
    obtain ⟨k, rfl⟩ : ∃ e, k = e + 1 := ⟨k - 1, by omega⟩
    simp only [laws_heldCallS.l0]
    rw [cmarked_len, if_neg (by omega), show j = n by omega]
  | succ d ih =>
    intro k j hd hj hk
    obtain ⟨k, rfl⟩ : ∃ e, k = e + 1 := ⟨k - 1, by omega⟩
    obtain ⟨X, hX⟩ : ∃ X, X = m + 10 * (j : Int) := ⟨_, rfl⟩
    obtain ⟨w1, w2, w3, w4, w5, w6, w7, w8, w9, w10⟩ := wraps X (by omega) (by omega)
    simp only [laws_heldCallS.l0]
    rw [cmarked_len, if_pos (by omega), if_pos (by omega), rdT75_nat, cmarked_get m n j (by omega), ← hX, w1, w2, w3, w4, w5, w6, w7, w8, w9, w10, w64 (x := (j : Int) + 1) (by omega) (by omega)]
    rw [if_pos (show (cm X).f0 = X from rfl), if_pos (show (cm X).f1 = X + 1 from rfl), if_pos (show (cm X).f2 = X + 2 from rfl), if_pos (show (cm X).f3 = X + 3 from rfl), if_pos (show (cm X).f4 = X + 4 from rfl), if_pos (show (cm X).f5 = X + 5 from rfl), if_pos (show (cm X).f6 = X + 6 from rfl), if_pos (show (cm X).f7 = X + 7 from rfl), if_pos (show (cm X).f8 = X + 8 from rfl), if_neg (show ¬ ((cm X).f9 != ((Int.tmod (X + 9) 3) == 0)) = true by rw [show (cm X).f9 = ((Int.tmod (X + 9) 3) == 0) from rfl]; simp), show X + 10 = m + 10 * ((j + 1 : Nat) : Int) by omega, show (j : Int) + 1 = ((j + 1 : Nat) : Int) by omega]
    exact ih k (j + 1) (by omega) (by omega) (by omega)
theorem heldCallS (k n : Nat) (m : Int) (hm0 : 0 ≤ m) (hm : m ≤ 100000000000000000) (hn : n ≤ 1099511627776) (hk : n < k) : laws_heldCallS.f k (cmarked m n) m = some (m + 10 * (n : Int)) := by
  unfold laws_heldCallS.f
  have := heldCallS_go n hn m hm0 hm n k 0 (by omega) (by omega) (by omega)
  simpa using this
theorem markIntS_at (k : Nat) (l : List Int) (m : Int) (hm0 : 0 ≤ m) (hm : m + l.length ≤ 140737488355328) (hk : l.length < k) {a : Int} (ha : a = m) : laws_markIntS.f k l a = some (m + l.length, marked m l.length) := by rw [ha]; exact markIntS k l m hm0 hm hk
def tot (t : S55) : Int := 10 * (t.f0.length : Int) + 1 + (t.f2.length : Int) + (t.f3.length : Int)
def tm (a : Int) (t : S55) : S55 := ⟨cmarked a t.f0.length, a + 10 * (t.f0.length : Int), marked (a + 10 * (t.f0.length : Int) + 1) t.f2.length, marked (a + 10 * (t.f0.length : Int) + 1 + (t.f2.length : Int)) t.f3.length⟩
def mkL : List S55 → Int → Int × List S55
  | [], a => (a, [])
  | t :: l, a => ((mkL l (a + tot t)).1, tm a t :: (mkL l (a + tot t)).2)
def fits1 (t : S55) : Prop := t.f0.length + t.f2.length + t.f3.length ≤ 1048576
theorem mkT_eq (k : Nat) (hk : 1048577 < k) : ∀ (l : List S55) (a : Int), (∀ t ∈ l, fits1 t) → 0 ≤ a → a + 12000000 * (l.length : Int) ≤ 100000000000000 → mkT k l a = some (mkL l a) ∧ 0 ≤ (mkL l a).1
  | [], a, _, ha, _ => ⟨rfl, ha⟩
  | t :: l, a, hf, ha, hb => by
    have h0 := hf t (by simp)
    unfold fits1 at h0
    simp only [List.length_cons] at hb
    obtain ⟨e, e0⟩ := mkT_eq k hk l (a + tot t) (fun x hx => hf x (by simp [hx])) (by unfold tot; omega) (by unfold tot; omega)
    refine ⟨?_, e0⟩
    simp only [mkT]
    rw [markCallS k t.f0 a ha (by omega) (by omega) (by omega)]
    simp only [Option.bind_some]
    rw [w64 (by omega) (by omega), markIntS k t.f2 (a + 10 * (t.f0.length : Int) + 1) (by omega) (by omega) (by omega)]
    simp only [Option.bind_some]
    rw [markIntS k t.f3 (a + 10 * (t.f0.length : Int) + 1 + (t.f2.length : Int)) (by omega) (by omega) (by omega)]
    simp only [Option.bind_some]
    rw [show a + 10 * (t.f0.length : Int) + 1 + (t.f2.length : Int) + (t.f3.length : Int) = a + tot t by unfold tot; omega, e]
    rfl
theorem mkL_len : ∀ (l : List S55) (a : Int), (mkL l a).2.length = l.length
  | [], _ => rfl
  | t :: l, a => by simp only [mkL, List.length_cons]; rw [mkL_len l]
theorem heldThreadS_go (x : List S55) (hx : x.length ≤ 1048576) : ∀ (l : List S55) (k j : Nat) (a : Int), x.drop j = (mkL l a).2 → x.length - j = l.length → j ≤ x.length → (∀ t ∈ l, fits1 t) → 0 ≤ a → a + 12000000 * (l.length : Int) ≤ 100000000000000 → l.length + 1048577 < k → laws_heldThreadS.l0 k x a (j : Int) = some (mkL l a).1
  | [], k, j, a, hd, hl, hj, hf, ha, hb, hk => by
    obtain ⟨k, rfl⟩ : ∃ e, k = e + 1 := ⟨k - 1, by omega⟩
    simp only [List.length_nil] at hl
    simp only [laws_heldThreadS.l0]
    rw [if_neg (by omega)]
    rfl
  | t :: l, k, j, a, hd, hl, hj, hf, ha, hb, hk => by
    obtain ⟨k, rfl⟩ : ∃ e, k = e + 1 := ⟨k - 1, by omega⟩
    have h0 := hf t (by simp)
    unfold fits1 at h0
    simp only [List.length_cons] at hb hl hk
    have hjx : j < x.length := by omega
    simp only [mkL] at hd
    rw [List.drop_eq_getElem_cons hjx] at hd
    injection hd with hd1 hd2
    have hg : x.getD j z55 = tm a t := by rw [List.getD_eq_getElem?_getD, List.getElem?_eq_getElem hjx, hd1]; rfl
    have e := heldThreadS_go x hx l k (j + 1) (a + tot t) hd2 (by omega) (by omega) (fun x hx => hf x (by simp [hx])) (by unfold tot; omega) (by unfold tot; omega) (by omega)
    simp only [laws_heldThreadS.l0]
    rw [if_pos (by omega), if_pos (by omega), rdT55_nat, hg]
    simp only [tm]
    rw [heldCallS k t.f0.length a ha (by omega) (by omega) (by omega)]
    simp only [Option.bind_some]
    rw [if_neg (by omega), if_pos trivial, w64 (by omega) (by omega), heldIntS k t.f2.length (a + 10 * (t.f0.length : Int) + 1) (by omega) (by omega) (by omega)]
    simp only [Option.bind_some]
    rw [if_neg (by omega), heldIntS k t.f3.length (a + 10 * (t.f0.length : Int) + 1 + (t.f2.length : Int)) (by omega) (by omega) (by omega)]
    simp only [Option.bind_some]
    rw [if_neg (by omega), w64 (by omega) (by omega), show a + 10 * (t.f0.length : Int) + 1 + (t.f2.length : Int) + (t.f3.length : Int) = a + tot t by unfold tot; omega, show (j : Int) + 1 = ((j + 1 : Nat) : Int) by omega, e]
    rfl
theorem heldThreadS (k : Nat) (l : List S55) (a : Int) (hl : l.length ≤ 1048576) (hf : ∀ t ∈ l, fits1 t) (ha : 0 ≤ a) (hb : a + 12000000 * (l.length : Int) ≤ 100000000000000) (hk : l.length + 1048577 < k) : laws_heldThreadS.f k (mkL l a).2 a = some (mkL l a).1 := by
  unfold laws_heldThreadS.f
  have := heldThreadS_go (mkL l a).2 (by rw [mkL_len]; exact hl) l k 0 a rfl (by rw [mkL_len]; omega) (by omega) hf ha hb hk
  simpa using this
theorem heldCrew (k : Nat) (a b : Int) (n : Nat) (l : List S55) (e : Int) (hn : n ≤ 1048576) (hl : l.length ≤ 1048576) (hf : ∀ t ∈ l, fits1 t) (hk : 2200000 ≤ k) : laws_heldCrew.f k a b (marked 1 n) (mkL l (1 + (n : Int))).2 e 1 = some (mkL l (1 + (n : Int))).1 ∧ mkT k l (1 + (n : Int)) = some (mkL l (1 + (n : Int))) ∧ ¬ (mkL l (1 + (n : Int))).1 < 0 := by
  obtain ⟨h1, h2⟩ := mkT_eq k (by omega) l (1 + (n : Int)) hf (by omega) (by omega)
  refine ⟨?_, h1, by omega⟩
  unfold laws_heldCrew.f laws_heldMem.f
  rw [heldIntS k n 1 (by omega) (by omega) (by omega)]
  show (if 1 + (n : Int) < 0 then some (-1) else (laws_heldThreadS.f k (mkL l (1 + (n : Int))).2 (1 + (n : Int))).bind fun t => if t < 0 then some (-1) else some t) = _
  rw [if_neg (by omega), heldThreadS k l (1 + (n : Int)) hl hf (by omega) (by omega) (by omega)]
  simp only [Option.bind_some]
  rw [if_neg (by omega)]

theorem begins_eq (w a b c d e f g h i : Int) (j : Bool) : impl_begins.f w a b c d e f g h i j = spec_l07Begin.f w a b c d e f g h i j := rfl
theorem begin_some (w a b c d e f g h i : Int) (j : Bool) : ∃ r, spec_l07Begin.f w a b c d e f g h i j = some r := by
  unfold spec_l07Begin.f spec_StCall.f spec_RiCall.f spec_LiCall.f
  repeat' (first | exact ⟨_, rfl⟩ | split)
theorem same : ∀ k : Nat, (∀ x0 x1 x2 x3 x4 x5 x6 x7 x8, impl_CrewNew.l0 k x0 x1 x2 x3 x4 x5 x6 x7 x8 = spec_CrewNew.l0 k x0 x1 x2 x3 x4 x5 x6 x7 x8) ∧ (∀ x0 x1 x2 x3 x4 x5 x6 x7 x8 x9 y0 y1 y2 y3 y4 y5, impl_CrewNew.l1 k x0 x1 x2 x3 x4 x5 x6 x7 x8 x9 y0 y1 y2 y3 y4 y5 = spec_CrewNew.l1 k x0 x1 x2 x3 x4 x5 x6 x7 x8 x9 y0 y1 y2 y3 y4 y5)
  | 0 => ⟨fun _ _ _ _ _ _ _ _ _ => by simp only [impl_CrewNew.l0, spec_CrewNew.l0], fun _ _ _ _ _ _ _ _ _ _ _ _ _ _ _ _ => by simp only [impl_CrewNew.l1, spec_CrewNew.l1]⟩
  | k + 1 => by
    obtain ⟨h1, h2⟩ := same k
    exact ⟨fun _ _ _ _ _ _ _ _ _ => by simp only [impl_CrewNew.l0, spec_CrewNew.l0, h2], fun _ _ _ _ _ _ _ _ _ _ _ _ _ _ _ _ => by simp only [impl_CrewNew.l1, spec_CrewNew.l1, h1, h2, begins_eq]⟩
def goodR (r : Int × Int × List Int × List S55 × Int × Bool) : Prop := r.2.2.1.length ≤ 1000 ∧ r.2.2.2.1.length ≤ 6 ∧ ∀ t ∈ r.2.2.2.1, t.f0.length ≤ 12 ∧ t.f2.length ≤ 12 ∧ t.f3.length ≤ 12
theorem goodF : goodR (0, 0, ([] : List Int), ([] : List (S55)), 0, false) := ⟨by simp, by simp, fun t h => by simp at h⟩
theorem new_l1 (a0 : Int) (l : List S55) (j : Nat) (r0 r1 : Int) (m : List Int) (acc : List S55) (c : Int) (M : Nat) (q : List S75) (hq : q.length ≤ 12) (hl : l.length ≤ 6) (hacc : acc.length ≤ 6)
    (H : ∀ (k : Nat) (x : S55), M ≤ k → (x.f0.length ≤ 12 ∧ x.f2.length ≤ 12 ∧ x.f3.length ≤ 12) → ∃ r, spec_CrewNew.l0 k a0 l (l.length : Int) ((j + 1 : Nat) : Int) r0 r1 m (acc ++ [x]) c = some r ∧ goodR r) (hj : j < l.length) (d : Nat) :
    ∀ (i k : Nat) (cs : List S75) (bs es : List Int), q.length - i = d → i ≤ q.length → cs.length = i → bs.length = i → es.length = i → M + d < k → ∃ r, spec_CrewNew.l1 k a0 l (l.length : Int) (j : Int) q (q.length : Int) (i : Int) r0 r1 m acc c cs 0 bs es = some r ∧ goodR r := by
  induction d with
  | zero =>
    intro i k cs bs es hd hi hc hb he hk
    obtain ⟨k, rfl⟩ : ∃ e, k = e + 1 := ⟨k - 1, by omega⟩
    simp only [spec_CrewNew.l1]
    rw [if_neg (by omega), if_pos (by omega), w64 (by omega) (by omega), show (j : Int) + 1 = ((j + 1 : Nat) : Int) by omega]
    exact H k _ (by omega) ⟨by simp only; omega, by simp only; omega, by simp only; omega⟩
  | succ d ih =>
    intro i k cs bs es hd hi hc hb he hk
    obtain ⟨k, rfl⟩ : ∃ e, k = e + 1 := ⟨k - 1, by omega⟩
    simp only [spec_CrewNew.l1]
    rw [if_pos (by omega), if_pos (by omega), if_pos (by omega)]
    generalize rd_T75 q (i : Int) = x
    obtain ⟨t, ht⟩ := begin_some a0 x.f0 x.f1 x.f2 x.f3 x.f4 x.f5 x.f6 x.f7 x.f8 x.f9
    rw [ht]
    simp only [Option.bind_some]
    by_cases h0 : t.1 = 0
    · rw [if_pos h0]
      exact ⟨_, rfl, goodF⟩
    · rw [if_neg h0, if_pos (by omega), if_pos (by omega), if_pos (by omega), w64 (by omega) (by omega), show (i : Int) + 1 = ((i + 1 : Nat) : Int) by omega]
      exact ih (i + 1) k _ _ _ (by omega) (by omega) (by simp; omega) (by simp; omega) (by simp; omega) (by omega)
theorem new_l0 (a0 : Int) (l : List S55) (r0 r1 : Int) (m : List Int) (c : Int) (hl : l.length ≤ 6) (hm : m.length ≤ 1000) (n : Nat) :
    ∀ (j k : Nat) (acc : List S55), l.length - j = n → j ≤ l.length → acc.length = j → (∀ t ∈ acc, t.f0.length ≤ 12 ∧ t.f2.length ≤ 12 ∧ t.f3.length ≤ 12) → 20 * n < k → ∃ r, spec_CrewNew.l0 k a0 l (l.length : Int) (j : Int) r0 r1 m acc c = some r ∧ goodR r := by
  induction n with
  | zero =>
    intro j k acc hd hj ha hg hk
    obtain ⟨k, rfl⟩ : ∃ e, k = e + 1 := ⟨k - 1, by omega⟩
    simp only [spec_CrewNew.l0]
    rw [if_neg (by omega)]
    exact ⟨_, rfl, hm, by simp only; omega, hg⟩
  | succ n ih =>
    intro j k acc hd hj ha hg hk
    obtain ⟨k, rfl⟩ : ∃ e, k = e + 1 := ⟨k - 1, by omega⟩
    simp only [spec_CrewNew.l0]
    rw [if_pos (by omega), if_pos (by omega), if_pos (by omega)]
    generalize rd_T55 l (j : Int) = x
    by_cases h0 : (x.f0.length : Int) > 12
    · rw [if_pos h0]
      exact ⟨_, rfl, goodF⟩
    · rw [if_neg h0]
      refine new_l1 a0 l j r0 r1 m acc c (20 * n + 1) x.f0 (by omega) hl (by omega) (fun k' y hk' hy => ?_) (by omega) x.f0.length 0 k [] [] [] (by omega) (by omega) rfl rfl rfl (by omega)
      refine ih (j + 1) k' _ (by omega) (by omega) (by simp; omega) (fun t ht => ?_) (by omega)
      rcases List.mem_append.1 ht with h | h
      · exact hg t h
      · obtain rfl := List.mem_singleton.1 h
        exact hy
theorem cellsSt : ∀ n : Fin 16, ∀ b : Bool, ∃ p, spec_StNew.f 100 (((n : Nat) : Int) + 1) b = some p ∧ impl_StNew.f 100 (((n : Nat) : Int) + 1) b = some p ∧ p.1.length ≤ 1000 := by
  have all : ∀ n : Fin 16, ∀ b : Bool, (spec_StNew.f 100 (((n : Nat) : Int) + 1) b).any (fun p => decide (p.1.length ≤ 1000)) = true ∧ spec_StNew.f 100 (((n : Nat) : Int) + 1) b = impl_StNew.f 100 (((n : Nat) : Int) + 1) b := by decide +kernel
  intro n b
  obtain ⟨h1, h2⟩ := all n b
  obtain ⟨p, hp, hl⟩ := (Option.any_eq_true _ _).1 h1
  exact ⟨p, hp, h2 ▸ hp, of_decide_eq_true hl⟩
theorem cellsRi : ∀ n : Fin 15, ∃ p, spec_RiNew.f 100 (((n : Nat) : Int) + 2) = some p ∧ impl_RiNew.f 100 (((n : Nat) : Int) + 2) = some p ∧ p.1.length ≤ 1000 := by
  have all : ∀ n : Fin 15, (spec_RiNew.f 100 (((n : Nat) : Int) + 2)).any (fun p => decide (p.1.length ≤ 1000)) = true ∧ spec_RiNew.f 100 (((n : Nat) : Int) + 2) = impl_RiNew.f 100 (((n : Nat) : Int) + 2) := by decide +kernel
  intro n
  obtain ⟨h1, h2⟩ := all n
  obtain ⟨p, hp, hl⟩ := (Option.any_eq_true _ _).1 h1
  exact ⟨p, hp, h2 ▸ hp, of_decide_eq_true hl⟩
theorem cellsLi : ∀ n : Fin 16, ∃ p, spec_LiNew.f (((n : Nat) : Int) + 1) = some p ∧ impl_LiNew.f (((n : Nat) : Int) + 1) = some p ∧ p.1.length ≤ 1000 := by
  have all : ∀ n : Fin 16, (spec_LiNew.f (((n : Nat) : Int) + 1)).any (fun p => decide (p.1.length ≤ 1000)) = true ∧ spec_LiNew.f (((n : Nat) : Int) + 1) = impl_LiNew.f (((n : Nat) : Int) + 1) := by decide +kernel
  intro n
  obtain ⟨h1, h2⟩ := all n
  obtain ⟨p, hp, hl⟩ := (Option.any_eq_true _ _).1 h1
  exact ⟨p, hp, h2 ▸ hp, of_decide_eq_true hl⟩
theorem newSt (b : Int) (f : Bool) : ∃ p, p.1.length ≤ 1000 ∧ ∀ k, 100 ≤ k → spec_StNew.f k b f = some p ∧ impl_StNew.f k b f = some p := by
  by_cases h : 1 ≤ b ∧ b ≤ 16
  · obtain ⟨p, h1, h2, h3⟩ := cellsSt ⟨(b - 1).toNat, by omega⟩ f
    have e : (((b - 1).toNat : Nat) : Int) + 1 = b := by omega
    simp only [e] at h1 h2
    exact ⟨p, h3, fun k hk => ⟨at_rounds (spec_StNew.mono b f) hk h1, at_rounds (impl_StNew.mono b f) hk h2⟩⟩
  · refine ⟨([], false), by simp, fun k _ => ⟨?_, ?_⟩⟩
    · unfold spec_StNew.f spec_l03Size.f
      repeat' split
      all_goals first | rfl | omega | (simp only [Option.bind_some]; rw [if_neg (by simp; omega)])
    · unfold impl_StNew.f impl_within.f
      repeat' split
      all_goals first | rfl | omega | (simp only [Option.bind_some]; rw [if_neg (by simp; omega)])
theorem newRi (b : Int) : ∃ p, p.1.length ≤ 1000 ∧ ∀ k, 100 ≤ k → spec_RiNew.f k b = some p ∧ impl_RiNew.f k b = some p := by
  by_cases h : 2 ≤ b ∧ b ≤ 16
  · obtain ⟨p, h1, h2, h3⟩ := cellsRi ⟨(b - 2).toNat, by omega⟩
    have e : (((b - 2).toNat : Nat) : Int) + 2 = b := by omega
    simp only [e] at h1 h2
    exact ⟨p, h3, fun k hk => ⟨at_rounds (spec_RiNew.mono b) hk h1, at_rounds (impl_RiNew.mono b) hk h2⟩⟩
  · refine ⟨([], false), by simp, fun k _ => ⟨?_, ?_⟩⟩
    · unfold spec_RiNew.f spec_l04Size.f
      repeat' split
      all_goals first | rfl | omega | (simp only [Option.bind_some]; rw [if_neg (by simp; omega)])
    · unfold impl_RiNew.f impl_within.f
      repeat' split
      all_goals first | rfl | omega | (simp only [Option.bind_some]; rw [if_neg (by simp; omega)])
theorem newLi (b : Int) : ∃ p, p.1.length ≤ 1000 ∧ spec_LiNew.f b = some p ∧ impl_LiNew.f b = some p := by
  by_cases h : 1 ≤ b ∧ b ≤ 16
  · obtain ⟨p, h1, h2, h3⟩ := cellsLi ⟨(b - 1).toNat, by omega⟩
    have e : (((b - 1).toNat : Nat) : Int) + 1 = b := by omega
    simp only [e] at h1 h2
    exact ⟨p, h3, h1, h2⟩
  · refine ⟨([], false), by simp, ?_, ?_⟩
    · unfold spec_LiNew.f spec_l03Size.f
      repeat' split
      all_goals first | rfl | omega | (simp only [Option.bind_some]; rw [if_neg (by simp; omega)])
    · unfold impl_LiNew.f impl_within.f
      repeat' split
      all_goals first | rfl | omega | (simp only [Option.bind_some]; rw [if_neg (by simp; omega)])
theorem cells (a b : Int) (f : Bool) : ∃ p, p.1.length ≤ 1000 ∧ ∀ k, 100 ≤ k → spec_l07Mem.f k a b f = some p ∧ impl_cellsOf.f k a b f = some p := by
  unfold spec_l07Mem.f impl_cellsOf.f
  by_cases a1 : a = 1
  · obtain ⟨p, h, hk⟩ := newSt b f
    refine ⟨p, h, fun k h100 => ?_⟩
    rw [if_pos a1, if_pos a1, (hk k h100).1, (hk k h100).2]
    exact ⟨rfl, rfl⟩
  · by_cases a2 : a = 2
    · obtain ⟨p, h, hk⟩ := newRi b
      refine ⟨p, h, fun k h100 => ?_⟩
      rw [if_neg a1, if_neg a1, if_pos a2, if_pos a2, (hk k h100).1, (hk k h100).2]
      exact ⟨rfl, rfl⟩
    · by_cases a3 : a = 3
      · obtain ⟨p, h, h1, h2⟩ := newLi b
        refine ⟨p, h, fun k h100 => ?_⟩
        rw [if_neg a1, if_neg a1, if_neg a2, if_neg a2, if_pos a3, if_pos a3, h1, h2]
        exact ⟨rfl, rfl⟩
      · refine ⟨([], false), by simp, fun k _ => ?_⟩
        rw [if_neg a1, if_neg a1, if_neg a2, if_neg a2, if_neg a3, if_neg a3]
        exact ⟨rfl, rfl⟩
theorem crewNew (a b : Int) (f : Bool) (l : List S55) (k : Nat) (hk : 1000 < k) : ∃ r, spec_CrewNew.f k a b f l = some r ∧ impl_CrewNew.f k a b f l = some r ∧ goodR r := by
  obtain ⟨p, hp, hc⟩ := cells a b f
  obtain ⟨k, rfl⟩ : ∃ e, k = e + 1 := ⟨k - 1, by omega⟩
  obtain ⟨h1, h2⟩ := hc (k + 1) (by omega)
  unfold spec_CrewNew.f impl_CrewNew.f
  rw [h1, h2]
  simp only [Option.bind_some, spec_CrewNew.j0, impl_CrewNew.j0, (same k).1]
  by_cases c1 : p.2 = true
  · by_cases c2 : (l.length : Int) > 6
    · simp only [c1, decide_eq_true c2, if_true]
      exact ⟨_, rfl, rfl, goodF⟩
    · obtain ⟨r, hr, hg⟩ := new_l0 a l a b p.1 0 (by omega) hp l.length 0 k [] (by omega) (by omega) rfl (fun t ht => by simp at ht) (by omega)
      simp only [c1, decide_eq_false c2, if_true, Bool.false_eq_true, if_false]
      exact ⟨r, hr, hr, hg⟩
  · simp only [c1, if_true, if_false]
    exact ⟨_, rfl, rfl, goodF⟩
theorem szThreads (l : List S50) (hl : l.length ≤ maxLen) (hf : ∀ t ∈ l, fits t) : (∃ k, laws_szThreadS.f k l 1048576 = some (-1)) ∨ (l.length ≤ 1048576 ∧ (∀ t ∈ l, tlen t ≤ 1048576) ∧ ∃ N r, 0 ≤ r ∧ ∀ k, N ≤ k → laws_szThreadS.f k l 1048576 = some r) := by
  simp only [maxLen] at hl
  unfold laws_szThreadS.f
  rw [w64 (x := 1048576 - (l.length : Int)) (by omega) (by omega)]
  by_cases h2 : 1048576 - (l.length : Int) < 0
  · refine Or.inl ⟨0, ?_⟩
    rw [if_pos h2]
  · simp only [if_neg h2]
    rcases szThreadS_go l (by omega) hf l.length 0 (1048576 - (l.length : Int)) (by omega) (by omega) (by omega) (by omega) with h | ⟨h3, r, h4, h5⟩
    · exact Or.inl ⟨l.length + 1, h _ (by omega)⟩
    · refine Or.inr ⟨by omega, fun t ht => ?_, l.length + 1, r, h4, fun k hk => h5 k (by omega)⟩
      obtain ⟨i, hi, e⟩ := List.mem_iff_getElem.1 ht
      have := h3 i (by omega) hi
      rw [show l.getD i z50 = t by rw [← e]; simp [List.getD, hi]] at this
      exact this
theorem toThreadS (k : Nat) (l : List S50) (hl : l.length ≤ 1048576) (ht : ∀ t ∈ l, tlen t ≤ 1048576) (hk : 2200000 ≤ k) : laws_toThreadS.f k l = some (l.map tconv) := by
  unfold laws_toThreadS.f
  rw [if_pos (by omega), if_pos (by omega)]
  exact toThreadS_go l hl ht l.length k 0 _ (by simp) (by omega) (by omega) (by omega) (fun i hi => absurd hi (by omega))
theorem tconv_fits (l : List S50) (h : ∀ t ∈ l, tlen t ≤ 1048576) : ∀ t ∈ l.map tconv, fits1 t := by
  intro t ht
  obtain ⟨u, hu, rfl⟩ := List.mem_map.1 ht
  have := h u hu
  unfold tlen at this
  unfold fits1
  show (u.f0.map conv).length + u.f2.length + u.f3.length ≤ 1048576
  rw [List.length_map]; exact this
theorem eqThreads (k : Nat) (l : List S55) (hl : l.length ≤ 1048576) (hf : ∀ t ∈ l, fits1 t) (hk : 2200000 ≤ k) : laws_eqThreadS.f k l l = some true := by
  unfold laws_eqThreadS.f
  rw [if_pos rfl]
  exact eqThreadS_go l hl hf l.length k 0 (by omega) (by omega) (by omega)
theorem eqCrews (k : Nat) (a b : Int) (c : List Int) (l : List S55) (e : Int) (hc : c.length ≤ 1048576) (hl : l.length ≤ 1048576) (hf : ∀ t ∈ l, fits1 t) (hk : 2200000 ≤ k) : laws_eqCrew.f k a b c l e a b c l e = some true := by
  unfold laws_eqCrew.f
  rw [eqMem k c hc (by omega), eqThreads k l hl hf hk]
  simp

theorem FnExactCrewNew : laws_FnExactCrewNew.Pure := by
  intro a b f l ⟨_, _, hl, hw⟩
  rcases szThreads l hl (fun t ht => ⟨(hw t ht).1.1, (hw t ht).2.2.1.1, (hw t ht).2.2.2.1⟩) with ⟨k, h⟩ | ⟨h1, h2, N, r, h3, h4⟩
  · exact Or.inl ⟨k, -1, h, by omega⟩
  · obtain ⟨K, hK, hK2⟩ : ∃ K : Nat, N ≤ K ∧ 6000000 < K := ⟨N + 6000001, by omega, by omega⟩
    have hlen : (l.map tconv).length = l.length := List.length_map ..
    have hft := tconv_fits l h2
    obtain ⟨⟨r1, r2, r3, r4, r5, r6⟩, e1, e2, g1, g2, g3⟩ := crewNew a b f (l.map tconv) K (by omega)
    simp only at g1 g2 g3
    have hfr : ∀ t ∈ r4, fits1 t := fun t ht => by have := g3 t ht; unfold fits1; omega
    obtain ⟨m1, m2⟩ := mkT_eq K (by omega) (l.map tconv) 1 hft (by omega) (by rw [hlen]; omega)
    obtain ⟨c1, c2, c3⟩ := heldCrew K r1 r2 r3.length r4 r5 (by omega) (by omega) hfr (by omega)
    exact Or.inr ⟨K, r, l.map tconv, r1, r2, r3, r4, r5, r6, r1, r2, r3, r4, r5, _, _, _, _, _, _, h4 K hK, by omega, toThreadS K l h1 h2 (by omega), e1, e2, eqCrews K r1 r2 r3 r4 r5 (by omega) (by omega) hfr (by omega), eqThreads K _ (by rw [hlen]; exact h1) hft (by omega), m1, by omega, markIntS K r3 1 (by omega) (by omega) (by omega), c2, c1, c3⟩

end Go.Proofs.Ytgghglocfdcegaa.Pure
