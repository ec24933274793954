/- The law FnExactPopped answers true whatever its arguments hold: the program's function and the reference's come to the same, and no list of an answer is shared. No condition. -/
import Derived.Test.YtndkfjecipjiaaaPFnExactPoppedx4
namespace Go.Proofs.Ytndkfjecipjiaaa.Pure
open Go.RowKit Go.Proofs.Ytndkfjecipjiaaa.PFnExactPopped Go.Proofs.YtndkfjecipjiaaaW.PrintWords Go.Proofs.YtndkfjecipjiaaaW.PrintLast
set_option linter.unusedSimpArgs false
set_option linter.unusedVariables false

/-! Small facts. -/
theorem w64 {x : Int} (h0 : -9223372036854775808 ≤ x) (h1 : x ≤ 9223372036854775807) : wrap64 x = x := by unfold wrap64; omega
theorem rd_nat (l : List Int) (j : Nat) : rd l (j : Int) = l.getD j 0 := by simp [rd]
/-- The numbers from m on, n of them. -/
def marked (m : Int) (n : Nat) : List Int := (List.range n).map fun (i : Nat) => m + (i : Int)
theorem marked_len (m : Int) (n : Nat) : (marked m n).length = n := by simp [marked]
theorem marked_get (m : Int) (n j : Nat) (h : j < n) : (marked m n).getD j 0 = m + j := by simp [marked, List.getD, h]
theorem neg1 (n : Nat) : ((1 : Int) + (n : Int) < 0) = False := by simp only [eq_iff_iff, iff_false]; omega
theorem neg0 : ((-1 : Int) < 0) = True := by simp
theorem i64r {n : Int} (h : (Lit.int .i64 n).wf = true) : -9223372036854775808 ≤ n ∧ n ≤ 9223372036854775807 := by
  have e1 : IntKind.i64.min = -9223372036854775808 := by decide
  have e2 : IntKind.i64.max = 9223372036854775807 := by decide
  simp only [Lit.wf, Bool.and_eq_true, decide_eq_true_eq, e1, e2] at h
  exact h

/-! Lists of numbers: copied, compared, marked, held. -/
theorem toIntS_go (x0 : List Int) (hx : x0.length ≤ 140737488355328) (d : Nat) : ∀ (k j : Nat) (x3 : List Int), x3.length = x0.length → x0.length - j = d → j ≤ x0.length → d < k → (∀ i, i < j → x3[i]? = x0[i]?) → laws_toIntS.l0 k x0 x3 (j : Int) = some x0 := by
  induction d with
  | zero =>
    intro k j x3 hl hd hj hk he
    obtain ⟨k, rfl⟩ : ∃ m, k = m + 1 := ⟨k - 1, by omega⟩
    simp only [laws_toIntS.l0]
    rw [if_neg (by omega)]
    refine congrArg some (List.ext_getElem? fun i => ?_)
    by_cases hi : i < j
    · exact he i hi
    · rw [List.getElem?_eq_none (by omega), List.getElem?_eq_none (by omega)]
  | succ d ih =>
    intro k j x3 hl hd hj hk he
    obtain ⟨k, rfl⟩ : ∃ m, k = m + 1 := ⟨k - 1, by omega⟩
    simp only [laws_toIntS.l0]
    rw [if_pos (by omega), if_pos (by omega), if_pos (by omega), w64 (by omega) (by omega)]
    refine ih k (j + 1) _ (by simpa using hl) (by omega) (by omega) (by omega) ?_
    intro i hi
    rw [rd_nat, Int.toNat_natCast, List.getElem?_set]
    by_cases hij : j = i
    · subst hij
      rw [if_pos rfl, if_pos (by omega), List.getElem?_eq_getElem (by omega)]
      simp [List.getD, List.getElem?_eq_getElem (show j < x0.length by omega)]
    · rw [if_neg hij]
      exact he i (by omega)
theorem toIntS (k : Nat) (l : List Int) (hl : l.length ≤ 1048576) (hk : l.length < k) : laws_toIntS.f k l = some l := by
  unfold laws_toIntS.f
  rw [if_pos (by omega), if_pos (by omega)]
  exact toIntS_go l (by omega) l.length k 0 _ (by simp) (by omega) (by omega) (by omega) (fun i hi => absurd hi (by omega))
theorem eqIntS_go (x : List Int) (hx : x.length ≤ 140737488355328) (d : Nat) : ∀ (k j : Nat), x.length - j = d → j ≤ x.length → d < k → laws_eqIntS.l0 k x x (j : Int) = some true := by
  induction d with
  | zero =>
    intro k j hd hj hk
    obtain ⟨k, rfl⟩ : ∃ m, k = m + 1 := ⟨k - 1, by omega⟩
    simp only [laws_eqIntS.l0]
    rw [if_neg (by omega)]
  | succ d ih =>
    intro k j hd hj hk
    obtain ⟨k, rfl⟩ : ∃ m, k = m + 1 := ⟨k - 1, by omega⟩
    simp only [laws_eqIntS.l0]
    rw [if_pos (by omega), if_pos (by omega), if_pos (by omega), if_pos trivial, w64 (by omega) (by omega)]
    exact ih k (j + 1) (by omega) (by omega) (by omega)
theorem eqIntS (k : Nat) (l : List Int) (hl : l.length ≤ 140737488355328) (hk : l.length < k) : laws_eqIntS.f k l l = some true := by
  unfold laws_eqIntS.f
  rw [if_pos rfl]
  exact eqIntS_go l hl l.length k 0 (by omega) (by omega) hk

/-! Lists of calls. -/
def conv (x : S106) : S75 := ⟨x.f0, x.f1, x.f2, x.f3, x.f4, x.f5, x.f6, x.f7, x.f8, x.f9⟩
theorem rdT106_nat (l : List S106) (j : Nat) : rd_T106 l (j : Int) = l.getD j z106 := by simp [rd_T106]
theorem toCallS_go (x0 : List S106) (hx : x0.length ≤ 1048576) (d : Nat) : ∀ (k j : Nat) (x3 : List S75), x3.length = x0.length → x0.length - j = d → j ≤ x0.length → d < k → (∀ i, i < j → x3[i]? = (x0.map conv)[i]?) → laws_toCallS.l0 k x0 x3 (j : Int) = some (x0.map conv) := by
  induction d with
  | zero =>
    intro k j x3 hl hd hj hk he
    obtain ⟨k, rfl⟩ : ∃ m, k = m + 1 := ⟨k - 1, by omega⟩
    simp only [laws_toCallS.l0]
    rw [if_neg (by omega)]
    refine congrArg some (List.ext_getElem? fun i => ?_)
    by_cases hi : i < j
    · exact he i hi
    · rw [List.getElem?_eq_none (show x3.length ≤ i by omega)]
      exact (List.getElem?_eq_none (by rw [List.length_map]; omega)).symm
  | succ d ih =>
    intro k j x3 hl hd hj hk he
    obtain ⟨k, rfl⟩ : ∃ m, k = m + 1 := ⟨k - 1, by omega⟩
    simp only [laws_toCallS.l0, laws_toCall.f]
    rw [if_pos (by omega), if_pos (by omega)]
    simp only [Option.bind_some]
    rw [if_pos (by omega), w64 (by omega) (by omega)]
    refine ih k (j + 1) _ (by simpa using hl) (by omega) (by omega) (by omega) ?_
    intro i hi
    rw [rdT106_nat, Int.toNat_natCast, List.getElem?_set]
    by_cases hij : j = i
    · subst hij
      rw [if_pos rfl, if_pos (by omega), List.getElem?_eq_getElem (by rw [List.length_map]; omega), List.getElem_map]
      simp [conv, List.getD, List.getElem?_eq_getElem (show j < x0.length by omega)]
    · rw [if_neg hij]
      exact he i (by omega)
theorem toCallS (k : Nat) (l : List S106) (hl : l.length ≤ 1048576) (hk : l.length < k) : laws_toCallS.f k l = some (l.map conv) := by
  unfold laws_toCallS.f
  rw [if_pos (by omega), if_pos (by omega)]
  exact toCallS_go l (by omega) l.length k 0 _ (by simp) (by omega) (by omega) (by omega) (fun i hi => absurd hi (by omega))

theorem eqCall_refl (a b c d e f g h i : Int) (j : Bool) : laws_eqCall.f a b c d e f g h i j a b c d e f g h i j = some true := by
  simp [laws_eqCall.f]
theorem eqCallS_go (x : List S75) (hx : x.length ≤ 1048576) (d : Nat) : ∀ (k j : Nat), x.length - j = d → j ≤ x.length → d < k → laws_eqCallS.l0 k x x (j : Int) = some true := by
  induction d with
  | zero =>
    intro k j hd hj hk
    obtain ⟨k, rfl⟩ : ∃ e, k = e + 1 := ⟨k - 1, by omega⟩
    simp only [laws_eqCallS.l0]
    rw [if_neg (by omega)]
  | succ d ih =>
    intro k j hd hj hk
    obtain ⟨k, rfl⟩ : ∃ e, k = e + 1 := ⟨k - 1, by omega⟩
    simp only [laws_eqCallS.l0, eqCall_refl]
    rw [if_pos (by omega), if_pos (by omega), if_pos (by omega)]
    simp only [Option.bind_some, if_true]
    rw [w64 (by omega) (by omega), show (j : Int) + 1 = ((j + 1 : Nat) : Int) by omega]
    exact ih k (j + 1) (by omega) (by omega) (by omega)
theorem eqCallS (k : Nat) (l : List S75) (hl : l.length ≤ 1048576) (hk : l.length < k) : laws_eqCallS.f k l l = some true := by
  unfold laws_eqCallS.f
  rw [if_pos rfl]
  simpa using eqCallS_go l (by omega) l.length k 0 (by omega) (by omega) hk

/-! A thread: its size, its image. -/
theorem szThread (a : List S106) (b : Int) (c d : List Int) (ha : a.length ≤ maxLen) (hc : c.length ≤ maxLen) (hd : d.length ≤ maxLen) : (laws_szThread.f a b c d 1048576 = some (-1)) ∨ (a.length + c.length + d.length ≤ 1048576 ∧ ∃ r, 0 ≤ r ∧ laws_szThread.f a b c d 1048576 = some r) := by
  simp only [maxLen] at ha hc hd
  unfold laws_szThread.f laws_szCallS.f laws_szIntS.f
  rw [w64 (x := 1048576 - (a.length : Int)) (by omega) (by omega)]
  by_cases h1 : 1048576 - (a.length : Int) < 0
  · refine Or.inl ?_
    rw [if_pos h1]; rfl
  · rw [if_neg h1]
    simp only [Option.bind_some]
    rw [if_neg h1, w64 (x := 1048576 - (a.length : Int) - (c.length : Int)) (by omega) (by omega)]
    by_cases h2 : 1048576 - (a.length : Int) - (c.length : Int) < 0
    · refine Or.inl ?_
      rw [if_pos h2]; rfl
    · rw [if_neg h2]
      simp only [Option.bind_some]
      rw [if_neg h2, w64 (x := 1048576 - (a.length : Int) - (c.length : Int) - (d.length : Int)) (by omega) (by omega)]
      by_cases h3 : 1048576 - (a.length : Int) - (c.length : Int) - (d.length : Int) < 0
      · refine Or.inl ?_
        rw [if_pos h3]; rfl
      · rw [if_neg h3]
        simp only [Option.bind_some]
        rw [if_neg h3]
        exact Or.inr ⟨by omega, _, by omega, rfl⟩
theorem toThread (k : Nat) (a : List S106) (b : Int) (c d : List Int) (h : a.length + c.length + d.length ≤ 1048576) (hk : 1048577 ≤ k) : laws_toThread.f k a b c d = some (a.map conv, b, c, d) := by
  unfold laws_toThread.f
  rw [toCallS k a (by omega) (by omega), toIntS k c (by omega) (by omega), toIntS k d (by omega) (by omega)]
  rfl

theorem eqThread (k : Nat) (a : List S75) (b : Int) (c d : List Int) (h : a.length + c.length + d.length ≤ 1048576) (hk : 1048577 ≤ k) : laws_eqThread.f k a b c d a b c d = some true := by
  unfold laws_eqThread.f
  rw [eqCallS k a (by omega) (by omega), eqIntS k c (by omega) (by omega), eqIntS k d (by omega) (by omega)]
  simp


theorem rdT75_nat (l : List S75) (j : Nat) : rd_T75 l (j : Int) = l.getD j z75 := by simp [rd_T75]
theorem Popped_go (x : List S75) (b : Int) (c e : List Int) (hx : x.length ≤ 1048576) (d : Nat) : ∀ (j : Nat) (v : Int), x.length - j = d → j ≤ x.length → ∃ r, ∀ k, 2 * d < k → spec_Popped.l0 k v x (x.length : Int) (j : Int) x b c e = some r ∧ impl_Popped.l0 k v x (x.length : Int) (j : Int) x b c e = some r := by
  induction d with
  | zero =>
    intro j v hd hj
    refine ⟨v, fun k hk => ?_⟩
    obtain ⟨k, rfl⟩ : ∃ m, k = m + 1 := ⟨k - 1, by omega⟩
    simp only [spec_Popped.l0, impl_Popped.l0]
    rw [if_neg (by omega), if_neg (by omega)]
    exact ⟨rfl, rfl⟩
  | succ d ih =>
    intro j v hd hj
    have g : (j : Int) < (x.length : Int) := by omega
    have g0 : 0 ≤ (j : Int) := by omega
    have gw : wrap64 ((j : Int) + 1) = ((j + 1 : Nat) : Int) := by rw [w64 (by omega) (by omega)]; omega
    obtain ⟨r, hr⟩ := ih (j + 1) v (by omega) (by omega)
    obtain ⟨r1, hr1⟩ := ih (j + 1) (-1) (by omega) (by omega)
    obtain ⟨r2, hr2⟩ := ih (j + 1) (rd_T75 x (j : Int)).f8 (by omega) (by omega)
    have key : ∀ q : Bool, ∃ r, ∀ k, 2 * d + 1 < k → spec_Popped.j1 k v x (x.length : Int) (j : Int) q x b c e ((rd_T75 x (j : Int)).f0) ((rd_T75 x (j : Int)).f1) ((rd_T75 x (j : Int)).f2) ((rd_T75 x (j : Int)).f3) ((rd_T75 x (j : Int)).f4) ((rd_T75 x (j : Int)).f5) ((rd_T75 x (j : Int)).f6) ((rd_T75 x (j : Int)).f7) ((rd_T75 x (j : Int)).f8) ((rd_T75 x (j : Int)).f9) = some r ∧ impl_Popped.j1 k v x (x.length : Int) (j : Int) q x b c e ((rd_T75 x (j : Int)).f0) ((rd_T75 x (j : Int)).f1) ((rd_T75 x (j : Int)).f2) ((rd_T75 x (j : Int)).f3) ((rd_T75 x (j : Int)).f4) ((rd_T75 x (j : Int)).f5) ((rd_T75 x (j : Int)).f6) ((rd_T75 x (j : Int)).f7) ((rd_T75 x (j : Int)).f8) ((rd_T75 x (j : Int)).f9) = some r := by
      intro q
      cases q with
      | true =>
        refine ⟨r, fun k hk => ?_⟩
        obtain ⟨k, rfl⟩ : ∃ m, k = m + 1 := ⟨k - 1, by omega⟩
        simp only [spec_Popped.j1, impl_Popped.j1, if_true, gw]
        exact hr k (by omega)
      | false =>
        by_cases h2 : (rd_T75 x (j : Int)).f0 = 2
        · refine ⟨r2, fun k hk => ?_⟩
          obtain ⟨k, rfl⟩ : ∃ m, k = m + 1 := ⟨k - 1, by omega⟩
          have h1 : ¬ (rd_T75 x (j : Int)).f0 = 1 := by omega
          simp only [spec_Popped.j1, impl_Popped.j1, Bool.false_eq_true, if_false, gw]
          rw [if_pos h2, if_neg h1, if_pos h2]
          exact hr2 k (by omega)
        · by_cases h1 : (rd_T75 x (j : Int)).f0 = 1
          · refine ⟨r1, fun k hk => ?_⟩
            obtain ⟨k, rfl⟩ : ∃ m, k = m + 1 := ⟨k - 1, by omega⟩
            simp only [spec_Popped.j1, impl_Popped.j1, Bool.false_eq_true, if_false, gw]
            rw [if_neg h2, if_pos h1, if_neg h2, if_pos h1]
            exact hr1 k (by omega)
          · refine ⟨r, fun k hk => ?_⟩
            obtain ⟨k, rfl⟩ : ∃ m, k = m + 1 := ⟨k - 1, by omega⟩
            simp only [spec_Popped.j1, impl_Popped.j1, Bool.false_eq_true, if_false, gw]
            rw [if_neg h2, if_neg h1, if_neg h2, if_neg h1]
            exact hr k (by omega)
    obtain ⟨s1, hs1⟩ := key true
    obtain ⟨s2, hs2⟩ := key ((rd_T75 x (j : Int)).f7 != 1)
    refine ⟨if (j : Int) ≥ b then s1 else s2, fun k hk => ?_⟩
    obtain ⟨k, rfl⟩ : ∃ m, k = m + 1 := ⟨k - 1, by omega⟩
    simp only [spec_Popped.l0, impl_Popped.l0]
    rw [if_pos g, if_pos g0, if_pos g, if_pos g, if_pos g0, if_pos g]
    by_cases h : (j : Int) ≥ b
    · rw [if_pos h, if_pos h, if_pos h]; exact hs1 k (by omega)
    · rw [if_neg h, if_neg h, if_neg h]; exact hs2 k (by omega)
theorem FnExactPopped : laws_FnExactPopped.Pure := by
  intro a b c d ⟨⟨ha, _⟩, _, ⟨hc, _⟩, ⟨hd, _⟩⟩
  rcases szThread a b c d ha hc hd with h | ⟨hl, r, hr, h⟩
  · refine ⟨0, ?_⟩
    unfold laws_FnExactPopped.f
    rw [h]; rfl
  · obtain ⟨v, hv⟩ := Popped_go (a.map conv) b c d (by rw [List.length_map]; omega) (a.map conv).length 0 (-1) (by omega) (by omega)
    have lm : (a.map conv).length = a.length := List.length_map _
    have hs : ∀ k, 2100000 ≤ k → spec_Popped.f k (a.map conv) b c d = some v := fun k hk => (hv k (by omega)).1
    have hi : ∀ k, 2100000 ≤ k → impl_Popped.f k (a.map conv) b c d = some v := fun k hk => (hv k (by omega)).2
    obtain ⟨K, hK⟩ : ∃ K : Nat, 2100000 ≤ K := ⟨2100000, Nat.le_refl _⟩
    refine ⟨K, ?_⟩
    unfold laws_FnExactPopped.f
    rw [h]
    simp only [Option.bind_some]
    rw [if_neg (by omega), toThread K a b c d hl (by omega)]
    simp only [Option.bind_some]
    rw [hs K hK]
    simp only [Option.bind_some]
    rw [hi K hK]
    simp only [Option.bind_some, if_true]
    rw [eqThread K (a.map conv) b c d (by omega) (by omega)]
    simp

end Go.Proofs.Ytndkfjecipjiaaa.Pure
