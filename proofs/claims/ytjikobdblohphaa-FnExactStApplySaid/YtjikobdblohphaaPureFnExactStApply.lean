/- The law FnExactStApply answers true whatever its arguments hold: the program's function and the reference's come to the same, and no list of an answer is shared. No condition. -/
import Derived.Test.YtjikobdblohphaaPFnExactStApplyx5
namespace Go.Proofs.Ytjikobdblohphaa.Pure
open Go.RowKit Go.Proofs.Ytjikobdblohphaa.PFnExactStApply Go.Proofs.YtjikobdblohphaaW.PrintWords Go.Proofs.YtjikobdblohphaaW.PrintLast
set_option linter.unusedSimpArgs false
set_option linter.unusedVariables false

/-! Small facts. -/
theorem w64 {x : Int} (h0 : -9223372036854775808 ≤ x) (h1 : x ≤ 9223372036854775807) : wrap64 x = x := by unfold wrap64; omega
theorem rd_nat (l : List Int) (j : Nat) : rd l (j : Int) = l.getD j 0 := by simp [rd]
/-- The numbers from m on, n of them. -/
def marked (m : Int) (n : Nat) : List Int := (List.range n).map fun (i : Nat) => m + (i : Int)
theorem marked_len (m : Int) (n : Nat) : (marked m n).length = n := by simp [marked]
theorem marked_get (m : Int) (n j : Nat) (h : j < n) : (marked m n).getD j 0 = m + j := by simp [marked, List.getD, h]
theorem neg1 (n : Nat) : ((1 : Int) + (n : Int) < 0) = False := by simp only [eq_iff_iff, iff_false]; omega
theorem neg0 : ((-1 : Int) < 0) = True := by simp
theorem i64r {n : Int} (h : (Lit.int .i64 n).wf = true) : -9223372036854775808 ≤ n ∧ n ≤ 9223372036854775807 := by
  have e1 : IntKind.i64.min = -9223372036854775808 := by decide
  have e2 : IntKind.i64.max = 9223372036854775807 := by decide
  simp only [Lit.wf, Bool.and_eq_true, decide_eq_true_eq, e1, e2] at h
  exact h

/-! Lists of numbers: copied, compared, marked, held. -/
theorem toIntS_go (x0 : List Int) (hx : x0.length ≤ 140737488355328) (d : Nat) : ∀ (k j : Nat) (x3 : List Int), x3.length = x0.length → x0.length - j = d → j ≤ x0.length → d < k → (∀ i, i < j → x3[i]? = x0[i]?) → laws_toIntS.l0 k x0 x3 (j : Int) = some x0 := by
  induction d with
  | zero =>
    intro k j x3 hl hd hj hk he
    obtain ⟨k, rfl⟩ : ∃ m, k = m + 1 := ⟨k - 1, by omega⟩
    simp only [laws_toIntS.l0]
    rw [if_neg (by omega)]
    refine congrArg some (List.ext_getElem? fun i => ?_)
    by_cases hi : i < j
    · exact he i hi
    · rw [List.getElem?_eq_none (by omega), List.getElem?_eq_none (by omega)]
  | succ d ih =>
    intro k j x3 hl hd hj hk he
    obtain ⟨k, rfl⟩ : ∃ m, k = m + 1 := ⟨k - 1, by omega⟩
    simp only [laws_toIntS.l0]
    rw [if_pos (by omega), if_pos (by omega), if_pos (by omega), w64 (by omega) (by omega)]
    refine ih k (j + 1) _ (by simpa using hl) (by omega) (by omega) (by omega) ?_
    intro i hi
    rw [rd_nat, Int.toNat_natCast, List.getElem?_set]
    by_cases hij : j = i
    · subst hij
      rw [if_pos rfl, if_pos (by omega), List.getElem?_eq_getElem (by omega)]
      simp [List.getD, List.getElem?_eq_getElem (show j < x0.length by omega)]
    · rw [if_neg hij]
      exact he i (by omega)
theorem toIntS (k : Nat) (l : List Int) (hl : l.length ≤ 1048576) (hk : l.length < k) : laws_toIntS.f k l = some l := by
  unfold laws_toIntS.f
  rw [if_pos (by omega), if_pos (by omega)]
  exact toIntS_go l (by omega) l.length k 0 _ (by simp) (by omega) (by omega) (by omega) (fun i hi => absurd hi (by omega))
theorem eqIntS_go (x : List Int) (hx : x.length ≤ 140737488355328) (d : Nat) : ∀ (k j : Nat), x.length - j = d → j ≤ x.length → d < k → laws_eqIntS.l0 k x x (j : Int) = some true := by
  induction d with
  | zero =>
    intro k j hd hj hk
    obtain ⟨k, rfl⟩ : ∃ m, k = m + 1 := ⟨k - 1, by omega⟩
    simp only [laws_eqIntS.l0]
    rw [if_neg (by omega)]
  | succ d ih =>
    intro k j hd hj hk
    obtain ⟨k, rfl⟩ : ∃ m, k = m + 1 := ⟨k - 1, by omega⟩
    simp only [laws_eqIntS.l0]
    rw [if_pos (by omega), if_pos (by omega), if_pos (by omega), if_pos trivial, w64 (by omega) (by omega)]
    exact ih k (j + 1) (by omega) (by omega) (by omega)
theorem eqIntS (k : Nat) (l : List Int) (hl : l.length ≤ 140737488355328) (hk : l.length < k) : laws_eqIntS.f k l l = some true := by
  unfold laws_eqIntS.f
  rw [if_pos rfl]
  exact eqIntS_go l hl l.length k 0 (by omega) (by omega) hk

theorem markIntS_go (n : Nat) (hn : n ≤ 140737488355328) (m : Int) (hm0 : 0 ≤ m) (hm : m + n ≤ 140737488355328) (d : Nat) : ∀ (k j : Nat) (x0 : List Int), x0.length = n → n - j = d → j ≤ n → d < k → (∀ i, i < j → x0[i]? = some (m + i)) →
    laws_markIntS.l0 k x0 (m + j) (j : Int) = some (m + n, marked m n) := by
  induction d with
  | zero =>
    intro k j x0 hl hd hj hk he
    obtain ⟨k, rfl⟩ : ∃ m, k = m + 1 := ⟨k - 1, by omega⟩
    simp only [laws_markIntS.l0]
    rw [if_neg (by omega)]
    obtain rfl : j = n := by omega
    refine congrArg some (Prod.ext rfl (List.ext_getElem? fun i => ?_))
    show x0[i]? = (marked m j)[i]?
    by_cases hi : i < j
    · rw [he i hi]; simp [marked, hi]
    · rw [List.getElem?_eq_none (by omega), List.getElem?_eq_none (by rw [marked_len]; omega)]
  | succ d ih =>
    intro k j x0 hl hd hj hk he
    obtain ⟨k, rfl⟩ : ∃ m, k = m + 1 := ⟨k - 1, by omega⟩
    simp only [laws_markIntS.l0]
    rw [if_pos (by omega), if_pos (by omega), w64 (by omega) (by omega), w64 (by omega) (by omega), show m + (j : Int) + 1 = m + ((j + 1 : Nat) : Int) by omega]
    refine ih k (j + 1) _ (by simpa using hl) (by omega) (by omega) (by omega) ?_
    intro i hi
    rw [Int.toNat_natCast, List.getElem?_set]
    by_cases hij : j = i
    · subst hij
      rw [if_pos rfl, if_pos (by omega)]
    · rw [if_neg hij]
      exact he i (by omega)
theorem markIntS (k : Nat) (l : List Int) (m : Int) (hm0 : 0 ≤ m) (hm : m + l.length ≤ 140737488355328) (hk : l.length < k) : laws_markIntS.f k l m = some (m + l.length, marked m l.length) := by
  unfold laws_markIntS.f
  have := markIntS_go l.length (by omega) m hm0 hm l.length k 0 l rfl (by omega) (by omega) hk (fun i hi => absurd hi (by omega))
  simpa using this
theorem heldIntS_go (n : Nat) (m : Int) (hm0 : 0 ≤ m) (hm : m + n ≤ 140737488355328) (d : Nat) : ∀ (k j : Nat), n - j = d → j ≤ n → d < k → laws_heldIntS.l0 k (marked m n) (m + j) (j : Int) = some (m + n) := by
  induction d with
  | zero =>
    intro k j hd hj hk
    obtain ⟨k, rfl⟩ : ∃ m, k = m + 1 := ⟨k - 1, by omega⟩
    simp only [laws_heldIntS.l0, marked_len]
    rw [if_neg (by omega)]
    obtain rfl : j = n := by omega
    rfl
  | succ d ih =>
    intro k j hd hj hk
    obtain ⟨k, rfl⟩ : ∃ m, k = m + 1 := ⟨k - 1, by omega⟩
    simp only [laws_heldIntS.l0, marked_len]
    rw [if_pos (by omega), if_pos (by omega), if_pos (by rw [rd_nat]; exact marked_get m n j (by omega)), w64 (by omega) (by omega), w64 (by omega) (by omega), show m + (j : Int) + 1 = m + ((j + 1 : Nat) : Int) by omega]
    exact ih k (j + 1) (by omega) (by omega) (by omega)
theorem heldIntS (k : Nat) (n : Nat) (m : Int) (hm0 : 0 ≤ m) (hm : m + n ≤ 140737488355328) (hk : n < k) : laws_heldIntS.f k (marked m n) m = some (m + n) := by
  unfold laws_heldIntS.f
  have := heldIntS_go n m hm0 hm n k 0 (by omega) (by omega) hk
  simpa using this

/-! StApply. -/
theorem copyInts (l : List Int) (hl : l.length ≤ 1048577) : impl_copyInts.f l = some l := by
  unfold impl_copyInts.f
  rw [if_pos (by rw [List.length_nil]; omega)]; rfl
theorem StApply_both (l : List Int) (hl : l.length ≤ 1048576) (a b c d e f g h : Int) : ∃ (r : List Int) (q : Bool), r.length ≤ 1048577 ∧
    (∀ k, spec_StApply.f (k + 5) l a b c d e f g h = some (r, q)) ∧ ∀ k, impl_StApply.f (k + 5) l a b c d e f g h = some (r, q) := by
  have cc := copyInts l (by omega)
  have c1 := copyInts (l.drop 1) (by rw [List.length_drop]; omega)
  by_cases hb : b = 1
  · subst hb
    by_cases hd : d = 1
    · subst hd
      refine ⟨c :: l, true, by simp; omega, ?_, ?_⟩
      · intro k; simp only [spec_StApply.f, spec_StApply.j0, beq_self_eq_true, if_true, Option.bind_some]
        rw [if_pos (by simp; omega)]; rfl
      · intro k; simp only [impl_StApply.f, impl_StApply.j0, beq_self_eq_true, if_true, Option.bind_some]
        rw [if_pos (by simp; omega)]; rfl
    · have hd1 : (d == 1) = false := by simpa using hd
      by_cases hd4 : d = 4
      · subst hd4
        refine ⟨l, true, by omega, ?_, ?_⟩
        · intro k; simp only [spec_StApply.f, spec_StApply.j0, spec_StApply.j1, hd1, beq_self_eq_true, if_true, Option.bind_some, Bool.false_eq_true, if_false]
          rw [if_pos (by simp; omega)]; rfl
        · intro k; simp only [impl_StApply.f, impl_StApply.j0, impl_StApply.j1, impl_StApply.j2, hd1, beq_self_eq_true, if_true, Option.bind_some, Bool.false_eq_true, if_false, cc]
      · have hd4' : (d == 4) = false := by simpa using hd4
        refine ⟨[], false, by simp, ?_, ?_⟩
        · intro k; simp [spec_StApply.f, spec_StApply.j0, spec_StApply.j1, spec_StApply.j2, hd1, hd4']
        · intro k; simp [impl_StApply.f, impl_StApply.j0, impl_StApply.j1, impl_StApply.j2, hd1, hd4']
  · by_cases hb2 : b = 2
    · subst hb2
      cases l with
      | nil =>
        by_cases hd2 : d = 2
        · subst hd2
          exact ⟨[], true, by simp, by intro k; simp [spec_StApply.f, spec_StApply.j0, spec_StApply.j1, spec_StApply.j2], by intro k; simp [impl_StApply.f, impl_StApply.j0, impl_StApply.j1, impl_StApply.j2, impl_copyInts.f]⟩
        · refine ⟨[], false, by simp, ?_, ?_⟩
          · intro k; by_cases hd1 : d = 1
            · subst hd1; simp [spec_StApply.f, spec_StApply.j0, spec_StApply.j1, spec_StApply.j2]
            · simp [spec_StApply.f, spec_StApply.j0, spec_StApply.j1, spec_StApply.j2, hd1, hd2]
          · intro k; by_cases hd1 : d = 1
            · subst hd1; simp [impl_StApply.f, impl_StApply.j0, impl_StApply.j1, impl_StApply.j2]
            · simp [impl_StApply.f, impl_StApply.j0, impl_StApply.j1, impl_StApply.j2, hd1, hd2]
      | cons x t =>
        have hx0 : ((((x :: t).length : Nat) : Int) == 0) = false := by (try simp only [beq_eq_false_iff_ne, ne_eq]); rw [List.length_cons]; omega
        have g0 : (((x :: t).length : Nat) : Int) > 0 := by (try simp only [beq_eq_false_iff_ne, ne_eq]); rw [List.length_cons]; omega
        have g1 : 0 < (((x :: t).length : Nat) : Int) := by (try simp only [beq_eq_false_iff_ne, ne_eq]); rw [List.length_cons]; omega
        have g2 : 1 ≤ (((x :: t).length : Nat) : Int) := by (try simp only [beq_eq_false_iff_ne, ne_eq]); rw [List.length_cons]; omega
        have g3 : ¬ (((x :: t).length : Nat) : Int) = 0 := by (try simp only [beq_eq_false_iff_ne, ne_eq]); rw [List.length_cons]; omega
        have r0 : rd (x :: t) 0 = x := rfl
        by_cases hd1 : d = 1
        · subst hd1
          by_cases hx : x = e
          · subst hx
            refine ⟨t, true, by simp at hl; omega, ?_, ?_⟩
            · intro k; simp only [spec_StApply.f, spec_StApply.j0, spec_StApply.j1, spec_StApply.j2, if_true, Option.bind_some, Bool.false_eq_true, if_false, hb, decide_true, g1, g2, r0, reduceIte]
              rw [if_pos (by simp at hl ⊢; omega)]; rfl
            · intro k; rw [show (x :: t).drop 1 = t from rfl] at c1
              simp only [impl_StApply.f, impl_StApply.j0, impl_StApply.j1, impl_StApply.j2, if_true, Option.bind_some, Bool.false_eq_true, if_false, hb, g0, g1, g2, r0, reduceIte]
              rw [show (x :: t).drop 1 = t from rfl, c1]
              rfl
          · refine ⟨[], false, by simp, ?_, ?_⟩
            · intro k; simp only [spec_StApply.f, spec_StApply.j0, spec_StApply.j1, spec_StApply.j2, if_true, Option.bind_some, Bool.false_eq_true, if_false, hb, decide_true, g1, g2, r0, reduceIte, hx]
            · intro k; simp only [impl_StApply.f, impl_StApply.j0, impl_StApply.j1, impl_StApply.j2, if_true, Option.bind_some, Bool.false_eq_true, if_false, hb, g0, g1, g2, r0, reduceIte, hx]
              rfl
        · refine ⟨[], false, by simp, ?_, ?_⟩
          · intro k; simp only [spec_StApply.f, spec_StApply.j0, spec_StApply.j1, spec_StApply.j2, if_true, Option.bind_some, Bool.false_eq_true, if_false, hb, hd1, g3, reduceIte, ite_self]
          · intro k; simp only [impl_StApply.f, impl_StApply.j0, impl_StApply.j1, impl_StApply.j2, if_true, Option.bind_some, Bool.false_eq_true, if_false, hb, hd1, hx0, reduceIte, ite_self]
    · refine ⟨[], false, by simp, ?_, ?_⟩
      · intro k; simp [spec_StApply.f, spec_StApply.j0, spec_StApply.j1, spec_StApply.j2, hb, hb2]
      · intro k; simp [impl_StApply.f, impl_StApply.j0, impl_StApply.j1, impl_StApply.j2, hb, hb2]


theorem FnExactStApply : laws_FnExactStApply.Pure := by
  intro l a b c d e f g h ⟨hm, _⟩ _
  by_cases hl : l.length ≤ 1048576
  · obtain ⟨K, hK⟩ : ∃ K : Nat, 1048600 ≤ K := ⟨1048600, Nat.le_refl _⟩
    refine ⟨K + 3, ?_⟩
    obtain ⟨r, q, hr, h1, h2⟩ := StApply_both l hl a b c d e f g h
    have hs : ∀ k, 10 ≤ k → spec_StApply.f k l a b c d e f g h = some (r, q) := fun k hk => by rw [show k = k - 5 + 5 by omega]; exact h1 _
    have hi : ∀ k, 10 ≤ k → impl_StApply.f k l a b c d e f g h = some (r, q) := fun k hk => by rw [show k = k - 5 + 5 by omega]; exact h2 _
    unfold laws_FnExactStApply.f
    rw [if_neg (by omega)]
    simp (disch := omega) only [laws_toFact.f, Option.bind_some, toIntS, hs, hi, eqIntS, bne_self_eq_false, markIntS, heldIntS, neg1, if_true, if_false, ite_self, reduceIte, Bool.false_eq_true]
    simp (disch := omega) only [laws_FnExactStApply.j0, Option.bind_some, toIntS, hs, hi, eqIntS, bne_self_eq_false, markIntS, heldIntS, neg1, if_true, if_false, ite_self, reduceIte, Bool.false_eq_true]
    simp (disch := omega) only [laws_FnExactStApply.j1, laws_toFact.f, Option.bind_some, toIntS, hs, hi, eqIntS, bne_self_eq_false, markIntS, heldIntS, neg1, if_true, if_false, ite_self, reduceIte, Bool.false_eq_true]
    simp (disch := omega) only [laws_FnExactStApply.j2, Option.bind_some, toIntS, hs, hi, eqIntS, bne_self_eq_false, markIntS, heldIntS, neg1, if_true, if_false, ite_self, reduceIte, Bool.false_eq_true]
  · refine ⟨0, ?_⟩
    unfold laws_FnExactStApply.f
    rw [if_pos (by omega)]

end Go.Proofs.Ytjikobdblohphaa.Pure
