/- The law FnExactLines answers true whatever its arguments hold: the program's function and the reference's come to the same, and no list of an answer is shared. No condition. -/
import Derived.Test.YtgmnnkodcmmfdaaPFnExactLinesx2
namespace Go.Proofs.Ytgmnnkodcmmfdaa.Pure
open Go.RowKit Go.Proofs.Ytgmnnkodcmmfdaa.PFnExactLines Go.Proofs.YtgmnnkodcmmfdaaW.PrintWords Go.Proofs.YtgmnnkodcmmfdaaW.PrintLast
set_option linter.unusedSimpArgs false
set_option linter.unusedVariables false

/-! Small facts. -/
theorem w64 {x : Int} (h0 : -9223372036854775808 ≤ x) (h1 : x ≤ 9223372036854775807) : wrap64 x = x := by unfold wrap64; omega
theorem rd_nat (l : List Int) (j : Nat) : rd l (j : Int) = l.getD j 0 := by simp [rd]
/-- The numbers from m on, n of them. -/
def marked (m : Int) (n : Nat) : List Int := (List.range n).map fun (i : Nat) => m + (i : Int)
theorem marked_len (m : Int) (n : Nat) : (marked m n).length = n := by simp [marked]
theorem marked_get (m : Int) (n j : Nat) (h : j < n) : (marked m n).getD j 0 = m + j := by simp [marked, List.getD, h]
theorem neg1 (n : Nat) : ((1 : Int) + (n : Int) < 0) = False := by simp only [eq_iff_iff, iff_false]; omega
theorem neg0 : ((-1 : Int) < 0) = True := by simp
theorem i64r {n : Int} (h : (Lit.int .i64 n).wf = true) : -9223372036854775808 ≤ n ∧ n ≤ 9223372036854775807 := by
  have e1 : IntKind.i64.min = -9223372036854775808 := by decide
  have e2 : IntKind.i64.max = 9223372036854775807 := by decide
  simp only [Lit.wf, Bool.and_eq_true, decide_eq_true_eq, e1, e2] at h
  exact h

/-! Lists of texts: the marks. -/
theorem rds_nat (l : List ByteArray) (j : Nat) : rdOf ByteArray.empty l (j : Int) = l.getD j ByteArray.empty := by simp [rdOf]
theorem markText_go (d : Nat) : ∀ (x0 : Int) (x3 : ByteArray), 0 ≤ x0 → x0 < (10 : Int) ^ d → x3.size + d ≤ 100 → d ≤ 18 → ∃ t, ∀ k, d + 1 ≤ k → laws_markText.l0 k x0 x3 = some t := by
  induction d with
  | zero =>
    intro x0 x3 h0 h1 hs h18
    refine ⟨(⟨#[109]⟩ : ByteArray) ++ x3, fun k hk => ?_⟩
    obtain ⟨k, rfl⟩ : ∃ m, k = m + 1 := ⟨k - 1, by omega⟩
    simp only [laws_markText.l0]
    rw [if_neg (by simp at h1; omega), if_pos (by omega)]
  | succ d ih =>
    intro x0 x3 h0 h1 hs h18
    by_cases h : x0 > 0
    · have ht : Int.tdiv x0 10 = x0 / 10 := by rw [Int.tdiv_eq_ediv_of_nonneg h0]
      rw [Int.pow_succ] at h1
      have hq : x0 ≤ 9223372036854775807 := by
        have : (10 : Int) ^ d * 10 ≤ (10 : Int) ^ 18 := by
          rw [← Int.pow_succ]
          exact_mod_cast Nat.pow_le_pow_right (show 0 < 10 by omega) h18
        have e : (10 : Int) ^ 18 = 1000000000000000000 := by decide
        omega
      have sz : (strOfNums [(wrap64 (48 + (Int.tmod x0 10))) % 256]).size = 1 := by simp [strOfNums, ByteArray.size]
      have hw : wrap64 (Int.tdiv x0 10) = x0 / 10 := by rw [ht]; exact w64 (by omega) (by omega)
      obtain ⟨t, hh⟩ := ih (x0 / 10) (strOfNums [(wrap64 (48 + (Int.tmod x0 10))) % 256] ++ x3) (by omega) (by omega) (by rw [ByteArray.size_append, sz]; omega) (by omega)
      refine ⟨t, fun k hk => ?_⟩
      obtain ⟨k, rfl⟩ : ∃ m, k = m + 1 := ⟨k - 1, by omega⟩
      simp only [laws_markText.l0]
      rw [if_pos h]
      simp only [Option.bind_some]
      rw [sz, if_pos (by omega), hw]
      exact hh k (by omega)
    · refine ⟨(⟨#[109]⟩ : ByteArray) ++ x3, fun k hk => ?_⟩
      obtain ⟨k, rfl⟩ : ∃ m, k = m + 1 := ⟨k - 1, by omega⟩
      simp only [laws_markText.l0]
      rw [if_neg h, if_pos (by omega)]
/-- The text that a mark's number is. -/
def T (i : Int) : ByteArray := (laws_markText.f 40 i).getD ByteArray.empty
theorem markText (k : Nat) (i : Int) (h0 : 1 ≤ i) (h1 : i ≤ 1000000000) (hk : 20 ≤ k) : laws_markText.f k i = some (T i) := by
  obtain ⟨t, ht⟩ := markText_go 18 i (⟨#[]⟩ : ByteArray) (by omega) (by have e : (10 : Int) ^ 18 = 1000000000000000000 := by decide
                                                                        omega) (by simp [ByteArray.size]) (by omega)
  have e : ∀ k, 20 ≤ k → laws_markText.f k i = some t := by
    intro k hk
    unfold laws_markText.f
    rw [if_neg (by omega), ht k (by omega)]
  unfold T
  rw [e k hk, e 40 (by omega)]; rfl
/-- The marks from m on, n of them. -/
def smarked (m : Int) (n : Nat) : List ByteArray := (List.range n).map fun (i : Nat) => T (m + (i : Int))
theorem smarked_len (m : Int) (n : Nat) : (smarked m n).length = n := by simp [smarked]
theorem smarked_get (m : Int) (n j : Nat) (h : j < n) : (smarked m n).getD j ByteArray.empty = T (m + j) := by simp [smarked, List.getD, h]
theorem markStringS_go (n : Nat) (hn : n ≤ 100000000) (m : Int) (hm0 : 1 ≤ m) (hm : m + n ≤ 1000000000) (d : Nat) : ∀ (k j : Nat) (x0 : List ByteArray), x0.length = n → n - j = d → j ≤ n → d + 20 < k → (∀ i, i < j → x0[i]? = some (T (m + i))) →
    laws_markStringS.l0 k x0 (m + j) (j : Int) = some (m + n, smarked m n) := by
  induction d with
  | zero =>
    intro k j x0 hl hd hj hk hp
    obtain ⟨k, rfl⟩ : ∃ e, k = e + 1 := ⟨k - 1, by omega⟩
    simp only [laws_markStringS.l0]
    rw [if_neg (by omega)]
    have : j = n := by omega
    subst this
    refine congrArg some (Prod.ext rfl ?_)
    refine List.ext_getElem? fun i => ?_
    by_cases h : i < j
    · rw [hp i h]; simp [smarked, h]
    · rw [List.getElem?_eq_none (show (smarked m j).length ≤ i by rw [smarked_len]; omega)]
      exact List.getElem?_eq_none (show x0.length ≤ i by omega)
  | succ d ih =>
    intro k j x0 hl hd hj hk hp
    obtain ⟨k, rfl⟩ : ∃ e, k = e + 1 := ⟨k - 1, by omega⟩
    simp only [laws_markStringS.l0]
    rw [if_pos (by omega), markText k (m + j) (by omega) (by omega) (by omega)]
    simp only [Option.bind_some]
    rw [if_pos (by omega), w64 (x := m + j + 1) (by omega) (by omega), w64 (x := (j : Int) + 1) (by omega) (by omega), show m + (j : Int) + 1 = m + ((j + 1 : Nat) : Int) by omega, show (j : Int) + 1 = ((j + 1 : Nat) : Int) by omega]
    refine ih k (j + 1) _ (by rw [List.length_set]; exact hl) (by omega) (by omega) (by omega) fun i hi => ?_
    rw [show ((j : Int)).toNat = j by omega]
    by_cases h : i = j
    · subst h; rw [List.getElem?_set_self (by omega)]
    · rw [List.getElem?_set_ne (by omega), hp i (by omega)]
theorem markStringS (k : Nat) (l : List ByteArray) (hl : l.length ≤ 1048600) (hk : l.length + 30 < k) : laws_markStringS.f k l 1 = some (1 + (l.length : Int), smarked 1 l.length) := by
  unfold laws_markStringS.f
  have := markStringS_go l.length (by omega) 1 (by omega) (by omega) l.length k 0 l rfl (by omega) (by omega) (by omega) (fun i hi => by omega)
  simpa using this
theorem heldStringS_go (n : Nat) (hn : n ≤ 100000000) (m : Int) (hm0 : 1 ≤ m) (hm : m + n ≤ 1000000000) (d : Nat) : ∀ (k j : Nat), n - j = d → j ≤ n → d + 20 < k →
    laws_heldStringS.l0 k (smarked m n) (m + j) (j : Int) = some (m + n) := by
  induction d with
  | zero =>
    intro k j hd hj hk
    obtain ⟨k, rfl⟩ : ∃ e, k = e + 1 := ⟨k - 1, by omega⟩
    simp only [laws_heldStringS.l0]
    rw [smarked_len, if_neg (by omega), show j = n by omega]
  | succ d ih =>
    intro k j hd hj hk
    obtain ⟨k, rfl⟩ : ∃ e, k = e + 1 := ⟨k - 1, by omega⟩
    simp only [laws_heldStringS.l0]
    rw [smarked_len, if_pos (by omega), if_pos (by omega), markText k (m + j) (by omega) (by omega) (by omega)]
    simp only [Option.bind_some]
    rw [rds_nat, smarked_get m n j (by omega), if_pos rfl, w64 (x := m + j + 1) (by omega) (by omega), w64 (x := (j : Int) + 1) (by omega) (by omega), show m + (j : Int) + 1 = m + ((j + 1 : Nat) : Int) by omega, show (j : Int) + 1 = ((j + 1 : Nat) : Int) by omega]
    exact ih k (j + 1) (by omega) (by omega) (by omega)
theorem heldStringS (k n : Nat) (hn : n ≤ 1048600) (hk : n + 30 < k) : laws_heldStringS.f k (smarked 1 n) 1 = some (1 + (n : Int)) := by
  unfold laws_heldStringS.f
  have := heldStringS_go n (by omega) 1 (by omega) (by omega) n k 0 (by omega) (by omega) (by omega)
  simpa using this
theorem eqStringS_go (x : List ByteArray) (hx : x.length ≤ 100000000) (d : Nat) : ∀ (k j : Nat), x.length - j = d → j ≤ x.length → d < k → laws_eqStringS.l0 k x x (j : Int) = some true := by
  induction d with
  | zero =>
    intro k j hd hj hk
    obtain ⟨k, rfl⟩ : ∃ e, k = e + 1 := ⟨k - 1, by omega⟩
    simp only [laws_eqStringS.l0]
    rw [if_neg (by omega)]
  | succ d ih =>
    intro k j hd hj hk
    obtain ⟨k, rfl⟩ : ∃ e, k = e + 1 := ⟨k - 1, by omega⟩
    simp only [laws_eqStringS.l0]
    rw [if_pos (by omega), if_pos (by omega), if_pos (by omega), if_pos trivial, w64 (by omega) (by omega), show (j : Int) + 1 = ((j + 1 : Nat) : Int) by omega]
    exact ih k (j + 1) (by omega) (by omega) (by omega)
theorem eqStringS (k : Nat) (l : List ByteArray) (hl : l.length ≤ 1048600) (hk : l.length < k) : laws_eqStringS.f k l l = some true := by
  unfold laws_eqStringS.f
  rw [if_pos rfl]
  simpa using eqStringS_go l (by omega) l.length k 0 (by omega) (by omega) hk

/-! The cutting of a text. -/
theorem split_go (x : ByteArray) (c : Int) (hx : x.size ≤ 1048576) (d : Nat) : ∀ (j a : Nat) (out : List ByteArray), x.size - j = d → a ≤ j → j ≤ x.size → out.length + d ≤ 1048576 →
    ∃ r, r.length ≤ out.length + d + 1 ∧ 1 ≤ r.length ∧ ∀ k, d < k → spec_l01Cut.l0 k x c out (a : Int) (j : Int) = some r ∧ impl_split.l0 k x c out (a : Int) (j : Int) = some r := by
  induction d with
  | zero =>
    intro j a out hd ha hj ho
    refine ⟨out ++ [x.extract a x.size], by simp, by simp, fun k hk => ?_⟩
    obtain ⟨k, rfl⟩ : ∃ e, k = e + 1 := ⟨k - 1, by omega⟩
    simp only [spec_l01Cut.l0, impl_split.l0]
    have g : ¬ (j : Int) < (x.size : Int) := by omega
    have g1 : 0 ≤ (a : Int) := by omega
    have g2 : (a : Int) ≤ (x.size : Int) := by omega
    have g3 : out.length < 8796093022208 := by omega
    simp only [g, g1, g2, g3, if_true, if_false, Int.toNat_natCast, and_self]
  | succ d ih =>
    intro j a out hd ha hj ho
    have g : (j : Int) < (x.size : Int) := by omega
    have g0 : 0 ≤ (j : Int) := by omega
    have g1 : 0 ≤ (a : Int) := by omega
    have g2 : (a : Int) ≤ (j : Int) := by omega
    have g4 : (j : Int) ≤ (x.size : Int) := by omega
    have g3 : out.length < 8796093022208 := by omega
    have gw : wrap64 ((j : Int) + 1) = ((j + 1 : Nat) : Int) := by rw [w64 (by omega) (by omega)]; omega
    by_cases h : bt x (j : Int) = c
    · obtain ⟨r, h1, h2, h3⟩ := ih (j + 1) (j + 1) (out ++ [x.extract a j]) (by omega) (by omega) (by omega) (by rw [List.length_append]; simp; omega)
      refine ⟨r, by rw [List.length_append] at h1; simp at h1; omega, h2, fun k hk => ?_⟩
      obtain ⟨k, rfl⟩ : ∃ e, k = e + 1 := ⟨k - 1, by omega⟩
      simp only [spec_l01Cut.l0, impl_split.l0, g, g0, g1, g2, g3, g4, gw, h, if_true, Int.toNat_natCast]
      exact h3 k (by omega)
    · obtain ⟨r, h1, h2, h3⟩ := ih (j + 1) a out (by omega) (by omega) (by omega) (by omega)
      refine ⟨r, by omega, h2, fun k hk => ?_⟩
      obtain ⟨k, rfl⟩ : ∃ e, k = e + 1 := ⟨k - 1, by omega⟩
      simp only [spec_l01Cut.l0, impl_split.l0, g, g0, gw, h, if_true, if_false]
      exact h3 k (by omega)
theorem split (x : ByteArray) (c : Int) (hx : x.size ≤ 1048576) : ∃ r, r.length ≤ 1048577 ∧ 1 ≤ r.length ∧ ∀ k, 1048577 ≤ k → spec_l01Cut.f k x c = some r ∧ impl_split.f k x c = some r := by
  obtain ⟨r, h1, h2, h3⟩ := split_go x c hx x.size 0 0 [] (by omega) (by omega) (by omega) (by simp; omega)
  refine ⟨r, by simp at h1; omega, h2, fun k hk => ?_⟩
  unfold spec_l01Cut.f impl_split.f
  simpa using h3 k (by omega)


theorem Lines_both (x : ByteArray) (hx : x.size ≤ 1048576) : ∃ r : List ByteArray, r.length ≤ 1048577 ∧ ∀ k, 1048577 ≤ k → spec_Lines.f k x = some r ∧ impl_Lines.f k x = some r := by
  obtain ⟨r, h1, h2, h3⟩ := split x 10 hx
  have w1 : wrap64 ((r.length : Int) - 1) = (r.length : Int) - 1 := w64 (by omega) (by omega)
  have g0 : 0 ≤ (r.length : Int) - 1 := by omega
  have g1 : (r.length : Int) - 1 < (r.length : Int) := by omega
  have g2 : (r.length : Int) - 1 ≤ (r.length : Int) := by omega
  refine ⟨if (rdOf ByteArray.empty r ((r.length : Int) - 1)).toList = ([] : List UInt8) then r.take ((r.length : Int) - 1).toNat else r, by split; (rw [List.length_take]; omega); exact h1, fun k hk => ?_⟩
  unfold spec_Lines.f impl_Lines.f
  rw [(h3 k hk).1, (h3 k hk).2]
  simp only [Option.bind_some, w1]
  rw [if_pos g0, if_pos g1, if_pos g2]
  constructor <;> split <;> rfl

theorem FnExactLines : laws_FnExactLines.Pure := by
  intro x hx
  by_cases hl : x.size ≤ 1048576
  · obtain ⟨r, hr, hh⟩ := Lines_both x hl
    have hs : ∀ k, 1048577 ≤ k → spec_Lines.f k x = some r := fun k hk => (hh k hk).1
    have hi : ∀ k, 1048577 ≤ k → impl_Lines.f k x = some r := fun k hk => (hh k hk).2
    obtain ⟨K, hK⟩ : ∃ K : Nat, 1048700 ≤ K := ⟨1048700, Nat.le_refl _⟩
    refine ⟨K, ?_⟩
    unfold laws_FnExactLines.f
    rw [if_neg (by omega)]
    simp (disch := omega) only [Option.bind_some, hs, hi, eqStringS, markStringS, heldStringS, neg1, if_true, if_false, reduceIte, Bool.false_eq_true]
  · refine ⟨0, ?_⟩
    unfold laws_FnExactLines.f
    rw [if_pos (by omega)]

end Go.Proofs.Ytgmnnkodcmmfdaa.Pure
