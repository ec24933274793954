/- The law FnStackOne answers true whatever its arguments hold: the program's function and the reference's come to the same, and no list of an answer is shared. No condition. -/
import Derived.Test.YtfahmmlkcmadeaaPFnStackOnex7
namespace Go.Proofs.Ytfahmmlkcmadeaa.Pure
open Go.RowKit Go.Proofs.Ytfahmmlkcmadeaa.PFnStackOne Go.Proofs.YtfahmmlkcmadeaaW.PrintWords Go.Proofs.YtfahmmlkcmadeaaW.PrintLast
set_option linter.unusedSimpArgs false
set_option linter.unusedVariables false

/-! Small facts. -/
theorem w64 {x : Int} (h0 : -9223372036854775808 ≤ x) (h1 : x ≤ 9223372036854775807) : wrap64 x = x := by unfold wrap64; omega
theorem rd_nat (l : List Int) (j : Nat) : rd l (j : Int) = l.getD j 0 := by simp [rd]
/-- The numbers from m on, n of them. -/
def marked (m : Int) (n : Nat) : List Int := (List.range n).map fun (i : Nat) => m + (i : Int)
theorem marked_len (m : Int) (n : Nat) : (marked m n).length = n := by simp [marked]
theorem marked_get (m : Int) (n j : Nat) (h : j < n) : (marked m n).getD j 0 = m + j := by simp [marked, List.getD, h]
theorem neg1 (n : Nat) : ((1 : Int) + (n : Int) < 0) = False := by simp only [eq_iff_iff, iff_false]; omega
theorem neg0 : ((-1 : Int) < 0) = True := by simp
theorem i64r {n : Int} (h : (Lit.int .i64 n).wf = true) : -9223372036854775808 ≤ n ∧ n ≤ 9223372036854775807 := by
  have e1 : IntKind.i64.min = -9223372036854775808 := by decide
  have e2 : IntKind.i64.max = 9223372036854775807 := by decide
  simp only [Lit.wf, Bool.and_eq_true, decide_eq_true_eq, e1, e2] at h
  exact h

theorem within (a lo hi : Int) : impl_within.f a lo hi = some (decide (lo ≤ a ∧ a ≤ hi)) := by
  unfold impl_within.f
  by_cases h : a ≥ lo
  · rw [if_pos h]
    have h' : lo ≤ a := h
    simp [h']
  · rw [if_neg h]
    have h' : ¬ lo ≤ a := h
    simp [h']

/-! Made numbers. -/
theorem and255 (x : Int) : ∃ n : Nat, n ≤ 255 ∧ Go.bits .and .i64 x 255 = (n : Int) := by
  refine ⟨((BitVec.ofInt 64 x) &&& (BitVec.ofInt 64 255)).toNat, ?_, ?_⟩
  · rw [BitVec.toNat_and, show (BitVec.ofInt 64 255).toNat = 255 from by decide]
    exact Nat.and_le_right
  · have h : Go.bits .and .i64 x 255 = IntKind.i64.wrap (((BitVec.ofInt 64 x) &&& (BitVec.ofInt 64 255)).toNat : Int) := rfl
    have hb : ((BitVec.ofInt 64 x) &&& (BitVec.ofInt 64 255)).toNat ≤ 255 := by
      rw [BitVec.toNat_and, show (BitVec.ofInt 64 255).toNat = 255 from by decide]
      exact Nat.and_le_right
    rw [h, IntKind.wrap_i64]
    omega
theorem xorN (x y : Nat) (hx : x < 2 ^ 32) (hy : y < 2 ^ 32) : ∃ n : Nat, n < 2 ^ 32 ∧ Go.bits .xor .i64 (x : Int) (y : Int) = (n : Int) := by
  refine ⟨x ^^^ y, Nat.xor_lt_two_pow hx hy, ?_⟩
  have h : Go.bits .xor .i64 (x : Int) (y : Int) = IntKind.i64.wrap (((BitVec.ofInt 64 (x : Int)) ^^^ (BitVec.ofInt 64 (y : Int))).toNat : Int) := rfl
  have e : ((BitVec.ofInt 64 (x : Int)) ^^^ (BitVec.ofInt 64 (y : Int))).toNat = x ^^^ y := by
    rw [BitVec.toNat_xor, BitVec.ofInt_natCast, BitVec.ofInt_natCast, BitVec.toNat_ofNat, BitVec.toNat_ofNat, Nat.mod_eq_of_lt (by omega), Nat.mod_eq_of_lt (by omega)]
  have hb := Nat.xor_lt_two_pow hx hy
  rw [h, e, IntKind.wrap_i64]
  omega
theorem l01Byte (l : List Int) (p : Int) (s : Int) (hp : 0 ≤ p) (hp2 : p ≤ 1000000000) : ∃ b p' s' : Int, 0 ≤ b ∧ b ≤ 255 ∧ 0 ≤ p' ∧ p' ≤ p + 1 ∧ spec_l01Byte.f l p s = some (b, p', s') := by
  unfold spec_l01Byte.f
  by_cases h : p < (l.length : Int)
  · rw [if_pos h, if_pos hp]
    obtain ⟨n, hn, e⟩ := and255 (wrap64 ((Go.bits .and .i64 (Go.bits .xor .i64 ((wrap64 ((wrap64 (s * 6364136223846793005)) + 1442695040888963407)) / 8589934592) ((wrap64 ((wrap64 (s * 6364136223846793005)) + 1442695040888963407)) / 35184372088832)) 255) + (wrap64 (rd l p))))
    rw [e, w64 (x := p + 1) (by omega) (by omega)]
    exact ⟨_, _, _, by omega, by omega, by omega, by omega, rfl⟩
  · rw [if_neg h]
    obtain ⟨n, hn, e⟩ := and255 (Go.bits .xor .i64 ((wrap64 ((wrap64 (s * 6364136223846793005)) + 1442695040888963407)) / 8589934592) ((wrap64 ((wrap64 (s * 6364136223846793005)) + 1442695040888963407)) / 35184372088832))
    rw [e]
    exact ⟨_, _, _, by omega, by omega, hp, by omega, rfl⟩
theorem l01New_go (l : List Int) (hl : l.length ≤ 1048576) (d : Nat) : ∀ (j : Nat) (v : Int), l.length - j = d → j ≤ l.length → ∃ s, ∀ k, d < k → spec_l01New.l0 k l v (j : Int) = some (l, 0, s) := by
  induction d with
  | zero =>
    intro j v hd hj
    refine ⟨v, fun k hk => ?_⟩
    obtain ⟨k, rfl⟩ : ∃ m, k = m + 1 := ⟨k - 1, by omega⟩
    simp only [spec_l01New.l0]
    rw [if_neg (by omega)]
  | succ d ih =>
    intro j v hd hj
    by_cases h : (j : Int) < 4000
    · obtain ⟨s, hs⟩ := ih (j + 1) (Go.bits .and .i64 (wrap64 ((wrap64 ((wrap64 (v * 179)) + (wrap64 (rd l (j : Int))))) + 7)) 1073741823) (by omega) (by omega)
      refine ⟨s, fun k hk => ?_⟩
      obtain ⟨k, rfl⟩ : ∃ m, k = m + 1 := ⟨k - 1, by omega⟩
      simp only [spec_l01New.l0]
      rw [if_pos (by omega), if_pos h, if_pos (by omega), w64 (x := (j : Int) + 1) (by omega) (by omega), show (j : Int) + 1 = ((j + 1 : Nat) : Int) by omega]
      exact hs k (by omega)
    · refine ⟨v, fun k hk => ?_⟩
      obtain ⟨k, rfl⟩ : ∃ m, k = m + 1 := ⟨k - 1, by omega⟩
      simp only [spec_l01New.l0]
      rw [if_pos (by omega), if_neg h]
theorem l01BelowS (l : List Int) (p s m : Int) (hp : 0 ≤ p) (hp2 : p ≤ 1000000000) (hm : 1 ≤ m) (hm2 : m ≤ 256) : ∃ b p' s' : Int, 0 ≤ b ∧ b < m ∧ 0 ≤ p' ∧ p' ≤ p + 1 ∧ spec_l01Below.f l p s m = some (b, p', s') := by
  obtain ⟨b1, p1, s1, h1, h2, h3, h4, e1⟩ := l01Byte l p s hp hp2
  unfold spec_l01Below.f
  rw [if_neg (by omega), if_pos (by omega), e1]
  simp only [Option.bind_some]
  rw [if_neg (by omega), Int.tmod_eq_emod_of_nonneg h1]
  exact ⟨_, _, _, Int.emod_nonneg _ (by omega), Int.emod_lt_of_pos _ (by omega), h3, h4, rfl⟩
theorem MakeNumS (l : List Int) (hl : l.length ≤ 1048576) (m : Int) (hm : 1 ≤ m) (hm2 : m ≤ 256) : ∃ v : Int, 0 ≤ v ∧ v < m ∧ ∀ k, 1048577 ≤ k → spec_MakeNum.f k l m = some v := by
  obtain ⟨s, hs⟩ := l01New_go l hl l.length 0 (wrap64 (774119 + (l.length : Int))) (by omega) (Nat.zero_le _)
  obtain ⟨b, p', s', h1, h2, h3, h4, e⟩ := l01BelowS l 0 (wrap64 (s + 777)) m (by omega) (by omega) hm hm2
  refine ⟨b, h1, h2, fun k hk => ?_⟩
  unfold spec_MakeNum.f spec_l01New.f
  have h0 : spec_l01New.l0 k l (wrap64 (774119 + (l.length : Int))) 0 = _ := hs k (by omega)
  rw [h0]
  simp only [Option.bind_some]
  rw [e]
  rfl
theorem Picks_go (l : List Int) (n : Nat) : ∀ (out : List Int) (p s : Int), 0 ≤ p → p + n ≤ 1000000 → out.length + n ≤ 1000 → (∀ x ∈ out, 0 ≤ x ∧ x < 12) → ∃ (r : List Int) (p' s' : Int), r.length = out.length + n ∧ (∀ x ∈ r, 0 ≤ x ∧ x < 12) ∧ ∀ k, n < k → spec_l07Picks.l0 k out (n : Int) l p s = some (r, p', s') := by
  induction n with
  | zero =>
    intro out p s hp hp2 ho hx
    refine ⟨out, p, s, rfl, hx, fun k hk => ?_⟩
    obtain ⟨k, rfl⟩ : ∃ m, k = m + 1 := ⟨k - 1, by omega⟩
    simp only [spec_l07Picks.l0]
    rw [if_neg (by omega)]
  | succ n ih =>
    intro out p s hp hp2 ho hx
    obtain ⟨b, p1, s1, h1, h2, h3, h4, e⟩ := l01BelowS l p s 12 hp (by omega) (by omega) (by omega)
    obtain ⟨r, p', s', r1, r2, r3⟩ := ih (out ++ [b]) p1 s1 h3 (by omega) (by simp; omega) (fun x hxx => by
      rcases List.mem_append.1 hxx with g | g
      · exact hx x g
      · obtain rfl := List.mem_singleton.1 g
        exact ⟨h1, h2⟩)
    refine ⟨r, p', s', by rw [r1]; simp; omega, r2, fun k hk => ?_⟩
    obtain ⟨k, rfl⟩ : ∃ m, k = m + 1 := ⟨k - 1, by omega⟩
    simp only [spec_l07Picks.l0]
    rw [if_pos (by omega), e]
    simp only [Option.bind_some]
    rw [if_pos (by omega), w64 (by omega) (by omega), show ((n + 1 : Nat) : Int) - 1 = (n : Int) by omega]
    exact r3 k (by omega)
theorem MakePicks (l : List Int) (hl : l.length ≤ 1048576) (m : Int) (hm : 1 ≤ m) (hm2 : m ≤ 200) : ∃ r : List Int, (r.length : Int) ≤ m ∧ (∀ x ∈ r, 0 ≤ x ∧ x < 12) ∧ ∀ k, 1048577 ≤ k → spec_MakePicks.f k l m = some r := by
  obtain ⟨s, hs⟩ := l01New_go l hl l.length 0 (wrap64 (774119 + (l.length : Int))) (by omega) (Nat.zero_le _)
  obtain ⟨b, p', s', h1, h2, h3, h4, e⟩ := l01BelowS l 0 (wrap64 (s + 222)) (m + 1) (by omega) (by omega) (by omega) (by omega)
  obtain ⟨n, rfl⟩ : ∃ n : Nat, b = (n : Int) := ⟨b.toNat, by omega⟩
  obtain ⟨r, p2, s2, r1, r2, r3⟩ := Picks_go l n [] p' s' h3 (by omega) (by simp; omega) (fun x hx => by cases hx)
  refine ⟨r, by rw [r1]; simp; omega, r2, fun k hk => ?_⟩
  unfold spec_MakePicks.f spec_l01New.f
  have h0 : spec_l01New.l0 k l (wrap64 (774119 + (l.length : Int))) 0 = _ := hs k (by omega)
  rw [h0]
  simp only [Option.bind_some]
  unfold spec_l07Picks.f
  rw [w64 (x := m + 1) (by omega) (by omega), e]
  simp only [Option.bind_some]
  rw [r3 k (by omega)]
  rfl

/-! Whether a number is in a list. -/
theorem getD_drop (l : List Int) (j : Nat) (h : j < l.length) : l.drop j = l.getD j 0 :: l.drop (j + 1) := by
  rw [List.drop_eq_getElem_cons h]; simp [List.getD, h]

theorem index_go (x : Int) (l : List Int) (hl : l.length ≤ 140737488355328) (d : Nat) : ∀ (k j : Nat), l.length - j = d → j ≤ l.length → d < k → ∃ r, slices_Index_int_int.l0 k l x (l.length : Int) (j : Int) = some r ∧ (0 ≤ r ↔ x ∈ l.drop j) := by
  induction d with
  | zero =>
    intro k j hd hj hk
    obtain ⟨k, rfl⟩ : ∃ m, k = m + 1 := ⟨k - 1, by omega⟩
    refine ⟨-1, ?_, ?_⟩
    · simp only [slices_Index_int_int.l0]; rw [if_neg (by omega)]
    · rw [List.drop_eq_nil_of_le (by omega)]; simp
  | succ d ih =>
    intro k j hd hj hk
    obtain ⟨k, rfl⟩ : ∃ m, k = m + 1 := ⟨k - 1, by omega⟩
    obtain ⟨r, h1, h2⟩ := ih k (j + 1) (by omega) (by omega) (by omega)
    by_cases h : x = l.getD j 0
    · refine ⟨j, ?_, ?_⟩
      · simp only [slices_Index_int_int.l0]
        rw [if_pos (by omega), if_pos (by omega), if_pos (by omega), rd_nat, if_pos h]
      · rw [getD_drop l j (by omega), List.mem_cons]; exact ⟨fun _ => Or.inl h, fun _ => by omega⟩
    · refine ⟨r, ?_, ?_⟩
      · simp only [slices_Index_int_int.l0]
        rw [if_pos (by omega), if_pos (by omega), if_pos (by omega), rd_nat, if_neg h, w64 (by omega) (by omega), show (j : Int) + 1 = ((j + 1 : Nat) : Int) by omega, h1]
      · rw [getD_drop l j (by omega), List.mem_cons, h2]
        exact ⟨Or.inr, fun hh => hh.resolve_left h⟩
theorem contains (k : Nat) (x : Int) (l : List Int) (hl : l.length ≤ 1048576) (hk : l.length < k) : slices_Contains_int_int.f k l x = some (decide (x ∈ l)) := by
  obtain ⟨r, h1, h2⟩ := index_go x l (by omega) l.length k 0 (by omega) (by omega) hk
  unfold slices_Contains_int_int.f slices_Index_int_int.f
  rw [show ((0 : Int)) = ((0 : Nat) : Int) from rfl, h1]
  simp only [Option.bind_some]
  refine congrArg some ?_
  rw [Bool.eq_iff_iff]
  simp only [decide_eq_true_eq]
  have : r ≥ ((0 : Nat) : Int) ↔ 0 ≤ r := Iff.rfl
  rw [this, h2, List.drop_zero]

theorem pigeon : ∀ (n : Nat) (l : List Int), l.Nodup → (∀ x ∈ l, 0 ≤ x ∧ x < n) → l.length ≤ n := by
  intro n
  induction n with
  | zero =>
    intro l _ h
    cases l with
    | nil => simp
    | cons a t => exact absurd (h a (List.mem_cons_self)) (by omega)
  | succ n ih =>
    intro l hn h
    have h1 := ih (l.erase (n : Int)) (hn.erase _) (fun x hx => by
      have := h x (List.mem_of_mem_erase hx)
      have hne : x ≠ (n : Int) := fun e => by
        subst e
        exact absurd hx (by rw [hn.mem_erase_iff]; simp)
      omega)
    by_cases hm : (n : Int) ∈ l
    · rw [List.length_erase_of_mem hm] at h1; omega
    · rw [List.erase_of_not_mem hm] at h1; omega

theorem copyInts (l : List Int) (hl : l.length ≤ 1048576) : impl_copyInts.f l = some l := by
  unfold impl_copyInts.f
  rw [if_pos (by rw [List.length_nil]; omega)]; rfl
theorem ActOkT (l : List Int) (hl : l.length ≤ 300) (kd at_ a b : Int) (hk : 1 ≤ kd ∧ kd ≤ 4) (ha : 0 ≤ at_ ∧ at_ < (l.length : Int)) (h1 : kd = 1 → a = 0) (h3 : kd ≠ 3 → b = 0) : impl_ActOk.f l kd at_ a b = some true := by
  unfold impl_ActOk.f
  rw [within, within]
  simp only [Option.bind_some]
  rw [w64 (by omega) (by omega), if_pos (decide_eq_true (by omega)), if_pos (decide_eq_true (by omega)), if_neg (by omega)]
  by_cases e1 : kd = 1
  · rw [if_pos e1, if_pos (h1 e1), if_neg (by omega)]
    have := h3 (by omega)
    simp [this]
  · rw [if_neg e1]
    by_cases e3 : kd = 3
    · rw [if_pos e3]
    · rw [if_neg e3]
      have := h3 e3
      simp [this]
theorem copyMem (l : List Int) (hl : l.length ≤ 300) : impl_copyMem.f l = some l := by
  unfold impl_copyMem.f
  rw [copyInts l (by omega)]
  rfl
theorem DoLoad (l : List Int) (hl : l.length ≤ 300) (at_ : Int) (ha : 0 ≤ at_ ∧ at_ < (l.length : Int)) : impl_Do.f l 1 at_ 0 0 = some (l, rd l at_, true) := by
  unfold impl_Do.f
  rw [ActOkT l hl 1 at_ 0 0 (by omega) ha (fun _ => rfl) (fun _ => rfl)]
  simp only [Option.bind_some, if_true]
  rw [copyMem l hl]
  simp only [Option.bind_some]
  rw [if_pos (by omega), if_pos (by omega)]
theorem DoStore (l : List Int) (hl : l.length ≤ 300) (at_ v : Int) (ha : 0 ≤ at_ ∧ at_ < (l.length : Int)) : impl_Do.f l 2 at_ v 0 = some (l.set at_.toNat v, 0, true) := by
  unfold impl_Do.f
  rw [ActOkT l hl 2 at_ v 0 (by omega) ha (fun h => by omega) (fun _ => rfl)]
  simp only [Option.bind_some, if_true]
  rw [copyMem l hl]
  simp only [Option.bind_some]
  rw [if_pos (by omega), if_pos (by omega), if_neg (by omega), if_pos (by omega)]
theorem DoCas (l : List Int) (hl : l.length ≤ 300) (at_ a b : Int) (ha : 0 ≤ at_ ∧ at_ < (l.length : Int)) (hr : rd l at_ = a) : impl_Do.f l 3 at_ a b = some (l.set at_.toNat b, 1, true) := by
  unfold impl_Do.f
  rw [ActOkT l hl 3 at_ a b (by omega) ha (fun h => by omega) (fun h => absurd rfl h)]
  simp only [Option.bind_some, if_true]
  rw [copyMem l hl]
  simp only [Option.bind_some]
  rw [if_pos (by omega), if_pos (by omega), if_neg (by omega), if_neg (by omega), if_pos hr, if_pos (by omega)]

theorem same_go (x : List Int) (hx : x.length ≤ 1000) (d : Nat) : ∀ (k j : Nat), x.length - j = d → j ≤ x.length → d < k → laws_sameInts.l0 k x x (x.length : Int) (j : Int) = some true := by
  induction d with
  | zero =>
    intro k j hd hj hk
    obtain ⟨k, rfl⟩ : ∃ m, k = m + 1 := ⟨k - 1, by omega⟩
    simp only [laws_sameInts.l0]
    rw [if_neg (by omega)]
  | succ d ih =>
    intro k j hd hj hk
    obtain ⟨k, rfl⟩ : ∃ m, k = m + 1 := ⟨k - 1, by omega⟩
    simp only [laws_sameInts.l0]
    rw [if_pos (by omega), if_pos (by omega), if_pos (by omega), if_pos (by omega), if_pos trivial, w64 (by omega) (by omega)]
    exact ih k (j + 1) (by omega) (by omega) (by omega)
theorem same (x : List Int) (hx : x.length ≤ 1000) (k : Nat) (hk : 1001 ≤ k) : laws_sameInts.f k x x = some true := by
  unfold laws_sameInts.f
  rw [if_pos rfl]
  exact same_go x hx x.length k 0 (by omega) (Nat.zero_le _) (by omega)

/-! A stack, one call after the other. -/
theorem unp (g : Nat) (hg : g ≤ 1000) (i : Int) (hi : 0 ≤ i ∧ i ≤ 20) : impl_Unpack.f ((g : Int) * 1048576 + i) = some ((g : Int), i, true) := by
  have d1 : Int.tdiv ((g : Int) * 1048576 + i) 1048576 = (g : Int) := by
    rw [Int.tdiv_eq_ediv_of_nonneg (by omega)]; omega
  have d2 : Int.tmod ((g : Int) * 1048576 + i) 1048576 = i := by
    rw [Int.tmod_eq_emod_of_nonneg (by omega)]; omega
  unfold impl_Unpack.f
  rw [if_neg (by omega), d1, d2, w64 (by omega) (by omega), if_neg (by omega)]
theorem topS (g : Nat) (hg : g ≤ 1000) (i : Int) (hi : 0 ≤ i ∧ i ≤ 20) : impl_top.f ((g : Int) * 1048576 + i) = some (i - 1, (g : Int)) := by
  unfold impl_top.f
  rw [unp g hg i hi]
  simp only [Option.bind_some]
  rw [w64 (by omega) (by omega)]
theorem top0 : impl_top.f 0 = some (-1, 0) := by
  have := topS 0 (by omega) 0 (by omega)
  simpa using this
theorem stRead (g : Nat) (hg : g ≤ 1000) (i : Int) (hi : 0 ≤ i ∧ i ≤ 20) : impl_stRead.f ((g : Int) * 1048576 + i) = some ((g : Int) * 1048576 + i) := by
  unfold impl_stRead.f
  rw [unp g hg i hi]
  simp only [Option.bind_some, if_true]
theorem nextT (g : Nat) (hg : g ≤ 1000) : impl_NextTag.f (g : Int) = some (((g + 1 : Nat) : Int)) := by
  unfold impl_NextTag.f
  rw [within]
  simp only [Option.bind_some]
  rw [if_pos (decide_eq_true (by omega)), w64 (by omega) (by omega)]
  rfl
theorem packT (g : Nat) (hg : g ≤ 1001) (i : Int) (hi : 0 ≤ i ∧ i ≤ 20) : impl_Pack.f (g : Int) i = some ((g : Int) * 1048576 + i, true) := by
  unfold impl_Pack.f
  rw [within, within]
  simp only [Option.bind_some]
  rw [if_pos (decide_eq_true (by omega)), if_pos (decide_eq_true (by omega)), w64 (x := (g : Int) * 1048576) (by omega) (by omega), w64 (by omega) (by omega)]
/-- The acts. -/
theorem act0 (k n : Nat) (hn : 1 ≤ n ∧ n ≤ 16) (kd a : Int) (hk : (kd = 1 ∧ 0 ≤ a ∧ a < n) ∨ kd = 2) :
    impl_StAct.f (k + 5) (n : Int) kd a 0 0 0 0 0 0 0 false = some (1, 0, 0, 0, true) := by
  have d1 : decide ((1 : Int) ≤ (n : Int) ∧ (n : Int) ≤ 16) = true := decide_eq_true (by omega)
  have w1 : wrap64 ((n : Int) - 1) = (n : Int) - 1 := w64 (by omega) (by omega)
  rcases hk with ⟨rfl, h1, h2⟩ | rfl
  · have d2 : decide ((0 : Int) ≤ a ∧ a ≤ (n : Int) - 1) = true := decide_eq_true (by omega)
    simp [impl_StAct.f, impl_StAct.j0, impl_StAct.j1, impl_StAct.j2, top0, within, d1, d2, w1]
  · simp [impl_StAct.f, impl_StAct.j0, impl_StAct.j1, impl_StAct.j2, top0, within, d1, w1]
theorem act1p (k n : Nat) (hn : 1 ≤ n ∧ n ≤ 16) (a : Int) (ha : 0 ≤ a ∧ a < n) (g : Nat) (hg : g ≤ 1000) (i : Int) (hi : 0 ≤ i ∧ i ≤ n) :
    impl_StAct.f (k + 5) (n : Int) 1 a 0 1 0 0 ((g : Int) * 1048576 + i) 0 0 false = some (2, a + 1, i, 0, true) := by
  have d1 : decide ((1 : Int) ≤ (n : Int) ∧ (n : Int) ≤ 16) = true := decide_eq_true (by omega)
  have w1 : wrap64 ((n : Int) - 1) = (n : Int) - 1 := w64 (by omega) (by omega)
  have w2 : wrap64 (1 + a) = a + 1 := by rw [w64 (by omega) (by omega)]; omega
  have w3 : wrap64 (i - 1 + 1) = i := by rw [w64 (by omega) (by omega)]; omega
  have w4 : wrap64 i = i := w64 (by omega) (by omega)
  have d2 : decide ((0 : Int) ≤ a ∧ a ≤ (n : Int) - 1) = true := decide_eq_true (by omega)
  have ht := topS g hg i (by omega)
  generalize (g : Int) * 1048576 + i = w at ht ⊢
  simp [impl_StAct.f, impl_StAct.j0, impl_StAct.j1, impl_StAct.j2, impl_StAct.j3, ht, within, d1, d2, w1, w2, w3, w4]
theorem act1g (k n : Nat) (hn : 1 ≤ n ∧ n ≤ 16) (g : Nat) (hg : g ≤ 1000) (i : Int) (hi : 1 ≤ i ∧ i ≤ n) :
    impl_StAct.f (k + 5) (n : Int) 2 0 0 1 0 0 ((g : Int) * 1048576 + i) 0 0 false = some (1, i, 0, 0, true) := by
  have d1 : decide ((1 : Int) ≤ (n : Int) ∧ (n : Int) ≤ 16) = true := decide_eq_true (by omega)
  have w1 : wrap64 ((n : Int) - 1) = (n : Int) - 1 := w64 (by omega) (by omega)
  have w2 : wrap64 (1 + (i - 1)) = i := by rw [w64 (by omega) (by omega)]; omega
  have d2 : decide ((0 : Int) ≤ i - 1 ∧ i - 1 ≤ (n : Int) - 1) = true := decide_eq_true (by omega)
  have ht := topS g hg i (by omega)
  generalize (g : Int) * 1048576 + i = w at ht ⊢
  have d3 := of_decide_eq_true d2
  generalize i - 1 = j at *
  simp [impl_StAct.f, impl_StAct.j0, impl_StAct.j1, impl_StAct.j2, impl_StAct.j3, ht, within, d1, d2, d3.1, d3.2, w1, w2]
theorem act2 (k n : Nat) (hn : 1 ≤ n ∧ n ≤ 16) (kd a c j t w w' g1 : Int) (hk : (kd = 1 ∧ 0 ≤ a ∧ a < n ∧ wrap64 (a + 1) = c) ∨ (kd = 2 ∧ 0 ≤ j ∧ j < n)) (C : Int) (hC : kd = 2 → C = c) (ht : impl_top.f w = some (j, t)) (hN : impl_NextTag.f t = some g1) (hp : impl_Pack.f g1 c = some (w', true)) :
    impl_StAct.f (k + 5) (n : Int) kd a 0 2 0 C w 0 0 false = some (3, 0, w, w', true) := by
  have d1 : decide ((1 : Int) ≤ (n : Int) ∧ (n : Int) ≤ 16) = true := decide_eq_true (by omega)
  have w1 : wrap64 ((n : Int) - 1) = (n : Int) - 1 := w64 (by omega) (by omega)
  rcases hk with ⟨rfl, h1, h2, h3⟩ | ⟨rfl, h1, h2⟩
  · have d3 : a ≤ (n : Int) - 1 := by omega
    simp [impl_StAct.f, impl_StAct.j0, impl_StAct.j1, impl_StAct.j2, impl_StAct.j3, ht, within, d1, d3, h1, w1, h3, hN, hp]
  · have d3 : j ≤ (n : Int) - 1 := by omega
    obtain rfl := hC rfl
    simp [impl_StAct.f, impl_StAct.j0, impl_StAct.j1, impl_StAct.j2, impl_StAct.j3, ht, within, d1, d3, h1, w1, hN, hp]
theorem act2p (k n : Nat) (hn : 1 ≤ n ∧ n ≤ 16) (a : Int) (ha : 0 ≤ a ∧ a < n) (g : Nat) (hg : g ≤ 1000) (i : Int) (hi : 0 ≤ i ∧ i ≤ n) :
    impl_StAct.f (k + 5) (n : Int) 1 a 0 2 0 0 ((g : Int) * 1048576 + i) 0 0 false = some (3, 0, (g : Int) * 1048576 + i, ((g + 1 : Nat) : Int) * 1048576 + (a + 1), true) :=
  act2 k n hn 1 a (a + 1) (i - 1) (g : Int) _ _ _ (Or.inl ⟨rfl, ha.1, ha.2, w64 (by omega) (by omega)⟩) 0 (fun h => by omega) (topS g hg i (by omega)) (nextT g hg) (packT (g + 1) (by omega) (a + 1) (by omega))
theorem act2g (k n : Nat) (hn : 1 ≤ n ∧ n ≤ 16) (g : Nat) (hg : g ≤ 1000) (i c : Int) (hi : 1 ≤ i ∧ i ≤ n) (hc : 0 ≤ c ∧ c ≤ n) :
    impl_StAct.f (k + 5) (n : Int) 2 0 0 2 0 c ((g : Int) * 1048576 + i) 0 0 false = some (3, 0, (g : Int) * 1048576 + i, ((g + 1 : Nat) : Int) * 1048576 + c, true) :=
  act2 k n hn 2 0 c (i - 1) (g : Int) _ _ _ (Or.inr ⟨rfl, by omega, by omega⟩) c (fun _ => rfl) (topS g hg i (by omega)) (nextT g hg) (packT (g + 1) (by omega) c (by omega))
/-- The steps. -/
theorem step0 (k n : Nat) (hn : 1 ≤ n ∧ n ≤ 16) (l : List Int) (hl : l.length = 1 + n) (kd a : Int) (hk : (kd = 1 ∧ 0 ≤ a ∧ a < n) ∨ kd = 2) (g : Nat) (hg : g ≤ 1000) (i : Int) (hi : 0 ≤ i ∧ i ≤ n) (hr : rd l 0 = (g : Int) * 1048576 + i) :
    impl_StStep.f (k + 5) (n : Int) l kd a 0 0 0 0 0 0 0 false =
      if kd = 2 ∧ i = 0 then some (l, kd, a, 0, 1, 0, 0, (g : Int) * 1048576 + i, 2, 0, true, true) else some (l, kd, a, 0, 1, 0, 0, (g : Int) * 1048576 + i, 0, 0, false, true) := by
  have h := act0 k n hn kd a hk
  have wl : wrap64 (1 + (n : Int)) = (l.length : Int) := by rw [w64 (by omega) (by omega)]; omega
  have wz : wrap64 ((0 : Int) + 1) = 1 := by rw [w64 (by omega) (by omega)]; rfl
  unfold impl_StStep.f
  rw [h]
  simp only [Option.bind_some, if_true, wl, bne_self_eq_false]
  simp only [impl_StStep.j0, Bool.false_eq_true, if_false]
  rw [DoLoad l (by omega) 0 (by omega), hr]
  simp only [Option.bind_some, if_true]
  rw [stRead g hg i (by omega)]
  simp only [Option.bind_some]
  rw [topS g hg i (by omega)]
  simp only [Option.bind_some, wz]
  by_cases h2 : kd = 2
  · rw [if_pos h2]
    by_cases hi0 : i = 0
    · rw [if_pos (by omega), if_pos ⟨h2, hi0⟩]
      simp only [impl_Call_end.f, Option.bind_some, impl_StStep.j3]
    · rw [if_neg (by omega), if_neg (by omega)]
      simp only [impl_StStep.j3]
  · rw [if_neg h2, if_neg (fun h => h2 h.1)]
    simp only [impl_StStep.j3]
theorem step1p (k n : Nat) (hn : 1 ≤ n ∧ n ≤ 16) (l : List Int) (hl : l.length = 1 + n) (a : Int) (ha : 0 ≤ a ∧ a < n) (g : Nat) (hg : g ≤ 1000) (i : Int) (hi : 0 ≤ i ∧ i ≤ n) :
    impl_StStep.f (k + 5) (n : Int) l 1 a 0 1 0 0 ((g : Int) * 1048576 + i) 0 0 false = some (l.set (a + 1).toNat i, 1, a, 0, 2, 0, 0, (g : Int) * 1048576 + i, 0, 0, false, true) := by
  have h := act1p k n hn a ha g hg i hi
  have wl : wrap64 (1 + (n : Int)) = (l.length : Int) := by rw [w64 (by omega) (by omega)]; omega
  have wz : wrap64 ((1 : Int) + 1) = 2 := by rw [w64 (by omega) (by omega)]; rfl
  unfold impl_StStep.f
  rw [h]
  simp only [Option.bind_some, if_true, wl, bne_self_eq_false]
  simp only [impl_StStep.j0, Bool.false_eq_true, if_false]
  rw [DoStore l (by omega) (a + 1) i (by omega)]
  simp only [Option.bind_some, if_true, wz]
  simp [impl_StStep.j1, impl_StStep.j2, impl_StStep.j3]
theorem step1g (k n : Nat) (hn : 1 ≤ n ∧ n ≤ 16) (l : List Int) (hl : l.length = 1 + n) (g : Nat) (hg : g ≤ 1000) (i c : Int) (hi : 1 ≤ i ∧ i ≤ n) (hc : 0 ≤ c ∧ c ≤ n) (hr : rd l i = c) :
    impl_StStep.f (k + 5) (n : Int) l 2 0 0 1 0 0 ((g : Int) * 1048576 + i) 0 0 false = some (l, 2, 0, 0, 2, 0, c, (g : Int) * 1048576 + i, 0, 0, false, true) := by
  have h := act1g k n hn g hg i hi
  have wl : wrap64 (1 + (n : Int)) = (l.length : Int) := by rw [w64 (by omega) (by omega)]; omega
  have wz : wrap64 ((1 : Int) + 1) = 2 := by rw [w64 (by omega) (by omega)]; rfl
  have d2 : decide ((0 : Int) ≤ c ∧ c ≤ 1048575) = true := decide_eq_true (by omega)
  unfold impl_StStep.f
  rw [h]
  simp only [Option.bind_some, if_true, wl, bne_self_eq_false]
  simp only [impl_StStep.j0, Bool.false_eq_true, if_false]
  rw [DoLoad l (by omega) i (by omega), hr]
  simp only [Option.bind_some, if_true, wz]
  simp [impl_StStep.j1, impl_StStep.j2, impl_StStep.j3, within, d2]
theorem step2p (k n : Nat) (hn : 1 ≤ n ∧ n ≤ 16) (l : List Int) (hl : l.length = 1 + n) (a : Int) (ha : 0 ≤ a ∧ a < n) (g : Nat) (hg : g ≤ 1000) (i : Int) (hi : 0 ≤ i ∧ i ≤ n) (hr : rd l 0 = (g : Int) * 1048576 + i) :
    impl_StStep.f (k + 5) (n : Int) l 1 a 0 2 0 0 ((g : Int) * 1048576 + i) 0 0 false = some (l.set 0 (((g + 1 : Nat) : Int) * 1048576 + (a + 1)), 1, a, 0, 3, 0, 0, (g : Int) * 1048576 + i, 1, 0, true, true) := by
  have h := act2p k n hn a ha g hg i hi
  have wl : wrap64 (1 + (n : Int)) = (l.length : Int) := by rw [w64 (by omega) (by omega)]; omega
  have wz : wrap64 ((2 : Int) + 1) = 3 := by rw [w64 (by omega) (by omega)]; rfl
  unfold impl_StStep.f
  rw [h]
  simp only [Option.bind_some, if_true, wl, bne_self_eq_false]
  simp only [impl_StStep.j0, Bool.false_eq_true, if_false]
  rw [DoCas l (by omega) 0 _ _ (by omega) hr]
  simp only [Option.bind_some, if_true, wz]
  generalize (g : Int) * 1048576 + i = w
  generalize ((g + 1 : Nat) : Int) * 1048576 + (a + 1) = w'
  simp [impl_StStep.j1, impl_StStep.j2, impl_StStep.j3, impl_Call_end.f]
theorem step2g (k n : Nat) (hn : 1 ≤ n ∧ n ≤ 16) (l : List Int) (hl : l.length = 1 + n) (g : Nat) (hg : g ≤ 1000) (i c : Int) (hi : 1 ≤ i ∧ i ≤ n) (hc : 0 ≤ c ∧ c ≤ n) (hr : rd l 0 = (g : Int) * 1048576 + i) :
    impl_StStep.f (k + 5) (n : Int) l 2 0 0 2 0 c ((g : Int) * 1048576 + i) 0 0 false = some (l.set 0 (((g + 1 : Nat) : Int) * 1048576 + c), 2, 0, 0, 3, 0, c, (g : Int) * 1048576 + i, 1, i - 1, true, true) := by
  have h := act2g k n hn g hg i c hi hc
  have wl : wrap64 (1 + (n : Int)) = (l.length : Int) := by rw [w64 (by omega) (by omega)]; omega
  have wz : wrap64 ((2 : Int) + 1) = 3 := by rw [w64 (by omega) (by omega)]; rfl
  have ht := topS g hg i (by omega)
  unfold impl_StStep.f
  rw [h]
  simp only [Option.bind_some, if_true, wl, bne_self_eq_false]
  simp only [impl_StStep.j0, Bool.false_eq_true, if_false]
  rw [DoCas l (by omega) 0 _ _ (by omega) hr]
  simp only [Option.bind_some, if_true, wz]
  clear h hr
  generalize (g : Int) * 1048576 + i = w at ht ⊢
  generalize ((g + 1 : Nat) : Int) * 1048576 + c = w'
  simp [impl_StStep.j1, impl_StStep.j2, impl_StStep.j3, impl_Call_end.f, ht]
/-- The stack's items, as a chain. -/
def nx : List Int → Int
  | [] => 0
  | x :: _ => x + 1
def Ch (n : Nat) (l : List Int) : List Int → Prop
  | [] => True
  | x :: xs => (0 ≤ x ∧ x < (n : Int)) ∧ ¬ x ∈ xs ∧ rd l (x + 1) = nx xs ∧ Ch n l xs
def Inv (n g : Nat) (q mine l : List Int) : Prop :=
  l.length = 1 + n ∧ rd l 0 = (g : Int) * 1048576 + nx q ∧ Ch n l q ∧ mine.Nodup ∧ ∀ m ∈ mine, (0 ≤ m ∧ m < (n : Int)) ∧ ¬ m ∈ q
theorem rd_set (l : List Int) (i j v : Int) (hi : 0 ≤ i ∧ i < (l.length : Int)) (hj : 0 ≤ j) : rd (l.set i.toNat v) j = if i = j then v else rd l j := by
  obtain ⟨i, rfl⟩ := Int.eq_ofNat_of_zero_le hi.1
  obtain ⟨j, rfl⟩ := Int.eq_ofNat_of_zero_le hj
  rw [rd_nat, rd_nat, Int.toNat_natCast]
  simp only [List.getD, List.getElem?_set]
  by_cases e : i = j
  · subst e
    have : i < l.length := by omega
    simp [this]
  · rw [if_neg e, if_neg (by omega)]
theorem ch_range (n : Nat) (l : List Int) : ∀ q, Ch n l q → q.Nodup ∧ ∀ x ∈ q, 0 ≤ x ∧ x < (n : Int)
  | [], _ => ⟨List.nodup_nil, fun _ h => by cases h⟩
  | x :: xs, h => by
    obtain ⟨h1, h2, h3, h4⟩ := h
    obtain ⟨g1, g2⟩ := ch_range n l xs h4
    refine ⟨List.nodup_cons.2 ⟨h2, g1⟩, fun y hy => ?_⟩
    rcases List.mem_cons.1 hy with rfl | hy
    · exact h1
    · exact g2 y hy
theorem ch_len (n : Nat) (l q : List Int) (h : Ch n l q) : q.length ≤ n := pigeon n q (ch_range n l q h).1 (ch_range n l q h).2
theorem ch_set (n : Nat) (l : List Int) (i v : Int) (hi : 0 ≤ i ∧ i < (l.length : Int)) : ∀ q, Ch n l q → (∀ x ∈ q, i ≠ x + 1) → Ch n (l.set i.toNat v) q
  | [], _, _ => trivial
  | x :: xs, h, hne => by
    obtain ⟨h1, h2, h3, h4⟩ := h
    refine ⟨h1, h2, ?_, ch_set n l i v hi xs h4 (fun y hy => hne y (List.mem_cons_of_mem _ hy))⟩
    rw [rd_set l i (x + 1) v hi (by omega), if_neg (hne x List.mem_cons_self)]
    exact h3
theorem nx_range (n : Nat) (l q : List Int) (h : Ch n l q) : 0 ≤ nx q ∧ nx q ≤ (n : Int) := by
  cases q with
  | nil => exact ⟨Int.le_refl _, by show (0 : Int) ≤ n; omega⟩
  | cons x xs => obtain ⟨h1, -⟩ := h; exact ⟨by show 0 ≤ x + 1; omega, by show x + 1 ≤ (n : Int); omega⟩
theorem inv_pop (n g : Nat) (x : Int) (q mine l : List Int) (H : Inv n g (x :: q) mine l) : Inv n (g + 1) q (mine ++ [x]) (l.set 0 (((g + 1 : Nat) : Int) * 1048576 + nx q)) := by
  obtain ⟨h1, h2, ⟨h3, h4, h5, h6⟩, h7, h8⟩ := H
  have hr := (ch_range n l q h6).2
  refine ⟨by simpa using h1, ?_, ?_, ?_, ?_⟩
  · have := rd_set l 0 0 (((g + 1 : Nat) : Int) * 1048576 + nx q) (by omega) (by omega)
    rw [if_pos rfl] at this
    exact this
  · exact ch_set n l 0 _ (by omega) q h6 (fun y hy => by have := hr y hy; omega)
  · rw [List.nodup_append]
    refine ⟨h7, by simp, ?_⟩
    intro a ha b hb e
    rw [List.mem_singleton] at hb
    exact (h8 a ha).2 (by rw [e, hb]; exact List.mem_cons_self)
  · intro m hm
    rcases List.mem_append.1 hm with hm | hm
    · exact ⟨(h8 m hm).1, fun hq => (h8 m hm).2 (List.mem_cons_of_mem _ hq)⟩
    · rw [List.mem_singleton.1 hm]; exact ⟨h3, h4⟩
theorem inv_push (n g : Nat) (a : Int) (q mine l : List Int) (H : Inv n g q (mine ++ [a]) l) : Inv n (g + 1) (a :: q) mine ((l.set (a + 1).toNat (nx q)).set 0 (((g + 1 : Nat) : Int) * 1048576 + (a + 1))) := by
  obtain ⟨h1, h2, h3, h7, h8⟩ := H
  have hr := (ch_range n l q h3).2
  obtain ⟨ha, haq⟩ := h8 a (List.mem_append_right _ (List.mem_singleton_self _))
  rw [List.nodup_append] at h7
  refine ⟨by simpa using h1, ?_, ⟨ha, haq, ?_, ?_⟩, h7.1, ?_⟩
  · have := rd_set (l.set (a + 1).toNat (nx q)) 0 0 (((g + 1 : Nat) : Int) * 1048576 + (a + 1)) (by rw [List.length_set]; omega) (by omega)
    rw [if_pos rfl] at this
    exact this
  · have := rd_set (l.set (a + 1).toNat (nx q)) 0 (a + 1) (((g + 1 : Nat) : Int) * 1048576 + (a + 1)) (by rw [List.length_set]; omega) (by omega)
    rw [if_neg (by omega), rd_set l (a + 1) (a + 1) _ (by omega) (by omega), if_pos rfl] at this
    exact this
  · exact ch_set n _ 0 _ (by rw [List.length_set]; omega) q (ch_set n l (a + 1) _ (by omega) q h3 (fun y hy e => haq (by rw [show a = y by omega]; exact hy))) (fun y hy => by have := hr y hy; omega)
  · intro m hm
    obtain ⟨g1, g2⟩ := h8 m (List.mem_append_left _ hm)
    refine ⟨g1, fun hq => ?_⟩
    rcases List.mem_cons.1 hq with e | hq
    · exact h7.2.2 m hm a (List.mem_singleton_self _) e
    · exact g2 hq
/-- StItems tells the chain. -/
theorem Items_go (n : Nat) (hn : 1 ≤ n ∧ n ≤ 16) (l : List Int) (hl : l.length = 1 + n) : ∀ (q out : List Int) (k : Nat), Ch n l q → (∀ x ∈ q, ¬ x ∈ out) → out.length + q.length ≤ 100 → q.length ≤ 16 → 2 * q.length + 200 ≤ k → impl_StItems.l0 k (n : Int) out (nx q) true l = some (out ++ q)
  | [], out, k, _, _, _, _, hk => by
    obtain ⟨k, rfl⟩ : ∃ m, k = m + 2 := ⟨k - 2, by omega⟩
    simp [impl_StItems.l0, impl_StItems.j2, nx]
  | x :: q, out, k, h, hno, ho, hq, hk => by
    obtain ⟨h1, h2, h3, h4⟩ := h
    rw [List.length_cons] at hk hq ho
    obtain ⟨k, rfl⟩ : ∃ m, k = m + 2 := ⟨k - 2, by omega⟩
    have ih := Items_go n hn l hl q (out ++ [x]) k h4 (fun y hy hm => by
      rcases List.mem_append.1 hm with hm | hm
      · exact hno y (List.mem_cons_of_mem _ hy) hm
      · rw [List.mem_singleton] at hm; exact h2 (by rw [← hm]; exact hy)) (by rw [List.length_append, List.length_singleton]; omega) (by omega) (by omega)
    rw [show nx (x :: q) = x + 1 from rfl]
    simp only [impl_StItems.l0, impl_StItems.j2, if_true]
    have hb : (x + 1 != 0) = true := by rw [bne_iff_ne]; omega
    rw [if_pos hb, within, w64 (x := x + 1 - 1) (by omega) (by omega), show x + 1 - 1 = x by omega]
    simp only [Option.bind_some]
    rw [if_pos (decide_eq_true (by omega)), contains k x out (by omega) (by omega)]
    simp only [Option.bind_some]
    rw [if_neg (by simpa using hno x List.mem_cons_self), if_pos (by omega), if_pos (by omega), if_pos (by omega), h3, ih, List.append_assoc]
    rfl
theorem Items (n g : Nat) (q mine l : List Int) (hn : 1 ≤ n ∧ n ≤ 16) (hg : g ≤ 1000) (H : Inv n g q mine l) (k : Nat) (hk : 300 ≤ k) : impl_StItems.f k (n : Int) l = some q := by
  obtain ⟨h1, h2, h3, h7, h8⟩ := H
  obtain ⟨k, rfl⟩ : ∃ m, k = m + 1 := ⟨k - 1, by omega⟩
  have hx := nx_range n l q h3
  have hlen := ch_len n l q h3
  unfold impl_StItems.f
  simp only [Option.bind_some]
  rw [within]
  simp only [Option.bind_some]
  rw [if_pos (decide_eq_true (by omega)), w64 (by omega) (by omega)]
  simp only [impl_StItems.j0]
  rw [if_neg (by rw [bne_iff_ne]; omega), if_pos (by omega), h2, unp g hg (nx q) (by omega)]
  simp only [Option.bind_some]
  exact Items_go n hn l h1 q [] k h3 (fun _ _ h => by cases h) (by simp; omega) (by omega) (by omega)
/-- One round of the inner loop. -/
theorem loopS (k n : Nat) (q mine : List Int) (len j : Int) (picks l : List Int) (i : Int) (hi : i < 4) (c0 c1 c2 c3 c4 c5 c6 c7 c8 : Int) (l' : List Int) (e0 e1 e2 e3 e4 e5 e6 e7 e8 : Int) (e9 : Bool) (i' : Int) (hi' : wrap64 (i + 1) = i')
    (h : impl_StStep.f k (n : Int) l c0 c1 c2 c3 c4 c5 c6 c7 c8 false = some (l', e0, e1, e2, e3, e4, e5, e6, e7, e8, e9, true)) :
    laws_FnStackOne.l1 (k + 2) (n : Int) q mine i picks len j l c0 c1 c2 c3 c4 c5 c6 c7 c8 false = laws_FnStackOne.l1 k (n : Int) q mine i' picks len j l' e0 e1 e2 e3 e4 e5 e6 e7 e8 e9 := by
  simp only [laws_FnStackOne.l1, laws_FnStackOne.j5, if_pos hi, Bool.not_false, if_true]
  rw [h]
  simp only [Option.bind_some, if_true, hi']
/-- The end of a call. -/
theorem endS (k n g : Nat) (hn : 1 ≤ n ∧ n ≤ 16) (hg : g ≤ 1000) (q mine q' mine' : List Int) (len j : Int) (picks l : List Int) (i : Int) (c0 c1 c2 c3 c4 c5 c6 c7 c8 : Int) (j' : Int) (hj : wrap64 (j + 1) = j') (hk : 2000 ≤ k) (hq : q.length ≤ 100) (hm : mine.length ≤ 100) (H : Inv n g q' mine' l)
    (hc : (c0 = 1 ∧ q' = c1 :: q ∧ mine = mine' ++ [c1]) ∨ (c0 = 2 ∧ q = [] ∧ c7 = 2 ∧ q' = [] ∧ mine' = mine) ∨ (c0 = 2 ∧ q = c8 :: q' ∧ c7 = 1 ∧ mine' = mine ++ [c8])) :
    laws_FnStackOne.l1 (k + 3) (n : Int) q mine i picks len j l c0 c1 c2 c3 c4 c5 c6 c7 c8 true = laws_FnStackOne.l0 k (n : Int) q' mine' picks len j' l := by
  have hlen := ch_len n l q' H.2.2.1
  have hI := Items n g q' mine' l hn hg H k (by omega)
  have hS := same q' (by omega) k (by omega)
  have h5 : laws_FnStackOne.j6 (k + 1) (n : Int) q' mine' picks len j l = laws_FnStackOne.l0 k (n : Int) q' mine' picks len j' l := by
    simp only [laws_FnStackOne.j6]
    rw [hI]
    simp only [Option.bind_some]
    rw [hS]
    simp only [Option.bind_some, if_true, hj]
  rw [← h5]
  simp only [laws_FnStackOne.l1, Bool.not_true, ite_self, laws_FnStackOne.j5, Bool.false_eq_true, if_false, if_true]
  rcases hc with ⟨rfl, rfl, rfl⟩ | ⟨rfl, rfl, rfl, rfl, rfl⟩ | ⟨rfl, rfl, rfl, rfl⟩
  · have hlm : ((mine' ++ [c1]).length : Int) = (mine'.length : Int) + 1 := by rw [List.length_append, List.length_singleton]; omega
    have hw : wrap64 (((mine' ++ [c1]).length : Int) - 1) = (mine'.length : Int) := by rw [w64 (by omega) (by omega)]; omega
    rw [if_pos rfl, hw]
    simp only [Option.bind_some]
    rw [if_pos (by rw [List.length_singleton]; omega), if_pos (by omega), if_pos (by omega), Int.toNat_natCast, List.take_left]
    rfl
  · rw [if_neg (by omega), if_pos (by rfl), if_pos rfl]
  · rw [if_neg (by omega), if_neg (by rw [List.length_cons]; omega), if_pos rfl, if_pos (by rw [List.length_cons]; omega), if_pos (by rfl), if_pos (by omega), if_pos (by rw [List.length_cons]; omega)]
    rfl
theorem wj (j : Nat) (h : j ≤ 100) : wrap64 ((j : Int) + 1) = ((j + 1 : Nat) : Int) := by rw [w64 (by omega) (by omega)]; omega
theorem we0 : wrap64 ((0 : Int) + 1) = 1 := by rw [w64 (by omega) (by omega)]; rfl
theorem we1 : wrap64 ((1 : Int) + 1) = 2 := by rw [w64 (by omega) (by omega)]; rfl
theorem we2 : wrap64 ((2 : Int) + 1) = 3 := by rw [w64 (by omega) (by omega)]; rfl
/-- A whole push. -/
theorem pushS (k n g : Nat) (hn : 1 ≤ n ∧ n ≤ 16) (hg : g ≤ 999) (a : Int) (q mine l : List Int) (len : Int) (j : Nat) (hj : j ≤ 100) (picks : List Int) (hk : 2000 ≤ k) (hm : (mine ++ [a]).length ≤ 100) (H : Inv n g q (mine ++ [a]) l) :
    ∃ l', Inv n (g + 1) (a :: q) mine l' ∧ laws_FnStackOne.l1 (k + 9) (n : Int) q (mine ++ [a]) 0 picks len (j : Int) l 1 a 0 0 0 0 0 0 0 false = laws_FnStackOne.l0 k (n : Int) (a :: q) mine picks len ((j + 1 : Nat) : Int) l' := by
  have HN := inv_push n g a q mine l H
  obtain ⟨h1, h2, h3, h7, h8⟩ := H
  obtain ⟨ha, haq⟩ := h8 a (List.mem_append_right _ (List.mem_singleton_self _))
  have hx := nx_range n l q h3
  have hlen := ch_len n l q h3
  refine ⟨_, HN, ?_⟩
  have s0 := step0 (k + 2) n hn l h1 1 a (Or.inl ⟨rfl, ha⟩) g (by omega) (nx q) hx h2
  rw [if_neg (by omega)] at s0
  have L0 := loopS (k + 2 + 5) n q (mine ++ [a]) len (j : Int) picks l 0 (by omega) _ _ _ _ _ _ _ _ _ _ _ _ _ _ _ _ _ _ _ _ 1 we0 s0
  rw [show k + 9 = k + 2 + 5 + 2 by omega, L0]
  have s1 := step1p k n hn l h1 a ha g (by omega) (nx q) hx
  have L1 := loopS (k + 5) n q (mine ++ [a]) len (j : Int) picks l 1 (by omega) _ _ _ _ _ _ _ _ _ _ _ _ _ _ _ _ _ _ _ _ 2 we1 s1
  rw [show k + 2 + 5 = k + 5 + 2 by omega, L1]
  have hr2 : rd (l.set (a + 1).toNat (nx q)) 0 = (g : Int) * 1048576 + nx q := by
    rw [rd_set l (a + 1) 0 _ (by omega) (by omega), if_neg (by omega)]
    exact h2
  obtain ⟨k, rfl⟩ : ∃ m, k = m + 2 := ⟨k - 2, by omega⟩
  have s2 := step2p k n hn (l.set (a + 1).toNat (nx q)) (by simpa using h1) a ha g (by omega) (nx q) hx hr2
  have L2 := loopS (k + 5) n q (mine ++ [a]) len (j : Int) picks (l.set (a + 1).toNat (nx q)) 2 (by omega) _ _ _ _ _ _ _ _ _ _ _ _ _ _ _ _ _ _ _ _ 3 we2 s2
  rw [show k + 2 + 5 = k + 5 + 2 by omega, L2]
  exact endS (k + 2) n (g + 1) hn (by omega) q (mine ++ [a]) (a :: q) mine len (j : Int) picks _ 3 1 a 0 3 0 0 _ 1 0 _ (wj j hj) (by omega) (by omega) hm HN (Or.inl ⟨rfl, rfl, rfl⟩)
/-- A whole pop. -/
theorem popE (k n g : Nat) (hn : 1 ≤ n ∧ n ≤ 16) (hg : g ≤ 999) (mine l : List Int) (len : Int) (j : Nat) (hj : j ≤ 100) (picks : List Int) (hk : 2000 ≤ k) (hm : mine.length ≤ 99) (H : Inv n g [] mine l) :
    laws_FnStackOne.l1 (k + 9) (n : Int) [] mine 0 picks len (j : Int) l 2 0 0 0 0 0 0 0 0 false = laws_FnStackOne.l0 (k + 4) (n : Int) [] mine picks len ((j + 1 : Nat) : Int) l := by
  have HH := H
  obtain ⟨h1, h2, h3, h7, h8⟩ := H
  have s0 := step0 (k + 2) n hn l h1 2 0 (Or.inr rfl) g (by omega) (nx []) (by show (0 : Int) ≤ 0 ∧ (0 : Int) ≤ n; omega) h2
  rw [if_pos ⟨rfl, rfl⟩] at s0
  have L0 := loopS (k + 2 + 5) n [] mine len (j : Int) picks l 0 (by omega) _ _ _ _ _ _ _ _ _ _ _ _ _ _ _ _ _ _ _ _ 1 we0 s0
  rw [show k + 9 = k + 2 + 5 + 2 by omega, L0]
  exact endS (k + 4) n g hn (by omega) [] mine [] mine len (j : Int) picks l 1 2 0 0 1 0 0 _ 2 0 _ (wj j hj) (by omega) (by simp) (by omega) HH (Or.inr (Or.inl ⟨rfl, rfl, rfl, rfl, rfl⟩))
theorem popS (k n g : Nat) (hn : 1 ≤ n ∧ n ≤ 16) (hg : g ≤ 999) (x : Int) (q mine l : List Int) (len : Int) (j : Nat) (hj : j ≤ 100) (picks : List Int) (hk : 2000 ≤ k) (hm : mine.length ≤ 99) (H : Inv n g (x :: q) mine l) :
    laws_FnStackOne.l1 (k + 9) (n : Int) (x :: q) mine 0 picks len (j : Int) l 2 0 0 0 0 0 0 0 0 false = laws_FnStackOne.l0 k (n : Int) q (mine ++ [x]) picks len ((j + 1 : Nat) : Int) (l.set 0 (((g + 1 : Nat) : Int) * 1048576 + nx q)) := by
  have HN := inv_pop n g x q mine l H
  obtain ⟨h1, h2, h3, h7, h8⟩ := H
  have hlen := ch_len n l (x :: q) h3
  obtain ⟨hx, hxq, hxn, h4⟩ := h3
  have hc := nx_range n l q h4
  have e1 : nx (x :: q) = x + 1 := rfl
  rw [e1] at h2
  have s0 := step0 (k + 2) n hn l h1 2 0 (Or.inr rfl) g (by omega) (x + 1) (by omega) h2
  rw [if_neg (by omega)] at s0
  have L0 := loopS (k + 2 + 5) n (x :: q) mine len (j : Int) picks l 0 (by omega) _ _ _ _ _ _ _ _ _ _ _ _ _ _ _ _ _ _ _ _ 1 we0 s0
  rw [show k + 9 = k + 2 + 5 + 2 by omega, L0]
  have s1 := step1g k n hn l h1 g (by omega) (x + 1) (nx q) (by omega) hc hxn
  have L1 := loopS (k + 5) n (x :: q) mine len (j : Int) picks l 1 (by omega) _ _ _ _ _ _ _ _ _ _ _ _ _ _ _ _ _ _ _ _ 2 we1 s1
  rw [show k + 2 + 5 = k + 5 + 2 by omega, L1]
  obtain ⟨k, rfl⟩ : ∃ m, k = m + 2 := ⟨k - 2, by omega⟩
  have s2 := step2g k n hn l h1 g (by omega) (x + 1) (nx q) (by omega) hc h2
  rw [show x + 1 - 1 = x by omega] at s2
  have L2 := loopS (k + 5) n (x :: q) mine len (j : Int) picks l 2 (by omega) _ _ _ _ _ _ _ _ _ _ _ _ _ _ _ _ _ _ _ _ 3 we2 s2
  rw [show k + 2 + 5 = k + 5 + 2 by omega, L2]
  exact endS (k + 2) n (g + 1) hn (by omega) (x :: q) mine q (mine ++ [x]) len (j : Int) picks _ 3 2 0 0 3 0 (nx q) _ 1 x _ (wj j hj) (by omega) (by omega) (by omega) HN (Or.inr (Or.inr ⟨rfl, rfl, rfl, rfl⟩))
theorem main_go (X : Nat → Nat) (hX : ∀ d, X d + 20 ≤ X (d + 1)) (hX0 : ∀ d, 2100 ≤ X d) (n : Nat) (hn : 1 ≤ n ∧ n ≤ 16) (picks : List Int) (hp : picks.length ≤ 24) (d : Nat) : ∀ (j g : Nat) (q mine l : List Int), picks.length - j = d → j ≤ picks.length → g ≤ j → mine.length ≤ j → Inv n g q mine l → ∀ k, X d ≤ k → laws_FnStackOne.l0 k (n : Int) q mine picks (picks.length : Int) (j : Int) l = some true := by
  induction d with
  | zero =>
    intro j g q mine l hd hj hg hm H k hk
    have hX0d := hX0 0
    obtain ⟨k, rfl⟩ : ∃ m, k = m + 1 := ⟨k - 1, by omega⟩
    simp only [laws_FnStackOne.l0]
    rw [if_neg (by omega)]
  | succ d ih =>
    intro j g q mine l hd hj hg hm H kk hk
    have hXd := hX d
    have hX0d := hX0 d
    obtain ⟨k, hm0⟩ : ∃ m, kk = m + 20 := ⟨kk - 20, by omega⟩
    have hk2 : X d ≤ k := by omega
    have hk3 : 2100 ≤ k := by omega
    clear hk hXd hX0d
    subst hm0
    have hkX : ∀ i, X d ≤ k + i := fun i => Nat.le_trans hk2 (Nat.le_add_right _ _)
    have POP : laws_FnStackOne.l1 (k + 17) (n : Int) q mine 0 picks (picks.length : Int) (j : Int) l 2 0 0 0 0 0 0 0 0 false = some true := by
      cases q with
      | nil =>
        rw [show k + 17 = k + 8 + 9 by omega, popE (k + 8) n g hn (by omega) mine l (picks.length : Int) j (by omega) picks (by omega) (by omega) H]
        exact ih (j + 1) g [] mine l (by omega) (by omega) (by omega) (by omega) H _ (hkX 12)
      | cons x q =>
        rw [show k + 17 = k + 8 + 9 by omega, popS (k + 8) n g hn (by omega) x q mine l (picks.length : Int) j (by omega) picks (by omega) (by omega) H]
        exact ih (j + 1) (g + 1) q (mine ++ [x]) _ (by omega) (by omega) (by omega) (by rw [List.length_append, List.length_singleton]; omega) (inv_pop n g x q mine l H) _ (hkX 8)
    simp only [laws_FnStackOne.l0]
    rw [if_pos (by omega), if_pos (by omega), if_pos (by omega)]
    simp only [impl_StCall.f, Option.bind_some, if_true, show ¬ ((2 : Int) = 1) by omega, if_false]
    by_cases hpar : Int.tmod (rd picks (j : Int)) 2 = 0
    · rw [if_pos hpar]
      by_cases hmz : (mine.length : Int) > 0
      · obtain ⟨a, m0, rfl⟩ : ∃ (a : Int) (m0 : List Int), mine = m0 ++ [a] := by
          refine ⟨mine.getLast (by intro h; subst h; simp at hmz), mine.dropLast, ?_⟩
          exact (List.dropLast_concat_getLast _).symm
        have hlm : ((m0 ++ [a]).length : Int) = (m0.length : Int) + 1 := by rw [List.length_append, List.length_singleton]; omega
        have hw : wrap64 (((m0 ++ [a]).length : Int) - 1) = (m0.length : Int) := by rw [w64 (by omega) (by omega)]; omega
        have hrd : rd (m0 ++ [a]) (m0.length : Int) = a := by rw [rd_nat]; simp [List.getD]
        simp only [decide_eq_true hmz, laws_FnStackOne.j2, if_true]
        rw [hw, if_pos (by omega), if_pos (by omega), hrd]
        simp only [laws_FnStackOne.j3, impl_StCall.f, Option.bind_some, if_true]
        obtain ⟨l', HN, E⟩ := pushS (k + 8) n g hn (by omega) a q m0 l (picks.length : Int) j (by omega) picks (by omega) (by omega) H
        rw [show k + 17 = k + 8 + 9 by omega, E]
        exact ih (j + 1) (g + 1) (a :: q) m0 l' (by omega) (by omega) (by omega) (by omega) HN _ (hkX 8)
      · simp only [decide_eq_false hmz, laws_FnStackOne.j2, Bool.false_eq_true, if_false, laws_FnStackOne.j3]
        exact POP
    · rw [if_neg hpar]
      simp only [laws_FnStackOne.j2, Bool.false_eq_true, if_false, laws_FnStackOne.j3]
      exact POP
theorem StNew (n : Nat) (hn : n = 1 ∨ n = 2 ∨ n = 3 ∨ n = 4 ∨ n = 5) : ∃ q l, q.length = n ∧ Inv n 0 q [] l ∧ ∀ k, 10 ≤ k → impl_StNew.f k (n : Int) true = some (l, true) := by
  have W : ∀ x : Int, 0 ≤ x → x ≤ 100 → wrap64 x = x := fun x h1 h2 => w64 (by omega) (by omega)
  have T : ∀ (n : Nat) (q l : List Int), l.length = 1 + n → rd l 0 = nx q → Ch n l q → Inv n 0 q [] l := fun n q l h1 h2 h3 => ⟨h1, by rw [h2]; omega, h3, List.nodup_nil, fun m hm => by cases hm⟩
  rcases hn with rfl | rfl | rfl | rfl | rfl
  · refine ⟨[0], [1, 0], rfl, T _ _ _ rfl rfl ⟨by omega, by simp, rfl, trivial⟩, fun k hk => ?_⟩
    obtain ⟨k, rfl⟩ : ∃ m, k = m + 10 := ⟨k - 10, by omega⟩
    simp [impl_StNew.f, within, impl_StNew.l0, W, List.replicate]
  · refine ⟨[0, 1], [1, 2, 0], rfl, T _ _ _ rfl rfl ⟨by omega, by simp, rfl, by omega, by simp, rfl, trivial⟩, fun k hk => ?_⟩
    obtain ⟨k, rfl⟩ : ∃ m, k = m + 10 := ⟨k - 10, by omega⟩
    simp [impl_StNew.f, within, impl_StNew.l0, W, List.replicate]
  · refine ⟨[0, 1, 2], [1, 2, 3, 0], rfl, T _ _ _ rfl rfl ⟨by omega, by simp, rfl, by omega, by simp, rfl, by omega, by simp, rfl, trivial⟩, fun k hk => ?_⟩
    obtain ⟨k, rfl⟩ : ∃ m, k = m + 10 := ⟨k - 10, by omega⟩
    simp [impl_StNew.f, within, impl_StNew.l0, W, List.replicate]
  · refine ⟨[0, 1, 2, 3], [1, 2, 3, 4, 0], rfl, T _ _ _ rfl rfl ⟨by omega, by simp, rfl, by omega, by simp, rfl, by omega, by simp, rfl, by omega, by simp, rfl, trivial⟩, fun k hk => ?_⟩
    obtain ⟨k, rfl⟩ : ∃ m, k = m + 10 := ⟨k - 10, by omega⟩
    simp [impl_StNew.f, within, impl_StNew.l0, W, List.replicate]
  · refine ⟨[0, 1, 2, 3, 4], [1, 2, 3, 4, 5, 0], rfl, T _ _ _ rfl rfl ⟨by omega, by simp, rfl, by omega, by simp, rfl, by omega, by simp, rfl, by omega, by simp, rfl, by omega, by simp, rfl, trivial⟩, fun k hk => ?_⟩
    obtain ⟨k, rfl⟩ : ∃ m, k = m + 10 := ⟨k - 10, by omega⟩
    simp [impl_StNew.f, within, impl_StNew.l0, W, List.replicate]


theorem FnStackOne : laws_FnStackOne.Pure := by
  intro l _ _ _
  by_cases hl : l.length ≤ 1048576
  · obtain ⟨v, v1, v2, hv⟩ := MakeNumS l hl 5 (by omega) (by omega)
    obtain ⟨picks, p1, _, hp⟩ := MakePicks l hl 20 (by omega) (by omega)
    obtain ⟨n, hn⟩ : ∃ n : Nat, (n : Int) = 1 + v := ⟨(1 + v).toNat, by omega⟩
    obtain ⟨q, m, hq, hm1, hm2⟩ := StNew n (by omega)
    obtain ⟨K, hK⟩ : ∃ K : Nat, 1048600 ≤ K := ⟨1048600, Nat.le_refl _⟩
    refine ⟨K + 1, ?_⟩
    unfold laws_FnStackOne.f
    rw [if_neg (by omega), hv (K + 1) (by omega)]
    simp only [Option.bind_some]
    rw [w64 (x := 1 + v) (by omega) (by omega), ← hn, hm2 (K + 1) (by omega)]
    simp only [Option.bind_some, if_true]
    rw [Items n 0 q [] m (by omega) (by omega) hm1 (K + 1) (by omega)]
    simp only [Option.bind_some, laws_FnStackOne.j0]
    rw [if_neg (by rw [hq, bne_iff_ne]; exact fun h => h rfl), hp K (by omega)]
    simp only [Option.bind_some]
    exact main_go (fun d => d * 20 + 2100) (fun d => by show d * 20 + 2100 + 20 ≤ (d + 1) * 20 + 2100; rw [Nat.succ_mul]; omega) (fun d => Nat.le_add_left _ _) n (by omega) picks (by omega) picks.length 0 0 q [] m (by omega) (Nat.zero_le _) (Nat.le_refl _) (Nat.le_refl _) hm1 K (by show picks.length * 20 + 2100 ≤ K; omega)
  · refine ⟨0, ?_⟩
    unfold laws_FnStackOne.f
    rw [if_pos (by omega)]

end Go.Proofs.Ytfahmmlkcmadeaa.Pure
