/- The law FnListOne answers true whatever its arguments hold: the program's function and the reference's come to the same, and no list of an answer is shared. No condition. -/
import Derived.Test.YtjikobdblohphaaPFnListOnex9
namespace Go.Proofs.Ytjikobdblohphaa.Pure
open Go.RowKit Go.Proofs.Ytjikobdblohphaa.PFnListOne Go.Proofs.YtjikobdblohphaaW.PrintWords Go.Proofs.YtjikobdblohphaaW.PrintLast
set_option linter.unusedSimpArgs false
set_option linter.unusedVariables false

/-! Small facts. -/
theorem w64 {x : Int} (h0 : -9223372036854775808 ≤ x) (h1 : x ≤ 9223372036854775807) : wrap64 x = x := by unfold wrap64; omega
theorem rd_nat (l : List Int) (j : Nat) : rd l (j : Int) = l.getD j 0 := by simp [rd]
/-- The numbers from m on, n of them. -/
def marked (m : Int) (n : Nat) : List Int := (List.range n).map fun (i : Nat) => m + (i : Int)
theorem marked_len (m : Int) (n : Nat) : (marked m n).length = n := by simp [marked]
theorem marked_get (m : Int) (n j : Nat) (h : j < n) : (marked m n).getD j 0 = m + j := by simp [marked, List.getD, h]
theorem neg1 (n : Nat) : ((1 : Int) + (n : Int) < 0) = False := by simp only [eq_iff_iff, iff_false]; omega
theorem neg0 : ((-1 : Int) < 0) = True := by simp
theorem i64r {n : Int} (h : (Lit.int .i64 n).wf = true) : -9223372036854775808 ≤ n ∧ n ≤ 9223372036854775807 := by
  have e1 : IntKind.i64.min = -9223372036854775808 := by decide
  have e2 : IntKind.i64.max = 9223372036854775807 := by decide
  simp only [Lit.wf, Bool.and_eq_true, decide_eq_true_eq, e1, e2] at h
  exact h

theorem within (a lo hi : Int) : impl_within.f a lo hi = some (decide (lo ≤ a ∧ a ≤ hi)) := by
  unfold impl_within.f
  by_cases h : a ≥ lo
  · rw [if_pos h]
    have h' : lo ≤ a := h
    simp [h']
  · rw [if_neg h]
    have h' : ¬ lo ≤ a := h
    simp [h']

/-! Made numbers. -/
theorem and255 (x : Int) : ∃ n : Nat, n ≤ 255 ∧ Go.bits .and .i64 x 255 = (n : Int) := by
  refine ⟨((BitVec.ofInt 64 x) &&& (BitVec.ofInt 64 255)).toNat, ?_, ?_⟩
  · rw [BitVec.toNat_and, show (BitVec.ofInt 64 255).toNat = 255 from by decide]
    exact Nat.and_le_right
  · have h : Go.bits .and .i64 x 255 = IntKind.i64.wrap (((BitVec.ofInt 64 x) &&& (BitVec.ofInt 64 255)).toNat : Int) := rfl
    have hb : ((BitVec.ofInt 64 x) &&& (BitVec.ofInt 64 255)).toNat ≤ 255 := by
      rw [BitVec.toNat_and, show (BitVec.ofInt 64 255).toNat = 255 from by decide]
      exact Nat.and_le_right
    rw [h, IntKind.wrap_i64]
    omega
theorem xorN (x y : Nat) (hx : x < 2 ^ 32) (hy : y < 2 ^ 32) : ∃ n : Nat, n < 2 ^ 32 ∧ Go.bits .xor .i64 (x : Int) (y : Int) = (n : Int) := by
  refine ⟨x ^^^ y, Nat.xor_lt_two_pow hx hy, ?_⟩
  have h : Go.bits .xor .i64 (x : Int) (y : Int) = IntKind.i64.wrap (((BitVec.ofInt 64 (x : Int)) ^^^ (BitVec.ofInt 64 (y : Int))).toNat : Int) := rfl
  have e : ((BitVec.ofInt 64 (x : Int)) ^^^ (BitVec.ofInt 64 (y : Int))).toNat = x ^^^ y := by
    rw [BitVec.toNat_xor, BitVec.ofInt_natCast, BitVec.ofInt_natCast, BitVec.toNat_ofNat, BitVec.toNat_ofNat, Nat.mod_eq_of_lt (by omega), Nat.mod_eq_of_lt (by omega)]
  have hb := Nat.xor_lt_two_pow hx hy
  rw [h, e, IntKind.wrap_i64]
  omega
theorem l01Byte (l : List Int) (p : Int) (s : Int) (hp : 0 ≤ p) (hp2 : p ≤ 1000000000) : ∃ b p' s' : Int, 0 ≤ b ∧ b ≤ 255 ∧ 0 ≤ p' ∧ p' ≤ p + 1 ∧ spec_l01Byte.f l p s = some (b, p', s') := by
  unfold spec_l01Byte.f
  by_cases h : p < (l.length : Int)
  · rw [if_pos h, if_pos hp]
    obtain ⟨n, hn, e⟩ := and255 (wrap64 ((Go.bits .and .i64 (Go.bits .xor .i64 ((wrap64 ((wrap64 (s * 6364136223846793005)) + 1442695040888963407)) / 8589934592) ((wrap64 ((wrap64 (s * 6364136223846793005)) + 1442695040888963407)) / 35184372088832)) 255) + (wrap64 (rd l p))))
    rw [e, w64 (x := p + 1) (by omega) (by omega)]
    exact ⟨_, _, _, by omega, by omega, by omega, by omega, rfl⟩
  · rw [if_neg h]
    obtain ⟨n, hn, e⟩ := and255 (Go.bits .xor .i64 ((wrap64 ((wrap64 (s * 6364136223846793005)) + 1442695040888963407)) / 8589934592) ((wrap64 ((wrap64 (s * 6364136223846793005)) + 1442695040888963407)) / 35184372088832))
    rw [e]
    exact ⟨_, _, _, by omega, by omega, hp, by omega, rfl⟩
theorem l01New_go (l : List Int) (hl : l.length ≤ 1048576) (d : Nat) : ∀ (j : Nat) (v : Int), l.length - j = d → j ≤ l.length → ∃ s, ∀ k, d < k → spec_l01New.l0 k l v (j : Int) = some (l, 0, s) := by
  induction d with
  | zero =>
    intro j v hd hj
    refine ⟨v, fun k hk => ?_⟩
    obtain ⟨k, rfl⟩ : ∃ m, k = m + 1 := ⟨k - 1, by omega⟩
    simp only [spec_l01New.l0]
    rw [if_neg (by omega)]
  | succ d ih =>
    intro j v hd hj
    by_cases h : (j : Int) < 4000
    · obtain ⟨s, hs⟩ := ih (j + 1) (Go.bits .and .i64 (wrap64 ((wrap64 ((wrap64 (v * 179)) + (wrap64 (rd l (j : Int))))) + 7)) 1073741823) (by omega) (by omega)
      refine ⟨s, fun k hk => ?_⟩
      obtain ⟨k, rfl⟩ : ∃ m, k = m + 1 := ⟨k - 1, by omega⟩
      simp only [spec_l01New.l0]
      rw [if_pos (by omega), if_pos h, if_pos (by omega), w64 (x := (j : Int) + 1) (by omega) (by omega), show (j : Int) + 1 = ((j + 1 : Nat) : Int) by omega]
      exact hs k (by omega)
    · refine ⟨v, fun k hk => ?_⟩
      obtain ⟨k, rfl⟩ : ∃ m, k = m + 1 := ⟨k - 1, by omega⟩
      simp only [spec_l01New.l0]
      rw [if_pos (by omega), if_neg h]
theorem l01BelowS (l : List Int) (p s m : Int) (hp : 0 ≤ p) (hp2 : p ≤ 1000000000) (hm : 1 ≤ m) (hm2 : m ≤ 256) : ∃ b p' s' : Int, 0 ≤ b ∧ b < m ∧ 0 ≤ p' ∧ p' ≤ p + 1 ∧ spec_l01Below.f l p s m = some (b, p', s') := by
  obtain ⟨b1, p1, s1, h1, h2, h3, h4, e1⟩ := l01Byte l p s hp hp2
  unfold spec_l01Below.f
  rw [if_neg (by omega), if_pos (by omega), e1]
  simp only [Option.bind_some]
  rw [if_neg (by omega), Int.tmod_eq_emod_of_nonneg h1]
  exact ⟨_, _, _, Int.emod_nonneg _ (by omega), Int.emod_lt_of_pos _ (by omega), h3, h4, rfl⟩
theorem Picks_go (l : List Int) (n : Nat) : ∀ (out : List Int) (p s : Int), 0 ≤ p → p + n ≤ 1000000 → out.length + n ≤ 1000 → (∀ x ∈ out, 0 ≤ x ∧ x < 12) → ∃ (r : List Int) (p' s' : Int), r.length = out.length + n ∧ (∀ x ∈ r, 0 ≤ x ∧ x < 12) ∧ ∀ k, n < k → spec_l07Picks.l0 k out (n : Int) l p s = some (r, p', s') := by
  induction n with
  | zero =>
    intro out p s hp hp2 ho hx
    refine ⟨out, p, s, rfl, hx, fun k hk => ?_⟩
    obtain ⟨k, rfl⟩ : ∃ m, k = m + 1 := ⟨k - 1, by omega⟩
    simp only [spec_l07Picks.l0]
    rw [if_neg (by omega)]
  | succ n ih =>
    intro out p s hp hp2 ho hx
    obtain ⟨b, p1, s1, h1, h2, h3, h4, e⟩ := l01BelowS l p s 12 hp (by omega) (by omega) (by omega)
    obtain ⟨r, p', s', r1, r2, r3⟩ := ih (out ++ [b]) p1 s1 h3 (by omega) (by simp; omega) (fun x hxx => by
      rcases List.mem_append.1 hxx with g | g
      · exact hx x g
      · obtain rfl := List.mem_singleton.1 g
        exact ⟨h1, h2⟩)
    refine ⟨r, p', s', by rw [r1]; simp; omega, r2, fun k hk => ?_⟩
    obtain ⟨k, rfl⟩ : ∃ m, k = m + 1 := ⟨k - 1, by omega⟩
    simp only [spec_l07Picks.l0]
    rw [if_pos (by omega), e]
    simp only [Option.bind_some]
    rw [if_pos (by omega), w64 (by omega) (by omega), show ((n + 1 : Nat) : Int) - 1 = (n : Int) by omega]
    exact r3 k (by omega)
theorem MakePicks (l : List Int) (hl : l.length ≤ 1048576) (m : Int) (hm : 1 ≤ m) (hm2 : m ≤ 200) : ∃ r : List Int, (r.length : Int) ≤ m ∧ (∀ x ∈ r, 0 ≤ x ∧ x < 12) ∧ ∀ k, 1048577 ≤ k → spec_MakePicks.f k l m = some r := by
  obtain ⟨s, hs⟩ := l01New_go l hl l.length 0 (wrap64 (774119 + (l.length : Int))) (by omega) (Nat.zero_le _)
  obtain ⟨b, p', s', h1, h2, h3, h4, e⟩ := l01BelowS l 0 (wrap64 (s + 222)) (m + 1) (by omega) (by omega) (by omega) (by omega)
  obtain ⟨n, rfl⟩ : ∃ n : Nat, b = (n : Int) := ⟨b.toNat, by omega⟩
  obtain ⟨r, p2, s2, r1, r2, r3⟩ := Picks_go l n [] p' s' h3 (by omega) (by simp; omega) (fun x hx => by cases hx)
  refine ⟨r, by rw [r1]; simp; omega, r2, fun k hk => ?_⟩
  unfold spec_MakePicks.f spec_l01New.f
  have h0 : spec_l01New.l0 k l (wrap64 (774119 + (l.length : Int))) 0 = _ := hs k (by omega)
  rw [h0]
  simp only [Option.bind_some]
  unfold spec_l07Picks.f
  rw [w64 (x := m + 1) (by omega) (by omega), e]
  simp only [Option.bind_some]
  rw [r3 k (by omega)]
  rfl

/-! Whether a number is in a list. -/
theorem getD_drop (l : List Int) (j : Nat) (h : j < l.length) : l.drop j = l.getD j 0 :: l.drop (j + 1) := by
  rw [List.drop_eq_getElem_cons h]; simp [List.getD, h]

theorem pigeon : ∀ (n : Nat) (l : List Int), l.Nodup → (∀ x ∈ l, 0 ≤ x ∧ x < n) → l.length ≤ n := by
  intro n
  induction n with
  | zero =>
    intro l _ h
    cases l with
    | nil => simp
    | cons a t => exact absurd (h a (List.mem_cons_self)) (by omega)
  | succ n ih =>
    intro l hn h
    have h1 := ih (l.erase (n : Int)) (hn.erase _) (fun x hx => by
      have := h x (List.mem_of_mem_erase hx)
      have hne : x ≠ (n : Int) := fun e => by
        subst e
        exact absurd hx (by rw [hn.mem_erase_iff]; simp)
      omega)
    by_cases hm : (n : Int) ∈ l
    · rw [List.length_erase_of_mem hm] at h1; omega
    · rw [List.erase_of_not_mem hm] at h1; omega

theorem copyInts (l : List Int) (hl : l.length ≤ 1048576) : impl_copyInts.f l = some l := by
  unfold impl_copyInts.f
  rw [if_pos (by rw [List.length_nil]; omega)]; rfl
theorem ActOkT (l : List Int) (hl : l.length ≤ 300) (kd at_ a b : Int) (hk : 1 ≤ kd ∧ kd ≤ 4) (ha : 0 ≤ at_ ∧ at_ < (l.length : Int)) (h1 : kd = 1 → a = 0) (h3 : kd ≠ 3 → b = 0) : impl_ActOk.f l kd at_ a b = some true := by
  unfold impl_ActOk.f
  rw [within, within]
  simp only [Option.bind_some]
  rw [w64 (by omega) (by omega), if_pos (decide_eq_true (by omega)), if_pos (decide_eq_true (by omega)), if_neg (by omega)]
  by_cases e1 : kd = 1
  · rw [if_pos e1, if_pos (h1 e1), if_neg (by omega)]
    have := h3 (by omega)
    simp [this]
  · rw [if_neg e1]
    by_cases e3 : kd = 3
    · rw [if_pos e3]
    · rw [if_neg e3]
      have := h3 e3
      simp [this]
theorem copyMem (l : List Int) (hl : l.length ≤ 300) : impl_copyMem.f l = some l := by
  unfold impl_copyMem.f
  rw [copyInts l (by omega)]
  rfl
theorem DoLoad (l : List Int) (hl : l.length ≤ 300) (at_ : Int) (ha : 0 ≤ at_ ∧ at_ < (l.length : Int)) : impl_Do.f l 1 at_ 0 0 = some (l, rd l at_, true) := by
  unfold impl_Do.f
  rw [ActOkT l hl 1 at_ 0 0 (by omega) ha (fun _ => rfl) (fun _ => rfl)]
  simp only [Option.bind_some, if_true]
  rw [copyMem l hl]
  simp only [Option.bind_some]
  rw [if_pos (by omega), if_pos (by omega)]
theorem DoStore (l : List Int) (hl : l.length ≤ 300) (at_ v : Int) (ha : 0 ≤ at_ ∧ at_ < (l.length : Int)) : impl_Do.f l 2 at_ v 0 = some (l.set at_.toNat v, 0, true) := by
  unfold impl_Do.f
  rw [ActOkT l hl 2 at_ v 0 (by omega) ha (fun h => by omega) (fun _ => rfl)]
  simp only [Option.bind_some, if_true]
  rw [copyMem l hl]
  simp only [Option.bind_some]
  rw [if_pos (by omega), if_pos (by omega), if_neg (by omega), if_pos (by omega)]
theorem DoCas (l : List Int) (hl : l.length ≤ 300) (at_ a b : Int) (ha : 0 ≤ at_ ∧ at_ < (l.length : Int)) (hr : rd l at_ = a) : impl_Do.f l 3 at_ a b = some (l.set at_.toNat b, 1, true) := by
  unfold impl_Do.f
  rw [ActOkT l hl 3 at_ a b (by omega) ha (fun h => by omega) (fun h => absurd rfl h)]
  simp only [Option.bind_some, if_true]
  rw [copyMem l hl]
  simp only [Option.bind_some]
  rw [if_pos (by omega), if_pos (by omega), if_neg (by omega), if_neg (by omega), if_pos hr, if_pos (by omega)]

theorem same_go (x : List Int) (hx : x.length ≤ 1000) (d : Nat) : ∀ (k j : Nat), x.length - j = d → j ≤ x.length → d < k → laws_sameInts.l0 k x x (x.length : Int) (j : Int) = some true := by
  induction d with
  | zero =>
    intro k j hd hj hk
    obtain ⟨k, rfl⟩ : ∃ m, k = m + 1 := ⟨k - 1, by omega⟩
    simp only [laws_sameInts.l0]
    rw [if_neg (by omega)]
  | succ d ih =>
    intro k j hd hj hk
    obtain ⟨k, rfl⟩ : ∃ m, k = m + 1 := ⟨k - 1, by omega⟩
    simp only [laws_sameInts.l0]
    rw [if_pos (by omega), if_pos (by omega), if_pos (by omega), if_pos (by omega), if_pos trivial, w64 (by omega) (by omega)]
    exact ih k (j + 1) (by omega) (by omega) (by omega)
theorem same (x : List Int) (hx : x.length ≤ 1000) (k : Nat) (hk : 1001 ≤ k) : laws_sameInts.f k x x = some true := by
  unfold laws_sameInts.f
  rw [if_pos rfl]
  exact same_go x hx x.length k 0 (by omega) (Nat.zero_le _) (by omega)

theorem Index_go (x : Int) (l : List Int) (hl : l.length ≤ 1048576) (d : Nat) : ∀ (k j : Nat), l.length - j = d → j ≤ l.length → d < k → ∃ i : Int, slices_Index_int_int.l0 k l x (l.length : Int) (j : Int) = some i ∧ (0 ≤ i ↔ x ∈ l.drop j) := by
  induction d with
  | zero =>
    intro k j hd hj hk
    obtain ⟨k, rfl⟩ : ∃ m, k = m + 1 := ⟨k - 1, by omega⟩
    simp only [slices_Index_int_int.l0]
    rw [if_neg (by omega), List.drop_eq_nil_of_le (by omega)]
    exact ⟨-1, rfl, by simp⟩
  | succ d ih =>
    intro k j hd hj hk
    obtain ⟨k, rfl⟩ : ∃ m, k = m + 1 := ⟨k - 1, by omega⟩
    simp only [slices_Index_int_int.l0]
    rw [if_pos (by omega), if_pos (by omega), if_pos (by omega), rd_nat, w64 (by omega) (by omega), getD_drop l j (by omega)]
    by_cases h : x = l.getD j 0
    · rw [if_pos h]
      exact ⟨_, rfl, by rw [List.mem_cons]; exact ⟨fun _ => Or.inl h, fun _ => by omega⟩⟩
    · obtain ⟨i, h1, h2⟩ := ih k (j + 1) (by omega) (by omega) (by omega)
      rw [if_neg h, show (j : Int) + 1 = ((j + 1 : Nat) : Int) by omega, h1]
      exact ⟨i, rfl, by rw [h2, List.mem_cons]; exact ⟨Or.inr, fun hh => hh.resolve_left h⟩⟩
theorem Index (x : Int) (l : List Int) (hl : l.length ≤ 1048576) : ∃ i : Int, slices_Index_int_int.f (l.length + 2) l x = some i ∧ (0 ≤ i ↔ x ∈ l) := by
  have := Index_go x l hl l.length (l.length + 2) 0 (by omega) (by omega) (by omega)
  simpa [slices_Index_int_int.f] using this

/-! A sorted list with marks, one call after the other. -/
def bit (b : Bool) : Int := if b then 1 else 0
theorem bit_t : bit true = 1 := rfl
theorem bit_f : bit false = 0 := rfl
theorem bit_r (b : Bool) : 0 ≤ bit b ∧ bit b ≤ 1 := by cases b <;> simp [bit]
theorem nodeOf (x : Int) (h : 0 ≤ x ∧ x ≤ 1000) : impl_nodeOf.f x = some (x / 2 - 1) := by
  unfold impl_nodeOf.f
  rw [Int.tdiv_eq_ediv_of_nonneg h.1, w64 (x := x / 2) (by omega) (by omega), w64 (by omega) (by omega)]
theorem nodeL (k : Int) (b : Bool) (h : 0 ≤ k ∧ k ≤ 11) : impl_nodeOf.f (2 * (k + 1) + bit b) = some k := by
  have := bit_r b
  rw [nodeOf _ (by omega)]
  exact congrArg some (by omega)
theorem nodeZ (b : Bool) : impl_nodeOf.f (bit b) = some (-1) := by
  have := bit_r b
  rw [nodeOf _ (by omega)]
  exact congrArg some (by omega)
theorem isLink (x : Int) (h : 0 ≤ x ∧ x ≤ 25) : impl_isLink.f x 12 = some true := by
  unfold impl_isLink.f
  rw [if_pos (by omega), nodeOf x (by omega)]
  simp only [Option.bind_some]
  exact congrArg some (decide_eq_true (by omega))
theorem marked_e (x : Int) (h : 0 ≤ x) : impl_isMarked.f x = some (decide (x % 2 = 1)) := by
  unfold impl_isMarked.f
  rw [Int.tmod_eq_emod_of_nonneg h]
  refine congrArg some ?_
  by_cases e : x % 2 = 1
  · rw [e, decide_eq_true rfl]; rfl
  · rw [decide_eq_false e, show x % 2 = 0 by omega]; rfl
theorem linkCell (k : Int) (h : 0 ≤ k ∧ k ≤ 11) : impl_linkCell.f k = some (2 + 2 * k) := by
  unfold impl_linkCell.f
  rw [w64 (x := 2 * k) (by omega) (by omega), w64 (by omega) (by omega)]
theorem keyCell (k : Int) (h : 0 ≤ k ∧ k ≤ 11) : impl_keyCell.f k = some (1 + 2 * k) := by
  unfold impl_keyCell.f
  rw [w64 (x := 2 * k) (by omega) (by omega), w64 (by omega) (by omega)]
/-- A place that a link is read from. -/
def POk (P : Int) : Prop := P = 0 ∨ (2 ≤ P ∧ P ≤ 24 ∧ P % 2 = 0)
theorem wx : wrap64 ((12 : Int) - 1) = 11 := by rw [w64 (by omega) (by omega)]; rfl
/-- What LiAct comes to, by its four parts. -/
theorem act_ (k : Nat) (kd a x pc P C W R V : Int) (hP : POk P) (hs : impl_isLiStep.f kd pc = some true) (hC : pc > 0 → impl_isLink.f C 12 = some true) (hW : pc = 3 ∨ pc = 7 → impl_isLink.f W 12 = some true) (nd : Int) (hn : impl_nodeOf.f C = some nd) (h1 : (1 ≤ pc ∧ pc ≤ 3) ∨ pc = 7 → 0 ≤ nd) (h2 : 4 ≤ pc ∧ pc ≤ 6 → 0 ≤ x ∧ x ≤ 11) :
    impl_LiAct.f (k + 5) 12 kd a x pc P C W R V false = impl_LiAct.j3 (k + 1) nd false kd a x pc P C W R V false := by
  have t0 : ∀ j b, impl_LiAct.j2 (j + 1) 12 false kd a x pc P C W R V false = b → impl_LiAct.j1 (j + 2) 12 false kd a x pc P C W R V false = b := by
    intro j b hb
    simp only [impl_LiAct.j1, Bool.false_eq_true, if_false]
    by_cases e0 : pc > 0
    · rw [if_pos e0, hC e0]
      simp only [Option.bind_some, if_true]
      by_cases e3 : pc = 3
      · rw [if_pos e3, hW (Or.inl e3)]
        simp only [Option.bind_some, Bool.not_true]
        exact hb
      · rw [if_neg e3]
        by_cases e7 : pc = 7
        · rw [if_pos e7, hW (Or.inr e7)]
          simp only [Option.bind_some, Bool.not_true]
          exact hb
        · rw [if_neg e7]
          exact hb
    · rw [if_neg e0, if_neg (by omega), if_neg (by omega)]
      exact hb
  have t1 : impl_LiAct.j2 (k + 2) 12 false kd a x pc P C W R V false = impl_LiAct.j3 (k + 1) nd false kd a x pc P C W R V false := by
    simp only [impl_LiAct.j2, Bool.false_eq_true, if_false]
    rw [hn]
    simp only [Option.bind_some]
    rw [within, within, within]
    simp only [Option.bind_some, wx]
    have q : ∀ z, (if decide ((4 : Int) ≤ pc ∧ pc ≤ 6) = true then (impl_LiAct.j3 (k + 1) nd (!decide (0 ≤ x ∧ x ≤ 11)) kd a x pc P C W R V false) else impl_LiAct.j3 (k + 1) nd false kd a x pc P C W R V false) = z ↔ impl_LiAct.j3 (k + 1) nd false kd a x pc P C W R V false = z := by
      intro z
      by_cases e : 4 ≤ pc ∧ pc ≤ 6
      · rw [if_pos (decide_eq_true e), decide_eq_true (h2 e)]; rfl
      · rw [if_neg (by simpa using e)]
    by_cases e : 1 ≤ pc ∧ pc ≤ 3
    · rw [if_pos (decide_eq_true e), if_neg (by have := h1 (Or.inl e); omega)]
      exact (q _).2 rfl
    · rw [if_neg (by simpa using e)]
      by_cases e7 : pc = 7
      · rw [if_pos e7, if_neg (by have := h1 (Or.inr e7); omega)]
        exact (q _).2 rfl
      · rw [if_neg e7]
        exact (q _).2 rfl
  unfold impl_LiAct.f
  rw [if_neg (by decide), within]
  simp only [Option.bind_some]
  rw [if_pos (by decide), hs]
  simp only [Option.bind_some, Bool.not_true, impl_LiAct.j0, Bool.false_eq_true, if_false]
  rcases hP with rfl | ⟨p1, p2, p3⟩
  · rw [if_pos rfl]
    exact t0 (k + 1) _ t1
  · rw [if_neg (by omega), linkCell 0 (by omega), wx, linkCell 11 (by omega)]
    simp only [Option.bind_some]
    rw [within]
    simp only [Option.bind_some]
    rw [if_pos (decide_eq_true (by omega)), Int.tmod_eq_emod_of_nonneg (by omega), p3]
    exact t0 (k + 1) _ t1
theorem isStep (kd pc : Int) (h : (kd = 1 ∧ 0 ≤ pc ∧ pc ≤ 6) ∨ (kd = 2 ∧ ((0 ≤ pc ∧ pc ≤ 3) ∨ pc = 7)) ∨ (kd = 3 ∧ 0 ≤ pc ∧ pc ≤ 2)) : impl_isLiStep.f kd pc = some true := by
  unfold impl_isLiStep.f
  rw [within, within, within]
  simp only [Option.bind_some]
  rcases h with ⟨rfl, h1, h2⟩ | ⟨rfl, h⟩ | ⟨rfl, h1, h2⟩
  · rw [if_pos rfl, decide_eq_true ⟨h1, h2⟩]
  · rw [if_neg (by omega), if_pos rfl]
    rcases h with h | rfl
    · rw [if_pos (decide_eq_true h)]
    · rw [if_neg (by decide)]; rfl
  · rw [if_neg (by omega), if_neg (by omega), if_pos rfl, decide_eq_true ⟨h1, h2⟩]
/-- A step by its act and its read. -/
theorem stepR (k : Nat) (l : List Int) (hl : l.length = 25) (kd a x pc P C W R V : Int) (at_ told : Int) (hpc : 0 ≤ pc ∧ pc ≤ 2)
    (ha : impl_LiAct.f (k + 5) 12 kd a x pc P C W R V false = some (1, at_, 0, 0, true)) (hat : 0 ≤ at_ ∧ at_ ≤ 24) (hr : rd l at_ = told) (hlk : pc < 2 → impl_isLink.f told 12 = some true) (o0 o1 o2 o3 o4 o5 o6 o7 o8 : Int) (o9 : Bool)
    (hrd : impl_Call_liRead.f (k + 3) kd a x (pc + 1) P C W R V false pc told = some (o0, o1, o2, o3, o4, o5, o6, o7, o8, o9)) :
    impl_LiStep.f (k + 5) 12 l kd a x pc P C W R V false = some (l, o0, o1, o2, o3, o4, o5, o6, o7, o8, o9, true) := by
  have wl : wrap64 (1 + wrap64 (2 * (12 : Int))) = (l.length : Int) := by rw [w64 (x := 2 * (12 : Int)) (by omega) (by omega), w64 (by omega) (by omega)]; omega
  unfold impl_LiStep.f
  rw [ha]
  simp only [Option.bind_some, if_true, wl, bne_self_eq_false, impl_LiStep.j0, Bool.false_eq_true, if_false]
  rw [DoLoad l (by omega) at_ (by omega), hr]
  simp only [Option.bind_some, if_true]
  have t : impl_LiStep.j1 (k + 4) told false kd a x pc P C W R V false l = some (l, o0, o1, o2, o3, o4, o5, o6, o7, o8, o9, true) := by
    simp only [impl_LiStep.j1, Bool.false_eq_true, if_false]
    rw [if_pos hpc.2, w64 (x := pc + 1) (by omega) (by omega), hrd]
    simp only [Option.bind_some, impl_LiStep.j4]
  by_cases e : pc < 2
  · rw [if_pos e, hlk e]
    simp only [Option.bind_some, Bool.not_true]
    exact t
  · rw [if_neg e]
    exact t
theorem step3 (k : Nat) (l : List Int) (hl : l.length = 25) (kd a x P C W R V : Int) (v : Int) (ha : impl_LiAct.f (k + 5) 12 kd a x 3 P C W R V false = some (3, P, C, v, true)) (hat : 0 ≤ P ∧ P ≤ 24) (hr : rd l P = C) :
    impl_LiStep.f (k + 5) 12 l kd a x 3 P C W R V false = some (l.set P.toNat v, kd, a, x, 0, P, C, W, R, V, false, true) := by
  have wl : wrap64 (1 + wrap64 (2 * (12 : Int))) = (l.length : Int) := by rw [w64 (x := 2 * (12 : Int)) (by omega) (by omega), w64 (by omega) (by omega)]; omega
  unfold impl_LiStep.f
  rw [ha]
  simp only [Option.bind_some, if_true, wl, bne_self_eq_false, impl_LiStep.j0, Bool.false_eq_true, if_false]
  rw [DoCas l (by omega) P C v (by omega) hr]
  simp [impl_LiStep.j1, impl_LiStep.j2, impl_LiStep.j4]
theorem step45 (k : Nat) (l : List Int) (hl : l.length = 25) (kd a x pc P C W R V : Int) (hpc : pc = 4 ∨ pc = 5) (at_ v : Int) (ha : impl_LiAct.f (k + 5) 12 kd a x pc P C W R V false = some (2, at_, v, 0, true)) (hat : 0 ≤ at_ ∧ at_ ≤ 24) :
    impl_LiStep.f (k + 5) 12 l kd a x pc P C W R V false = some (l.set at_.toNat v, kd, a, x, pc + 1, P, C, W, R, V, false, true) := by
  have wl : wrap64 (1 + wrap64 (2 * (12 : Int))) = (l.length : Int) := by rw [w64 (x := 2 * (12 : Int)) (by omega) (by omega), w64 (by omega) (by omega)]; omega
  have wp : wrap64 (pc + 1) = pc + 1 := w64 (by omega) (by omega)
  unfold impl_LiStep.f
  rw [ha]
  simp only [Option.bind_some, if_true, wl, bne_self_eq_false, impl_LiStep.j0, Bool.false_eq_true, if_false]
  rw [DoStore l (by omega) at_ v (by omega)]
  simp only [Option.bind_some, if_true]
  rw [if_neg (by omega)]
  simp only [impl_LiStep.j1, Bool.false_eq_true, if_false]
  rw [if_neg (by omega), if_neg (by omega), wp]
  simp only [impl_LiStep.j2, Bool.false_eq_true, if_false]
  rw [if_neg (by omega), if_neg (by omega)]
  simp only [impl_LiStep.j3, Bool.false_eq_true, if_false]
  rw [if_neg (by omega)]
  simp only [impl_LiStep.j4]
theorem step67 (k : Nat) (l : List Int) (hl : l.length = 25) (kd a x pc P C W R V : Int) (hpc : pc = 6 ∨ pc = 7) (at_ u v : Int) (ha : impl_LiAct.f (k + 5) 12 kd a x pc P C W R V false = some (3, at_, u, v, true)) (hat : 0 ≤ at_ ∧ at_ ≤ 24) (hr : rd l at_ = u) :
    impl_LiStep.f (k + 5) 12 l kd a x pc P C W R V false = some (l.set at_.toNat v, kd, a, x, pc + 1, P, C, W, 1, V, true, true) := by
  have wl : wrap64 (1 + wrap64 (2 * (12 : Int))) = (l.length : Int) := by rw [w64 (x := 2 * (12 : Int)) (by omega) (by omega), w64 (by omega) (by omega)]; omega
  have wp : wrap64 (pc + 1) = pc + 1 := w64 (by omega) (by omega)
  unfold impl_LiStep.f
  rw [ha]
  simp only [Option.bind_some, if_true, wl, bne_self_eq_false, impl_LiStep.j0, Bool.false_eq_true, if_false]
  rw [DoCas l (by omega) at_ u v (by omega) hr]
  simp only [Option.bind_some, if_true]
  rw [if_neg (by omega)]
  simp only [impl_LiStep.j1, Bool.false_eq_true, if_false]
  rw [if_neg (by omega), if_neg (by omega), wp]
  simp only [impl_LiStep.j2, Bool.false_eq_true, if_false]
  rw [if_neg (by omega), if_pos (by omega)]
  simp only [impl_LiStep.j3, beq_self_eq_true, if_true]
  simp only [impl_Call_end.f, Option.bind_some, impl_LiStep.j4]
/-- What a read does. -/
theorem read0 (k : Nat) (kd a x pc P C W R V told nd : Int) (h0 : 0 ≤ told) (hn : impl_nodeOf.f told = some nd) (hm : kd = 3 ∨ told % 2 = 0) :
    impl_Call_liRead.f (k + 3) kd a x pc P C W R V false 0 told = if 0 ≤ nd then some (kd, a, x, pc, P, told, W, R, V, false) else if kd = 1 then some (kd, a, x, 4, P, told, W, R, V, false) else some (kd, a, x, pc, P, told, W, 4, V, true) := by
  have t : impl_Call_liRead.j0 (k + 3) told false kd a x pc P told W R V false = if 0 ≤ nd then some (kd, a, x, pc, P, told, W, R, V, false) else if kd = 1 then some (kd, a, x, 4, P, told, W, R, V, false) else some (kd, a, x, pc, P, told, W, 4, V, true) := by
    simp only [impl_Call_liRead.j0, Bool.false_eq_true, if_false]
    rw [hn]
    simp only [Option.bind_some, impl_Call_liRead.j1, Bool.false_eq_true, if_false]
    rw [hn]
    simp only [Option.bind_some, impl_Call_end.f]
    by_cases e : 0 ≤ nd
    · rw [if_neg (by omega), if_pos e, if_neg (by omega)]
    · rw [if_pos (by omega), if_neg e]
      by_cases e1 : kd = 1
      · rw [if_pos e1, if_pos (by rw [e1]; rfl)]
      · rw [if_neg e1, if_neg (by rw [beq_iff_eq]; exact e1), if_pos (by omega)]
  unfold impl_Call_liRead.f
  rw [if_pos rfl, marked_e told h0]
  simp only [Option.bind_some]
  by_cases e : told % 2 = 1
  · rw [if_pos (decide_eq_true e), show (kd != 3) = false from by rw [hm.resolve_right (by omega)]; rfl]
    exact t
  · rw [if_neg (by simpa using e)]
    exact t
theorem read1 (k : Nat) (kd a x P C W R V told : Int) (h0 : 0 ≤ told) :
    impl_Call_liRead.f (k + 3) kd a x 2 P C W R V false 1 told = some (kd, a, x, if kd ≠ 3 ∧ told % 2 = 1 then 3 else 2, P, C, told, R, V, false) := by
  unfold impl_Call_liRead.f
  rw [if_neg (by omega), if_pos rfl, marked_e told h0]
  simp only [Option.bind_some]
  by_cases e : told % 2 = 1
  · rw [if_pos (decide_eq_true e)]
    by_cases e3 : kd = 3
    · rw [if_pos e3, if_neg (by omega)]
    · rw [if_neg e3, if_pos ⟨e3, e⟩]
  · rw [if_neg (by simpa using e), if_neg (by omega)]
theorem read2lt (k : Nat) (kd a x P C W R V told nd : Int) (hn : impl_nodeOf.f C = some nd) (hnd : 0 ≤ nd ∧ nd ≤ 11) (h : told < a) :
    impl_Call_liRead.f (k + 3) kd a x 3 P C W R V false 2 told = some (kd, a, x, 0, 2 + 2 * nd, C, W, R, told, false) := by
  unfold impl_Call_liRead.f
  rw [if_neg (by omega), if_neg (by omega), if_pos h, hn]
  simp only [Option.bind_some]
  rw [linkCell nd hnd]
  rfl
theorem read2a (k : Nat) (a x P C W R V told : Int) (h : ¬ told < a) :
    impl_Call_liRead.f (k + 3) 1 a x 3 P C W R V false 2 told = if told = a then some (1, a, x, 3, P, C, W, 4, told, true) else some (1, a, x, 4, P, C, W, R, told, false) := by
  unfold impl_Call_liRead.f
  rw [if_neg (by omega), if_neg (by omega), if_neg h, if_neg (by omega), if_pos rfl]
  by_cases e : told = a
  · rw [if_pos e, if_pos e]
    simp only [impl_Call_liRead.j2, if_true, impl_Call_end.f, Option.bind_some]
  · rw [if_neg e, if_neg e, if_neg (by omega)]
    simp only [impl_Call_liRead.j2, Bool.false_eq_true, if_false, if_true]
theorem read2d (k : Nat) (a x P C W R V told : Int) (h : ¬ told < a) :
    impl_Call_liRead.f (k + 3) 2 a x 3 P C W R V false 2 told = if told = a then some (2, a, x, 7, P, C, W, R, told, false) else some (2, a, x, 3, P, C, W, 4, told, true) := by
  unfold impl_Call_liRead.f
  rw [if_neg (by omega), if_neg (by omega), if_neg h, if_neg (by omega), if_neg (by omega), if_pos rfl]
  by_cases e : told = a
  · rw [if_pos e, show (told != a) = false from by rw [e]; exact bne_self_eq_false a]
    simp only [impl_Call_liRead.j2, Bool.false_eq_true, if_false]
    rw [if_neg (by omega)]
  · rw [if_neg e, show (told != a) = true from bne_iff_ne.mpr e]
    simp only [impl_Call_liRead.j2, if_true, impl_Call_end.f, Option.bind_some]
theorem read2h (k : Nat) (a x P C W R V told : Int) (hW : 0 ≤ W) (h : ¬ told < a) :
    impl_Call_liRead.f (k + 3) 3 a x 3 P C W R V false 2 told = some (3, a, x, 3, P, C, W, if told = a ∧ W % 2 = 0 then 1 else 4, told, true) := by
  unfold impl_Call_liRead.f
  rw [if_neg (by omega), if_neg (by omega), if_neg h, if_pos rfl]
  simp only [impl_Call_end.f, Option.bind_some]
  by_cases e : told = a
  · rw [if_pos e, marked_e W hW]
    simp only [Option.bind_some]
    by_cases e2 : W % 2 = 1
    · rw [if_pos (decide_eq_true e2), if_neg (by omega)]
    · rw [if_neg (by simpa using e2), if_pos ⟨e, by omega⟩]
  · rw [if_neg e, if_neg (by omega)]
/-- The chain. -/
def hd : List (Int × Int × Bool) → Int
  | [] => 0
  | e :: _ => 2 * (e.1 + 1)
def Seg (l : List Int) : Int → Bool → List (Int × Int × Bool) → Prop
  | P, b, [] => rd l P = bit b
  | P, b, e :: r => rd l P = 2 * (e.1 + 1) + bit b ∧ (0 ≤ e.1 ∧ e.1 ≤ 11) ∧ rd l (1 + 2 * e.1) = e.2.1 ∧ (∀ d ∈ r, e.1 ≠ d.1 ∧ e.2.1 < d.2.1) ∧ Seg l (2 + 2 * e.1) e.2.2 r
def live : List (Int × Int × Bool) → List Int
  | [] => []
  | e :: r => if e.2.2 then live r else e.2.1 :: live r
def addC (A X : Int) : List (Int × Int × Bool) → List (Int × Int × Bool)
  | [] => [(X, A, false)]
  | e :: r => if e.2.2 then addC A X r else if e.2.1 < A then e :: addC A X r else if e.2.1 = A then e :: r else (X, A, false) :: e :: r
def delC (A : Int) : List (Int × Int × Bool) → List (Int × Int × Bool)
  | [] => []
  | e :: r => if e.2.2 then delC A r else if e.2.1 < A then e :: delC A r else if e.2.1 = A then (e.1, e.2.1, true) :: r else e :: r
theorem rd_set (l : List Int) (i j v : Int) (hi : 0 ≤ i ∧ i < (l.length : Int)) (hj : 0 ≤ j) : rd (l.set i.toNat v) j = if i = j then v else rd l j := by
  obtain ⟨i, rfl⟩ := Int.eq_ofNat_of_zero_le hi.1
  obtain ⟨j, rfl⟩ := Int.eq_ofNat_of_zero_le hj
  rw [rd_nat, rd_nat, Int.toNat_natCast]
  simp only [List.getD, List.getElem?_set]
  by_cases e : i = j
  · subst e
    have : i < l.length := by omega
    simp [this]
  · rw [if_neg e, if_neg (by omega)]
theorem seg_rd (l : List Int) : ∀ (r : List (Int × Int × Bool)) (P : Int) (b : Bool), Seg l P b r → rd l P = hd r + bit b
  | [], P, b, h => by show rd l P = 0 + bit b; rw [Int.zero_add]; exact h
  | e :: r, P, b, h => h.1
theorem seg_hd (l : List Int) : ∀ (r : List (Int × Int × Bool)) (P : Int) (b : Bool), Seg l P b r → hd r % 2 = 0 ∧ 0 ≤ hd r ∧ hd r ≤ 24
  | [], P, b, h => ⟨rfl, Int.le_refl _, by decide⟩
  | e :: r, P, b, h => by
    have := h.2.1
    show (2 * (e.1 + 1)) % 2 = 0 ∧ 0 ≤ 2 * (e.1 + 1) ∧ 2 * (e.1 + 1) ≤ 24
    omega
theorem seg_range (l : List Int) : ∀ (r : List (Int × Int × Bool)) (P : Int) (b : Bool), Seg l P b r → ∀ d ∈ r, 0 ≤ d.1 ∧ d.1 ≤ 11
  | [], P, b, h, d, hd => by cases hd
  | e :: r, P, b, h, d, hd => by
    rcases List.mem_cons.1 hd with rfl | hd
    · exact h.2.1
    · exact seg_range l r _ _ h.2.2.2.2 d hd
theorem seg_frame (l l' : List Int) : ∀ (r : List (Int × Int × Bool)) (P : Int) (b : Bool), Seg l P b r → rd l' P = rd l P → (∀ d ∈ r, rd l' (1 + 2 * d.1) = rd l (1 + 2 * d.1) ∧ rd l' (2 + 2 * d.1) = rd l (2 + 2 * d.1)) → Seg l' P b r
  | [], P, b, h, hP, _ => by show rd l' P = bit b; rw [hP]; exact h
  | e :: r, P, b, h, hP, hr => by
    obtain ⟨h1, h2, h3, h4, h5⟩ := h
    have := hr e List.mem_cons_self
    exact ⟨by rw [hP]; exact h1, h2, by rw [this.1]; exact h3, h4, seg_frame l l' r _ _ h5 this.2 (fun d hd => hr d (List.mem_cons_of_mem _ hd))⟩
/-- The same chain from another place. -/
theorem seg_move (l l' : List Int) (r : List (Int × Int × Bool)) (P P' : Int) (b b' : Bool) (h : Seg l P b r) (hP : rd l' P' = hd r + bit b') (hr : ∀ d ∈ r, rd l' (1 + 2 * d.1) = rd l (1 + 2 * d.1) ∧ rd l' (2 + 2 * d.1) = rd l (2 + 2 * d.1)) : Seg l' P' b' r := by
  cases r with
  | nil => show rd l' P' = bit b'; rw [hP]; exact Int.zero_add _
  | cons e r =>
    obtain ⟨h1, h2, h3, h4, h5⟩ := h
    have := hr e List.mem_cons_self
    exact ⟨hP, h2, by rw [this.1]; exact h3, h4, seg_frame l l' r _ _ h5 this.2 (fun d hd => hr d (List.mem_cons_of_mem _ hd))⟩
/-- What is in the chain when a call has gone through it. -/
theorem mem_addC (A X : Int) : ∀ (r : List (Int × Int × Bool)) (d : Int × Int × Bool), d ∈ addC A X r → d ∈ r ∨ d = (X, A, false)
  | [], d, h => Or.inr (List.mem_singleton.1 h)
  | e :: r, d, h => by
    unfold addC at h
    split at h
    · rcases mem_addC A X r d h with g | g
      · exact Or.inl (List.mem_cons_of_mem _ g)
      · exact Or.inr g
    · split at h
      · rcases List.mem_cons.1 h with g | g
        · exact Or.inl (by rw [g]; exact List.mem_cons_self)
        · rcases mem_addC A X r d g with g | g
          · exact Or.inl (List.mem_cons_of_mem _ g)
          · exact Or.inr g
      · split at h
        · exact Or.inl h
        · rcases List.mem_cons.1 h with g | g
          · exact Or.inr g
          · exact Or.inl g
theorem mem_delC (A : Int) : ∀ (r : List (Int × Int × Bool)) (d : Int × Int × Bool), d ∈ delC A r → ∃ d' ∈ r, d'.1 = d.1 ∧ d'.2.1 = d.2.1
  | [], d, h => by cases h
  | e :: r, d, h => by
    unfold delC at h
    split at h
    · obtain ⟨d', g1, g2⟩ := mem_delC A r d h
      exact ⟨d', List.mem_cons_of_mem _ g1, g2⟩
    · split at h
      · rcases List.mem_cons.1 h with g | g
        · exact ⟨e, List.mem_cons_self, by rw [g]; exact ⟨rfl, rfl⟩⟩
        · obtain ⟨d', g1, g2⟩ := mem_delC A r d g
          exact ⟨d', List.mem_cons_of_mem _ g1, g2⟩
      · split at h
        · rcases List.mem_cons.1 h with g | g
          · exact ⟨e, List.mem_cons_self, by rw [g]; exact ⟨rfl, rfl⟩⟩
          · exact ⟨d, List.mem_cons_of_mem _ g, rfl, rfl⟩
        · exact ⟨d, h, rfl, rfl⟩
theorem mem_live : ∀ (r : List (Int × Int × Bool)) (y : Int), y ∈ live r → ∃ d ∈ r, d.2.1 = y
  | [], y, h => by cases h
  | e :: r, y, h => by
    unfold live at h
    split at h
    · obtain ⟨d, g1, g2⟩ := mem_live r y h
      exact ⟨d, List.mem_cons_of_mem _ g1, g2⟩
    · rcases List.mem_cons.1 h with g | g
      · exact ⟨e, List.mem_cons_self, g.symm⟩
      · obtain ⟨d, g1, g2⟩ := mem_live r y g
        exact ⟨d, List.mem_cons_of_mem _ g1, g2⟩
/-- Sorted, that is all the plain lists' laws ask for. -/
def Srt : List (Int × Int × Bool) → Prop
  | [] => True
  | e :: r => (∀ d ∈ r, e.2.1 < d.2.1) ∧ Srt r
theorem seg_srt (l : List Int) : ∀ (r : List (Int × Int × Bool)) (P : Int) (b : Bool), Seg l P b r → Srt r
  | [], P, b, h => trivial
  | e :: r, P, b, h => ⟨fun d hd => (h.2.2.2.1 d hd).2, seg_srt l r _ _ h.2.2.2.2⟩
theorem live_gt (e : Int × Int × Bool) (r : List (Int × Int × Bool)) (h : ∀ d ∈ r, e.2.1 < d.2.1) : ∀ y ∈ live r, e.2.1 < y := by
  intro y hy
  obtain ⟨d, h1, h2⟩ := mem_live r y hy
  have := h d h1
  omega
def ins (A : Int) : List Int → List Int
  | [] => [A]
  | y :: t => if y < A then y :: ins A t else A :: y :: t
theorem live_add (A X : Int) : ∀ (r : List (Int × Int × Bool)), Srt r → live (addC A X r) = if A ∈ live r then live r else ins A (live r)
  | [], _ => by simp [addC, live, ins]
  | e :: r, h => by
    obtain ⟨k, key, m⟩ := e
    have ih := live_add A X r h.2
    have hg := live_gt (k, key, m) r h.1
    cases m with
    | true => simpa [addC, live] using ih
    | false =>
      by_cases h1 : key < A
      · have hne : ¬ A = key := by omega
        by_cases hm : A ∈ live r
        · rw [if_pos hm] at ih
          simp [addC, live, h1, ih, hm, hne]
        · rw [if_neg hm] at ih
          simp [addC, live, h1, ih, hm, hne, ins]
      · by_cases h2 : key = A
        · subst h2
          simp [addC, live]
        · have hm : ¬ A ∈ live r := fun hm => by have := hg A hm; simp only at this; omega
          have hne : ¬ A = key := fun e => h2 e.symm
          simp [addC, live, h1, h2, hm, hne, ins]
theorem live_del (A : Int) : ∀ (r : List (Int × Int × Bool)), Srt r → live (delC A r) = (live r).filter (fun x => !decide (x = A))
  | [], _ => rfl
  | e :: r, h => by
    obtain ⟨k, key, m⟩ := e
    have ih := live_del A r h.2
    have hg := live_gt (k, key, m) r h.1
    cases m with
    | true => simpa [delC, live] using ih
    | false =>
      by_cases h1 : key < A
      · have hne : ¬ key = A := by omega
        simp [delC, live, h1, ih, hne]
      · have hm : (live r).filter (fun x => !decide (x = A)) = live r := List.filter_eq_self.2 (fun y hy => by
          have := hg y hy
          simp only at this
          simp
          omega)
        by_cases h2 : key = A
        · subst h2
          simp [delC, live, hm]
        · simp [delC, live, h1, h2, hm]
/-! The walk through the chain: the loop of the law with its other state held. -/
section Walk
variable (B : Nat) (want : List Int) (used len j : Int) (picks : List Int) (f0 f1 f2 f3 f4 f5 f6 f7 : Int)
def Lo (kd a x : Int) (i : Nat) (l : List Int) (pc P C W R V : Int) (dn : Bool) : Option Bool :=
  laws_FnListOne.l1 (2 * (100 - i) + B) 12 want used (i : Int) picks len j l f0 f1 f2 f3 f4 f5 f6 f7 kd a x pc P C W R V dn
theorem loopL (k : Nat) (kd a x : Int) (i i' : Int) (hi : i < 60) (hi' : wrap64 (i + 1) = i') (l : List Int) (pc P C W R V : Int) (l' : List Int) (pc' P' C' W' R' V' : Int) (dn' : Bool)
    (h : impl_LiStep.f k 12 l kd a x pc P C W R V false = some (l', kd, a, x, pc', P', C', W', R', V', dn', true)) :
    laws_FnListOne.l1 (k + 2) 12 want used i picks len j l f0 f1 f2 f3 f4 f5 f6 f7 kd a x pc P C W R V false = laws_FnListOne.l1 k 12 want used i' picks len j l' f0 f1 f2 f3 f4 f5 f6 f7 kd a x pc' P' C' W' R' V' dn' := by
  simp only [laws_FnListOne.l1, laws_FnListOne.j3, if_pos hi, Bool.not_false, if_true]
  rw [h]
  simp only [Option.bind_some, if_true, hi']
theorem Lo_step (hB : 2000 ≤ B) (kd a x : Int) (i : Nat) (hi : i < 60) (l : List Int) (pc P C W R V : Int) (l' : List Int) (pc' P' C' W' R' V' : Int) (dn' : Bool)
    (h : ∀ k, impl_LiStep.f (k + 5) 12 l kd a x pc P C W R V false = some (l', kd, a, x, pc', P', C', W', R', V', dn', true)) :
    Lo B want used len j picks f0 f1 f2 f3 f4 f5 f6 f7 kd a x i l pc P C W R V false = Lo B want used len j picks f0 f1 f2 f3 f4 f5 f6 f7 kd a x (i + 1) l' pc' P' C' W' R' V' dn' := by
  have hk : ∀ q, 5 ≤ q → impl_LiStep.f q 12 l kd a x pc P C W R V false = some (l', kd, a, x, pc', P', C', W', R', V', dn', true) := by
    intro q hq
    obtain ⟨q, rfl⟩ : ∃ m, q = m + 5 := ⟨q - 5, by omega⟩
    exact h q
  have L := fun q hq => loopL want used len j picks f0 f1 f2 f3 f4 f5 f6 f7 q kd a x (i : Int) ((i + 1 : Nat) : Int) (by omega) (by rw [w64 (by omega) (by omega)]; omega) l pc P C W R V l' pc' P' C' W' R' V' dn' (hk q hq)
  have e : 2 * (100 - i) + B = 2 * (100 - (i + 1)) + B + 2 := by omega
  have L2 := L (2 * (100 - (i + 1)) + B) (by omega)
  rw [← e] at L2
  exact L2
/-- Reading the link at P. -/
theorem go0 (hB : 2000 ≤ B) (kd a x : Int) (hk : kd = 1 ∨ kd = 2 ∨ kd = 3) (i : Nat) (hi : i < 60) (l : List Int) (hl : l.length = 25) (P C W R V : Int) (hP : POk P) (k : Int) (hkr : 0 ≤ k ∧ k ≤ 11) (b : Bool) (hb : kd = 3 ∨ b = false) (hr : rd l P = 2 * (k + 1) + bit b) :
    Lo B want used len j picks f0 f1 f2 f3 f4 f5 f6 f7 kd a x i l 0 P C W R V false = Lo B want used len j picks f0 f1 f2 f3 f4 f5 f6 f7 kd a x (i + 1) l 1 P (2 * (k + 1) + bit b) W R V false := by
  have hbr := bit_r b
  refine Lo_step B want used len j picks f0 f1 f2 f3 f4 f5 f6 f7 hB kd a x i hi l 0 P C W R V l 1 P (2 * (k + 1) + bit b) W R V false (fun q => ?_)
  have hPr : 0 ≤ P ∧ P ≤ 24 := by rcases hP with rfl | ⟨p1, p2, p3⟩ <;> omega
  obtain ⟨nd, hnd⟩ : ∃ nd, impl_nodeOf.f C = some nd := ⟨_, rfl⟩
  have ha := act_ q kd a x 0 P C W R V hP (isStep kd 0 (by omega)) (fun h => by omega) (fun h => by omega) nd hnd (fun h => by omega) (fun h => by omega)
  refine stepR q l hl kd a x 0 P C W R V P _ (by omega) (by rw [ha]; simp only [impl_LiAct.j3, Bool.false_eq_true, if_false, if_true]) hPr hr (fun _ => isLink _ (by omega)) kd a x 1 P _ W R V false ?_
  rw [show (0 : Int) + 1 = 1 by omega, read0 q kd a x 1 P C W R V _ k (by omega) (nodeL k b hkr) (by rcases hb with h | rfl; exact Or.inl h; exact Or.inr (by rw [bit_f]; omega)), if_pos hkr.1]
theorem go0e (hB : 2000 ≤ B) (kd a x : Int) (hk : kd = 1 ∨ kd = 2 ∨ kd = 3) (i : Nat) (hi : i < 60) (l : List Int) (hl : l.length = 25) (P C W R V : Int) (hP : POk P) (b : Bool) (hb : kd = 3 ∨ b = false) (hr : rd l P = bit b) :
    Lo B want used len j picks f0 f1 f2 f3 f4 f5 f6 f7 kd a x i l 0 P C W R V false = if kd = 1 then Lo B want used len j picks f0 f1 f2 f3 f4 f5 f6 f7 kd a x (i + 1) l 4 P (bit b) W R V false else Lo B want used len j picks f0 f1 f2 f3 f4 f5 f6 f7 kd a x (i + 1) l 1 P (bit b) W 4 V true := by
  have hbr := bit_r b
  have hPr : 0 ≤ P ∧ P ≤ 24 := by rcases hP with rfl | ⟨p1, p2, p3⟩ <;> omega
  obtain ⟨nd, hnd⟩ : ∃ nd, impl_nodeOf.f C = some nd := ⟨_, rfl⟩
  have ha := fun q => act_ q kd a x 0 P C W R V hP (isStep kd 0 (by omega)) (fun h => by omega) (fun h => by omega) nd hnd (fun h => by omega) (fun h => by omega)
  have hrd := fun q => read0 q kd a x 1 P C W R V (bit b) (-1) (by omega) (nodeZ b) (by rcases hb with h | rfl; exact Or.inl h; exact Or.inr rfl)
  by_cases e : kd = 1
  · rw [if_pos e]
    refine Lo_step B want used len j picks f0 f1 f2 f3 f4 f5 f6 f7 hB kd a x i hi l 0 P C W R V l 4 P (bit b) W R V false (fun q => ?_)
    refine stepR q l hl kd a x 0 P C W R V P _ (by omega) (by rw [ha]; simp only [impl_LiAct.j3, Bool.false_eq_true, if_false, if_true]) hPr hr (fun _ => isLink _ (by omega)) kd a x 4 P _ W R V false ?_
    rw [show (0 : Int) + 1 = 1 by omega, hrd q, if_neg (by omega), if_pos e]
  · rw [if_neg e]
    refine Lo_step B want used len j picks f0 f1 f2 f3 f4 f5 f6 f7 hB kd a x i hi l 0 P C W R V l 1 P (bit b) W 4 V true (fun q => ?_)
    refine stepR q l hl kd a x 0 P C W R V P _ (by omega) (by rw [ha]; simp only [impl_LiAct.j3, Bool.false_eq_true, if_false, if_true]) hPr hr (fun _ => isLink _ (by omega)) kd a x 1 P _ W 4 V true ?_
    rw [show (0 : Int) + 1 = 1 by omega, hrd q, if_neg (by omega), if_neg e]
/-- Reading the node's own link. -/
theorem go1 (hB : 2000 ≤ B) (kd a x : Int) (hk : kd = 1 ∨ kd = 2 ∨ kd = 3) (i : Nat) (hi : i < 60) (l : List Int) (hl : l.length = 25) (P W R V : Int) (hP : POk P) (k : Int) (hkr : 0 ≤ k ∧ k ≤ 11) (b : Bool) (w : Int) (hw : 0 ≤ w ∧ w ≤ 25) (hr : rd l (2 + 2 * k) = w) :
    Lo B want used len j picks f0 f1 f2 f3 f4 f5 f6 f7 kd a x i l 1 P (2 * (k + 1) + bit b) W R V false = Lo B want used len j picks f0 f1 f2 f3 f4 f5 f6 f7 kd a x (i + 1) l (if kd ≠ 3 ∧ w % 2 = 1 then 3 else 2) P (2 * (k + 1) + bit b) w R V false := by
  have hbr := bit_r b
  refine Lo_step B want used len j picks f0 f1 f2 f3 f4 f5 f6 f7 hB kd a x i hi l 1 P _ W R V l _ P _ w R V false (fun q => ?_)
  have hPr : 0 ≤ P ∧ P ≤ 24 := by rcases hP with rfl | ⟨p1, p2, p3⟩ <;> omega
  have ha := act_ q kd a x 1 P (2 * (k + 1) + bit b) W R V hP (isStep kd 1 (by omega)) (fun h => isLink _ (by omega)) (fun h => by omega) k (nodeL k b hkr) (fun h => hkr.1) (fun h => by omega)
  refine stepR q l hl kd a x 1 P _ W R V (2 + 2 * k) w (by omega) ?_ (by omega) hr (fun _ => isLink _ hw) kd a x _ P _ w R V false ?_
  · rw [ha]
    simp only [impl_LiAct.j3, Bool.false_eq_true, if_false]
    rw [if_neg (by omega), if_pos (by trivial), linkCell k hkr]
    rfl
  · exact read1 q kd a x P _ W R V w hw.1
/-- Taking a marked node out. -/
theorem go3 (hB : 2000 ≤ B) (kd a x : Int) (hk : kd = 1 ∨ kd = 2) (i : Nat) (hi : i < 60) (l : List Int) (hl : l.length = 25) (P R V : Int) (hP : POk P) (k : Int) (hkr : 0 ≤ k ∧ k ≤ 11) (v : Int) (hv : 0 ≤ v ∧ v ≤ 24 ∧ v % 2 = 0) (hr : rd l P = 2 * (k + 1)) :
    Lo B want used len j picks f0 f1 f2 f3 f4 f5 f6 f7 kd a x i l 3 P (2 * (k + 1)) (v + 1) R V false = Lo B want used len j picks f0 f1 f2 f3 f4 f5 f6 f7 kd a x (i + 1) (l.set P.toNat v) 0 P (2 * (k + 1)) (v + 1) R V false := by
  refine Lo_step B want used len j picks f0 f1 f2 f3 f4 f5 f6 f7 hB kd a x i hi l 3 P _ _ R V _ 0 P _ _ R V false (fun q => ?_)
  have hPr : 0 ≤ P ∧ P ≤ 24 := by rcases hP with rfl | ⟨p1, p2, p3⟩ <;> omega
  have hn : impl_nodeOf.f (2 * (k + 1)) = some k := by
    have := nodeL k false hkr
    rwa [bit_f, Int.add_zero] at this
  have ha := act_ q kd a x 3 P (2 * (k + 1)) (v + 1) R V hP (isStep kd 3 (by omega)) (fun h => isLink _ (by omega)) (fun h => isLink _ (by omega)) k hn (fun h => hkr.1) (fun h => by omega)
  refine step3 q l hl kd a x P _ _ R V v ?_ hPr hr
  rw [ha]
  simp only [impl_LiAct.j3, Bool.false_eq_true, if_false]
  rw [if_neg (by omega), if_neg (by omega), if_neg (by omega), if_pos (by trivial), Int.tmod_eq_emod_of_nonneg (by omega), show (v + 1) % 2 = 1 by omega, w64 (by omega) (by omega), show v + 1 - 1 = v by omega]
/-- Reading the node's key. -/
theorem act2_ (kd a x : Int) (hk : kd = 1 ∨ kd = 2 ∨ kd = 3) (P W R V : Int) (hP : POk P) (k : Int) (hkr : 0 ≤ k ∧ k ≤ 11) (b : Bool) (q : Nat) :
    impl_LiAct.f (q + 5) 12 kd a x 2 P (2 * (k + 1) + bit b) W R V false = some (1, 1 + 2 * k, 0, 0, true) := by
  have hbr := bit_r b
  have ha := act_ q kd a x 2 P (2 * (k + 1) + bit b) W R V hP (isStep kd 2 (by omega)) (fun h => isLink _ (by omega)) (fun h => by omega) k (nodeL k b hkr) (fun h => hkr.1) (fun h => by omega)
  rw [ha]
  simp only [impl_LiAct.j3, Bool.false_eq_true, if_false]
  rw [if_neg (by omega), if_neg (by omega), if_pos (by trivial), keyCell k hkr]
  rfl
theorem go2lt (hB : 2000 ≤ B) (kd a x : Int) (hk : kd = 1 ∨ kd = 2 ∨ kd = 3) (i : Nat) (hi : i < 60) (l : List Int) (hl : l.length = 25) (P W R V : Int) (hP : POk P) (k : Int) (hkr : 0 ≤ k ∧ k ≤ 11) (b : Bool) (key : Int) (hr : rd l (1 + 2 * k) = key) (h : key < a) :
    Lo B want used len j picks f0 f1 f2 f3 f4 f5 f6 f7 kd a x i l 2 P (2 * (k + 1) + bit b) W R V false = Lo B want used len j picks f0 f1 f2 f3 f4 f5 f6 f7 kd a x (i + 1) l 0 (2 + 2 * k) (2 * (k + 1) + bit b) W R key false :=
  Lo_step B want used len j picks f0 f1 f2 f3 f4 f5 f6 f7 hB kd a x i hi l 2 P _ W R V l 0 _ _ W R key false (fun q => stepR q l hl kd a x 2 P _ W R V (1 + 2 * k) key (by omega) (act2_ kd a x hk P W R V hP k hkr b q) (by omega) hr (fun h => by omega) kd a x 0 _ _ W R key false (read2lt q kd a x P _ W R V key k (nodeL k b hkr) hkr h))
theorem go2a (hB : 2000 ≤ B) (a x : Int) (i : Nat) (hi : i < 60) (l : List Int) (hl : l.length = 25) (P W R V : Int) (hP : POk P) (k : Int) (hkr : 0 ≤ k ∧ k ≤ 11) (b : Bool) (key : Int) (hr : rd l (1 + 2 * k) = key) (h : ¬ key < a) :
    Lo B want used len j picks f0 f1 f2 f3 f4 f5 f6 f7 1 a x i l 2 P (2 * (k + 1) + bit b) W R V false = if key = a then Lo B want used len j picks f0 f1 f2 f3 f4 f5 f6 f7 1 a x (i + 1) l 3 P (2 * (k + 1) + bit b) W 4 key true else Lo B want used len j picks f0 f1 f2 f3 f4 f5 f6 f7 1 a x (i + 1) l 4 P (2 * (k + 1) + bit b) W R key false := by
  have hrd := fun q => read2a q a x P (2 * (k + 1) + bit b) W R V key h
  by_cases e : key = a
  · rw [if_pos e]
    exact Lo_step B want used len j picks f0 f1 f2 f3 f4 f5 f6 f7 hB 1 a x i hi l 2 P _ W R V l _ _ _ W _ key _ (fun q => stepR q l hl 1 a x 2 P _ W R V (1 + 2 * k) key (by omega) (act2_ 1 a x (by omega) P W R V hP k hkr b q) (by omega) hr (fun h => by omega) 1 a x _ _ _ W _ key _ (by rw [show (2 : Int) + 1 = 3 by omega, hrd q, if_pos e]))
  · rw [if_neg e]
    exact Lo_step B want used len j picks f0 f1 f2 f3 f4 f5 f6 f7 hB 1 a x i hi l 2 P _ W R V l _ _ _ W _ key _ (fun q => stepR q l hl 1 a x 2 P _ W R V (1 + 2 * k) key (by omega) (act2_ 1 a x (by omega) P W R V hP k hkr b q) (by omega) hr (fun h => by omega) 1 a x _ _ _ W _ key _ (by rw [show (2 : Int) + 1 = 3 by omega, hrd q, if_neg e]))
theorem go2d (hB : 2000 ≤ B) (a x : Int) (i : Nat) (hi : i < 60) (l : List Int) (hl : l.length = 25) (P W R V : Int) (hP : POk P) (k : Int) (hkr : 0 ≤ k ∧ k ≤ 11) (b : Bool) (key : Int) (hr : rd l (1 + 2 * k) = key) (h : ¬ key < a) :
    Lo B want used len j picks f0 f1 f2 f3 f4 f5 f6 f7 2 a x i l 2 P (2 * (k + 1) + bit b) W R V false = if key = a then Lo B want used len j picks f0 f1 f2 f3 f4 f5 f6 f7 2 a x (i + 1) l 7 P (2 * (k + 1) + bit b) W R key false else Lo B want used len j picks f0 f1 f2 f3 f4 f5 f6 f7 2 a x (i + 1) l 3 P (2 * (k + 1) + bit b) W 4 key true := by
  have hrd := fun q => read2d q a x P (2 * (k + 1) + bit b) W R V key h
  by_cases e : key = a
  · rw [if_pos e]
    exact Lo_step B want used len j picks f0 f1 f2 f3 f4 f5 f6 f7 hB 2 a x i hi l 2 P _ W R V l _ _ _ W _ key _ (fun q => stepR q l hl 2 a x 2 P _ W R V (1 + 2 * k) key (by omega) (act2_ 2 a x (by omega) P W R V hP k hkr b q) (by omega) hr (fun h => by omega) 2 a x _ _ _ W _ key _ (by rw [show (2 : Int) + 1 = 3 by omega, hrd q, if_pos e]))
  · rw [if_neg e]
    exact Lo_step B want used len j picks f0 f1 f2 f3 f4 f5 f6 f7 hB 2 a x i hi l 2 P _ W R V l _ _ _ W _ key _ (fun q => stepR q l hl 2 a x 2 P _ W R V (1 + 2 * k) key (by omega) (act2_ 2 a x (by omega) P W R V hP k hkr b q) (by omega) hr (fun h => by omega) 2 a x _ _ _ W _ key _ (by rw [show (2 : Int) + 1 = 3 by omega, hrd q, if_neg e]))
theorem go2h (hB : 2000 ≤ B) (a x : Int) (i : Nat) (hi : i < 60) (l : List Int) (hl : l.length = 25) (P W R V : Int) (hW : 0 ≤ W) (hP : POk P) (k : Int) (hkr : 0 ≤ k ∧ k ≤ 11) (b : Bool) (key : Int) (hr : rd l (1 + 2 * k) = key) (h : ¬ key < a) :
    Lo B want used len j picks f0 f1 f2 f3 f4 f5 f6 f7 3 a x i l 2 P (2 * (k + 1) + bit b) W R V false = Lo B want used len j picks f0 f1 f2 f3 f4 f5 f6 f7 3 a x (i + 1) l 3 P (2 * (k + 1) + bit b) W (if key = a ∧ W % 2 = 0 then 1 else 4) key true :=
  Lo_step B want used len j picks f0 f1 f2 f3 f4 f5 f6 f7 hB 3 a x i hi l 2 P _ W R V l _ _ _ W _ key _ (fun q => stepR q l hl 3 a x 2 P _ W R V (1 + 2 * k) key (by omega) (act2_ 3 a x (by omega) P W R V hP k hkr b q) (by omega) hr (fun h => by omega) 3 a x _ _ _ W _ key _ (read2h q a x P _ W R V key hW h))
/-- Marking a node. -/
theorem go7 (hB : 2000 ≤ B) (a x : Int) (i : Nat) (hi : i < 60) (l : List Int) (hl : l.length = 25) (P R V : Int) (hP : POk P) (k : Int) (hkr : 0 ≤ k ∧ k ≤ 11) (v : Int) (hv : 0 ≤ v ∧ v ≤ 24 ∧ v % 2 = 0) (hr : rd l (2 + 2 * k) = v) :
    Lo B want used len j picks f0 f1 f2 f3 f4 f5 f6 f7 2 a x i l 7 P (2 * (k + 1)) v R V false = Lo B want used len j picks f0 f1 f2 f3 f4 f5 f6 f7 2 a x (i + 1) (l.set (2 + 2 * k).toNat (v + 1)) (7 + 1) P (2 * (k + 1)) v 1 V true := by
  refine Lo_step B want used len j picks f0 f1 f2 f3 f4 f5 f6 f7 hB 2 a x i hi l 7 P _ _ R V _ _ P _ _ 1 V true (fun q => ?_)
  have hn : impl_nodeOf.f (2 * (k + 1)) = some k := by
    have := nodeL k false hkr
    rwa [bit_f, Int.add_zero] at this
  have ha := act_ q 2 a x 7 P (2 * (k + 1)) v R V hP (isStep 2 7 (by omega)) (fun h => isLink _ (by omega)) (fun h => isLink _ (by omega)) k hn (fun h => hkr.1) (fun h => by omega)
  refine step67 q l hl 2 a x 7 P _ _ R V (Or.inr rfl) (2 + 2 * k) v (v + 1) ?_ (by omega) hr
  rw [ha]
  simp only [impl_LiAct.j3, Bool.false_eq_true, if_false]
  rw [if_neg (by omega), if_neg (by omega), if_neg (by omega), if_neg (by omega), if_neg (by omega), if_neg (by omega), if_neg (by omega), linkCell k hkr, Int.tmod_eq_emod_of_nonneg (by omega), hv.2.2, Int.sub_zero, w64 (x := v) (by omega) (by omega), w64 (by omega) (by omega)]
  rfl
/-- Putting a node in: its key, its link, the link to it. -/
theorem go456 (hB : 2000 ≤ B) (a x : Int) (hx : 0 ≤ x ∧ x ≤ 11) (i : Nat) (hi : i + 2 < 60) (l : List Int) (hl : l.length = 25) (P C W R V : Int) (hP : POk P) (hPx : P ≠ 2 + 2 * x) (hC : 0 ≤ C ∧ C ≤ 25) (hr : rd l P = C) :
    Lo B want used len j picks f0 f1 f2 f3 f4 f5 f6 f7 1 a x i l 4 P C W R V false = Lo B want used len j picks f0 f1 f2 f3 f4 f5 f6 f7 1 a x (i + 3) (((l.set (1 + 2 * x).toNat a).set (2 + 2 * x).toNat C).set P.toNat (2 * (x + 1))) (6 + 1) P C W 1 V true := by
  have hPr : 0 ≤ P ∧ P ≤ 24 ∧ P % 2 = 0 := by rcases hP with rfl | ⟨p1, p2, p3⟩ <;> omega
  obtain ⟨nd, hnd⟩ : ∃ nd, impl_nodeOf.f C = some nd := ⟨_, rfl⟩
  have s4 : ∀ q, impl_LiStep.f (q + 5) 12 l 1 a x 4 P C W R V false = _ := fun q => step45 q l hl 1 a x 4 P C W R V (Or.inl rfl) (1 + 2 * x) a (by
    rw [act_ q 1 a x 4 P C W R V hP (isStep 1 4 (by omega)) (fun h => isLink _ hC) (fun h => by omega) nd hnd (fun h => by omega) (fun h => hx)]
    simp only [impl_LiAct.j3, Bool.false_eq_true, if_false]
    rw [if_neg (by omega), if_neg (by omega), if_neg (by omega), if_neg (by omega), if_pos (by trivial), keyCell x hx]
    rfl) (by omega)
  rw [Lo_step B want used len j picks f0 f1 f2 f3 f4 f5 f6 f7 hB 1 a x i (by omega) l 4 P C W R V _ _ P C W R V false s4, show (4 : Int) + 1 = 5 by omega]
  have s5 : ∀ q, impl_LiStep.f (q + 5) 12 (l.set (1 + 2 * x).toNat a) 1 a x 5 P C W R V false = _ := fun q => step45 q (l.set (1 + 2 * x).toNat a) (by simpa using hl) 1 a x 5 P C W R V (Or.inr rfl) (2 + 2 * x) C (by
    rw [act_ q 1 a x 5 P C W R V hP (isStep 1 5 (by omega)) (fun h => isLink _ hC) (fun h => by omega) nd hnd (fun h => by omega) (fun h => hx)]
    simp only [impl_LiAct.j3, Bool.false_eq_true, if_false]
    rw [if_neg (by omega), if_neg (by omega), if_neg (by omega), if_neg (by omega), if_neg (by omega), if_pos (by trivial), linkCell x hx]
    rfl) (by omega)
  rw [Lo_step B want used len j picks f0 f1 f2 f3 f4 f5 f6 f7 hB 1 a x (i + 1) (by omega) _ 5 P C W R V _ _ P C W R V false s5, show (5 : Int) + 1 = 6 by omega]
  have hr2 : rd ((l.set (1 + 2 * x).toNat a).set (2 + 2 * x).toNat C) P = C := by
    rw [rd_set _ _ _ _ (by rw [List.length_set]; omega) (by omega), if_neg (by omega), rd_set _ _ _ _ (by omega) (by omega), if_neg (by omega)]
    exact hr
  have s6 : ∀ q, impl_LiStep.f (q + 5) 12 ((l.set (1 + 2 * x).toNat a).set (2 + 2 * x).toNat C) 1 a x 6 P C W R V false = _ := fun q => step67 q _ (by simpa using hl) 1 a x 6 P C W R V (Or.inl rfl) P C (2 * (x + 1)) (by
    rw [act_ q 1 a x 6 P C W R V hP (isStep 1 6 (by omega)) (fun h => isLink _ hC) (fun h => by omega) nd hnd (fun h => by omega) (fun h => hx)]
    simp only [impl_LiAct.j3, Bool.false_eq_true, if_false]
    rw [if_neg (by omega), if_neg (by omega), if_neg (by omega), if_neg (by omega), if_neg (by omega), if_neg (by omega), if_pos (by trivial), w64 (x := x + 1) (by omega) (by omega), w64 (by omega) (by omega)]) (by omega) hr2
  exact Lo_step B want used len j picks f0 f1 f2 f3 f4 f5 f6 f7 hB 1 a x (i + 2) (by omega) _ 6 P C W R V _ _ P C W 1 V true s6
theorem rd3 (l : List Int) (hl : l.length = 25) (x a C P v : Int) (hx : 0 ≤ x ∧ x ≤ 11) (hP : 0 ≤ P ∧ P ≤ 24) (c : Int) (hc : 0 ≤ c) : rd (((l.set (1 + 2 * x).toNat a).set (2 + 2 * x).toNat C).set P.toNat v) c = if P = c then v else if 2 + 2 * x = c then C else if 1 + 2 * x = c then a else rd l c := by
  rw [rd_set _ _ _ _ (by simp only [List.length_set]; omega) hc, rd_set _ _ _ _ (by simp only [List.length_set]; omega) hc, rd_set _ _ _ _ (by omega) hc]
theorem pOk_r (P : Int) (hP : POk P) : 0 ≤ P ∧ P ≤ 24 ∧ P % 2 = 0 := by rcases hP with rfl | ⟨p1, p2, p3⟩ <;> omega
theorem add_go (hB : 2000 ≤ B) (a x : Int) (hx : 0 ≤ x ∧ x ≤ 11) : ∀ (r : List (Int × Int × Bool)) (l : List Int) (P C W V : Int) (i : Nat), l.length = 25 → POk P → Seg l P false r → P ≠ 2 + 2 * x → (∀ d ∈ r, d.1 ≠ x ∧ 2 + 2 * d.1 ≠ P) → i + 3 * r.length + 6 ≤ 60 →
    ∃ (l' : List Int) (i' : Nat) (pc' P' C' W' V' : Int), l'.length = 25 ∧ Lo B want used len j picks f0 f1 f2 f3 f4 f5 f6 f7 1 a x i l 0 P C W 0 V false = Lo B want used len j picks f0 f1 f2 f3 f4 f5 f6 f7 1 a x i' l' pc' P' C' W' (if a ∈ live r then 4 else 1) V' true ∧ i' ≤ 60 ∧ Seg l' P false (addC a x r) ∧ (∀ c, 0 ≤ c → c ≠ P → (∀ d ∈ r, c ≠ 2 + 2 * d.1) → c ≠ 1 + 2 * x → c ≠ 2 + 2 * x → rd l' c = rd l c)
  | [], l, P, C, W, V, i, hl, hP, hs, hPx, hdd, hi => by
    have hPr := pOk_r P hP
    have h0 : rd l P = bit false := hs
    have s0 := go0e B want used len j picks f0 f1 f2 f3 f4 f5 f6 f7 hB 1 a x (by omega) i (by omega) l hl P C W 0 V hP false (Or.inr rfl) h0
    rw [if_pos rfl] at s0
    have s1 := go456 B want used len j picks f0 f1 f2 f3 f4 f5 f6 f7 hB a x hx (i + 1) (by omega) l hl P (bit false) W 0 V hP hPx (by rw [bit_f]; omega) h0
    have R := rd3 l hl x a (bit false) P (2 * (x + 1)) hx ⟨hPr.1, hPr.2.1⟩
    refine ⟨_, i + 1 + 3, _, _, _, _, _, by simpa using hl, s0.trans s1, by omega, ⟨?_, hx, ?_, (fun d hd => by cases hd), ?_⟩, fun c hc h1 _ h2 h3 => ?_⟩
    · rw [R P hPr.1, if_pos rfl, bit_f, Int.add_zero]
    · rw [R _ (by omega), if_neg (by omega), if_neg (by omega), if_pos rfl]
    · show rd _ (2 + 2 * x) = bit false
      rw [R _ (by omega), if_neg (by omega), if_pos rfl]
    · rw [R c hc, if_neg (by omega), if_neg (by omega), if_neg (by omega)]
  | (k, key, true) :: r, l, P, C, W, V, i, hl, hP, hs, hPx, hdd, hi => by
    have hPr := pOk_r P hP
    obtain ⟨h1, h2, h3, h4, h5⟩ := hs
    simp only at h1 h2 h3 h4 h5
    have hh := seg_hd l r _ _ h5
    have hw := seg_rd l r _ _ h5
    rw [List.length_cons] at hi
    have hdk := hdd _ List.mem_cons_self
    simp only at hdk
    have s0 := go0 B want used len j picks f0 f1 f2 f3 f4 f5 f6 f7 hB 1 a x (by omega) i (by omega) l hl P C W 0 V hP k h2 false (Or.inr rfl) h1
    have s1 := go1 B want used len j picks f0 f1 f2 f3 f4 f5 f6 f7 hB 1 a x (by omega) (i + 1) (by omega) l hl P W 0 V hP k h2 false (hd r + 1) (by omega) (by rw [hw, bit_t])
    rw [if_pos (by omega)] at s1
    rw [bit_f, Int.add_zero] at s0 s1 h1
    have s3 := go3 B want used len j picks f0 f1 f2 f3 f4 f5 f6 f7 hB 1 a x (by omega) (i + 1 + 1) (by omega) l hl P 0 V hP k h2 (hd r) (by omega) h1
    have F : ∀ c, 0 ≤ c → rd (l.set P.toNat (hd r)) c = if P = c then hd r else rd l c := fun c hc => rd_set l P c _ (by omega) hc
    have hseg : Seg (l.set P.toNat (hd r)) P false r := seg_move l _ r (2 + 2 * k) P true false h5 (by rw [F P hPr.1, if_pos rfl, bit_f, Int.add_zero]) (fun d hdm => by
      have g1 := (hdd d (List.mem_cons_of_mem _ hdm)).2
      have g2 := seg_range l r _ _ h5 d hdm
      rw [F _ (by omega), F _ (by omega), if_neg (by omega), if_neg (by omega)]
      exact ⟨rfl, rfl⟩)
    obtain ⟨l', i', pc', P', C', W', V', q1, q2, q3, q4, q5⟩ := add_go hB a x hx r (l.set P.toNat (hd r)) P (2 * (k + 1)) (hd r + 1) V (i + 1 + 1 + 1) (by simpa using hl) hP hseg hPx (fun d hdm => hdd d (List.mem_cons_of_mem _ hdm)) (by omega)
    refine ⟨l', i', pc', P', C', W', V', q1, s0.trans (s1.trans (s3.trans q2)), q3, q4, fun c hc g1 g2 g3 g4 => ?_⟩
    rw [q5 c hc g1 (fun d hdm => g2 d (List.mem_cons_of_mem _ hdm)) g3 g4, F c hc, if_neg (by omega)]
  | (k, key, false) :: r, l, P, C, W, V, i, hl, hP, hs, hPx, hdd, hi => by
    have hPr := pOk_r P hP
    have hs0 := hs
    obtain ⟨h1, h2, h3, h4, h5⟩ := hs
    simp only at h1 h2 h3 h4 h5
    have hh := seg_hd l r _ _ h5
    have hw := seg_rd l r _ _ h5
    rw [List.length_cons] at hi
    have hdk := hdd _ List.mem_cons_self
    simp only at hdk
    have s0 := go0 B want used len j picks f0 f1 f2 f3 f4 f5 f6 f7 hB 1 a x (by omega) i (by omega) l hl P C W 0 V hP k h2 false (Or.inr rfl) h1
    have s1 := go1 B want used len j picks f0 f1 f2 f3 f4 f5 f6 f7 hB 1 a x (by omega) (i + 1) (by omega) l hl P W 0 V hP k h2 false (hd r) (by omega) (by rw [hw, bit_f, Int.add_zero])
    rw [if_neg (by omega)] at s1
    have hg := live_gt (k, key, false) r (fun d hdm => (h4 d hdm).2)
    simp only at hg
    by_cases c1 : key < a
    · have s2 := go2lt B want used len j picks f0 f1 f2 f3 f4 f5 f6 f7 hB 1 a x (by omega) (i + 1 + 1) (by omega) l hl P (hd r) 0 V hP k h2 false key h3 c1
      obtain ⟨l', i', pc', P', C', W', V', q1, q2, q3, q4, q5⟩ := add_go hB a x hx r l (2 + 2 * k) (2 * (k + 1) + bit false) (hd r) key (i + 1 + 1 + 1) hl (Or.inr (by omega)) h5 (by omega) (fun d hdm => ⟨(hdd d (List.mem_cons_of_mem _ hdm)).1, by have := (h4 d hdm).1; omega⟩) (by omega)
      have e1 : addC a x ((k, key, false) :: r) = (k, key, false) :: addC a x r := by simp [addC, c1]
      have e2 : (if a ∈ live ((k, key, false) :: r) then (4 : Int) else 1) = if a ∈ live r then 4 else 1 := by
        have : ¬ a = key := by omega
        simp [live, this]
      rw [e1, e2]
      refine ⟨l', i', pc', P', C', W', V', q1, s0.trans (s1.trans (s2.trans q2)), q3, ⟨?_, h2, ?_, fun d hdm => ?_, q4⟩, fun c hc g1 g2 g3 g4 => ?_⟩
      · rw [q5 P hPr.1 (by omega) (fun d hdm => by have := (hdd d (List.mem_cons_of_mem _ hdm)).2; omega) (by omega) hPx]
        exact h1
      · show rd l' (1 + 2 * k) = key
        rw [q5 _ (by omega) (by omega) (fun d hdm => by omega) (by omega) (by omega)]
        exact h3
      · rcases mem_addC a x r d hdm with g | g
        · exact h4 d g
        · rw [g]; exact ⟨hdk.1, c1⟩
      · exact q5 c hc (fun e => g2 _ List.mem_cons_self e) (fun d hdm => g2 d (List.mem_cons_of_mem _ hdm)) g3 g4
    · have s2 := go2a B want used len j picks f0 f1 f2 f3 f4 f5 f6 f7 hB a x (i + 1 + 1) (by omega) l hl P (hd r) 0 V hP k h2 false key h3 c1
      by_cases c2 : key = a
      · rw [if_pos c2] at s2
        have e1 : addC a x ((k, key, false) :: r) = (k, key, false) :: r := by simp [addC, c2]
        have e2 : (if a ∈ live ((k, key, false) :: r) then (4 : Int) else 1) = 4 := by simp [live, c2]
        rw [e1, e2]
        exact ⟨l, i + 1 + 1 + 1, _, _, _, _, _, hl, s0.trans (s1.trans s2), by omega, hs0, fun c _ _ _ _ _ => rfl⟩
      · rw [if_neg c2] at s2
        have s3 := go456 B want used len j picks f0 f1 f2 f3 f4 f5 f6 f7 hB a x hx (i + 1 + 1 + 1) (by omega) l hl P (2 * (k + 1) + bit false) (hd r) 0 key hP hPx (by rw [bit_f]; omega) h1
        have R := rd3 l hl x a (2 * (k + 1) + bit false) P (2 * (x + 1)) hx ⟨hPr.1, hPr.2.1⟩
        have e1 : addC a x ((k, key, false) :: r) = (x, a, false) :: (k, key, false) :: r := by simp [addC, c1, c2]
        have e2 : (if a ∈ live ((k, key, false) :: r) then (4 : Int) else 1) = 1 := by
          have g1 : ¬ a = key := fun e => c2 e.symm
          have g2 : ¬ a ∈ live r := fun hm => by have := hg a hm; omega
          simp [live, g1, g2]
        rw [e1, e2]
        refine ⟨_, i + 1 + 1 + 1 + 3, _, _, _, _, _, by simpa using hl, s0.trans (s1.trans (s2.trans s3)), by omega, ⟨?_, hx, ?_, fun d hdm => ?_, ?_⟩, fun c hc g1 g2 g3 g4 => ?_⟩
        · rw [R P hPr.1, if_pos rfl, bit_f, Int.add_zero]
        · rw [R _ (by omega), if_neg (by omega), if_neg (by omega), if_pos rfl]
        · refine ⟨fun e => (hdd d hdm).1 e.symm, ?_⟩
          rcases List.mem_cons.1 hdm with g | g
          · rw [g]; show a < key; omega
          · have := (h4 d g).2
            show a < d.2.1
            omega
        · refine seg_move l _ ((k, key, false) :: r) P (2 + 2 * x) false false hs0 ?_ (fun d hdm => ?_)
          · rw [R _ (by omega), if_neg (by omega), if_pos rfl]; rfl
          · have g1 := hdd d hdm
            have g2 := seg_range l _ _ _ hs0 d hdm
            rw [R _ (by omega), R _ (by omega), if_neg (by omega), if_neg (by omega), if_neg (by omega), if_neg (by omega), if_neg (by omega), if_neg (by omega)]
            exact ⟨rfl, rfl⟩
        · rw [R c hc, if_neg (by omega), if_neg (by omega), if_neg (by omega)]
theorem del_go (hB : 2000 ≤ B) (a x : Int) : ∀ (r : List (Int × Int × Bool)) (l : List Int) (P C W V : Int) (i : Nat), l.length = 25 → POk P → Seg l P false r → (∀ d ∈ r, 2 + 2 * d.1 ≠ P) → i + 3 * r.length + 6 ≤ 60 →
    ∃ (l' : List Int) (i' : Nat) (pc' P' C' W' V' : Int), l'.length = 25 ∧ Lo B want used len j picks f0 f1 f2 f3 f4 f5 f6 f7 2 a x i l 0 P C W 0 V false = Lo B want used len j picks f0 f1 f2 f3 f4 f5 f6 f7 2 a x i' l' pc' P' C' W' (if a ∈ live r then 1 else 4) V' true ∧ i' ≤ 60 ∧ Seg l' P false (delC a r) ∧ (∀ c, 0 ≤ c → c ≠ P → (∀ d ∈ r, c ≠ 2 + 2 * d.1) → rd l' c = rd l c)
  | [], l, P, C, W, V, i, hl, hP, hs, hdd, hi => by
    have h0 : rd l P = bit false := hs
    have s0 := go0e B want used len j picks f0 f1 f2 f3 f4 f5 f6 f7 hB 2 a x (by omega) i (by omega) l hl P C W 0 V hP false (Or.inr rfl) h0
    rw [if_neg (by omega)] at s0
    exact ⟨l, i + 1, _, _, _, _, _, hl, s0, by omega, hs, fun c _ _ _ => rfl⟩
  | (k, key, true) :: r, l, P, C, W, V, i, hl, hP, hs, hdd, hi => by
    have hPr := pOk_r P hP
    obtain ⟨h1, h2, h3, h4, h5⟩ := hs
    simp only at h1 h2 h3 h4 h5
    have hh := seg_hd l r _ _ h5
    have hw := seg_rd l r _ _ h5
    rw [List.length_cons] at hi
    have s0 := go0 B want used len j picks f0 f1 f2 f3 f4 f5 f6 f7 hB 2 a x (by omega) i (by omega) l hl P C W 0 V hP k h2 false (Or.inr rfl) h1
    have s1 := go1 B want used len j picks f0 f1 f2 f3 f4 f5 f6 f7 hB 2 a x (by omega) (i + 1) (by omega) l hl P W 0 V hP k h2 false (hd r + 1) (by omega) (by rw [hw, bit_t])
    rw [if_pos (by omega)] at s1
    rw [bit_f, Int.add_zero] at s0 s1 h1
    have s3 := go3 B want used len j picks f0 f1 f2 f3 f4 f5 f6 f7 hB 2 a x (by omega) (i + 1 + 1) (by omega) l hl P 0 V hP k h2 (hd r) (by omega) h1
    have F : ∀ c, 0 ≤ c → rd (l.set P.toNat (hd r)) c = if P = c then hd r else rd l c := fun c hc => rd_set l P c _ (by omega) hc
    have hseg : Seg (l.set P.toNat (hd r)) P false r := seg_move l _ r (2 + 2 * k) P true false h5 (by rw [F P hPr.1, if_pos rfl, bit_f, Int.add_zero]) (fun d hdm => by
      have g1 := hdd d (List.mem_cons_of_mem _ hdm)
      have g2 := seg_range l r _ _ h5 d hdm
      rw [F _ (by omega), F _ (by omega), if_neg (by omega), if_neg (by omega)]
      exact ⟨rfl, rfl⟩)
    obtain ⟨l', i', pc', P', C', W', V', q1, q2, q3, q4, q5⟩ := del_go hB a x r (l.set P.toNat (hd r)) P (2 * (k + 1)) (hd r + 1) V (i + 1 + 1 + 1) (by simpa using hl) hP hseg (fun d hdm => hdd d (List.mem_cons_of_mem _ hdm)) (by omega)
    refine ⟨l', i', pc', P', C', W', V', q1, s0.trans (s1.trans (s3.trans q2)), q3, q4, fun c hc g1 g2 => ?_⟩
    rw [q5 c hc g1 (fun d hdm => g2 d (List.mem_cons_of_mem _ hdm)), F c hc, if_neg (by omega)]
  | (k, key, false) :: r, l, P, C, W, V, i, hl, hP, hs, hdd, hi => by
    have hPr := pOk_r P hP
    have hs0 := hs
    obtain ⟨h1, h2, h3, h4, h5⟩ := hs
    simp only at h1 h2 h3 h4 h5
    have hh := seg_hd l r _ _ h5
    have hw := seg_rd l r _ _ h5
    rw [List.length_cons] at hi
    have hdk := hdd _ List.mem_cons_self
    simp only at hdk
    have s0 := go0 B want used len j picks f0 f1 f2 f3 f4 f5 f6 f7 hB 2 a x (by omega) i (by omega) l hl P C W 0 V hP k h2 false (Or.inr rfl) h1
    have s1 := go1 B want used len j picks f0 f1 f2 f3 f4 f5 f6 f7 hB 2 a x (by omega) (i + 1) (by omega) l hl P W 0 V hP k h2 false (hd r) (by omega) (by rw [hw, bit_f, Int.add_zero])
    rw [if_neg (by omega)] at s1
    have hg := live_gt (k, key, false) r (fun d hdm => (h4 d hdm).2)
    simp only at hg
    by_cases c1 : key < a
    · have s2 := go2lt B want used len j picks f0 f1 f2 f3 f4 f5 f6 f7 hB 2 a x (by omega) (i + 1 + 1) (by omega) l hl P (hd r) 0 V hP k h2 false key h3 c1
      obtain ⟨l', i', pc', P', C', W', V', q1, q2, q3, q4, q5⟩ := del_go hB a x r l (2 + 2 * k) (2 * (k + 1) + bit false) (hd r) key (i + 1 + 1 + 1) hl (Or.inr (by omega)) h5 (fun d hdm => by have := (h4 d hdm).1; omega) (by omega)
      have e1 : delC a ((k, key, false) :: r) = (k, key, false) :: delC a r := by simp [delC, c1]
      have e2 : (if a ∈ live ((k, key, false) :: r) then (1 : Int) else 4) = if a ∈ live r then 1 else 4 := by
        have : ¬ a = key := by omega
        simp [live, this]
      rw [e1, e2]
      refine ⟨l', i', pc', P', C', W', V', q1, s0.trans (s1.trans (s2.trans q2)), q3, ⟨?_, h2, ?_, fun d hdm => ?_, q4⟩, fun c hc g1 g2 => ?_⟩
      · rw [q5 P hPr.1 (by omega) (fun d hdm => by have := hdd d (List.mem_cons_of_mem _ hdm); omega)]
        exact h1
      · show rd l' (1 + 2 * k) = key
        rw [q5 _ (by omega) (by omega) (fun d hdm => by omega)]
        exact h3
      · obtain ⟨d', g1, g2, g3⟩ := mem_delC a r d hdm
        rw [← g2, ← g3]
        exact h4 d' g1
      · exact q5 c hc (fun e => g2 _ List.mem_cons_self e) (fun d hdm => g2 d (List.mem_cons_of_mem _ hdm))
    · have s2 := go2d B want used len j picks f0 f1 f2 f3 f4 f5 f6 f7 hB a x (i + 1 + 1) (by omega) l hl P (hd r) 0 V hP k h2 false key h3 c1
      by_cases c2 : key = a
      · rw [if_pos c2] at s2
        rw [bit_f, Int.add_zero] at s0 s1 s2
        have s3 := go7 B want used len j picks f0 f1 f2 f3 f4 f5 f6 f7 hB a x (i + 1 + 1 + 1) (by omega) l hl P 0 key hP k h2 (hd r) (by omega) (by rw [hw, bit_f, Int.add_zero])
        have e1 : delC a ((k, key, false) :: r) = (k, key, true) :: r := by simp [delC, c2]
        have e2 : (if a ∈ live ((k, key, false) :: r) then (1 : Int) else 4) = 1 := by simp [live, c2]
        have F : ∀ c, 0 ≤ c → rd (l.set (2 + 2 * k).toNat (hd r + 1)) c = if 2 + 2 * k = c then hd r + 1 else rd l c := fun c hc => rd_set l _ c _ (by omega) hc
        rw [e1, e2]
        refine ⟨_, i + 1 + 1 + 1 + 1, _, _, _, _, _, by simpa using hl, s0.trans (s1.trans (s2.trans s3)), by omega, ⟨?_, h2, ?_, h4, ?_⟩, fun c hc g1 g2 => ?_⟩
        · rw [F P hPr.1, if_neg hdk]; exact h1
        · show rd _ (1 + 2 * k) = key
          rw [F _ (by omega), if_neg (by omega)]; exact h3
        · refine seg_move l _ r (2 + 2 * k) (2 + 2 * k) false true h5 (by rw [F _ (by omega), if_pos rfl, bit_t]) (fun d hdm => ?_)
          have g1 := (h4 d hdm).1
          have g2 := seg_range l r _ _ h5 d hdm
          rw [F _ (by omega), F _ (by omega), if_neg (by omega), if_neg (by omega)]
          exact ⟨rfl, rfl⟩
        · rw [F c hc, if_neg (fun e => g2 _ List.mem_cons_self e.symm)]
      · rw [if_neg c2] at s2
        have e1 : delC a ((k, key, false) :: r) = (k, key, false) :: r := by simp [delC, c1, c2]
        have e2 : (if a ∈ live ((k, key, false) :: r) then (1 : Int) else 4) = 4 := by
          have g1 : ¬ a = key := fun e => c2 e.symm
          have g2 : ¬ a ∈ live r := fun hm => by have := hg a hm; omega
          simp [live, g1, g2]
        rw [e1, e2]
        exact ⟨l, i + 1 + 1 + 1, _, _, _, _, _, hl, s0.trans (s1.trans s2), by omega, hs0, fun c _ _ _ => rfl⟩
theorem has_go (hB : 2000 ≤ B) (a x : Int) (l : List Int) (hl : l.length = 25) : ∀ (r : List (Int × Int × Bool)) (P : Int) (b : Bool) (C W V : Int) (i : Nat), POk P → Seg l P b r → i + 3 * r.length + 6 ≤ 60 →
    ∃ (i' : Nat) (pc' P' C' W' V' : Int), Lo B want used len j picks f0 f1 f2 f3 f4 f5 f6 f7 3 a x i l 0 P C W 0 V false = Lo B want used len j picks f0 f1 f2 f3 f4 f5 f6 f7 3 a x i' l pc' P' C' W' (if a ∈ live r then 1 else 4) V' true ∧ i' ≤ 60
  | [], P, b, C, W, V, i, hP, hs, hi => by
    have s0 := go0e B want used len j picks f0 f1 f2 f3 f4 f5 f6 f7 hB 3 a x (by omega) i (by omega) l hl P C W 0 V hP b (Or.inl rfl) hs
    rw [if_neg (by omega)] at s0
    exact ⟨i + 1, _, _, _, _, _, s0, by omega⟩
  | (k, key, m) :: r, P, b, C, W, V, i, hP, hs, hi => by
    obtain ⟨h1, h2, h3, h4, h5⟩ := hs
    simp only at h1 h2 h3 h4 h5
    have hh := seg_hd l r _ _ h5
    have hw := seg_rd l r _ _ h5
    have hbm := bit_r m
    rw [List.length_cons] at hi
    have s0 := go0 B want used len j picks f0 f1 f2 f3 f4 f5 f6 f7 hB 3 a x (by omega) i (by omega) l hl P C W 0 V hP k h2 b (Or.inl rfl) h1
    have s1 := go1 B want used len j picks f0 f1 f2 f3 f4 f5 f6 f7 hB 3 a x (by omega) (i + 1) (by omega) l hl P W 0 V hP k h2 b (hd r + bit m) (by omega) hw
    rw [if_neg (by omega)] at s1
    have hg := live_gt (k, key, m) r (fun d hdm => (h4 d hdm).2)
    simp only at hg
    by_cases c1 : key < a
    · have s2 := go2lt B want used len j picks f0 f1 f2 f3 f4 f5 f6 f7 hB 3 a x (by omega) (i + 1 + 1) (by omega) l hl P (hd r + bit m) 0 V hP k h2 b key h3 c1
      obtain ⟨i', pc', P', C', W', V', q2, q3⟩ := has_go hB a x l hl r (2 + 2 * k) m (2 * (k + 1) + bit b) (hd r + bit m) key (i + 1 + 1 + 1) (Or.inr (by omega)) h5 (by omega)
      have e2 : (if a ∈ live ((k, key, m) :: r) then (1 : Int) else 4) = if a ∈ live r then 1 else 4 := by
        have : ¬ a = key := by omega
        cases m <;> simp [live, this]
      rw [e2]
      exact ⟨i', pc', P', C', W', V', s0.trans (s1.trans (s2.trans q2)), q3⟩
    · have s2 := go2h B want used len j picks f0 f1 f2 f3 f4 f5 f6 f7 hB a x (i + 1 + 1) (by omega) l hl P (hd r + bit m) 0 V (by omega) hP k h2 b key h3 c1
      have e2 : (if a ∈ live ((k, key, m) :: r) then (1 : Int) else 4) = if key = a ∧ (hd r + bit m) % 2 = 0 then 1 else 4 := by
        have g2 : ¬ a ∈ live r := fun hm => by have := hg a hm; omega
        cases m with
        | true =>
          rw [bit_t, if_neg (show ¬ (key = a ∧ (hd r + 1) % 2 = 0) by omega)]
          simp [live, g2]
        | false =>
          rw [bit_f, Int.add_zero]
          by_cases c2 : key = a
          · rw [if_pos (show key = a ∧ hd r % 2 = 0 from ⟨c2, hh.1⟩)]
            simp [live, c2]
          · have g1 : ¬ a = key := fun e => c2 e.symm
            rw [if_neg (show ¬ (key = a ∧ hd r % 2 = 0) from fun h => c2 h.1)]
            simp [live, g1, g2]
      rw [e2]
      exact ⟨i + 1 + 1 + 1, _, _, _, _, _, s0.trans (s1.trans s2), by omega⟩
end Walk
/-! LiKeys, LiApply and the end of a call. -/
theorem mark_e (r : List (Int × Int × Bool)) (m : Bool) (hh : hd r % 2 = 0 ∧ 0 ≤ hd r) : impl_isMarked.f (hd r + bit m) = some m := by
  have := bit_r m
  rw [marked_e _ (by omega)]
  cases m with
  | true => rw [bit_t]; exact congrArg some (decide_eq_true (by omega))
  | false => rw [bit_f]; exact congrArg some (decide_eq_false (by omega))
theorem getB (sn : List Bool) (i k : Nat) (h : i ≠ k) : (sn.set i true).getD k false = sn.getD k false := by
  simp [List.getD, List.getElem?_set, h]
theorem keys_go (l : List Int) (hl : l.length = 25) : ∀ (r : List (Int × Int × Bool)) (P : Int) (b : Bool) (sn : List Bool) (out : List Int) (k : Nat), Seg l P b r → (∀ d ∈ r, sn.getD d.1.toNat false = false) → out.length + r.length ≤ 100 → r.length < k → impl_LiKeys.l0 k 12 sn out (hd r + bit b) l = some (out ++ live r)
  | [], P, b, sn, out, k, hs, hn, ho, hk => by
    obtain ⟨k, rfl⟩ : ∃ m, k = m + 1 := ⟨k - 1, by omega⟩
    have hb := bit_r b
    rw [show hd [] + bit b = bit b from Int.zero_add _]
    simp only [impl_LiKeys.l0]
    rw [isLink _ (by omega)]
    simp only [Option.bind_some, if_true]
    rw [nodeZ]
    simp only [Option.bind_some]
    rw [if_pos (by omega)]
    simp [live]
  | (kn, key, m) :: r, P, b, sn, out, k, hs, hn, ho, hk => by
    rw [List.length_cons] at ho hk
    obtain ⟨k, rfl⟩ : ∃ m, k = m + 1 := ⟨k - 1, by omega⟩
    have hb := bit_r b
    obtain ⟨h1, h2, h3, h4, h5⟩ := hs
    simp only at h1 h2 h3 h4 h5
    have hh := seg_hd l r _ _ h5
    have hw := seg_rd l r _ _ h5
    have e0 : hd ((kn, key, m) :: r) + bit b = 2 * (kn + 1) + bit b := rfl
    have hsn := hn _ List.mem_cons_self
    simp only at hsn
    have IH := fun out' (ho' : out'.length ≤ out.length + 1) => keys_go l hl r (2 + 2 * kn) m (sn.set kn.toNat true) out' k h5 (fun d hdm => by
      have g1 := (h4 d hdm).1
      have g2 := seg_range l r _ _ h5 d hdm
      rw [getB sn _ _ (by omega)]
      exact hn d (List.mem_cons_of_mem _ hdm)) (by omega) (by omega)
    rw [e0]
    simp only [impl_LiKeys.l0]
    rw [isLink _ (by omega)]
    simp only [Option.bind_some, if_true]
    rw [nodeL kn b h2]
    simp only [Option.bind_some]
    rw [if_neg (by omega), if_pos (by omega), if_neg (by rw [hsn]; decide), linkCell kn h2]
    simp only [Option.bind_some]
    rw [if_pos (by omega), if_pos (by omega), hw, mark_e r m ⟨hh.1, hh.2.1⟩]
    simp only [Option.bind_some]
    cases m with
    | true =>
      rw [if_pos rfl, IH out (by omega)]
      simp [live]
    | false =>
      rw [if_neg (by decide), keyCell kn h2]
      simp only [Option.bind_some]
      rw [if_pos (by omega), if_pos (by omega), if_pos (by omega), h3, IH (out ++ [key]) (by rw [List.length_append, List.length_singleton]; omega)]
      simp [live]
theorem getRep (n k : Nat) : (List.replicate n false).getD k false = false := by
  simp only [List.getD, List.getElem?_replicate]
  split <;> rfl
theorem seg_nodes (l : List Int) : ∀ (r : List (Int × Int × Bool)) (P : Int) (b : Bool), Seg l P b r → (r.map (fun e => e.1)).Nodup
  | [], P, b, h => List.nodup_nil
  | e :: r, P, b, h => by
    rw [List.map_cons, List.nodup_cons]
    refine ⟨fun hm => ?_, seg_nodes l r _ _ h.2.2.2.2⟩
    obtain ⟨d, g1, g2⟩ := List.mem_map.1 hm
    exact (h.2.2.2.1 d g1).1 g2.symm
theorem seg_len (l : List Int) (r : List (Int × Int × Bool)) (P : Int) (b : Bool) (h : Seg l P b r) : r.length ≤ 12 := by
  have := pigeon 12 (r.map (fun e => e.1)) (seg_nodes l r P b h) (fun x hx => by
    obtain ⟨d, g1, g2⟩ := List.mem_map.1 hx
    have := seg_range l r P b h d g1
    omega)
  rwa [List.length_map] at this
theorem live_len : ∀ (r : List (Int × Int × Bool)), (live r).length ≤ r.length
  | [] => Nat.le_refl _
  | (k, key, m) :: r => by
    have := live_len r
    cases m <;> simp [live] <;> omega
theorem keys (l : List Int) (hl : l.length = 25) (r : List (Int × Int × Bool)) (h : Seg l 0 false r) : impl_LiKeys.f 12 l = some (live r) := by
  have hlen := seg_len l r _ _ h
  have hw := seg_rd l r _ _ h
  have wl : wrap64 (1 + wrap64 (2 * (12 : Int))) = (l.length : Int) := by rw [w64 (x := 2 * (12 : Int)) (by omega) (by omega), w64 (by omega) (by omega)]; omega
  unfold impl_LiKeys.f impl_LiKeys.g
  rw [within]
  simp only [Option.bind_some]
  rw [if_pos (by decide), wl, if_pos rfl, if_pos (by omega), hw]
  have := keys_go l hl r 0 false (List.replicate 16 false) [] 100 h (fun d hdm => by
    exact getRep _ _) (by simp; omega) (by omega)
  simpa using this
theorem scan_go (a : Int) : ∀ (s pre : List Int) (k : Nat), pre.length + s.length ≤ 100 → s.length < k → ∃ i : Nat, i ≤ (pre ++ s).length ∧ impl_LiApply.l0 k a (pre ++ s) (pre.length : Int) = some (i : Int) ∧ (pre ++ s).take i ++ [a] ++ (pre ++ s).drop i = pre ++ ins a s
  | [], pre, k, hb, hk => by
    obtain ⟨k, rfl⟩ : ∃ m, k = m + 1 := ⟨k - 1, by omega⟩
    refine ⟨pre.length, by simp, ?_, by simp [ins]⟩
    simp only [impl_LiApply.l0, List.append_nil]
    rw [if_neg (by omega)]
  | y :: s, pre, k, hb, hk => by
    rw [List.length_cons] at hb hk
    obtain ⟨k, rfl⟩ : ∃ m, k = m + 1 := ⟨k - 1, by omega⟩
    have hrd : rd (pre ++ y :: s) (pre.length : Int) = y := by rw [rd_nat]; simp [List.getD]
    have hlen : (pre ++ y :: s).length = pre.length + (s.length + 1) := by simp
    by_cases h : y < a
    · obtain ⟨i, g1, g2, g3⟩ := scan_go a s (pre ++ [y]) k (by rw [List.length_append, List.length_singleton]; omega) (by omega)
      have e : pre ++ [y] ++ s = pre ++ y :: s := by simp
      rw [e] at g1 g2 g3
      refine ⟨i, g1, ?_, ?_⟩
      · simp only [impl_LiApply.l0]
        rw [if_pos (by omega), if_pos (by omega), hrd, if_pos h, w64 (by omega) (by omega), ← g2]
        rw [List.length_append, List.length_singleton]
        rfl
      · rw [g3]; simp [ins, h]
    · refine ⟨pre.length, by omega, ?_, ?_⟩
      · simp only [impl_LiApply.l0]
        rw [if_pos (by omega), if_pos (by omega), hrd, if_neg h]
      · simp [ins, h]
theorem apply_add (w : List Int) (hw : w.length ≤ 50) (a : Int) : impl_LiApply.f w 0 1 a (if a ∈ w then 4 else 1) 0 0 0 0 = some (if a ∈ w then w else ins a w, true) := by
  obtain ⟨ix, h1, h2⟩ := Index a w (by omega)
  unfold impl_LiApply.f
  rw [copyInts w (by omega)]
  simp only [Option.bind_some]
  rw [h1]
  simp only [Option.bind_some]
  by_cases hm : a ∈ w
  · have h3 := h2.2 hm
    rw [if_pos hm, if_pos hm, if_neg (by first | omega | (simp; omega) | simp), if_neg (by first | omega | (simp; omega) | simp), if_pos (by first | omega | (simp; omega) | (simp [h3]))]
  · have h3 : ¬ 0 ≤ ix := fun h => hm (h2.1 h)
    obtain ⟨i, g1, g2, g3⟩ := scan_go a w [] (w.length + 2) (by simp; omega) (by omega)
    rw [List.nil_append] at g1 g2 g3
    rw [if_neg hm, if_neg hm, if_pos (by first | omega | (simp; omega) | (simp [h3])), show impl_LiApply.l0 (w.length + 2) a w 0 = some (i : Int) from g2]
    simp only [Option.bind_some]
    rw [if_pos (by first | omega | (simp; omega) | (simp [h3])), Int.toNat_natCast, g3, List.nil_append]
theorem apply_del (w : List Int) (hw : w.length ≤ 50) (a : Int) : impl_LiApply.f w 0 2 a (if a ∈ w then 1 else 4) 0 0 0 0 = some (w.filter (fun x => !decide (x = a)), true) := by
  obtain ⟨ix, h1, h2⟩ := Index a w (by omega)
  unfold impl_LiApply.f
  rw [copyInts w (by omega)]
  simp only [Option.bind_some]
  rw [h1]
  simp only [Option.bind_some]
  by_cases hm : a ∈ w
  · have h3 := h2.2 hm
    have h4 : 0 < w.length := List.length_pos_of_mem hm
    rw [if_pos hm, if_neg (by first | omega | (simp; omega) | simp), if_pos (by first | omega | (simp; omega) | (simp [h3])), if_pos h4]
  · have h3 : ¬ 0 ≤ ix := fun h => hm (h2.1 h)
    rw [if_neg hm, if_neg (by first | omega | (simp; omega) | simp), if_neg (by first | omega | (simp; omega) | simp), if_neg (by first | omega | (simp; omega) | simp), if_pos (by first | omega | (simp; omega) | (simp [h3])), List.filter_eq_self.2 (fun y hy => by
      have : ¬ y = a := fun e => hm (by rw [← e]; exact hy)
      simp [this])]
theorem apply_has (w : List Int) (hw : w.length ≤ 50) (a : Int) : impl_LiApply.f w 0 3 a (if a ∈ w then 1 else 4) 0 0 0 0 = some (w, true) := by
  obtain ⟨ix, h1, h2⟩ := Index a w (by omega)
  unfold impl_LiApply.f
  rw [copyInts w (by omega)]
  simp only [Option.bind_some]
  rw [h1]
  simp only [Option.bind_some]
  by_cases hm : a ∈ w
  · have h3 := h2.2 hm
    rw [if_pos hm, if_neg (by first | omega | (simp; omega) | simp), if_neg (by first | omega | (simp; omega) | simp), if_pos (by first | omega | (simp; omega) | (simp [h3]))]
  · have h3 : ¬ 0 ≤ ix := fun h => hm (h2.1 h)
    rw [if_neg hm, if_neg (by first | omega | (simp; omega) | simp), if_neg (by first | omega | (simp; omega) | simp), if_neg (by first | omega | (simp; omega) | simp), if_pos (by first | omega | (simp; omega) | (simp [h3]))]
/-- The end of a call. -/
theorem endL (K : Nat) (hK : 1100 ≤ K) (want want' : List Int) (used i len j j' : Int) (hj : wrap64 (j + 1) = j') (picks l : List Int) (hl : l.length = 25) (r : List (Int × Int × Bool)) (hs : Seg l 0 false r) (hr : live r = want') (kd a x pc P C W R V : Int) (ha : impl_LiApply.f want 0 kd a R 0 0 0 0 = some (want', true)) :
    laws_FnListOne.l1 (K + 3) 12 want used i picks len j l 0 kd a 1 0 0 0 0 kd a x pc P C W R V true = laws_FnListOne.l0 K 12 want' used picks len j' l := by
  have hk := keys l hl r hs
  rw [hr] at hk
  have hlen := seg_len l r _ _ hs
  have hll := live_len r
  rw [hr] at hll
  have hsm := same want' (by omega) K (by omega)
  have h4 : laws_FnListOne.j4 (K + 1) 12 used want' picks len j false l = laws_FnListOne.l0 K 12 want' used picks len j' l := by
    simp only [laws_FnListOne.j4, Bool.false_eq_true, if_false]
    rw [hk]
    simp only [Option.bind_some]
    rw [hsm]
    simp only [Option.bind_some, if_true, hj]
  rw [← h4]
  simp only [laws_FnListOne.l1, Bool.not_true, ite_self, laws_FnListOne.j3, Bool.false_eq_true, if_false]
  rw [ha]
  simp only [Option.bind_some, if_true, Bool.not_true]
theorem round_ (B : Nat) (hB : 2000 ≤ B) (kd a x : Int) (u : Nat) (hu : u ≤ 12) (hk : (kd = 1 ∧ u < 12 ∧ x = (u : Int)) ∨ kd = 2 ∨ kd = 3) (ch : List (Int × Int × Bool)) (l : List Int) (hl : l.length = 25) (hs : Seg l 0 false ch) (hn : ∀ d ∈ ch, d.1 < (u : Int)) (used len j j' : Int) (hj : wrap64 (j + 1) = j') (picks : List Int) :
    ∃ (K : Nat) (ch' : List (Int × Int × Bool)) (l' : List Int), B + 70 ≤ K ∧ l'.length = 25 ∧ Seg l' 0 false ch' ∧ (∀ d ∈ ch', d.1 < if kd = 1 then (u : Int) + 1 else (u : Int)) ∧ laws_FnListOne.l1 (2 * (100 - 0) + B) 12 (live ch) used 0 picks len j l 0 kd a 1 0 0 0 0 kd a x 0 0 0 0 0 0 false = laws_FnListOne.l0 K 12 (live ch') used picks len j' l' := by
  have hlen := seg_len l ch _ _ hs
  have hll := live_len ch
  have hsrt := seg_srt l ch _ _ hs
  have hrng := seg_range l ch _ _ hs
  have fin : ∀ (i' : Nat) (hi' : i' ≤ 60), ∃ K, 2 * (100 - i') + B = K + 3 ∧ B + 70 ≤ K := fun i' hi' => ⟨2 * (100 - i') + B - 3, by omega, by omega⟩
  rcases hk with ⟨rfl, hu2, rfl⟩ | rfl | rfl
  · obtain ⟨l', i', pc', P', C', W', V', q1, q2, q3, q4, -⟩ := add_go B (live ch) used len j picks 0 1 a 1 0 0 0 0 hB a (u : Int) (by omega) ch l 0 0 0 0 0 hl (Or.inl rfl) hs (by omega) (fun d hdm => by have g1 := hn d hdm; have g2 := hrng d hdm; omega) (by omega)
    obtain ⟨K, k1, k2⟩ := fin i' q3
    have ha := apply_add (live ch) (by omega) a
    rw [← live_add a (u : Int) ch hsrt] at ha
    unfold Lo at q2
    rw [k1] at q2
    refine ⟨K, addC a (u : Int) ch, l', k2, q1, q4, fun d hdm => ?_, q2.trans (endL K (by omega) (live ch) _ used (i' : Int) len j j' hj picks l' q1 _ q4 rfl 1 a (u : Int) pc' P' C' W' _ V' ha)⟩
    rw [if_pos rfl]
    rcases mem_addC a (u : Int) ch d hdm with g | g
    · have := hn d g; omega
    · rw [g]; show (u : Int) < u + 1; omega
  · obtain ⟨l', i', pc', P', C', W', V', q1, q2, q3, q4, -⟩ := del_go B (live ch) used len j picks 0 2 a 1 0 0 0 0 hB a x ch l 0 0 0 0 0 hl (Or.inl rfl) hs (fun d hdm => by have g2 := hrng d hdm; omega) (by omega)
    obtain ⟨K, k1, k2⟩ := fin i' q3
    have ha := apply_del (live ch) (by omega) a
    rw [← live_del a ch hsrt] at ha
    unfold Lo at q2
    rw [k1] at q2
    refine ⟨K, delC a ch, l', k2, q1, q4, fun d hdm => ?_, q2.trans (endL K (by omega) (live ch) _ used (i' : Int) len j j' hj picks l' q1 _ q4 rfl 2 a x pc' P' C' W' _ V' ha)⟩
    rw [if_neg (by omega)]
    obtain ⟨d', g1, g2, -⟩ := mem_delC a ch d hdm
    rw [← g2]
    exact hn d' g1
  · obtain ⟨i', pc', P', C', W', V', q2, q3⟩ := has_go B (live ch) used len j picks 0 3 a 1 0 0 0 0 hB a x l hl ch 0 false 0 0 0 0 (Or.inl rfl) hs (by omega)
    obtain ⟨K, k1, k2⟩ := fin i' q3
    have ha := apply_has (live ch) (by omega) a
    unfold Lo at q2
    rw [k1] at q2
    refine ⟨K, ch, l, k2, hl, hs, fun d hdm => ?_, q2.trans (endL K (by omega) (live ch) _ used (i' : Int) len j j' hj picks l hl _ hs rfl 3 a x pc' P' C' W' _ V' ha)⟩
    rw [if_neg (by omega)]
    exact hn d hdm
theorem wj (j : Nat) (h : j ≤ 100) : wrap64 ((j : Int) + 1) = ((j + 1 : Nat) : Int) := by rw [w64 (by omega) (by omega)]; omega
theorem main_go (X : Nat → Nat) (hX : ∀ d, X d + 300 ≤ X (d + 1)) (hX0 : ∀ d, 2500 ≤ X d) (picks : List Int) (hp : picks.length ≤ 24) (hpr : ∀ x ∈ picks, 0 ≤ x ∧ x < 12) (d : Nat) : ∀ (j u : Nat) (ch : List (Int × Int × Bool)) (l : List Int), picks.length - j = d → j ≤ picks.length → u ≤ 12 → l.length = 25 → Seg l 0 false ch → (∀ e ∈ ch, e.1 < (u : Int)) → ∀ k, X d ≤ k → laws_FnListOne.l0 k 12 (live ch) (u : Int) picks (picks.length : Int) (j : Int) l = some true := by
  induction d with
  | zero =>
    intro j u ch l hd hj hu hl hs hn k hk
    have hX0d := hX0 0
    obtain ⟨k, rfl⟩ : ∃ m, k = m + 1 := ⟨k - 1, by omega⟩
    simp only [laws_FnListOne.l0]
    rw [if_neg (by omega), w64 (x := 2 * (12 : Int)) (by omega) (by omega), w64 (by omega) (by omega), beq_iff_eq.mpr (by omega)]
  | succ d ih =>
    intro j u ch l hd hj hu hl hs hn kk hk
    have hXd := hX d
    have hX0d := hX0 d
    obtain ⟨B, hm0⟩ : ∃ B, kk = B + 202 := ⟨kk - 202, by omega⟩
    obtain ⟨K0, hK0⟩ : ∃ K0, K0 = 2 * (100 - 0) + B := ⟨_, rfl⟩
    have hm1 : kk = K0 + 2 := by omega
    clear hm0
    have hk2 : X d ≤ B + 70 := by omega
    have hk3 : 2000 ≤ B := by omega
    have hk4 : X d ≤ K0 := by omega
    clear hk hXd hX0d
    subst hm1
    have hd1 : picks.length - (j + 1) = d := by omega
    have hj1 : j + 1 ≤ picks.length := by omega
    have hpm : 0 ≤ rd picks (j : Int) ∧ rd picks (j : Int) < 12 := by
      rw [rd_nat]
      have hjl : j < picks.length := by omega
      have : picks.getD j 0 = picks[j] := by simp [List.getD, hjl]
      rw [this]
      exact hpr _ (List.getElem_mem hjl)
    have hkd : wrap64 (1 + Int.tmod (rd picks (j : Int)) 3) = 1 + rd picks (j : Int) % 3 := by
      rw [Int.tmod_eq_emod_of_nonneg hpm.1, w64 (by omega) (by omega)]
    have hA : wrap64 (Int.tdiv (rd picks (j : Int)) 3) = rd picks (j : Int) / 3 := by
      rw [Int.tdiv_eq_ediv_of_nonneg hpm.1, w64 (by omega) (by omega)]
    simp only [laws_FnListOne.l0]
    rw [if_pos (by omega), if_pos (by omega), if_pos (by omega), hkd, hA]
    clear hA
    generalize rd picks (j : Int) / 3 = A
    obtain ⟨kd, hkdd⟩ : ∃ kd, kd = 1 + rd picks (j : Int) % 3 := ⟨_, rfl⟩
    have hkr : kd = 1 ∨ kd = 2 ∨ kd = 3 := by clear hkd; omega
    rw [← hkdd]
    clear hkdd hkd hpm
    have hwj := wj j (by omega)
    have go : ∀ (x : Int) (u2 : Nat), u2 ≤ 12 → (kd = 1 ∧ u < 12 ∧ x = (u : Int) ∧ u2 = u + 1) ∨ (¬ kd = 1 ∧ u2 = u) → laws_FnListOne.l1 K0 12 (live ch) (u2 : Int) 0 picks (picks.length : Int) (j : Int) l 0 kd A 1 0 0 0 0 kd A x 0 0 0 0 0 0 false = some true := by
      intro x u2 hu2 hc
      obtain ⟨K, ch', l', r1, r2, r3, r4, r5⟩ := round_ B hk3 kd A x u hu (by
        rcases hc with ⟨e1, e2, e3, -⟩ | ⟨e1, -⟩
        · exact Or.inl ⟨e1, e2, e3⟩
        · rcases hkr with e | e | e
          · exact absurd e e1
          · exact Or.inr (Or.inl e)
          · exact Or.inr (Or.inr e)) ch l hl hs hn (u2 : Int) (picks.length : Int) (j : Int) _ hwj picks
      rw [hK0, r5]
      refine ih (j + 1) u2 ch' l' hd1 hj1 hu2 r2 r3 (fun e he => ?_) K (Nat.le_trans hk2 r1)
      have := r4 e he
      rcases hc with ⟨e1, e2, e3, e4⟩ | ⟨e1, e4⟩
      · rw [if_pos e1] at this; omega
      · rw [if_neg e1] at this; omega
    have fj : ∀ b, b = (decide (kd = 1) && decide (u = 12)) → laws_FnListOne.j1 (K0 + 1) 12 (live ch) (u : Int) picks (picks.length : Int) (j : Int) b l 0 kd A 1 0 0 0 0 = some true := by
      intro b hb
      simp only [laws_FnListOne.j1]
      by_cases hb1 : kd = 1 ∧ u = 12
      · rw [hb, decide_eq_true hb1.1, decide_eq_true hb1.2, Bool.true_and, if_pos rfl, hwj]
        exact ih (j + 1) u ch l hd1 hj1 hu hl hs hn _ hk4
      · have hbf : b = false := by
          rw [hb]
          by_cases e1 : kd = 1
          · rw [decide_eq_false (show ¬ u = 12 from fun e => hb1 ⟨e1, e⟩), Bool.and_false]
          · rw [decide_eq_false e1, Bool.false_and]
        rw [hbf, if_neg (by decide)]
        by_cases e1 : kd = 1
        · subst e1
          simp only [impl_LiCall.f, if_true, Option.bind_some, beq_self_eq_true, laws_less.f]
          rw [w64 (x := (u : Int) + 1) (by omega) (by omega)]
          exact go (u : Int) (u + 1) (by omega) (Or.inl ⟨rfl, by omega, rfl, rfl⟩)
        · have hbe : (kd == 1) = false := beq_eq_false_iff_ne.mpr e1
          simp only [laws_less.f, hbe, Bool.false_eq_true, if_false, Option.bind_some]
          have hcall : impl_LiCall.f kd A (u : Int) = some (kd, A, 0, 0, 0, 0, 0, 0, 0, false) := by
            unfold impl_LiCall.f
            rw [if_neg e1]
            rcases hkr with e | e | e
            · exact absurd e e1
            · rw [if_pos e]
            · rw [if_neg (by omega), if_pos e]
          rw [hcall]
          simp only [Option.bind_some]
          rw [w64 (x := (u : Int) + 0) (by omega) (by omega), Int.add_zero]
          exact go 0 u hu (Or.inr ⟨e1, rfl⟩)
    by_cases e1 : kd = 1
    · rw [if_pos e1]
      refine fj _ ?_
      rw [decide_eq_true e1, Bool.true_and]
      by_cases e : u = 12
      · subst e; rfl
      · rw [decide_eq_false e]; exact beq_eq_false_iff_ne.mpr (by omega)
    · rw [if_neg e1]
      refine fj _ ?_
      rw [decide_eq_false e1, Bool.false_and]
theorem LiNew12 : impl_LiNew.f 12 = some (List.replicate 25 0, true) := by
  have w1 : wrap64 (1 + wrap64 (2 * (12 : Int))) = 25 := by rw [w64 (x := 2 * (12 : Int)) (by omega) (by omega), w64 (by omega) (by omega)]; rfl
  unfold impl_LiNew.f
  rw [within]
  simp only [Option.bind_some]
  rw [if_pos (by decide), w1, if_pos (by omega), if_pos (by decide)]
  rfl


theorem FnListOne : laws_FnListOne.Pure := by
  intro l _ _ _
  by_cases hl : l.length ≤ 1048576
  · obtain ⟨picks, p1, p2, hp⟩ := MakePicks l hl 20 (by omega) (by omega)
    obtain ⟨K, hK⟩ : ∃ K : Nat, 1048600 ≤ K := ⟨1048600, Nat.le_refl _⟩
    refine ⟨K, ?_⟩
    unfold laws_FnListOne.f
    rw [if_neg (by omega), LiNew12]
    simp only [Option.bind_some, if_true]
    rw [hp K (by omega)]
    simp only [Option.bind_some]
    exact main_go (fun d => d * 300 + 2500) (fun d => by show d * 300 + 2500 + 300 ≤ (d + 1) * 300 + 2500; rw [Nat.succ_mul]; omega) (fun d => Nat.le_add_left _ _) picks (by omega) p2 picks.length 0 0 [] (List.replicate 25 0) (by omega) (Nat.zero_le _) (by omega) (by simp) rfl (fun e he => by cases he) K (by show picks.length * 300 + 2500 ≤ K; omega)
  · refine ⟨0, ?_⟩
    unfold laws_FnListOne.f
    rw [if_pos (by omega)]

end Go.Proofs.Ytjikobdblohphaa.Pure
