/- The law FnRingOne answers true whatever its arguments hold: the program's function and the reference's come to the same, and no list of an answer is shared. No condition. -/
import Derived.Test.YtfahmmlkcmadeaaPFnRingOnex7
namespace Go.Proofs.Ytfahmmlkcmadeaa.Pure
open Go.RowKit Go.Proofs.Ytfahmmlkcmadeaa.PFnRingOne Go.Proofs.YtfahmmlkcmadeaaW.PrintWords Go.Proofs.YtfahmmlkcmadeaaW.PrintLast
set_option linter.unusedSimpArgs false
set_option linter.unusedVariables false

/-! Small facts. -/
theorem w64 {x : Int} (h0 : -9223372036854775808 ≤ x) (h1 : x ≤ 9223372036854775807) : wrap64 x = x := by unfold wrap64; omega
theorem rd_nat (l : List Int) (j : Nat) : rd l (j : Int) = l.getD j 0 := by simp [rd]
/-- The numbers from m on, n of them. -/
def marked (m : Int) (n : Nat) : List Int := (List.range n).map fun (i : Nat) => m + (i : Int)
theorem marked_len (m : Int) (n : Nat) : (marked m n).length = n := by simp [marked]
theorem marked_get (m : Int) (n j : Nat) (h : j < n) : (marked m n).getD j 0 = m + j := by simp [marked, List.getD, h]
theorem neg1 (n : Nat) : ((1 : Int) + (n : Int) < 0) = False := by simp only [eq_iff_iff, iff_false]; omega
theorem neg0 : ((-1 : Int) < 0) = True := by simp
theorem i64r {n : Int} (h : (Lit.int .i64 n).wf = true) : -9223372036854775808 ≤ n ∧ n ≤ 9223372036854775807 := by
  have e1 : IntKind.i64.min = -9223372036854775808 := by decide
  have e2 : IntKind.i64.max = 9223372036854775807 := by decide
  simp only [Lit.wf, Bool.and_eq_true, decide_eq_true_eq, e1, e2] at h
  exact h

theorem within (a lo hi : Int) : impl_within.f a lo hi = some (decide (lo ≤ a ∧ a ≤ hi)) := by
  unfold impl_within.f
  by_cases h : a ≥ lo
  · rw [if_pos h]
    have h' : lo ≤ a := h
    simp [h']
  · rw [if_neg h]
    have h' : ¬ lo ≤ a := h
    simp [h']

/-! Made numbers. -/
theorem and255 (x : Int) : ∃ n : Nat, n ≤ 255 ∧ Go.bits .and .i64 x 255 = (n : Int) := by
  refine ⟨((BitVec.ofInt 64 x) &&& (BitVec.ofInt 64 255)).toNat, ?_, ?_⟩
  · rw [BitVec.toNat_and, show (BitVec.ofInt 64 255).toNat = 255 from by decide]
    exact Nat.and_le_right
  · have h : Go.bits .and .i64 x 255 = IntKind.i64.wrap (((BitVec.ofInt 64 x) &&& (BitVec.ofInt 64 255)).toNat : Int) := rfl
    have hb : ((BitVec.ofInt 64 x) &&& (BitVec.ofInt 64 255)).toNat ≤ 255 := by
      rw [BitVec.toNat_and, show (BitVec.ofInt 64 255).toNat = 255 from by decide]
      exact Nat.and_le_right
    rw [h, IntKind.wrap_i64]
    omega
theorem xorN (x y : Nat) (hx : x < 2 ^ 32) (hy : y < 2 ^ 32) : ∃ n : Nat, n < 2 ^ 32 ∧ Go.bits .xor .i64 (x : Int) (y : Int) = (n : Int) := by
  refine ⟨x ^^^ y, Nat.xor_lt_two_pow hx hy, ?_⟩
  have h : Go.bits .xor .i64 (x : Int) (y : Int) = IntKind.i64.wrap (((BitVec.ofInt 64 (x : Int)) ^^^ (BitVec.ofInt 64 (y : Int))).toNat : Int) := rfl
  have e : ((BitVec.ofInt 64 (x : Int)) ^^^ (BitVec.ofInt 64 (y : Int))).toNat = x ^^^ y := by
    rw [BitVec.toNat_xor, BitVec.ofInt_natCast, BitVec.ofInt_natCast, BitVec.toNat_ofNat, BitVec.toNat_ofNat, Nat.mod_eq_of_lt (by omega), Nat.mod_eq_of_lt (by omega)]
  have hb := Nat.xor_lt_two_pow hx hy
  rw [h, e, IntKind.wrap_i64]
  omega
theorem l01Byte (l : List Int) (p : Int) (s : Int) (hp : 0 ≤ p) (hp2 : p ≤ 1000000000) : ∃ b p' s' : Int, 0 ≤ b ∧ b ≤ 255 ∧ 0 ≤ p' ∧ p' ≤ p + 1 ∧ spec_l01Byte.f l p s = some (b, p', s') := by
  unfold spec_l01Byte.f
  by_cases h : p < (l.length : Int)
  · rw [if_pos h, if_pos hp]
    obtain ⟨n, hn, e⟩ := and255 (wrap64 ((Go.bits .and .i64 (Go.bits .xor .i64 ((wrap64 ((wrap64 (s * 6364136223846793005)) + 1442695040888963407)) / 8589934592) ((wrap64 ((wrap64 (s * 6364136223846793005)) + 1442695040888963407)) / 35184372088832)) 255) + (wrap64 (rd l p))))
    rw [e, w64 (x := p + 1) (by omega) (by omega)]
    exact ⟨_, _, _, by omega, by omega, by omega, by omega, rfl⟩
  · rw [if_neg h]
    obtain ⟨n, hn, e⟩ := and255 (Go.bits .xor .i64 ((wrap64 ((wrap64 (s * 6364136223846793005)) + 1442695040888963407)) / 8589934592) ((wrap64 ((wrap64 (s * 6364136223846793005)) + 1442695040888963407)) / 35184372088832))
    rw [e]
    exact ⟨_, _, _, by omega, by omega, hp, by omega, rfl⟩
theorem l01New_go (l : List Int) (hl : l.length ≤ 1048576) (d : Nat) : ∀ (j : Nat) (v : Int), l.length - j = d → j ≤ l.length → ∃ s, ∀ k, d < k → spec_l01New.l0 k l v (j : Int) = some (l, 0, s) := by
  induction d with
  | zero =>
    intro j v hd hj
    refine ⟨v, fun k hk => ?_⟩
    obtain ⟨k, rfl⟩ : ∃ m, k = m + 1 := ⟨k - 1, by omega⟩
    simp only [spec_l01New.l0]
    rw [if_neg (by omega)]
  | succ d ih =>
    intro j v hd hj
    by_cases h : (j : Int) < 4000
    · obtain ⟨s, hs⟩ := ih (j + 1) (Go.bits .and .i64 (wrap64 ((wrap64 ((wrap64 (v * 179)) + (wrap64 (rd l (j : Int))))) + 7)) 1073741823) (by omega) (by omega)
      refine ⟨s, fun k hk => ?_⟩
      obtain ⟨k, rfl⟩ : ∃ m, k = m + 1 := ⟨k - 1, by omega⟩
      simp only [spec_l01New.l0]
      rw [if_pos (by omega), if_pos h, if_pos (by omega), w64 (x := (j : Int) + 1) (by omega) (by omega), show (j : Int) + 1 = ((j + 1 : Nat) : Int) by omega]
      exact hs k (by omega)
    · refine ⟨v, fun k hk => ?_⟩
      obtain ⟨k, rfl⟩ : ∃ m, k = m + 1 := ⟨k - 1, by omega⟩
      simp only [spec_l01New.l0]
      rw [if_pos (by omega), if_neg h]
theorem l01BelowS (l : List Int) (p s m : Int) (hp : 0 ≤ p) (hp2 : p ≤ 1000000000) (hm : 1 ≤ m) (hm2 : m ≤ 256) : ∃ b p' s' : Int, 0 ≤ b ∧ b < m ∧ 0 ≤ p' ∧ p' ≤ p + 1 ∧ spec_l01Below.f l p s m = some (b, p', s') := by
  obtain ⟨b1, p1, s1, h1, h2, h3, h4, e1⟩ := l01Byte l p s hp hp2
  unfold spec_l01Below.f
  rw [if_neg (by omega), if_pos (by omega), e1]
  simp only [Option.bind_some]
  rw [if_neg (by omega), Int.tmod_eq_emod_of_nonneg h1]
  exact ⟨_, _, _, Int.emod_nonneg _ (by omega), Int.emod_lt_of_pos _ (by omega), h3, h4, rfl⟩
theorem MakeNumS (l : List Int) (hl : l.length ≤ 1048576) (m : Int) (hm : 1 ≤ m) (hm2 : m ≤ 256) : ∃ v : Int, 0 ≤ v ∧ v < m ∧ ∀ k, 1048577 ≤ k → spec_MakeNum.f k l m = some v := by
  obtain ⟨s, hs⟩ := l01New_go l hl l.length 0 (wrap64 (774119 + (l.length : Int))) (by omega) (Nat.zero_le _)
  obtain ⟨b, p', s', h1, h2, h3, h4, e⟩ := l01BelowS l 0 (wrap64 (s + 777)) m (by omega) (by omega) hm hm2
  refine ⟨b, h1, h2, fun k hk => ?_⟩
  unfold spec_MakeNum.f spec_l01New.f
  have h0 : spec_l01New.l0 k l (wrap64 (774119 + (l.length : Int))) 0 = _ := hs k (by omega)
  rw [h0]
  simp only [Option.bind_some]
  rw [e]
  rfl
theorem Picks_go (l : List Int) (n : Nat) : ∀ (out : List Int) (p s : Int), 0 ≤ p → p + n ≤ 1000000 → out.length + n ≤ 1000 → (∀ x ∈ out, 0 ≤ x ∧ x < 12) → ∃ (r : List Int) (p' s' : Int), r.length = out.length + n ∧ (∀ x ∈ r, 0 ≤ x ∧ x < 12) ∧ ∀ k, n < k → spec_l07Picks.l0 k out (n : Int) l p s = some (r, p', s') := by
  induction n with
  | zero =>
    intro out p s hp hp2 ho hx
    refine ⟨out, p, s, rfl, hx, fun k hk => ?_⟩
    obtain ⟨k, rfl⟩ : ∃ m, k = m + 1 := ⟨k - 1, by omega⟩
    simp only [spec_l07Picks.l0]
    rw [if_neg (by omega)]
  | succ n ih =>
    intro out p s hp hp2 ho hx
    obtain ⟨b, p1, s1, h1, h2, h3, h4, e⟩ := l01BelowS l p s 12 hp (by omega) (by omega) (by omega)
    obtain ⟨r, p', s', r1, r2, r3⟩ := ih (out ++ [b]) p1 s1 h3 (by omega) (by simp; omega) (fun x hxx => by
      rcases List.mem_append.1 hxx with g | g
      · exact hx x g
      · obtain rfl := List.mem_singleton.1 g
        exact ⟨h1, h2⟩)
    refine ⟨r, p', s', by rw [r1]; simp; omega, r2, fun k hk => ?_⟩
    obtain ⟨k, rfl⟩ : ∃ m, k = m + 1 := ⟨k - 1, by omega⟩
    simp only [spec_l07Picks.l0]
    rw [if_pos (by omega), e]
    simp only [Option.bind_some]
    rw [if_pos (by omega), w64 (by omega) (by omega), show ((n + 1 : Nat) : Int) - 1 = (n : Int) by omega]
    exact r3 k (by omega)
theorem MakePicks (l : List Int) (hl : l.length ≤ 1048576) (m : Int) (hm : 1 ≤ m) (hm2 : m ≤ 200) : ∃ r : List Int, (r.length : Int) ≤ m ∧ (∀ x ∈ r, 0 ≤ x ∧ x < 12) ∧ ∀ k, 1048577 ≤ k → spec_MakePicks.f k l m = some r := by
  obtain ⟨s, hs⟩ := l01New_go l hl l.length 0 (wrap64 (774119 + (l.length : Int))) (by omega) (Nat.zero_le _)
  obtain ⟨b, p', s', h1, h2, h3, h4, e⟩ := l01BelowS l 0 (wrap64 (s + 222)) (m + 1) (by omega) (by omega) (by omega) (by omega)
  obtain ⟨n, rfl⟩ : ∃ n : Nat, b = (n : Int) := ⟨b.toNat, by omega⟩
  obtain ⟨r, p2, s2, r1, r2, r3⟩ := Picks_go l n [] p' s' h3 (by omega) (by simp; omega) (fun x hx => by cases hx)
  refine ⟨r, by rw [r1]; simp; omega, r2, fun k hk => ?_⟩
  unfold spec_MakePicks.f spec_l01New.f
  have h0 : spec_l01New.l0 k l (wrap64 (774119 + (l.length : Int))) 0 = _ := hs k (by omega)
  rw [h0]
  simp only [Option.bind_some]
  unfold spec_l07Picks.f
  rw [w64 (x := m + 1) (by omega) (by omega), e]
  simp only [Option.bind_some]
  rw [r3 k (by omega)]
  rfl

/-! A ring, one call after the other. -/
theorem copyInts (l : List Int) (hl : l.length ≤ 1048576) : impl_copyInts.f l = some l := by
  unfold impl_copyInts.f
  rw [if_pos (by rw [List.length_nil]; omega)]; rfl
theorem ActOkT (l : List Int) (hl : l.length ≤ 300) (kd at_ a b : Int) (hk : 1 ≤ kd ∧ kd ≤ 4) (ha : 0 ≤ at_ ∧ at_ < (l.length : Int)) (h1 : kd = 1 → a = 0) (h3 : kd ≠ 3 → b = 0) : impl_ActOk.f l kd at_ a b = some true := by
  unfold impl_ActOk.f
  rw [within, within]
  simp only [Option.bind_some]
  rw [w64 (by omega) (by omega), if_pos (decide_eq_true (by omega)), if_pos (decide_eq_true (by omega)), if_neg (by omega)]
  by_cases e1 : kd = 1
  · rw [if_pos e1, if_pos (h1 e1), if_neg (by omega)]
    have := h3 (by omega)
    simp [this]
  · rw [if_neg e1]
    by_cases e3 : kd = 3
    · rw [if_pos e3]
    · rw [if_neg e3]
      have := h3 e3
      simp [this]
theorem copyMem (l : List Int) (hl : l.length ≤ 300) : impl_copyMem.f l = some l := by
  unfold impl_copyMem.f
  rw [copyInts l (by omega)]
  rfl
theorem DoLoad (l : List Int) (hl : l.length ≤ 300) (at_ : Int) (ha : 0 ≤ at_ ∧ at_ < (l.length : Int)) : impl_Do.f l 1 at_ 0 0 = some (l, rd l at_, true) := by
  unfold impl_Do.f
  rw [ActOkT l hl 1 at_ 0 0 (by omega) ha (fun _ => rfl) (fun _ => rfl)]
  simp only [Option.bind_some, if_true]
  rw [copyMem l hl]
  simp only [Option.bind_some]
  rw [if_pos (by omega), if_pos (by omega)]
theorem DoStore (l : List Int) (hl : l.length ≤ 300) (at_ v : Int) (ha : 0 ≤ at_ ∧ at_ < (l.length : Int)) : impl_Do.f l 2 at_ v 0 = some (l.set at_.toNat v, 0, true) := by
  unfold impl_Do.f
  rw [ActOkT l hl 2 at_ v 0 (by omega) ha (fun h => by omega) (fun _ => rfl)]
  simp only [Option.bind_some, if_true]
  rw [copyMem l hl]
  simp only [Option.bind_some]
  rw [if_pos (by omega), if_pos (by omega), if_neg (by omega), if_pos (by omega)]
theorem DoCas (l : List Int) (hl : l.length ≤ 300) (at_ a b : Int) (ha : 0 ≤ at_ ∧ at_ < (l.length : Int)) (hr : rd l at_ = a) : impl_Do.f l 3 at_ a b = some (l.set at_.toNat b, 1, true) := by
  unfold impl_Do.f
  rw [ActOkT l hl 3 at_ a b (by omega) ha (fun h => by omega) (fun h => absurd rfl h)]
  simp only [Option.bind_some, if_true]
  rw [copyMem l hl]
  simp only [Option.bind_some]
  rw [if_pos (by omega), if_pos (by omega), if_neg (by omega), if_neg (by omega), if_pos hr, if_pos (by omega)]
theorem ModN (P n : Nat) (hn : 2 ≤ n) : impl_Mod.f (P : Int) (n : Int) = some ((P % n : Nat) : Int) := by
  unfold impl_Mod.f
  have e : Int.tmod (P : Int) (n : Int) = ((P % n : Nat) : Int) := by
    rw [Int.tmod_eq_emod_of_nonneg (by omega)]
    simp
  rw [if_neg (by omega), if_neg (by omega), e, if_neg (by omega)]
/-- One step of a call, by its act and what comes of it. -/
theorem riact (k n : Nat) (hn : 2 ≤ n ∧ n ≤ 16) (kd a x : Int) (P : Nat) (hP : P ≤ 1000) (C W res V : Int) (hk : kd = 1 ∨ kd = 2) :
    impl_RiAct.f (k + 2) (n : Int) kd a x 0 (P : Int) C W res V false = some (1, kd - 1, 0, 0, true) ∧
    impl_RiAct.f (k + 2) (n : Int) kd a x 1 (P : Int) C W res V false = some (1, ((2 + 2 * (P % n) : Nat) : Int), 0, 0, true) ∧
    impl_RiAct.f (k + 2) (n : Int) kd a x 2 (P : Int) C W res V false = some (3, kd - 1, (P : Int), ((P + 1 : Nat) : Int), true) ∧
    impl_RiAct.f (k + 2) (n : Int) kd a x 3 (P : Int) C W res V false = some (if kd = 1 then (2, ((3 + 2 * (P % n) : Nat) : Int), a, 0, true) else (1, ((3 + 2 * (P % n) : Nat) : Int), 0, 0, true)) ∧
    impl_RiAct.f (k + 2) (n : Int) kd a x 4 (P : Int) C W res V false = some (2, ((2 + 2 * (P % n) : Nat) : Int), if kd = 1 then ((P + 1 : Nat) : Int) else ((P + n : Nat) : Int), 0, true) := by
  have hm : P % n < n := Nat.mod_lt _ (by omega)
  have w1 : wrap64 (kd - 1) = kd - 1 := w64 (by omega) (by omega)
  have hmod := ModN P n hn.1
  generalize P % n = M at hm hmod ⊢
  have w2 : wrap64 (2 * (M : Int)) = 2 * (M : Int) := w64 (by omega) (by omega)
  have w3 : wrap64 (2 + 2 * (M : Int)) = 2 + 2 * (M : Int) := w64 (by omega) (by omega)
  have w4 : wrap64 (2 + 2 * (M : Int) + 1) = 3 + 2 * (M : Int) := by rw [w64 (by omega) (by omega)]; omega
  have w5 : wrap64 ((P : Int) + 1) = (P : Int) + 1 := w64 (by omega) (by omega)
  have w6 : wrap64 ((P : Int) + (n : Int)) = (P : Int) + (n : Int) := w64 (by omega) (by omega)
  have d1 : decide ((2 : Int) ≤ (n : Int) ∧ (n : Int) ≤ 16) = true := decide_eq_true (by omega)
  have d2 : decide ((1 : Int) ≤ kd ∧ kd ≤ 2) = true := decide_eq_true (by omega)
  have dd : ∀ pc : Int, 0 ≤ pc → pc ≤ 4 → decide ((0 : Int) ≤ pc ∧ pc ≤ 4) = true := fun pc h1 h2 => decide_eq_true ⟨h1, h2⟩
  refine ⟨?_, ?_, ?_, ?_, ?_⟩
  · simp [impl_RiAct.f, impl_RiAct.j0, within, hmod, d1, d2, w1]
  · simp [impl_RiAct.f, impl_RiAct.j0, within, hmod, d1, d2, w2, w3]
  · simp [impl_RiAct.f, impl_RiAct.j0, within, hmod, d1, d2, w1, w5]
  · rcases hk with rfl | rfl
    · simp [impl_RiAct.f, impl_RiAct.j0, impl_RiAct.j1, within, hmod, d1, w2, w3, w4]
    · simp [impl_RiAct.f, impl_RiAct.j0, impl_RiAct.j1, within, hmod, d1, w2, w3, w4]
  · rcases hk with rfl | rfl
    · simp [impl_RiAct.f, impl_RiAct.j0, impl_RiAct.j1, within, hmod, d1, w2, w3, w5]
    · simp [impl_RiAct.f, impl_RiAct.j0, impl_RiAct.j1, within, hmod, d1, w2, w3, w6]
/-- The steps, one by one. -/
theorem st0 (k n : Nat) (hn : 2 ≤ n ∧ n ≤ 16) (l : List Int) (hl : l.length = 2 + 2 * n) (kd a x : Int) (C W res V : Int) (hk : kd = 1 ∨ kd = 2) (P : Nat) (hP : P ≤ 1000) :
    impl_RiStep.f (k + 5) (n : Int) l kd a x 0 (P : Int) C W res V false = some (l, kd, a, x, 1, rd l (kd - 1), C, W, res, V, false, true) := by
  have h := (riact (k + 3) n hn kd a x P hP C W res V hk).1
  have wl : wrap64 (2 + wrap64 (2 * (n : Int))) = (l.length : Int) := by rw [w64 (x := 2 * (n : Int)) (by omega) (by omega), w64 (by omega) (by omega)]; omega
  unfold impl_RiStep.f
  rw [h]
  simp only [Option.bind_some, if_true, wl, bne_self_eq_false]
  simp only [impl_RiStep.j0, Bool.false_eq_true, if_false]
  rw [DoLoad l (by omega) (kd - 1) (by omega)]
  simp only [Option.bind_some, if_true, impl_RiStep.j3, w64 (x := (0 : Int) + 1) (by omega) (by omega)]
  rfl
theorem st1 (k n : Nat) (hn : 2 ≤ n ∧ n ≤ 16) (l : List Int) (hl : l.length = 2 + 2 * n) (kd a x : Int) (C W res V : Int) (hk : kd = 1 ∨ kd = 2) (P : Nat) (hP : P ≤ 1000) (c : Nat) (hc : rd l ((2 + 2 * (P % n) : Nat) : Int) = (c : Int)) (hcb : c ≤ 2000) :
    impl_RiStep.f (k + 5) (n : Int) l kd a x 1 (P : Int) C W res V false =
      if (c : Int) - (if kd = 2 then (P : Int) + 1 else (P : Int)) < 0 then some (l, kd, a, x, 2, (P : Int), (c : Int), W, if kd = 1 then 3 else 2, V, true, true)
      else if (c : Int) - (if kd = 2 then (P : Int) + 1 else (P : Int)) = 0 then some (l, kd, a, x, 2, (P : Int), (c : Int), W, res, V, false, true) else some (l, kd, a, x, 0, (P : Int), (c : Int), W, res, V, false, true) := by
  have h := (riact (k + 3) n hn kd a x P hP C W res V hk).2.1
  have hm : P % n < n := Nat.mod_lt _ (by omega)
  have wl : wrap64 (2 + wrap64 (2 * (n : Int))) = (l.length : Int) := by rw [w64 (x := 2 * (n : Int)) (by omega) (by omega), w64 (by omega) (by omega)]; omega
  unfold impl_RiStep.f
  rw [h]
  simp only [Option.bind_some, if_true, wl, bne_self_eq_false]
  simp only [impl_RiStep.j0, Bool.false_eq_true, if_false]
  rw [DoLoad l (by omega) _ (by omega), hc]
  have e1 : wrap64 ((1 : Int) + 1) = 2 := by rw [w64 (by omega) (by omega)]; rfl
  rcases hk with rfl | rfl
  · have w1 : wrap64 ((c : Int) - (P : Int)) = (c : Int) - (P : Int) := w64 (by omega) (by omega)
    simp only [Option.bind_some, if_true, w1, e1, show ¬ ((1 : Int) = 2) by omega, show ¬ ((1 : Int) = 0) by omega, if_false]
    simp only [impl_RiStep.j1, impl_RiStep.j2, impl_RiStep.j3, impl_Call_end.f, Option.bind_some, beq_self_eq_true, if_true, Bool.false_eq_true, if_false]
    by_cases g : (c : Int) - (P : Int) < 0
    · rw [if_pos g, if_pos g]
    · rw [if_neg g, if_neg g, if_neg g]
      by_cases g2 : (c : Int) - (P : Int) = 0
      · rw [if_neg (by omega), if_pos g2]
      · rw [if_pos (by omega), if_neg g2]
  · have w0 : wrap64 ((P : Int) + 1) = (P : Int) + 1 := w64 (by omega) (by omega)
    have w1 : wrap64 ((c : Int) - ((P : Int) + 1)) = (c : Int) - ((P : Int) + 1) := w64 (by omega) (by omega)
    have b0 : ((2 : Int) == 1) = false := by decide
    simp only [Option.bind_some, if_true, w0, w1, e1, b0, show ¬ ((2 : Int) = 1) by omega, show ¬ ((1 : Int) = 0) by omega, if_false]
    simp only [impl_RiStep.j1, impl_RiStep.j2, impl_RiStep.j3, impl_Call_end.f, Option.bind_some, b0, if_true, Bool.false_eq_true, if_false, ite_self]
    by_cases g : (c : Int) - ((P : Int) + 1) < 0
    · rw [if_pos g, if_pos g]
    · rw [if_neg g, if_neg g]
      by_cases g2 : (c : Int) - ((P : Int) + 1) = 0
      · rw [if_neg (by omega), if_pos g2]
      · rw [if_pos (by omega), if_neg g2]
theorem st2 (k n : Nat) (hn : 2 ≤ n ∧ n ≤ 16) (l : List Int) (hl : l.length = 2 + 2 * n) (kd a x : Int) (C W res V : Int) (hk : kd = 1 ∨ kd = 2) (P : Nat) (hP : P ≤ 1000) (hr : rd l (kd - 1) = (P : Int)) :
    impl_RiStep.f (k + 5) (n : Int) l kd a x 2 (P : Int) C W res V false = some (l.set (kd - 1).toNat ((P + 1 : Nat) : Int), kd, a, x, 3, (P : Int), C, W, res, V, false, true) := by
  have h := (riact (k + 3) n hn kd a x P hP C W res V hk).2.2.1
  have wl : wrap64 (2 + wrap64 (2 * (n : Int))) = (l.length : Int) := by rw [w64 (x := 2 * (n : Int)) (by omega) (by omega), w64 (by omega) (by omega)]; omega
  have e1 : wrap64 ((2 : Int) + 1) = 3 := by rw [w64 (by omega) (by omega)]; rfl
  unfold impl_RiStep.f
  rw [h]
  simp only [Option.bind_some, if_true, wl, bne_self_eq_false]
  simp only [impl_RiStep.j0, Bool.false_eq_true, if_false]
  rw [DoCas l (by omega) (kd - 1) (P : Int) _ (by omega) hr]
  simp only [Option.bind_some, if_true, e1, show ¬ ((2 : Int) = 0) by omega, show ¬ ((2 : Int) = 1) by omega, show ¬ ((1 : Int) = 0) by omega, if_false, impl_RiStep.j3]
theorem st3p (k n : Nat) (hn : 2 ≤ n ∧ n ≤ 16) (l : List Int) (hl : l.length = 2 + 2 * n) (a x : Int) (C W res V : Int) (P : Nat) (hP : P ≤ 1000) :
    impl_RiStep.f (k + 5) (n : Int) l 1 a x 3 (P : Int) C W res V false = some (l.set (3 + 2 * (P % n)) a, 1, a, x, 4, (P : Int), C, W, res, V, false, true) := by
  have h := (riact (k + 3) n hn 1 a x P hP C W res V (Or.inl rfl)).2.2.2.1
  have hm : P % n < n := Nat.mod_lt _ (by omega)
  have wl : wrap64 (2 + wrap64 (2 * (n : Int))) = (l.length : Int) := by rw [w64 (x := 2 * (n : Int)) (by omega) (by omega), w64 (by omega) (by omega)]; omega
  have e1 : wrap64 ((3 : Int) + 1) = 4 := by rw [w64 (by omega) (by omega)]; rfl
  rw [if_pos rfl] at h
  unfold impl_RiStep.f
  rw [h]
  simp only [Option.bind_some, if_true, wl, bne_self_eq_false]
  simp only [impl_RiStep.j0, Bool.false_eq_true, if_false]
  rw [DoStore l (by omega) _ a (by omega), Int.toNat_natCast]
  simp only [Option.bind_some, if_true, e1, show ¬ ((3 : Int) = 0) by omega, show ¬ ((3 : Int) = 1) by omega, show ¬ ((3 : Int) = 2) by omega, show ¬ ((1 : Int) = 2) by omega, if_false, impl_RiStep.j3]
theorem st3g (k n : Nat) (hn : 2 ≤ n ∧ n ≤ 16) (l : List Int) (hl : l.length = 2 + 2 * n) (a x : Int) (C W res V : Int) (P : Nat) (hP : P ≤ 1000) :
    impl_RiStep.f (k + 5) (n : Int) l 2 a x 3 (P : Int) C W res V false = some (l, 2, a, x, 4, (P : Int), C, W, res, rd l ((3 + 2 * (P % n) : Nat) : Int), false, true) := by
  have h := (riact (k + 3) n hn 2 a x P hP C W res V (Or.inr rfl)).2.2.2.1
  have hm : P % n < n := Nat.mod_lt _ (by omega)
  have wl : wrap64 (2 + wrap64 (2 * (n : Int))) = (l.length : Int) := by rw [w64 (x := 2 * (n : Int)) (by omega) (by omega), w64 (by omega) (by omega)]; omega
  have e1 : wrap64 ((3 : Int) + 1) = 4 := by rw [w64 (by omega) (by omega)]; rfl
  rw [if_neg (by omega)] at h
  unfold impl_RiStep.f
  rw [h]
  simp only [Option.bind_some, if_true, wl, bne_self_eq_false]
  simp only [impl_RiStep.j0, Bool.false_eq_true, if_false]
  rw [DoLoad l (by omega) _ (by omega)]
  simp only [Option.bind_some, if_true, e1, show ¬ ((3 : Int) = 0) by omega, show ¬ ((3 : Int) = 1) by omega, show ¬ ((3 : Int) = 2) by omega, if_false, impl_RiStep.j3]
theorem st4 (k n : Nat) (hn : 2 ≤ n ∧ n ≤ 16) (l : List Int) (hl : l.length = 2 + 2 * n) (kd a x : Int) (C W res V : Int) (hk : kd = 1 ∨ kd = 2) (P : Nat) (hP : P ≤ 1000) :
    impl_RiStep.f (k + 5) (n : Int) l kd a x 4 (P : Int) C W res V false = some (l.set (2 + 2 * (P % n)) (if kd = 1 then ((P + 1 : Nat) : Int) else ((P + n : Nat) : Int)), kd, a, x, 5, (P : Int), C, W, 1, V, true, true) := by
  have h := (riact (k + 3) n hn kd a x P hP C W res V hk).2.2.2.2
  have hm : P % n < n := Nat.mod_lt _ (by omega)
  have wl : wrap64 (2 + wrap64 (2 * (n : Int))) = (l.length : Int) := by rw [w64 (x := 2 * (n : Int)) (by omega) (by omega), w64 (by omega) (by omega)]; omega
  have e1 : wrap64 ((4 : Int) + 1) = 5 := by rw [w64 (by omega) (by omega)]; rfl
  unfold impl_RiStep.f
  rw [h]
  simp only [Option.bind_some, if_true, wl, bne_self_eq_false]
  simp only [impl_RiStep.j0, Bool.false_eq_true, if_false]
  rw [DoStore l (by omega) _ _ (by omega), Int.toNat_natCast]
  simp only [Option.bind_some, if_true, e1, show ¬ ((4 : Int) = 0) by omega, show ¬ ((4 : Int) = 1) by omega, show ¬ ((4 : Int) = 2) by omega, show ¬ ((4 : Int) = 3) by omega, if_false, impl_RiStep.j3, impl_Call_end.f]
def Inv (n t h : Nat) (q l : List Int) : Prop :=
  l.length = 2 + 2 * n ∧ l.getD 0 0 = (t : Int) ∧ l.getD 1 0 = (h : Int) ∧ h ≤ t ∧ t ≤ h + n ∧ q.length = t - h ∧
    (∀ p, h ≤ p → p < t → l.getD (2 + 2 * (p % n)) 0 = ((p + 1 : Nat) : Int) ∧ l.getD (3 + 2 * (p % n)) 0 = q.getD (p - h) 0) ∧
    (∀ p, t ≤ p → p < h + n → l.getD (2 + 2 * (p % n)) 0 = (p : Int))
theorem mod_inj (n h p p' : Nat) (h1 : h ≤ p) (h2 : p < h + n) (h3 : h ≤ p') (h4 : p' < h + n) (e : p % n = p' % n) : p = p' := by
  have a1 := Nat.div_add_mod p n
  have a2 := Nat.div_add_mod p' n
  rw [e] at a1
  generalize p / n = x at a1
  generalize p' / n = y at a2
  rcases Nat.lt_trichotomy x y with g | g | g
  · have := Nat.mul_le_mul_left n (show x + 1 ≤ y from g)
    rw [Nat.mul_succ] at this
    omega
  · subst g; omega
  · have := Nat.mul_le_mul_left n (show y + 1 ≤ x from g)
    rw [Nat.mul_succ] at this
    omega
theorem getD_set (l : List Int) (i j : Nat) (v : Int) (hi : i < l.length) : (l.set i v).getD j 0 = if i = j then v else l.getD j 0 := by
  simp only [List.getD, List.getElem?_set]
  by_cases e : i = j
  · subst e
    simp [hi]
  · simp [e]
theorem inv_put (n t h : Nat) (q l : List Int) (a : Int) (hn : 2 ≤ n) (H : Inv n t h q l) (hr : t < h + n) : Inv n (t + 1) h (q ++ [a]) (((l.set 0 ((t + 1 : Nat) : Int)).set (3 + 2 * (t % n)) a).set (2 + 2 * (t % n)) ((t + 1 : Nat) : Int)) := by
  obtain ⟨h1, h2, h3, h4, h5, h6, h7, h8⟩ := H
  have hm : ∀ p, p % n < n := fun p => Nat.mod_lt _ (by omega)
  have hmt := hm t
  have G : ∀ j, (((l.set 0 ((t + 1 : Nat) : Int)).set (3 + 2 * (t % n)) a).set (2 + 2 * (t % n)) ((t + 1 : Nat) : Int)).getD j 0 = if 2 + 2 * (t % n) = j then ((t + 1 : Nat) : Int) else if 3 + 2 * (t % n) = j then a else if 0 = j then ((t + 1 : Nat) : Int) else l.getD j 0 := fun j => by
    rw [getD_set _ _ _ _ (by simp; omega), getD_set _ _ _ _ (by simp; omega), getD_set _ _ _ _ (by omega)]
  refine ⟨by simp [h1], ?_, ?_, by omega, by omega, by simp; omega, fun p p1 p2 => ?_, fun p p1 p2 => ?_⟩
  · rw [G, if_neg (by omega), if_neg (by omega), if_pos rfl]
  · rw [G, if_neg (by omega), if_neg (by omega), if_neg (by omega), h3]
  · by_cases e : p = t
    · subst e
      rw [G, if_pos rfl, G, if_neg (by omega), if_pos rfl]
      refine ⟨rfl, ?_⟩
      simp only [List.getD]
      rw [List.getElem?_append_right (by omega), show p - h - q.length = 0 by omega]
      rfl
    · have ne : p % n ≠ t % n := fun g => e (mod_inj n h p t p1 (by omega) h4 hr g)
      obtain ⟨g1, g2⟩ := h7 p p1 (by omega)
      rw [G, if_neg (by omega), if_neg (by omega), if_neg (by omega), g1, G, if_neg (by omega), if_neg (by omega), if_neg (by omega), g2]
      refine ⟨rfl, ?_⟩
      simp only [List.getD]
      rw [List.getElem?_append_left (by omega)]
  · have ne : p % n ≠ t % n := fun g => by
      have := mod_inj n h p t (by omega) p2 h4 hr g
      omega
    rw [G, if_neg (by omega), if_neg (by omega), if_neg (by omega), h8 p (by omega) p2]
theorem inv_get (n t h : Nat) (q l : List Int) (hn : 2 ≤ n) (H : Inv n t h q l) (hr : h < t) : Inv n t (h + 1) (q.drop 1) ((l.set 1 ((h + 1 : Nat) : Int)).set (2 + 2 * (h % n)) ((h + n : Nat) : Int)) := by
  obtain ⟨h1, h2, h3, h4, h5, h6, h7, h8⟩ := H
  have hm : ∀ p, p % n < n := fun p => Nat.mod_lt _ (by omega)
  have hmt := hm h
  have G : ∀ j, ((l.set 1 ((h + 1 : Nat) : Int)).set (2 + 2 * (h % n)) ((h + n : Nat) : Int)).getD j 0 = if 2 + 2 * (h % n) = j then ((h + n : Nat) : Int) else if 1 = j then ((h + 1 : Nat) : Int) else l.getD j 0 := fun j => by
    rw [getD_set _ _ _ _ (by simp; omega), getD_set _ _ _ _ (by omega)]
  refine ⟨by simp [h1], ?_, ?_, by omega, by omega, by simp; omega, fun p p1 p2 => ?_, fun p p1 p2 => ?_⟩
  · rw [G, if_neg (by omega), if_neg (by omega), h2]
  · rw [G, if_neg (by omega), if_pos rfl]
  · have ne : p % n ≠ h % n := fun g => by
      have := mod_inj n h p h (by omega) (by omega) (by omega) (by omega) g
      omega
    obtain ⟨g1, g2⟩ := h7 p (by omega) p2
    rw [G, if_neg (by omega), if_neg (by omega), g1, G, if_neg (by omega), if_neg (by omega), g2]
    refine ⟨rfl, ?_⟩
    simp only [List.getD, List.getElem?_drop]
    rw [show 1 + (p - (h + 1)) = p - h by omega]
  · by_cases e : p = h + n
    · subst e
      rw [Nat.add_mod_right, G, if_pos rfl]
    · have ne : p % n ≠ h % n := fun g => by
        have := mod_inj n h p h (by omega) (by omega) (by omega) (by omega) g
        omega
      rw [G, if_neg (by omega), if_neg (by omega), h8 p p1 (by omega)]
theorem Items_go (n t : Nat) (hn : 2 ≤ n ∧ n ≤ 16) (ht : t ≤ 1000) (l : List Int) (hl : l.length = 2 + 2 * n) (h : Nat) (q : List Int) (hq : ∀ p, h ≤ p → p < t → l.getD (3 + 2 * (p % n)) 0 = q.getD (p - h) 0) (hql : q.length = t - h) (d : Nat) : ∀ (k p : Nat), t - p = d → h ≤ p → p ≤ t → d < k →
    impl_RiItems.l0 k (n : Int) (q.take (p - h)) (t : Int) (p : Int) l = some q := by
  induction d with
  | zero =>
    intro k p hd h1 h2 hk
    obtain ⟨k, rfl⟩ : ∃ m, k = m + 1 := ⟨k - 1, by omega⟩
    simp only [impl_RiItems.l0]
    rw [if_neg (by omega), List.take_of_length_le (by omega)]
  | succ d ih =>
    intro k p hd h1 h2 hk
    obtain ⟨k, rfl⟩ : ∃ m, k = m + 1 := ⟨k - 1, by omega⟩
    have hm : p % n < n := Nat.mod_lt _ (by omega)
    have e : Int.tmod (p : Int) (n : Int) = ((p % n : Nat) : Int) := by
      rw [Int.tmod_eq_emod_of_nonneg (by omega)]
      simp
    have e2 : wrap64 (3 + wrap64 (2 * ((p % n : Nat) : Int))) = ((3 + 2 * (p % n) : Nat) : Int) := by
      rw [w64 (x := 2 * ((p % n : Nat) : Int)) (by omega) (by omega), w64 (by omega) (by omega)]
      omega
    have htl : (q.take (p - h)).length = p - h := by rw [List.length_take]; omega
    simp only [impl_RiItems.l0]
    rw [if_pos (by omega), if_neg (by omega), e, e2, if_pos (by omega), if_pos (by omega), if_pos (by omega), rd_nat, hq p h1 (by omega), w64 (by omega) (by omega), show (p : Int) + 1 = ((p + 1 : Nat) : Int) by omega]
    have := ih k (p + 1) (by omega) (by omega) (by omega) (by omega)
    rw [show p + 1 - h = (p - h) + 1 by omega, List.take_succ_eq_append_getElem (by omega)] at this
    rw [show q.getD (p - h) 0 = q[p - h]'(by omega) by simp [List.getD, List.getElem?_eq_getElem (show p - h < q.length by omega)]]
    exact this
theorem Items (n t h : Nat) (q l : List Int) (hn : 2 ≤ n ∧ n ≤ 16) (ht : t ≤ 100) (H : Inv n t h q l) (k : Nat) (hk : 200 ≤ k) : impl_RiItems.f k (n : Int) l = some q := by
  obtain ⟨h1, h2, h3, h4, h5, h6, h7, h8⟩ := H
  obtain ⟨k, rfl⟩ : ∃ m, k = m + 2 := ⟨k - 2, by omega⟩
  have wl : wrap64 (2 + wrap64 (2 * (n : Int))) = (l.length : Int) := by rw [w64 (x := 2 * (n : Int)) (by omega) (by omega), w64 (by omega) (by omega)]; omega
  have r0 : rd l 0 = (t : Int) := h2
  have r1 : rd l 1 = (h : Int) := h3
  have d1 : decide ((2 : Int) ≤ (n : Int) ∧ (n : Int) ≤ 16) = true := decide_eq_true (by omega)
  have d2 : decide ((0 : Int) ≤ (t : Int) ∧ (t : Int) ≤ 4294967295) = true := decide_eq_true (by omega)
  have d3 : decide ((0 : Int) ≤ (h : Int) ∧ (h : Int) ≤ 4294967295) = true := decide_eq_true (by omega)
  have d4 : decide ((0 : Int) ≤ (t : Int) - (h : Int) ∧ (t : Int) - (h : Int) ≤ (n : Int)) = true := decide_eq_true (by omega)
  have w1 : wrap64 ((t : Int) - (h : Int)) = (t : Int) - (h : Int) := w64 (by omega) (by omega)
  unfold impl_RiItems.f
  simp only [Option.bind_some, within, d1, if_true, wl, bne_self_eq_false]
  simp only [impl_RiItems.j0, Bool.false_eq_true, if_false, impl_isNum.f, within, r0, r1, Option.bind_some, d2, d3, w1, d4, if_true, Bool.not_true]
  rw [if_pos (by omega), if_pos (by omega)]
  simp only [impl_RiItems.j1, Bool.false_eq_true, if_false]
  have := Items_go n t hn (by omega) l h1 h q (fun p p1 p2 => (h7 p p1 p2).2) h6 (t - h) k h (by omega) (Nat.le_refl _) h4 (by omega)
  rw [Nat.sub_self, List.take_zero] at this
  exact this
theorem same_go (x : List Int) (hx : x.length ≤ 1000) (d : Nat) : ∀ (k j : Nat), x.length - j = d → j ≤ x.length → d < k → laws_sameInts.l0 k x x (x.length : Int) (j : Int) = some true := by
  induction d with
  | zero =>
    intro k j hd hj hk
    obtain ⟨k, rfl⟩ : ∃ m, k = m + 1 := ⟨k - 1, by omega⟩
    simp only [laws_sameInts.l0]
    rw [if_neg (by omega)]
  | succ d ih =>
    intro k j hd hj hk
    obtain ⟨k, rfl⟩ : ∃ m, k = m + 1 := ⟨k - 1, by omega⟩
    simp only [laws_sameInts.l0]
    rw [if_pos (by omega), if_pos (by omega), if_pos (by omega), if_pos (by omega), if_pos trivial, w64 (by omega) (by omega)]
    exact ih k (j + 1) (by omega) (by omega) (by omega)
theorem same (x : List Int) (hx : x.length ≤ 1000) (k : Nat) (hk : 1001 ≤ k) : laws_sameInts.f k x x = some true := by
  unfold laws_sameInts.f
  rw [if_pos rfl]
  exact same_go x hx x.length k 0 (by omega) (Nat.zero_le _) (by omega)
theorem loopS (k n : Nat) (q : List Int) (idx len j : Int) (picks l : List Int) (i : Int) (hi : i < 5) (c0 c1 c2 c3 c4 c5 c6 c7 c8 : Int) (l' : List Int) (e0 e1 e2 e3 e4 e5 e6 e7 e8 : Int) (e9 : Bool) (i' : Int) (hi' : wrap64 (i + 1) = i')
    (h : impl_RiStep.f k (n : Int) l c0 c1 c2 c3 c4 c5 c6 c7 c8 false = some (l', e0, e1, e2, e3, e4, e5, e6, e7, e8, e9, true)) :
    laws_FnRingOne.l1 (k + 2) (n : Int) q idx i picks len j l c0 c1 c2 c3 c4 c5 c6 c7 c8 false = laws_FnRingOne.l1 k (n : Int) q idx i' picks len j l' e0 e1 e2 e3 e4 e5 e6 e7 e8 e9 := by
  simp only [laws_FnRingOne.l1, laws_FnRingOne.j3, if_pos hi, Bool.not_false, if_true]
  rw [h]
  simp only [Option.bind_some, if_true, hi']
theorem endS (k n t h : Nat) (hn : 2 ≤ n ∧ n ≤ 16) (ht : t ≤ 100) (q q' : List Int) (idx len j : Int) (picks l : List Int) (i : Int) (c0 c1 c2 c3 c4 c5 c6 c7 c8 : Int) (j' : Int) (hj : wrap64 (j + 1) = j') (hk : 2000 ≤ k) (H : Inv n t h q' l)
    (hc : (c0 = 1 ∧ (q.length : Int) = n ∧ c7 = 3 ∧ q' = q) ∨ (c0 = 1 ∧ ¬ (q.length : Int) = n ∧ c7 = 1 ∧ q.length ≤ 1000 ∧ q' = q ++ [wrap64 (100 + idx)]) ∨ (c0 = 2 ∧ q.length = 0 ∧ c7 = 2 ∧ q' = q) ∨ (c0 = 2 ∧ 0 < q.length ∧ c7 = 1 ∧ c8 = rd q 0 ∧ q' = q.drop 1)) :
    laws_FnRingOne.l1 (k + 4) (n : Int) q idx i picks len j l c0 c1 c2 c3 c4 c5 c6 c7 c8 true = laws_FnRingOne.l0 k (n : Int) q' picks len j' l := by
  have hql : q'.length ≤ 1000 := by
    have h1 := H.2.2.2.2.2.1
    omega
  have hI := Items n t h q' l hn ht H k (by omega)
  have hS := same q' hql k (by omega)
  have h5 : laws_FnRingOne.j5 (k + 1) (n : Int) q' picks len j l = laws_FnRingOne.l0 k (n : Int) q' picks len j' l := by
    simp only [laws_FnRingOne.j5]
    rw [hI]
    simp only [Option.bind_some]
    rw [hS]
    simp only [Option.bind_some, if_true, hj]
  rw [← h5]
  simp only [laws_FnRingOne.l1, laws_FnRingOne.j3, Bool.not_true, ite_self, Bool.false_eq_true, if_false, if_true]
  rcases hc with ⟨rfl, g1, rfl, rfl⟩ | ⟨rfl, g1, rfl, g2, rfl⟩ | ⟨rfl, g1, rfl, rfl⟩ | ⟨rfl, g1, rfl, rfl, rfl⟩
  · have b : ((q'.length : Int) == (n : Int)) = true := beq_iff_eq.mpr g1
    simp only [if_true, b, laws_FnRingOne.j4]
  · have b : ((q.length : Int) == (n : Int)) = false := beq_eq_false_iff_ne.mpr g1
    simp only [if_true, b, laws_FnRingOne.j4, Bool.false_eq_true, if_false]
    rw [if_pos (by omega)]
  · simp only [show ¬ ((2 : Int) = 1) by omega, if_false, laws_FnRingOne.j4, Bool.false_eq_true]
    rw [if_pos (by omega), if_pos trivial]
  · simp only [show ¬ ((2 : Int) = 1) by omega, if_false, laws_FnRingOne.j4, Bool.false_eq_true, if_true]
    rw [if_neg (by omega), if_pos (by omega), if_pos (by omega)]
    rfl
theorem wj (j : Nat) (h : j ≤ 100) : wrap64 ((j : Int) + 1) = ((j + 1 : Nat) : Int) := by rw [w64 (by omega) (by omega)]; omega
theorem w100 (j : Nat) (h : j ≤ 100) : wrap64 (100 + (j : Int)) = 100 + (j : Int) := w64 (by omega) (by omega)
theorem we0 : wrap64 ((0 : Int) + 1) = 1 := by rw [w64 (by omega) (by omega)]; rfl
theorem we1 : wrap64 ((1 : Int) + 1) = 2 := by rw [w64 (by omega) (by omega)]; rfl
theorem we2 : wrap64 ((2 : Int) + 1) = 3 := by rw [w64 (by omega) (by omega)]; rfl
theorem we3 : wrap64 ((3 : Int) + 1) = 4 := by rw [w64 (by omega) (by omega)]; rfl
theorem we4 : wrap64 ((4 : Int) + 1) = 5 := by rw [w64 (by omega) (by omega)]; rfl
set_option maxHeartbeats 4000000 in
theorem main_go (X : Nat → Nat) (hX : ∀ d, X d + 20 ≤ X (d + 1)) (hX0 : ∀ d, 2100 ≤ X d) (n : Nat) (hn : 2 ≤ n ∧ n ≤ 16) (picks : List Int) (hp : picks.length ≤ 24) (d : Nat) : ∀ (j t h : Nat) (q l : List Int), picks.length - j = d → j ≤ picks.length → t ≤ j → Inv n t h q l → ∀ k, X d ≤ k → laws_FnRingOne.l0 k (n : Int) q picks (picks.length : Int) (j : Int) l = some true := by
  induction d with
  | zero =>
    intro j t h q l hd hj ht H k hk
    have hX0d := hX0 0
    obtain ⟨k, rfl⟩ : ∃ m, k = m + 1 := ⟨k - 1, by omega⟩
    simp only [laws_FnRingOne.l0]
    have hl := H.1
    rw [if_neg (by omega), w64 (x := 2 * (n : Int)) (by omega) (by omega), w64 (by omega) (by omega), beq_iff_eq.mpr (by omega)]
  | succ d ih =>
    intro j t h q l hd hj ht H kk hk
    have HH := H
    obtain ⟨h1, h2, h3, h4, h5, h6, h7, h8⟩ := HH
    have hXd := hX d
    have hX0d := hX0 d
    obtain ⟨k, hm0⟩ : ∃ m, kk = m + 20 := ⟨kk - 20, by omega⟩
    have hk2 : X d ≤ k := by omega
    have hk3 : 2100 ≤ k := by omega
    clear hk hXd hX0d
    subst hm0
    have hkE4 : 2000 ≤ k + 4 := by omega
    have hkE10 : 2000 ≤ k + 10 := by omega
    have hm : ∀ p, p % n < n := fun p => Nat.mod_lt _ (by omega)
    simp only [laws_FnRingOne.l0]
    rw [if_pos (by omega), if_pos (by omega), if_pos (by omega)]
    simp only [impl_RiCall.f, Option.bind_some, if_true, show ¬ ((2 : Int) = 1) by omega, if_false, w100 j (show j ≤ 100 by omega)]
    by_cases hpar : Int.tmod (rd picks (j : Int)) 2 = 0
    · rw [if_pos hpar]
      simp only [laws_FnRingOne.j1]
      -- a put: the tail is read
      have s0 := st0 (k + 11) n hn l h1 1 (100 + (j : Int)) 0 0 0 0 0 (Or.inl rfl) 0 (by omega)
      rw [show ((0 : Nat) : Int) = 0 from rfl] at s0
      have r0 : rd l (1 - 1) = (t : Int) := h2
      rw [r0] at s0
      rw [show k + 18 = (k + 11 + 5) + 2 by omega]
      have L0 := loopS (k + 11 + 5) n q (j : Int) (picks.length : Int) (j : Int) picks l 0 (by omega) _ _ _ _ _ _ _ _ _ _ _ _ _ _ _ _ _ _ _ _ 1 we0 s0
      rw [L0]
      by_cases hr : t < h + n
      · have g8 := h8 t (by omega) hr
        have s1 := st1 (k + 9) n hn l h1 1 (100 + (j : Int)) 0 0 0 0 0 (Or.inl rfl) t (by omega) t ((rd_nat _ _).trans g8) (by omega)
        rw [if_neg (by rw [if_neg (by omega)]; omega), if_pos (by rw [if_neg (by omega)]; omega)] at s1
        have L1 := loopS (k + 9 + 5) n q (j : Int) (picks.length : Int) (j : Int) picks l 1 (by omega) _ _ _ _ _ _ _ _ _ _ _ _ _ _ _ _ _ _ _ _ 2 we1 s1
        rw [show k + 11 + 5 = (k + 9 + 5) + 2 by omega, L1]
        have s2 := st2 (k + 7) n hn l h1 1 (100 + (j : Int)) 0 (t : Int) 0 0 0 (Or.inl rfl) t (by omega) h2
        rw [show ((1 : Int) - 1).toNat = 0 from rfl] at s2
        have L2 := loopS (k + 7 + 5) n q (j : Int) (picks.length : Int) (j : Int) picks l 2 (by omega) _ _ _ _ _ _ _ _ _ _ _ _ _ _ _ _ _ _ _ _ 3 we2 s2
        rw [show k + 9 + 5 = (k + 7 + 5) + 2 by omega, L2]
        have s3 := st3p (k + 5) n hn (l.set 0 ((t + 1 : Nat) : Int)) (by simpa using h1) (100 + (j : Int)) 0 (t : Int) 0 0 0 t (by omega)
        have L3 := loopS (k + 5 + 5) n q (j : Int) (picks.length : Int) (j : Int) picks (l.set 0 ((t + 1 : Nat) : Int)) 3 (by omega) _ _ _ _ _ _ _ _ _ _ _ _ _ _ _ _ _ _ _ _ 4 we3 s3
        rw [show k + 7 + 5 = (k + 5 + 5) + 2 by omega, L3]
        have s4 := st4 (k + 3) n hn ((l.set 0 ((t + 1 : Nat) : Int)).set (3 + 2 * (t % n)) (100 + (j : Int))) (by simpa using h1) 1 (100 + (j : Int)) 0 (t : Int) 0 0 0 (Or.inl rfl) t (by omega)
        rw [if_pos rfl] at s4
        have L4 := loopS (k + 3 + 5) n q (j : Int) (picks.length : Int) (j : Int) picks ((l.set 0 ((t + 1 : Nat) : Int)).set (3 + 2 * (t % n)) (100 + (j : Int))) 4 (by omega) _ _ _ _ _ _ _ _ _ _ _ _ _ _ _ _ _ _ _ _ 5 we4 s4
        rw [show k + 5 + 5 = (k + 3 + 5) + 2 by omega, L4]
        have HN := inv_put n t h q l (100 + (j : Int)) hn.1 H hr
        have E := endS (k + 4) n (t + 1) h hn (by omega) q (q ++ [wrap64 (100 + (j : Int))]) (j : Int) (picks.length : Int) (j : Int) picks _ 5 1 (100 + (j : Int)) 0 5 (t : Int) (t : Int) 0 1 0 ((j + 1 : Nat) : Int) (wj j (by omega)) hkE4 (by rw [w100 j (by omega)]; exact HN) (Or.inr (Or.inl ⟨rfl, by omega, rfl, by omega, rfl⟩))
        rw [show k + 3 + 5 = k + 4 + 4 by omega, E]
        rw [w100 j (by omega)]
        exact ih (j + 1) (t + 1) h _ _ (by omega) (by omega) (by omega) HN (k + 4) (Nat.le_trans hk2 (Nat.le_add_right _ _))
      · have g7 := (h7 h (Nat.le_refl _) (by omega)).1
        have et : t % n = h % n := by rw [show t = h + n by omega, Nat.add_mod_right]
        have s1 := st1 (k + 9) n hn l h1 1 (100 + (j : Int)) 0 0 0 0 0 (Or.inl rfl) t (by omega) (h + 1) ((rd_nat _ _).trans (by rw [et]; exact g7)) (by omega)
        rw [if_pos (by rw [if_neg (by omega)]; omega), if_pos rfl] at s1
        have L1 := loopS (k + 9 + 5) n q (j : Int) (picks.length : Int) (j : Int) picks l 1 (by omega) _ _ _ _ _ _ _ _ _ _ _ _ _ _ _ _ _ _ _ _ 2 we1 s1
        rw [show k + 11 + 5 = (k + 9 + 5) + 2 by omega, L1]
        have E := endS (k + 10) n t h hn (by omega) q q (j : Int) (picks.length : Int) (j : Int) picks l 2 1 (100 + (j : Int)) 0 2 (t : Int) ((h + 1 : Nat) : Int) 0 3 0 ((j + 1 : Nat) : Int) (wj j (by omega)) hkE10 H (Or.inl ⟨rfl, by omega, rfl, rfl⟩)
        rw [show k + 9 + 5 = k + 10 + 4 by omega, E]
        exact ih (j + 1) t h q l (by omega) (by omega) (by omega) H (k + 10) (Nat.le_trans hk2 (Nat.le_add_right _ _))
    · rw [if_neg hpar]
      simp only [laws_FnRingOne.j1]
      have s0 := st0 (k + 11) n hn l h1 2 0 0 0 0 0 0 (Or.inr rfl) 0 (by omega)
      rw [show ((0 : Nat) : Int) = 0 from rfl] at s0
      have r0 : rd l (2 - 1) = (h : Int) := h3
      rw [r0] at s0
      rw [show k + 18 = (k + 11 + 5) + 2 by omega]
      have L0 := loopS (k + 11 + 5) n q (j : Int) (picks.length : Int) (j : Int) picks l 0 (by omega) _ _ _ _ _ _ _ _ _ _ _ _ _ _ _ _ _ _ _ _ 1 we0 s0
      rw [L0]
      by_cases hr : h < t
      · obtain ⟨g7, gv⟩ := h7 h (Nat.le_refl _) hr
        have s1 := st1 (k + 9) n hn l h1 2 0 0 0 0 0 0 (Or.inr rfl) h (by omega) (h + 1) ((rd_nat _ _).trans g7) (by omega)
        rw [if_neg (by rw [if_pos rfl]; omega), if_pos (by rw [if_pos rfl]; omega)] at s1
        have L1 := loopS (k + 9 + 5) n q (j : Int) (picks.length : Int) (j : Int) picks l 1 (by omega) _ _ _ _ _ _ _ _ _ _ _ _ _ _ _ _ _ _ _ _ 2 we1 s1
        rw [show k + 11 + 5 = (k + 9 + 5) + 2 by omega, L1]
        have s2 := st2 (k + 7) n hn l h1 2 0 0 ((h + 1 : Nat) : Int) 0 0 0 (Or.inr rfl) h (by omega) h3
        rw [show ((2 : Int) - 1).toNat = 1 from rfl] at s2
        have L2 := loopS (k + 7 + 5) n q (j : Int) (picks.length : Int) (j : Int) picks l 2 (by omega) _ _ _ _ _ _ _ _ _ _ _ _ _ _ _ _ _ _ _ _ 3 we2 s2
        rw [show k + 9 + 5 = (k + 7 + 5) + 2 by omega, L2]
        have s3 := st3g (k + 5) n hn (l.set 1 ((h + 1 : Nat) : Int)) (by simpa using h1) 0 0 ((h + 1 : Nat) : Int) 0 0 0 h (by omega)
        have hV : rd (l.set 1 ((h + 1 : Nat) : Int)) ((3 + 2 * (h % n) : Nat) : Int) = rd q 0 := by
          rw [rd_nat, getD_set _ _ _ _ (by omega), if_neg (by omega), gv, Nat.sub_self]
          rfl
        rw [hV] at s3
        have L3 := loopS (k + 5 + 5) n q (j : Int) (picks.length : Int) (j : Int) picks (l.set 1 ((h + 1 : Nat) : Int)) 3 (by omega) _ _ _ _ _ _ _ _ _ _ _ _ _ _ _ _ _ _ _ _ 4 we3 s3
        rw [show k + 7 + 5 = (k + 5 + 5) + 2 by omega, L3]
        have s4 := st4 (k + 3) n hn (l.set 1 ((h + 1 : Nat) : Int)) (by simpa using h1) 2 0 0 ((h + 1 : Nat) : Int) 0 0 (rd q 0) (Or.inr rfl) h (by omega)
        rw [if_neg (by omega)] at s4
        have L4 := loopS (k + 3 + 5) n q (j : Int) (picks.length : Int) (j : Int) picks (l.set 1 ((h + 1 : Nat) : Int)) 4 (by omega) _ _ _ _ _ _ _ _ _ _ _ _ _ _ _ _ _ _ _ _ 5 we4 s4
        rw [show k + 5 + 5 = (k + 3 + 5) + 2 by omega, L4]
        have HN := inv_get n t h q l hn.1 H hr
        have E := endS (k + 4) n t (h + 1) hn (by omega) q (q.drop 1) (j : Int) (picks.length : Int) (j : Int) picks _ 5 2 0 0 5 (h : Int) ((h + 1 : Nat) : Int) 0 1 (rd q 0) ((j + 1 : Nat) : Int) (wj j (by omega)) hkE4 HN (Or.inr (Or.inr (Or.inr ⟨rfl, by omega, rfl, rfl, rfl⟩)))
        rw [show k + 3 + 5 = k + 4 + 4 by omega, E]
        exact ih (j + 1) t (h + 1) _ _ (by omega) (by omega) (by omega) HN (k + 4) (Nat.le_trans hk2 (Nat.le_add_right _ _))
      · have g8 := h8 h (by omega) (by omega)
        have s1 := st1 (k + 9) n hn l h1 2 0 0 0 0 0 0 (Or.inr rfl) h (by omega) h ((rd_nat _ _).trans g8) (by omega)
        rw [if_pos (by rw [if_pos rfl]; omega), if_neg (by omega)] at s1
        have L1 := loopS (k + 9 + 5) n q (j : Int) (picks.length : Int) (j : Int) picks l 1 (by omega) _ _ _ _ _ _ _ _ _ _ _ _ _ _ _ _ _ _ _ _ 2 we1 s1
        rw [show k + 11 + 5 = (k + 9 + 5) + 2 by omega, L1]
        have E := endS (k + 10) n t h hn (by omega) q q (j : Int) (picks.length : Int) (j : Int) picks l 2 2 0 0 2 (h : Int) (h : Int) 0 2 0 ((j + 1 : Nat) : Int) (wj j (by omega)) hkE10 H (Or.inr (Or.inr (Or.inl ⟨rfl, by omega, rfl, rfl⟩)))
        rw [show k + 9 + 5 = k + 10 + 4 by omega, E]
        exact ih (j + 1) t h q l (by omega) (by omega) (by omega) H (k + 10) (Nat.le_trans hk2 (Nat.le_add_right _ _))
theorem RiNew (n : Nat) (hn : n = 2 ∨ n = 3 ∨ n = 4) : ∃ l, Inv n 0 0 [] l ∧ ∀ k, 10 ≤ k → impl_RiNew.f k (n : Int) = some (l, true) := by
  have W : ∀ x : Int, 0 ≤ x → x ≤ 100 → wrap64 x = x := fun x h1 h2 => w64 (by omega) (by omega)
  rcases hn with rfl | rfl | rfl
  · refine ⟨[0, 0, 0, 0, 1, 0], ⟨rfl, rfl, rfl, by omega, by omega, rfl, fun p p1 p2 => by omega, fun p p1 p2 => ?_⟩, fun k hk => ?_⟩
    · have : p = 0 ∨ p = 1 := by omega
      rcases this with rfl | rfl <;> rfl
    · obtain ⟨k, rfl⟩ : ∃ m, k = m + 10 := ⟨k - 10, by omega⟩
      simp [impl_RiNew.f, within, impl_RiNew.l0, W, List.replicate]
  · refine ⟨[0, 0, 0, 0, 1, 0, 2, 0], ⟨rfl, rfl, rfl, by omega, by omega, rfl, fun p p1 p2 => by omega, fun p p1 p2 => ?_⟩, fun k hk => ?_⟩
    · have : p = 0 ∨ p = 1 ∨ p = 2 := by omega
      rcases this with rfl | rfl | rfl <;> rfl
    · obtain ⟨k, rfl⟩ : ∃ m, k = m + 10 := ⟨k - 10, by omega⟩
      simp [impl_RiNew.f, within, impl_RiNew.l0, W, List.replicate]
  · refine ⟨[0, 0, 0, 0, 1, 0, 2, 0, 3, 0], ⟨rfl, rfl, rfl, by omega, by omega, rfl, fun p p1 p2 => by omega, fun p p1 p2 => ?_⟩, fun k hk => ?_⟩
    · have : p = 0 ∨ p = 1 ∨ p = 2 ∨ p = 3 := by omega
      rcases this with rfl | rfl | rfl | rfl <;> rfl
    · obtain ⟨k, rfl⟩ : ∃ m, k = m + 10 := ⟨k - 10, by omega⟩
      simp [impl_RiNew.f, within, impl_RiNew.l0, W, List.replicate]


theorem FnRingOne : laws_FnRingOne.Pure := by
  intro l _ _ _
  by_cases hl : l.length ≤ 1048576
  · obtain ⟨v, v1, v2, hv⟩ := MakeNumS l hl 3 (by omega) (by omega)
    obtain ⟨picks, p1, _, hp⟩ := MakePicks l hl 24 (by omega) (by omega)
    obtain ⟨n, hn⟩ : ∃ n : Nat, (n : Int) = 2 + v := ⟨(2 + v).toNat, by omega⟩
    obtain ⟨m, hm1, hm2⟩ := RiNew n (by omega)
    obtain ⟨K, hK⟩ : ∃ K : Nat, 1048600 ≤ K := ⟨1048600, Nat.le_refl _⟩
    refine ⟨K, ?_⟩
    unfold laws_FnRingOne.f
    rw [if_neg (by omega), hv K (by omega)]
    simp only [Option.bind_some]
    rw [w64 (x := 2 + v) (by omega) (by omega), ← hn, hm2 K (by omega)]
    simp only [Option.bind_some, if_true]
    rw [hp K (by omega)]
    simp only [Option.bind_some]
    exact main_go (fun d => d * 20 + 2100) (fun d => by show d * 20 + 2100 + 20 ≤ (d + 1) * 20 + 2100; rw [Nat.succ_mul]; omega) (fun d => Nat.le_add_left _ _) n (by omega) picks (by omega) picks.length 0 0 0 [] m (by omega) (Nat.zero_le _) (Nat.le_refl _) hm1 K (by show picks.length * 20 + 2100 ≤ K; omega)
  · refine ⟨0, ?_⟩
    unfold laws_FnRingOne.f
    rw [if_pos (by omega)]

end Go.Proofs.Ytfahmmlkcmadeaa.Pure
