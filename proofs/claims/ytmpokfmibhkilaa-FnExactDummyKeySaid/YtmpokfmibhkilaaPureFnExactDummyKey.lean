/- The law FnExactDummyKey answers true whatever its arguments hold: the program's function and the reference's come to the same, and no list of an answer is shared. No condition. -/
import Derived.Test.YtmpokfmibhkilaaPFnExactDummyKeyx1
import Derived.Laws.BitsLemmas
namespace Go.Proofs.Ytmpokfmibhkilaa.Pure
open Go.RowKit Go.Proofs.Ytmpokfmibhkilaa.PFnExactDummyKey Go.Proofs.YtmpokfmibhkilaaW.PrintWords Go.Proofs.YtmpokfmibhkilaaW.PrintLast
set_option linter.unusedSimpArgs false
set_option linter.unusedVariables false

/-! Small facts. -/
theorem w64 {x : Int} (h0 : -9223372036854775808 ≤ x) (h1 : x ≤ 9223372036854775807) : wrap64 x = x := by unfold wrap64; omega
theorem rd_nat (l : List Int) (j : Nat) : rd l (j : Int) = l.getD j 0 := by simp [rd]
/-- The numbers from m on, n of them. -/
def marked (m : Int) (n : Nat) : List Int := (List.range n).map fun (i : Nat) => m + (i : Int)
theorem marked_len (m : Int) (n : Nat) : (marked m n).length = n := by simp [marked]
theorem marked_get (m : Int) (n j : Nat) (h : j < n) : (marked m n).getD j 0 = m + j := by simp [marked, List.getD, h]
theorem neg1 (n : Nat) : ((1 : Int) + (n : Int) < 0) = False := by simp only [eq_iff_iff, iff_false]; omega
theorem neg0 : ((-1 : Int) < 0) = True := by simp

theorem within (a lo hi : Int) : impl_within.f a lo hi = some (decide (lo ≤ a ∧ a ≤ hi)) := by
  unfold impl_within.f
  by_cases h : a ≥ lo
  · rw [if_pos h]
    have h' : lo ≤ a := h
    simp [h']
  · rw [if_neg h]
    have h' : ¬ lo ≤ a := h
    simp [h']

/-! A number turned from end to end: bit by bit, and by masks. -/
def mix (m s x : Nat) : Nat := ((x / 2 ^ s) &&& m) ||| ((x &&& m) * 2 ^ s) % 2 ^ 32
def swp (b i : Nat) : Nat := if i % (2 * b) < b then i + b else i - b
theorem mix_lt (m s x : Nat) (hm : m < 2 ^ 32) : mix m s x < 2 ^ 32 := Nat.or_lt_two_pow (Nat.and_lt_two_pow _ hm) (Nat.mod_lt _ (by decide))
theorem mix_bit (m s x i : Nat) (hi : i < 32) : (mix m s x).testBit i = ((x.testBit (i + s) && m.testBit i) || (decide (s ≤ i) && (x.testBit (i - s) && m.testBit (i - s)))) := by
  unfold mix
  rw [Nat.testBit_or, Nat.testBit_and, Nat.testBit_div_two_pow, Nat.testBit_mod_two_pow, ← Nat.shiftLeft_eq, Nat.testBit_shiftLeft, Nat.testBit_and, decide_eq_true hi, Bool.true_and]
theorem mix_swap (m b x : Nat) (hm : ∀ i : Fin 32, m.testBit i.val = decide (i.val % (2 * b) < b)) (hb : ∀ i : Fin 32, (i.val % (2 * b) < b → i.val + b < 32) ∧ (¬ i.val % (2 * b) < b → b ≤ i.val ∧ (i.val - b) % (2 * b) < b)) (hc : ∀ i : Fin 32, i.val % (2 * b) < b → b ≤ i.val → ¬ (i.val - b) % (2 * b) < b)
    (i : Nat) (hi : i < 32) : (mix m b x).testBit i = x.testBit (swp b i) := by
  rw [mix_bit m b x i hi, hm ⟨i, hi⟩]
  show ((x.testBit (i + b) && decide (i % (2 * b) < b)) || (decide (b ≤ i) && (x.testBit (i - b) && m.testBit (i - b)))) = x.testBit (swp b i)
  have h1 := hb ⟨i, hi⟩
  have h2 := hc ⟨i, hi⟩
  have h3 := hm ⟨i - b, by omega⟩
  simp only at h1 h2 h3
  rw [h3]
  unfold swp
  by_cases h : i % (2 * b) < b
  · rw [if_pos h, decide_eq_true h, Bool.and_true]
    by_cases hbi : b ≤ i
    · rw [decide_eq_false (h2 h hbi)]; simp
    · rw [decide_eq_false hbi]; simp
  · obtain ⟨h4, h5⟩ := h1.2 h
    rw [if_neg h, decide_eq_false h, decide_eq_true h4, decide_eq_true h5]; simp
def flipM (x : Nat) : Nat := mix 65535 16 (mix 16711935 8 (mix 252645135 4 (mix 858993459 2 (mix 1431655765 1 x))))
theorem swp_lt (b i : Nat) (hb : ∀ i : Fin 32, (i.val % (2 * b) < b → i.val + b < 32)) (hi : i < 32) : swp b i < 32 := by
  unfold swp
  split
  · exact hb ⟨i, hi⟩ (by assumption)
  · omega
theorem flipM_bit (x i : Nat) (hi : i < 32) : (flipM x).testBit i = x.testBit (31 - i) := by
  have l16 : swp 16 i < 32 := swp_lt 16 i (by decide) hi
  have l8 : swp 8 (swp 16 i) < 32 := swp_lt 8 _ (by decide) l16
  have l4 : swp 4 (swp 8 (swp 16 i)) < 32 := swp_lt 4 _ (by decide) l8
  have l2 : swp 2 (swp 4 (swp 8 (swp 16 i))) < 32 := swp_lt 2 _ (by decide) l4
  unfold flipM
  rw [mix_swap 65535 16 _ (by decide) (by decide) (by decide) i hi, mix_swap 16711935 8 _ (by decide) (by decide) (by decide) _ l16, mix_swap 252645135 4 _ (by decide) (by decide) (by decide) _ l8,
    mix_swap 858993459 2 _ (by decide) (by decide) (by decide) _ l4, mix_swap 1431655765 1 _ (by decide) (by decide) (by decide) _ l2]
  have all : ∀ i : Fin 32, swp 1 (swp 2 (swp 4 (swp 8 (swp 16 i.val)))) = 31 - i.val := by decide
  rw [all ⟨i, hi⟩]
theorem flipM_lt (x : Nat) : flipM x < 2 ^ 32 := mix_lt _ _ _ (by decide)
/-- The lowest i bits of n, from the other end. -/
def rev : Nat → Nat → Nat
  | 0, _ => 0
  | i + 1, n => 2 * rev i n + (n / 2 ^ i) % 2
theorem rev_lt (i n : Nat) : rev i n < 2 ^ i := by
  induction i with
  | zero => simp [rev]
  | succ i ih => simp only [rev, Nat.pow_succ]; omega
theorem rev_bit (n : Nat) : ∀ i j : Nat, (rev i n).testBit j = (decide (j < i) && n.testBit (i - 1 - j)) := by
  intro i
  induction i with
  | zero => intro j; simp [rev]
  | succ i ih =>
    intro j
    cases j with
    | zero =>
      rw [Nat.testBit_zero]
      have h : (rev (i + 1) n) % 2 = (n / 2 ^ i) % 2 := by simp only [rev]; omega
      rw [h]
      have : n.testBit i = decide (n / 2 ^ i % 2 = 1) := by
        rw [← Nat.testBit_zero, Nat.testBit_div_two_pow, Nat.zero_add]
      simp [this]
    | succ j =>
      rw [Nat.testBit_succ]
      have h : (rev (i + 1) n) / 2 = rev i n := by simp only [rev]; omega
      rw [h, ih j]
      by_cases hj : j < i
      · rw [decide_eq_true hj, decide_eq_true (by omega : j + 1 < i + 1), show i + 1 - 1 - (j + 1) = i - 1 - j by omega]
      · rw [decide_eq_false hj, decide_eq_false (by omega : ¬ j + 1 < i + 1)]; rfl
theorem rev_flipM (n : Nat) : rev 32 n = flipM n := by
  refine Nat.eq_of_testBit_eq fun j => ?_
  rw [rev_bit]
  by_cases hj : j < 32
  · rw [flipM_bit n j hj, decide_eq_true hj]; simp
  · rw [decide_eq_false hj, Bool.false_and]
    exact (Nat.testBit_lt_two_pow (Nat.lt_of_lt_of_le (flipM_lt n) (Nat.pow_le_pow_right (by decide) (by omega)))).symm

theorem u32n (n : Int) (h0 : 0 ≤ n) (h1 : n < 2 ^ 32) : IntKind.u32.wrap n = n := by rw [IntKind.wrap_u32]; omega
theorem mixI (m s x : Nat) (hs : s < 32) (hm : m < 2 ^ 32) (hx : x < 2 ^ 32) (p q : Int) (hp : p = ((2 ^ s : Nat) : Int)) (hq : q = (m : Int)) :
    Go.bits .or .u32 (Go.bits .and .u32 ((x : Int) / p) q) (((Go.bits .and .u32 (x : Int) q) * p) % 4294967296) = ((mix m s x : Nat) : Int) := by
  subst hp hq
  have hd : x / 2 ^ s < 2 ^ 32 := Nat.lt_of_le_of_lt (Nat.div_le_self _ _) hx
  have e1 : (x : Int) / ((2 ^ s : Nat) : Int) = ((x / 2 ^ s : Nat) : Int) := by simp
  have e2 : (((x &&& m : Nat) : Int) * ((2 ^ s : Nat) : Int)) % 4294967296 = (((x &&& m) * 2 ^ s % 2 ^ 32 : Nat) : Int) := by
    rw [show (4294967296 : Int) = ((2 ^ 32 : Nat) : Int) by decide]
    simp only [Int.natCast_emod, Int.natCast_mul]
  rw [e1, (bits_nat .u32 32 (by decide) u32n _ _ hd hm).1, (bits_nat .u32 32 (by decide) u32n _ _ hx hm).1, e2, (bits_nat .u32 32 (by decide) u32n _ _ (Nat.and_lt_two_pow _ hm) (Nat.mod_lt _ (by decide))).2]
  rfl
theorem top16 (x : Nat) (hx : x < 2 ^ 32) : Go.bits .or .u32 ((x : Int) / 65536) (((x : Int) * 65536) % 4294967296) = ((mix 65535 16 x : Nat) : Int) := by
  have h : mix 65535 16 x = (x / 65536) ||| (x * 65536 % 2 ^ 32) := by
    unfold mix
    rw [show (65535 : Nat) = 2 ^ 16 - 1 by decide, Nat.and_two_pow_sub_one_eq_mod, Nat.and_two_pow_sub_one_eq_mod]
    have h1 : x / 2 ^ 16 % 2 ^ 16 = x / 65536 := by omega
    have h2 : x % 2 ^ 16 * 2 ^ 16 % 2 ^ 32 = x * 65536 % 2 ^ 32 := by omega
    rw [h1, h2]
  have e1 : (x : Int) / 65536 = ((x / 65536 : Nat) : Int) := by simp
  have e2 : ((x : Int) * 65536) % 4294967296 = ((x * 65536 % 2 ^ 32 : Nat) : Int) := by omega
  rw [h, e1, e2, (bits_nat .u32 32 (by decide) u32n _ _ (by omega) (Nat.mod_lt _ (by decide))).2]
theorem reverse32 (x : Nat) (hx : x < 2 ^ 32) : bits_Reverse32.f (x : Int) = some ((flipM x : Nat) : Int) := by
  unfold bits_Reverse32.f bits_ReverseBytes32.f
  simp only [Option.bind_some]
  rw [mixI 1431655765 1 x (by decide) (by decide) hx 2 1431655765 (by decide) (by decide), mixI 858993459 2 _ (by decide) (by decide) (mix_lt _ _ _ (by decide)) 4 858993459 (by decide) (by decide), mixI 252645135 4 _ (by decide) (by decide) (mix_lt _ _ _ (by decide)) 16 252645135 (by decide) (by decide),
    mixI 16711935 8 _ (by decide) (by decide) (mix_lt _ _ _ (by decide)) 256 16711935 (by decide) (by decide), top16 _ (mix_lt _ _ _ (by decide))]
  rfl
/-- Flip, of a number. -/
def flp (n : Int) : Int := if 0 ≤ n ∧ n ≤ 4294967295 then ((flipM n.toNat : Nat) : Int) else 0
theorem flp_range (n : Int) : 0 ≤ flp n ∧ flp n ≤ 4294967295 := by
  unfold flp
  have := flipM_lt n.toNat
  split <;> omega
theorem impl_Flip (n : Int) : impl_Flip.f n = some (flp n) := by
  unfold impl_Flip.f impl_isNum.f flp
  simp only [within, Option.bind_some, decide_eq_true_eq]
  split
  · rename_i h
    obtain ⟨x, rfl⟩ := Int.eq_ofNat_of_zero_le h.1
    rw [show (x : Int) % 4294967296 = x by omega, reverse32 x (by omega)]
    have := flipM_lt x
    simp only [Option.bind_some, Int.toNat_natCast]
    rw [w64 (by omega) (by omega)]
  · rfl

theorem spec_Flip_go (n : Nat) (hn : n < 2 ^ 32) (d : Nat) : ∀ (k i : Nat), 32 - i = d → i ≤ 32 → d < k → spec_Flip.l0 k ((n / 2 ^ i : Nat) : Int) ((rev i n : Nat) : Int) (i : Int) = some ((rev 32 n : Nat) : Int) := by
  induction d with
  | zero =>
    intro k i hd hi hk
    obtain ⟨k, rfl⟩ : ∃ m, k = m + 1 := ⟨k - 1, by omega⟩
    obtain rfl : i = 32 := by omega
    simp only [spec_Flip.l0]
    rw [if_neg (by omega)]
  | succ d ih =>
    intro k i hd hi hk
    obtain ⟨k, rfl⟩ : ∃ m, k = m + 1 := ⟨k - 1, by omega⟩
    have hr : rev i n < 2 ^ 32 := Nat.lt_of_lt_of_le (rev_lt i n) (Nat.pow_le_pow_right (by decide) (by omega))
    have hx : n / 2 ^ i < 2 ^ 32 := Nat.lt_of_le_of_lt (Nat.div_le_self _ _) hn
    have e1 : n / 2 ^ (i + 1) = (n / 2 ^ i) / 2 := by rw [Nat.pow_succ, ← Nat.div_div_eq_div_mul]
    have e2 : rev (i + 1) n = 2 * rev i n + (n / 2 ^ i) % 2 := rfl
    have := ih k (i + 1) (by omega) (by omega) (by omega)
    rw [e1, e2] at this
    generalize n / 2 ^ i = y at *
    generalize rev i n = z at *
    simp only [spec_Flip.l0]
    rw [if_pos (by omega), Int.tdiv_eq_ediv_of_nonneg (by omega), Int.tmod_eq_emod_of_nonneg (by omega), w64 (by omega) (by omega), w64 (x := (z : Int) * 2) (by omega) (by omega), w64 (by omega) (by omega), w64 (by omega) (by omega)]
    rw [show (y : Int) / 2 = ((y / 2 : Nat) : Int) by omega, show (z : Int) * 2 + (y : Int) % 2 = ((2 * z + y % 2 : Nat) : Int) by omega, show (i : Int) + 1 = ((i + 1 : Nat) : Int) by omega]
    exact this
theorem spec_Flip (k : Nat) (hk : 32 < k) (n : Int) : spec_Flip.f k n = some (flp n) := by
  unfold spec_Flip.f spec_l01Num.f flp
  by_cases h0 : n ≥ 0
  · obtain ⟨x, rfl⟩ := Int.eq_ofNat_of_zero_le h0
    rw [if_pos h0]
    simp only [Option.bind_some, decide_eq_true_eq]
    by_cases h1 : (x : Int) ≤ 4294967295
    · rw [if_pos h1, if_pos (by omega)]
      have := spec_Flip_go x (by omega) 32 k 0 (by omega) (by omega) hk
      rw [Nat.pow_zero, Nat.div_one] at this
      rw [show (0 : Int) = ((rev 0 x : Nat) : Int) from rfl]
      rw [Int.toNat_natCast, ← rev_flipM]
      exact this
    · rw [if_neg h1, if_neg (by omega)]
  · rw [if_neg h0]
    simp only [Option.bind_some]
    rw [if_neg (by simp), if_neg (by omega)]


theorem andNot1 (x : Nat) (hx : x < 2 ^ 32) : Go.bits .andNot .i64 (x : Int) 1 = ((x / 2 * 2 : Nat) : Int) := by
  have e : ∀ y : BitVec 64, y = BitVec.ofInt 64 (x : Int) → (y &&& ~~~(BitVec.ofInt 64 1)).toNat = x / 2 * 2 := by
    intro y hy
    have hyn : y.toNat = x := by rw [hy, BitVec.ofInt_natCast, BitVec.toNat_ofNat]; omega
    rw [BitVec.toNat_and, hyn]
    refine Nat.eq_of_testBit_eq fun j => ?_
    rw [Nat.testBit_and, show (~~~(BitVec.ofInt 64 1)).toNat = 18446744073709551614 from by decide]
    cases j with
    | zero => simp [Nat.testBit_zero]
    | succ j =>
      rw [Nat.testBit_succ, Nat.testBit_succ, Nat.testBit_succ, show x / 2 * 2 / 2 = x / 2 by omega, show 18446744073709551614 / 2 = 2 ^ 63 - 1 from by decide, Nat.testBit_two_pow_sub_one]
      by_cases hj : j < 63
      · simp [hj]
      · have : (x / 2).testBit j = false := Nat.testBit_lt_two_pow (Nat.lt_of_lt_of_le (show x / 2 < 2 ^ 63 by omega) (Nat.pow_le_pow_right (by decide) (by omega)))
        simp [this]
  have h : Go.bits .andNot .i64 (x : Int) 1 = IntKind.i64.wrap (((BitVec.ofInt 64 (x : Int)) &&& ~~~(BitVec.ofInt 64 1)).toNat : Int) := rfl
  rw [h, e _ rfl, IntKind.wrap_i64]
  omega
theorem FnExactDummyKey : laws_FnExactDummyKey.Pure := by
  intro n _
  refine ⟨33, ?_⟩
  have hr := flp_range n
  unfold laws_FnExactDummyKey.f spec_DummyKey.f impl_DummyKey.f
  rw [spec_Flip 33 (by decide), impl_Flip]
  obtain ⟨x, hx⟩ := Int.eq_ofNat_of_zero_le hr.1
  simp only [Option.bind_some]
  rw [hx, andNot1 x (by omega), Int.tdiv_eq_ediv_of_nonneg (by omega), w64 (x := (x : Int) / 2) (by omega) (by omega), w64 (by omega) (by omega), if_pos (by omega)]

end Go.Proofs.Ytmpokfmibhkilaa.Pure
