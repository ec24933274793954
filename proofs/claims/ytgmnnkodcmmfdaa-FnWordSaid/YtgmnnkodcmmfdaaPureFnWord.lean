/- The law FnWord answers true whatever its arguments hold: the program's function and the reference's come to the same, and no list of an answer is shared. No condition. -/
import Derived.Test.YtgmnnkodcmmfdaaPFnWordx3
import Derived.Laws.BitsLemmas
namespace Go.Proofs.Ytgmnnkodcmmfdaa.Pure
open Go.RowKit Go.Proofs.Ytgmnnkodcmmfdaa.PFnWord Go.Proofs.YtgmnnkodcmmfdaaW.PrintWords Go.Proofs.YtgmnnkodcmmfdaaW.PrintLast
set_option linter.unusedSimpArgs false
set_option linter.unusedVariables false

/-! Small facts. -/
theorem w64 {x : Int} (h0 : -9223372036854775808 ≤ x) (h1 : x ≤ 9223372036854775807) : wrap64 x = x := by unfold wrap64; omega
theorem rd_nat (l : List Int) (j : Nat) : rd l (j : Int) = l.getD j 0 := by simp [rd]
/-- The numbers from m on, n of them. -/
def marked (m : Int) (n : Nat) : List Int := (List.range n).map fun (i : Nat) => m + (i : Int)
theorem marked_len (m : Int) (n : Nat) : (marked m n).length = n := by simp [marked]
theorem marked_get (m : Int) (n j : Nat) (h : j < n) : (marked m n).getD j 0 = m + j := by simp [marked, List.getD, h]
theorem neg1 (n : Nat) : ((1 : Int) + (n : Int) < 0) = False := by simp only [eq_iff_iff, iff_false]; omega
theorem neg0 : ((-1 : Int) < 0) = True := by simp
theorem i64r {n : Int} (h : (Lit.int .i64 n).wf = true) : -9223372036854775808 ≤ n ∧ n ≤ 9223372036854775807 := by
  have e1 : IntKind.i64.min = -9223372036854775808 := by decide
  have e2 : IntKind.i64.max = 9223372036854775807 := by decide
  simp only [Lit.wf, Bool.and_eq_true, decide_eq_true_eq, e1, e2] at h
  exact h

theorem within (a lo hi : Int) : impl_within.f a lo hi = some (decide (lo ≤ a ∧ a ≤ hi)) := by
  unfold impl_within.f
  by_cases h : a ≥ lo
  · rw [if_pos h]
    have h' : lo ≤ a := h
    simp [h']
  · rw [if_neg h]
    have h' : ¬ lo ≤ a := h
    simp [h']

theorem isNum (x : Int) : impl_isNum.f x = some (decide (0 ≤ x ∧ x ≤ 4294967295)) := by
  unfold impl_isNum.f
  rw [within]; rfl

/-! A number turned from end to end: bit by bit, and by masks. -/
def mix (m s x : Nat) : Nat := ((x / 2 ^ s) &&& m) ||| ((x &&& m) * 2 ^ s) % 2 ^ 32
def swp (b i : Nat) : Nat := if i % (2 * b) < b then i + b else i - b
theorem mix_lt (m s x : Nat) (hm : m < 2 ^ 32) : mix m s x < 2 ^ 32 := Nat.or_lt_two_pow (Nat.and_lt_two_pow _ hm) (Nat.mod_lt _ (by decide))
theorem mix_bit (m s x i : Nat) (hi : i < 32) : (mix m s x).testBit i = ((x.testBit (i + s) && m.testBit i) || (decide (s ≤ i) && (x.testBit (i - s) && m.testBit (i - s)))) := by
  unfold mix
  rw [Nat.testBit_or, Nat.testBit_and, Nat.testBit_div_two_pow, Nat.testBit_mod_two_pow, ← Nat.shiftLeft_eq, Nat.testBit_shiftLeft, Nat.testBit_and, decide_eq_true hi, Bool.true_and]
theorem mix_swap (m b x : Nat) (hm : ∀ i : Fin 32, m.testBit i.val = decide (i.val % (2 * b) < b)) (hb : ∀ i : Fin 32, (i.val % (2 * b) < b → i.val + b < 32) ∧ (¬ i.val % (2 * b) < b → b ≤ i.val ∧ (i.val - b) % (2 * b) < b)) (hc : ∀ i : Fin 32, i.val % (2 * b) < b → b ≤ i.val → ¬ (i.val - b) % (2 * b) < b)
    (i : Nat) (hi : i < 32) : (mix m b x).testBit i = x.testBit (swp b i) := by
  rw [mix_bit m b x i hi, hm ⟨i, hi⟩]
  show ((x.testBit (i + b) && decide (i % (2 * b) < b)) || (decide (b ≤ i) && (x.testBit (i - b) && m.testBit (i - b)))) = x.testBit (swp b i)
  have h1 := hb ⟨i, hi⟩
  have h2 := hc ⟨i, hi⟩
  have h3 := hm ⟨i - b, by omega⟩
  simp only at h1 h2 h3
  rw [h3]
  unfold swp
  by_cases h : i % (2 * b) < b
  · rw [if_pos h, decide_eq_true h, Bool.and_true]
    by_cases hbi : b ≤ i
    · rw [decide_eq_false (h2 h hbi)]; simp
    · rw [decide_eq_false hbi]; simp
  · obtain ⟨h4, h5⟩ := h1.2 h
    rw [if_neg h, decide_eq_false h, decide_eq_true h4, decide_eq_true h5]; simp
def flipM (x : Nat) : Nat := mix 65535 16 (mix 16711935 8 (mix 252645135 4 (mix 858993459 2 (mix 1431655765 1 x))))
theorem swp_lt (b i : Nat) (hb : ∀ i : Fin 32, (i.val % (2 * b) < b → i.val + b < 32)) (hi : i < 32) : swp b i < 32 := by
  unfold swp
  split
  · exact hb ⟨i, hi⟩ (by assumption)
  · omega
theorem flipM_bit (x i : Nat) (hi : i < 32) : (flipM x).testBit i = x.testBit (31 - i) := by
  have l16 : swp 16 i < 32 := swp_lt 16 i (by decide) hi
  have l8 : swp 8 (swp 16 i) < 32 := swp_lt 8 _ (by decide) l16
  have l4 : swp 4 (swp 8 (swp 16 i)) < 32 := swp_lt 4 _ (by decide) l8
  have l2 : swp 2 (swp 4 (swp 8 (swp 16 i))) < 32 := swp_lt 2 _ (by decide) l4
  unfold flipM
  rw [mix_swap 65535 16 _ (by decide) (by decide) (by decide) i hi, mix_swap 16711935 8 _ (by decide) (by decide) (by decide) _ l16, mix_swap 252645135 4 _ (by decide) (by decide) (by decide) _ l8,
    mix_swap 858993459 2 _ (by decide) (by decide) (by decide) _ l4, mix_swap 1431655765 1 _ (by decide) (by decide) (by decide) _ l2]
  have all : ∀ i : Fin 32, swp 1 (swp 2 (swp 4 (swp 8 (swp 16 i.val)))) = 31 - i.val := by decide
  rw [all ⟨i, hi⟩]
theorem flipM_lt (x : Nat) : flipM x < 2 ^ 32 := mix_lt _ _ _ (by decide)
/-- The lowest i bits of n, from the other end. -/
def rev : Nat → Nat → Nat
  | 0, _ => 0
  | i + 1, n => 2 * rev i n + (n / 2 ^ i) % 2
theorem rev_lt (i n : Nat) : rev i n < 2 ^ i := by
  induction i with
  | zero => simp [rev]
  | succ i ih => simp only [rev, Nat.pow_succ]; omega
theorem rev_bit (n : Nat) : ∀ i j : Nat, (rev i n).testBit j = (decide (j < i) && n.testBit (i - 1 - j)) := by
  intro i
  induction i with
  | zero => intro j; simp [rev]
  | succ i ih =>
    intro j
    cases j with
    | zero =>
      rw [Nat.testBit_zero]
      have h : (rev (i + 1) n) % 2 = (n / 2 ^ i) % 2 := by simp only [rev]; omega
      rw [h]
      have : n.testBit i = decide (n / 2 ^ i % 2 = 1) := by
        rw [← Nat.testBit_zero, Nat.testBit_div_two_pow, Nat.zero_add]
      simp [this]
    | succ j =>
      rw [Nat.testBit_succ]
      have h : (rev (i + 1) n) / 2 = rev i n := by simp only [rev]; omega
      rw [h, ih j]
      by_cases hj : j < i
      · rw [decide_eq_true hj, decide_eq_true (by omega : j + 1 < i + 1), show i + 1 - 1 - (j + 1) = i - 1 - j by omega]
      · rw [decide_eq_false hj, decide_eq_false (by omega : ¬ j + 1 < i + 1)]; rfl
theorem rev_flipM (n : Nat) : rev 32 n = flipM n := by
  refine Nat.eq_of_testBit_eq fun j => ?_
  rw [rev_bit]
  by_cases hj : j < 32
  · rw [flipM_bit n j hj, decide_eq_true hj]; simp
  · rw [decide_eq_false hj, Bool.false_and]
    exact (Nat.testBit_lt_two_pow (Nat.lt_of_lt_of_le (flipM_lt n) (Nat.pow_le_pow_right (by decide) (by omega)))).symm

theorem u32n (n : Int) (h0 : 0 ≤ n) (h1 : n < 2 ^ 32) : IntKind.u32.wrap n = n := by rw [IntKind.wrap_u32]; omega
theorem mixI (m s x : Nat) (hs : s < 32) (hm : m < 2 ^ 32) (hx : x < 2 ^ 32) (p q : Int) (hp : p = ((2 ^ s : Nat) : Int)) (hq : q = (m : Int)) :
    Go.bits .or .u32 (Go.bits .and .u32 ((x : Int) / p) q) (((Go.bits .and .u32 (x : Int) q) * p) % 4294967296) = ((mix m s x : Nat) : Int) := by
  subst hp hq
  have hd : x / 2 ^ s < 2 ^ 32 := Nat.lt_of_le_of_lt (Nat.div_le_self _ _) hx
  have e1 : (x : Int) / ((2 ^ s : Nat) : Int) = ((x / 2 ^ s : Nat) : Int) := by simp
  have e2 : (((x &&& m : Nat) : Int) * ((2 ^ s : Nat) : Int)) % 4294967296 = (((x &&& m) * 2 ^ s % 2 ^ 32 : Nat) : Int) := by
    rw [show (4294967296 : Int) = ((2 ^ 32 : Nat) : Int) by decide]
    simp only [Int.natCast_emod, Int.natCast_mul]
  rw [e1, (bits_nat .u32 32 (by decide) u32n _ _ hd hm).1, (bits_nat .u32 32 (by decide) u32n _ _ hx hm).1, e2, (bits_nat .u32 32 (by decide) u32n _ _ (Nat.and_lt_two_pow _ hm) (Nat.mod_lt _ (by decide))).2]
  rfl
theorem top16 (x : Nat) (hx : x < 2 ^ 32) : Go.bits .or .u32 ((x : Int) / 65536) (((x : Int) * 65536) % 4294967296) = ((mix 65535 16 x : Nat) : Int) := by
  have h : mix 65535 16 x = (x / 65536) ||| (x * 65536 % 2 ^ 32) := by
    unfold mix
    rw [show (65535 : Nat) = 2 ^ 16 - 1 by decide, Nat.and_two_pow_sub_one_eq_mod, Nat.and_two_pow_sub_one_eq_mod]
    have h1 : x / 2 ^ 16 % 2 ^ 16 = x / 65536 := by omega
    have h2 : x % 2 ^ 16 * 2 ^ 16 % 2 ^ 32 = x * 65536 % 2 ^ 32 := by omega
    rw [h1, h2]
  have e1 : (x : Int) / 65536 = ((x / 65536 : Nat) : Int) := by simp
  have e2 : ((x : Int) * 65536) % 4294967296 = ((x * 65536 % 2 ^ 32 : Nat) : Int) := by omega
  rw [h, e1, e2, (bits_nat .u32 32 (by decide) u32n _ _ (by omega) (Nat.mod_lt _ (by decide))).2]
theorem reverse32 (x : Nat) (hx : x < 2 ^ 32) : bits_Reverse32.f (x : Int) = some ((flipM x : Nat) : Int) := by
  unfold bits_Reverse32.f bits_ReverseBytes32.f
  simp only [Option.bind_some]
  rw [mixI 1431655765 1 x (by decide) (by decide) hx 2 1431655765 (by decide) (by decide), mixI 858993459 2 _ (by decide) (by decide) (mix_lt _ _ _ (by decide)) 4 858993459 (by decide) (by decide), mixI 252645135 4 _ (by decide) (by decide) (mix_lt _ _ _ (by decide)) 16 252645135 (by decide) (by decide),
    mixI 16711935 8 _ (by decide) (by decide) (mix_lt _ _ _ (by decide)) 256 16711935 (by decide) (by decide), top16 _ (mix_lt _ _ _ (by decide))]
  rfl
/-- Flip, of a number. -/
def flp (n : Int) : Int := if 0 ≤ n ∧ n ≤ 4294967295 then ((flipM n.toNat : Nat) : Int) else 0
theorem flp_range (n : Int) : 0 ≤ flp n ∧ flp n ≤ 4294967295 := by
  unfold flp
  have := flipM_lt n.toNat
  split <;> omega
theorem impl_Flip (n : Int) : impl_Flip.f n = some (flp n) := by
  unfold impl_Flip.f impl_isNum.f flp
  simp only [within, Option.bind_some, decide_eq_true_eq]
  split
  · rename_i h
    obtain ⟨x, rfl⟩ := Int.eq_ofNat_of_zero_le h.1
    rw [show (x : Int) % 4294967296 = x by omega, reverse32 x (by omega)]
    have := flipM_lt x
    simp only [Option.bind_some, Int.toNat_natCast]
    rw [w64 (by omega) (by omega)]
  · rfl

theorem andNot1 (x : Nat) (hx : x < 2 ^ 32) : Go.bits .andNot .i64 (x : Int) 1 = ((x / 2 * 2 : Nat) : Int) := by
  have e : ∀ y : BitVec 64, y = BitVec.ofInt 64 (x : Int) → (y &&& ~~~(BitVec.ofInt 64 1)).toNat = x / 2 * 2 := by
    intro y hy
    have hyn : y.toNat = x := by rw [hy, BitVec.ofInt_natCast, BitVec.toNat_ofNat]; omega
    rw [BitVec.toNat_and, hyn]
    refine Nat.eq_of_testBit_eq fun j => ?_
    rw [Nat.testBit_and, show (~~~(BitVec.ofInt 64 1)).toNat = 18446744073709551614 from by decide]
    cases j with
    | zero => simp [Nat.testBit_zero]
    | succ j =>
      rw [Nat.testBit_succ, Nat.testBit_succ, Nat.testBit_succ, show x / 2 * 2 / 2 = x / 2 by omega, show 18446744073709551614 / 2 = 2 ^ 63 - 1 from by decide, Nat.testBit_two_pow_sub_one]
      by_cases hj : j < 63
      · simp [hj]
      · have : (x / 2).testBit j = false := Nat.testBit_lt_two_pow (Nat.lt_of_lt_of_le (show x / 2 < 2 ^ 63 by omega) (Nat.pow_le_pow_right (by decide) (by omega)))
        simp [this]
  have h : Go.bits .andNot .i64 (x : Int) 1 = IntKind.i64.wrap (((BitVec.ofInt 64 (x : Int)) &&& ~~~(BitVec.ofInt 64 1)).toNat : Int) := rfl
  rw [h, e _ rfl, IntKind.wrap_i64]
  omega
theorem i64n (n : Int) (h0 : 0 ≤ n) (h1 : n < 2 ^ 33) : IntKind.i64.wrap n = n := by rw [IntKind.wrap_i64]; omega
theorem or1 (x : Nat) (hx : x < 2 ^ 32) : Go.bits .or .i64 (x : Int) 1 = ((x / 2 * 2 + 1 : Nat) : Int) := by
  have h := (bits_nat .i64 33 (by decide) i64n x 1 (by omega) (by decide)).2
  rw [show ((1 : Int)) = ((1 : Nat) : Int) from rfl, h]
  refine congrArg (fun n : Nat => (n : Int)) (Nat.eq_of_testBit_eq fun j => ?_)
  rw [Nat.testBit_or]
  cases j with
  | zero => simp [Nat.testBit_zero]
  | succ j =>
    rw [Nat.testBit_succ, Nat.testBit_succ, Nat.testBit_succ, show (x / 2 * 2 + 1) / 2 = x / 2 by omega]
    simp


set_option maxRecDepth 100000
/-- The table of the lengths. -/
def T : ByteArray := (⟨((([0, 1, 2, 2, 3, 3, 3, 3, 4, 4, 4, 4, 4, 4, 4, 4, 5, 5, 5, 5, 5, 5, 5, 5, 5, 5, 5, 5, 5, 5, 5, 5, 6, 6, 6, 6, 6, 6, 6, 6, 6, 6, 6, 6, 6, 6, 6, 6, 6, 6, 6, 6, 6, 6, 6, 6, 6, 6, 6, 6, 6, 6, 6, 6] : List UInt8).append ([7, 7, 7, 7, 7, 7, 7, 7, 7, 7, 7, 7, 7, 7, 7, 7, 7, 7, 7, 7, 7, 7, 7, 7, 7, 7, 7, 7, 7, 7, 7, 7, 7, 7, 7, 7, 7, 7, 7, 7, 7, 7, 7, 7, 7, 7, 7, 7, 7, 7, 7, 7, 7, 7, 7, 7, 7, 7, 7, 7, 7, 7, 7, 7] : List UInt8)).append (([8, 8, 8, 8, 8, 8, 8, 8, 8, 8, 8, 8, 8, 8, 8, 8, 8, 8, 8, 8, 8, 8, 8, 8, 8, 8, 8, 8, 8, 8, 8, 8, 8, 8, 8, 8, 8, 8, 8, 8, 8, 8, 8, 8, 8, 8, 8, 8, 8, 8, 8, 8, 8, 8, 8, 8, 8, 8, 8, 8, 8, 8, 8, 8] : List UInt8).append ([8, 8, 8, 8, 8, 8, 8, 8, 8, 8, 8, 8, 8, 8, 8, 8, 8, 8, 8, 8, 8, 8, 8, 8, 8, 8, 8, 8, 8, 8, 8, 8, 8, 8, 8, 8, 8, 8, 8, 8, 8, 8, 8, 8, 8, 8, 8, 8, 8, 8, 8, 8, 8, 8, 8, 8, 8, 8, 8, 8, 8, 8, 8, 8] : List UInt8))).toArray⟩ : ByteArray)
theorem j0_eq (k : Nat) (x0 x2 : Int) : bits_Len64.j0 (k + 1) x0 x2 = (if x0 ≥ 65536 then (if (x0 / 65536) ≥ 256 then (if 0 ≤ (((x0 / 65536) / 256) % 256) then (if (((x0 / 65536) / 256) % 256) < (T.size : Int) then (some (wrap64 ((wrap64 ((wrap64 (x2 + 16)) + 8)) + (wrap64 (bt T (((x0 / 65536) / 256) % 256)))))) else (none)) else (none)) else (if 0 ≤ ((x0 / 65536) % 256) then (if ((x0 / 65536) % 256) < (T.size : Int) then (some (wrap64 ((wrap64 (x2 + 16)) + (wrap64 (bt T ((x0 / 65536) % 256)))))) else (none)) else (none))) else (if x0 ≥ 256 then (if 0 ≤ ((x0 / 256) % 256) then (if ((x0 / 256) % 256) < (T.size : Int) then (some (wrap64 ((wrap64 (x2 + 8)) + (wrap64 (bt T ((x0 / 256) % 256)))))) else (none)) else (none)) else (if 0 ≤ ((x0) % 256) then (if ((x0) % 256) < (T.size : Int) then (some (wrap64 (x2 + (wrap64 (bt T ((x0) % 256)))))) else (none)) else (none)))) := rfl
theorem T_size : (T.size : Int) = 256 := by decide +kernel
theorem T_tab : ∀ i : Fin 256, 1 ≤ i.val → ∃ l : Fin 8, bt T (i.val : Int) = (l.val : Int) + 1 ∧ 2 ^ l.val ≤ i.val ∧ i.val < 2 ^ (l.val + 1) := by decide +kernel
theorem T_at (i : Int) (h0 : 1 ≤ i) (h1 : i < 256) : ∃ l : Nat, l < 8 ∧ bt T i = (l : Int) + 1 ∧ (2 : Int) ^ l ≤ i ∧ i < (2 : Int) ^ (l + 1) := by
  obtain ⟨l, h2, h3, h4⟩ := T_tab ⟨i.toNat, by omega⟩ (by show 1 ≤ i.toNat; omega)
  have e : ((i.toNat : Nat) : Int) = i := by omega
  refine ⟨l.val, l.isLt, ?_, ?_, ?_⟩
  · simpa only [e] using h2
  · rw [← e]; exact_mod_cast h3
  · rw [← e]; exact_mod_cast h4
theorem len (k : Nat) (n : Int) (h0 : 1 ≤ n) (h1 : n ≤ 4294967295) : ∃ p : Nat, p < 32 ∧ (2 : Int) ^ p ≤ n ∧ n < (2 : Int) ^ (p + 1) ∧ bits_Len.f (k + 1) n = some ((p : Int) + 1) := by
  unfold bits_Len.f bits_Len64.f
  rw [if_neg (by omega), j0_eq]
  by_cases c1 : n ≥ 65536
  · by_cases c2 : n / 65536 ≥ 256
    · obtain ⟨l, hl, h2, h3, h4⟩ := T_at (n / 65536 / 256 % 256) (by omega) (by omega)
      rw [if_pos c1, if_pos c2, if_pos (by omega), T_size, if_pos (by omega), h2]
      have : l = 0 ∨ l = 1 ∨ l = 2 ∨ l = 3 ∨ l = 4 ∨ l = 5 ∨ l = 6 ∨ l = 7 := by omega
      rcases this with rfl | rfl | rfl | rfl | rfl | rfl | rfl | rfl
      · exact ⟨24, by omega, by omega, by omega, by decide +kernel⟩
      · exact ⟨25, by omega, by omega, by omega, by decide +kernel⟩
      · exact ⟨26, by omega, by omega, by omega, by decide +kernel⟩
      · exact ⟨27, by omega, by omega, by omega, by decide +kernel⟩
      · exact ⟨28, by omega, by omega, by omega, by decide +kernel⟩
      · exact ⟨29, by omega, by omega, by omega, by decide +kernel⟩
      · exact ⟨30, by omega, by omega, by omega, by decide +kernel⟩
      · exact ⟨31, by omega, by omega, by omega, by decide +kernel⟩
    · obtain ⟨l, hl, h2, h3, h4⟩ := T_at (n / 65536 % 256) (by omega) (by omega)
      rw [if_pos c1, if_neg c2, if_pos (by omega), T_size, if_pos (by omega), h2]
      have : l = 0 ∨ l = 1 ∨ l = 2 ∨ l = 3 ∨ l = 4 ∨ l = 5 ∨ l = 6 ∨ l = 7 := by omega
      rcases this with rfl | rfl | rfl | rfl | rfl | rfl | rfl | rfl
      · exact ⟨16, by omega, by omega, by omega, by decide +kernel⟩
      · exact ⟨17, by omega, by omega, by omega, by decide +kernel⟩
      · exact ⟨18, by omega, by omega, by omega, by decide +kernel⟩
      · exact ⟨19, by omega, by omega, by omega, by decide +kernel⟩
      · exact ⟨20, by omega, by omega, by omega, by decide +kernel⟩
      · exact ⟨21, by omega, by omega, by omega, by decide +kernel⟩
      · exact ⟨22, by omega, by omega, by omega, by decide +kernel⟩
      · exact ⟨23, by omega, by omega, by omega, by decide +kernel⟩
  · by_cases c2 : n ≥ 256
    · obtain ⟨l, hl, h2, h3, h4⟩ := T_at (n / 256 % 256) (by omega) (by omega)
      rw [if_neg c1, if_pos c2, if_pos (by omega), T_size, if_pos (by omega), h2]
      have : l = 0 ∨ l = 1 ∨ l = 2 ∨ l = 3 ∨ l = 4 ∨ l = 5 ∨ l = 6 ∨ l = 7 := by omega
      rcases this with rfl | rfl | rfl | rfl | rfl | rfl | rfl | rfl
      · exact ⟨8, by omega, by omega, by omega, by decide +kernel⟩
      · exact ⟨9, by omega, by omega, by omega, by decide +kernel⟩
      · exact ⟨10, by omega, by omega, by omega, by decide +kernel⟩
      · exact ⟨11, by omega, by omega, by omega, by decide +kernel⟩
      · exact ⟨12, by omega, by omega, by omega, by decide +kernel⟩
      · exact ⟨13, by omega, by omega, by omega, by decide +kernel⟩
      · exact ⟨14, by omega, by omega, by omega, by decide +kernel⟩
      · exact ⟨15, by omega, by omega, by omega, by decide +kernel⟩
    · obtain ⟨l, hl, h2, h3, h4⟩ := T_at (n % 256) (by omega) (by omega)
      rw [if_neg c1, if_neg c2, if_pos (by omega), T_size, if_pos (by omega), h2]
      have : l = 0 ∨ l = 1 ∨ l = 2 ∨ l = 3 ∨ l = 4 ∨ l = 5 ∨ l = 6 ∨ l = 7 := by omega
      rcases this with rfl | rfl | rfl | rfl | rfl | rfl | rfl | rfl
      · exact ⟨0, by omega, by omega, by omega, by decide +kernel⟩
      · exact ⟨1, by omega, by omega, by omega, by decide +kernel⟩
      · exact ⟨2, by omega, by omega, by omega, by decide +kernel⟩
      · exact ⟨3, by omega, by omega, by omega, by decide +kernel⟩
      · exact ⟨4, by omega, by omega, by omega, by decide +kernel⟩
      · exact ⟨5, by omega, by omega, by omega, by decide +kernel⟩
      · exact ⟨6, by omega, by omega, by omega, by decide +kernel⟩
      · exact ⟨7, by omega, by omega, by omega, by decide +kernel⟩
theorem shl_at : ∀ p : Fin 32, shl .i64 1 (p.val : Int) = (2 : Int) ^ p.val := by decide +kernel
theorem pow_le (a b : Nat) (h : a ≤ b) : (2 : Int) ^ a ≤ (2 : Int) ^ b := by exact_mod_cast Nat.pow_le_pow_right (show 0 < 2 by omega) h
/-! NumText. -/
def dig (m : Int) : ByteArray := strOfNums [(wrap64 (48 + m)) % 256]
theorem dig_size (m : Int) : (dig m).size = 1 := by simp [dig, strOfNums, ByteArray.size]
/-! Made numbers. -/
theorem and255 (x : Int) : ∃ n : Nat, n ≤ 255 ∧ Go.bits .and .i64 x 255 = (n : Int) := by
  refine ⟨((BitVec.ofInt 64 x) &&& (BitVec.ofInt 64 255)).toNat, ?_, ?_⟩
  · rw [BitVec.toNat_and, show (BitVec.ofInt 64 255).toNat = 255 from by decide]
    exact Nat.and_le_right
  · have h : Go.bits .and .i64 x 255 = IntKind.i64.wrap (((BitVec.ofInt 64 x) &&& (BitVec.ofInt 64 255)).toNat : Int) := rfl
    have hb : ((BitVec.ofInt 64 x) &&& (BitVec.ofInt 64 255)).toNat ≤ 255 := by
      rw [BitVec.toNat_and, show (BitVec.ofInt 64 255).toNat = 255 from by decide]
      exact Nat.and_le_right
    rw [h, IntKind.wrap_i64]
    omega
theorem xorN (x y : Nat) (hx : x < 2 ^ 32) (hy : y < 2 ^ 32) : ∃ n : Nat, n < 2 ^ 32 ∧ Go.bits .xor .i64 (x : Int) (y : Int) = (n : Int) := by
  refine ⟨x ^^^ y, Nat.xor_lt_two_pow hx hy, ?_⟩
  have h : Go.bits .xor .i64 (x : Int) (y : Int) = IntKind.i64.wrap (((BitVec.ofInt 64 (x : Int)) ^^^ (BitVec.ofInt 64 (y : Int))).toNat : Int) := rfl
  have e : ((BitVec.ofInt 64 (x : Int)) ^^^ (BitVec.ofInt 64 (y : Int))).toNat = x ^^^ y := by
    rw [BitVec.toNat_xor, BitVec.ofInt_natCast, BitVec.ofInt_natCast, BitVec.toNat_ofNat, BitVec.toNat_ofNat, Nat.mod_eq_of_lt (by omega), Nat.mod_eq_of_lt (by omega)]
  have hb := Nat.xor_lt_two_pow hx hy
  rw [h, e, IntKind.wrap_i64]
  omega
theorem l01Byte (l : List Int) (p : Int) (s : Int) (hp : 0 ≤ p) (hp2 : p ≤ 1000000000) : ∃ b p' s' : Int, 0 ≤ b ∧ b ≤ 255 ∧ 0 ≤ p' ∧ p' ≤ p + 1 ∧ spec_l01Byte.f l p s = some (b, p', s') := by
  unfold spec_l01Byte.f
  by_cases h : p < (l.length : Int)
  · rw [if_pos h, if_pos hp]
    obtain ⟨n, hn, e⟩ := and255 (wrap64 ((Go.bits .and .i64 (Go.bits .xor .i64 ((wrap64 ((wrap64 (s * 6364136223846793005)) + 1442695040888963407)) / 8589934592) ((wrap64 ((wrap64 (s * 6364136223846793005)) + 1442695040888963407)) / 35184372088832)) 255) + (wrap64 (rd l p))))
    rw [e, w64 (x := p + 1) (by omega) (by omega)]
    exact ⟨_, _, _, by omega, by omega, by omega, by omega, rfl⟩
  · rw [if_neg h]
    obtain ⟨n, hn, e⟩ := and255 (Go.bits .xor .i64 ((wrap64 ((wrap64 (s * 6364136223846793005)) + 1442695040888963407)) / 8589934592) ((wrap64 ((wrap64 (s * 6364136223846793005)) + 1442695040888963407)) / 35184372088832))
    rw [e]
    exact ⟨_, _, _, by omega, by omega, hp, by omega, rfl⟩
theorem l01Below (l : List Int) (s m : Int) (hm : 256 < m) (hm2 : m ≤ 100000) : ∃ b p' s' : Int, 0 ≤ b ∧ b < m ∧ spec_l01Below.f l 0 s m = some (b, p', s') := by
  obtain ⟨b1, p1, s1, h1, h2, h3, h4, e1⟩ := l01Byte l 0 s (by omega) (by omega)
  obtain ⟨b2, p2, s2, h5, h6, h7, h8, e2⟩ := l01Byte l p1 s1 (by omega) (by omega)
  obtain ⟨b3, p3, s3, h9, h10, h11, h12, e3⟩ := l01Byte l p2 s2 (by omega) (by omega)
  obtain ⟨b4, p4, s4, h13, h14, h15, h16, e4⟩ := l01Byte l p3 s3 (by omega) (by omega)
  unfold spec_l01Below.f
  rw [if_neg (by omega), if_neg (by omega), e1]
  simp only [Option.bind_some]
  rw [e2]
  simp only [Option.bind_some]
  rw [e3]
  simp only [Option.bind_some]
  rw [e4]
  simp only [Option.bind_some]
  rw [if_neg (by omega), w64 (x := b1 * 16777216) (by omega) (by omega), w64 (x := b2 * 65536) (by omega) (by omega), w64 (x := b1 * 16777216 + b2 * 65536) (by omega) (by omega), w64 (x := b3 * 256) (by omega) (by omega), w64 (x := b1 * 16777216 + b2 * 65536 + b3 * 256) (by omega) (by omega), w64 (by omega) (by omega), Int.tmod_eq_emod_of_nonneg (by omega)]
  exact ⟨_, _, _, Int.emod_nonneg _ (by omega), Int.emod_lt_of_pos _ (by omega), rfl⟩
theorem l01New_go (l : List Int) (hl : l.length ≤ 1048576) (d : Nat) : ∀ (j : Nat) (v : Int), l.length - j = d → j ≤ l.length → ∃ s, ∀ k, d < k → spec_l01New.l0 k l v (j : Int) = some (l, 0, s) := by
  induction d with
  | zero =>
    intro j v hd hj
    refine ⟨v, fun k hk => ?_⟩
    obtain ⟨k, rfl⟩ : ∃ m, k = m + 1 := ⟨k - 1, by omega⟩
    simp only [spec_l01New.l0]
    rw [if_neg (by omega)]
  | succ d ih =>
    intro j v hd hj
    by_cases h : (j : Int) < 4000
    · obtain ⟨s, hs⟩ := ih (j + 1) (Go.bits .and .i64 (wrap64 ((wrap64 ((wrap64 (v * 179)) + (wrap64 (rd l (j : Int))))) + 7)) 1073741823) (by omega) (by omega)
      refine ⟨s, fun k hk => ?_⟩
      obtain ⟨k, rfl⟩ : ∃ m, k = m + 1 := ⟨k - 1, by omega⟩
      simp only [spec_l01New.l0]
      rw [if_pos (by omega), if_pos h, if_pos (by omega), w64 (x := (j : Int) + 1) (by omega) (by omega), show (j : Int) + 1 = ((j + 1 : Nat) : Int) by omega]
      exact hs k (by omega)
    · refine ⟨v, fun k hk => ?_⟩
      obtain ⟨k, rfl⟩ : ∃ m, k = m + 1 := ⟨k - 1, by omega⟩
      simp only [spec_l01New.l0]
      rw [if_pos (by omega), if_neg h]
theorem MakeNum (l : List Int) (hl : l.length ≤ 1048576) (m : Int) (hm : 256 < m) (hm2 : m ≤ 100000) : ∃ v : Int, 0 ≤ v ∧ v < m ∧ ∀ k, 1048577 ≤ k → spec_MakeNum.f k l m = some v := by
  obtain ⟨s, hs⟩ := l01New_go l hl l.length 0 (wrap64 (774119 + (l.length : Int))) (by omega) (by omega)
  obtain ⟨b, p, s', h1, h2, h3⟩ := l01Below l (wrap64 (s + 777)) m hm hm2
  refine ⟨b, h1, h2, fun k hk => ?_⟩
  unfold spec_MakeNum.f spec_l01New.f
  have := hs k (by omega)
  rw [show ((0 : Nat) : Int) = 0 from rfl] at this
  rw [this]
  simp only [Option.bind_some]
  rw [h3]
  rfl
/-! The hash is a number of 32 bits. -/
theorem Hash_go (x : ByteArray) (hx : x.size ≤ 100) (d : Nat) : ∀ (j : Nat) (v : Nat), v < 2 ^ 32 → x.size - j = d → j ≤ x.size → ∃ r : Nat, r < 2 ^ 32 ∧ ∀ k, d < k → impl_Hash.l0 k x (v : Int) (j : Int) = some (r : Int) := by
  induction d with
  | zero =>
    intro j v hv hd hj
    refine ⟨v, hv, fun k hk => ?_⟩
    obtain ⟨k, rfl⟩ : ∃ m, k = m + 1 := ⟨k - 1, by omega⟩
    simp only [impl_Hash.l0]
    rw [if_neg (by omega)]
  | succ d ih =>
    intro j v hv hd hj
    have hb := bt_range x (j : Int)
    obtain ⟨b, hbb⟩ := Int.eq_ofNat_of_zero_le hb.1
    obtain ⟨n, hn, e⟩ := xorN v b hv (by omega)
    have e2 : Int.tmod (wrap64 ((n : Int) * 16777619)) 4294967296 = ((n * 16777619 % 4294967296 : Nat) : Int) := by
      rw [w64 (by omega) (by omega), Int.tmod_eq_emod_of_nonneg (by omega)]
      omega
    obtain ⟨r, hr, h⟩ := ih (j + 1) (n * 16777619 % 4294967296) (by omega) (by omega) (by omega)
    refine ⟨r, hr, fun k hk => ?_⟩
    obtain ⟨k, rfl⟩ : ∃ m, k = m + 1 := ⟨k - 1, by omega⟩
    simp only [impl_Hash.l0]
    rw [if_pos (by omega), if_pos (by omega), hbb, w64 (x := (b : Int)) (by omega) (by omega), e, e2, w64 (x := (j : Int) + 1) (by omega) (by omega), show (j : Int) + 1 = ((j + 1 : Nat) : Int) by omega]
    exact h k (by omega)
theorem Hash (x : ByteArray) (hx : x.size ≤ 100) : ∃ r : Nat, r < 2 ^ 32 ∧ ∀ k, 101 ≤ k → impl_Hash.f k x = some (r : Int) := by
  obtain ⟨r, hr, h⟩ := Hash_go x hx x.size 0 2166136261 (by omega) (by omega) (by omega)
  refine ⟨r, hr, fun k hk => ?_⟩
  unfold impl_Hash.f
  exact h k (by omega)
/-! Turned twice; the keys' order. -/
theorem flipM_flipM (x : Nat) (hx : x < 2 ^ 32) : flipM (flipM x) = x := by
  refine Nat.eq_of_testBit_eq fun i => ?_
  by_cases hi : i < 32
  · rw [flipM_bit _ i hi, flipM_bit _ (31 - i) (by omega), show 31 - (31 - i) = i by omega]
  · have p : ∀ y, y < 2 ^ 32 → y.testBit i = false := fun y hy => Nat.testBit_lt_two_pow (Nat.lt_of_lt_of_le hy (Nat.pow_le_pow_right (by decide) (by omega)))
    rw [p _ (flipM_lt _), p _ hx]
theorem flp_flp (n : Int) (h0 : 0 ≤ n) (h1 : n ≤ 4294967295) : flp (flp n) = n := by
  have hr := flp_range n
  have fe : ∀ m : Int, 0 ≤ m → m ≤ 4294967295 → flp m = ((flipM m.toNat : Nat) : Int) := fun m q0 q1 => by unfold flp; rw [if_pos ⟨q0, q1⟩]
  rw [fe (flp n) hr.1 hr.2, fe n h0 h1, Int.toNat_natCast, flipM_flipM _ (by omega)]
  omega
theorem flip_le (x : Nat) : flipM (x % 16) ≤ flipM x := by
  have : flipM (x % 16) &&& flipM x = flipM (x % 16) := by
    refine Nat.eq_of_testBit_eq fun i => ?_
    rw [Nat.testBit_and]
    by_cases hi : i < 32
    · rw [flipM_bit _ i hi, flipM_bit _ i hi, show 16 = 2 ^ 4 from rfl, Nat.testBit_mod_two_pow]
      cases x.testBit (31 - i) <;> simp
    · have p : ∀ y, y < 2 ^ 32 → y.testBit i = false := fun y hy => Nat.testBit_lt_two_pow (Nat.lt_of_lt_of_le hy (Nat.pow_le_pow_right (by decide) (by omega)))
      rw [p _ (flipM_lt _), p _ (flipM_lt _)]; rfl
  rw [← this]
  exact Nat.and_le_right
/-! A number's text, read. -/
theorem NumTextI (d : Nat) : d ≤ 20 → ∀ (n : Int), 0 ≤ n → n ≤ 4294967295 → n < (10 : Int) ^ (d + 1) → ∃ s : ByteArray, 1 ≤ s.size ∧ s.size ≤ d + 1 ∧ (∀ k, d + 1 ≤ k → ∀ x3 : ByteArray, x3.size + d ≤ 1000 → impl_NumText.l0 k n x3 = some (s ++ x3)) ∧ ∀ rest : ByteArray, s.size + rest.size ≤ 1000 → ∀ k, impl_TextNum.l0 (k + s.size) (s ++ rest) 0 0 = impl_TextNum.l0 k (s ++ rest) n (s.size : Int) := by
  have one : ∀ (m v : Int) (p rest : ByteArray) (k : Nat), 0 ≤ m → m ≤ 9 → 0 ≤ v → v ≤ 4294967295 → p.size + rest.size ≤ 2000 → impl_TextNum.l0 (k + 1) (p ++ (dig m ++ rest)) v (p.size : Int) = impl_TextNum.l0 k (p ++ (dig m ++ rest)) (10 * v + m) ((p.size + 1 : Nat) : Int) := by
    intro m v p rest k m0 m9 v0 v1 hs
    have sz : (p ++ (dig m ++ rest)).size = p.size + (1 + rest.size) := by rw [ByteArray.size_append, ByteArray.size_append, dig_size]
    have hb : bt (p ++ (dig m ++ rest)) (p.size : Int) = 48 + m := by
      rw [← bt_at _ _ (show ((p.size : Int)).toNat < (p ++ (dig m ++ rest)).size by rw [sz]; omega)]
      have : (p ++ (dig m ++ rest))[((p.size : Int)).toNat]'(by rw [sz]; omega) = UInt8.ofNat (48 + m.toNat) := by
        simp only [Int.toNat_natCast]
        rw [ByteArray.getElem_append_right (by omega)]
        simp only [Nat.sub_self]
        rw [ByteArray.getElem_append_left (by rw [dig_size]; omega)]
        have w : wrap64 (48 + m) = 48 + m := w64 (by omega) (by omega)
        have mm : (48 + m) % 256 = 48 + m := by omega
        simp only [dig, strOfNums, w, mm, List.map_cons, List.map_nil]
        show UInt8.ofNat (48 + m).toNat = _
        rw [show (48 + m).toNat = 48 + m.toNat by omega]
      rw [this]
      have : (UInt8.ofNat (48 + m.toNat)).toNat = 48 + m.toNat := by rw [UInt8.toNat_ofNat']; omega
      rw [this]
      omega
    simp only [impl_TextNum.l0]
    rw [if_pos (by rw [sz]; omega), if_pos (by omega), hb, if_neg (by omega), if_neg (by omega), w64 (x := 10 * v) (by omega) (by omega), show (48 + m - 48) % 256 = m by omega, w64 (x := 10 * v + m) (by omega) (by omega), w64 (x := (p.size : Int) + 1) (by omega) (by omega), show (p.size : Int) + 1 = ((p.size + 1 : Nat) : Int) by omega]
  have small : ∀ d : Nat, ∀ n : Int, 0 ≤ n → n < 10 → ∃ s : ByteArray, 1 ≤ s.size ∧ s.size ≤ d + 1 ∧ (∀ k, d + 1 ≤ k → ∀ x3 : ByteArray, x3.size + d ≤ 1000 → impl_NumText.l0 k n x3 = some (s ++ x3)) ∧ ∀ rest : ByteArray, s.size + rest.size ≤ 1000 → ∀ k, impl_TextNum.l0 (k + s.size) (s ++ rest) 0 0 = impl_TextNum.l0 k (s ++ rest) n (s.size : Int) := by
    intro d n h0 hlt
    refine ⟨dig n, by rw [dig_size]; omega, by rw [dig_size]; omega, fun k hk x3 hx => ?_, fun rest hr k => ?_⟩
    · obtain ⟨k, rfl⟩ : ∃ m, k = m + 1 := ⟨k - 1, by omega⟩
      simp only [impl_NumText.l0, Option.bind_some]
      rw [if_neg (by omega)]
      have := dig_size n
      unfold dig at this
      rw [this, if_pos (by omega)]; rfl
    · have := one n 0 ByteArray.empty rest k h0 (by omega) (by omega) (by omega) (by simp; rw [dig_size] at hr; omega)
      rw [dig_size]
      rw [ByteArray.empty_append] at this
      simpa using this
  induction d with
  | zero =>
    intro _ n h0 h1 h2
    exact small 0 n h0 (by simpa using h2)
  | succ d ih =>
    intro h20 n h0 h1 h2
    by_cases hlt : n < 10
    · exact small (d + 1) n h0 hlt
    · have ht : Int.tdiv n 10 = n / 10 := by rw [Int.tdiv_eq_ediv_of_nonneg h0]
      have hq : Int.tmod n 10 = n % 10 := by rw [Int.tmod_eq_emod_of_nonneg h0]
      have hm : wrap64 (Int.tdiv n 10) = n / 10 := by rw [ht]; exact w64 (by omega) (by omega)
      rw [Int.pow_succ] at h2
      obtain ⟨s, hs1, hs, h4, h5⟩ := ih (by omega) (n / 10) (by omega) (by omega) (by omega)
      have hd := dig_size (Int.tmod n 10)
      refine ⟨s ++ dig (Int.tmod n 10), by rw [ByteArray.size_append, hd]; omega, by rw [ByteArray.size_append, hd]; omega, fun k hk x3 hx => ?_, fun rest hr k => ?_⟩
      · obtain ⟨k, rfl⟩ : ∃ m, k = m + 1 := ⟨k - 1, by omega⟩
        simp only [impl_NumText.l0, Option.bind_some]
        rw [if_pos (by omega), hm]
        have hd' := hd
        unfold dig at hd'
        rw [hd', if_pos (by omega)]
        have := h4 k (by omega) (dig (Int.tmod n 10) ++ x3) (by rw [ByteArray.size_append, hd]; omega)
        rw [← ByteArray.append_assoc] at this
        exact this
      · rw [ByteArray.size_append, hd] at hr ⊢
        rw [ByteArray.append_assoc, show k + (s.size + 1) = (k + 1) + s.size by omega, h5 (dig (Int.tmod n 10) ++ rest) (by rw [ByteArray.size_append, hd]; omega) (k + 1), hq, one (n % 10) (n / 10) s rest k (by omega) (by omega) (by omega) (by omega) (by omega), show 10 * (n / 10) + n % 10 = n by omega]
theorem NumTextN (n : Int) (h0 : 0 ≤ n) (h1 : n ≤ 4294967295) : ∃ s : ByteArray, s.size ≤ 10 ∧ (∀ k, 20 ≤ k → impl_NumText.f k n = some s) ∧ ∀ k, 40 ≤ k → impl_TextNum.f k s = some (n, true) := by
  obtain ⟨s, hs1, hs, h2, h3⟩ := NumTextI 9 (by omega) n h0 h1 (by rw [show (10 : Int) ^ (9 + 1) = 10000000000 by decide]; omega)
  have hf : ∀ k, 20 ≤ k → impl_NumText.f k n = some s := fun k hk => by
    unfold impl_NumText.f
    rw [isNum]
    simp only [Option.bind_some]
    rw [if_pos (decide_eq_true ⟨h0, h1⟩), h2 k (by omega) _ (by simp [ByteArray.size])]
    exact congrArg some ByteArray.append_empty
  refine ⟨s, hs, hf, fun k hk => ?_⟩
  unfold impl_TextNum.f
  rw [within]
  simp only [Option.bind_some]
  rw [if_pos (decide_eq_true (by omega))]
  have := h3 ByteArray.empty (by simp; omega) (k - s.size)
  rw [ByteArray.append_empty, show k - s.size + s.size = k by omega] at this
  rw [this]
  obtain ⟨j, hj⟩ : ∃ j, k - s.size = j + 1 := ⟨k - s.size - 1, by omega⟩
  rw [hj]
  simp only [impl_TextNum.l0]
  rw [if_neg (by omega), hf j (by omega)]
  simp

theorem FnWord : laws_FnWord.Pure := by
  intro l _ _ _
  by_cases hl : l.length ≤ 1048576
  · obtain ⟨t, t0, t1, ht⟩ := MakeNum l hl 1000 (by omega) (by omega)
    obtain ⟨i, i0, i1, hi⟩ := MakeNum l hl 777 (by omega) (by omega)
    obtain ⟨n, n0, n1, hn⟩ := MakeNum l hl 60000 (by omega) (by omega)
    have hw : wrap64 (1 + n) = 1 + n := w64 (by omega) (by omega)
    obtain ⟨s, s1, s2, s3⟩ := NumTextN (1 + n) (by omega) (by omega)
    obtain ⟨h, h1, h2⟩ := Hash s (by omega)
    have hpack : impl_Pack.f t i = some (t * 1048576 + i, true) := by
      unfold impl_Pack.f
      rw [within, within]
      simp only [Option.bind_some]
      rw [if_pos (decide_eq_true (by omega)), if_pos (decide_eq_true (by omega)), w64 (x := t * 1048576) (by omega) (by omega), w64 (by omega) (by omega)]
    have hunpack : impl_Unpack.f (t * 1048576 + i) = some (t, i, true) := by
      have e1 : Int.tdiv (t * 1048576 + i) 1048576 = t := by rw [Int.tdiv_eq_ediv_of_nonneg (by omega)]; omega
      have e2 : Int.tmod (t * 1048576 + i) 1048576 = i := by rw [Int.tmod_eq_emod_of_nonneg (by omega)]; omega
      unfold impl_Unpack.f
      rw [if_neg (by omega), e1, e2, w64 (x := t) (by omega) (by omega), if_neg (by omega)]
    have hb16 : Int.tmod (h : Int) 16 = ((h % 16 : Nat) : Int) := by rw [Int.tmod_eq_emod_of_nonneg (by omega)]; omega
    have hbucket : impl_Bucket.f (h : Int) 16 = some ((h % 16 : Nat) : Int) := by
      unfold impl_Bucket.f
      rw [isNum, within]
      simp only [Option.bind_some]
      rw [if_pos (decide_eq_true (by omega)), if_pos (decide_eq_true (by omega)), if_neg (by omega), hb16]
    have hfl : ∀ x : Nat, x < 2 ^ 32 → impl_Flip.f (x : Int) = some ((flipM x : Nat) : Int) := fun x hx => by
      rw [impl_Flip]
      unfold flp
      rw [if_pos (by omega), Int.toNat_natCast]
    have hdummy : impl_DummyKey.f ((h % 16 : Nat) : Int) = some ((flipM (h % 16) / 2 * 2 : Nat) : Int) := by
      unfold impl_DummyKey.f
      rw [hfl _ (by omega)]
      simp only [Option.bind_some]
      rw [andNot1 _ (flipM_lt _)]
    have horder : impl_OrderKey.f (h : Int) = some ((flipM h / 2 * 2 + 1 : Nat) : Int) := by
      unfold impl_OrderKey.f
      rw [isNum]
      simp only [Option.bind_some]
      rw [if_pos (decide_eq_true (by omega)), hfl _ h1]
      simp only [Option.bind_some]
      rw [or1 _ (flipM_lt _)]
    have hlt : ((flipM (h % 16) / 2 * 2 : Nat) : Int) < ((flipM h / 2 * 2 + 1 : Nat) : Int) := by
      have := flip_le h
      have := Nat.div_le_div_right (c := 2) this
      omega
    obtain ⟨K, hK⟩ : ∃ K : Nat, 1048600 ≤ K := ⟨1048600, Nat.le_refl _⟩
    obtain ⟨p, hp, p1, p2, p3⟩ := len (K - 1) (1 + n) (by omega) (by omega)
    rw [show K - 1 + 1 = K by omega] at p3
    have pp : 0 < (2 : Int) ^ p := by exact_mod_cast Nat.pow_pos (show 0 < 2 by omega)
    have hu : IntKind.u64.wrap (1 + n) = 1 + n := by
      unfold IntKind.wrap
      first | (simp [IntKind.signed, IntKind.bits]; omega) | omega | (simp; omega)
    have hparent : impl_Parent.f K (1 + n) = some (1 + n - (2 : Int) ^ p) := by
      unfold impl_Parent.f
      rw [within]
      simp only [Option.bind_some]
      rw [if_pos (decide_eq_true (by omega)), hu, p3]
      simp only [Option.bind_some]
      rw [w64 (x := (p : Int) + 1 - 1) (by omega) (by omega), show (p : Int) + 1 - 1 = (p : Int) by omega, if_pos (by omega), show shl .i64 1 (p : Int) = (2 : Int) ^ p from shl_at ⟨p, hp⟩, w64 (by omega) (by omega)]
    have hnext : impl_NextTag.f t = some (t + 1) := by
      unfold impl_NextTag.f
      rw [within]
      simp only [Option.bind_some]
      rw [if_pos (decide_eq_true (by omega)), w64 (by omega) (by omega)]
    have hmax : impl_NextTag.f 1073741823 = some 0 := by decide +kernel
    have fl1 : impl_Flip.f (1 + n) = some (flp (1 + n)) := impl_Flip _
    have fl2 : impl_Flip.f (flp (1 + n)) = some (1 + n) := by rw [impl_Flip, flp_flp _ (by omega) (by omega)]
    refine ⟨K, ?_⟩
    unfold laws_FnWord.f
    rw [if_neg (by omega), ht K (by omega)]
    simp only [Option.bind_some]
    rw [hi K (by omega)]
    simp only [Option.bind_some]
    rw [hpack]
    simp only [Option.bind_some]
    rw [hunpack]
    simp only [Option.bind_some]
    rw [hn K (by omega)]
    simp only [Option.bind_some, hw]
    rw [s2 K (by omega)]
    simp only [Option.bind_some]
    rw [h2 K (by omega)]
    simp only [Option.bind_some]
    rw [s3 K (by omega)]
    simp only [Option.bind_some, if_true]
    rw [fl1]
    simp only [Option.bind_some]
    rw [fl2]
    simp only [Option.bind_some, if_true]
    rw [hbucket]
    simp only [Option.bind_some]
    rw [hdummy]
    simp only [Option.bind_some]
    rw [horder]
    simp only [Option.bind_some]
    rw [if_pos hlt, hparent]
    simp only [Option.bind_some]
    rw [if_pos (by omega), hnext]
    simp only [Option.bind_some]
    rw [w64 (x := t + 1) (by omega) (by omega), if_pos rfl, hmax]
    simp
  · refine ⟨0, ?_⟩
    unfold laws_FnWord.f
    rw [if_pos (by omega)]

end Go.Proofs.Ytgmnnkodcmmfdaa.Pure
