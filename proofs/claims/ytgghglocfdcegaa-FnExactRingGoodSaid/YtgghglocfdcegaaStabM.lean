/- Go's stable sort (slices.stableCmpFunc and what it calls) as a function on arrays: the model that the walk meets. No program in it. -/
import Derived.Shelf.SlSortCmp.InsertionK
namespace Go.Proofs.Ytgghglocfdcegaa.Stab
open Go Go.Proofs Go.Sort
variable {α : Type} [Inhabited α]
def swapR (d : Array α) (a b : Nat) : Nat → Array α
  | 0 => d
  | n + 1 => swp (swapR d a b n) (a + n) (b + n)
def rotL (m : Nat) : Nat → Nat → Nat → Array α → Array α
  | 0, _, _, d => d
  | f + 1, i, j, d => if i = j then swapR d (m - i) m i else if j < i then rotL m f (i - j) j (swapR d (m - i) m j) else rotL m f i (j - i) (swapR d (m - i) (m + j - i) i)
def bsr (p : Nat → Bool) : Nat → Nat → Nat → Nat
  | 0, lo, _ => lo
  | f + 1, lo, hi => if lo < hi then (if p ((lo + hi) / 2) then bsr p f ((lo + hi) / 2 + 1) hi else bsr p f lo ((lo + hi) / 2)) else lo
def shiftU (d : Array α) (a : Nat) : Nat → Array α
  | 0 => d
  | n + 1 => swp (shiftU d a n) (a + n) (a + n + 1)
def shiftD (d : Array α) (m : Nat) : Nat → Array α
  | 0 => d
  | n + 1 => swp (shiftD d m n) (m - n) (m - n - 1)
def symS (lt : α → α → Bool) (a m b : Nat) (d : Array α) : Nat :=
  if (a + b) / 2 < m then bsr (fun c => !lt d[(a + b) / 2 + m - 1 - c]! d[c]!) b ((a + b) / 2 + m - b) ((a + b) / 2) else bsr (fun c => !lt d[(a + b) / 2 + m - 1 - c]! d[c]!) b a m
def rotI (m b a s e : Nat) (d : Array α) : Array α := if s < m ∧ m < e then rotL m (b - a) (m - s) (e - m) d else d
def symM (lt : α → α → Bool) : Nat → Nat → Nat → Nat → Array α → Array α
  | 0, _, _, _, d => d
  | f + 1, a, m, b, d =>
    if m - a = 1 then shiftU d a (bsr (fun h => lt d[h]! d[a]!) b m b - 1 - a)
    else if b - m = 1 then shiftD d m (m - bsr (fun h => !lt d[m]! d[h]!) b a m)
    else symE lt (symM lt f) a ((a + b) / 2) b ((a + b) / 2 + m - symS lt a m b d) (symB lt (symM lt f) a ((a + b) / 2) (symS lt a m b d) (rotI m b a (symS lt a m b d) ((a + b) / 2 + m - symS lt a m b d) d))
where
  symB (_lt : α → α → Bool) (rec : Nat → Nat → Nat → Array α → Array α) (a mid s : Nat) (d : Array α) : Array α := if a < s ∧ s < mid then rec a s mid d else d
  symE (_lt : α → α → Bool) (rec : Nat → Nat → Nat → Array α → Array α) (_a mid b e : Nat) (d : Array α) : Array α := if mid < e ∧ e < b then rec mid e b d else d
def insB (lt : α → α → Bool) (n : Nat) : Nat → Nat → Array α → Array α
  | 0, _, d => d
  | f + 1, a, d => if a + 20 ≤ n then insB lt n f (a + 20) (insertionSort lt d a (a + 20)) else insertionSort lt d a n
def mrgP (lt : α → α → Bool) (n bs : Nat) : Nat → Nat → Array α → Array α
  | 0, _, d => d
  | f + 1, a, d => if a + 2 * bs ≤ n then mrgP lt n bs f (a + 2 * bs) (symM lt n a (a + bs) (a + 2 * bs) d) else if a + bs < n then symM lt n a (a + bs) n d else d
def mrg (lt : α → α → Bool) (n : Nat) : Nat → Nat → Array α → Array α
  | 0, _, d => d
  | f + 1, bs, d => if bs < n then mrg lt n f (bs * 2) (mrgP lt n bs (n + 1) 0 d) else d
def stab (lt : α → α → Bool) (d : Array α) : Array α := mrg lt d.size (d.size + 1) 20 (insB lt d.size (d.size + 1) 0 d)

theorem size_swapR (d : Array α) (a b n : Nat) : (swapR d a b n).size = d.size := by
  induction n with
  | zero => rfl
  | succ n ih => rw [swapR, size_swp, ih]
theorem size_shiftU (d : Array α) (a n : Nat) : (shiftU d a n).size = d.size := by
  induction n with
  | zero => rfl
  | succ n ih => rw [shiftU, size_swp, ih]
theorem size_shiftD (d : Array α) (a n : Nat) : (shiftD d a n).size = d.size := by
  induction n with
  | zero => rfl
  | succ n ih => rw [shiftD, size_swp, ih]
theorem size_rotL (m f : Nat) : ∀ (i j : Nat) (d : Array α), (rotL m f i j d).size = d.size := by
  induction f with
  | zero => intro i j d; rfl
  | succ f ih =>
    intro i j d
    rw [rotL]
    split
    · exact size_swapR _ _ _ _
    · split
      · rw [ih, size_swapR]
      · rw [ih, size_swapR]
theorem size_symM (lt : α → α → Bool) (f : Nat) : ∀ (a m b : Nat) (d : Array α), (symM lt f a m b d).size = d.size := by
  induction f with
  | zero => intro a m b d; rfl
  | succ f ih =>
    intro a m b d
    rw [symM]
    split
    · exact size_shiftU _ _ _
    · split
      · exact size_shiftD _ _ _
      · have hr : (rotI m b a (symS lt a m b d) ((a + b) / 2 + m - symS lt a m b d) d).size = d.size := by
          unfold rotI
          split
          · exact size_rotL _ _ _ _ _
          · rfl
        have hb : (symM.symB lt (symM lt f) a ((a + b) / 2) (symS lt a m b d) (rotI m b a (symS lt a m b d) ((a + b) / 2 + m - symS lt a m b d) d)).size = d.size := by
          unfold symM.symB
          split
          · rw [ih, hr]
          · exact hr
        unfold symM.symE
        split
        · rw [ih, hb]
        · exact hb
theorem bsr_le (p : Nat → Bool) (f : Nat) : ∀ lo hi, lo ≤ hi → lo ≤ bsr p f lo hi ∧ bsr p f lo hi ≤ hi := by
  induction f with
  | zero => intro lo hi h; exact ⟨Nat.le_refl _, h⟩
  | succ f ih =>
    intro lo hi h
    rw [bsr]
    split
    · split
      · have := ih ((lo + hi) / 2 + 1) hi (by omega); omega
      · have := ih lo ((lo + hi) / 2) (by omega); omega
    · omega
/-- The fuel is enough: the search's loop, unfolded once. -/
theorem bsr_fuel (p : Nat → Bool) (f : Nat) : ∀ (g lo hi : Nat), hi - lo ≤ f → f ≤ g → bsr p g lo hi = bsr p f lo hi := by
  induction f with
  | zero =>
    intro g lo hi h1 h2
    cases g with
    | zero => rfl
    | succ g => rw [show bsr p 0 lo hi = lo from rfl, bsr, if_neg (by omega)]
  | succ f ih =>
    intro g lo hi h1 h2
    obtain ⟨g, rfl⟩ : ∃ x, g = x + 1 := ⟨g - 1, by omega⟩
    rw [bsr, bsr]
    by_cases h : lo < hi
    · rw [if_pos h, if_pos h, ih g ((lo + hi) / 2 + 1) hi (by omega) (by omega), ih g lo ((lo + hi) / 2) (by omega) (by omega)]
    · rw [if_neg h, if_neg h]
theorem rotL_fuel (m f : Nat) : ∀ (g i j : Nat) (d : Array α), 0 < i → 0 < j → i + j ≤ f → f ≤ g → rotL m g i j d = rotL m f i j d := by
  induction f with
  | zero => intro g i j d h0 _ h1; omega
  | succ f ih =>
    intro g i j d h0 h1 h2 h3
    obtain ⟨g, rfl⟩ : ∃ x, g = x + 1 := ⟨g - 1, by omega⟩
    rw [rotL, rotL]
    by_cases hij : i = j
    · rw [if_pos hij, if_pos hij]
    · rw [if_neg hij, if_neg hij]
      by_cases hji : j < i
      · rw [if_pos hji, if_pos hji, ih g _ _ _ (by omega) h1 (by omega) (by omega)]
      · rw [if_neg hji, if_neg hji, ih g _ _ _ h0 (by omega) (by omega) (by omega)]
end Go.Proofs.Ytgghglocfdcegaa.Stab
