/- Go's stable sort, as a function on arrays, sorts by the key and keeps the order of what has the same key. No program in it. -/
import Derived.Test.YtgghglocfdcegaaStabM
namespace Go.Proofs.Ytgghglocfdcegaa.Stab
open Go Go.Proofs Go.Sort
/-! what is sorted, and stable -/
section
variable {α : Type} (key : α → Int)
def Srt (l : List α) : Prop := l.Pairwise fun x y => key x ≤ key y
def Same (l l' : List α) : Prop := ∀ z, l'.filter (fun x => decide (key x = z)) = l.filter (fun x => decide (key x = z))
theorem Same.refl (l : List α) : Same key l l := fun _ => rfl
theorem Same.trans {l l' l'' : List α} (h : Same key l l') (h' : Same key l' l'') : Same key l l'' := fun z => (h' z).trans (h z)
theorem Same.app {A A' B B' : List α} (h : Same key A A') (h' : Same key B B') : Same key (A ++ B) (A' ++ B') := fun z => by rw [List.filter_append, List.filter_append, h z, h' z]
theorem Same.mem {l l' : List α} (h : Same key l l') (x : α) : x ∈ l' ↔ x ∈ l := by
  have h1 : ∀ m : List α, x ∈ m ↔ x ∈ m.filter (fun y => decide (key y = key x)) := fun m => by simp
  rw [h1 l', h1 l, h (key x)]
theorem Same.length {l : List α} : ∀ {l' : List α}, Same key l l' → l'.length = l.length := by
  intro l'
  -- by the first element of l
  induction l generalizing l' with
  | nil =>
    intro h
    cases l' with
    | nil => rfl
    | cons x t => exact absurd ((h.mem key x).1 (List.mem_cons_self)) (by simp)
  | cons x t ih =>
    intro h
    have hx : x ∈ l' := (h.mem key x).2 (List.mem_cons_self)
    -- the first element of l' with x's key is x
    have h1 := h (key x)
    rw [List.filter_cons_of_pos (by simp)] at h1
    obtain ⟨A, B, hl, hA, hB⟩ : ∃ A B, l' = A ++ x :: B ∧ A.filter (fun y => decide (key y = key x)) = [] ∧ B.filter (fun y => decide (key y = key x)) = t.filter (fun y => decide (key y = key x)) := by
      obtain ⟨A, B, e1, e2, _, e4⟩ := List.filter_eq_cons_iff.1 h1
      exact ⟨A, B, e1, List.filter_eq_nil_iff.2 e2, e4⟩
    subst hl
    have h2 : Same key t (A ++ B) := fun z => by
      by_cases hz : key x = z
      · subst hz
        rw [List.filter_append, hA, hB, List.nil_append]
      · have := h z
        rw [List.filter_append, List.filter_cons_of_neg (by simpa using hz), List.filter_cons_of_neg (by simpa using hz)] at this
        rw [List.filter_append, this]
    have := ih h2
    simp only [List.length_append, List.length_cons] at this ⊢
    omega
/-- What lies ahead of x is of other keys: x goes past it. -/
theorem Same.past (U : List α) (x : α) (R : List α) (h : ∀ y ∈ U, key y ≠ key x) : Same key (U ++ x :: R) (x :: (U ++ R)) := fun z => by
  by_cases hz : key x = z
  · subst hz
    have hU : U.filter (fun y => decide (key y = key x)) = [] := List.filter_eq_nil_iff.2 (fun y hy => by simpa using h y hy)
    rw [List.filter_append, List.filter_cons_of_pos (by simp), List.filter_cons_of_pos (by simp), List.filter_append, hU]
    rfl
  · rw [List.filter_append, List.filter_cons_of_neg (by simpa using hz), List.filter_cons_of_neg (by simpa using hz), List.filter_append]
theorem Same.symm {l l' : List α} (h : Same key l l') : Same key l' l := fun z => (h z).symm
theorem Same.comm (U V : List α) (h : ∀ y ∈ U, ∀ x ∈ V, key y ≠ key x) : Same key (U ++ V) (V ++ U) := fun z => by
  rw [List.filter_append, List.filter_append]
  cases hU : U.filter (fun x => decide (key x = z)) with
  | nil => simp
  | cons y t =>
    have hy : y ∈ U ∧ key y = z := by
      have : y ∈ U.filter (fun x => decide (key x = z)) := by rw [hU]; exact List.mem_cons_self
      simpa using this
    have hV : V.filter (fun x => decide (key x = z)) = [] := List.filter_eq_nil_iff.2 (fun x hx => by have := h y hy.1 x hx; simp; omega)
    rw [hV]
    simp
/-- There is just one list that is sorted and the same. -/
theorem unique : ∀ (l l' : List α), Srt key l → Srt key l' → Same key l l' → l' = l := by
  intro l
  induction l with
  | nil =>
    intro l' _ _ h
    exact List.length_eq_zero_iff.1 (h.length key)
  | cons x t ih =>
    intro l' hs hs' h
    cases l' with
    | nil => exact absurd (h.length key) (by simp)
    | cons y t' =>
      have hx : x ∈ y :: t' := (h.mem key x).2 (List.mem_cons_self)
      have hy : y ∈ x :: t := (h.mem key y).1 (List.mem_cons_self)
      have h1 : key y ≤ key x := by
        rcases List.mem_cons.1 hx with e | e
        · rw [e]; omega
        · exact (List.pairwise_cons.1 hs').1 x e
      have h2 : key x ≤ key y := by
        rcases List.mem_cons.1 hy with e | e
        · rw [e]; omega
        · exact (List.pairwise_cons.1 hs).1 y e
      have hk : key y = key x := by omega
      have h3 := h (key x)
      rw [List.filter_cons_of_pos (by simpa using hk), List.filter_cons_of_pos (by simp)] at h3
      injection h3 with e1 e2
      subst e1
      rw [ih t' (List.pairwise_cons.1 hs).2 (List.pairwise_cons.1 hs').2 (fun z => ?_)]
      by_cases hz : key y = z
      · subst hz
        exact e2
      · have := h z
        rwa [List.filter_cons_of_neg (by simpa using hz), List.filter_cons_of_neg (by simpa using hz)] at this
theorem srt_take {U : List α} (h : Srt key U) (n : Nat) : Srt key (U.take n) := List.Pairwise.sublist (List.take_sublist n U) h
theorem srt_drop {U : List α} (h : Srt key U) (n : Nat) : Srt key (U.drop n) := List.Pairwise.sublist (List.drop_sublist n U) h
theorem srt_app {U V : List α} (hU : Srt key U) (hV : Srt key V) (h : ∀ x ∈ U, ∀ y ∈ V, key x ≤ key y) : Srt key (U ++ V) := List.pairwise_append.2 ⟨hU, hV, h⟩
theorem srt_split {U : List α} (h : Srt key U) (n : Nat) : ∀ x ∈ U.take n, ∀ y ∈ U.drop n, key x ≤ key y := by
  have : Srt key (U.take n ++ U.drop n) := by rw [List.take_append_drop]; exact h
  exact (List.pairwise_append.1 this).2.2
theorem seg_split (d : Array α) (a b : Nat) (hab : a ≤ b) (hb : b ≤ d.size) : ∃ A U R, d.toList = A ++ U ++ R ∧ A.length = a ∧ a + U.length = b := by
  have hl : d.toList.length = d.size := Array.length_toList
  refine ⟨d.toList.take a, (d.toList.drop a).take (b - a), (d.toList.drop a).drop (b - a), ?_, by rw [List.length_take]; omega, by rw [List.length_take, List.length_drop]; omega⟩
  rw [List.append_assoc, List.take_append_drop, List.take_append_drop]
end
variable {α : Type} [Inhabited α]
/-! lists: the moves -/
theorem get_at (d : Array α) (A R : List α) (x : α) (h : d.toList = A ++ x :: R) : d[A.length]! = x := by
  have hl : A.length < d.size := by rw [← Array.length_toList, h]; simp
  rw [getElem!_pos d A.length hl, ← Array.getElem_toList]
  simp [h]
theorem get_at' (d : Array α) (A R : List α) (x : α) (i : Nat) (h : d.toList = A ++ x :: R) (hi : A.length = i) : d[i]! = x := by
  subst hi
  exact get_at d A R x h
theorem swp_list (d : Array α) (A M R : List α) (x y : α) (h : d.toList = A ++ x :: (M ++ y :: R)) (i j : Nat) (hi : A.length = i) (hj : A.length + 1 + M.length = j) : (swp d i j).toList = A ++ y :: (M ++ x :: R) := by
  subst hi hj
  have hx := get_at d A (M ++ y :: R) x h
  have hy : d[A.length + 1 + M.length]! = y := get_at' d (A ++ x :: M) R y _ (by rw [h]; simp) (by simp; omega)
  unfold swp
  rw [hx, hy]
  simp only [Array.toList_setIfInBounds, h]
  rw [List.set_append_right _ _ (Nat.le_refl _), Nat.sub_self, List.set_cons_zero, List.set_append_right _ _ (by omega), show A.length + 1 + M.length - A.length = M.length + 1 by omega, List.set_cons_succ, List.set_append_right _ _ (Nat.le_refl _), Nat.sub_self, List.set_cons_zero]
theorem swp_list' (d : Array α) (A M R : List α) (x y : α) (h : d.toList = A ++ x :: (M ++ y :: R)) (i j : Nat) (hi : A.length = i) (hj : A.length + 1 + M.length = j) : (swp d j i).toList = A ++ y :: (M ++ x :: R) := by
  subst hi hj
  have hx := get_at d A (M ++ y :: R) x h
  have hy : d[A.length + 1 + M.length]! = y := get_at' d (A ++ x :: M) R y _ (by rw [h]; simp) (by simp; omega)
  unfold swp
  rw [hx, hy]
  simp only [Array.toList_setIfInBounds, h]
  rw [List.set_append_right _ _ (by omega), show A.length + 1 + M.length - A.length = M.length + 1 by omega, List.set_cons_succ, List.set_append_right _ _ (Nat.le_refl _), Nat.sub_self, List.set_cons_zero, List.set_append_right _ _ (Nat.le_refl _), Nat.sub_self, List.set_cons_zero]
theorem shiftU_list (d : Array α) (a n : Nat) : ∀ (A U R : List α) (x : α), d.toList = A ++ x :: (U ++ R) → A.length = a → U.length = n → (shiftU d a n).toList = A ++ U ++ x :: R := by
  induction n with
  | zero =>
    intro A U R x h ha hu
    obtain rfl := List.length_eq_zero_iff.1 hu
    rw [shiftU, h]
    simp
  | succ n ih =>
    intro A U R x h ha hu
    obtain ⟨U', y, rfl⟩ : ∃ U' y, U = U' ++ [y] := ⟨U.dropLast, U.getLast (by intro e; simp [e] at hu), (List.dropLast_concat_getLast _).symm⟩
    have h1 := ih A U' (y :: R) x (by rw [h]; simp) ha (by simpa using hu)
    rw [shiftU, swp_list (shiftU d a n) (A ++ U') [] R x y (by rw [h1]; simp) (a + n) (a + n + 1) (by simp at hu ⊢; omega) (by simp at hu ⊢; omega)]
    simp
theorem shiftD_list (d : Array α) (m n : Nat) : ∀ (A U R : List α) (x : α), d.toList = A ++ U ++ x :: R → A.length + U.length = m → U.length = n → (shiftD d m n).toList = A ++ x :: (U ++ R) := by
  induction n with
  | zero =>
    intro A U R x h ha hu
    obtain rfl := List.length_eq_zero_iff.1 hu
    rw [shiftD, h]
    simp
  | succ n ih =>
    intro A U R x h ha hu
    obtain ⟨y, U', rfl⟩ : ∃ y U', U = y :: U' := by
      cases U with
      | nil => simp at hu
      | cons y U' => exact ⟨y, U', rfl⟩
    have h1 := ih (A ++ [y]) U' R x (by rw [h]; simp) (by simp at ha ⊢; omega) (by simpa using hu)
    simp only [List.length_cons] at ha hu
    rw [shiftD, swp_list' (shiftD d m n) A [] (U' ++ R) y x (by rw [h1]; simp) (m - n - 1) (m - n) (by omega) (by simp; omega)]
    simp
theorem swapR_list (d : Array α) (a b n : Nat) : ∀ (A U M V R : List α), d.toList = A ++ U ++ M ++ V ++ R → A.length = a → U.length = n → V.length = n → A.length + U.length + M.length = b → (swapR d a b n).toList = A ++ V ++ M ++ U ++ R := by
  induction n with
  | zero =>
    intro A U M V R h ha hu hv hb
    obtain rfl := List.length_eq_zero_iff.1 hu
    obtain rfl := List.length_eq_zero_iff.1 hv
    rw [swapR, h]
  | succ n ih =>
    intro A U M V R h ha hu hv hb
    obtain ⟨U', x, rfl⟩ : ∃ U' y, U = U' ++ [y] := ⟨U.dropLast, U.getLast (by intro e; simp [e] at hu), (List.dropLast_concat_getLast _).symm⟩
    obtain ⟨V', y, rfl⟩ : ∃ U' y, V = U' ++ [y] := ⟨V.dropLast, V.getLast (by intro e; simp [e] at hv), (List.dropLast_concat_getLast _).symm⟩
    simp only [List.length_append, List.length_singleton] at hu hv hb
    have h1 := ih A U' ([x] ++ M) V' ([y] ++ R) (by rw [h]; simp) ha (by omega) (by omega) (by simp; omega)
    rw [swapR, swp_list (swapR d a b n) (A ++ V') (M ++ U') R x y (by rw [h1]; simp) (a + n) (b + n) (by simp; omega) (by simp; omega)]
    simp
theorem rotL_list (m f : Nat) : ∀ (i j : Nat) (d : Array α) (A U V R : List α), d.toList = A ++ U ++ V ++ R → A.length + U.length = m → U.length = i → V.length = j → 0 < i → 0 < j → i + j ≤ f → (rotL m f i j d).toList = A ++ V ++ U ++ R := by
  induction f with
  | zero => intro i j d A U V R h hm hi hj h0 h1 h2; omega
  | succ f ih =>
    intro i j d A U V R h hm hi hj h0 h1 h2
    rw [rotL]
    by_cases hij : i = j
    · rw [if_pos hij]
      have := swapR_list d (m - i) m i A U [] V R (by rw [h]; simp) (by omega) hi (by omega) (by simp; omega)
      rw [this]
      simp
    · rw [if_neg hij]
      by_cases hji : j < i
      · rw [if_pos hji]
        have hU : U = U.take j ++ U.drop j := (List.take_append_drop j U).symm
        have h3 := swapR_list d (m - i) m j A (U.take j) (U.drop j) V R (by rw [h]; simp) (by omega) (by rw [List.length_take]; omega) hj (by rw [List.length_take, List.length_drop]; omega)
        have h4 := ih (i - j) j _ (A ++ V) (U.drop j) (U.take j) R (by rw [h3]) (by simp; omega) (by rw [List.length_drop]; omega) (by rw [List.length_take]; omega) (by omega) h1 (by omega)
        rw [h4]
        simp
      · rw [if_neg hji]
        have h3 := swapR_list d (m - i) (m + j - i) i A U (V.take (j - i)) (V.drop (j - i)) R (by rw [h]; simp) (by omega) hi (by rw [List.length_drop]; omega) (by rw [List.length_take]; omega)
        have h4 := ih i (j - i) _ A (V.drop (j - i)) (V.take (j - i)) (U ++ R) (by rw [h3]; simp) (by rw [List.length_drop]; omega) (by rw [List.length_drop]; omega) (by rw [List.length_take]; omega) h0 (by omega) (by omega)
        rw [h4]
        have : V.take (j - i) ++ V.drop (j - i) = V := List.take_append_drop _ _
        rw [← List.append_assoc, List.append_assoc A, this]
/-! a search -/
theorem bsr_spec (p : Nat → Bool) (f : Nat) : ∀ lo hi, lo ≤ hi → hi - lo ≤ f → (∀ x y, lo ≤ x → x ≤ y → y < hi → p y = true → p x = true) → (∀ x, lo ≤ x → x < bsr p f lo hi → p x = true) ∧ (∀ x, bsr p f lo hi ≤ x → x < hi → p x = false) := by
  induction f with
  | zero =>
    intro lo hi h h1 hm
    rw [show bsr p 0 lo hi = lo from rfl]
    exact ⟨fun x h2 h3 => by omega, fun x h2 h3 => by omega⟩
  | succ f ih =>
    intro lo hi h h1 hm
    rw [bsr]
    by_cases hlt : lo < hi
    · rw [if_pos hlt]
      by_cases hp : p ((lo + hi) / 2) = true
      · rw [if_pos hp]
        obtain ⟨h2, h3⟩ := ih ((lo + hi) / 2 + 1) hi (by omega) (by omega) (fun x y hx hy hz => hm x y (by omega) hy hz)
        refine ⟨fun x hx hr => ?_, h3⟩
        by_cases hc : (lo + hi) / 2 + 1 ≤ x
        · exact h2 x hc hr
        · exact hm x ((lo + hi) / 2) hx (by omega) (by omega) hp
      · rw [if_neg hp]
        obtain ⟨h2, h3⟩ := ih lo ((lo + hi) / 2) (by omega) (by omega) (fun x y hx hy hz => hm x y hx hy (by omega))
        refine ⟨h2, fun x hx hr => ?_⟩
        by_cases hc : x < (lo + hi) / 2
        · exact h3 x hx hc
        · cases hq : p x with
          | false => rfl
          | true => exact absurd (hm ((lo + hi) / 2) x (by omega) (by omega) hr hq) hp
    · rw [if_neg hlt]
      exact ⟨fun x h2 h3 => by omega, fun x h2 h3 => by omega⟩
/-! segments -/
variable (key : α → Int)
theorem get_mid (d : Array α) (A U R : List α) (i : Nat) (h : d.toList = A ++ U ++ R) (h0 : A.length ≤ i) (h1 : i < A.length + U.length) : d[i]! = U[i - A.length]'(by omega) := by
  have hl : i < d.size := by rw [← Array.length_toList, h]; simp; omega
  rw [getElem!_pos d i hl, ← Array.getElem_toList]
  simp only [h]
  rw [List.getElem_append_left (by simp; omega), List.getElem_append_right h0]
theorem srt_get (d : Array α) (A U R : List α) (h : d.toList = A ++ U ++ R) (hs : Srt key U) (i j : Nat) (h0 : A.length ≤ i) (hij : i ≤ j) (h1 : j < A.length + U.length) : key d[i]! ≤ key d[j]! := by
  rw [get_mid d A U R i h h0 (by omega), get_mid d A U R j h (by omega) h1]
  rcases Nat.lt_or_ge i j with hlt | hge
  · exact List.pairwise_iff_getElem.1 hs _ _ _ _ (by omega)
  · obtain rfl : i = j := by omega
    exact Int.le_refl _
theorem mem_take (d : Array α) (A U R : List α) (h : d.toList = A ++ U ++ R) (n : Nat) (x : α) (hx : x ∈ U.take n) : ∃ i, A.length ≤ i ∧ i < A.length + n ∧ i < A.length + U.length ∧ d[i]! = x := by
  obtain ⟨i, hi, rfl⟩ := List.mem_iff_getElem.1 hx
  rw [List.length_take] at hi
  refine ⟨A.length + i, by omega, by omega, by omega, ?_⟩
  rw [get_mid d A U R _ h (by omega) (by omega), List.getElem_take]
  congr 1
  omega
theorem mem_drop (d : Array α) (A U R : List α) (h : d.toList = A ++ U ++ R) (n : Nat) (x : α) (hx : x ∈ U.drop n) : ∃ i, A.length + n ≤ i ∧ i < A.length + U.length ∧ d[i]! = x := by
  obtain ⟨i, hi, rfl⟩ := List.mem_iff_getElem.1 hx
  rw [List.length_drop] at hi
  refine ⟨A.length + n + i, by omega, by omega, ?_⟩
  rw [get_mid d A U R _ h (by omega) (by omega), List.getElem_drop]
  congr 1
  omega
variable (lt : α → α → Bool) (hlt : ∀ x y, lt x y = decide (key x < key y))
include hlt
theorem symM_list (f : Nat) : ∀ (a m b : Nat) (d : Array α) (A U V R : List α), d.toList = A ++ U ++ V ++ R → A.length = a → a + U.length = m → m + V.length = b → 0 < U.length → 0 < V.length → Srt key U → Srt key V → b - a ≤ f →
    ∃ S, (symM lt f a m b d).toList = A ++ S ++ R ∧ Srt key S ∧ Same key (U ++ V) S := by
  induction f with
  | zero => intro a m b d A U V R h ha hm hb hu hv _ _ hf; omega
  | succ f ih =>
    intro a m b d A U V R h ha hm hb hu hv hsU hsV hf
    subst ha
    have hdU : d.toList = A ++ U ++ (V ++ R) := by rw [h]; simp
    have hdV : d.toList = (A ++ U) ++ V ++ R := by rw [h]
    have hAU : (A ++ U).length = m := by simp; omega
    rw [symM]
    by_cases h1 : m - A.length = 1
    · rw [if_pos h1]
      obtain ⟨x, rfl⟩ : ∃ x, U = [x] := List.length_eq_one_iff.1 (by omega)
      have hxa : d[A.length]! = x := get_at d A (V ++ R) x (by rw [h]; simp)
      rw [hxa]
      have hmono : ∀ y z, m ≤ y → y ≤ z → z < b → lt d[z]! x = true → lt d[y]! x = true := fun y z h2 h3 h4 h5 => by
        rw [hlt, decide_eq_true_eq] at h5 ⊢
        have := srt_get key d _ _ _ hdV hsV y z (by omega) h3 (by omega)
        omega
      obtain ⟨hA1, hA2⟩ := bsr_spec (fun h => lt d[h]! x) b m b (by omega) (by omega) hmono
      obtain ⟨hi1, hi2⟩ := bsr_le (fun h => lt d[h]! x) b m b (by omega)
      generalize bsr (fun h => lt d[h]! x) b m b = i at hA1 hA2 hi1 hi2 ⊢
      have hV : V = V.take (i - m) ++ V.drop (i - m) := (List.take_append_drop _ _).symm
      have hl := shiftU_list d A.length (i - 1 - A.length) A (V.take (i - m)) (V.drop (i - m) ++ R) x (by rw [← List.append_assoc (V.take _), List.take_append_drop, h]; simp) rfl (by rw [List.length_take]; omega)
      have hlow : ∀ y ∈ V.take (i - m), key y < key x := fun y hy => by
        obtain ⟨j, j1, j2, j3, j4⟩ := mem_take d _ _ _ hdV _ y hy
        have := hA1 j (by omega) (by omega)
        rw [hlt, decide_eq_true_eq, j4] at this
        exact this
      have hhigh : ∀ y ∈ V.drop (i - m), key x ≤ key y := fun y hy => by
        obtain ⟨j, j1, j2, j4⟩ := mem_drop d _ _ _ hdV _ y hy
        have := hA2 j (by omega) (by omega)
        rw [hlt, decide_eq_false_iff_not, j4] at this
        omega
      refine ⟨V.take (i - m) ++ x :: V.drop (i - m), by rw [hl]; simp, ?_, ?_⟩
      · refine srt_app key (srt_take key hsV _) (List.pairwise_cons.2 ⟨hhigh, srt_drop key hsV _⟩) (fun y hy z hz => ?_)
        rcases List.mem_cons.1 hz with rfl | hz
        · have := hlow y hy; omega
        · exact srt_split key hsV _ y hy z hz
      · have := (Same.past key (V.take (i - m)) x (V.drop (i - m)) (fun y hy => by have := hlow y hy; omega)).symm
        rw [List.take_append_drop] at this
        exact this
    · rw [if_neg h1]
      by_cases h2 : b - m = 1
      · rw [if_pos h2]
        obtain ⟨x, rfl⟩ : ∃ x, V = [x] := List.length_eq_one_iff.1 (by omega)
        have hxa : d[m]! = x := get_at' d (A ++ U) R x m (by rw [h]; simp) hAU
        rw [hxa]
        have hmono : ∀ y z, A.length ≤ y → y ≤ z → z < m → (!lt x d[z]!) = true → (!lt x d[y]!) = true := fun y z h2 h3 h4 h5 => by
          rw [hlt, Bool.not_eq_true', decide_eq_false_iff_not] at h5 ⊢
          have := srt_get key d _ _ _ hdU hsU y z (by omega) h3 (by omega)
          omega
        obtain ⟨hA1, hA2⟩ := bsr_spec (fun h => !lt x d[h]!) b A.length m (by omega) (by omega) hmono
        obtain ⟨hi1, hi2⟩ := bsr_le (fun h => !lt x d[h]!) b A.length m (by omega)
        generalize bsr (fun h => !lt x d[h]!) b A.length m = i at hA1 hA2 hi1 hi2 ⊢
        have hl := shiftD_list d m (m - i) (A ++ U.take (i - A.length)) (U.drop (i - A.length)) R x (by rw [h, List.append_assoc A (U.take _), List.take_append_drop]; simp) (by simp; omega) (by rw [List.length_drop]; omega)
        have hlow : ∀ y ∈ U.take (i - A.length), key y ≤ key x := fun y hy => by
          obtain ⟨j, j1, j2, j3, j4⟩ := mem_take d _ _ _ hdU _ y hy
          have := hA1 j (by omega) (by omega)
          rw [hlt, Bool.not_eq_true', decide_eq_false_iff_not, j4] at this
          omega
        have hhigh : ∀ y ∈ U.drop (i - A.length), key x < key y := fun y hy => by
          obtain ⟨j, j1, j2, j4⟩ := mem_drop d _ _ _ hdU _ y hy
          have := hA2 j (by omega) (by omega)
          rw [hlt, Bool.not_eq_false', decide_eq_true_eq, j4] at this
          exact this
        refine ⟨U.take (i - A.length) ++ x :: U.drop (i - A.length), by rw [hl]; simp, ?_, ?_⟩
        · refine srt_app key (srt_take key hsU _) (List.pairwise_cons.2 ⟨fun y hy => by have := hhigh y hy; omega, srt_drop key hsU _⟩) (fun y hy z hz => ?_)
          rcases List.mem_cons.1 hz with rfl | hz
          · exact hlow y hy
          · exact srt_split key hsU _ y hy z hz
        · have h3 := Same.past key (U.drop (i - A.length)) x [] (fun y hy => by have := hhigh y hy; omega)
          rw [List.append_nil] at h3
          have h4 := Same.app key (Same.refl key (U.take (i - A.length))) h3
          rw [← List.append_assoc, List.take_append_drop] at h4
          exact h4
      · rw [if_neg h2]
        obtain ⟨mid, hmid⟩ : ∃ mid, mid = (A.length + b) / 2 := ⟨_, rfl⟩
        rw [← hmid]
        -- where the two runs part
        have key2 : ∃ s, symS lt A.length m b d = s ∧ A.length ≤ s ∧ s ≤ m ∧ s ≤ mid ∧ mid + m - s ≤ b ∧ (∀ y, A.length ≤ y → y < s → mid + m - b ≤ y → key d[y]! ≤ key d[mid + m - 1 - y]!) ∧ (∀ y, s ≤ y → y < mid → y < m → key d[mid + m - 1 - y]! < key d[y]!) := by
          have hmono : ∀ y z, A.length ≤ y → y ≤ z → z < m → z < mid → mid + m - b ≤ y → (!lt d[mid + m - 1 - z]! d[z]!) = true → (!lt d[mid + m - 1 - y]! d[y]!) = true := fun y z g1 g2 g3 g4 g5 g6 => by
            rw [hlt, Bool.not_eq_true', decide_eq_false_iff_not] at g6 ⊢
            have e1 := srt_get key d _ _ _ hdU hsU y z (by omega) g2 (by omega)
            have e2 := srt_get key d _ _ _ hdV hsV (mid + m - 1 - z) (mid + m - 1 - y) (by omega) (by omega) (by omega)
            omega
          refine ⟨_, rfl, ?_⟩
          unfold symS
          rw [← hmid]
          by_cases hc : mid < m
          · rw [if_pos hc]
            obtain ⟨hA1, hA2⟩ := bsr_spec (fun c => !lt d[mid + m - 1 - c]! d[c]!) b (mid + m - b) mid (by omega) (by omega) (fun y z g1 g2 g3 g4 => hmono y z (by omega) g2 (by omega) g3 g1 g4)
            obtain ⟨hi1, hi2⟩ := bsr_le (fun c => !lt d[mid + m - 1 - c]! d[c]!) b (mid + m - b) mid (by omega)
            generalize bsr (fun c => !lt d[mid + m - 1 - c]! d[c]!) b (mid + m - b) mid = s at hA1 hA2 hi1 hi2 ⊢
            refine ⟨by omega, by omega, by omega, by omega, fun y g1 g2 g3 => ?_, fun y g1 g2 g3 => ?_⟩
            · have := hA1 y g3 g2
              rw [hlt, Bool.not_eq_true', decide_eq_false_iff_not] at this
              omega
            · have := hA2 y g1 g2
              rw [hlt, Bool.not_eq_false', decide_eq_true_eq] at this
              exact this
          · rw [if_neg hc]
            obtain ⟨hA1, hA2⟩ := bsr_spec (fun c => !lt d[mid + m - 1 - c]! d[c]!) b A.length m (by omega) (by omega) (fun y z g1 g2 g3 g4 => hmono y z g1 g2 g3 (by omega) (by omega) g4)
            obtain ⟨hi1, hi2⟩ := bsr_le (fun c => !lt d[mid + m - 1 - c]! d[c]!) b A.length m (by omega)
            generalize bsr (fun c => !lt d[mid + m - 1 - c]! d[c]!) b A.length m = s at hA1 hA2 hi1 hi2 ⊢
            refine ⟨by omega, by omega, by omega, by omega, fun y g1 g2 g3 => ?_, fun y g1 g2 g3 => ?_⟩
            · have := hA1 y g1 g2
              rw [hlt, Bool.not_eq_true', decide_eq_false_iff_not] at this
              omega
            · have := hA2 y g1 g3
              rw [hlt, Bool.not_eq_false', decide_eq_true_eq] at this
              exact this
        obtain ⟨s, hs, s1, s2, s3, s4, sl, sh⟩ := key2
        rw [hs]
        obtain ⟨e, he⟩ : ∃ e, e = mid + m - s := ⟨_, rfl⟩
        rw [← he]
        obtain ⟨U1, hU1⟩ : ∃ U1, U1 = U.take (s - A.length) := ⟨_, rfl⟩
        obtain ⟨U2, hU2⟩ : ∃ U2, U2 = U.drop (s - A.length) := ⟨_, rfl⟩
        obtain ⟨V1, hV1⟩ : ∃ V1, V1 = V.take (e - m) := ⟨_, rfl⟩
        obtain ⟨V2, hV2⟩ : ∃ V2, V2 = V.drop (e - m) := ⟨_, rfl⟩
        have hU : U = U1 ++ U2 := by rw [hU1, hU2, List.take_append_drop]
        have hV : V = V1 ++ V2 := by rw [hV1, hV2, List.take_append_drop]
        have lU1 : U1.length = s - A.length := by rw [hU1, List.length_take]; omega
        have lU2 : U2.length = m - s := by rw [hU2, List.length_drop]; omega
        have lV1 : V1.length = e - m := by rw [hV1, List.length_take]; omega
        have lV2 : V2.length = b - e := by rw [hV2, List.length_drop]; omega
        have sU1 : Srt key U1 := by rw [hU1]; exact srt_take key hsU _
        have sU2 : Srt key U2 := by rw [hU2]; exact srt_drop key hsU _
        have sV1 : Srt key V1 := by rw [hV1]; exact srt_take key hsV _
        have sV2 : Srt key V2 := by rw [hV2]; exact srt_drop key hsV _
        have oU : ∀ x ∈ U1, ∀ y ∈ U2, key x ≤ key y := by rw [hU1, hU2]; exact srt_split key hsU _
        have oV : ∀ x ∈ V1, ∀ y ∈ V2, key x ≤ key y := by rw [hV1, hV2]; exact srt_split key hsV _
        -- all of V1 below all of U2
        have oVU : ∀ x ∈ V1, ∀ y ∈ U2, key x < key y := fun x hx y hy => by
          rw [hV1] at hx
          rw [hU2] at hy
          obtain ⟨i, i1, i2, i3, i4⟩ := mem_take d _ _ _ hdV _ x hx
          obtain ⟨j, j1, j2, j4⟩ := mem_drop d _ _ _ hdU _ y hy
          have g1 := sh s (Nat.le_refl _) (by omega) (by omega)
          have g2 := srt_get key d _ _ _ hdV hsV i (mid + m - 1 - s) (by omega) (by omega) (by omega)
          have g3 := srt_get key d _ _ _ hdU hsU s j (by omega) (by omega) (by omega)
          rw [i4] at g2
          rw [j4] at g3
          omega
        -- none of U1 above one of V2
        have oUV : ∀ x ∈ U1, ∀ y ∈ V2, key x ≤ key y := fun x hx y hy => by
          rw [hU1] at hx
          rw [hV2] at hy
          obtain ⟨i, i1, i2, i3, i4⟩ := mem_take d _ _ _ hdU _ x hx
          obtain ⟨j, j1, j2, j4⟩ := mem_drop d _ _ _ hdV _ y hy
          have g1 := sl (s - 1) (by omega) (by omega) (by omega)
          have g2 := srt_get key d _ _ _ hdU hsU i (s - 1) (by omega) (by omega) (by omega)
          have g3 := srt_get key d _ _ _ hdV hsV (mid + m - 1 - (s - 1)) j (by omega) (by omega) (by omega)
          rw [i4] at g2
          rw [j4] at g3
          omega
        -- the turn
        have hrot : (rotI m b A.length s e d).toList = A ++ U1 ++ V1 ++ U2 ++ V2 ++ R := by
          unfold rotI
          by_cases hc : s < m ∧ m < e
          · rw [if_pos hc]
            have := rotL_list m (b - A.length) (m - s) (e - m) d (A ++ U1) U2 V1 (V2 ++ R) (by rw [h, hU, hV]; simp) (by simp; omega) lU2 lV1 (by omega) (by omega) (by omega)
            rw [this]
            simp
          · rw [if_neg hc]
            have : U2 = [] ∨ V1 = [] := by
              by_cases g : s < m
              · right; exact List.length_eq_zero_iff.1 (by omega)
              · left; exact List.length_eq_zero_iff.1 (by omega)
            rcases this with g | g
            · rw [h, hU, hV, g]; simp
            · rw [h, hU, hV, g]; simp
        generalize rotI m b A.length s e d = d1 at hrot ⊢
        -- the left
        have hleft : ∃ S1, (symM.symB lt (symM lt f) A.length mid s d1).toList = A ++ S1 ++ U2 ++ V2 ++ R ∧ Srt key S1 ∧ Same key (U1 ++ V1) S1 := by
          unfold symM.symB
          by_cases hc : A.length < s ∧ s < mid
          · rw [if_pos hc]
            obtain ⟨S, h3, h4, h5⟩ := ih A.length s mid d1 A U1 V1 (U2 ++ V2 ++ R) (by rw [hrot]; simp) rfl (by omega) (by omega) (by omega) (by omega) sU1 sV1 (by omega)
            exact ⟨S, by rw [h3]; simp, h4, h5⟩
          · rw [if_neg hc]
            refine ⟨U1 ++ V1, by rw [hrot]; simp, ?_, Same.refl key _⟩
            have : U1 = [] ∨ V1 = [] := by
              by_cases g : A.length < s
              · right; exact List.length_eq_zero_iff.1 (by omega)
              · left; exact List.length_eq_zero_iff.1 (by omega)
            rcases this with g | g
            · rw [g]; simpa using sV1
            · rw [g]; simpa using sU1
        obtain ⟨S1, hS1, srt1, same1⟩ := hleft
        generalize symM.symB lt (symM lt f) A.length mid s d1 = d2 at hS1 ⊢
        have lS1 : S1.length = mid - A.length := by
          have := same1.length key
          simp at this
          omega
        have hright : ∃ S2, (symM.symE lt (symM lt f) A.length mid b e d2).toList = A ++ S1 ++ S2 ++ R ∧ Srt key S2 ∧ Same key (U2 ++ V2) S2 := by
          unfold symM.symE
          by_cases hc : mid < e ∧ e < b
          · rw [if_pos hc]
            obtain ⟨S, h3, h4, h5⟩ := ih mid e b d2 (A ++ S1) U2 V2 R (by rw [hS1]) (by simp; omega) (by omega) (by omega) (by omega) (by omega) sU2 sV2 (by omega)
            exact ⟨S, h3, h4, h5⟩
          · rw [if_neg hc]
            refine ⟨U2 ++ V2, by rw [hS1]; simp, ?_, Same.refl key _⟩
            have : U2 = [] ∨ V2 = [] := by
              by_cases g : mid < e
              · right; exact List.length_eq_zero_iff.1 (by omega)
              · left; exact List.length_eq_zero_iff.1 (by omega)
            rcases this with g | g
            · rw [g]; simpa using sV2
            · rw [g]; simpa using sU2
        obtain ⟨S2, hS2, srt2, same2⟩ := hright
        refine ⟨S1 ++ S2, by rw [hS2]; simp, srt_app key srt1 srt2 (fun x hx y hy => ?_), ?_⟩
        · have hx' := (same1.mem key x).1 hx
          have hy' := (same2.mem key y).1 hy
          rcases List.mem_append.1 hx' with hx | hx <;> rcases List.mem_append.1 hy' with hy | hy
          · exact oU x hx y hy
          · exact oUV x hx y hy
          · have := oVU x hx y hy; omega
          · exact oV x hx y hy
        · rw [hU, hV]
          have c1 : Same key (U2 ++ V1) (V1 ++ U2) := Same.comm key U2 V1 (fun y hy x hx => by have := oVU x hx y hy; omega)
          have c2 := Same.app key (Same.refl key U1) (Same.app key c1 (Same.refl key V2))
          have c3 := Same.app key same1 same2
          refine Same.trans key (l' := U1 ++ V1 ++ (U2 ++ V2)) ?_ c3
          intro z
          have := c2 z
          simpa using this
theorem insInner_list (n : Nat) : ∀ (a j : Nat) (d : Array α) (A U R : List α) (x : α), d.toList = A ++ U ++ x :: R → A.length = a → U.length = n → a + U.length = j → Srt key U → ∃ S, (insInner lt a j d).toList = A ++ S ++ R ∧ Srt key S ∧ Same key (U ++ [x]) S := by
  induction n with
  | zero =>
    intro a j d A U R x h ha hu hj hs
    obtain rfl := List.length_eq_zero_iff.1 hu
    obtain rfl : a = j := by simpa using hj
    refine ⟨[x], ?_, List.pairwise_singleton _ _, Same.refl key _⟩
    cases a with
    | zero => rw [insInner, h]; simp
    | succ a => rw [insInner, if_neg (by simp), h]; simp
  | succ n ih =>
    intro a j d A U R x h ha hu hj hs
    obtain ⟨U', y, rfl⟩ : ∃ U' y, U = U' ++ [y] := ⟨U.dropLast, U.getLast (by intro e; simp [e] at hu), (List.dropLast_concat_getLast _).symm⟩
    simp only [List.length_append, List.length_singleton] at hu hj
    obtain ⟨j, rfl⟩ : ∃ p, j = p + 1 := ⟨j - 1, by omega⟩
    have hy : d[j]! = y := get_at' d (A ++ U') (x :: R) y j (by rw [h]; simp) (by simp; omega)
    have hx : d[j + 1]! = x := get_at' d (A ++ (U' ++ [y])) R x (j + 1) (by rw [h]) (by simp; omega)
    have sU : Srt key U' := (List.pairwise_append.1 hs).1
    have oU : ∀ z ∈ U', key z ≤ key y := fun z hz => (List.pairwise_append.1 hs).2.2 z hz y (by simp)
    rw [insInner, hx, hy, hlt]
    by_cases hc : key x < key y
    · rw [if_pos (by simp [hc]; omega)]
      have hsw := swp_list' d (A ++ U') [] R y x (by rw [h]; simp) j (j + 1) (by simp; omega) (by simp; omega)
      obtain ⟨S, h1, h2, h3⟩ := ih a j (swp d (j + 1) j) A U' (y :: R) x (by rw [hsw]; simp) ha (by omega) (by omega) sU
      refine ⟨S ++ [y], by rw [h1]; simp, srt_app key h2 (List.pairwise_singleton _ _) (fun z hz w hw => ?_), ?_⟩
      · obtain rfl := List.mem_singleton.1 hw
        have := (h3.mem key z).1 hz
        rcases List.mem_append.1 this with g | g
        · exact oU z g
        · obtain rfl := List.mem_singleton.1 g; omega
      · have c1 : Same key ([y] ++ [x]) ([x] ++ [y]) := Same.comm key [y] [x] (fun p hp q hq => by
          obtain rfl := List.mem_singleton.1 hp
          obtain rfl := List.mem_singleton.1 hq
          omega)
        have c2 := Same.app key (Same.refl key U') c1
        have c3 := Same.app key h3 (Same.refl key [y])
        refine Same.trans key (l' := U' ++ [x] ++ [y]) ?_ c3
        intro z
        have := c2 z
        simpa using this
    · rw [if_neg (by simp [hc])]
      refine ⟨U' ++ [y] ++ [x], by rw [h]; simp, srt_app key hs (List.pairwise_singleton _ _) (fun z hz w hw => ?_), Same.refl key _⟩
      obtain rfl := List.mem_singleton.1 hw
      rcases List.mem_append.1 hz with g | g
      · have := oU z g; omega
      · obtain rfl := List.mem_singleton.1 g; omega
theorem insOuter_list (n : Nat) : ∀ (a b i : Nat) (d : Array α) (A U V R : List α), d.toList = A ++ U ++ V ++ R → A.length = a → a + U.length = i → i + V.length = b → V.length = n → Srt key U → ∃ S, (insOuter lt a b i d).toList = A ++ S ++ R ∧ Srt key S ∧ Same key (U ++ V) S := by
  induction n with
  | zero =>
    intro a b i d A U V R h ha hi hb hn hs
    obtain rfl := List.length_eq_zero_iff.1 hn
    rw [insOuter, if_neg (by simp at hb; omega)]
    exact ⟨U, by rw [h]; simp, hs, by rw [List.append_nil]; exact Same.refl key _⟩
  | succ n ih =>
    intro a b i d A U V R h ha hi hb hn hs
    obtain ⟨x, V', rfl⟩ : ∃ x V', V = x :: V' := by
      cases V with
      | nil => simp at hn
      | cons x V' => exact ⟨x, V', rfl⟩
    simp only [List.length_cons] at hb hn
    rw [insOuter, if_pos (by omega)]
    obtain ⟨S, h1, h2, h3⟩ := insInner_list key lt hlt U.length a i d A U (V' ++ R) x (by rw [h]; simp) ha rfl hi hs
    have hl := h3.length key
    simp only [List.length_append, List.length_singleton] at hl
    obtain ⟨S2, h4, h5, h6⟩ := ih a b (i + 1) _ A S V' R (by rw [h1]; simp) ha (by omega) (by omega) (by omega) h2
    refine ⟨S2, h4, h5, Same.trans key (l' := S ++ V') ?_ h6⟩
    have := Same.app key h3 (Same.refl key V')
    rwa [List.append_assoc, List.singleton_append] at this
theorem insertion_list (d : Array α) (a b : Nat) (A U R : List α) (h : d.toList = A ++ U ++ R) (ha : A.length = a) (hb : a + U.length = b) : ∃ S, (insertionSort lt d a b).toList = A ++ S ++ R ∧ Srt key S ∧ Same key U S := by
  unfold insertionSort
  cases U with
  | nil =>
    rw [insOuter, if_neg (by simp at hb; omega)]
    exact ⟨[], h, List.Pairwise.nil, Same.refl key _⟩
  | cons x V =>
    simp only [List.length_cons] at hb
    exact insOuter_list key lt hlt V.length a b (a + 1) d A [x] V R (by rw [h]; simp) ha (by simp) (by omega) rfl (List.pairwise_singleton _ _)
/-! segments, by their places -/
omit hlt in
theorem get_list (d : Array α) (i : Nat) : d[i]! = (d.toList[i]?).getD default := by
  rw [Array.getElem?_toList, Array.getElem!_eq_getD, Array.getD_eq_getD_getElem?]
omit hlt in
theorem out_same (d d' : Array α) (A S S' R : List α) (h : d.toList = A ++ S ++ R) (h' : d'.toList = A ++ S' ++ R) (hl : S'.length = S.length) (i : Nat) (hi : i < A.length ∨ A.length + S.length ≤ i) : d'[i]! = d[i]! := by
  rw [get_list, get_list, h, h']
  rcases hi with hi | hi
  · rw [List.append_assoc, List.append_assoc, List.getElem?_append_left hi, List.getElem?_append_left hi]
  · rw [List.getElem?_append_right (by simp; omega), List.getElem?_append_right (by simp; omega)]
    simp [hl]
omit hlt in
theorem srt_of (d : Array α) (A U R : List α) (h : d.toList = A ++ U ++ R) (hs : ∀ i j, A.length ≤ i → i ≤ j → j < A.length + U.length → key d[i]! ≤ key d[j]!) : Srt key U := by
  refine List.pairwise_iff_getElem.2 fun p q hp hq hpq => ?_
  have g := hs (A.length + p) (A.length + q) (by omega) (by omega) (by omega)
  rw [get_mid d A U R _ h (by omega) (by omega), get_mid d A U R _ h (by omega) (by omega)] at g
  simpa using g
/-- What a step on [a, b) leaves. -/
structure Done (a b : Nat) (d d' : Array α) : Prop where
  size : d'.size = d.size
  out : ∀ i, i < a ∨ b ≤ i → d'[i]! = d[i]!
  srt : ∀ i j, a ≤ i → i ≤ j → j < b → key d'[i]! ≤ key d'[j]!
  same : Same key d.toList d'.toList
omit hlt in
theorem done_of (d d' : Array α) (a b : Nat) (A S S' R : List α) (h : d.toList = A ++ S ++ R) (h' : d'.toList = A ++ S' ++ R) (ha : A.length = a) (hb : a + S.length = b) (hs : Srt key S') (hq : Same key S S') : Done key a b d d' := by
  have hl := hq.length key
  subst ha
  refine ⟨?_, fun i hi => out_same d d' A S S' R h h' hl i (by omega), fun i j h1 h2 h3 => srt_get key d' A S' R h' hs i j h1 h2 (by omega), ?_⟩
  · rw [← Array.length_toList, ← Array.length_toList, h, h']
    simp [hl]
  · rw [h, h']
    exact Same.app key (Same.app key (Same.refl key A) hq) (Same.refl key R)
theorem ins_done (d : Array α) (a b : Nat) (hab : a ≤ b) (hb : b ≤ d.size) : Done key a b d (insertionSort lt d a b) := by
  obtain ⟨A, U, R, h, ha, hu⟩ := seg_split d a b hab hb
  obtain ⟨S, h1, h2, h3⟩ := insertion_list key lt hlt d a b A U R h ha hu
  exact done_of key d _ a b A U S R h h1 ha hu h2 h3
theorem sym_done (f : Nat) (d : Array α) (a m b : Nat) (ham : a < m) (hmb : m < b) (hb : b ≤ d.size) (hf : b - a ≤ f) (hL : ∀ i j, a ≤ i → i ≤ j → j < m → key d[i]! ≤ key d[j]!) (hR : ∀ i j, m ≤ i → i ≤ j → j < b → key d[i]! ≤ key d[j]!) : Done key a b d (symM lt f a m b d) := by
  obtain ⟨A, U, R1, h, ha, hu⟩ := seg_split d a m (by omega) (by omega)
  obtain ⟨A2, V, R, h2, ha2, hv⟩ := seg_split d m b (by omega) hb
  have e1 : A2 = A ++ U := by
    have g1 : d.toList.take m = A2 := by rw [h2, List.append_assoc, List.take_append_of_le_length (by omega), List.take_of_length_le (by omega)]
    have g2 : d.toList.take m = A ++ U := by rw [h, List.take_append_of_le_length (by simp; omega), List.take_of_length_le (by simp; omega)]
    rw [← g1, g2]
  subst e1
  have sU := srt_of key d A U R1 h (fun i j g1 g2 g3 => hL i j (by omega) g2 (by omega))
  have sV := srt_of key d (A ++ U) V R h2 (fun i j g1 g2 g3 => hR i j (by omega) g2 (by omega))
  obtain ⟨S, h3, h4, h5⟩ := symM_list key lt hlt f a m b d A U V R h2 ha hu hv (by omega) (by omega) sU sV hf
  exact done_of key d _ a b A (U ++ V) S R (by rw [h2]; simp) h3 ha (by simp; omega) h4 h5
/-! the whole -/
omit hlt in
theorem blk_one (B t t0 j : Nat) (h1 : t * B ≤ j) (h2 : j < t * B + B) (h3 : t0 * B ≤ j) (h4 : j < t0 * B + B) : t = t0 := by
  rcases Nat.lt_trichotomy t t0 with h | h | h
  · have := Nat.mul_le_mul_right B (show t + 1 ≤ t0 from h)
    rw [Nat.succ_mul] at this
    omega
  · exact h
  · have := Nat.mul_le_mul_right B (show t0 + 1 ≤ t from h)
    rw [Nat.succ_mul] at this
    omega
theorem insB_done (n f : Nat) : ∀ (a : Nat) (d : Array α), d.size = n → (∃ t0, a = t0 * 20) → a ≤ n → n - a < f → (∀ t i j, t * 20 ≤ i → i ≤ j → j < t * 20 + 20 → j < a → key d[i]! ≤ key d[j]!) →
    Same key d.toList (insB lt n f a d).toList ∧ ∀ t i j, t * 20 ≤ i → i ≤ j → j < t * 20 + 20 → j < n → key (insB lt n f a d)[i]! ≤ key (insB lt n f a d)[j]! := by
  induction f with
  | zero => intro a d hs ht ha hf; omega
  | succ f ih =>
    intro a d hs ht ha hf hJ
    obtain ⟨t0, ht0⟩ := ht
    rw [insB]
    by_cases hc : a + 20 ≤ n
    · rw [if_pos hc]
      have hd := ins_done key lt hlt d a (a + 20) (by omega) (by omega)
      obtain ⟨h1, h2⟩ := ih (a + 20) (insertionSort lt d a (a + 20)) (hd.size.trans hs) ⟨t0 + 1, by omega⟩ hc (by omega) (fun t i j g1 g2 g3 g4 => by
        by_cases hj : j < a
        · rw [hd.out i (by omega), hd.out j (by omega)]
          exact hJ t i j g1 g2 g3 hj
        · exact hd.srt i j (by omega) g2 (by omega))
      exact ⟨Same.trans key hd.same h1, h2⟩
    · rw [if_neg hc]
      have hd := ins_done key lt hlt d a n ha (by omega)
      refine ⟨hd.same, fun t i j g1 g2 g3 g4 => ?_⟩
      by_cases hj : j < a
      · rw [hd.out i (by omega), hd.out j (by omega)]
        exact hJ t i j g1 g2 g3 hj
      · exact hd.srt i j (by omega) g2 (by omega)
theorem mrgP_done (n bs f : Nat) (hb : 0 < bs) : ∀ (a : Nat) (d : Array α), d.size = n → (∃ t0, a = t0 * (2 * bs)) → a ≤ n → n - a < f → (∀ t i j, t * bs ≤ i → i ≤ j → j < t * bs + bs → a ≤ i → j < n → key d[i]! ≤ key d[j]!) →
    (∀ t i j, t * (2 * bs) ≤ i → i ≤ j → j < t * (2 * bs) + 2 * bs → j < a → key d[i]! ≤ key d[j]!) →
    Same key d.toList (mrgP lt n bs f a d).toList ∧ ∀ t i j, t * (2 * bs) ≤ i → i ≤ j → j < t * (2 * bs) + 2 * bs → j < n → key (mrgP lt n bs f a d)[i]! ≤ key (mrgP lt n bs f a d)[j]! := by
  induction f with
  | zero => intro a d hs ht ha hf; omega
  | succ f ih =>
    intro a d hs ht ha hf hI hJ
    obtain ⟨t0, ht0⟩ := ht
    have e1 : (2 * t0) * bs = a := by rw [ht0, Nat.mul_comm 2 t0, Nat.mul_assoc]
    have e2 : (2 * t0 + 1) * bs = a + bs := by rw [Nat.succ_mul, e1]
    have hL : ∀ i j, a ≤ i → i ≤ j → j < a + bs → j < n → key d[i]! ≤ key d[j]! := fun i j g1 g2 g3 g4 => hI (2 * t0) i j (by omega) g2 (by omega) g1 g4
    have hR : ∀ i j, a + bs ≤ i → i ≤ j → j < a + 2 * bs → j < n → key d[i]! ≤ key d[j]! := fun i j g1 g2 g3 g4 => hI (2 * t0 + 1) i j (by omega) g2 (by omega) (by omega) g4
    have inb : ∀ t i j, t * (2 * bs) ≤ i → i ≤ j → j < t * (2 * bs) + 2 * bs → a ≤ j → j < a + 2 * bs → a ≤ i := fun t i j g1 g2 g3 g4 g5 => by
      have := blk_one (2 * bs) t t0 j (by omega) g3 (by omega) (by omega)
      subst this
      omega
    rw [mrgP]
    by_cases hc : a + 2 * bs ≤ n
    · rw [if_pos hc]
      have hd := sym_done key lt hlt n d a (a + bs) (a + 2 * bs) (by omega) (by omega) (by omega) (by omega) (fun i j g1 g2 g3 => hL i j g1 g2 g3 (by omega)) (fun i j g1 g2 g3 => hR i j g1 g2 g3 (by omega))
      obtain ⟨h1, h2⟩ := ih (a + 2 * bs) (symM lt n a (a + bs) (a + 2 * bs) d) (hd.size.trans hs) ⟨t0 + 1, by rw [Nat.add_mul, ← ht0, Nat.one_mul]⟩ hc (by omega)
        (fun t i j g1 g2 g3 g4 g5 => by
          rw [hd.out i (by omega), hd.out j (by omega)]
          exact hI t i j g1 g2 g3 (by omega) g5)
        (fun t i j g1 g2 g3 g4 => by
          by_cases hj : j < a
          · rw [hd.out i (by omega), hd.out j (by omega)]
            exact hJ t i j g1 g2 g3 hj
          · exact hd.srt i j (inb t i j g1 g2 g3 (by omega) (by omega)) g2 (by omega))
      exact ⟨Same.trans key hd.same h1, h2⟩
    · rw [if_neg hc]
      by_cases hm : a + bs < n
      · rw [if_pos hm]
        have hd := sym_done key lt hlt n d a (a + bs) n (by omega) hm (by omega) (by omega) (fun i j g1 g2 g3 => hL i j g1 g2 g3 (by omega)) (fun i j g1 g2 g3 => hR i j g1 g2 (by omega) g3)
        refine ⟨hd.same, fun t i j g1 g2 g3 g4 => ?_⟩
        by_cases hj : j < a
        · rw [hd.out i (by omega), hd.out j (by omega)]
          exact hJ t i j g1 g2 g3 hj
        · exact hd.srt i j (inb t i j g1 g2 g3 (by omega) (by omega)) g2 (by omega)
      · rw [if_neg hm]
        refine ⟨Same.refl key _, fun t i j g1 g2 g3 g4 => ?_⟩
        by_cases hj : j < a
        · exact hJ t i j g1 g2 g3 hj
        · exact hL i j (inb t i j g1 g2 g3 (by omega) (by omega)) g2 (by omega) g4
theorem mrg_done (n f : Nat) : ∀ (bs : Nat) (d : Array α), d.size = n → 0 < bs → n - bs < f → (∀ t i j, t * bs ≤ i → i ≤ j → j < t * bs + bs → j < n → key d[i]! ≤ key d[j]!) →
    Same key d.toList (mrg lt n f bs d).toList ∧ (mrg lt n f bs d).size = n ∧ ∀ i j, i ≤ j → j < n → key (mrg lt n f bs d)[i]! ≤ key (mrg lt n f bs d)[j]! := by
  induction f with
  | zero => intro bs d hs hb hf; omega
  | succ f ih =>
    intro bs d hs hb hf hI
    rw [mrg]
    by_cases hc : bs < n
    · rw [if_pos hc]
      obtain ⟨h1, h2⟩ := mrgP_done key lt hlt n bs (n + 1) hb 0 d hs ⟨0, by simp⟩ (Nat.zero_le _) (by omega) (fun t i j g1 g2 g3 _ g5 => hI t i j g1 g2 g3 g5) (fun t i j _ _ _ g => by omega)
      have hsz : (mrgP lt n bs (n + 1) 0 d).size = n := by
        have := h1.length key
        rw [Array.length_toList, Array.length_toList] at this
        omega
      obtain ⟨h3, h4, h5⟩ := ih (bs * 2) (mrgP lt n bs (n + 1) 0 d) hsz (by omega) (by omega) (fun t i j g1 g2 g3 g4 => by
        rw [Nat.mul_comm bs 2] at g1 g3
        exact h2 t i j g1 g2 g3 g4)
      exact ⟨Same.trans key h1 h3, h4, h5⟩
    · rw [if_neg hc]
      exact ⟨Same.refl key _, hs, fun i j g1 g2 => hI 0 i j (by omega) g1 (by omega) g2⟩
/-- Sorted by the key, and what has the same key stands in the order in which it stood. -/
theorem stab_done (d : Array α) : Srt key (stab lt d).toList ∧ Same key d.toList (stab lt d).toList := by
  unfold stab
  obtain ⟨h1, h2⟩ := insB_done key lt hlt d.size (d.size + 1) 0 d rfl ⟨0, rfl⟩ (Nat.zero_le _) (by omega) (fun t i j _ _ _ g => by omega)
  have hsz : (insB lt d.size (d.size + 1) 0 d).size = d.size := by
    have := h1.length key
    rw [Array.length_toList, Array.length_toList] at this
    exact this
  obtain ⟨h3, h4, h5⟩ := mrg_done key lt hlt d.size (d.size + 1) 20 (insB lt d.size (d.size + 1) 0 d) hsz (by omega) (by omega) h2
  generalize mrg lt d.size (d.size + 1) 20 (insB lt d.size (d.size + 1) 0 d) = e at h3 h4 h5 ⊢
  refine ⟨srt_of key e [] e.toList [] (by simp) (fun i j _ g2 g3 => ?_), Same.trans key h1 h3⟩
  simp only [List.length_nil, Nat.zero_add, Array.length_toList] at g3
  exact h5 i j g2 (by omega)
end Go.Proofs.Ytgghglocfdcegaa.Stab
