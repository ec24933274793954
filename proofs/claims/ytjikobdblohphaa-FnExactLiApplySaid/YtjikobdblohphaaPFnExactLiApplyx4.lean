-- Written by the session's own patched copy of the printer (wip/patch_print.py).
import Derived.Test.YtjikobdblohphaaIns
import Derived.Test.YtjikobdblohphaaPFnExactLiApplyx0
namespace Go.Proofs.Ytjikobdblohphaa.PFnExactLiApply
open Go.RowKit Go.Proofs.YtjikobdblohphaaW.PrintWords Go.Proofs.YtjikobdblohphaaW.PrintLast Go.Proofs.YtjikobdblohphaaW.PrintMore
attribute [local go_sem] max2_int min2_int max_two min_two max_three min_three max_four min_four   -- for this text's walks alone
set_option linter.unusedVariables false
set_option linter.unusedSimpArgs false

theorem q4_p {P : Program} {ops : Array Oper} {Q : Exit → Act → World → Prop} {md : Region.Mode} {S : World → Prop} {ds : List Nat} (i n : Nat) {oi : Oper} {v : Value} {fuel : Nat} {l : Array Bool} {a : Act} {w : World} (l' : Array Bool) {a' : Act} (h : wpAnyLast P md ops Q S ds fuel l' a' w) (hi : ops[i]? = some oi := by rfl) (hN : oi.dst = some n := by rfl) (hc : anyB md ops l l' i = true := by exact any_of HT_.out (by kernel_rfl)) (hQ : ∀ c a w, Q (.panic c) (a.put oi.dst v) w → Q (.panic c) a w := by exact fun _ _ _ h => h) (hy : Yields P ops oi v a := by refine Or.inl ⟨by rfl, ?_⟩; intro w'; go_simp; with_reducible rfl) (ha : a.put (some n) v = a' := by simp only [Act.put, List.setIfInBounds_toArray, List.set_cons_zero, List.set_cons_succ, i64_w, i32_w]; rfl) : wpAnyLast P md ops Q S ds (fuel + 1) l a w := pure_ (N := some n) l' hi hN hc hQ hy ha h
theorem q4_u {P : Program} {ops : Array Oper} {Q : Exit → Act → World → Prop} {md : Region.Mode} {S : World → Prop} {ds : List Nat} (i n : Nat) {oi : Oper} {fuel : Nat} {l : Array Bool} {a : Act} {w : World} (l' : Array Bool) {a' : Act} (h : wpAnyLast P md ops Q S ds fuel l' a' w) (hi : ops[i]? = some oi := by rfl) (hN : oi.dst = some n := by rfl) (hc : anyB md ops l l' i = true := by exact any_of HT_.out (by kernel_rfl)) (hQ : ∀ c a w, Q (.panic c) (a.put oi.dst undef) w → Q (.panic c) a w := by exact fun _ _ _ h => h) (hy : Yields P ops oi undef a := by exact Or.inr ⟨by rfl, rfl⟩) (ha : a.put (some n) undef = a' := by simp only [Act.put, List.setIfInBounds_toArray, List.set_cons_zero, List.set_cons_succ, i64_w, i32_w]; rfl) : wpAnyLast P md ops Q S ds (fuel + 1) l a w := pure_ (N := some n) l' hi hN hc hQ hy ha h
open Bool renaming true → T, false → F
theorem q4_0 {p : Prop} (h : p := by repeat (first | (with_reducible first | exact HB.out | apply below_alloc | apply pw_below_drewN | apply below_drew1) | exact HB.out)) : p := h
theorem q4_1 {p : Prop} (h : p := by first | (with_reducible assumption) | assumption) : p := h
theorem q4_2 {p : Prop} (h : p := by first | rfl | (simp; done) | (simp [*]; done)) : p := h
/-! ### impl_copyInts: function 68 -/
def impl_copyInts.f (l0 : List Int) : Option (List Int) := if ([] : List Int).length + l0.length < 17592186044416 then (some (([] : List Int) ++ l0)) else (none)
set_option maxHeartbeats 8000000 in
set_option maxRecDepth 100000 in
theorem impl_copyInts.calls (A0 : Option Addr) (c0 : Nat) (l0 : List Int) (r : List Int) (w : World) (hr0 : Kd.C (Kd.int .i64) w A0 l0.length l0) (hc0 : l0.length ≤ c0) (h : impl_copyInts.f l0 = some r) :
  Calls Try.prog 68 #[.slice A0 l0.length c0] w fun e w' => ∃ v0_ : Value, e = .returned (v0_) ∧ Kd.R (Kd.int .i64) 3 w' w.heap.size (fun _ => True) v0_ r ∧ Below w.heap.size w w' := by
 have HR0 := Aside0.mk hr0
 clear hr0 hc0
 have HB := Aside0.mk (Below.refl w.heap.size w)
 have H : (if ([] : List Int).length + l0.length < 17592186044416 then (some (([] : List Int) ++ l0)) else (none)) = some r := h
 clear h
 by_cases c2 : ([] : List Int).length + l0.length < 17592186044416
 ·rw [if_pos c2] at H
  have LMc2 := Aside0.mk c2
  clear c2
  obtain ⟨y154, hy154⟩ : ∃ y_ : List Int, y_ = (([] : List Int) ++ l0) := ⟨_, rfl⟩
  replace H : (some y154) = some r := by first | (rw [hy154]; with_reducible exact H) | (have H2_ := (Option.bind_some _ _).symm.trans H; rw [hy154]; with_reducible exact H2_) | (have H2_ := (Option.bind_some _ _).symm.trans H; with_reducible exact H2_) | with_reducible exact H | (rw [hy154]; exact H) | exact H
  have Ny154 := Aside0.mk hy154
  clear hy154
  obtain rfl := Option.some.inj H
  go_enter Try.func68, Try.ntmps68
  go_wp2_with (first | ((with_reducible refine gate_builtin (b := .append) (xs := #[.const (.slice none 0 0), .tmp 3]) rfl ?_); at_builtin; refine Kd.R_append_rows (Kd.int .i64) (w0 := w) w.heap.size rfl (.const (.slice none 0 0)) (.tmp 3) 27 3 (.int .i64 0) 8 rfl Try.underlying27 info3 rfl (by decide) (by omega) (.slice none 0 0) ([] : List Int) l0 _ _ _ (fun _ => True) (fun _ => False) rfl rfl ?aO ?aR (fun _ _ h => h) (fun _ h => h.elim) ?aF ?aB ?aS ?aL ?_; (case aR => repeat (first | exact HR0.out | (with_reducible refine Kd.C_alloc ?_ _) | (with_reducible refine Kd.C_drewN ?_ _) | (with_reducible refine Kd.C_drew ?_))); (case aB => exact q4_0); (case aF => exact (fun _ _ => trivial)); (case aO => exact ((Kd.R_nil _ _ _ _ (fun _ => True)))); (case aS => exact (below_size q4_0)); (case aL => have := LMc2.out; omega); intro PA w3 ho hb hg hat; rw [← Ny154.out] at ho; have rA := Aside0.mk (hb); have sA := Aside0.mk (ho); clear HB; have HB := rA; have wA := sA; clear rA sA; clear ho hb hg hat))
  go_ret
  exact ⟨_, by first | rfl | (simp [errW_none, errW_some] <;> rfl) | (simp [*, errW_none, errW_some] <;> rfl), by (with_reducible repeat (first | apply Kd.R_alloc | apply Kd.R_drewN | apply Kd.R_drew)); exact wA.out, q4_0⟩
 ·rw [if_neg c2] at H
  exact absurd H (by simp)

/-! ### slices_Index_int_int: function 71 -/
def slices_Index_int_int.l0 : Nat → List Int → Int → Int → Int → Option (Int)
 | 0, _, _, _, _ => none
 | k + 1, x0, x1, x7, x8 => if x8 < x7 then (if 0 ≤ x8 then (if x8 < (x0.length : Int) then (if x1 = (rd x0 x8) then (some x8) else (slices_Index_int_int.l0 k x0 x1 x7 (wrap64 (x8 + 1)))) else (none)) else (none)) else (some (-1))
def slices_Index_int_int.f (k : Nat) (l0 : List Int) (a1 : Int) : Option (Int) := slices_Index_int_int.l0 k l0 a1 (l0.length : Int) 0
theorem slices_Index_int_int.mono_l : ∀ k, (∀ y0 y1 y2 y3, LeO (slices_Index_int_int.l0 k y0 y1 y2 y3) (slices_Index_int_int.l0 (k + 1) y0 y1 y2 y3))
 | 0 => fun _ _ _ _ r h => by simp [slices_Index_int_int.l0] at h
 | k + 1 => by
  have ih0 := slices_Index_int_int.mono_l k
  ·intro y0 y1 y2 y3
   unfold slices_Index_int_int.l0
   repeat' first
   | (with_reducible exact ih0 _ _ _ _)
   | (with_reducible exact LeO.refl _)
   | (with_reducible exact LeO.none _)
   | (with_reducible refine LeO.ite ?_ ?_)
   | (with_reducible refine LeO.bind ?_ (fun _ => ?_))
   | exact ih0 _ _ _ _
   | exact LeO.none _
   | refine LeO.ite ?_ ?_
   | refine LeO.bind ?_ (fun _ => ?_)
theorem slices_Index_int_int.mono : ∀ a0 a1 k, LeO (slices_Index_int_int.f k a0 a1) (slices_Index_int_int.f (k + 1) a0 a1) := by
 intro a0 a1 k
 have ih0 := slices_Index_int_int.mono_l k
 unfold slices_Index_int_int.f
 repeat' first
   | (with_reducible exact ih0 _ _ _ _)
   | (with_reducible exact LeO.refl _)
   | (with_reducible exact LeO.none _)
   | (with_reducible refine LeO.ite ?_ ?_)
   | (with_reducible refine LeO.bind ?_ (fun _ => ?_))
   | exact ih0 _ _ _ _
   | exact LeO.none _
   | refine LeO.ite ?_ ?_
   | refine LeO.bind ?_ (fun _ => ?_)
set_option maxHeartbeats 8000000 in
set_option maxRecDepth 100000 in
theorem slices_Index_int_int.calls (k : Nat) (A0 : Option Addr) (c0 : Nat) (l0 : List Int) (a1 : Int) (r : Int) (w : World) (hr0 : Kd.C (Kd.int .i64) w A0 l0.length l0) (hc0 : l0.length ≤ c0) (h : slices_Index_int_int.f k l0 a1 = some r) :
  Calls Try.prog 71 #[.slice A0 l0.length c0, .int .i64 a1] w fun e w' => e = .returned (.int .i64 r) ∧ Drawn0 w w' := by
 have HR0 := Aside0.mk hr0
 clear hr0 hc0
 have H : (slices_Index_int_int.l0 k l0 a1 (l0.length : Int) 0) = some r := h
 clear h
 have H' := Aside0.mk H
 clear H
 go_enter Try.func71, Try.ntmps71
 go_wp2
 go_loopg [8] k (fun kq v8 w' => ∃ (eA : Int), v8 = .int .i64 eA ∧ Aside0 (slices_Index_int_int.l0 kq l0 a1 (l0.length : Int) eA = some r) ∧ Aside0 (kq ≤ k) ∧ Drawn0 w w')
 case atStart => exact ⟨(0), q4_2, H', ⟨Nat.le_refl _⟩, by repeat (first | exact Drawn0.refl _ | apply Drawn0.step)⟩
 case round =>
  clear H'
  try clear p2
  obtain ⟨eA, rfl, HA, HK1, ⟨m1, rfl⟩⟩ := hrel
  cases gk with
  | zero => exact absurd HA.out (by simp [slices_Index_int_int.l0])
  | succ k1 =>
   have H := HA.out
   clear HA
   simp only [slices_Index_int_int.l0] at H
   by_cases c3 : eA < (l0.length : Int)
   ·rw [if_pos c3] at H
    have uA : decide (eA < (l0.length : Int)) = true := decide_eq_true c3
    clear c3
    by_cases c4 : 0 ≤ eA
    ·rw [if_pos c4] at H
     have GA : decide (0 ≤ eA) = true := decide_eq_true c4
     clear c4
     by_cases c5 : eA < (l0.length : Int)
     ·rw [if_pos c5] at H
      have IA : decide (eA < (l0.length : Int)) = true := decide_eq_true c5
      clear c5
      by_cases c6 : a1 = (rd l0 eA)
      ·rw [if_pos c6] at H
       have xA : (a1 == (rd l0 eA)) = true := beq_iff_eq.mpr c6
       have JA : (a1 != (rd l0 eA)) = false := bne_eq_false_iff_eq.mpr c6
       clear c6
       obtain rfl := Option.some.inj H
       have p157 : 0 ≤ (eA : Int) := of_decide_eq_true q4_1
       have q157 : eA < (l0.length : Int) := of_decide_eq_true q4_1
       obtain ⟨ad157, vA, lA⟩ := Kd.at_int HR0.out eA p157 q157
       cases vA
       replace p157 := eq_true p157
       replace q157 := eq_true q157
       go_wp2
       go_ret
       exact ⟨q4_2, by repeat (first | exact Drawn0.refl _ | apply Drawn0.step)⟩
      ·rw [if_neg c6] at H
       have xA : (a1 == (rd l0 eA)) = false := beq_eq_false_iff_ne.mpr c6
       have JA : (a1 != (rd l0 eA)) = true := bne_iff_ne.mpr c6
       have H' := Aside0.mk H
       clear H
       have p157 : 0 ≤ (eA : Int) := of_decide_eq_true q4_1
       have q157 : eA < (l0.length : Int) := of_decide_eq_true q4_1
       obtain ⟨ad157, vA, lA⟩ := Kd.at_int HR0.out eA p157 q157
       cases vA
       replace p157 := eq_true p157
       replace q157 := eq_true q157
       go_wp2
       go_roundg k1
       case measure => have := HK1.out; omega
       case rel => exact ⟨(wrap64 (eA + 1)), q4_2, H', ⟨by have := HK1.out; omega⟩, by repeat (first | exact Drawn0.refl _ | apply Drawn0.step)⟩
     ·rw [if_neg c5] at H
      exact absurd H (by simp)
    ·rw [if_neg c4] at H
     exact absurd H (by simp)
   ·rw [if_neg c3] at H
    have uA : decide (eA < (l0.length : Int)) = false := decide_eq_false c3
    clear c3
    obtain rfl := Option.some.inj H
    go_wp2
    go_ret
    exact ⟨q4_2, by repeat (first | exact Drawn0.refl _ | apply Drawn0.step)⟩

-- NOT PRINTED: function 83 (slices_overlaps_int)

/-! ### slices_Reverse_int_int: function 89 -/
def slices_Reverse_int_int.l0 : Nat → List Int → Int → Int → Option (List Int)
 | 0, _, _, _ => none
 | k + 1, x0, x2, x3 => if x2 < x3 then (if 0 ≤ x3 then (if x3 < (x0.length : Int) then (if 0 ≤ x2 then (if x2 < (x0.length : Int) then (slices_Reverse_int_int.l0 k ((x0.set (x2 : Int).toNat (rd x0 x3)).set (x3 : Int).toNat (rd x0 x2)) (wrap64 (x2 + 1)) (wrap64 (x3 - 1))) else (none)) else (none)) else (none)) else (none)) else (some x0)
def slices_Reverse_int_int.f (k : Nat) (l0 : List Int) : Option (List Int) := slices_Reverse_int_int.l0 k l0 0 (wrap64 ((l0.length : Int) - 1))
theorem slices_Reverse_int_int.mono_l : ∀ k, (∀ y0 y1 y2, LeO (slices_Reverse_int_int.l0 k y0 y1 y2) (slices_Reverse_int_int.l0 (k + 1) y0 y1 y2))
 | 0 => fun _ _ _ r h => by simp [slices_Reverse_int_int.l0] at h
 | k + 1 => by
  have ih0 := slices_Reverse_int_int.mono_l k
  ·intro y0 y1 y2
   unfold slices_Reverse_int_int.l0
   repeat' first
   | (with_reducible exact ih0 _ _ _)
   | (with_reducible exact LeO.refl _)
   | (with_reducible exact LeO.none _)
   | (with_reducible refine LeO.ite ?_ ?_)
   | (with_reducible refine LeO.bind ?_ (fun _ => ?_))
   | exact ih0 _ _ _
   | exact LeO.none _
   | refine LeO.ite ?_ ?_
   | refine LeO.bind ?_ (fun _ => ?_)
theorem slices_Reverse_int_int.mono : ∀ a0 k, LeO (slices_Reverse_int_int.f k a0) (slices_Reverse_int_int.f (k + 1) a0) := by
 intro a0 k
 have ih0 := slices_Reverse_int_int.mono_l k
 unfold slices_Reverse_int_int.f
 repeat' first
   | (with_reducible exact ih0 _ _ _)
   | (with_reducible exact LeO.refl _)
   | (with_reducible exact LeO.none _)
   | (with_reducible refine LeO.ite ?_ ?_)
   | (with_reducible refine LeO.bind ?_ (fun _ => ?_))
   | exact ih0 _ _ _
   | exact LeO.none _
   | refine LeO.ite ?_ ?_
   | refine LeO.bind ?_ (fun _ => ?_)
def slices_Reverse_int_int.T3 : Bool × List (List Nat × List Nat) := (true, [([], []), ([], []), ([], []), ([], []), ([], []), ([], []), ([4, 5], [4, 5]), ([6], [6]), ([], []), ([], []), ([8, 9], [8, 9]), ([10], [10]), ([0, 1, 0, 1, 4, 5, 6, 7, 11], [0, 1]), ([12, 7, 0, 1, 4, 5, 6, 7, 11], [7, 12]), ([2, 3, 0, 1, 2, 3, 4, 5, 6, 7, 8, 9, 10, 11, 12, 13], [2, 3]), ([14, 11, 13, 0, 1, 2, 3, 4, 5, 6, 7, 8, 9, 10, 11, 12, 13], [11, 14])])
def slices_Reverse_int_int.B3 : List Nat := [0, 0, 0, 0, 0, 0, 48, 112, 0, 0, 768, 1792, 4083, 8179, 16383, 32767]
theorem slices_Reverse_int_int.tab3 : rtab .any (opsOf Try.f89 3) = slices_Reverse_int_int.T3 := by kernel_rfl
theorem slices_Reverse_int_int.bits3 : waitsOk slices_Reverse_int_int.T3.2 slices_Reverse_int_int.B3 = true := by kernel_rfl
set_option maxHeartbeats 8000000 in
set_option maxRecDepth 100000 in
theorem slices_Reverse_int_int.calls (k : Nat) (P0_ : Nat → Prop) (u9000_ : Value) (l0 : List Int) (r : List Int) (w0 w : World) (hB : Below w0.heap.size w0 w) (ho0 : Kd.R (Kd.int .i64) 3 w w0.heap.size P0_ u9000_ l0) (h : slices_Reverse_int_int.f k l0 = some r) :
  Calls Try.prog 89 #[u9000_] w fun e w' => e = .returned (.tuple #[]) ∧ Kd.R (Kd.int .i64) 3 w' w0.heap.size (fun k_ => (P0_ k_ ∨ w.heap.size ≤ k_)) u9000_ r ∧ Below w0.heap.size w0 w' ∧ Kept w w' (fun k_ => P0_ k_) := by
 have MA := Aside0.mk (show Kd.R (Kd.int .i64) 3 w w0.heap.size (fun k_ => (P0_ k_ ∨ w.heap.size ≤ k_)) u9000_ l0 from Kd.R_mono ho0 (fun k_ hk => (.inl hk)))
 have HK := Aside0.mk (Kept.refl w (fun k_ => P0_ k_))
 have HW0 := Aside0.mk hB.size
 have HB := Aside0.mk hB
 clear hB
 have H : (slices_Reverse_int_int.l0 k l0 0 (wrap64 ((l0.length : Int) - 1))) = some r := h
 clear h
 have H' := Aside0.mk H
 clear H
 obtain ⟨QA, RA, SA⟩ := Kd.R_slice MA.out
 subst SA
 go_enter Try.func89, Try.ntmps89
 go_wp2
 go_loopg [2, 3] k (fun kq v2 v3 w' => ∃ (fA : List Int) (cA : Int) (dA : Int), v2 = .int .i64 cA ∧ v3 = .int .i64 dA ∧ Aside0 (slices_Reverse_int_int.l0 kq fA cA dA = some r) ∧ Aside0 (kq ≤ k) ∧ Aside0 (Kd.R (Kd.int .i64) 3 w' w0.heap.size (fun k_ => (P0_ k_ ∨ w.heap.size ≤ k_)) (.slice QA l0.length RA) fA) ∧ Aside0 (Kept w w' (fun k_ => P0_ k_)) ∧ Aside0 (Below w0.heap.size w0 w'))
 case atStart => exact ⟨(l0), (0), (wrap64 ((l0.length : Int) - 1)), q4_2, q4_2, H', ⟨Nat.le_refl _⟩, ⟨by (with_reducible repeat (first | apply Kd.R_alloc | apply Kd.R_drewN | apply Kd.R_drew)); exact MA.out⟩, ⟨by repeat (first | (with_reducible first | exact HK.out | apply Kept.alloc | apply Kept.drewN | apply Kept.drew) | exact HK.out)⟩, ⟨q4_0⟩⟩
 case round =>
  clear H'
  try clear p2
  obtain ⟨fA, cA, dA, rfl, rfl, HA, HK1, hA, HK, HB⟩ := hrel
  have kA := (Kd.R_reads' hA.out).1
  rw [kA] at hA
  (try simp only [kA])
  cases gk with
  | zero => exact absurd HA.out (by simp [slices_Reverse_int_int.l0])
  | succ k1 =>
   have H := HA.out
   clear HA
   simp only [slices_Reverse_int_int.l0] at H
   by_cases c3 : cA < dA
   ·rw [if_pos c3] at H
    have uA : decide (cA < dA) = true := decide_eq_true c3
    clear c3
    by_cases c4 : 0 ≤ dA
    ·rw [if_pos c4] at H
     have GA : decide (0 ≤ dA) = true := decide_eq_true c4
     clear c4
     by_cases c5 : dA < (fA.length : Int)
     ·rw [if_pos c5] at H
      have IA : decide (dA < (fA.length : Int)) = true := decide_eq_true c5
      clear c5
      by_cases c6 : 0 ≤ cA
      ·rw [if_pos c6] at H
       have xA : decide (0 ≤ cA) = true := decide_eq_true c6
       clear c6
       by_cases c7 : cA < (fA.length : Int)
       ·rw [if_pos c7] at H
        have TA : decide (cA < (fA.length : Int)) = true := decide_eq_true c7
        clear c7
        obtain ⟨y160, hy160⟩ : ∃ y_ : List Int, y_ = (fA.set (cA : Int).toNat (rd fA dA)) := ⟨_, rfl⟩
        replace H : (slices_Reverse_int_int.l0 k1 (y160.set (dA : Int).toNat (rd fA cA)) (wrap64 (cA + 1)) (wrap64 (dA - 1))) = some r := by first | (rw [hy160]; with_reducible exact H) | (have H2_ := (Option.bind_some _ _).symm.trans H; rw [hy160]; with_reducible exact H2_) | (have H2_ := (Option.bind_some _ _).symm.trans H; with_reducible exact H2_) | with_reducible exact H | (rw [hy160]; exact H) | exact H
        have Ny160 := Aside0.mk hy160
        clear hy160
        obtain ⟨y161, hy161⟩ : ∃ y_ : List Int, y_ = (y160.set (dA : Int).toNat (rd fA cA)) := ⟨_, rfl⟩
        replace H : (slices_Reverse_int_int.l0 k1 y161 (wrap64 (cA + 1)) (wrap64 (dA - 1))) = some r := by first | (rw [hy161]; with_reducible exact H) | (have H2_ := (Option.bind_some _ _).symm.trans H; rw [hy161]; with_reducible exact H2_) | (have H2_ := (Option.bind_some _ _).symm.trans H; with_reducible exact H2_) | with_reducible exact H | (rw [hy161]; exact H) | exact H
        have Ny161 := Aside0.mk hy161
        clear hy161
        have H' := Aside0.mk H
        clear H
        try go_wp2
        have rA := Aside0.mk (Kd.R_drew hA.out)
        have sA := Aside0.mk (Kept.drew HK.out)
        have yA := Aside0.mk (below_drew1 HB.out)
        clear hA HK HB
        have hA := rA
        have HK := sA
        have HB := yA
        clear rA sA yA
        have p158 : 0 ≤ (dA : Int) := of_decide_eq_true q4_1
        have q158 : dA < (fA.length : Int) := of_decide_eq_true q4_1
        obtain ⟨ad158, KA, iA⟩ := Kd.at_int (Kd.R_reads' hA.out).2.2 dA p158 q158
        cases KA
        replace p158 := eq_true p158
        replace q158 := eq_true q158
        have p159 : 0 ≤ (cA : Int) := of_decide_eq_true q4_1
        have q159 : cA < (fA.length : Int) := of_decide_eq_true q4_1
        obtain ⟨ad159, LA, jA⟩ := Kd.at_int (Kd.R_reads' hA.out).2.2 cA p159 q159
        obtain rfl : ad158 = ad159 := (by injection LA)
        replace p159 := eq_true p159
        replace q159 := eq_true q159
        have p8 : 0 ≤ (cA : Int) := of_decide_eq_true q4_1
        have q8 : (cA : Int) < ((fA.length : Int) : Int) := of_decide_eq_true q4_1
        obtain ⟨go8, UA, NA, OA, gl8, cl8, HG8⟩ := Kd.R_form hA.out (by omega)
        (first | cases NA | (injection NA with ea_ en_ ec_; (first | subst ea_ | (injection ea_ with ea_; subst ea_)); subst ec_; clear en_))
        have GB8 := Aside0.mk OA
        have GG8 := Aside0.mk HG8
        clear OA gl8 HG8
        have tA := Aside0.mk (show (P0_ go8 ∨ w.heap.size ≤ go8) from (hA.out.1 _ rfl))
        (first | simp only [add_plain] at iA | skip)
        (first | simp only [add_plain] at jA | skip)
        obtain ⟨zA, BA⟩ := Kd.R_celln 0 hA.out (cA : Int) p8 q8
        replace p8 := eq_true p8
        replace q8 := eq_true q8
        have HP11 := Kd.R_putn hA.out (cA : Int) (rd fA dA)
        rw [← Ny160.out] at HP11
        have HQ11 := Aside0.mk HP11
        clear HP11
        have p9 : 0 ≤ (dA : Int) := of_decide_eq_true q4_1
        have q9 : (dA : Int) < ((fA.length : Int) : Int) := of_decide_eq_true q4_1
        obtain ⟨CA, DA⟩ := Kd.R_celln 0 HQ11.out (dA : Int) p9 q9
        replace p9 := eq_true p9
        replace q9 := eq_true q9
        have HP12 := Kd.R_putn HQ11.out (dA : Int) (rd fA cA)
        rw [← Ny161.out] at HP12
        have HQ12 := Aside0.mk HP12
        clear HP12
        refine start_ (n := 16) (S := fun w' => w'.cell? ⟨go8, (dA).toNat, none⟩ = some (.int .i64 (rd fA dA)) ∧ w'.cell? ⟨go8, (cA).toNat, none⟩ = some (.int .i64 (rd fA cA))) (ds := [13, 15]) #[F,F,F,F,F,F,F,F,F,F,F,F,F,F,F,F] (by kernel_rfl) rfl rfl ⟨iA, jA⟩ (fun hHeld => ?_); refine with_tabW slices_Reverse_int_int.tab3 slices_Reverse_int_int.bits3 (fun HT_ HW_ => ?_)
        generalize wr.drew = VA at hA HK HB GG8 HQ11 HQ12 BA DA iA jA zA CA hHeld ⊢
        refine q4_p 0 14 #[T,F,F,F,F,F,F,F,F,F,F,F,F,F,F,F] ?_
        refine q4_p 1 15 #[T,T,F,F,F,F,F,F,F,F,F,F,F,F,F,F] ?_
        refine q4_p 2 16 #[T,T,T,F,F,F,F,F,F,F,F,F,F,F,F,F] ?_
        refine q4_p 3 17 #[T,T,T,T,F,F,F,F,F,F,F,F,F,F,F,F] ?_
        refine q4_p 4 18 #[T,T,T,T,T,F,F,F,F,F,F,F,F,F,F,F] ?_
        refine q4_p 5 19 #[T,T,T,T,T,T,F,F,F,F,F,F,F,F,F,F] ?_
        refine q4_p 6 20 #[T,T,T,T,T,T,T,F,F,F,F,F,F,F,F,F] ?_
        refine q4_p 8 22 #[T,T,T,T,T,T,T,F,T,F,F,F,F,F,F,F] ?_
        refine q4_p 9 23 #[T,T,T,T,T,T,T,F,T,T,F,F,F,F,F,F] ?_
        refine q4_p 10 24 #[T,T,T,T,T,T,T,F,T,T,T,F,F,F,F,F] ?_
        refine take_ (i := 7) (N := some 21) (v := ?_) (a' := ?_) #[T,T,T,T,T,T,T,T,T,T,T,F,F,F,F,F] rfl rfl (take_ofW HT_.out HW_.out (by kernel_rfl)) (fun _ _ _ h => h) (Or.inl ⟨by rfl, ?_⟩) hHeld ?_ ?_
        rotate_left
        ·rintro w' ⟨s0, s1⟩
         go_simp
         with_reducible rfl
        rotate_left
        ·simp only [Act.put, List.setIfInBounds_toArray, List.set_cons_zero, List.set_cons_succ, i64_w, i32_w]
         rfl
        refine take_ (i := 11) (N := some 25) (v := ?_) (a' := ?_) #[T,T,T,T,T,T,T,T,T,T,T,T,F,F,F,F] rfl rfl (take_ofW HT_.out HW_.out (by kernel_rfl)) (fun _ _ _ h => h) (Or.inl ⟨by rfl, ?_⟩) hHeld ?_ ?_
        rotate_left
        ·rintro w' ⟨s0, s1⟩
         go_simp
         with_reducible rfl
        rotate_left
        ·simp only [Act.put, List.setIfInBounds_toArray, List.set_cons_zero, List.set_cons_succ, i64_w, i32_w]
         rfl
        refine q4_p 12 26 #[T,T,T,T,T,T,T,T,T,T,T,T,T,F,F,F] ?_
        refine last_ (i := 13) (N := none) #[T,T,T,T,T,T,T,T,T,T,T,T,T,T,F,F] rfl rfl (one_of HT_.out (by kernel_rfl)) (by decide) (fun K hK => ?_)
        refine skip_ (w1 := ?_) (by rfl) rfl ?_ ?_
        rotate_left
        ·go_simp
         rfl
        refine hK.out _ _ ?_
        clear hK K
        refine q4_p 14 27 #[T,T,T,T,T,T,T,T,T,T,T,T,T,T,T,F] ?_
        refine last_ (i := 15) (N := none) #[T,T,T,T,T,T,T,T,T,T,T,T,T,T,T,T] rfl rfl (one_of HT_.out (by kernel_rfl)) (by decide) (fun K hK => ?_)
        refine skip_ (w1 := ?_) (by rfl) rfl ?_ ?_
        rotate_left
        ·go_simp
         rfl
        refine hK.out _ _ ?_
        clear hK K
        refine done_ (done_of HT_.out (by kernel_rfl)) ?_
        try go_wp2
        (try simp only [← kA])
        go_roundg k1
        case measure => have := HK1.out; omega
        case rel => exact ⟨(y161), (wrap64 (cA + 1)), (wrap64 (dA - 1)), q4_2, q4_2, H', ⟨by have := HK1.out; omega⟩, ⟨by (try simp only [kA]); (with_reducible repeat (first | apply Kd.R_alloc | apply Kd.R_drewN | apply Kd.R_drew)); exact HQ12.out⟩, ⟨by repeat (first | (with_reducible first | exact HK.out | apply Kept.alloc | apply Kept.drewN | apply Kept.drew | refine Kept.setCell ?_ tA.out _ | refine Kept.setCell ?_ tA.out _) | exact HK.out)⟩, ⟨by repeat (first | (with_reducible first | exact HB.out | apply below_alloc | apply pw_below_drewN | apply below_drew1 | refine below_set ?_ GB8.out | refine below_set ?_ GB8.out) | exact HB.out)⟩⟩
       ·rw [if_neg c7] at H
        exact absurd H (by simp)
      ·rw [if_neg c6] at H
       exact absurd H (by simp)
     ·rw [if_neg c5] at H
      exact absurd H (by simp)
    ·rw [if_neg c4] at H
     exact absurd H (by simp)
   ·rw [if_neg c3] at H
    have uA : decide (cA < dA) = false := decide_eq_false c3
    clear c3
    obtain rfl := Option.some.inj H
    go_wp2
    first | go_end0 | ((try simp only [Exit.inBlock, Exit.then]); refine bodyPost_ret (results_none rfl _ _ _) rfl ?_)
    exact ⟨by first | rfl | (simp [errW_none, errW_some] <;> rfl) | (simp [*, errW_none, errW_some] <;> rfl), (by first | exact (by (with_reducible repeat (first | apply Kd.R_alloc | apply Kd.R_drewN | apply Kd.R_drew)); exact hA.out) | (simp only [kA]; exact (by (with_reducible repeat (first | apply Kd.R_alloc | apply Kd.R_drewN | apply Kd.R_drew)); exact hA.out))), q4_0, by repeat (first | (with_reducible first | exact HK.out | apply Kept.alloc | apply Kept.drewN | apply Kept.drew) | exact HK.out)⟩

-- NOT PRINTED: function 87 (slices_rotateLeft_int)

-- NOT PRINTED: function 84 (slices_rotateRight_int)

-- NOT PRINTED: function 72 (slices_Insert_int_int)

-- NOT PRINTED: function 85 (slices_IndexFunc_int_int)

-- NOT PRINTED: function 73 (slices_DeleteFunc_int_int)

/-! ### impl_LiApply: function 37 (walked by hand) -/
def impl_LiApply.l0 : Nat → Int → List Int → Int → Option Int
 | 0, _, _, _ => none
 | k + 1, x0, x6, x8 => if x8 < (x6.length : Int) then (if 0 ≤ x8 then (if rd x6 x8 < x0 then impl_LiApply.l0 k x0 x6 (wrap64 (x8 + 1)) else some x8) else none) else some x8
def impl_LiApply.f (l0 : List Int) (mA : Int) (bA : Int) (gA : Int) (aA : Int) (nA : Int) (oA : Int) (pA : Int) (qA : Int) : Option (List Int × Bool) := (impl_copyInts.f l0).bind fun o => (slices_Index_int_int.f (l0.length + 2) l0 gA).bind fun ix => if bA = 1 ∧ aA = 1 ∧ ix < 0 then ((impl_LiApply.l0 (o.length + 2) gA o 0).bind fun i => if 0 ≤ i ∧ i ≤ (o.length : Int) ∧ o.length < 17592186044415 then some (o.take i.toNat ++ [gA] ++ o.drop i.toNat, true) else none) else if bA = 2 ∧ aA = 1 ∧ 0 ≤ ix then (if 0 < o.length then some (o.filter (fun x => !decide (x = gA)), true) else none) else if (bA = 3 ∧ aA = 1 ∧ 0 ≤ ix) ∨ (bA = 1 ∧ aA = 4 ∧ 0 ≤ ix) then some (o, true) else if (bA = 2 ∨ bA = 3) ∧ aA = 4 ∧ ix < 0 then some (o, true) else some ([], false)
theorem heap_lt_ {w : World} {g : Nat} {o : Obj} (h : w.heap[g]? = some o) : g < w.heap.size := by
 rcases Nat.lt_or_ge g w.heap.size with h_ | h_
 ·exact h_
 ·rw [Array.getElem?_eq_none h_] at h
  cases h
set_option maxHeartbeats 8000000 in
set_option maxRecDepth 100000 in
theorem impl_LiApply.calls (AA : Option Addr) (c0 : Nat) (l0 : List Int) (mA : Int) (bA : Int) (gA : Int) (aA : Int) (nA : Int) (oA : Int) (pA : Int) (qA : Int) (r1 : List Int) (r2 : Bool) (w : World) (hr0 : Kd.C (Kd.int .i64) w AA l0.length l0) (hc0 : l0.length ≤ c0) (h : impl_LiApply.f l0 mA bA gA aA nA oA pA qA = some (r1, r2)) :
  Calls Try.prog 37 #[.slice AA l0.length c0, .agg #[.int .i64 mA, .int .i64 bA, .int .i64 gA, .int .i64 aA, .int .i64 nA, .int .i64 oA, .int .i64 pA, .int .i64 qA]] w fun e w' => ∃ v0_ : Value, e = .returned (.tuple #[v0_, .bool r2]) ∧ Kd.R (Kd.int .i64) 3 w' w.heap.size (fun _ => True) v0_ r1 ∧ Below w.heap.size w w' := by
 have hu58 := Try.underlying58
 have HR0 := Aside0.mk hr0
 have HC0 := Aside0.mk hc0
 clear hr0 hc0
 have HB := Aside0.mk (Below.refl w.heap.size w)
 unfold impl_LiApply.f at h
 obtain ⟨o, A00, h⟩ := Option.bind_eq_some_iff.mp h
 obtain ⟨ix, A10, H⟩ := Option.bind_eq_some_iff.mp h
 clear h
 have A0 := Aside0.mk A00
 have A1 := Aside0.mk A10
 clear A00 A10
 have H0 := Aside0.mk H
 clear H
 go_enter Try.func37, Try.ntmps37
 go_wp2_with (first | ((with_reducible refine gate_dst (N := 3) rfl ?_); refine box_event ?hg (N := 3) ?hd (cs := #[.int .i64 mA, .int .i64 bA, .int .i64 gA, .int .i64 aA, .int .i64 nA, .int .i64 oA, .int .i64 pA, .int .i64 qA]) (t := 58) ?hr ?_; (case hd => rfl); (case hg => rfl); (case hr => first | (go_simp; done) | (go_simp; rfl)); intro gb hg w4 hbox hb; have rA := Aside0.mk (below_step HB.out hb); have sA := Aside0.mk (hbox); have yA := Aside0.mk ((by rw [hg]; exact (below_size HB.out)) : w.heap.size ≤ gb); have nl_ := Aside0.mk ((heap_lt_ hbox) : gb < w4.heap.size); clear HB; have HB := rA; have BK := sA; have GW := yA; have GL := nl_; clear rA sA yA nl_; clear hb hbox hg))
 refine (impl_copyInts.calls AA c0 l0 o w4 (Kd.C_below HR0.out HB.out) HC0.out A0.out).mono ?_
 rintro e w5 ⟨vo, rfl, ho, hb⟩
 have HOB := Aside0.mk (Kd.R_base ho)
 have HO := Aside0.mk (Kd.R_lower ho (below_size HB.out))
 have HX := Aside0.mk (fun k (hk : vo.ownBlock = some k) => (show k ≠ gb from fun e_ => by have h1_ := HOB.out k hk; have h2_ := GL.out; omega))
 have FA := Aside0.mk ((hb.block gb GL.out).trans BK.out)
 replace HB := Aside0.mk (below_step HB.out hb)
 clear HOB hb ho BK GL
 have hx1 : w5.cell? ⟨gb, 1, none⟩ = some (.int .i64 bA) := (blk_cell FA.out 1).trans rfl
 have hx2 : w5.cell? ⟨gb, 2, none⟩ = some (.int .i64 gA) := (blk_cell FA.out 2).trans rfl
 have hx3 : w5.cell? ⟨gb, 3, none⟩ = some (.int .i64 aA) := (blk_cell FA.out 3).trans rfl
 go_wp2_with fail
 refine (slices_Index_int_int.calls (l0.length + 2) AA c0 l0 gA ix w5 (Kd.C_below HR0.out HB.out) HC0.out A1.out).mono ?_
 rintro e w6 ⟨rfl, ⟨nd, rfl⟩⟩
 have H := H0.out
 clear H0
 by_cases c1 : bA = 1 ∧ aA = 1 ∧ ix < 0
 ·rw [if_pos c1] at H
  obtain ⟨rfl, rfl, c1⟩ := c1
  obtain ⟨i, A20, h⟩ := Option.bind_eq_some_iff.mp H
  clear H
  have H := h
  clear h
  by_cases c2 : 0 ≤ i ∧ i ≤ (o.length : Int) ∧ o.length < 17592186044415
  ·rw [if_pos c2] at H
   obtain ⟨rfl, rfl⟩ := Prod.mk.inj (Option.some.inj H)
   have A2 := Aside0.mk A20
   clear A20 H
   have hdx : decide (ix < 0) = true := decide_eq_true c1
   obtain ⟨A, c, rfl, hl_, hC⟩ := Kd.R_reads HO.out
   have HC := Aside0.mk hC
   have HL := Aside0.mk hl_
   clear hC hl_
   go_wp2_with fail
   go_loopg [8] (o.length + 2) (fun kq v8 w' => ∃ (x8 : Int), v8 = .int .i64 x8 ∧ Aside0 (impl_LiApply.l0 kq gA o x8 = some i) ∧ Aside0 (∃ q, w' = w5.drewN q))
   case atStart => exact ⟨0, rfl, A2, ⟨nd, rfl⟩⟩
   case round =>
    clear A2
    obtain ⟨x8, rfl, HA, HQ⟩ := hrel
    obtain ⟨q, rfl⟩ := HQ.out
    clear HQ
    have H := HA.out
    clear HA
    cases gk with
    | zero => exact absurd H (by simp [impl_LiApply.l0])
    | succ k2 =>
     rw [impl_LiApply.l0] at H
     by_cases b1 : x8 < (o.length : Int)
     ·rw [if_pos b1] at H
      by_cases b0 : 0 ≤ x8
      ·rw [if_pos b0] at H
       obtain ⟨ad, rfl, hx⟩ := Kd.at_int HC.out x8 b0 b1
       have H' := Aside0.mk H
       clear H
       replace b0 := eq_true b0
       replace b1 := eq_true b1
       have hx' : (w5.drewN q).cell? (ad.add x8.toNat) = some (.int .i64 (rd o x8)) := hx
       go_wp2_with fail
       go_region
       by_cases b2 : rd o x8 < gA
       ·have H := H'.out
        clear H'
        rw [if_pos b2] at H
        have H' := Aside0.mk H
        clear H
        have hd2 : decide (rd o x8 < gA) = true := decide_eq_true b2
        clear b2
        simp only [hd2]
        go_wp2_with fail
        go_roundg k2
        case measure => omega
        case rel => exact ⟨_, rfl, H', ⟨_, rfl⟩⟩
       ·have H := H'.out
        clear H'
        rw [if_neg b2] at H
        obtain rfl := Option.some.inj H
        clear H
        have hd2 : decide (rd o x8 < gA) = false := decide_eq_false b2
        clear b2
        simp only [hd2]
        go_wp2_with fail
        obtain ⟨m, rfl⟩ : ∃ m : Nat, x8 = (m : Int) := ⟨x8.toNat, by have := c2.1; omega⟩
        refine (ins_calls w _ (some ad) c o m gA w5.heap.size 1 0 (fun _ => True) (below_alloc (pw_below_drewN HB.out (q + 1)) _) (Kd.R_alloc (Kd.R_drewN HO.out (q + 1)) _) (own_fin (ys := [gA]) (alloc_at_ (w5.drewN (q + 1)) _) (Nat.zero_le _) rfl (Nat.le_refl 1) (by decide) rfl rfl) (fun k hk e_ => by have h_ := Kd.R_lt HO.out k hk; omega) (by have := c2.2.1; omega) c2.2.2).mono ?_
        rintro e w7 ⟨v1, rfl, EA, HB7⟩
        go_wp2
        go_ret2
        exact ⟨_, rfl, EA, HB7⟩
      ·rw [if_neg b0] at H
       cases H
     ·rw [if_neg b1] at H
      obtain rfl := Option.some.inj H
      clear H
      have hd1 : decide (x8 < (o.length : Int)) = false := decide_eq_false b1
      go_wp2_with fail
      go_region
      go_wp2_with fail
      obtain ⟨m, rfl⟩ : ∃ m : Nat, x8 = (m : Int) := ⟨x8.toNat, by have := c2.1; omega⟩
      refine (ins_calls w _ A c o m gA w5.heap.size 1 0 (fun _ => True) (below_alloc (pw_below_drewN HB.out (q + 1)) _) (Kd.R_alloc (Kd.R_drewN HO.out (q + 1)) _) (own_fin (ys := [gA]) (alloc_at_ (w5.drewN (q + 1)) _) (Nat.zero_le _) rfl (Nat.le_refl 1) (by decide) rfl rfl) (fun k hk e_ => by have h_ := Kd.R_lt HO.out k hk; omega) (by have := c2.2.1; omega) c2.2.2).mono ?_
      rintro e w7 ⟨v1, rfl, EA, HB7⟩
      go_wp2
      go_ret2
      exact ⟨_, rfl, EA, HB7⟩
  ·rw [if_neg c2] at H
   cases H
 ·rw [if_neg c1] at H
  by_cases c3 : bA = 2 ∧ aA = 1 ∧ 0 ≤ ix
  ·rw [if_pos c3] at H
   obtain ⟨rfl, rfl, c3⟩ := c3
   by_cases c4 : 0 < o.length
   ·rw [if_pos c4] at H
    obtain ⟨rfl, rfl⟩ := Prod.mk.inj (Option.some.inj H)
    clear H c1
    have hdx : decide (ix < 0) = false := decide_eq_false (by omega)
    have hdy : decide (0 ≤ ix) = true := decide_eq_true c3
    go_wp2_with fail
    refine (del_calls w _ vo o gA gb _ 58 (pw_below_drewN HB.out nd) (Kd.R_drewN HO.out nd) c4 (blk_drewN FA.out nd) rfl (fun e_ => HX.out gb e_.symm rfl)).mono ?_
    rintro e w7 ⟨v1, rfl, EA, HB7⟩
    go_wp2
    go_ret2
    exact ⟨_, rfl, EA, HB7⟩
   ·rw [if_neg c4] at H
    cases H
  ·rw [if_neg c3] at H
   by_cases cx : ix < 0
   ·have hdx : decide (ix < 0) = true := decide_eq_true cx
    have hdy : decide (0 ≤ ix) = false := decide_eq_false (by omega)
    by_cases r4 : aA = 4
    ·subst r4
     by_cases k2 : bA = 2
     ·subst k2
      rw [if_neg (by omega), if_pos (by omega)] at H
      obtain ⟨rfl, rfl⟩ := Prod.mk.inj (Option.some.inj H)
      clear H c1 c3
      go_wp2
      go_ret2
      exact ⟨_, rfl, Kd.R_drewN HO.out nd, pw_below_drewN HB.out nd⟩
     ·by_cases k3 : bA = 3
      ·subst k3
       rw [if_neg (by omega), if_pos (by omega)] at H
       obtain ⟨rfl, rfl⟩ := Prod.mk.inj (Option.some.inj H)
       clear H c1 c3
       go_wp2
       go_ret2
       exact ⟨_, rfl, Kd.R_drewN HO.out nd, pw_below_drewN HB.out nd⟩
      ·rw [if_neg (by omega), if_neg (by omega)] at H
       obtain ⟨rfl, rfl⟩ := Prod.mk.inj (Option.some.inj H)
       clear H c1 c3
       by_cases k1 : bA = 1
       ·subst k1
        go_wp2
        go_ret2
        exact ⟨_, rfl, Kd.R_nil _ _ _ _ _, pw_below_drewN HB.out nd⟩
       ·have e1 : (bA == 1) = false := by simp [k1]
        have e2 : (bA == 2) = false := by simp [k2]
        have e3 : (bA == 3) = false := by simp [k3]
        go_wp2
        go_ret2
        exact ⟨_, rfl, Kd.R_nil _ _ _ _ _, pw_below_drewN HB.out nd⟩
    ·rw [if_neg (by omega), if_neg (by omega)] at H
     obtain ⟨rfl, rfl⟩ := Prod.mk.inj (Option.some.inj H)
     have er4 : (aA == 4) = false := by simp [r4]
     by_cases k1 : bA = 1
     ·have hr1 : aA ≠ 1 := fun h_ => c1 ⟨k1, h_, cx⟩
      have er1 : (aA == 1) = false := by simp [hr1]
      subst k1
      clear H c1 c3
      go_wp2
      go_ret2
      exact ⟨_, rfl, Kd.R_nil _ _ _ _ _, pw_below_drewN HB.out nd⟩
     ·have e1 : (bA == 1) = false := by simp [k1]
      by_cases k2 : bA = 2
      ·subst k2
       clear H c1 c3
       by_cases r1 : aA = 1
       ·subst r1
        go_wp2
        go_ret2
        exact ⟨_, rfl, Kd.R_nil _ _ _ _ _, pw_below_drewN HB.out nd⟩
       ·have er1 : (aA == 1) = false := by simp [r1]
        go_wp2
        go_ret2
        exact ⟨_, rfl, Kd.R_nil _ _ _ _ _, pw_below_drewN HB.out nd⟩
      ·have e2 : (bA == 2) = false := by simp [k2]
       by_cases k3 : bA = 3
       ·subst k3
        clear H c1 c3
        by_cases r1 : aA = 1
        ·subst r1
         go_wp2
         go_ret2
         exact ⟨_, rfl, Kd.R_nil _ _ _ _ _, pw_below_drewN HB.out nd⟩
        ·have er1 : (aA == 1) = false := by simp [r1]
         go_wp2
         go_ret2
         exact ⟨_, rfl, Kd.R_nil _ _ _ _ _, pw_below_drewN HB.out nd⟩
       ·have e3 : (bA == 3) = false := by simp [k3]
        clear H c1 c3
        go_wp2
        go_ret2
        exact ⟨_, rfl, Kd.R_nil _ _ _ _ _, pw_below_drewN HB.out nd⟩
   ·have hdx : decide (ix < 0) = false := decide_eq_false cx
    have hdy : decide (0 ≤ ix) = true := decide_eq_true (by omega)
    by_cases k1 : bA = 1
    ·subst k1
     by_cases r4 : aA = 4
     ·subst r4
      rw [if_pos (by omega)] at H
      obtain ⟨rfl, rfl⟩ := Prod.mk.inj (Option.some.inj H)
      clear H c1 c3
      go_wp2
      go_ret2
      exact ⟨_, rfl, Kd.R_drewN HO.out nd, pw_below_drewN HB.out nd⟩
     ·have er4 : (aA == 4) = false := by simp [r4]
      rw [if_neg (by omega), if_neg (by omega)] at H
      obtain ⟨rfl, rfl⟩ := Prod.mk.inj (Option.some.inj H)
      clear H c1 c3
      by_cases r1 : aA = 1
      ·subst r1
       go_wp2
       go_ret2
       exact ⟨_, rfl, Kd.R_nil _ _ _ _ _, pw_below_drewN HB.out nd⟩
      ·have er1 : (aA == 1) = false := by simp [r1]
       go_wp2
       go_ret2
       exact ⟨_, rfl, Kd.R_nil _ _ _ _ _, pw_below_drewN HB.out nd⟩
    ·have e1 : (bA == 1) = false := by simp [k1]
     by_cases k3 : bA = 3
     ·subst k3
      by_cases r1 : aA = 1
      ·subst r1
       rw [if_pos (by omega)] at H
       obtain ⟨rfl, rfl⟩ := Prod.mk.inj (Option.some.inj H)
       clear H c1 c3
       go_wp2
       go_ret2
       exact ⟨_, rfl, Kd.R_drewN HO.out nd, pw_below_drewN HB.out nd⟩
      ·have er1 : (aA == 1) = false := by simp [r1]
       rw [if_neg (by omega), if_neg (by omega)] at H
       obtain ⟨rfl, rfl⟩ := Prod.mk.inj (Option.some.inj H)
       clear H c1 c3
       by_cases r4 : aA = 4
       ·subst r4
        go_wp2
        go_ret2
        exact ⟨_, rfl, Kd.R_nil _ _ _ _ _, pw_below_drewN HB.out nd⟩
       ·have er4 : (aA == 4) = false := by simp [r4]
        go_wp2
        go_ret2
        exact ⟨_, rfl, Kd.R_nil _ _ _ _ _, pw_below_drewN HB.out nd⟩
     ·have e3 : (bA == 3) = false := by simp [k3]
      rw [if_neg (by omega), if_neg (by omega)] at H
      obtain ⟨rfl, rfl⟩ := Prod.mk.inj (Option.some.inj H)
      by_cases k2 : bA = 2
      ·have hr1 : aA ≠ 1 := fun h_ => c3 ⟨k2, h_, by omega⟩
       have er1 : (aA == 1) = false := by simp [hr1]
       subst k2
       clear H c1 c3
       by_cases r4 : aA = 4
       ·subst r4
        go_wp2
        go_ret2
        exact ⟨_, rfl, Kd.R_nil _ _ _ _ _, pw_below_drewN HB.out nd⟩
       ·have er4 : (aA == 4) = false := by simp [r4]
        go_wp2
        go_ret2
        exact ⟨_, rfl, Kd.R_nil _ _ _ _ _, pw_below_drewN HB.out nd⟩
      ·have e2 : (bA == 2) = false := by simp [k2]
       clear H c1 c3
       go_wp2
       go_ret2
       exact ⟨_, rfl, Kd.R_nil _ _ _ _ _, pw_below_drewN HB.out nd⟩


end Go.Proofs.Ytjikobdblohphaa.PFnExactLiApply
