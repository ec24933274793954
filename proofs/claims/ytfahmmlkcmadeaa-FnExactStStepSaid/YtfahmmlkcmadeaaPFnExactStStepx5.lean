-- Written by the session's own patched copy of the printer (wip/patch_print.py).
import Derived.Test.YtfahmmlkcmadeaaPFnExactStStepx0
import Derived.Test.YtfahmmlkcmadeaaPFnExactStStepx1
import Derived.Test.YtfahmmlkcmadeaaPFnExactStStepx3
import Derived.Test.YtfahmmlkcmadeaaPFnExactStStepx4
namespace Go.Proofs.Ytfahmmlkcmadeaa.PFnExactStStep
open Go.RowKit Go.Proofs.YtfahmmlkcmadeaaW.PrintWords Go.Proofs.YtfahmmlkcmadeaaW.PrintLast Go.Proofs.YtfahmmlkcmadeaaW.PrintMore
attribute [local go_sem] max2_int min2_int max_two min_two max_three min_three max_four min_four   -- for this text's walks alone
set_option linter.unusedVariables false
set_option linter.unusedSimpArgs false

theorem hl5_step {g : Nat} {w w1 : World} {i : Nat} {u : Value} (h : ∀ k, k ≠ g → w1.heap[k]? = w.heap[k]?) : ∀ k, k ≠ g → (w1.setCell ⟨g, i, none⟩ u).heap[k]? = w.heap[k]? := fun k hk => (Below.heap_setCell w1 ⟨g, i, none⟩ u k hk).trans (h k hk)
theorem hl5_drewN {g : Nat} {w w1 : World} {m : Nat} (h : ∀ k, k ≠ g → w1.heap[k]? = w.heap[k]?) : ∀ k, k ≠ g → (w1.drewN m).heap[k]? = w.heap[k]? := h
theorem hl5_drew {g : Nat} {w w1 : World} (h : ∀ k, k ≠ g → w1.heap[k]? = w.heap[k]?) : ∀ k, k ≠ g → w1.drew.heap[k]? = w.heap[k]? := h
theorem hl5_sets {α : Type} {d : Kd α} {e g : Nat} {w w1 : World} {base : Nat} {ok : Nat → Prop} {v : Value} {xs : List α} (h : d.R e w base (fun k => ok k ∧ k ≠ g) v xs) (hs : ∀ k, k ≠ g → w1.heap[k]? = w.heap[k]? := by repeat (first | (with_reducible exact fun _ _ => rfl) | (with_reducible apply hl5_step) | (with_reducible apply hl5_drewN) | (with_reducible apply hl5_drew))) : d.R e w1 base (fun k => ok k ∧ k ≠ g) v xs := Kd.R_step h (fun k hk _ => hs k hk.2)
open Bool renaming true → T, false → F
theorem q5_0 {p : Prop} (h : p := by repeat (first | (with_reducible first | exact HB.out | apply below_alloc | apply pw_below_drewN | apply below_drew1 | refine below_set ?_ bG.out | refine below_set ?_ kG.out | refine below_set ?_ aI.out | refine below_set ?_ fI.out | refine below_set ?_ sI.out | refine below_set ?_ yI.out) | exact HB.out)) : p := h
theorem q5_1 {p : Prop} (h : p := by (with_reducible repeat (first | refine blk_drewN ?_ _ | refine blk_drew ?_ | refine blk_alloc ?_ _)); exact qA.out) : p := h
theorem q5_2 {p : Prop} (h : p := by (with_reducible repeat (first | refine blk_drewN ?_ _ | refine blk_drew ?_ | refine blk_alloc ?_ _)); exact cA.out) : p := h
theorem q5_3 {p : Prop} (h : p := by (with_reducible repeat (first | refine blk_drewN ?_ _ | refine blk_drew ?_ | refine blk_alloc ?_ _)); exact lA.out) : p := h
theorem q5_4 {p : Prop} (h : p := by (with_reducible repeat (first | refine blk_drewN ?_ _ | refine blk_drew ?_ | refine blk_alloc ?_ _)); exact eA.out) : p := h
theorem q5_5 {p : Prop} (h : p := by repeat (first | (with_reducible first | exact HB.out | apply below_alloc | apply pw_below_drewN | apply below_drew1 | refine below_set ?_ bG.out | refine below_set ?_ kG.out | refine below_set ?_ aI.out | refine below_set ?_ fI.out | refine below_set ?_ sI.out) | exact HB.out)) : p := h
theorem q5_6 {p : Prop} (h : p := by (iterate 10 ((with_reducible repeat (first | refine blk_drewN ?_ _ | refine blk_drew ?_ | refine blk_alloc ?_ _)); refine blk_far ?_ zB.out _)); (with_reducible repeat (first | refine blk_drewN ?_ _ | refine blk_drew ?_ | refine blk_alloc ?_ _)); refine blk_put (cs := #[.slice none 0 0]) ?_ 0 _ rfl; (with_reducible repeat (first | refine blk_drewN ?_ _ | refine blk_drew ?_ | refine blk_alloc ?_ _)); exact lA.out) : p := h
theorem q5_7 {p : Prop} (h : p := by (try simp only [List.map_toArray, List.map_cons, List.map_nil]); first | done | rfl | (simp only [List.length_drop, List.length_take]; rfl)) : p := h
theorem q5_8 {p : Prop} (h : p := by (with_reducible repeat (first | refine blk_drewN ?_ _ | refine blk_drew ?_ | refine blk_alloc ?_ _)); refine blk_far ?_ KA.out _; (with_reducible repeat (first | refine blk_drewN ?_ _ | refine blk_drew ?_ | refine blk_alloc ?_ _)); exact qA.out) : p := h
theorem q5_9 {p : Prop} (h : p := by (with_reducible repeat (first | refine blk_drewN ?_ _ | refine blk_drew ?_ | refine blk_alloc ?_ _)); refine blk_far ?_ wA.out _; (with_reducible repeat (first | refine blk_drewN ?_ _ | refine blk_drew ?_ | refine blk_alloc ?_ _)); exact lA.out) : p := h
theorem q5_10 {p : Prop} (h : p := by (with_reducible repeat (first | refine blk_drewN ?_ _ | refine blk_drew ?_ | refine blk_alloc ?_ _)); refine blk_far ?_ xA.out _; (with_reducible repeat (first | refine blk_drewN ?_ _ | refine blk_drew ?_ | refine blk_alloc ?_ _)); exact eA.out) : p := h
theorem q5_11 {p : Prop} (h : p := by (with_reducible repeat (first | refine blk_drewN ?_ _ | refine blk_drew ?_ | refine blk_alloc ?_ _)); refine blk_far ?_ PA.out _; (with_reducible repeat (first | refine blk_drewN ?_ _ | refine blk_drew ?_ | refine blk_alloc ?_ _)); exact zA.out) : p := h
theorem q5_12 {p : Prop} (h : p := by (with_reducible repeat (first | refine blk_drewN ?_ _ | refine blk_drew ?_ | refine blk_alloc ?_ _)); refine blk_far ?_ QA.out _; (with_reducible repeat (first | refine blk_drewN ?_ _ | refine blk_drew ?_ | refine blk_alloc ?_ _)); exact GA.out) : p := h
theorem q5_13 {p : Prop} (h : p := by (with_reducible repeat (first | refine blk_drewN ?_ _ | refine blk_drew ?_ | refine blk_alloc ?_ _)); exact zA.out) : p := h
theorem q5_14 {p : Prop} (h : p := by (with_reducible repeat (first | refine blk_drewN ?_ _ | refine blk_drew ?_ | refine blk_alloc ?_ _)); exact GA.out) : p := h
theorem q5_15 {p : Prop} (h : p := by repeat (first | (with_reducible first | exact HB.out | apply below_alloc | apply pw_below_drewN | apply below_drew1 | refine below_set ?_ bG.out | refine below_set ?_ kG.out | refine below_set ?_ aI.out | refine below_set ?_ fI.out) | exact HB.out)) : p := h
theorem q5_16 {p : Prop} (h : p := by (with_reducible repeat (first | apply Kd.R_alloc | apply Kd.R_drewN | apply Kd.R_drew)); exact hA.out) : p := h
theorem q5_17 {p : Prop} (h : p := by (with_reducible repeat (first | refine blk_drewN ?_ _ | refine blk_drew ?_ | refine blk_alloc ?_ _)); refine blk_put (cs := #[.int .i64 kA, .int .i64 mA, .int .i64 nA, .int .i64 (wrap64 (jA + 1)), .int .i64 oA, .int .i64 sA, .int .i64 yA, .int .i64 pA, .int .i64 vA, .bool rA]) ?_ 6 _ rfl; (with_reducible repeat (first | refine blk_drewN ?_ _ | refine blk_drew ?_ | refine blk_alloc ?_ _)); refine blk_put (cs := #[.int .i64 kA, .int .i64 mA, .int .i64 nA, .int .i64 jA, .int .i64 oA, .int .i64 sA, .int .i64 yA, .int .i64 pA, .int .i64 vA, .bool rA]) ?_ 3 _ rfl; (with_reducible repeat (first | refine blk_drewN ?_ _ | refine blk_drew ?_ | refine blk_alloc ?_ _)); exact cA.out) : p := h
theorem q5_18 {p : Prop} (h : p := by rw [hg]; exact Nat.ne_of_lt (blk_lt (g := dA) (o := .cells #[.int .i64 kA, .int .i64 mA, .int .i64 nA, .int .i64 jA, .int .i64 oA, .int .i64 sA, .int .i64 yA, .int .i64 pA, .int .i64 vA, .bool rA] 23 (0, 0)) q5_2)) : p := h
theorem q5_19 {p : Prop} (h : p := by rw [hg]; exact Nat.ne_of_gt (blk_lt (g := dA) (o := .cells #[.int .i64 kA, .int .i64 mA, .int .i64 nA, .int .i64 jA, .int .i64 oA, .int .i64 sA, .int .i64 yA, .int .i64 pA, .int .i64 vA, .bool rA] 23 (0, 0)) q5_2)) : p := h
theorem q5_20 {p : Prop} (h : p := by (with_reducible repeat (first | refine blk_drewN ?_ _ | refine blk_drew ?_ | refine blk_alloc ?_ _)); refine blk_put (cs := #[.slice none 0 0]) ?_ 0 _ rfl; (with_reducible repeat (first | refine blk_drewN ?_ _ | refine blk_drew ?_ | refine blk_alloc ?_ _)); exact GA.out) : p := h
theorem q5_21 {p : Prop} (h : p := by (iterate 2 ((with_reducible repeat (first | refine blk_drewN ?_ _ | refine blk_drew ?_ | refine blk_alloc ?_ _)); refine blk_far ?_ KA.out _)); (with_reducible repeat (first | refine blk_drewN ?_ _ | refine blk_drew ?_ | refine blk_alloc ?_ _)); exact qA.out) : p := h
theorem q5_22 {p : Prop} (h : p := by (iterate 2 ((with_reducible repeat (first | refine blk_drewN ?_ _ | refine blk_drew ?_ | refine blk_alloc ?_ _)); refine blk_far ?_ wA.out _)); (with_reducible repeat (first | refine blk_drewN ?_ _ | refine blk_drew ?_ | refine blk_alloc ?_ _)); exact lA.out) : p := h
theorem q5_23 {p : Prop} (h : p := by (iterate 2 ((with_reducible repeat (first | refine blk_drewN ?_ _ | refine blk_drew ?_ | refine blk_alloc ?_ _)); refine blk_far ?_ xA.out _)); (with_reducible repeat (first | refine blk_drewN ?_ _ | refine blk_drew ?_ | refine blk_alloc ?_ _)); exact eA.out) : p := h
theorem q5_24 {p : Prop} (h : p := by (iterate 2 ((with_reducible repeat (first | refine blk_drewN ?_ _ | refine blk_drew ?_ | refine blk_alloc ?_ _)); refine blk_far ?_ PA.out _)); (with_reducible repeat (first | refine blk_drewN ?_ _ | refine blk_drew ?_ | refine blk_alloc ?_ _)); exact zA.out) : p := h
theorem q5_25 {p : Prop} (h : p := by (iterate 2 ((with_reducible repeat (first | refine blk_drewN ?_ _ | refine blk_drew ?_ | refine blk_alloc ?_ _)); refine blk_far ?_ QA.out _)); (with_reducible repeat (first | refine blk_drewN ?_ _ | refine blk_drew ?_ | refine blk_alloc ?_ _)); exact GA.out) : p := h
theorem q5_26 {p : Prop} (h : p := by (with_reducible repeat (first | apply Kd.R_alloc | apply Kd.R_drewN | apply Kd.R_drew)); exact Kd.R_mono (Kd.R_far (p := ⟨ZA, 0, none⟩) (Kd.R_types lG.out GA.out (by decide)) (fun _ hk => hk.2) (.slice lB cB.length mB)) (fun _ hk => trivial)) : p := h
theorem q5_27 {p : Prop} (h : p := by (with_reducible repeat (first | refine blk_drewN ?_ _ | refine blk_drew ?_ | refine blk_alloc ?_ _)); refine blk_far ?_ ZE.out _; (with_reducible repeat (first | refine blk_drewN ?_ _ | refine blk_drew ?_ | refine blk_alloc ?_ _)); exact qA.out) : p := h
theorem q5_28 {p : Prop} (h : p := by (with_reducible repeat (first | refine blk_drewN ?_ _ | refine blk_drew ?_ | refine blk_alloc ?_ _)); refine blk_far ?_ TA.out _; (with_reducible repeat (first | refine blk_drewN ?_ _ | refine blk_drew ?_ | refine blk_alloc ?_ _)); exact cA.out) : p := h
theorem q5_29 {p : Prop} (h : p := by (with_reducible repeat (first | refine blk_drewN ?_ _ | refine blk_drew ?_ | refine blk_alloc ?_ _)); refine blk_far ?_ nB.out _; (with_reducible repeat (first | refine blk_drewN ?_ _ | refine blk_drew ?_ | refine blk_alloc ?_ _)); exact lA.out) : p := h
theorem q5_30 {p : Prop} (h : p := by (with_reducible repeat (first | refine blk_drewN ?_ _ | refine blk_drew ?_ | refine blk_alloc ?_ _)); refine blk_far ?_ oB.out _; (with_reducible repeat (first | refine blk_drewN ?_ _ | refine blk_drew ?_ | refine blk_alloc ?_ _)); exact eA.out) : p := h
theorem q5_31 {p : Prop} (h : p := by (with_reducible repeat (first | refine blk_drewN ?_ _ | refine blk_drew ?_ | refine blk_alloc ?_ _)); refine blk_far ?_ cG.out _; (with_reducible repeat (first | refine blk_drewN ?_ _ | refine blk_drew ?_ | refine blk_alloc ?_ _)); exact zA.out) : p := h
theorem q5_32 {p : Prop} (h : p := by repeat (first | (with_reducible first | exact HB.out | apply below_alloc | apply pw_below_drewN | apply below_drew1 | refine below_set ?_ bG.out | refine below_set ?_ kG.out | refine below_set ?_ aI.out) | exact HB.out)) : p := h
theorem q5_33 {p : Prop} (h : p := by rw [hg]; exact Nat.ne_of_lt (blk_lt (g := SA) (o := .cells #[.slice xB fB.length yB] 29 (0, 0)) q5_1)) : p := h
theorem q5_34 {p : Prop} (h : p := by rw [hg]; exact Nat.ne_of_gt (blk_lt (g := SA) (o := .cells #[.slice xB fB.length yB] 29 (0, 0)) q5_1)) : p := h
theorem q5_35 {p : Prop} (h : p := by (with_reducible repeat (first | refine blk_drewN ?_ _ | refine blk_drew ?_ | refine blk_alloc ?_ _)); refine blk_put (cs := #[.int .i64 kA, .int .i64 mA, .int .i64 nA, .int .i64 jA, .int .i64 oA, .int .i64 sA, .int .i64 yA, .int .i64 pA, .int .i64 vA, .bool rA]) ?_ 3 _ rfl; (with_reducible repeat (first | refine blk_drewN ?_ _ | refine blk_drew ?_ | refine blk_alloc ?_ _)); exact cA.out) : p := h
theorem q5_36 {p : Prop} (h : p := by repeat (first | (with_reducible first | exact HB.out | apply below_alloc | apply pw_below_drewN | apply below_drew1 | refine below_set ?_ bG.out | refine below_set ?_ kG.out) | exact HB.out)) : p := h
theorem q5_37 {p : Prop} (h : p := by (with_reducible repeat (first | apply Kd.R_alloc | apply Kd.R_drewN | apply Kd.R_drew)); exact Kd.R_mono (hl5_sets (Kd.R_types hA.out cA.out (by decide))) (fun _ hk => trivial)) : p := h
theorem q5_38 {p : Prop} (h : p := by first | rfl | (simp; done) | (simp [*]; done)) : p := h
theorem q5_39 {p : Prop} (h : p := by kernel_rfl) : p := h
theorem q5_40 {p : Prop} (h : p := by repeat (first | (with_reducible first | exact HB.out | apply below_alloc | apply pw_below_drewN | apply below_drew1 | refine below_set ?_ bG.out) | exact HB.out)) : p := h
theorem q5_41 {p : Prop} (h : p := by first | rfl | (simp [errW_none, errW_some] <;> rfl) | (simp [*, errW_none, errW_some] <;> rfl)) : p := h
theorem q5_42 {p : Prop} (h : p := by (with_reducible repeat (first | apply Kd.R_alloc | apply Kd.R_drewN | apply Kd.R_drew)); exact Kd.R_mono (Kd.R_far (p := ⟨dA, 3, none⟩) (Kd.R_types hA.out cA.out (by decide)) (fun _ hk => hk.2) (.int .i64 (wrap64 (jA + 1)))) (fun _ hk => trivial)) : p := h
theorem q5_43 {p : Prop} (h : p := by have := HJ5.out; have := HJ98.out; have := HJ121.out; first | omega | exact Nat.le_refl _) : p := h
theorem q5_44 {p : Prop} (h : p := by repeat (first | (with_reducible first | exact HB.out | apply below_alloc | apply pw_below_drewN | apply below_drew1) | exact HB.out)) : p := h
theorem q5_45 {p : Prop} (h : p := by rw [hg]; exact Nat.ne_of_lt (blk_lt (g := bA) (o := .cells #[.int .i64 0, .int .i64 0, .int .i64 0, .int .i64 0, .int .i64 0, .int .i64 0, .int .i64 0, .int .i64 0, .int .i64 0, .bool false] 23 (0, 0)) q5_4)) : p := h
theorem q5_46 {p : Prop} (h : p := by rw [hg]; exact Nat.ne_of_gt (blk_lt (g := bA) (o := .cells #[.int .i64 0, .int .i64 0, .int .i64 0, .int .i64 0, .int .i64 0, .int .i64 0, .int .i64 0, .int .i64 0, .int .i64 0, .bool false] 23 (0, 0)) q5_4)) : p := h
theorem q5_47 {p : Prop} (h : p := by have := HJ5.out; have := HJ98.out; first | omega | exact Nat.le_refl _) : p := h
/-! ### spec_StStep: function 28 -/
mutual
def spec_StStep.j0 : Nat → Int → Bool → Int → Int → Int → Int → Int → Int → Int → Int → Int → Bool → List Int → Option (List Int × Int × Int × Int × Int × Int × Int × Int × Int × Int × Bool × Bool)
 | 0, _, _, _, _, _, _, _, _, _, _, _, _, _ => none
 | k + 1, x12, x43, tA, AA, BA, uA, CA, LA, MA, DA, IA, EA, JA => if x43 = true then (some (([] : List Int), 0, 0, 0, 0, 0, 0, 0, 0, 0, false, false)) else (if uA = 0 then ((spec_l03Head.f x12).bind fun BC => ((spec_l03Word.f BC).bind fun zI => (if tA = 2 then (spec_StStep.j1 k (zI.2 == 0) tA AA BA (wrap64 (uA + 1)) CA LA BC DA IA EA JA) else (spec_StStep.j1 k false tA AA BA (wrap64 (uA + 1)) CA LA BC DA IA EA JA)))) else (if uA = 1 then (spec_StStep.j2 k x12 uA (tA == 2) tA AA BA (wrap64 (uA + 1)) CA LA MA DA IA EA JA) else (spec_StStep.j2 k x12 uA false tA AA BA (wrap64 (uA + 1)) CA LA MA DA IA EA JA)))
def spec_StStep.j5 : Nat → Int → Int → Int → Int → Int → Int → Int → Int → Int → Bool → List Int → Option (List Int × Int × Int × Int × Int × Int × Int × Int × Int × Int × Bool × Bool)
 | 0, _, _, _, _, _, _, _, _, _, _, _ => none
 | k + 1, tA, AA, BA, uA, CA, LA, MA, DA, IA, EA, JA => some (JA, tA, AA, BA, uA, CA, LA, MA, DA, IA, EA, true)
def spec_StStep.j1 : Nat → Bool → Int → Int → Int → Int → Int → Int → Int → Int → Int → Bool → List Int → Option (List Int × Int × Int × Int × Int × Int × Int × Int × Int × Int × Bool × Bool)
 | 0, _, _, _, _, _, _, _, _, _, _, _, _ => none
 | k + 1, x69, tA, AA, BA, uA, CA, LA, MA, DA, IA, EA, JA => if x69 = true then ((spec_l03End.f tA AA BA uA CA LA MA DA IA EA 2).bind fun xC => (some (JA, xC.1, xC.2.1, xC.2.2.1, xC.2.2.2.1, xC.2.2.2.2.1, xC.2.2.2.2.2.1, xC.2.2.2.2.2.2.1, xC.2.2.2.2.2.2.2.1, xC.2.2.2.2.2.2.2.2.1, xC.2.2.2.2.2.2.2.2.2, true))) else (spec_StStep.j5 k tA AA BA uA CA LA MA DA IA EA JA)
def spec_StStep.j2 : Nat → Int → Int → Bool → Int → Int → Int → Int → Int → Int → Int → Int → Int → Bool → List Int → Option (List Int × Int × Int × Int × Int × Int × Int × Int × Int × Int × Bool × Bool)
 | 0, _, _, _, _, _, _, _, _, _, _, _, _, _, _ => none
 | k + 1, x12, x14, x73, tA, AA, BA, uA, CA, LA, MA, DA, IA, EA, JA => if x73 = true then ((spec_l01In.f x12 0 1048575).bind fun vI => (if vI = true then (spec_StStep.j5 k tA AA BA uA CA x12 MA DA IA EA JA) else (spec_StStep.j5 k tA AA BA uA CA 0 MA DA IA EA JA))) else (if x14 = 2 then (spec_StStep.j3 k x14 (x12 == 0) tA AA BA uA CA LA MA DA IA EA JA) else (spec_StStep.j3 k x14 false tA AA BA uA CA LA MA DA IA EA JA))
def spec_StStep.j3 : Nat → Int → Bool → Int → Int → Int → Int → Int → Int → Int → Int → Int → Bool → List Int → Option (List Int × Int × Int × Int × Int × Int × Int × Int × Int × Int × Bool × Bool)
 | 0, _, _, _, _, _, _, _, _, _, _, _, _, _ => none
 | k + 1, x14, x87, tA, AA, BA, uA, CA, LA, MA, DA, IA, EA, JA => if x87 = true then (spec_StStep.j5 k tA AA BA 0 CA LA MA DA IA EA JA) else (if x14 = 2 then (if tA = 2 then ((spec_l03Place.f tA AA BA uA CA LA MA DA IA EA).bind fun gI => (spec_StStep.j4 k tA AA BA uA CA LA MA DA gI EA JA)) else (spec_StStep.j4 k tA AA BA uA CA LA MA DA IA EA JA)) else (spec_StStep.j5 k tA AA BA uA CA LA MA DA IA EA JA))
def spec_StStep.j4 : Nat → Int → Int → Int → Int → Int → Int → Int → Int → Int → Bool → List Int → Option (List Int × Int × Int × Int × Int × Int × Int × Int × Int × Int × Bool × Bool)
 | 0, _, _, _, _, _, _, _, _, _, _, _ => none
 | k + 1, tA, AA, BA, uA, CA, LA, MA, DA, IA, EA, JA => (spec_l03End.f tA AA BA uA CA LA MA DA IA EA 1).bind fun yC => (some (JA, yC.1, yC.2.1, yC.2.2.1, yC.2.2.2.1, yC.2.2.2.2.1, yC.2.2.2.2.2.1, yC.2.2.2.2.2.2.1, yC.2.2.2.2.2.2.2.1, yC.2.2.2.2.2.2.2.2.1, yC.2.2.2.2.2.2.2.2.2, true))
end
def spec_StStep.f (k : Nat) (a0 : Int) (fB : List Int) (kA : Int) (mA : Int) (nA : Int) (jA : Int) (oA : Int) (sA : Int) (yA : Int) (pA : Int) (vA : Int) (rA : Bool) : Option (List Int × Int × Int × Int × Int × Int × Int × Int × Int × Int × Bool × Bool) := (spec_StAct.f k a0 kA mA nA jA oA sA yA pA vA rA).bind fun JB => ((spec_Do.f fB JB.1 JB.2.1 JB.2.2.1 JB.2.2.2.1).bind fun vB => (if JB.2.2.2.2 = true then (if vB.2.2 = true then (spec_StStep.j0 k vB.2.1 ((fB.length : Int) != (wrap64 (1 + a0))) kA mA nA jA oA sA yA pA vA rA vB.1) else (spec_StStep.j0 k vB.2.1 true kA mA nA jA oA sA yA pA vA rA vB.1)) else (spec_StStep.j0 k vB.2.1 true kA mA nA jA oA sA yA pA vA rA vB.1)))
theorem spec_StStep.mono_l : ∀ k, (∀ y0 y1 y2 y3 y4 y5 y6 y7 y8 y9 y10 y11 y12, LeO (spec_StStep.j0 k y0 y1 y2 y3 y4 y5 y6 y7 y8 y9 y10 y11 y12) (spec_StStep.j0 (k + 1) y0 y1 y2 y3 y4 y5 y6 y7 y8 y9 y10 y11 y12)) ∧ (∀ y0 y1 y2 y3 y4 y5 y6 y7 y8 y9 y10, LeO (spec_StStep.j5 k y0 y1 y2 y3 y4 y5 y6 y7 y8 y9 y10) (spec_StStep.j5 (k + 1) y0 y1 y2 y3 y4 y5 y6 y7 y8 y9 y10)) ∧ (∀ y0 y1 y2 y3 y4 y5 y6 y7 y8 y9 y10 y11, LeO (spec_StStep.j1 k y0 y1 y2 y3 y4 y5 y6 y7 y8 y9 y10 y11) (spec_StStep.j1 (k + 1) y0 y1 y2 y3 y4 y5 y6 y7 y8 y9 y10 y11)) ∧ (∀ y0 y1 y2 y3 y4 y5 y6 y7 y8 y9 y10 y11 y12 y13, LeO (spec_StStep.j2 k y0 y1 y2 y3 y4 y5 y6 y7 y8 y9 y10 y11 y12 y13) (spec_StStep.j2 (k + 1) y0 y1 y2 y3 y4 y5 y6 y7 y8 y9 y10 y11 y12 y13)) ∧ (∀ y0 y1 y2 y3 y4 y5 y6 y7 y8 y9 y10 y11 y12, LeO (spec_StStep.j3 k y0 y1 y2 y3 y4 y5 y6 y7 y8 y9 y10 y11 y12) (spec_StStep.j3 (k + 1) y0 y1 y2 y3 y4 y5 y6 y7 y8 y9 y10 y11 y12)) ∧ (∀ y0 y1 y2 y3 y4 y5 y6 y7 y8 y9 y10, LeO (spec_StStep.j4 k y0 y1 y2 y3 y4 y5 y6 y7 y8 y9 y10) (spec_StStep.j4 (k + 1) y0 y1 y2 y3 y4 y5 y6 y7 y8 y9 y10))
 | 0 => ⟨fun _ _ _ _ _ _ _ _ _ _ _ _ _ r h => by simp [spec_StStep.j0] at h, fun _ _ _ _ _ _ _ _ _ _ _ r h => by simp [spec_StStep.j5] at h, fun _ _ _ _ _ _ _ _ _ _ _ _ r h => by simp [spec_StStep.j1] at h, fun _ _ _ _ _ _ _ _ _ _ _ _ _ _ r h => by simp [spec_StStep.j2] at h, fun _ _ _ _ _ _ _ _ _ _ _ _ _ r h => by simp [spec_StStep.j3] at h, fun _ _ _ _ _ _ _ _ _ _ _ r h => by simp [spec_StStep.j4] at h⟩
 | k + 1 => by
  obtain ⟨ih0, ih1, ih2, ih3, ih4, ih5⟩ := spec_StStep.mono_l k
  refine ⟨?_, ?_, ?_, ?_, ?_, ?_⟩
  ·intro y0 y1 y2 y3 y4 y5 y6 y7 y8 y9 y10 y11 y12
   unfold spec_StStep.j0
   repeat' first
   | (with_reducible exact ih0 _ _ _ _ _ _ _ _ _ _ _ _ _)
   | (with_reducible exact ih1 _ _ _ _ _ _ _ _ _ _ _)
   | (with_reducible exact ih2 _ _ _ _ _ _ _ _ _ _ _ _)
   | (with_reducible exact ih3 _ _ _ _ _ _ _ _ _ _ _ _ _ _)
   | (with_reducible exact ih4 _ _ _ _ _ _ _ _ _ _ _ _ _)
   | (with_reducible exact ih5 _ _ _ _ _ _ _ _ _ _ _)
   | (with_reducible exact spec_StAct.mono _ _ _ _ _ _ _ _ _ _ _ _)
   | (with_reducible exact LeO.refl _)
   | (with_reducible exact LeO.none _)
   | (with_reducible refine LeO.ite ?_ ?_)
   | (with_reducible refine LeO.bind ?_ (fun _ => ?_))
   | exact ih0 _ _ _ _ _ _ _ _ _ _ _ _ _
   | exact ih1 _ _ _ _ _ _ _ _ _ _ _
   | exact ih2 _ _ _ _ _ _ _ _ _ _ _ _
   | exact ih3 _ _ _ _ _ _ _ _ _ _ _ _ _ _
   | exact ih4 _ _ _ _ _ _ _ _ _ _ _ _ _
   | exact ih5 _ _ _ _ _ _ _ _ _ _ _
   | exact spec_StAct.mono _ _ _ _ _ _ _ _ _ _ _ _
   | exact LeO.none _
   | refine LeO.ite ?_ ?_
   | refine LeO.bind ?_ (fun _ => ?_)
  ·intro y0 y1 y2 y3 y4 y5 y6 y7 y8 y9 y10
   unfold spec_StStep.j5
   repeat' first
   | (with_reducible exact ih0 _ _ _ _ _ _ _ _ _ _ _ _ _)
   | (with_reducible exact ih1 _ _ _ _ _ _ _ _ _ _ _)
   | (with_reducible exact ih2 _ _ _ _ _ _ _ _ _ _ _ _)
   | (with_reducible exact ih3 _ _ _ _ _ _ _ _ _ _ _ _ _ _)
   | (with_reducible exact ih4 _ _ _ _ _ _ _ _ _ _ _ _ _)
   | (with_reducible exact ih5 _ _ _ _ _ _ _ _ _ _ _)
   | (with_reducible exact spec_StAct.mono _ _ _ _ _ _ _ _ _ _ _ _)
   | (with_reducible exact LeO.refl _)
   | (with_reducible exact LeO.none _)
   | (with_reducible refine LeO.ite ?_ ?_)
   | (with_reducible refine LeO.bind ?_ (fun _ => ?_))
   | exact ih0 _ _ _ _ _ _ _ _ _ _ _ _ _
   | exact ih1 _ _ _ _ _ _ _ _ _ _ _
   | exact ih2 _ _ _ _ _ _ _ _ _ _ _ _
   | exact ih3 _ _ _ _ _ _ _ _ _ _ _ _ _ _
   | exact ih4 _ _ _ _ _ _ _ _ _ _ _ _ _
   | exact ih5 _ _ _ _ _ _ _ _ _ _ _
   | exact spec_StAct.mono _ _ _ _ _ _ _ _ _ _ _ _
   | exact LeO.none _
   | refine LeO.ite ?_ ?_
   | refine LeO.bind ?_ (fun _ => ?_)
  ·intro y0 y1 y2 y3 y4 y5 y6 y7 y8 y9 y10 y11
   unfold spec_StStep.j1
   repeat' first
   | (with_reducible exact ih0 _ _ _ _ _ _ _ _ _ _ _ _ _)
   | (with_reducible exact ih1 _ _ _ _ _ _ _ _ _ _ _)
   | (with_reducible exact ih2 _ _ _ _ _ _ _ _ _ _ _ _)
   | (with_reducible exact ih3 _ _ _ _ _ _ _ _ _ _ _ _ _ _)
   | (with_reducible exact ih4 _ _ _ _ _ _ _ _ _ _ _ _ _)
   | (with_reducible exact ih5 _ _ _ _ _ _ _ _ _ _ _)
   | (with_reducible exact spec_StAct.mono _ _ _ _ _ _ _ _ _ _ _ _)
   | (with_reducible exact LeO.refl _)
   | (with_reducible exact LeO.none _)
   | (with_reducible refine LeO.ite ?_ ?_)
   | (with_reducible refine LeO.bind ?_ (fun _ => ?_))
   | exact ih0 _ _ _ _ _ _ _ _ _ _ _ _ _
   | exact ih1 _ _ _ _ _ _ _ _ _ _ _
   | exact ih2 _ _ _ _ _ _ _ _ _ _ _ _
   | exact ih3 _ _ _ _ _ _ _ _ _ _ _ _ _ _
   | exact ih4 _ _ _ _ _ _ _ _ _ _ _ _ _
   | exact ih5 _ _ _ _ _ _ _ _ _ _ _
   | exact spec_StAct.mono _ _ _ _ _ _ _ _ _ _ _ _
   | exact LeO.none _
   | refine LeO.ite ?_ ?_
   | refine LeO.bind ?_ (fun _ => ?_)
  ·intro y0 y1 y2 y3 y4 y5 y6 y7 y8 y9 y10 y11 y12 y13
   unfold spec_StStep.j2
   repeat' first
   | (with_reducible exact ih0 _ _ _ _ _ _ _ _ _ _ _ _ _)
   | (with_reducible exact ih1 _ _ _ _ _ _ _ _ _ _ _)
   | (with_reducible exact ih2 _ _ _ _ _ _ _ _ _ _ _ _)
   | (with_reducible exact ih3 _ _ _ _ _ _ _ _ _ _ _ _ _ _)
   | (with_reducible exact ih4 _ _ _ _ _ _ _ _ _ _ _ _ _)
   | (with_reducible exact ih5 _ _ _ _ _ _ _ _ _ _ _)
   | (with_reducible exact spec_StAct.mono _ _ _ _ _ _ _ _ _ _ _ _)
   | (with_reducible exact LeO.refl _)
   | (with_reducible exact LeO.none _)
   | (with_reducible refine LeO.ite ?_ ?_)
   | (with_reducible refine LeO.bind ?_ (fun _ => ?_))
   | exact ih0 _ _ _ _ _ _ _ _ _ _ _ _ _
   | exact ih1 _ _ _ _ _ _ _ _ _ _ _
   | exact ih2 _ _ _ _ _ _ _ _ _ _ _ _
   | exact ih3 _ _ _ _ _ _ _ _ _ _ _ _ _ _
   | exact ih4 _ _ _ _ _ _ _ _ _ _ _ _ _
   | exact ih5 _ _ _ _ _ _ _ _ _ _ _
   | exact spec_StAct.mono _ _ _ _ _ _ _ _ _ _ _ _
   | exact LeO.none _
   | refine LeO.ite ?_ ?_
   | refine LeO.bind ?_ (fun _ => ?_)
  ·intro y0 y1 y2 y3 y4 y5 y6 y7 y8 y9 y10 y11 y12
   unfold spec_StStep.j3
   repeat' first
   | (with_reducible exact ih0 _ _ _ _ _ _ _ _ _ _ _ _ _)
   | (with_reducible exact ih1 _ _ _ _ _ _ _ _ _ _ _)
   | (with_reducible exact ih2 _ _ _ _ _ _ _ _ _ _ _ _)
   | (with_reducible exact ih3 _ _ _ _ _ _ _ _ _ _ _ _ _ _)
   | (with_reducible exact ih4 _ _ _ _ _ _ _ _ _ _ _ _ _)
   | (with_reducible exact ih5 _ _ _ _ _ _ _ _ _ _ _)
   | (with_reducible exact spec_StAct.mono _ _ _ _ _ _ _ _ _ _ _ _)
   | (with_reducible exact LeO.refl _)
   | (with_reducible exact LeO.none _)
   | (with_reducible refine LeO.ite ?_ ?_)
   | (with_reducible refine LeO.bind ?_ (fun _ => ?_))
   | exact ih0 _ _ _ _ _ _ _ _ _ _ _ _ _
   | exact ih1 _ _ _ _ _ _ _ _ _ _ _
   | exact ih2 _ _ _ _ _ _ _ _ _ _ _ _
   | exact ih3 _ _ _ _ _ _ _ _ _ _ _ _ _ _
   | exact ih4 _ _ _ _ _ _ _ _ _ _ _ _ _
   | exact ih5 _ _ _ _ _ _ _ _ _ _ _
   | exact spec_StAct.mono _ _ _ _ _ _ _ _ _ _ _ _
   | exact LeO.none _
   | refine LeO.ite ?_ ?_
   | refine LeO.bind ?_ (fun _ => ?_)
  ·intro y0 y1 y2 y3 y4 y5 y6 y7 y8 y9 y10
   unfold spec_StStep.j4
   repeat' first
   | (with_reducible exact ih0 _ _ _ _ _ _ _ _ _ _ _ _ _)
   | (with_reducible exact ih1 _ _ _ _ _ _ _ _ _ _ _)
   | (with_reducible exact ih2 _ _ _ _ _ _ _ _ _ _ _ _)
   | (with_reducible exact ih3 _ _ _ _ _ _ _ _ _ _ _ _ _ _)
   | (with_reducible exact ih4 _ _ _ _ _ _ _ _ _ _ _ _ _)
   | (with_reducible exact ih5 _ _ _ _ _ _ _ _ _ _ _)
   | (with_reducible exact spec_StAct.mono _ _ _ _ _ _ _ _ _ _ _ _)
   | (with_reducible exact LeO.refl _)
   | (with_reducible exact LeO.none _)
   | (with_reducible refine LeO.ite ?_ ?_)
   | (with_reducible refine LeO.bind ?_ (fun _ => ?_))
   | exact ih0 _ _ _ _ _ _ _ _ _ _ _ _ _
   | exact ih1 _ _ _ _ _ _ _ _ _ _ _
   | exact ih2 _ _ _ _ _ _ _ _ _ _ _ _
   | exact ih3 _ _ _ _ _ _ _ _ _ _ _ _ _ _
   | exact ih4 _ _ _ _ _ _ _ _ _ _ _ _ _
   | exact ih5 _ _ _ _ _ _ _ _ _ _ _
   | exact spec_StAct.mono _ _ _ _ _ _ _ _ _ _ _ _
   | exact LeO.none _
   | refine LeO.ite ?_ ?_
   | refine LeO.bind ?_ (fun _ => ?_)
theorem spec_StStep.mono : ∀ a0 a1 a2 a3 a4 a5 a6 a7 a8 a9 a10 a11 k, LeO (spec_StStep.f k a0 a1 a2 a3 a4 a5 a6 a7 a8 a9 a10 a11) (spec_StStep.f (k + 1) a0 a1 a2 a3 a4 a5 a6 a7 a8 a9 a10 a11) := by
 intro a0 a1 a2 a3 a4 a5 a6 a7 a8 a9 a10 a11 k
 obtain ⟨ih0, ih1, ih2, ih3, ih4, ih5⟩ := spec_StStep.mono_l k
 unfold spec_StStep.f
 repeat' first
   | (with_reducible exact ih0 _ _ _ _ _ _ _ _ _ _ _ _ _)
   | (with_reducible exact ih1 _ _ _ _ _ _ _ _ _ _ _)
   | (with_reducible exact ih2 _ _ _ _ _ _ _ _ _ _ _ _)
   | (with_reducible exact ih3 _ _ _ _ _ _ _ _ _ _ _ _ _ _)
   | (with_reducible exact ih4 _ _ _ _ _ _ _ _ _ _ _ _ _)
   | (with_reducible exact ih5 _ _ _ _ _ _ _ _ _ _ _)
   | (with_reducible exact spec_StAct.mono _ _ _ _ _ _ _ _ _ _ _ _)
   | (with_reducible exact LeO.refl _)
   | (with_reducible exact LeO.none _)
   | (with_reducible refine LeO.ite ?_ ?_)
   | (with_reducible refine LeO.bind ?_ (fun _ => ?_))
   | exact ih0 _ _ _ _ _ _ _ _ _ _ _ _ _
   | exact ih1 _ _ _ _ _ _ _ _ _ _ _
   | exact ih2 _ _ _ _ _ _ _ _ _ _ _ _
   | exact ih3 _ _ _ _ _ _ _ _ _ _ _ _ _ _
   | exact ih4 _ _ _ _ _ _ _ _ _ _ _ _ _
   | exact ih5 _ _ _ _ _ _ _ _ _ _ _
   | exact spec_StAct.mono _ _ _ _ _ _ _ _ _ _ _ _
   | exact LeO.none _
   | refine LeO.ite ?_ ?_
   | refine LeO.bind ?_ (fun _ => ?_)
set_option maxHeartbeats 8000000 in
set_option maxRecDepth 100000 in
theorem spec_StStep.calls (k : Nat) (a0 : Int) (xB : Option Addr) (yB : Nat) (fB : List Int) (kA : Int) (mA : Int) (nA : Int) (jA : Int) (oA : Int) (sA : Int) (yA : Int) (pA : Int) (vA : Int) (rA : Bool) (r1 : List Int) (r2 : Int) (r3 : Int) (r4 : Int) (r5 : Int) (r6 : Int) (r7 : Int) (r8 : Int) (r9 : Int) (r10 : Int) (r11 : Bool) (r12 : Bool) (w : World) (tI : Kd.C (Kd.int .i64) w xB fB.length fB) (uI : fB.length ≤ yB) (h : spec_StStep.f k a0 fB kA mA nA jA oA sA yA pA vA rA = some (r1, r2, r3, r4, r5, r6, r7, r8, r9, r10, r11, r12)) :
  Calls Try.prog 28 #[.int .i64 a0, .agg #[.slice xB fB.length yB], .agg #[.int .i64 kA, .int .i64 mA, .int .i64 nA, .int .i64 jA, .int .i64 oA, .int .i64 sA, .int .i64 yA, .int .i64 pA, .int .i64 vA, .bool rA]] w fun e w' => ∃ v0_ : Value, e = .returned (.tuple #[.agg #[v0_], .agg #[.int .i64 r2, .int .i64 r3, .int .i64 r4, .int .i64 r5, .int .i64 r6, .int .i64 r7, .int .i64 r8, .int .i64 r9, .int .i64 r10, .bool r11], .bool r12]) ∧ Kd.R (Kd.int .i64) 3 w' w.heap.size (fun _ => True) v0_ r1 ∧ Below w.heap.size w w' := by
 have hu29 := Try.underlying29
 have hu23 := Try.underlying23
 have hu37 := Try.underlying37
 have AI := Aside0.mk tI
 have BI := Aside0.mk uI
 clear tI uI
 have HB := Aside0.mk (Below.refl w.heap.size w)
 have H : ((spec_StAct.f k a0 kA mA nA jA oA sA yA pA vA rA).bind fun JB => ((spec_Do.f fB JB.1 JB.2.1 JB.2.2.1 JB.2.2.2.1).bind fun vB => (if JB.2.2.2.2 = true then (if vB.2.2 = true then (spec_StStep.j0 k vB.2.1 ((fB.length : Int) != (wrap64 (1 + a0))) kA mA nA jA oA sA yA pA vA rA vB.1) else (spec_StStep.j0 k vB.2.1 true kA mA nA jA oA sA yA pA vA rA vB.1)) else (spec_StStep.j0 k vB.2.1 true kA mA nA jA oA sA yA pA vA rA vB.1)))) = some (r1, r2, r3, r4, r5, r6, r7, r8, r9, r10, r11, r12) := h
 clear h
 replace H := Option.bind_eq_some_iff.mp H
 obtain ⟨⟨KB, wC, zC, CC, CI⟩, A40, H⟩ := H
 (try dsimp only at H)
 have A4 := Aside0.mk A40
 clear A40
 replace H := Option.bind_eq_some_iff.mp H
 obtain ⟨⟨cB, aF, DI⟩, A50, H⟩ := H
 (try dsimp only at H)
 have A5 := Aside0.mk A50
 clear A50
 have HC6 := Aside0.mk H
 clear H
 go_enter Try.func28, Try.ntmps28
 go_upto_region 3 with (first | ((with_reducible refine gate_dst (N := 4) rfl ?_); (try (refine gate_guard (by rfl) ?_; dsimp only)); refine box_event ?hg (N := 4) ?hd (cs := #[.slice xB fB.length yB]) (t := 29) ?hr ?_; (case hd => rfl); (case hg => rfl); (case hr => first | (go_simp; done) | (go_simp; rfl)); intro SA hg w7 hbox hb; have AB := Aside0.mk (below_step q5_44 hb); have LB := Aside0.mk (hbox); have BB := Aside0.mk ((by rw [hg]; exact (below_size q5_44) : w.heap.size ≤ SA)); have CB := Aside0.mk ((by rw [hg]; exact (below_size q5_44) : w.heap.size ≤ SA)); clear HB; have HB := AB; have qA := LB; have uL := BB; have bG := CB; clear AB LB BB CB; clear hb hbox hg) | ((with_reducible refine gate_dst (N := 5) rfl ?_); (try (refine gate_guard (by rfl) ?_; dsimp only)); refine box_event ?hg (N := 5) ?hd (cs := #[.int .i64 kA, .int .i64 mA, .int .i64 nA, .int .i64 jA, .int .i64 oA, .int .i64 sA, .int .i64 yA, .int .i64 pA, .int .i64 vA, .bool rA]) (t := 23) ?hr ?_; (case hd => rfl); (case hg => rfl); (case hr => first | (go_simp; done) | (go_simp; rfl)); intro dA hg w8 hbox hb; have AB := Aside0.mk (blk_below (g := SA) (o := .cells #[.slice xB fB.length yB] 29 (0, 0)) q5_1 hb); have LB := Aside0.mk (below_step q5_40 hb); have BB := Aside0.mk (hbox); have CB := Aside0.mk ((by rw [hg]; exact (below_size q5_40) : w.heap.size ≤ dA)); have IB := Aside0.mk ((by rw [hg]; exact (below_size q5_40) : w.heap.size ≤ dA)); have DC := Aside0.mk ((q5_33 : SA ≠ dA)); have MB := Aside0.mk ((q5_34 : dA ≠ SA)); clear qA HB; have qA := AB; have HB := LB; have cA := BB; have vL := CB; have kG := IB; have KA := DC; have UA := MB; clear AB LB BB CB IB DC MB; clear hb hbox hg) | ((with_reducible refine gate_dst (N := 6) rfl ?_); (try (refine gate_guard (by rfl) ?_; dsimp only)); refine box_event ?hg (N := 6) ?hd (cs := #[.slice none 0 0]) (t := 29) ?hr ?_; (case hd => rfl); (case hg => rfl); (case hr => first | (go_simp; done) | (go_simp; rfl)); intro iA hg w9 hbox hb; have AB := Aside0.mk (blk_below (g := SA) (o := .cells #[.slice xB fB.length yB] 29 (0, 0)) q5_1 hb); have LB := Aside0.mk (blk_below (g := dA) (o := .cells #[.int .i64 kA, .int .i64 mA, .int .i64 nA, .int .i64 jA, .int .i64 oA, .int .i64 sA, .int .i64 yA, .int .i64 pA, .int .i64 vA, .bool rA] 23 (0, 0)) q5_2 hb); have BB := Aside0.mk (below_step q5_36 hb); have CB := Aside0.mk (hbox); have IB := Aside0.mk ((by rw [hg]; exact (below_size q5_36) : w.heap.size ≤ iA)); have DC := Aside0.mk ((by rw [hg]; exact (below_size q5_36) : w.heap.size ≤ iA)); have MB := Aside0.mk ((q5_33 : SA ≠ iA)); have EC := Aside0.mk ((q5_34 : iA ≠ SA)); have hI := Aside0.mk ((q5_18 : dA ≠ iA)); have iI := Aside0.mk ((q5_19 : iA ≠ dA)); clear qA cA HB; have qA := AB; have cA := LB; have HB := BB; have lA := CB; have wL := IB; have aI := DC; have pB := MB; have qB := EC; have fA := hI; have wA := iI; clear AB LB BB CB IB DC MB EC hI iI; clear hb hbox hg) | ((with_reducible refine gate_dst (N := 7) rfl ?_); (try (refine gate_guard (by rfl) ?_; dsimp only)); refine box_event ?hg (N := 7) ?hd (cs := #[.int .i64 0, .int .i64 0, .int .i64 0, .int .i64 0, .int .i64 0, .int .i64 0, .int .i64 0, .int .i64 0, .int .i64 0, .bool false]) (t := 23) ?hr ?_; (case hd => rfl); (case hg => rfl); (case hr => first | (go_simp; done) | (go_simp; rfl)); intro bA hg pI hbox hb; have AB := Aside0.mk (blk_below (g := SA) (o := .cells #[.slice xB fB.length yB] 29 (0, 0)) q5_1 hb); have LB := Aside0.mk (blk_below (g := dA) (o := .cells #[.int .i64 kA, .int .i64 mA, .int .i64 nA, .int .i64 jA, .int .i64 oA, .int .i64 sA, .int .i64 yA, .int .i64 pA, .int .i64 vA, .bool rA] 23 (0, 0)) q5_2 hb); have BB := Aside0.mk (blk_below (g := iA) (o := .cells #[.slice none 0 0] 29 (0, 0)) q5_3 hb); have CB := Aside0.mk (below_step q5_32 hb); have IB := Aside0.mk (hbox); have DC := Aside0.mk ((by rw [hg]; exact (below_size q5_32) : w.heap.size ≤ bA)); have MB := Aside0.mk ((by rw [hg]; exact (below_size q5_32) : w.heap.size ≤ bA)); have EC := Aside0.mk ((q5_33 : SA ≠ bA)); have hI := Aside0.mk ((q5_34 : bA ≠ SA)); have iI := Aside0.mk ((q5_18 : dA ≠ bA)); have mG := Aside0.mk ((q5_19 : bA ≠ dA)); have nG := Aside0.mk ((by rw [hg]; exact Nat.ne_of_lt (blk_lt (g := iA) (o := .cells #[.slice none 0 0] 29 (0, 0)) q5_3) : iA ≠ bA)); have oG := Aside0.mk ((by rw [hg]; exact Nat.ne_of_gt (blk_lt (g := iA) (o := .cells #[.slice none 0 0] 29 (0, 0)) q5_3) : bA ≠ iA)); clear qA cA lA HB; have qA := AB; have cA := LB; have lA := BB; have HB := CB; have eA := IB; have xL := DC; have fI := MB; have rB := EC; have sB := hI; have aA := iI; have xA := mG; have zB := nG; have iB := oG; clear AB LB BB CB IB DC MB EC hI iI mG nG oG; clear hb hbox hg; have yL := UA.out; have zL := KA.out; have AL := fA.out; have BL := wA.out; have CL := aA.out; have DL := xA.out; have OB : pI.cell? ⟨dA, 0, none⟩ = some (.int .i64 kA) := (blk_cell cA.out 0).trans rfl; have PB : pI.cell? ⟨dA, 1, none⟩ = some (.int .i64 mA) := (blk_cell cA.out 1).trans rfl; have QB : pI.cell? ⟨dA, 2, none⟩ = some (.int .i64 nA) := (blk_cell cA.out 2).trans rfl; have RB : pI.cell? ⟨dA, 3, none⟩ = some (.int .i64 jA) := (blk_cell cA.out 3).trans rfl; have SB : pI.cell? ⟨dA, 4, none⟩ = some (.int .i64 oA) := (blk_cell cA.out 4).trans rfl; have TB : pI.cell? ⟨dA, 5, none⟩ = some (.int .i64 sA) := (blk_cell cA.out 5).trans rfl; have UB : pI.cell? ⟨dA, 6, none⟩ = some (.int .i64 yA) := (blk_cell cA.out 6).trans rfl; have VB : pI.cell? ⟨dA, 7, none⟩ = some (.int .i64 pA) := (blk_cell cA.out 7).trans rfl; have WB : pI.cell? ⟨dA, 8, none⟩ = some (.int .i64 vA) := (blk_cell cA.out 8).trans rfl; have XB : pI.cell? ⟨dA, 9, none⟩ = some (.bool rA) := (blk_cell cA.out 9).trans rfl; have YB := blk_frozen cA.out 0; have ZB := blk_frozen cA.out 1; have aC := blk_frozen cA.out 2; have bC := blk_frozen cA.out 3; have cC := blk_frozen cA.out 4; have dC := blk_frozen cA.out 5; have eC := blk_frozen cA.out 6; have fC := blk_frozen cA.out 7; have gC := blk_frozen cA.out 8; have hC := blk_frozen cA.out 9) | ((with_reducible refine gate_callee (f := 23) rfl ?_); refine goesL_ (some 20) rfl rfl Try.func23 q5_39 rfl #[.int .i64 a0, .agg #[.int .i64 kA, .int .i64 mA, .int .i64 nA, .int .i64 jA, .int .i64 oA, .int .i64 sA, .int .i64 yA, .int .i64 pA, .int .i64 vA, .bool rA]] rfl q5_7 ?_; (with_reducible refine (spec_StAct.calls k a0 kA mA nA jA oA sA yA pA vA rA KB wC zC CC CI _ A4.out).mono ?_); rintro e nO ⟨rfl, hb⟩; refine ⟨_, rfl, ?_⟩; have AB := Aside0.mk (blk_below (g := SA) (o := .cells #[.slice xB fB.length yB] 29 (0, 0)) q5_1 hb); have LB := Aside0.mk (blk_below (g := dA) (o := .cells #[.int .i64 kA, .int .i64 mA, .int .i64 nA, .int .i64 jA, .int .i64 oA, .int .i64 sA, .int .i64 yA, .int .i64 pA, .int .i64 vA, .bool rA] 23 (0, 0)) q5_2 hb); have BB := Aside0.mk (blk_below (g := iA) (o := .cells #[.slice none 0 0] 29 (0, 0)) q5_3 hb); have CB := Aside0.mk (blk_below (g := bA) (o := .cells #[.int .i64 0, .int .i64 0, .int .i64 0, .int .i64 0, .int .i64 0, .int .i64 0, .int .i64 0, .int .i64 0, .int .i64 0, .bool false] 23 (0, 0)) q5_4 hb); have IB := Aside0.mk (below_step q5_15 hb); clear qA cA lA eA HB; have qA := AB; have cA := LB; have lA := BB; have eA := CB; have HB := IB; clear AB LB BB CB IB; (try clear hb); (try clear hb2); (try clear hk); (try clear hi)) | ((with_reducible refine gate_dst (N := 9) rfl ?_); (try (refine gate_guard (by rfl) ?_; dsimp only)); refine box_event ?hg (N := 9) ?hd (cs := #[.int .i64 0, .int .i64 0, .int .i64 0, .int .i64 0]) (t := 37) ?hr ?_; (case hd => rfl); (case hg => rfl); (case hr => first | (go_simp; done) | (go_simp; rfl)); intro YA hg EI hbox hb; have AB := Aside0.mk (blk_below (g := SA) (o := .cells #[.slice xB fB.length yB] 29 (0, 0)) q5_1 hb); have LB := Aside0.mk (blk_below (g := dA) (o := .cells #[.int .i64 kA, .int .i64 mA, .int .i64 nA, .int .i64 jA, .int .i64 oA, .int .i64 sA, .int .i64 yA, .int .i64 pA, .int .i64 vA, .bool rA] 23 (0, 0)) q5_2 hb); have BB := Aside0.mk (blk_below (g := iA) (o := .cells #[.slice none 0 0] 29 (0, 0)) q5_3 hb); have CB := Aside0.mk (blk_below (g := bA) (o := .cells #[.int .i64 0, .int .i64 0, .int .i64 0, .int .i64 0, .int .i64 0, .int .i64 0, .int .i64 0, .int .i64 0, .int .i64 0, .bool false] 23 (0, 0)) q5_4 hb); have IB := Aside0.mk (below_step q5_15 hb); have DC := Aside0.mk (hbox); have MB := Aside0.mk ((by rw [hg]; exact (below_size q5_15) : w.heap.size ≤ YA)); have EC := Aside0.mk ((by rw [hg]; exact (below_size q5_15) : w.heap.size ≤ YA)); have hI := Aside0.mk ((q5_33 : SA ≠ YA)); have iI := Aside0.mk ((q5_34 : YA ≠ SA)); have mG := Aside0.mk ((q5_18 : dA ≠ YA)); have nG := Aside0.mk ((q5_19 : YA ≠ dA)); have oG := Aside0.mk ((by rw [hg]; exact Nat.ne_of_lt (blk_lt (g := iA) (o := .cells #[.slice none 0 0] 29 (0, 0)) q5_3) : iA ≠ YA)); have jI := Aside0.mk ((by rw [hg]; exact Nat.ne_of_gt (blk_lt (g := iA) (o := .cells #[.slice none 0 0] 29 (0, 0)) q5_3) : YA ≠ iA)); have kI := Aside0.mk ((q5_45 : bA ≠ YA)); have lI := Aside0.mk ((q5_46 : YA ≠ bA)); clear qA cA lA eA HB; have qA := AB; have cA := LB; have lA := BB; have eA := CB; have HB := IB; have zA := DC; have EL := MB; have sI := EC; have bF := hI; have dG := iI; have VA := mG; have PA := nG; have tB := oG; have DB := jI; have uB := kI; have EB := lI; clear AB LB BB CB IB DC MB EC hI iI mG nG oG jI kI lI; clear hb hbox hg; have FL := dG.out; have GL := bF.out; have HL := PA.out; have IL := VA.out; have JL := DB.out; have KL := tB.out; have LL := EB.out; have ML := uB.out; have iC : EI.cell? ⟨YA, 0, none⟩ = some (.int .i64 0) := (blk_cell zA.out 0).trans rfl; have jC : EI.cell? ⟨YA, 1, none⟩ = some (.int .i64 0) := (blk_cell zA.out 1).trans rfl; have kC : EI.cell? ⟨YA, 2, none⟩ = some (.int .i64 0) := (blk_cell zA.out 2).trans rfl; have lC : EI.cell? ⟨YA, 3, none⟩ = some (.int .i64 0) := (blk_cell zA.out 3).trans rfl; have mC := blk_frozen zA.out 0; have nC := blk_frozen zA.out 1; have oC := blk_frozen zA.out 2; have pC := blk_frozen zA.out 3; have NL := pB.out; have OL := qB.out; have PL := rB.out; have QL := sB.out; have qC : EI.cell? ⟨SA, 0, none⟩ = some (.slice xB fB.length yB) := (blk_cell qA.out 0).trans rfl; have rC := blk_frozen qA.out 0) | ((with_reducible refine gate_callee (f := 64) rfl ?_); refine goesL_ (some 26) rfl rfl Try.func64 q5_39 rfl #[.agg #[.slice xB fB.length yB], .agg #[.int .i64 KB, .int .i64 wC, .int .i64 zC, .int .i64 CC]] rfl q5_7 ?_; (with_reducible refine (spec_Do.calls _ _ fB KB wC zC CC cB aF DI _ ?side1 ?side2 A5.out).mono ?_); (case side1 => exact Kd.C_below AI.out q5_5); (case side2 => exact BI.out); rintro e oO ⟨aO, rfl, ho0, hb⟩; refine ⟨_, rfl, ?_⟩; have AB := Aside0.mk (Kd.R_lower ho0 (below_size q5_5)); have LB := Aside0.mk (blk_below (g := SA) (o := .cells #[.slice xB fB.length yB] 29 (0, 0)) (by (iterate 4 ((with_reducible repeat (first | refine blk_drewN ?_ _ | refine blk_drew ?_ | refine blk_alloc ?_ _)); refine blk_far ?_ bF.out _)); (with_reducible repeat (first | refine blk_drewN ?_ _ | refine blk_drew ?_ | refine blk_alloc ?_ _)); exact qA.out) hb); have BB := Aside0.mk (blk_below (g := dA) (o := .cells #[.int .i64 kA, .int .i64 mA, .int .i64 nA, .int .i64 jA, .int .i64 oA, .int .i64 sA, .int .i64 yA, .int .i64 pA, .int .i64 vA, .bool rA] 23 (0, 0)) (by (iterate 4 ((with_reducible repeat (first | refine blk_drewN ?_ _ | refine blk_drew ?_ | refine blk_alloc ?_ _)); refine blk_far ?_ VA.out _)); (with_reducible repeat (first | refine blk_drewN ?_ _ | refine blk_drew ?_ | refine blk_alloc ?_ _)); exact cA.out) hb); have CB := Aside0.mk (blk_below (g := iA) (o := .cells #[.slice none 0 0] 29 (0, 0)) (by (iterate 4 ((with_reducible repeat (first | refine blk_drewN ?_ _ | refine blk_drew ?_ | refine blk_alloc ?_ _)); refine blk_far ?_ tB.out _)); (with_reducible repeat (first | refine blk_drewN ?_ _ | refine blk_drew ?_ | refine blk_alloc ?_ _)); exact lA.out) hb); have IB := Aside0.mk (blk_below (g := bA) (o := .cells #[.int .i64 0, .int .i64 0, .int .i64 0, .int .i64 0, .int .i64 0, .int .i64 0, .int .i64 0, .int .i64 0, .int .i64 0, .bool false] 23 (0, 0)) (by (iterate 4 ((with_reducible repeat (first | refine blk_drewN ?_ _ | refine blk_drew ?_ | refine blk_alloc ?_ _)); refine blk_far ?_ uB.out _)); (with_reducible repeat (first | refine blk_drewN ?_ _ | refine blk_drew ?_ | refine blk_alloc ?_ _)); exact eA.out) hb); have DC := Aside0.mk (blk_below (g := YA) (o := .cells #[.int .i64 KB, .int .i64 wC, .int .i64 zC, .int .i64 CC] 37 (0, 0)) (by (with_reducible repeat (first | refine blk_drewN ?_ _ | refine blk_drew ?_ | refine blk_alloc ?_ _)); refine blk_put (cs := #[.int .i64 KB, .int .i64 wC, .int .i64 zC, .int .i64 0]) ?_ 3 _ rfl; (with_reducible repeat (first | refine blk_drewN ?_ _ | refine blk_drew ?_ | refine blk_alloc ?_ _)); refine blk_put (cs := #[.int .i64 KB, .int .i64 wC, .int .i64 0, .int .i64 0]) ?_ 2 _ rfl; (with_reducible repeat (first | refine blk_drewN ?_ _ | refine blk_drew ?_ | refine blk_alloc ?_ _)); refine blk_put (cs := #[.int .i64 KB, .int .i64 0, .int .i64 0, .int .i64 0]) ?_ 1 _ rfl; (with_reducible repeat (first | refine blk_drewN ?_ _ | refine blk_drew ?_ | refine blk_alloc ?_ _)); refine blk_put (cs := #[.int .i64 0, .int .i64 0, .int .i64 0, .int .i64 0]) ?_ 0 _ rfl; (with_reducible repeat (first | refine blk_drewN ?_ _ | refine blk_drew ?_ | refine blk_alloc ?_ _)); exact zA.out) hb); have MB := Aside0.mk (below_step q5_5 hb); clear qA cA lA eA zA HB; have lG := AB; have qA := LB; have cA := BB; have lA := CB; have eA := IB; have zA := DC; have HB := MB; clear AB LB BB CB IB DC MB; (try clear hb); (try clear hb2); (try clear hk); (try clear hi); (try clear ho0)) | ((with_reducible refine gate_dst (N := 11) rfl ?_); (try (refine gate_guard (by rfl) ?_; dsimp only)); refine box_event ?hg (N := 11) ?hd (cs := #[.slice none 0 0]) (t := 29) ?hr ?_; (case hd => rfl); (case hg => rfl); (case hr => first | (go_simp; done) | (go_simp; rfl)); intro ZA hg RL hbox hb; have AB := Aside0.mk (Kd.R_below (by (with_reducible repeat (first | apply Kd.R_alloc | apply Kd.R_drewN | apply Kd.R_drew)); exact lG.out) hb); have LB := Aside0.mk (blk_below (g := SA) (o := .cells #[.slice xB fB.length yB] 29 (0, 0)) q5_1 hb); have BB := Aside0.mk (blk_below (g := dA) (o := .cells #[.int .i64 kA, .int .i64 mA, .int .i64 nA, .int .i64 jA, .int .i64 oA, .int .i64 sA, .int .i64 yA, .int .i64 pA, .int .i64 vA, .bool rA] 23 (0, 0)) q5_2 hb); have CB := Aside0.mk (blk_below (g := iA) (o := .cells #[.slice none 0 0] 29 (0, 0)) q5_3 hb); have IB := Aside0.mk (blk_below (g := bA) (o := .cells #[.int .i64 0, .int .i64 0, .int .i64 0, .int .i64 0, .int .i64 0, .int .i64 0, .int .i64 0, .int .i64 0, .int .i64 0, .bool false] 23 (0, 0)) q5_4 hb); have DC := Aside0.mk (blk_below (g := YA) (o := .cells #[.int .i64 KB, .int .i64 wC, .int .i64 zC, .int .i64 CC] 37 (0, 0)) q5_13 hb); have MB := Aside0.mk (below_step q5_5 hb); have EC := Aside0.mk (hbox); have hI := Aside0.mk ((by rw [hg]; exact (below_size q5_5) : w.heap.size ≤ ZA)); have iI := Aside0.mk ((by rw [hg]; exact (below_size q5_5) : w.heap.size ≤ ZA)); have mG := Aside0.mk ((q5_33 : SA ≠ ZA)); have nG := Aside0.mk ((q5_34 : ZA ≠ SA)); have oG := Aside0.mk ((q5_18 : dA ≠ ZA)); have jI := Aside0.mk ((q5_19 : ZA ≠ dA)); have kI := Aside0.mk ((by rw [hg]; exact Nat.ne_of_lt (blk_lt (g := iA) (o := .cells #[.slice none 0 0] 29 (0, 0)) q5_3) : iA ≠ ZA)); have lI := Aside0.mk ((by rw [hg]; exact Nat.ne_of_gt (blk_lt (g := iA) (o := .cells #[.slice none 0 0] 29 (0, 0)) q5_3) : ZA ≠ iA)); have FI := Aside0.mk ((q5_45 : bA ≠ ZA)); have GI := Aside0.mk ((q5_46 : ZA ≠ bA)); have HI := Aside0.mk ((by rw [hg]; exact Nat.ne_of_lt (blk_lt (g := YA) (o := .cells #[.int .i64 KB, .int .i64 wC, .int .i64 zC, .int .i64 CC] 37 (0, 0)) q5_13) : YA ≠ ZA)); have II := Aside0.mk ((by rw [hg]; exact Nat.ne_of_gt (blk_lt (g := YA) (o := .cells #[.int .i64 KB, .int .i64 wC, .int .i64 zC, .int .i64 CC] 37 (0, 0)) q5_13) : ZA ≠ YA)); clear lG qA cA lA eA zA HB; have lG := AB; have qA := LB; have cA := BB; have lA := CB; have eA := IB; have zA := DC; have HB := MB; have GA := EC; have SL := hI; have yI := iI; have ZE := mG; have eG := nG; have TA := oG; have QA := jI; have nB := kI; have jB := lI; have oB := FI; have gA := GI; have cG := HI; have cI := II; clear AB LB BB CB IB DC MB EC hI iI mG nG oG jI kI lI FI GI HI II; clear hb hbox hg; obtain ⟨lB, mB, NJ⟩ := Kd.R_slice lG.out; subst NJ; have TL := eG.out; have UL := ZE.out; have VL := QA.out; have WL := TA.out; have XL := jB.out; have YL := nB.out; have ZL := gA.out; have aM := oB.out; have bM := cI.out; have cM := cG.out; have sC : RL.cell? ⟨ZA, 0, none⟩ = some (.slice none 0 0) := (blk_cell GA.out 0).trans rfl; have tC := blk_frozen GA.out 0))
 (try simp only [Act.put, List.setIfInBounds_toArray, List.set_cons_zero, List.set_cons_succ])
 go_cut [43] (fun v43 wc => ∃ (kq : Nat) (bI : Bool), v43 = .bool bI ∧ Aside0 (spec_StStep.j0 kq aF bI kA mA nA jA oA sA yA pA vA rA cB = some (r1, r2, r3, r4, r5, r6, r7, r8, r9, r10, r11, r12)) ∧ Aside0 (kq ≤ k) ∧ Aside0 (Kd.R (Kd.int .i64) 3 wc w.heap.size (fun _ => True) (.slice lB cB.length mB) cB) ∧ Aside0 (wc.heap[SA]? = some (.cells #[(.slice xB fB.length yB)] 29 (0, 0))) ∧ Aside0 (wc.heap[dA]? = some (.cells #[.int .i64 kA, .int .i64 mA, .int .i64 nA, .int .i64 jA, .int .i64 oA, .int .i64 sA, .int .i64 yA, .int .i64 pA, .int .i64 vA, .bool rA] 23 (0, 0))) ∧ Aside0 (wc.heap[iA]? = some (.cells #[(.slice none 0 0)] 29 (0, 0))) ∧ Aside0 (wc.heap[bA]? = some (.cells #[.int .i64 0, .int .i64 0, .int .i64 0, .int .i64 0, .int .i64 0, .int .i64 0, .int .i64 0, .int .i64 0, .int .i64 0, .bool false] 23 (0, 0))) ∧ Aside0 (wc.heap[YA]? = some (.cells #[.int .i64 KB, .int .i64 wC, .int .i64 zC, .int .i64 CC] 37 (0, 0))) ∧ Aside0 (wc.heap[ZA]? = some (.cells #[(.slice lB cB.length mB)] 29 (0, 0))) ∧ Aside0 (Below w.heap.size w wc))
 case first =>
  have H := HC6.out
  clear HC6
  by_cases c34 : CI = true
  ·subst c34
   rw [if_pos rfl] at H
   by_cases c35 : DI = true
   ·subst c35
    rw [if_pos rfl] at H
    have H' := Aside0.mk H
    clear H
    have dM := KA.out
    have eM := UA.out
    have fM := pB.out
    have gM := qB.out
    have hM := rB.out
    have iM := sB.out
    have jM := bF.out
    have kM := dG.out
    have lM := ZE.out
    have mM := eG.out
    have uC : RL.cell? ⟨SA, 0, none⟩ = some (.slice xB fB.length yB) := (blk_cell qA.out 0).trans rfl
    have vC := blk_frozen qA.out 0
    go_wp2
    go_meet
    case rel => exact ⟨_, (((fB.length : Int) != (wrap64 (1 + a0)))), q5_38, H', ⟨by first | omega | exact Nat.le_refl _⟩, ⟨q5_26⟩, ⟨q5_27⟩, ⟨q5_28⟩, ⟨q5_29⟩, ⟨q5_30⟩, ⟨q5_31⟩, ⟨q5_20⟩, ⟨q5_0⟩⟩
   ·replace c35 := Bool.eq_false_iff.mpr c35
    subst c35
    rw [if_neg (show ¬ (false = true) by decide)] at H
    have H' := Aside0.mk H
    clear H
    go_wp2
    go_meet
    case rel => exact ⟨_, (true), q5_38, H', ⟨by first | omega | exact Nat.le_refl _⟩, ⟨q5_26⟩, ⟨q5_27⟩, ⟨q5_28⟩, ⟨q5_29⟩, ⟨q5_30⟩, ⟨q5_31⟩, ⟨q5_20⟩, ⟨q5_0⟩⟩
  ·replace c34 := Bool.eq_false_iff.mpr c34
   subst c34
   rw [if_neg (show ¬ (false = true) by decide)] at H
   have H' := Aside0.mk H
   clear H
   go_wp2
   go_meet
   case rel => exact ⟨_, (true), q5_38, H', ⟨by first | omega | exact Nat.le_refl _⟩, ⟨q5_26⟩, ⟨q5_27⟩, ⟨q5_28⟩, ⟨q5_29⟩, ⟨q5_30⟩, ⟨q5_31⟩, ⟨q5_20⟩, ⟨q5_0⟩⟩
 case rest =>
  clear HC6
  (try clear c1); (try clear c2); (try clear p2); (try clear c3); (try clear c4); (try clear c6); (try clear p6); (try clear c11); (try clear c12); (try clear c13); (try clear c17); (try clear c18); (try clear c19); (try clear c20); (try clear c22); (try clear c23); (try clear c28); (try clear c29); (try clear c30); (try clear c31); (try clear c32); (try clear c34); (try clear c35); (try clear c36); (try clear c37); (try clear c38); (try clear c39); (try clear c40); (try clear OB); (try clear PB); (try clear QB); (try clear RB); (try clear SB); (try clear TB); (try clear UB); (try clear VB); (try clear WB); (try clear XB); (try clear iC); (try clear jC); (try clear kC); (try clear lC); (try clear qC); (try clear sC); (try clear uC); (try clear YB); (try clear ZB); (try clear aC); (try clear bC); (try clear cC); (try clear dC); (try clear eC); (try clear fC); (try clear gC); (try clear hC); (try clear mC); (try clear nC); (try clear oC); (try clear pC); (try clear rC); (try clear tC); (try clear vC)
  obtain ⟨kq, bI, rfl, HA, HJ5, hA, qA, cA, lA, eA, zA, GA, HB⟩ := hcut
  cases kq with
  | zero => exact absurd HA.out (by simp [spec_StStep.j0])
  | succ kj5 =>
   have H := HA.out
   clear HA
   simp only [spec_StStep.j0] at H
   by_cases c42 : bI = true
   ·subst c42
    rw [if_pos rfl] at H
    simp only [Option.some.injEq, Prod.mk.injEq] at H
    obtain ⟨rfl, rfl, rfl, rfl, rfl, rfl, rfl, rfl, rfl, rfl, rfl, rfl⟩ := H
    have nM := qB.out
    have oM := pB.out
    have pM := wA.out
    have qM := fA.out
    have rM := zB.out
    have sM := iB.out
    have tM := tB.out
    have uM := DB.out
    have vM := nB.out
    have wM := jB.out
    have FC : wc.cell? ⟨iA, 0, none⟩ = some (.slice none 0 0) := (blk_cell lA.out 0).trans rfl
    have GC := blk_frozen lA.out 0
    have xM := sB.out
    have yM := rB.out
    have zM := xA.out
    have AM := aA.out
    have BM := uB.out
    have CM := EB.out
    have DM := oB.out
    have EM := gA.out
    have HC : wc.cell? ⟨bA, 0, none⟩ = some (.int .i64 0) := (blk_cell eA.out 0).trans rfl
    have IC : wc.cell? ⟨bA, 1, none⟩ = some (.int .i64 0) := (blk_cell eA.out 1).trans rfl
    have JC : wc.cell? ⟨bA, 2, none⟩ = some (.int .i64 0) := (blk_cell eA.out 2).trans rfl
    have KC : wc.cell? ⟨bA, 3, none⟩ = some (.int .i64 0) := (blk_cell eA.out 3).trans rfl
    have LC : wc.cell? ⟨bA, 4, none⟩ = some (.int .i64 0) := (blk_cell eA.out 4).trans rfl
    have MC : wc.cell? ⟨bA, 5, none⟩ = some (.int .i64 0) := (blk_cell eA.out 5).trans rfl
    have NC : wc.cell? ⟨bA, 6, none⟩ = some (.int .i64 0) := (blk_cell eA.out 6).trans rfl
    have OC : wc.cell? ⟨bA, 7, none⟩ = some (.int .i64 0) := (blk_cell eA.out 7).trans rfl
    have PC : wc.cell? ⟨bA, 8, none⟩ = some (.int .i64 0) := (blk_cell eA.out 8).trans rfl
    have QC : wc.cell? ⟨bA, 9, none⟩ = some (.bool false) := (blk_cell eA.out 9).trans rfl
    have RC := blk_frozen eA.out 0
    have SC := blk_frozen eA.out 1
    have TC := blk_frozen eA.out 2
    have UC := blk_frozen eA.out 3
    have VC := blk_frozen eA.out 4
    have WC := blk_frozen eA.out 5
    have XC := blk_frozen eA.out 6
    have YC := blk_frozen eA.out 7
    have ZC := blk_frozen eA.out 8
    have aD := blk_frozen eA.out 9
    go_wp2
    refine bodyPost_ret (results_list (rs := [.cell 6 29, .cell 7 23, .tmp 8]) rfl (by simp) (.cell iA 29 #[.slice none 0 0] (0, 0) _ rfl q5_6 Try.underlying29 rfl q5_39 (.cell bA 23 #[.int .i64 0, .int .i64 0, .int .i64 0, .int .i64 0, .int .i64 0, .int .i64 0, .int .i64 0, .int .i64 0, .int .i64 0, .bool false] (0, 0) _ rfl (by (with_reducible repeat (first | refine blk_drewN ?_ _ | refine blk_drew ?_ | refine blk_alloc ?_ _)); refine blk_put (cs := #[.int .i64 0, .int .i64 0, .int .i64 0, .int .i64 0, .int .i64 0, .int .i64 0, .int .i64 0, .int .i64 0, .int .i64 0, .bool false]) ?_ 9 _ rfl; (with_reducible repeat (first | refine blk_drewN ?_ _ | refine blk_drew ?_ | refine blk_alloc ?_ _)); refine blk_put (cs := #[.int .i64 0, .int .i64 0, .int .i64 0, .int .i64 0, .int .i64 0, .int .i64 0, .int .i64 0, .int .i64 0, .int .i64 0, .bool false]) ?_ 8 _ rfl; (with_reducible repeat (first | refine blk_drewN ?_ _ | refine blk_drew ?_ | refine blk_alloc ?_ _)); refine blk_put (cs := #[.int .i64 0, .int .i64 0, .int .i64 0, .int .i64 0, .int .i64 0, .int .i64 0, .int .i64 0, .int .i64 0, .int .i64 0, .bool false]) ?_ 7 _ rfl; (with_reducible repeat (first | refine blk_drewN ?_ _ | refine blk_drew ?_ | refine blk_alloc ?_ _)); refine blk_put (cs := #[.int .i64 0, .int .i64 0, .int .i64 0, .int .i64 0, .int .i64 0, .int .i64 0, .int .i64 0, .int .i64 0, .int .i64 0, .bool false]) ?_ 6 _ rfl; (with_reducible repeat (first | refine blk_drewN ?_ _ | refine blk_drew ?_ | refine blk_alloc ?_ _)); refine blk_put (cs := #[.int .i64 0, .int .i64 0, .int .i64 0, .int .i64 0, .int .i64 0, .int .i64 0, .int .i64 0, .int .i64 0, .int .i64 0, .bool false]) ?_ 5 _ rfl; (with_reducible repeat (first | refine blk_drewN ?_ _ | refine blk_drew ?_ | refine blk_alloc ?_ _)); refine blk_put (cs := #[.int .i64 0, .int .i64 0, .int .i64 0, .int .i64 0, .int .i64 0, .int .i64 0, .int .i64 0, .int .i64 0, .int .i64 0, .bool false]) ?_ 4 _ rfl; (with_reducible repeat (first | refine blk_drewN ?_ _ | refine blk_drew ?_ | refine blk_alloc ?_ _)); refine blk_put (cs := #[.int .i64 0, .int .i64 0, .int .i64 0, .int .i64 0, .int .i64 0, .int .i64 0, .int .i64 0, .int .i64 0, .int .i64 0, .bool false]) ?_ 3 _ rfl; (with_reducible repeat (first | refine blk_drewN ?_ _ | refine blk_drew ?_ | refine blk_alloc ?_ _)); refine blk_put (cs := #[.int .i64 0, .int .i64 0, .int .i64 0, .int .i64 0, .int .i64 0, .int .i64 0, .int .i64 0, .int .i64 0, .int .i64 0, .bool false]) ?_ 2 _ rfl; (with_reducible repeat (first | refine blk_drewN ?_ _ | refine blk_drew ?_ | refine blk_alloc ?_ _)); refine blk_put (cs := #[.int .i64 0, .int .i64 0, .int .i64 0, .int .i64 0, .int .i64 0, .int .i64 0, .int .i64 0, .int .i64 0, .int .i64 0, .bool false]) ?_ 1 _ rfl; (with_reducible repeat (first | refine blk_drewN ?_ _ | refine blk_drew ?_ | refine blk_alloc ?_ _)); refine blk_put (cs := #[.int .i64 0, .int .i64 0, .int .i64 0, .int .i64 0, .int .i64 0, .int .i64 0, .int .i64 0, .int .i64 0, .int .i64 0, .bool false]) ?_ 0 _ rfl; (with_reducible repeat (first | refine blk_drewN ?_ _ | refine blk_drew ?_ | refine blk_alloc ?_ _)); refine blk_far ?_ iB.out _; (with_reducible repeat (first | refine blk_drewN ?_ _ | refine blk_drew ?_ | refine blk_alloc ?_ _)); exact eA.out) Try.underlying23 rfl q5_39 (.tmp .nil)))) rfl ?_
    exact ⟨_, q5_41, by first | exact Kd.R_nil _ _ _ _ _ | exact Kd.N_nil _ _ _ _ _ | exact Kd.V_nil _ _ _ _ _ | exact Kd.Q_nil _ _ _ _ _ | exact Kd.S_nil _ _ _ _ _, q5_0⟩
   ·replace c42 := Bool.eq_false_iff.mpr c42
    subst c42
    rw [if_neg (show ¬ (false = true) by decide)] at H
    have HC54 := Aside0.mk H
    clear H
    have FM := UA.out
    have GM := KA.out
    have HM := fA.out
    have IM := wA.out
    have JM := aA.out
    have KM := xA.out
    have LM := VA.out
    have MM := PA.out
    have NM := TA.out
    have OM := QA.out
    have bD : wc.cell? ⟨dA, 0, none⟩ = some (.int .i64 kA) := (blk_cell cA.out 0).trans rfl
    have cD : wc.cell? ⟨dA, 1, none⟩ = some (.int .i64 mA) := (blk_cell cA.out 1).trans rfl
    have dD : wc.cell? ⟨dA, 2, none⟩ = some (.int .i64 nA) := (blk_cell cA.out 2).trans rfl
    have eD : wc.cell? ⟨dA, 3, none⟩ = some (.int .i64 jA) := (blk_cell cA.out 3).trans rfl
    have fD : wc.cell? ⟨dA, 4, none⟩ = some (.int .i64 oA) := (blk_cell cA.out 4).trans rfl
    have gD : wc.cell? ⟨dA, 5, none⟩ = some (.int .i64 sA) := (blk_cell cA.out 5).trans rfl
    have hD : wc.cell? ⟨dA, 6, none⟩ = some (.int .i64 yA) := (blk_cell cA.out 6).trans rfl
    have iD : wc.cell? ⟨dA, 7, none⟩ = some (.int .i64 pA) := (blk_cell cA.out 7).trans rfl
    have jD : wc.cell? ⟨dA, 8, none⟩ = some (.int .i64 vA) := (blk_cell cA.out 8).trans rfl
    have kD : wc.cell? ⟨dA, 9, none⟩ = some (.bool rA) := (blk_cell cA.out 9).trans rfl
    have lD := blk_frozen cA.out 0
    have mD := blk_frozen cA.out 1
    have nD := blk_frozen cA.out 2
    have oD := blk_frozen cA.out 3
    have pD := blk_frozen cA.out 4
    have qD := blk_frozen cA.out 5
    have rD := blk_frozen cA.out 6
    have sD := blk_frozen cA.out 7
    have tD := blk_frozen cA.out 8
    have uD := blk_frozen cA.out 9
    go_upto_block 0 with (fail)
    go_cut [] (fun wc => ∃ (kq : Nat) (NA : Int) (WA : Int) (aB : Int) (gB : Int) (FB : Int) (wB : Int) (kB : Int) (hB : Int) (dB : Int) (bB : Int) (XA : Int) (RA : Int) (OA : Int) (FA : Bool), Aside0 (spec_StStep.j5 kq kA mA nA NA oA WA aB pA gB rA cB = some (r1, r2, r3, r4, r5, r6, r7, r8, r9, r10, r11, r12)) ∧ Aside0 (kq ≤ kj5) ∧ Aside0 (Kd.R (Kd.int .i64) 3 wc w.heap.size (fun _ => True) (.slice lB cB.length mB) cB) ∧ Aside0 (wc.heap[SA]? = some (.cells #[(.slice xB fB.length yB)] 29 (0, 0))) ∧ Aside0 (wc.heap[dA]? = some (.cells #[.int .i64 kA, .int .i64 mA, .int .i64 nA, .int .i64 NA, .int .i64 oA, .int .i64 WA, .int .i64 aB, .int .i64 pA, .int .i64 gB, .bool rA] 23 (0, 0))) ∧ Aside0 (wc.heap[iA]? = some (.cells #[(.slice none 0 0)] 29 (0, 0))) ∧ Aside0 (wc.heap[bA]? = some (.cells #[.int .i64 FB, .int .i64 wB, .int .i64 kB, .int .i64 hB, .int .i64 dB, .int .i64 bB, .int .i64 XA, .int .i64 RA, .int .i64 OA, .bool FA] 23 (0, 0))) ∧ Aside0 (wc.heap[YA]? = some (.cells #[.int .i64 KB, .int .i64 wC, .int .i64 zC, .int .i64 CC] 37 (0, 0))) ∧ Aside0 (wc.heap[ZA]? = some (.cells #[(.slice lB cB.length mB)] 29 (0, 0))) ∧ Aside0 (Below w.heap.size w wc))
    case first =>
     have H := HC54.out
     clear HC54
     by_cases c61 : jA = 0
     ·rw [if_pos c61] at H
      have vD : (jA == 0) = true := beq_iff_eq.mpr c61
      have pG : (jA != 0) = false := bne_eq_false_iff_eq.mpr c61
      clear c61
      (first | rw [vD] | (simp only [i64_w, i32_w]; rw [vD]) | skip)
      replace H := Option.bind_eq_some_iff.mp H
      obtain ⟨BC, A620, H⟩ := H
      (try dsimp only at H)
      have A62 := Aside0.mk A620
      clear A620
      replace H := Option.bind_eq_some_iff.mp H
      obtain ⟨⟨OJ, JI⟩, A630, H⟩ := H
      (try dsimp only at H)
      have A63 := Aside0.mk A630
      clear A630
      have HC64 := Aside0.mk H
      clear H
      go_upto_region 10 with (first | ((with_reducible refine gate_callee (f := 65) rfl ?_); refine goesL_ (some 55) rfl rfl Try.func65 q5_39 rfl #[.int .i64 aF] rfl q5_7 ?_; (with_reducible refine (spec_l03Head.calls aF BC _ A62.out).mono ?_); rintro e w' ⟨rfl, ⟨nd, rfl⟩⟩; refine ⟨_, rfl, ?_⟩; have PM := UA.out; have QM := KA.out; have RM := fA.out; have SM := wA.out; have TM := aA.out; have UM := xA.out; have VM := VA.out; have WM := PA.out; have XM := TA.out; have YM := QA.out; have wD : wc.cell? ⟨dA, 0, none⟩ = some (.int .i64 kA) := (blk_cell cA.out 0).trans rfl; have xD : wc.cell? ⟨dA, 1, none⟩ = some (.int .i64 mA) := (blk_cell cA.out 1).trans rfl; have yD : wc.cell? ⟨dA, 2, none⟩ = some (.int .i64 nA) := (blk_cell cA.out 2).trans rfl; have zD : wc.cell? ⟨dA, 3, none⟩ = some (.int .i64 jA) := (blk_cell cA.out 3).trans rfl; have AD : wc.cell? ⟨dA, 4, none⟩ = some (.int .i64 oA) := (blk_cell cA.out 4).trans rfl; have BD : wc.cell? ⟨dA, 5, none⟩ = some (.int .i64 sA) := (blk_cell cA.out 5).trans rfl; have CD : wc.cell? ⟨dA, 6, none⟩ = some (.int .i64 yA) := (blk_cell cA.out 6).trans rfl; have DD : wc.cell? ⟨dA, 7, none⟩ = some (.int .i64 pA) := (blk_cell cA.out 7).trans rfl; have ED : wc.cell? ⟨dA, 8, none⟩ = some (.int .i64 vA) := (blk_cell cA.out 8).trans rfl; have FD : wc.cell? ⟨dA, 9, none⟩ = some (.bool rA) := (blk_cell cA.out 9).trans rfl; have GD := blk_frozen cA.out 0; have HD := blk_frozen cA.out 1; have ID := blk_frozen cA.out 2; have JD := blk_frozen cA.out 3; have KD := blk_frozen cA.out 4; have LD := blk_frozen cA.out 5; have MD := blk_frozen cA.out 6; have ND := blk_frozen cA.out 7; have OD := blk_frozen cA.out 8; have PD := blk_frozen cA.out 9) | ((with_reducible refine gate_callee (f := 55) rfl ?_); refine goesL_ (some 60) rfl rfl Try.func55 q5_39 rfl #[.int .i64 BC] rfl q5_7 ?_; (with_reducible refine (spec_l03Word.calls BC OJ JI _ A63.out).mono ?_); rintro e w' ⟨rfl, ⟨nd, rfl⟩⟩; refine ⟨_, rfl, ?_⟩))
      (try simp only [Act.put, List.setIfInBounds_toArray, List.set_cons_zero, List.set_cons_succ])
      go_cut [69] (fun v69 wc => ∃ (kq : Nat) (fG : Bool), v69 = .bool fG ∧ Aside0 (spec_StStep.j1 kq fG kA mA nA (wrap64 (jA + 1)) oA sA BC pA vA rA cB = some (r1, r2, r3, r4, r5, r6, r7, r8, r9, r10, r11, r12)) ∧ Aside0 (kq ≤ kj5) ∧ Aside0 (Kd.R (Kd.int .i64) 3 wc w.heap.size (fun _ => True) (.slice lB cB.length mB) cB) ∧ Aside0 (wc.heap[SA]? = some (.cells #[(.slice xB fB.length yB)] 29 (0, 0))) ∧ Aside0 (wc.heap[dA]? = some (.cells #[.int .i64 kA, .int .i64 mA, .int .i64 nA, .int .i64 (wrap64 (jA + 1)), .int .i64 oA, .int .i64 sA, .int .i64 BC, .int .i64 pA, .int .i64 vA, .bool rA] 23 (0, 0))) ∧ Aside0 (wc.heap[iA]? = some (.cells #[(.slice none 0 0)] 29 (0, 0))) ∧ Aside0 (wc.heap[bA]? = some (.cells #[.int .i64 0, .int .i64 0, .int .i64 0, .int .i64 0, .int .i64 0, .int .i64 0, .int .i64 0, .int .i64 0, .int .i64 0, .bool false] 23 (0, 0))) ∧ Aside0 (wc.heap[YA]? = some (.cells #[.int .i64 KB, .int .i64 wC, .int .i64 zC, .int .i64 CC] 37 (0, 0))) ∧ Aside0 (wc.heap[ZA]? = some (.cells #[(.slice lB cB.length mB)] 29 (0, 0))) ∧ Aside0 (Below w.heap.size w wc))
      case first =>
       have H := HC64.out
       clear HC64
       by_cases c71 : kA = 2
       ·rw [if_pos c71] at H
        have QD : (kA == 2) = true := beq_iff_eq.mpr c71
        have qG : (kA != 2) = false := bne_eq_false_iff_eq.mpr c71
        clear c71
        (first | rw [QD] | (simp only [i64_w, i32_w]; rw [QD]) | skip)
        have H' := Aside0.mk H
        clear H
        have ZM := UA.out
        have aN := KA.out
        have bN := fA.out
        have cN := wA.out
        have dN := aA.out
        have eN := xA.out
        have fN := VA.out
        have gN := PA.out
        have hN := TA.out
        have iN := QA.out
        have RD : wc.cell? ⟨dA, 0, none⟩ = some (.int .i64 kA) := (blk_cell cA.out 0).trans rfl
        have SD : wc.cell? ⟨dA, 1, none⟩ = some (.int .i64 mA) := (blk_cell cA.out 1).trans rfl
        have TD : wc.cell? ⟨dA, 2, none⟩ = some (.int .i64 nA) := (blk_cell cA.out 2).trans rfl
        have UD : wc.cell? ⟨dA, 3, none⟩ = some (.int .i64 jA) := (blk_cell cA.out 3).trans rfl
        have VD : wc.cell? ⟨dA, 4, none⟩ = some (.int .i64 oA) := (blk_cell cA.out 4).trans rfl
        have WD : wc.cell? ⟨dA, 5, none⟩ = some (.int .i64 sA) := (blk_cell cA.out 5).trans rfl
        have XD : wc.cell? ⟨dA, 6, none⟩ = some (.int .i64 yA) := (blk_cell cA.out 6).trans rfl
        have YD : wc.cell? ⟨dA, 7, none⟩ = some (.int .i64 pA) := (blk_cell cA.out 7).trans rfl
        have ZD : wc.cell? ⟨dA, 8, none⟩ = some (.int .i64 vA) := (blk_cell cA.out 8).trans rfl
        have aE : wc.cell? ⟨dA, 9, none⟩ = some (.bool rA) := (blk_cell cA.out 9).trans rfl
        have bE := blk_frozen cA.out 0
        have cE := blk_frozen cA.out 1
        have dE := blk_frozen cA.out 2
        have eE := blk_frozen cA.out 3
        have fE := blk_frozen cA.out 4
        have gE := blk_frozen cA.out 5
        have hE := blk_frozen cA.out 6
        have iE := blk_frozen cA.out 7
        have jE := blk_frozen cA.out 8
        have kE := blk_frozen cA.out 9
        go_wp2
        go_meet
        case rel => exact ⟨_, ((JI == 0)), q5_38, H', ⟨by have := HJ5.out; first | omega | exact Nat.le_refl _⟩, ⟨q5_37⟩, ⟨q5_21⟩, ⟨q5_17⟩, ⟨q5_22⟩, ⟨q5_23⟩, ⟨q5_24⟩, ⟨q5_25⟩, ⟨q5_0⟩⟩
       ·rw [if_neg c71] at H
        have QD : (kA == 2) = false := beq_eq_false_iff_ne.mpr c71
        have qG : (kA != 2) = true := bne_iff_ne.mpr c71
        (first | rw [QD] | (simp only [i64_w, i32_w]; rw [QD]) | skip)
        have H' := Aside0.mk H
        clear H
        have jN := UA.out
        have kN := KA.out
        have lN := fA.out
        have mN := wA.out
        have nN := aA.out
        have oN := xA.out
        have pN := VA.out
        have qN := PA.out
        have rN := TA.out
        have sN := QA.out
        have lE : wc.cell? ⟨dA, 0, none⟩ = some (.int .i64 kA) := (blk_cell cA.out 0).trans rfl
        have mE : wc.cell? ⟨dA, 1, none⟩ = some (.int .i64 mA) := (blk_cell cA.out 1).trans rfl
        have nE : wc.cell? ⟨dA, 2, none⟩ = some (.int .i64 nA) := (blk_cell cA.out 2).trans rfl
        have oE : wc.cell? ⟨dA, 3, none⟩ = some (.int .i64 jA) := (blk_cell cA.out 3).trans rfl
        have pE : wc.cell? ⟨dA, 4, none⟩ = some (.int .i64 oA) := (blk_cell cA.out 4).trans rfl
        have qE : wc.cell? ⟨dA, 5, none⟩ = some (.int .i64 sA) := (blk_cell cA.out 5).trans rfl
        have rE : wc.cell? ⟨dA, 6, none⟩ = some (.int .i64 yA) := (blk_cell cA.out 6).trans rfl
        have sE : wc.cell? ⟨dA, 7, none⟩ = some (.int .i64 pA) := (blk_cell cA.out 7).trans rfl
        have tE : wc.cell? ⟨dA, 8, none⟩ = some (.int .i64 vA) := (blk_cell cA.out 8).trans rfl
        have uE : wc.cell? ⟨dA, 9, none⟩ = some (.bool rA) := (blk_cell cA.out 9).trans rfl
        have vE := blk_frozen cA.out 0
        have wE := blk_frozen cA.out 1
        have xE := blk_frozen cA.out 2
        have yE := blk_frozen cA.out 3
        have zE := blk_frozen cA.out 4
        have AE := blk_frozen cA.out 5
        have BE := blk_frozen cA.out 6
        have CE := blk_frozen cA.out 7
        have DE := blk_frozen cA.out 8
        have EE := blk_frozen cA.out 9
        go_wp2
        go_meet
        case rel => exact ⟨_, (false), q5_38, H', ⟨by have := HJ5.out; first | omega | exact Nat.le_refl _⟩, ⟨q5_37⟩, ⟨q5_21⟩, ⟨q5_17⟩, ⟨q5_22⟩, ⟨q5_23⟩, ⟨q5_24⟩, ⟨q5_25⟩, ⟨q5_0⟩⟩
      case rest =>
       clear HC64
       (try clear c1); (try clear c2); (try clear p2); (try clear c3); (try clear c4); (try clear c5); (try clear c6); (try clear p6); (try clear c7); (try clear c8); (try clear c11); (try clear c12); (try clear c13); (try clear c17); (try clear c18); (try clear c19); (try clear c20); (try clear c22); (try clear c23); (try clear c28); (try clear c29); (try clear c30); (try clear c31); (try clear c32); (try clear c34); (try clear c35); (try clear c36); (try clear c37); (try clear c38); (try clear c39); (try clear c40); (try clear c42); (try clear c43); (try clear c44); (try clear c45); (try clear c46); (try clear c47); (try clear c49); (try clear c50); (try clear c51); (try clear c52); (try clear c55); (try clear c56); (try clear c57); (try clear c58); (try clear c59); (try clear c61); (try clear vD); (try clear pG); (try clear c64); (try clear p64); (try clear c65); (try clear c66); (try clear c67); (try clear c68); (try clear c69); (try clear c71); (try clear QD); (try clear qG); (try clear c72); (try clear c73); (try clear c74); (try clear c75); (try clear c76); (try clear c78); (try clear c79); (try clear c80); (try clear c81); (try clear c82); (try clear OB); (try clear PB); (try clear QB); (try clear RB); (try clear SB); (try clear TB); (try clear UB); (try clear VB); (try clear WB); (try clear XB); (try clear iC); (try clear jC); (try clear kC); (try clear lC); (try clear qC); (try clear sC); (try clear uC); (try clear FC); (try clear HC); (try clear IC); (try clear JC); (try clear KC); (try clear LC); (try clear MC); (try clear NC); (try clear OC); (try clear PC); (try clear QC); (try clear bD); (try clear cD); (try clear dD); (try clear eD); (try clear fD); (try clear gD); (try clear hD); (try clear iD); (try clear jD); (try clear kD); (try clear wD); (try clear xD); (try clear yD); (try clear zD); (try clear AD); (try clear BD); (try clear CD); (try clear DD); (try clear ED); (try clear FD); (try clear RD); (try clear SD); (try clear TD); (try clear UD); (try clear VD); (try clear WD); (try clear XD); (try clear YD); (try clear ZD); (try clear aE); (try clear lE); (try clear mE); (try clear nE); (try clear oE); (try clear pE); (try clear qE); (try clear rE); (try clear sE); (try clear tE); (try clear uE); (try clear YB); (try clear ZB); (try clear aC); (try clear bC); (try clear cC); (try clear dC); (try clear eC); (try clear fC); (try clear gC); (try clear hC); (try clear mC); (try clear nC); (try clear oC); (try clear pC); (try clear rC); (try clear tC); (try clear vC); (try clear GC); (try clear RC); (try clear SC); (try clear TC); (try clear UC); (try clear VC); (try clear WC); (try clear XC); (try clear YC); (try clear ZC); (try clear aD); (try clear lD); (try clear mD); (try clear nD); (try clear oD); (try clear pD); (try clear qD); (try clear rD); (try clear sD); (try clear tD); (try clear uD); (try clear GD); (try clear HD); (try clear ID); (try clear JD); (try clear KD); (try clear LD); (try clear MD); (try clear ND); (try clear OD); (try clear PD); (try clear bE); (try clear cE); (try clear dE); (try clear eE); (try clear fE); (try clear gE); (try clear hE); (try clear iE); (try clear jE); (try clear kE); (try clear vE); (try clear wE); (try clear xE); (try clear yE); (try clear zE); (try clear AE); (try clear BE); (try clear CE); (try clear DE); (try clear EE); (try clear p2); (try clear p6)
       obtain ⟨kq, fG, rfl, HA, HJ63, hA, qA, cA, lA, eA, zA, GA, HB⟩ := hcut
       cases kq with
       | zero => exact absurd HA.out (by simp [spec_StStep.j1])
       | succ kj63 =>
        have H := HA.out
        clear HA
        simp only [spec_StStep.j1] at H
        by_cases c84 : fG = true
        ·subst c84
         rw [if_pos rfl] at H
         replace H := Option.bind_eq_some_iff.mp H
         obtain ⟨⟨cF, fF, YF, gG, rG, VH, dI, mI, qI, wI⟩, A850, H⟩ := H
         (try dsimp only at H)
         have A85 := Aside0.mk A850
         clear A850
         simp only [Option.some.injEq, Prod.mk.injEq] at H
         obtain ⟨rfl, rfl, rfl, rfl, rfl, rfl, rfl, rfl, rfl, rfl, rfl, rfl⟩ := H
         try go_wp2
         have AB := Aside0.mk (Kd.R_drew hA.out)
         have LB := Aside0.mk (blk_drew qA.out)
         have BB := Aside0.mk (blk_drew cA.out)
         have CB := Aside0.mk (blk_drew lA.out)
         have IB := Aside0.mk (blk_drew eA.out)
         have DC := Aside0.mk (blk_drew zA.out)
         have MB := Aside0.mk (blk_drew GA.out)
         have EC := Aside0.mk (below_drew1 HB.out)
         clear hA qA cA lA eA zA GA HB
         have hA := AB
         have qA := LB
         have cA := BB
         have lA := CB
         have eA := IB
         have zA := DC
         have GA := MB
         have HB := EC
         clear AB LB BB CB IB DC MB EC
         refine start_ (n := 6) (S := fun w' => w'.cell? ⟨ZA, 0, none⟩ = some (.slice lB cB.length mB) ∧ w'.cell? ⟨dA, 0, none⟩ = some (.int .i64 kA) ∧ w'.cell? ⟨dA, 1, none⟩ = some (.int .i64 mA) ∧ w'.cell? ⟨dA, 2, none⟩ = some (.int .i64 nA) ∧ w'.cell? ⟨dA, 3, none⟩ = some (.int .i64 (wrap64 (jA + 1))) ∧ w'.cell? ⟨dA, 4, none⟩ = some (.int .i64 oA) ∧ w'.cell? ⟨dA, 5, none⟩ = some (.int .i64 sA) ∧ w'.cell? ⟨dA, 6, none⟩ = some (.int .i64 BC) ∧ w'.cell? ⟨dA, 7, none⟩ = some (.int .i64 pA) ∧ w'.cell? ⟨dA, 8, none⟩ = some (.int .i64 vA) ∧ w'.cell? ⟨dA, 9, none⟩ = some (.bool rA)) (ds := []) #[F,F,F,F,F,F] q5_39 rfl rfl ⟨(blk_cell GA.out 0).trans rfl, (blk_cell cA.out 0).trans rfl, (blk_cell cA.out 1).trans rfl, (blk_cell cA.out 2).trans rfl, (blk_cell cA.out 3).trans rfl, (blk_cell cA.out 4).trans rfl, (blk_cell cA.out 5).trans rfl, (blk_cell cA.out 6).trans rfl, (blk_cell cA.out 7).trans rfl, (blk_cell cA.out 8).trans rfl, (blk_cell cA.out 9).trans rfl⟩ (fun hHeld => ?_)
         generalize wc.drew = pO at hA qA cA lA eA zA GA HB hHeld ⊢
         refine take_ (i := 0) (N := some 70) (v := ?_) (a' := ?_) #[T,F,F,F,F,F] rfl rfl q5_39 (fun _ _ _ h => h) (Or.inl ⟨by rfl, ?_⟩) hHeld ?_ ?_
         rotate_left
         ·rintro w' ⟨s0, s1, s2, s3, s4, s5, s6, s7, s8, s9, KI⟩
          go_simp
          with_reducible rfl
         rotate_left
         ·simp only [Act.put, List.setIfInBounds_toArray, List.set_cons_zero, List.set_cons_succ, i64_w, i32_w]
          rfl
         refine take_ (i := 1) (N := some 71) (v := ?_) (a' := ?_) #[T,T,F,F,F,F] rfl rfl q5_39 (fun _ _ _ h => h) (Or.inl ⟨by rfl, ?_⟩) hHeld ?_ ?_
         rotate_left
         ·rintro w' ⟨s0, s1, s2, s3, s4, s5, s6, s7, s8, s9, KI⟩
          go_simp
          with_reducible rfl
         rotate_left
         ·simp only [Act.put, List.setIfInBounds_toArray, List.set_cons_zero, List.set_cons_succ, i64_w, i32_w]
          rfl
         refine one_ (i := 2) (N := some 72) #[T,T,T,F,F,F] rfl rfl q5_39 (by decide) (fun K hK => ?_)
         refine goes_ Try.func66 q5_39 rfl #[.agg #[.int .i64 kA, .int .i64 mA, .int .i64 nA, .int .i64 (wrap64 (jA + 1)), .int .i64 oA, .int .i64 sA, .int .i64 BC, .int .i64 pA, .int .i64 vA, .bool rA], .int .i64 2] (by rfl) rfl rfl q5_7 ?_
         with_reducible refine (spec_l03End.calls kA mA nA (wrap64 (jA + 1)) oA sA BC pA vA rA 2 cF fF YF gG rG VH dI mI qI wI _ A85.out).mono ?_
         rintro e nI ⟨rfl, hb⟩
         refine ⟨_, rfl, ?_⟩
         have AB := Aside0.mk (Kd.R_below q5_16 hb)
         have BB := Aside0.mk (blk_below (g := dA) (o := .cells #[.int .i64 kA, .int .i64 mA, .int .i64 nA, .int .i64 (wrap64 (jA + 1)), .int .i64 oA, .int .i64 sA, .int .i64 BC, .int .i64 pA, .int .i64 vA, .bool rA] 23 (0, 0)) q5_2 hb)
         have CB := Aside0.mk (blk_below (g := iA) (o := .cells #[.slice none 0 0] 29 (0, 0)) q5_3 hb)
         have IB := Aside0.mk (blk_below (g := bA) (o := .cells #[.int .i64 0, .int .i64 0, .int .i64 0, .int .i64 0, .int .i64 0, .int .i64 0, .int .i64 0, .int .i64 0, .int .i64 0, .bool false] 23 (0, 0)) q5_4 hb)
         have MB := Aside0.mk (blk_below (g := ZA) (o := .cells #[.slice lB cB.length mB] 29 (0, 0)) q5_14 hb)
         have EC := Aside0.mk (below_step q5_0 hb)
         clear hA qA cA lA eA zA GA HB
         have hA := AB
         have cA := BB
         have lA := CB
         have eA := IB
         have GA := MB
         have HB := EC
         clear AB BB CB IB MB EC
         (try clear hb)
         (try clear hb2)
         (try clear hk)
         (try clear hi)
         refine hK.out _ _ ⟨(blk_cell GA.out 0).trans rfl, (blk_cell cA.out 0).trans rfl, (blk_cell cA.out 1).trans rfl, (blk_cell cA.out 2).trans rfl, (blk_cell cA.out 3).trans rfl, (blk_cell cA.out 4).trans rfl, (blk_cell cA.out 5).trans rfl, (blk_cell cA.out 6).trans rfl, (blk_cell cA.out 7).trans rfl, (blk_cell cA.out 8).trans rfl, (blk_cell cA.out 9).trans rfl⟩ (fun hHeld => ?_)
         clear hK K
         refine norm_ (a' := ?_) ?_ ?_
         rotate_left
         ·show Act.put _ (some 72) _ = _
          simp only [Act.put, List.setIfInBounds_toArray, List.set_cons_zero, List.set_cons_succ, i64_w, i32_w]
          rfl
         refine one_ (i := 3) (N := none) #[T,T,T,T,F,F] rfl rfl q5_39 (by decide) (fun K hK => ?_)
         have bO : nI.cell? ⟨iA, 0, none⟩ = some (.slice none 0 0) := (blk_cell lA.out 0).trans rfl
         have tN := blk_frozen lA.out 0
         have vJ := pB.out
         have wJ := fA.out
         have xJ := iB.out
         have yJ := DB.out
         have zJ := jB.out
         have AJ := qB.out
         have BJ := wA.out
         have CJ := zB.out
         have DJ := tB.out
         have EJ := nB.out
         refine skip_ (w1 := ?_) (by rfl) rfl ?_ ?_
         rotate_left
         ·go_simp
          rfl
         refine hK.out _ _ ⟨((cell_far (p := ⟨iA, _, none⟩) jB.out _).trans (hHeld.1)), ((cell_far (p := ⟨iA, _, none⟩) fA.out _).trans (hHeld.2.1)), ((cell_far (p := ⟨iA, _, none⟩) fA.out _).trans (hHeld.2.2.1)), ((cell_far (p := ⟨iA, _, none⟩) fA.out _).trans (hHeld.2.2.2.1)), ((cell_far (p := ⟨iA, _, none⟩) fA.out _).trans (hHeld.2.2.2.2.1)), ((cell_far (p := ⟨iA, _, none⟩) fA.out _).trans (hHeld.2.2.2.2.2.1)), ((cell_far (p := ⟨iA, _, none⟩) fA.out _).trans (hHeld.2.2.2.2.2.2.1)), ((cell_far (p := ⟨iA, _, none⟩) fA.out _).trans (hHeld.2.2.2.2.2.2.2.1)), ((cell_far (p := ⟨iA, _, none⟩) fA.out _).trans (hHeld.2.2.2.2.2.2.2.2.1)), ((cell_far (p := ⟨iA, _, none⟩) fA.out _).trans (hHeld.2.2.2.2.2.2.2.2.2.1)), ((cell_far (p := ⟨iA, _, none⟩) fA.out _).trans (hHeld.2.2.2.2.2.2.2.2.2.2))⟩ (fun hHeld => ?_)
         clear hK K
         refine one_ (i := 4) (N := none) #[T,T,T,T,T,F] rfl rfl q5_39 (by decide) (fun K hK => ?_)
         have cO : nI.cell? ⟨bA, 0, none⟩ = some (.int .i64 0) := (blk_cell eA.out 0).trans rfl
         have uN := blk_frozen eA.out 0
         have FJ := rB.out
         have GJ := aA.out
         have HJ := EB.out
         have IJ := gA.out
         have JJ := sB.out
         have KJ := xA.out
         have LJ := uB.out
         have MJ := oB.out
         have dO : nI.cell? ⟨bA, 1, none⟩ = some (.int .i64 0) := (blk_cell eA.out 1).trans rfl
         have vN := blk_frozen eA.out 1
         have eO : nI.cell? ⟨bA, 2, none⟩ = some (.int .i64 0) := (blk_cell eA.out 2).trans rfl
         have wN := blk_frozen eA.out 2
         have fO : nI.cell? ⟨bA, 3, none⟩ = some (.int .i64 0) := (blk_cell eA.out 3).trans rfl
         have xN := blk_frozen eA.out 3
         have gO : nI.cell? ⟨bA, 4, none⟩ = some (.int .i64 0) := (blk_cell eA.out 4).trans rfl
         have yN := blk_frozen eA.out 4
         have hO : nI.cell? ⟨bA, 5, none⟩ = some (.int .i64 0) := (blk_cell eA.out 5).trans rfl
         have zN := blk_frozen eA.out 5
         have iO : nI.cell? ⟨bA, 6, none⟩ = some (.int .i64 0) := (blk_cell eA.out 6).trans rfl
         have AN := blk_frozen eA.out 6
         have jO : nI.cell? ⟨bA, 7, none⟩ = some (.int .i64 0) := (blk_cell eA.out 7).trans rfl
         have BN := blk_frozen eA.out 7
         have kO : nI.cell? ⟨bA, 8, none⟩ = some (.int .i64 0) := (blk_cell eA.out 8).trans rfl
         have CN := blk_frozen eA.out 8
         have lO : nI.cell? ⟨bA, 9, none⟩ = some (.bool false) := (blk_cell eA.out 9).trans rfl
         have DN := blk_frozen eA.out 9
         refine skip_ (w1 := ?_) (by rfl) rfl ?_ ?_
         rotate_left
         ·go_simp
          rfl
         refine hK.out _ _ ⟨((cell_far (p := ⟨bA, _, none⟩) gA.out _).trans (((cell_far (p := ⟨bA, _, none⟩) gA.out _).trans (((cell_far (p := ⟨bA, _, none⟩) gA.out _).trans (((cell_far (p := ⟨bA, _, none⟩) gA.out _).trans (((cell_far (p := ⟨bA, _, none⟩) gA.out _).trans (((cell_far (p := ⟨bA, _, none⟩) gA.out _).trans (((cell_far (p := ⟨bA, _, none⟩) gA.out _).trans (((cell_far (p := ⟨bA, _, none⟩) gA.out _).trans (((cell_far (p := ⟨bA, _, none⟩) gA.out _).trans (((cell_far (p := ⟨bA, _, none⟩) gA.out _).trans (hHeld.1)))))))))))))))))))), ((cell_far (p := ⟨bA, _, none⟩) aA.out _).trans (((cell_far (p := ⟨bA, _, none⟩) aA.out _).trans (((cell_far (p := ⟨bA, _, none⟩) aA.out _).trans (((cell_far (p := ⟨bA, _, none⟩) aA.out _).trans (((cell_far (p := ⟨bA, _, none⟩) aA.out _).trans (((cell_far (p := ⟨bA, _, none⟩) aA.out _).trans (((cell_far (p := ⟨bA, _, none⟩) aA.out _).trans (((cell_far (p := ⟨bA, _, none⟩) aA.out _).trans (((cell_far (p := ⟨bA, _, none⟩) aA.out _).trans (((cell_far (p := ⟨bA, _, none⟩) aA.out _).trans (hHeld.2.1)))))))))))))))))))), ((cell_far (p := ⟨bA, _, none⟩) aA.out _).trans (((cell_far (p := ⟨bA, _, none⟩) aA.out _).trans (((cell_far (p := ⟨bA, _, none⟩) aA.out _).trans (((cell_far (p := ⟨bA, _, none⟩) aA.out _).trans (((cell_far (p := ⟨bA, _, none⟩) aA.out _).trans (((cell_far (p := ⟨bA, _, none⟩) aA.out _).trans (((cell_far (p := ⟨bA, _, none⟩) aA.out _).trans (((cell_far (p := ⟨bA, _, none⟩) aA.out _).trans (((cell_far (p := ⟨bA, _, none⟩) aA.out _).trans (((cell_far (p := ⟨bA, _, none⟩) aA.out _).trans (hHeld.2.2.1)))))))))))))))))))), ((cell_far (p := ⟨bA, _, none⟩) aA.out _).trans (((cell_far (p := ⟨bA, _, none⟩) aA.out _).trans (((cell_far (p := ⟨bA, _, none⟩) aA.out _).trans (((cell_far (p := ⟨bA, _, none⟩) aA.out _).trans (((cell_far (p := ⟨bA, _, none⟩) aA.out _).trans (((cell_far (p := ⟨bA, _, none⟩) aA.out _).trans (((cell_far (p := ⟨bA, _, none⟩) aA.out _).trans (((cell_far (p := ⟨bA, _, none⟩) aA.out _).trans (((cell_far (p := ⟨bA, _, none⟩) aA.out _).trans (((cell_far (p := ⟨bA, _, none⟩) aA.out _).trans (hHeld.2.2.2.1)))))))))))))))))))), ((cell_far (p := ⟨bA, _, none⟩) aA.out _).trans (((cell_far (p := ⟨bA, _, none⟩) aA.out _).trans (((cell_far (p := ⟨bA, _, none⟩) aA.out _).trans (((cell_far (p := ⟨bA, _, none⟩) aA.out _).trans (((cell_far (p := ⟨bA, _, none⟩) aA.out _).trans (((cell_far (p := ⟨bA, _, none⟩) aA.out _).trans (((cell_far (p := ⟨bA, _, none⟩) aA.out _).trans (((cell_far (p := ⟨bA, _, none⟩) aA.out _).trans (((cell_far (p := ⟨bA, _, none⟩) aA.out _).trans (((cell_far (p := ⟨bA, _, none⟩) aA.out _).trans (hHeld.2.2.2.2.1)))))))))))))))))))), ((cell_far (p := ⟨bA, _, none⟩) aA.out _).trans (((cell_far (p := ⟨bA, _, none⟩) aA.out _).trans (((cell_far (p := ⟨bA, _, none⟩) aA.out _).trans (((cell_far (p := ⟨bA, _, none⟩) aA.out _).trans (((cell_far (p := ⟨bA, _, none⟩) aA.out _).trans (((cell_far (p := ⟨bA, _, none⟩) aA.out _).trans (((cell_far (p := ⟨bA, _, none⟩) aA.out _).trans (((cell_far (p := ⟨bA, _, none⟩) aA.out _).trans (((cell_far (p := ⟨bA, _, none⟩) aA.out _).trans (((cell_far (p := ⟨bA, _, none⟩) aA.out _).trans (hHeld.2.2.2.2.2.1)))))))))))))))))))), ((cell_far (p := ⟨bA, _, none⟩) aA.out _).trans (((cell_far (p := ⟨bA, _, none⟩) aA.out _).trans (((cell_far (p := ⟨bA, _, none⟩) aA.out _).trans (((cell_far (p := ⟨bA, _, none⟩) aA.out _).trans (((cell_far (p := ⟨bA, _, none⟩) aA.out _).trans (((cell_far (p := ⟨bA, _, none⟩) aA.out _).trans (((cell_far (p := ⟨bA, _, none⟩) aA.out _).trans (((cell_far (p := ⟨bA, _, none⟩) aA.out _).trans (((cell_far (p := ⟨bA, _, none⟩) aA.out _).trans (((cell_far (p := ⟨bA, _, none⟩) aA.out _).trans (hHeld.2.2.2.2.2.2.1)))))))))))))))))))), ((cell_far (p := ⟨bA, _, none⟩) aA.out _).trans (((cell_far (p := ⟨bA, _, none⟩) aA.out _).trans (((cell_far (p := ⟨bA, _, none⟩) aA.out _).trans (((cell_far (p := ⟨bA, _, none⟩) aA.out _).trans (((cell_far (p := ⟨bA, _, none⟩) aA.out _).trans (((cell_far (p := ⟨bA, _, none⟩) aA.out _).trans (((cell_far (p := ⟨bA, _, none⟩) aA.out _).trans (((cell_far (p := ⟨bA, _, none⟩) aA.out _).trans (((cell_far (p := ⟨bA, _, none⟩) aA.out _).trans (((cell_far (p := ⟨bA, _, none⟩) aA.out _).trans (hHeld.2.2.2.2.2.2.2.1)))))))))))))))))))), ((cell_far (p := ⟨bA, _, none⟩) aA.out _).trans (((cell_far (p := ⟨bA, _, none⟩) aA.out _).trans (((cell_far (p := ⟨bA, _, none⟩) aA.out _).trans (((cell_far (p := ⟨bA, _, none⟩) aA.out _).trans (((cell_far (p := ⟨bA, _, none⟩) aA.out _).trans (((cell_far (p := ⟨bA, _, none⟩) aA.out _).trans (((cell_far (p := ⟨bA, _, none⟩) aA.out _).trans (((cell_far (p := ⟨bA, _, none⟩) aA.out _).trans (((cell_far (p := ⟨bA, _, none⟩) aA.out _).trans (((cell_far (p := ⟨bA, _, none⟩) aA.out _).trans (hHeld.2.2.2.2.2.2.2.2.1)))))))))))))))))))), ((cell_far (p := ⟨bA, _, none⟩) aA.out _).trans (((cell_far (p := ⟨bA, _, none⟩) aA.out _).trans (((cell_far (p := ⟨bA, _, none⟩) aA.out _).trans (((cell_far (p := ⟨bA, _, none⟩) aA.out _).trans (((cell_far (p := ⟨bA, _, none⟩) aA.out _).trans (((cell_far (p := ⟨bA, _, none⟩) aA.out _).trans (((cell_far (p := ⟨bA, _, none⟩) aA.out _).trans (((cell_far (p := ⟨bA, _, none⟩) aA.out _).trans (((cell_far (p := ⟨bA, _, none⟩) aA.out _).trans (((cell_far (p := ⟨bA, _, none⟩) aA.out _).trans (hHeld.2.2.2.2.2.2.2.2.2.1)))))))))))))))))))), ((cell_far (p := ⟨bA, _, none⟩) aA.out _).trans (((cell_far (p := ⟨bA, _, none⟩) aA.out _).trans (((cell_far (p := ⟨bA, _, none⟩) aA.out _).trans (((cell_far (p := ⟨bA, _, none⟩) aA.out _).trans (((cell_far (p := ⟨bA, _, none⟩) aA.out _).trans (((cell_far (p := ⟨bA, _, none⟩) aA.out _).trans (((cell_far (p := ⟨bA, _, none⟩) aA.out _).trans (((cell_far (p := ⟨bA, _, none⟩) aA.out _).trans (((cell_far (p := ⟨bA, _, none⟩) aA.out _).trans (((cell_far (p := ⟨bA, _, none⟩) aA.out _).trans (hHeld.2.2.2.2.2.2.2.2.2.2))))))))))))))))))))⟩ (fun hHeld => ?_)
         clear hK K
         refine pure_ (i := 5) (N := some 8) (v := ?_) (a' := ?_) #[T,T,T,T,T,T] rfl rfl q5_39 (fun _ _ _ h => h) (Or.inl ⟨by rfl, ?_⟩) ?_ ?_
         rotate_left
         ·intro w'
          go_simp
          with_reducible rfl
         rotate_left
         ·simp only [Act.put, List.setIfInBounds_toArray, List.set_cons_zero, List.set_cons_succ, i64_w, i32_w]
          rfl
         refine done_ q5_39 ?_
         try go_wp2
         refine bodyPost_ret (results_list (rs := [.cell 6 29, .cell 7 23, .tmp 8]) rfl (by simp) (.cell iA 29 #[.slice lB cB.length mB] (0, 0) _ rfl q5_6 Try.underlying29 rfl q5_39 (.cell bA 23 #[.int .i64 cF, .int .i64 fF, .int .i64 YF, .int .i64 gG, .int .i64 rG, .int .i64 VH, .int .i64 dI, .int .i64 mI, .int .i64 qI, .bool wI] (0, 0) _ rfl (by (with_reducible repeat (first | refine blk_drewN ?_ _ | refine blk_drew ?_ | refine blk_alloc ?_ _)); refine blk_put (cs := #[.int .i64 cF, .int .i64 fF, .int .i64 YF, .int .i64 gG, .int .i64 rG, .int .i64 VH, .int .i64 dI, .int .i64 mI, .int .i64 qI, .bool false]) ?_ 9 _ rfl; (with_reducible repeat (first | refine blk_drewN ?_ _ | refine blk_drew ?_ | refine blk_alloc ?_ _)); refine blk_put (cs := #[.int .i64 cF, .int .i64 fF, .int .i64 YF, .int .i64 gG, .int .i64 rG, .int .i64 VH, .int .i64 dI, .int .i64 mI, .int .i64 0, .bool false]) ?_ 8 _ rfl; (with_reducible repeat (first | refine blk_drewN ?_ _ | refine blk_drew ?_ | refine blk_alloc ?_ _)); refine blk_put (cs := #[.int .i64 cF, .int .i64 fF, .int .i64 YF, .int .i64 gG, .int .i64 rG, .int .i64 VH, .int .i64 dI, .int .i64 0, .int .i64 0, .bool false]) ?_ 7 _ rfl; (with_reducible repeat (first | refine blk_drewN ?_ _ | refine blk_drew ?_ | refine blk_alloc ?_ _)); refine blk_put (cs := #[.int .i64 cF, .int .i64 fF, .int .i64 YF, .int .i64 gG, .int .i64 rG, .int .i64 VH, .int .i64 0, .int .i64 0, .int .i64 0, .bool false]) ?_ 6 _ rfl; (with_reducible repeat (first | refine blk_drewN ?_ _ | refine blk_drew ?_ | refine blk_alloc ?_ _)); refine blk_put (cs := #[.int .i64 cF, .int .i64 fF, .int .i64 YF, .int .i64 gG, .int .i64 rG, .int .i64 0, .int .i64 0, .int .i64 0, .int .i64 0, .bool false]) ?_ 5 _ rfl; (with_reducible repeat (first | refine blk_drewN ?_ _ | refine blk_drew ?_ | refine blk_alloc ?_ _)); refine blk_put (cs := #[.int .i64 cF, .int .i64 fF, .int .i64 YF, .int .i64 gG, .int .i64 0, .int .i64 0, .int .i64 0, .int .i64 0, .int .i64 0, .bool false]) ?_ 4 _ rfl; (with_reducible repeat (first | refine blk_drewN ?_ _ | refine blk_drew ?_ | refine blk_alloc ?_ _)); refine blk_put (cs := #[.int .i64 cF, .int .i64 fF, .int .i64 YF, .int .i64 0, .int .i64 0, .int .i64 0, .int .i64 0, .int .i64 0, .int .i64 0, .bool false]) ?_ 3 _ rfl; (with_reducible repeat (first | refine blk_drewN ?_ _ | refine blk_drew ?_ | refine blk_alloc ?_ _)); refine blk_put (cs := #[.int .i64 cF, .int .i64 fF, .int .i64 0, .int .i64 0, .int .i64 0, .int .i64 0, .int .i64 0, .int .i64 0, .int .i64 0, .bool false]) ?_ 2 _ rfl; (with_reducible repeat (first | refine blk_drewN ?_ _ | refine blk_drew ?_ | refine blk_alloc ?_ _)); refine blk_put (cs := #[.int .i64 cF, .int .i64 0, .int .i64 0, .int .i64 0, .int .i64 0, .int .i64 0, .int .i64 0, .int .i64 0, .int .i64 0, .bool false]) ?_ 1 _ rfl; (with_reducible repeat (first | refine blk_drewN ?_ _ | refine blk_drew ?_ | refine blk_alloc ?_ _)); refine blk_put (cs := #[.int .i64 0, .int .i64 0, .int .i64 0, .int .i64 0, .int .i64 0, .int .i64 0, .int .i64 0, .int .i64 0, .int .i64 0, .bool false]) ?_ 0 _ rfl; (with_reducible repeat (first | refine blk_drewN ?_ _ | refine blk_drew ?_ | refine blk_alloc ?_ _)); refine blk_far ?_ iB.out _; (with_reducible repeat (first | refine blk_drewN ?_ _ | refine blk_drew ?_ | refine blk_alloc ?_ _)); exact eA.out) Try.underlying23 rfl q5_39 (.tmp .nil)))) rfl ?_
         exact ⟨_, q5_41, by (with_reducible repeat (first | apply Kd.R_alloc | apply Kd.R_drewN | apply Kd.R_drew)); exact Kd.R_mono (Kd.R_far (p := ⟨bA, 9, none⟩) (Kd.R_far (p := ⟨bA, 8, none⟩) (Kd.R_far (p := ⟨bA, 7, none⟩) (Kd.R_far (p := ⟨bA, 6, none⟩) (Kd.R_far (p := ⟨bA, 5, none⟩) (Kd.R_far (p := ⟨bA, 4, none⟩) (Kd.R_far (p := ⟨bA, 3, none⟩) (Kd.R_far (p := ⟨bA, 2, none⟩) (Kd.R_far (p := ⟨bA, 1, none⟩) (Kd.R_far (p := ⟨bA, 0, none⟩) (Kd.R_far (p := ⟨iA, 0, none⟩) (Kd.R_types (Kd.R_types hA.out lA.out (by decide)) eA.out (by decide)) (fun _ hk => hk.1.2) (.slice lB cB.length mB)) (fun _ hk => hk.2) (.int .i64 cF)) (fun _ hk => hk.2) (.int .i64 fF)) (fun _ hk => hk.2) (.int .i64 YF)) (fun _ hk => hk.2) (.int .i64 gG)) (fun _ hk => hk.2) (.int .i64 rG)) (fun _ hk => hk.2) (.int .i64 VH)) (fun _ hk => hk.2) (.int .i64 dI)) (fun _ hk => hk.2) (.int .i64 mI)) (fun _ hk => hk.2) (.int .i64 qI)) (fun _ hk => hk.2) (.bool wI)) (fun _ hk => trivial), q5_0⟩
        ·replace c84 := Bool.eq_false_iff.mpr c84
         subst c84
         rw [if_neg (show ¬ (false = true) by decide)] at H
         have H' := Aside0.mk H
         clear H
         go_wp2
         go_meet
         case rel => exact ⟨_, ((wrap64 (jA + 1))), (sA), (BC), (vA), (0), (0), (0), (0), (0), (0), (0), (0), (0), (false), H', ⟨by have := HJ5.out; have := HJ63.out; first | omega | exact Nat.le_refl _⟩, ⟨q5_16⟩, ⟨q5_1⟩, ⟨q5_2⟩, ⟨q5_3⟩, ⟨q5_4⟩, ⟨q5_13⟩, ⟨q5_14⟩, ⟨q5_0⟩⟩
     ·rw [if_neg c61] at H
      have vD : (jA == 0) = false := beq_eq_false_iff_ne.mpr c61
      have pG : (jA != 0) = true := bne_iff_ne.mpr c61
      (first | rw [vD] | (simp only [i64_w, i32_w]; rw [vD]) | skip)
      have HC99 := Aside0.mk H
      clear H
      go_upto_region 12 with (fail)
      go_cut [73] (fun v73 wc => ∃ (kq : Nat) (hG : Bool), v73 = .bool hG ∧ Aside0 (spec_StStep.j2 kq aF jA hG kA mA nA (wrap64 (jA + 1)) oA sA yA pA vA rA cB = some (r1, r2, r3, r4, r5, r6, r7, r8, r9, r10, r11, r12)) ∧ Aside0 (kq ≤ kj5) ∧ Aside0 (Kd.R (Kd.int .i64) 3 wc w.heap.size (fun _ => True) (.slice lB cB.length mB) cB) ∧ Aside0 (wc.heap[SA]? = some (.cells #[(.slice xB fB.length yB)] 29 (0, 0))) ∧ Aside0 (wc.heap[dA]? = some (.cells #[.int .i64 kA, .int .i64 mA, .int .i64 nA, .int .i64 (wrap64 (jA + 1)), .int .i64 oA, .int .i64 sA, .int .i64 yA, .int .i64 pA, .int .i64 vA, .bool rA] 23 (0, 0))) ∧ Aside0 (wc.heap[iA]? = some (.cells #[(.slice none 0 0)] 29 (0, 0))) ∧ Aside0 (wc.heap[bA]? = some (.cells #[.int .i64 0, .int .i64 0, .int .i64 0, .int .i64 0, .int .i64 0, .int .i64 0, .int .i64 0, .int .i64 0, .int .i64 0, .bool false] 23 (0, 0))) ∧ Aside0 (wc.heap[YA]? = some (.cells #[.int .i64 KB, .int .i64 wC, .int .i64 zC, .int .i64 CC] 37 (0, 0))) ∧ Aside0 (wc.heap[ZA]? = some (.cells #[(.slice lB cB.length mB)] 29 (0, 0))) ∧ Aside0 (Below w.heap.size w wc))
      case first =>
       have H := HC99.out
       clear HC99
       by_cases c100 : jA = 1
       ·rw [if_pos c100] at H
        have GB : (jA == 1) = true := beq_iff_eq.mpr c100
        have gF : (jA != 1) = false := bne_eq_false_iff_eq.mpr c100
        clear c100
        (first | rw [GB] | (simp only [i64_w, i32_w]; rw [GB]) | skip)
        have H' := Aside0.mk H
        clear H
        have PJ := UA.out
        have QJ := KA.out
        have RJ := fA.out
        have SJ := wA.out
        have TJ := aA.out
        have UJ := xA.out
        have VJ := VA.out
        have WJ := PA.out
        have XJ := TA.out
        have YJ := QA.out
        have FE : wc.cell? ⟨dA, 0, none⟩ = some (.int .i64 kA) := (blk_cell cA.out 0).trans rfl
        have GE : wc.cell? ⟨dA, 1, none⟩ = some (.int .i64 mA) := (blk_cell cA.out 1).trans rfl
        have HE : wc.cell? ⟨dA, 2, none⟩ = some (.int .i64 nA) := (blk_cell cA.out 2).trans rfl
        have IE : wc.cell? ⟨dA, 3, none⟩ = some (.int .i64 jA) := (blk_cell cA.out 3).trans rfl
        have JE : wc.cell? ⟨dA, 4, none⟩ = some (.int .i64 oA) := (blk_cell cA.out 4).trans rfl
        have KE : wc.cell? ⟨dA, 5, none⟩ = some (.int .i64 sA) := (blk_cell cA.out 5).trans rfl
        have LE : wc.cell? ⟨dA, 6, none⟩ = some (.int .i64 yA) := (blk_cell cA.out 6).trans rfl
        have ME : wc.cell? ⟨dA, 7, none⟩ = some (.int .i64 pA) := (blk_cell cA.out 7).trans rfl
        have NE : wc.cell? ⟨dA, 8, none⟩ = some (.int .i64 vA) := (blk_cell cA.out 8).trans rfl
        have OE : wc.cell? ⟨dA, 9, none⟩ = some (.bool rA) := (blk_cell cA.out 9).trans rfl
        have PE := blk_frozen cA.out 0
        have QE := blk_frozen cA.out 1
        have RE := blk_frozen cA.out 2
        have SE := blk_frozen cA.out 3
        have TE := blk_frozen cA.out 4
        have UE := blk_frozen cA.out 5
        have VE := blk_frozen cA.out 6
        have WE := blk_frozen cA.out 7
        have XE := blk_frozen cA.out 8
        have YE := blk_frozen cA.out 9
        go_wp2
        go_meet
        case rel => exact ⟨_, ((kA == 2)), q5_38, H', ⟨by have := HJ5.out; first | omega | exact Nat.le_refl _⟩, ⟨q5_42⟩, ⟨q5_8⟩, ⟨q5_35⟩, ⟨q5_9⟩, ⟨q5_10⟩, ⟨q5_11⟩, ⟨q5_12⟩, ⟨q5_0⟩⟩
       ·rw [if_neg c100] at H
        have GB : (jA == 1) = false := beq_eq_false_iff_ne.mpr c100
        have gF : (jA != 1) = true := bne_iff_ne.mpr c100
        (first | rw [GB] | (simp only [i64_w, i32_w]; rw [GB]) | skip)
        have H' := Aside0.mk H
        clear H
        go_wp2
        go_meet
        case rel => exact ⟨_, (false), q5_38, H', ⟨by have := HJ5.out; first | omega | exact Nat.le_refl _⟩, ⟨q5_42⟩, ⟨q5_8⟩, ⟨q5_35⟩, ⟨q5_9⟩, ⟨q5_10⟩, ⟨q5_11⟩, ⟨q5_12⟩, ⟨q5_0⟩⟩
      case rest =>
       clear HC99
       (try clear c1); (try clear c2); (try clear p2); (try clear c3); (try clear c4); (try clear c5); (try clear c6); (try clear p6); (try clear c7); (try clear c8); (try clear c10); (try clear c11); (try clear c12); (try clear c13); (try clear c17); (try clear c18); (try clear c19); (try clear c20); (try clear c22); (try clear c23); (try clear c28); (try clear c29); (try clear c30); (try clear c31); (try clear c32); (try clear c34); (try clear c35); (try clear c36); (try clear c37); (try clear c38); (try clear c39); (try clear c40); (try clear c42); (try clear c43); (try clear c44); (try clear c45); (try clear c46); (try clear c47); (try clear c49); (try clear c50); (try clear c51); (try clear c52); (try clear c55); (try clear c56); (try clear c57); (try clear c58); (try clear c59); (try clear c61); (try clear vD); (try clear pG); (try clear c64); (try clear p64); (try clear c65); (try clear c66); (try clear c67); (try clear c68); (try clear c69); (try clear c71); (try clear QD); (try clear qG); (try clear c72); (try clear c73); (try clear c74); (try clear c75); (try clear c76); (try clear c78); (try clear c79); (try clear c80); (try clear c81); (try clear c82); (try clear c84); (try clear c100); (try clear GB); (try clear gF); (try clear c101); (try clear c102); (try clear c103); (try clear c104); (try clear c105); (try clear FE); (try clear GE); (try clear HE); (try clear IE); (try clear JE); (try clear KE); (try clear LE); (try clear ME); (try clear NE); (try clear OE); (try clear OB); (try clear PB); (try clear QB); (try clear RB); (try clear SB); (try clear TB); (try clear UB); (try clear VB); (try clear WB); (try clear XB); (try clear iC); (try clear jC); (try clear kC); (try clear lC); (try clear qC); (try clear sC); (try clear uC); (try clear FC); (try clear HC); (try clear IC); (try clear JC); (try clear KC); (try clear LC); (try clear MC); (try clear NC); (try clear OC); (try clear PC); (try clear QC); (try clear bD); (try clear cD); (try clear dD); (try clear eD); (try clear fD); (try clear gD); (try clear hD); (try clear iD); (try clear jD); (try clear kD); (try clear wD); (try clear xD); (try clear yD); (try clear zD); (try clear AD); (try clear BD); (try clear CD); (try clear DD); (try clear ED); (try clear FD); (try clear RD); (try clear SD); (try clear TD); (try clear UD); (try clear VD); (try clear WD); (try clear XD); (try clear YD); (try clear ZD); (try clear aE); (try clear lE); (try clear mE); (try clear nE); (try clear oE); (try clear pE); (try clear qE); (try clear rE); (try clear sE); (try clear tE); (try clear uE); (try clear PE); (try clear QE); (try clear RE); (try clear SE); (try clear TE); (try clear UE); (try clear VE); (try clear WE); (try clear XE); (try clear YE); (try clear YB); (try clear ZB); (try clear aC); (try clear bC); (try clear cC); (try clear dC); (try clear eC); (try clear fC); (try clear gC); (try clear hC); (try clear mC); (try clear nC); (try clear oC); (try clear pC); (try clear rC); (try clear tC); (try clear vC); (try clear GC); (try clear RC); (try clear SC); (try clear TC); (try clear UC); (try clear VC); (try clear WC); (try clear XC); (try clear YC); (try clear ZC); (try clear aD); (try clear lD); (try clear mD); (try clear nD); (try clear oD); (try clear pD); (try clear qD); (try clear rD); (try clear sD); (try clear tD); (try clear uD); (try clear GD); (try clear HD); (try clear ID); (try clear JD); (try clear KD); (try clear LD); (try clear MD); (try clear ND); (try clear OD); (try clear PD); (try clear bE); (try clear cE); (try clear dE); (try clear eE); (try clear fE); (try clear gE); (try clear hE); (try clear iE); (try clear jE); (try clear kE); (try clear vE); (try clear wE); (try clear xE); (try clear yE); (try clear zE); (try clear AE); (try clear BE); (try clear CE); (try clear DE); (try clear EE); (try clear p2); (try clear p6); (try clear p64)
       obtain ⟨kq, hG, rfl, HA, HJ98, hA, qA, cA, lA, eA, zA, GA, HB⟩ := hcut
       cases kq with
       | zero => exact absurd HA.out (by simp [spec_StStep.j2])
       | succ kj98 =>
        have H := HA.out
        clear HA
        simp only [spec_StStep.j2] at H
        by_cases c107 : hG = true
        ·subst c107
         rw [if_pos rfl] at H
         replace H := Option.bind_eq_some_iff.mp H
         obtain ⟨vI, A1080, H⟩ := H
         (try dsimp only at H)
         have A108 := Aside0.mk A1080
         clear A1080
         by_cases c109 : vI = true
         ·subst c109
          rw [if_pos rfl] at H
          have H' := Aside0.mk H
          clear H
          have ZJ := UA.out
          have aK := KA.out
          have bK := fA.out
          have cK := wA.out
          have dK := aA.out
          have eK := xA.out
          have fK := VA.out
          have gK := PA.out
          have iK := TA.out
          have jK := QA.out
          have hF : wc.cell? ⟨dA, 0, none⟩ = some (.int .i64 kA) := (blk_cell cA.out 0).trans rfl
          have iF : wc.cell? ⟨dA, 1, none⟩ = some (.int .i64 mA) := (blk_cell cA.out 1).trans rfl
          have jF : wc.cell? ⟨dA, 2, none⟩ = some (.int .i64 nA) := (blk_cell cA.out 2).trans rfl
          have kF : wc.cell? ⟨dA, 3, none⟩ = some (.int .i64 (wrap64 (jA + 1))) := (blk_cell cA.out 3).trans rfl
          have lF : wc.cell? ⟨dA, 4, none⟩ = some (.int .i64 oA) := (blk_cell cA.out 4).trans rfl
          have mF : wc.cell? ⟨dA, 5, none⟩ = some (.int .i64 sA) := (blk_cell cA.out 5).trans rfl
          have nF : wc.cell? ⟨dA, 6, none⟩ = some (.int .i64 yA) := (blk_cell cA.out 6).trans rfl
          have oF : wc.cell? ⟨dA, 7, none⟩ = some (.int .i64 pA) := (blk_cell cA.out 7).trans rfl
          have pF : wc.cell? ⟨dA, 8, none⟩ = some (.int .i64 vA) := (blk_cell cA.out 8).trans rfl
          have qF : wc.cell? ⟨dA, 9, none⟩ = some (.bool rA) := (blk_cell cA.out 9).trans rfl
          have rF := blk_frozen cA.out 0
          have sF := blk_frozen cA.out 1
          have tF := blk_frozen cA.out 2
          have uF := blk_frozen cA.out 3
          have vF := blk_frozen cA.out 4
          have wF := blk_frozen cA.out 5
          have xF := blk_frozen cA.out 6
          have yF := blk_frozen cA.out 7
          have zF := blk_frozen cA.out 8
          have AF := blk_frozen cA.out 9
          go_wp2_with (first | ((with_reducible refine gate_callee (f := 54) rfl ?_); refine goesL_ (some 84) rfl rfl Try.func54 q5_39 rfl #[.int .i64 aF, .int .i64 0, .int .i64 1048575] rfl q5_7 ?_; (with_reducible refine (spec_l01In.calls aF 0 1048575 true _ A108.out).mono ?_); rintro e w' ⟨rfl, ⟨nd, rfl⟩⟩; refine ⟨_, rfl, ?_⟩))
          go_meet
          case rel => exact ⟨_, ((wrap64 (jA + 1))), (aF), (yA), (vA), (0), (0), (0), (0), (0), (0), (0), (0), (0), (false), H', ⟨q5_47⟩, ⟨by (with_reducible repeat (first | apply Kd.R_alloc | apply Kd.R_drewN | apply Kd.R_drew)); exact Kd.R_mono (Kd.R_far (p := ⟨dA, 5, none⟩) (Kd.R_types hA.out cA.out (by decide)) (fun _ hk => hk.2) (.int .i64 aF)) (fun _ hk => trivial)⟩, ⟨q5_8⟩, ⟨by (with_reducible repeat (first | refine blk_drewN ?_ _ | refine blk_drew ?_ | refine blk_alloc ?_ _)); refine blk_put (cs := #[.int .i64 kA, .int .i64 mA, .int .i64 nA, .int .i64 (wrap64 (jA + 1)), .int .i64 oA, .int .i64 sA, .int .i64 yA, .int .i64 pA, .int .i64 vA, .bool rA]) ?_ 5 _ rfl; (with_reducible repeat (first | refine blk_drewN ?_ _ | refine blk_drew ?_ | refine blk_alloc ?_ _)); exact cA.out⟩, ⟨q5_9⟩, ⟨q5_10⟩, ⟨q5_11⟩, ⟨q5_12⟩, ⟨q5_0⟩⟩
         ·replace c109 := Bool.eq_false_iff.mpr c109
          subst c109
          rw [if_neg (show ¬ (false = true) by decide)] at H
          have H' := Aside0.mk H
          clear H
          have kK := UA.out
          have lK := KA.out
          have mK := fA.out
          have nK := wA.out
          have oK := aA.out
          have pK := xA.out
          have qK := VA.out
          have rK := PA.out
          have sK := TA.out
          have tK := QA.out
          have BF : wc.cell? ⟨dA, 0, none⟩ = some (.int .i64 kA) := (blk_cell cA.out 0).trans rfl
          have CF : wc.cell? ⟨dA, 1, none⟩ = some (.int .i64 mA) := (blk_cell cA.out 1).trans rfl
          have DF : wc.cell? ⟨dA, 2, none⟩ = some (.int .i64 nA) := (blk_cell cA.out 2).trans rfl
          have EF : wc.cell? ⟨dA, 3, none⟩ = some (.int .i64 (wrap64 (jA + 1))) := (blk_cell cA.out 3).trans rfl
          have FF : wc.cell? ⟨dA, 4, none⟩ = some (.int .i64 oA) := (blk_cell cA.out 4).trans rfl
          have GF : wc.cell? ⟨dA, 5, none⟩ = some (.int .i64 sA) := (blk_cell cA.out 5).trans rfl
          have HF : wc.cell? ⟨dA, 6, none⟩ = some (.int .i64 yA) := (blk_cell cA.out 6).trans rfl
          have IF : wc.cell? ⟨dA, 7, none⟩ = some (.int .i64 pA) := (blk_cell cA.out 7).trans rfl
          have JF : wc.cell? ⟨dA, 8, none⟩ = some (.int .i64 vA) := (blk_cell cA.out 8).trans rfl
          have KF : wc.cell? ⟨dA, 9, none⟩ = some (.bool rA) := (blk_cell cA.out 9).trans rfl
          have LF := blk_frozen cA.out 0
          have MF := blk_frozen cA.out 1
          have NF := blk_frozen cA.out 2
          have OF := blk_frozen cA.out 3
          have PF := blk_frozen cA.out 4
          have QF := blk_frozen cA.out 5
          have RF := blk_frozen cA.out 6
          have SF := blk_frozen cA.out 7
          have TF := blk_frozen cA.out 8
          have UF := blk_frozen cA.out 9
          go_wp2_with (first | ((with_reducible refine gate_callee (f := 54) rfl ?_); refine goesL_ (some 84) rfl rfl Try.func54 q5_39 rfl #[.int .i64 aF, .int .i64 0, .int .i64 1048575] rfl q5_7 ?_; (with_reducible refine (spec_l01In.calls aF 0 1048575 false _ A108.out).mono ?_); rintro e w' ⟨rfl, ⟨nd, rfl⟩⟩; refine ⟨_, rfl, ?_⟩))
          go_meet
          case rel => exact ⟨_, ((wrap64 (jA + 1))), (0), (yA), (vA), (0), (0), (0), (0), (0), (0), (0), (0), (0), (false), H', ⟨q5_47⟩, ⟨q5_37⟩, ⟨q5_21⟩, ⟨by (with_reducible repeat (first | refine blk_drewN ?_ _ | refine blk_drew ?_ | refine blk_alloc ?_ _)); refine blk_put (cs := #[.int .i64 kA, .int .i64 mA, .int .i64 nA, .int .i64 (wrap64 (jA + 1)), .int .i64 oA, .int .i64 aF, .int .i64 yA, .int .i64 pA, .int .i64 vA, .bool rA]) ?_ 5 _ rfl; (with_reducible repeat (first | refine blk_drewN ?_ _ | refine blk_drew ?_ | refine blk_alloc ?_ _)); refine blk_put (cs := #[.int .i64 kA, .int .i64 mA, .int .i64 nA, .int .i64 (wrap64 (jA + 1)), .int .i64 oA, .int .i64 sA, .int .i64 yA, .int .i64 pA, .int .i64 vA, .bool rA]) ?_ 5 _ rfl; (with_reducible repeat (first | refine blk_drewN ?_ _ | refine blk_drew ?_ | refine blk_alloc ?_ _)); exact cA.out⟩, ⟨q5_22⟩, ⟨q5_23⟩, ⟨q5_24⟩, ⟨q5_25⟩, ⟨q5_0⟩⟩
        ·replace c107 := Bool.eq_false_iff.mpr c107
         subst c107
         rw [if_neg (show ¬ (false = true) by decide)] at H
         have HC122 := Aside0.mk H
         clear H
         go_upto_region 16 with (fail)
         go_cut [87] (fun v87 wc => ∃ (kq : Nat) (eF : Bool), v87 = .bool eF ∧ Aside0 (spec_StStep.j3 kq jA eF kA mA nA (wrap64 (jA + 1)) oA sA yA pA vA rA cB = some (r1, r2, r3, r4, r5, r6, r7, r8, r9, r10, r11, r12)) ∧ Aside0 (kq ≤ kj98) ∧ Aside0 (Kd.R (Kd.int .i64) 3 wc w.heap.size (fun _ => True) (.slice lB cB.length mB) cB) ∧ Aside0 (wc.heap[SA]? = some (.cells #[(.slice xB fB.length yB)] 29 (0, 0))) ∧ Aside0 (wc.heap[dA]? = some (.cells #[.int .i64 kA, .int .i64 mA, .int .i64 nA, .int .i64 (wrap64 (jA + 1)), .int .i64 oA, .int .i64 sA, .int .i64 yA, .int .i64 pA, .int .i64 vA, .bool rA] 23 (0, 0))) ∧ Aside0 (wc.heap[iA]? = some (.cells #[(.slice none 0 0)] 29 (0, 0))) ∧ Aside0 (wc.heap[bA]? = some (.cells #[.int .i64 0, .int .i64 0, .int .i64 0, .int .i64 0, .int .i64 0, .int .i64 0, .int .i64 0, .int .i64 0, .int .i64 0, .bool false] 23 (0, 0))) ∧ Aside0 (wc.heap[YA]? = some (.cells #[.int .i64 KB, .int .i64 wC, .int .i64 zC, .int .i64 CC] 37 (0, 0))) ∧ Aside0 (wc.heap[ZA]? = some (.cells #[(.slice lB cB.length mB)] 29 (0, 0))) ∧ Aside0 (Below w.heap.size w wc))
         case first =>
          have H := HC122.out
          clear HC122
          by_cases c123 : jA = 2
          ·rw [if_pos c123] at H
           have NB : (jA == 2) = true := beq_iff_eq.mpr c123
           have iG : (jA != 2) = false := bne_eq_false_iff_eq.mpr c123
           clear c123
           (first | rw [NB] | (simp only [i64_w, i32_w]; rw [NB]) | skip)
           have H' := Aside0.mk H
           clear H
           go_wp2
           go_meet
           case rel => exact ⟨_, ((aF == 0)), q5_38, H', ⟨q5_47⟩, ⟨q5_16⟩, ⟨q5_1⟩, ⟨q5_2⟩, ⟨q5_3⟩, ⟨q5_4⟩, ⟨q5_13⟩, ⟨q5_14⟩, ⟨q5_0⟩⟩
          ·rw [if_neg c123] at H
           have NB : (jA == 2) = false := beq_eq_false_iff_ne.mpr c123
           have iG : (jA != 2) = true := bne_iff_ne.mpr c123
           (first | rw [NB] | (simp only [i64_w, i32_w]; rw [NB]) | skip)
           have H' := Aside0.mk H
           clear H
           go_wp2
           go_meet
           case rel => exact ⟨_, (false), q5_38, H', ⟨q5_47⟩, ⟨q5_16⟩, ⟨q5_1⟩, ⟨q5_2⟩, ⟨q5_3⟩, ⟨q5_4⟩, ⟨q5_13⟩, ⟨q5_14⟩, ⟨q5_0⟩⟩
         case rest =>
          clear HC122
          (try clear c1); (try clear c2); (try clear p2); (try clear c3); (try clear c4); (try clear c5); (try clear c6); (try clear p6); (try clear c7); (try clear c8); (try clear c10); (try clear c11); (try clear c12); (try clear c13); (try clear c17); (try clear c18); (try clear c19); (try clear c20); (try clear c22); (try clear c23); (try clear c28); (try clear c29); (try clear c30); (try clear c31); (try clear c32); (try clear c34); (try clear c35); (try clear c36); (try clear c37); (try clear c38); (try clear c39); (try clear c40); (try clear c42); (try clear c43); (try clear c44); (try clear c45); (try clear c46); (try clear c47); (try clear c49); (try clear c50); (try clear c51); (try clear c52); (try clear c54); (try clear c55); (try clear c56); (try clear c57); (try clear c58); (try clear c59); (try clear c61); (try clear vD); (try clear pG); (try clear c64); (try clear p64); (try clear c65); (try clear c66); (try clear c67); (try clear c68); (try clear c69); (try clear c71); (try clear QD); (try clear qG); (try clear c72); (try clear c73); (try clear c74); (try clear c75); (try clear c76); (try clear c78); (try clear c79); (try clear c80); (try clear c81); (try clear c82); (try clear c84); (try clear c100); (try clear GB); (try clear gF); (try clear c101); (try clear c102); (try clear c103); (try clear c104); (try clear c105); (try clear c107); (try clear c109); (try clear c110); (try clear c111); (try clear c112); (try clear c113); (try clear c114); (try clear c116); (try clear c117); (try clear c118); (try clear c119); (try clear c120); (try clear c123); (try clear NB); (try clear iG); (try clear FE); (try clear GE); (try clear HE); (try clear IE); (try clear JE); (try clear KE); (try clear LE); (try clear ME); (try clear NE); (try clear OE); (try clear hF); (try clear iF); (try clear jF); (try clear kF); (try clear lF); (try clear mF); (try clear nF); (try clear oF); (try clear pF); (try clear qF); (try clear BF); (try clear CF); (try clear DF); (try clear EF); (try clear FF); (try clear GF); (try clear HF); (try clear IF); (try clear JF); (try clear KF); (try clear OB); (try clear PB); (try clear QB); (try clear RB); (try clear SB); (try clear TB); (try clear UB); (try clear VB); (try clear WB); (try clear XB); (try clear iC); (try clear jC); (try clear kC); (try clear lC); (try clear qC); (try clear sC); (try clear uC); (try clear FC); (try clear HC); (try clear IC); (try clear JC); (try clear KC); (try clear LC); (try clear MC); (try clear NC); (try clear OC); (try clear PC); (try clear QC); (try clear bD); (try clear cD); (try clear dD); (try clear eD); (try clear fD); (try clear gD); (try clear hD); (try clear iD); (try clear jD); (try clear kD); (try clear wD); (try clear xD); (try clear yD); (try clear zD); (try clear AD); (try clear BD); (try clear CD); (try clear DD); (try clear ED); (try clear FD); (try clear RD); (try clear SD); (try clear TD); (try clear UD); (try clear VD); (try clear WD); (try clear XD); (try clear YD); (try clear ZD); (try clear aE); (try clear lE); (try clear mE); (try clear nE); (try clear oE); (try clear pE); (try clear qE); (try clear rE); (try clear sE); (try clear tE); (try clear uE); (try clear PE); (try clear QE); (try clear RE); (try clear SE); (try clear TE); (try clear UE); (try clear VE); (try clear WE); (try clear XE); (try clear YE); (try clear rF); (try clear sF); (try clear tF); (try clear uF); (try clear vF); (try clear wF); (try clear xF); (try clear yF); (try clear zF); (try clear AF); (try clear LF); (try clear MF); (try clear NF); (try clear OF); (try clear PF); (try clear QF); (try clear RF); (try clear SF); (try clear TF); (try clear UF); (try clear YB); (try clear ZB); (try clear aC); (try clear bC); (try clear cC); (try clear dC); (try clear eC); (try clear fC); (try clear gC); (try clear hC); (try clear mC); (try clear nC); (try clear oC); (try clear pC); (try clear rC); (try clear tC); (try clear vC); (try clear GC); (try clear RC); (try clear SC); (try clear TC); (try clear UC); (try clear VC); (try clear WC); (try clear XC); (try clear YC); (try clear ZC); (try clear aD); (try clear lD); (try clear mD); (try clear nD); (try clear oD); (try clear pD); (try clear qD); (try clear rD); (try clear sD); (try clear tD); (try clear uD); (try clear GD); (try clear HD); (try clear ID); (try clear JD); (try clear KD); (try clear LD); (try clear MD); (try clear ND); (try clear OD); (try clear PD); (try clear bE); (try clear cE); (try clear dE); (try clear eE); (try clear fE); (try clear gE); (try clear hE); (try clear iE); (try clear jE); (try clear kE); (try clear vE); (try clear wE); (try clear xE); (try clear yE); (try clear zE); (try clear AE); (try clear BE); (try clear CE); (try clear DE); (try clear EE); (try clear p2); (try clear p6); (try clear p64)
          obtain ⟨kq, eF, rfl, HA, HJ121, hA, qA, cA, lA, eA, zA, GA, HB⟩ := hcut
          cases kq with
          | zero => exact absurd HA.out (by simp [spec_StStep.j3])
          | succ kj121 =>
           have H := HA.out
           clear HA
           simp only [spec_StStep.j3] at H
           by_cases c124 : eF = true
           ·subst c124
            rw [if_pos rfl] at H
            have H' := Aside0.mk H
            clear H
            have uK := UA.out
            have vK := KA.out
            have wK := fA.out
            have xK := wA.out
            have yK := aA.out
            have zK := xA.out
            have AK := VA.out
            have BK := PA.out
            have CK := TA.out
            have DK := QA.out
            have sG : wc.cell? ⟨dA, 0, none⟩ = some (.int .i64 kA) := (blk_cell cA.out 0).trans rfl
            have tG : wc.cell? ⟨dA, 1, none⟩ = some (.int .i64 mA) := (blk_cell cA.out 1).trans rfl
            have uG : wc.cell? ⟨dA, 2, none⟩ = some (.int .i64 nA) := (blk_cell cA.out 2).trans rfl
            have vG : wc.cell? ⟨dA, 3, none⟩ = some (.int .i64 (wrap64 (jA + 1))) := (blk_cell cA.out 3).trans rfl
            have wG : wc.cell? ⟨dA, 4, none⟩ = some (.int .i64 oA) := (blk_cell cA.out 4).trans rfl
            have xG : wc.cell? ⟨dA, 5, none⟩ = some (.int .i64 sA) := (blk_cell cA.out 5).trans rfl
            have yG : wc.cell? ⟨dA, 6, none⟩ = some (.int .i64 yA) := (blk_cell cA.out 6).trans rfl
            have zG : wc.cell? ⟨dA, 7, none⟩ = some (.int .i64 pA) := (blk_cell cA.out 7).trans rfl
            have AG : wc.cell? ⟨dA, 8, none⟩ = some (.int .i64 vA) := (blk_cell cA.out 8).trans rfl
            have BG : wc.cell? ⟨dA, 9, none⟩ = some (.bool rA) := (blk_cell cA.out 9).trans rfl
            have CG := blk_frozen cA.out 0
            have DG := blk_frozen cA.out 1
            have EG := blk_frozen cA.out 2
            have FG := blk_frozen cA.out 3
            have GG := blk_frozen cA.out 4
            have HG := blk_frozen cA.out 5
            have IG := blk_frozen cA.out 6
            have JG := blk_frozen cA.out 7
            have KG := blk_frozen cA.out 8
            have LG := blk_frozen cA.out 9
            go_wp2
            go_meet
            case rel => exact ⟨_, (0), (sA), (yA), (vA), (0), (0), (0), (0), (0), (0), (0), (0), (0), (false), H', ⟨q5_43⟩, ⟨by (with_reducible repeat (first | apply Kd.R_alloc | apply Kd.R_drewN | apply Kd.R_drew)); exact Kd.R_mono (Kd.R_far (p := ⟨dA, 3, none⟩) (Kd.R_types hA.out cA.out (by decide)) (fun _ hk => hk.2) (.int .i64 0)) (fun _ hk => trivial)⟩, ⟨q5_8⟩, ⟨by (with_reducible repeat (first | refine blk_drewN ?_ _ | refine blk_drew ?_ | refine blk_alloc ?_ _)); refine blk_put (cs := #[.int .i64 kA, .int .i64 mA, .int .i64 nA, .int .i64 (wrap64 (jA + 1)), .int .i64 oA, .int .i64 sA, .int .i64 yA, .int .i64 pA, .int .i64 vA, .bool rA]) ?_ 3 _ rfl; (with_reducible repeat (first | refine blk_drewN ?_ _ | refine blk_drew ?_ | refine blk_alloc ?_ _)); exact cA.out⟩, ⟨q5_9⟩, ⟨q5_10⟩, ⟨q5_11⟩, ⟨q5_12⟩, ⟨q5_0⟩⟩
           ·replace c124 := Bool.eq_false_iff.mpr c124
            subst c124
            rw [if_neg (show ¬ (false = true) by decide)] at H
            by_cases c131 : jA = 2
            ·rw [if_pos c131] at H
             have WH : (jA == 2) = true := beq_iff_eq.mpr c131
             have XH : (jA != 2) = false := bne_eq_false_iff_eq.mpr c131
             clear c131
             have HC132 := Aside0.mk H
             clear H
             have EK := UA.out
             have FK := KA.out
             have GK := fA.out
             have HK := wA.out
             have IK := aA.out
             have JK := xA.out
             have KK := VA.out
             have LK := PA.out
             have MK := TA.out
             have NK := QA.out
             have MG : wc.cell? ⟨dA, 0, none⟩ = some (.int .i64 kA) := (blk_cell cA.out 0).trans rfl
             have NG : wc.cell? ⟨dA, 1, none⟩ = some (.int .i64 mA) := (blk_cell cA.out 1).trans rfl
             have OG : wc.cell? ⟨dA, 2, none⟩ = some (.int .i64 nA) := (blk_cell cA.out 2).trans rfl
             have PG : wc.cell? ⟨dA, 3, none⟩ = some (.int .i64 (wrap64 (jA + 1))) := (blk_cell cA.out 3).trans rfl
             have QG : wc.cell? ⟨dA, 4, none⟩ = some (.int .i64 oA) := (blk_cell cA.out 4).trans rfl
             have RG : wc.cell? ⟨dA, 5, none⟩ = some (.int .i64 sA) := (blk_cell cA.out 5).trans rfl
             have SG : wc.cell? ⟨dA, 6, none⟩ = some (.int .i64 yA) := (blk_cell cA.out 6).trans rfl
             have TG : wc.cell? ⟨dA, 7, none⟩ = some (.int .i64 pA) := (blk_cell cA.out 7).trans rfl
             have UG : wc.cell? ⟨dA, 8, none⟩ = some (.int .i64 vA) := (blk_cell cA.out 8).trans rfl
             have VG : wc.cell? ⟨dA, 9, none⟩ = some (.bool rA) := (blk_cell cA.out 9).trans rfl
             have WG := blk_frozen cA.out 0
             have XG := blk_frozen cA.out 1
             have YG := blk_frozen cA.out 2
             have ZG := blk_frozen cA.out 3
             have aH := blk_frozen cA.out 4
             have bH := blk_frozen cA.out 5
             have cH := blk_frozen cA.out 6
             have dH := blk_frozen cA.out 7
             have eH := blk_frozen cA.out 8
             have fH := blk_frozen cA.out 9
             go_upto_if 100 with (fail)
             go_cut [] (fun wc => ∃ (kq : Nat) (eB : Int), Aside0 (spec_StStep.j4 kq kA mA nA (wrap64 (jA + 1)) oA sA yA pA eB rA cB = some (r1, r2, r3, r4, r5, r6, r7, r8, r9, r10, r11, r12)) ∧ Aside0 (kq ≤ kj121) ∧ Aside0 (Kd.R (Kd.int .i64) 3 wc w.heap.size (fun _ => True) (.slice lB cB.length mB) cB) ∧ Aside0 (wc.heap[SA]? = some (.cells #[(.slice xB fB.length yB)] 29 (0, 0))) ∧ Aside0 (wc.heap[dA]? = some (.cells #[.int .i64 kA, .int .i64 mA, .int .i64 nA, .int .i64 (wrap64 (jA + 1)), .int .i64 oA, .int .i64 sA, .int .i64 yA, .int .i64 pA, .int .i64 eB, .bool rA] 23 (0, 0))) ∧ Aside0 (wc.heap[iA]? = some (.cells #[(.slice none 0 0)] 29 (0, 0))) ∧ Aside0 (wc.heap[bA]? = some (.cells #[.int .i64 0, .int .i64 0, .int .i64 0, .int .i64 0, .int .i64 0, .int .i64 0, .int .i64 0, .int .i64 0, .int .i64 0, .bool false] 23 (0, 0))) ∧ Aside0 (wc.heap[YA]? = some (.cells #[.int .i64 KB, .int .i64 wC, .int .i64 zC, .int .i64 CC] 37 (0, 0))) ∧ Aside0 (wc.heap[ZA]? = some (.cells #[(.slice lB cB.length mB)] 29 (0, 0))) ∧ Aside0 (Below w.heap.size w wc))
             case first =>
              have H := HC132.out
              clear HC132
              by_cases c139 : kA = 2
              ·rw [if_pos c139] at H
               have AC : (kA == 2) = true := beq_iff_eq.mpr c139
               have YH : (kA != 2) = false := bne_eq_false_iff_eq.mpr c139
               clear c139
               (first | rw [AC] | (simp only [i64_w, i32_w]; rw [AC]) | skip)
               replace H := Option.bind_eq_some_iff.mp H
               obtain ⟨gI, A1400, H⟩ := H
               (try dsimp only at H)
               have A140 := Aside0.mk A1400
               clear A1400
               have H' := Aside0.mk H
               clear H
               have OK := UA.out
               have PK := KA.out
               have QK := fA.out
               have RK := wA.out
               have SK := aA.out
               have TK := xA.out
               have UK := VA.out
               have VK := PA.out
               have WK := TA.out
               have XK := QA.out
               have gH : wc.cell? ⟨dA, 0, none⟩ = some (.int .i64 kA) := (blk_cell cA.out 0).trans rfl
               have hH : wc.cell? ⟨dA, 1, none⟩ = some (.int .i64 mA) := (blk_cell cA.out 1).trans rfl
               have iH : wc.cell? ⟨dA, 2, none⟩ = some (.int .i64 nA) := (blk_cell cA.out 2).trans rfl
               have jH : wc.cell? ⟨dA, 3, none⟩ = some (.int .i64 (wrap64 (jA + 1))) := (blk_cell cA.out 3).trans rfl
               have kH : wc.cell? ⟨dA, 4, none⟩ = some (.int .i64 oA) := (blk_cell cA.out 4).trans rfl
               have lH : wc.cell? ⟨dA, 5, none⟩ = some (.int .i64 sA) := (blk_cell cA.out 5).trans rfl
               have mH : wc.cell? ⟨dA, 6, none⟩ = some (.int .i64 yA) := (blk_cell cA.out 6).trans rfl
               have nH : wc.cell? ⟨dA, 7, none⟩ = some (.int .i64 pA) := (blk_cell cA.out 7).trans rfl
               have oH : wc.cell? ⟨dA, 8, none⟩ = some (.int .i64 vA) := (blk_cell cA.out 8).trans rfl
               have pH : wc.cell? ⟨dA, 9, none⟩ = some (.bool rA) := (blk_cell cA.out 9).trans rfl
               have qH := blk_frozen cA.out 0
               have rH := blk_frozen cA.out 1
               have sH := blk_frozen cA.out 2
               have tH := blk_frozen cA.out 3
               have uH := blk_frozen cA.out 4
               have vH := blk_frozen cA.out 5
               have wH := blk_frozen cA.out 6
               have xH := blk_frozen cA.out 7
               have yH := blk_frozen cA.out 8
               have zH := blk_frozen cA.out 9
               go_wp2_with (first | ((with_reducible refine gate_callee (f := 52) rfl ?_); refine goesL_ (some 102) rfl rfl Try.func52 q5_39 rfl #[.agg #[.int .i64 kA, .int .i64 mA, .int .i64 nA, .int .i64 (wrap64 (jA + 1)), .int .i64 oA, .int .i64 sA, .int .i64 yA, .int .i64 pA, .int .i64 vA, .bool rA]] rfl q5_7 ?_; (with_reducible refine (spec_l03Place.calls kA mA nA (wrap64 (jA + 1)) oA sA yA pA vA rA gI _ A140.out).mono ?_); rintro e ZF ⟨rfl, hb⟩; refine ⟨_, rfl, ?_⟩; have AB := Aside0.mk (Kd.R_below q5_16 hb); have LB := Aside0.mk (blk_below (g := SA) (o := .cells #[.slice xB fB.length yB] 29 (0, 0)) q5_1 hb); have BB := Aside0.mk (blk_below (g := dA) (o := .cells #[.int .i64 kA, .int .i64 mA, .int .i64 nA, .int .i64 (wrap64 (jA + 1)), .int .i64 oA, .int .i64 sA, .int .i64 yA, .int .i64 pA, .int .i64 vA, .bool rA] 23 (0, 0)) q5_2 hb); have CB := Aside0.mk (blk_below (g := iA) (o := .cells #[.slice none 0 0] 29 (0, 0)) q5_3 hb); have IB := Aside0.mk (blk_below (g := bA) (o := .cells #[.int .i64 0, .int .i64 0, .int .i64 0, .int .i64 0, .int .i64 0, .int .i64 0, .int .i64 0, .int .i64 0, .int .i64 0, .bool false] 23 (0, 0)) q5_4 hb); have DC := Aside0.mk (blk_below (g := YA) (o := .cells #[.int .i64 KB, .int .i64 wC, .int .i64 zC, .int .i64 CC] 37 (0, 0)) q5_13 hb); have MB := Aside0.mk (blk_below (g := ZA) (o := .cells #[.slice lB cB.length mB] 29 (0, 0)) q5_14 hb); have EC := Aside0.mk (below_step q5_0 hb); clear hA qA cA lA eA zA GA HB; have hA := AB; have qA := LB; have cA := BB; have lA := CB; have eA := IB; have zA := DC; have GA := MB; have HB := EC; clear AB LB BB CB IB DC MB EC; (try clear hb); (try clear hb2); (try clear hk); (try clear hi); have AH : ZF.cell? ⟨dA, 0, none⟩ = some (.int .i64 kA) := (blk_cell cA.out 0).trans rfl; have BH : ZF.cell? ⟨dA, 1, none⟩ = some (.int .i64 mA) := (blk_cell cA.out 1).trans rfl; have CH : ZF.cell? ⟨dA, 2, none⟩ = some (.int .i64 nA) := (blk_cell cA.out 2).trans rfl; have DH : ZF.cell? ⟨dA, 3, none⟩ = some (.int .i64 (wrap64 (jA + 1))) := (blk_cell cA.out 3).trans rfl; have EH : ZF.cell? ⟨dA, 4, none⟩ = some (.int .i64 oA) := (blk_cell cA.out 4).trans rfl; have FH : ZF.cell? ⟨dA, 5, none⟩ = some (.int .i64 sA) := (blk_cell cA.out 5).trans rfl; have GH : ZF.cell? ⟨dA, 6, none⟩ = some (.int .i64 yA) := (blk_cell cA.out 6).trans rfl; have HH : ZF.cell? ⟨dA, 7, none⟩ = some (.int .i64 pA) := (blk_cell cA.out 7).trans rfl; have IH : ZF.cell? ⟨dA, 8, none⟩ = some (.int .i64 vA) := (blk_cell cA.out 8).trans rfl; have JH : ZF.cell? ⟨dA, 9, none⟩ = some (.bool rA) := (blk_cell cA.out 9).trans rfl; have KH := blk_frozen cA.out 0; have LH := blk_frozen cA.out 1; have MH := blk_frozen cA.out 2; have NH := blk_frozen cA.out 3; have OH := blk_frozen cA.out 4; have PH := blk_frozen cA.out 5; have QH := blk_frozen cA.out 6; have RH := blk_frozen cA.out 7; have SH := blk_frozen cA.out 8; have TH := blk_frozen cA.out 9))
               go_meet
               case rel => exact ⟨_, (gI), H', ⟨q5_43⟩, ⟨by (with_reducible repeat (first | apply Kd.R_alloc | apply Kd.R_drewN | apply Kd.R_drew)); exact Kd.R_mono (Kd.R_far (p := ⟨dA, 8, none⟩) (Kd.R_types hA.out cA.out (by decide)) (fun _ hk => hk.2) (.int .i64 gI)) (fun _ hk => trivial)⟩, ⟨q5_8⟩, ⟨by (with_reducible repeat (first | refine blk_drewN ?_ _ | refine blk_drew ?_ | refine blk_alloc ?_ _)); refine blk_put (cs := #[.int .i64 kA, .int .i64 mA, .int .i64 nA, .int .i64 (wrap64 (jA + 1)), .int .i64 oA, .int .i64 sA, .int .i64 yA, .int .i64 pA, .int .i64 vA, .bool rA]) ?_ 8 _ rfl; (with_reducible repeat (first | refine blk_drewN ?_ _ | refine blk_drew ?_ | refine blk_alloc ?_ _)); exact cA.out⟩, ⟨q5_9⟩, ⟨q5_10⟩, ⟨q5_11⟩, ⟨q5_12⟩, ⟨q5_0⟩⟩
              ·rw [if_neg c139] at H
               have AC : (kA == 2) = false := beq_eq_false_iff_ne.mpr c139
               have YH : (kA != 2) = true := bne_iff_ne.mpr c139
               (first | rw [AC] | (simp only [i64_w, i32_w]; rw [AC]) | skip)
               have H' := Aside0.mk H
               clear H
               go_wp2
               go_meet
               case rel => exact ⟨_, (vA), H', ⟨q5_43⟩, ⟨q5_16⟩, ⟨q5_1⟩, ⟨q5_2⟩, ⟨q5_3⟩, ⟨q5_4⟩, ⟨q5_13⟩, ⟨q5_14⟩, ⟨q5_0⟩⟩
             case rest =>
              clear HC132
              (try clear c1); (try clear c2); (try clear p2); (try clear c3); (try clear c4); (try clear c5); (try clear c6); (try clear p6); (try clear c7); (try clear c8); (try clear c10); (try clear c11); (try clear c12); (try clear c13); (try clear c14); (try clear c17); (try clear c18); (try clear c19); (try clear c20); (try clear c22); (try clear c23); (try clear c28); (try clear c29); (try clear c30); (try clear c31); (try clear c32); (try clear c34); (try clear c35); (try clear c36); (try clear c37); (try clear c38); (try clear c39); (try clear c40); (try clear c42); (try clear c43); (try clear c44); (try clear c45); (try clear c46); (try clear c47); (try clear c49); (try clear c50); (try clear c51); (try clear c52); (try clear c54); (try clear c55); (try clear c56); (try clear c57); (try clear c58); (try clear c59); (try clear c61); (try clear vD); (try clear pG); (try clear c64); (try clear p64); (try clear c65); (try clear c66); (try clear c67); (try clear c68); (try clear c69); (try clear c71); (try clear QD); (try clear qG); (try clear c72); (try clear c73); (try clear c74); (try clear c75); (try clear c76); (try clear c78); (try clear c79); (try clear c80); (try clear c81); (try clear c82); (try clear c84); (try clear c100); (try clear GB); (try clear gF); (try clear c101); (try clear c102); (try clear c103); (try clear c104); (try clear c105); (try clear c107); (try clear c109); (try clear c110); (try clear c111); (try clear c112); (try clear c113); (try clear c114); (try clear c116); (try clear c117); (try clear c118); (try clear c119); (try clear c120); (try clear c123); (try clear NB); (try clear iG); (try clear c124); (try clear c125); (try clear c126); (try clear c127); (try clear c128); (try clear c129); (try clear c131); (try clear WH); (try clear XH); (try clear c133); (try clear c134); (try clear c135); (try clear c136); (try clear c137); (try clear c139); (try clear AC); (try clear YH); (try clear c141); (try clear c142); (try clear c143); (try clear c144); (try clear c145); (try clear FE); (try clear GE); (try clear HE); (try clear IE); (try clear JE); (try clear KE); (try clear LE); (try clear ME); (try clear NE); (try clear OE); (try clear hF); (try clear iF); (try clear jF); (try clear kF); (try clear lF); (try clear mF); (try clear nF); (try clear oF); (try clear pF); (try clear qF); (try clear BF); (try clear CF); (try clear DF); (try clear EF); (try clear FF); (try clear GF); (try clear HF); (try clear IF); (try clear JF); (try clear KF); (try clear sG); (try clear tG); (try clear uG); (try clear vG); (try clear wG); (try clear xG); (try clear yG); (try clear zG); (try clear AG); (try clear BG); (try clear MG); (try clear NG); (try clear OG); (try clear PG); (try clear QG); (try clear RG); (try clear SG); (try clear TG); (try clear UG); (try clear VG); (try clear gH); (try clear hH); (try clear iH); (try clear jH); (try clear kH); (try clear lH); (try clear mH); (try clear nH); (try clear oH); (try clear pH); (try clear AH); (try clear BH); (try clear CH); (try clear DH); (try clear EH); (try clear FH); (try clear GH); (try clear HH); (try clear IH); (try clear JH); (try clear OB); (try clear PB); (try clear QB); (try clear RB); (try clear SB); (try clear TB); (try clear UB); (try clear VB); (try clear WB); (try clear XB); (try clear iC); (try clear jC); (try clear kC); (try clear lC); (try clear qC); (try clear sC); (try clear uC); (try clear FC); (try clear HC); (try clear IC); (try clear JC); (try clear KC); (try clear LC); (try clear MC); (try clear NC); (try clear OC); (try clear PC); (try clear QC); (try clear bD); (try clear cD); (try clear dD); (try clear eD); (try clear fD); (try clear gD); (try clear hD); (try clear iD); (try clear jD); (try clear kD); (try clear wD); (try clear xD); (try clear yD); (try clear zD); (try clear AD); (try clear BD); (try clear CD); (try clear DD); (try clear ED); (try clear FD); (try clear RD); (try clear SD); (try clear TD); (try clear UD); (try clear VD); (try clear WD); (try clear XD); (try clear YD); (try clear ZD); (try clear aE); (try clear lE); (try clear mE); (try clear nE); (try clear oE); (try clear pE); (try clear qE); (try clear rE); (try clear sE); (try clear tE); (try clear uE); (try clear PE); (try clear QE); (try clear RE); (try clear SE); (try clear TE); (try clear UE); (try clear VE); (try clear WE); (try clear XE); (try clear YE); (try clear rF); (try clear sF); (try clear tF); (try clear uF); (try clear vF); (try clear wF); (try clear xF); (try clear yF); (try clear zF); (try clear AF); (try clear LF); (try clear MF); (try clear NF); (try clear OF); (try clear PF); (try clear QF); (try clear RF); (try clear SF); (try clear TF); (try clear UF); (try clear CG); (try clear DG); (try clear EG); (try clear FG); (try clear GG); (try clear HG); (try clear IG); (try clear JG); (try clear KG); (try clear LG); (try clear WG); (try clear XG); (try clear YG); (try clear ZG); (try clear aH); (try clear bH); (try clear cH); (try clear dH); (try clear eH); (try clear fH); (try clear qH); (try clear rH); (try clear sH); (try clear tH); (try clear uH); (try clear vH); (try clear wH); (try clear xH); (try clear yH); (try clear zH); (try clear KH); (try clear LH); (try clear MH); (try clear NH); (try clear OH); (try clear PH); (try clear QH); (try clear RH); (try clear SH); (try clear TH); (try clear YB); (try clear ZB); (try clear aC); (try clear bC); (try clear cC); (try clear dC); (try clear eC); (try clear fC); (try clear gC); (try clear hC); (try clear mC); (try clear nC); (try clear oC); (try clear pC); (try clear rC); (try clear tC); (try clear vC); (try clear GC); (try clear RC); (try clear SC); (try clear TC); (try clear UC); (try clear VC); (try clear WC); (try clear XC); (try clear YC); (try clear ZC); (try clear aD); (try clear lD); (try clear mD); (try clear nD); (try clear oD); (try clear pD); (try clear qD); (try clear rD); (try clear sD); (try clear tD); (try clear uD); (try clear GD); (try clear HD); (try clear ID); (try clear JD); (try clear KD); (try clear LD); (try clear MD); (try clear ND); (try clear OD); (try clear PD); (try clear bE); (try clear cE); (try clear dE); (try clear eE); (try clear fE); (try clear gE); (try clear hE); (try clear iE); (try clear jE); (try clear kE); (try clear vE); (try clear wE); (try clear xE); (try clear yE); (try clear zE); (try clear AE); (try clear BE); (try clear CE); (try clear DE); (try clear EE); (try clear p2); (try clear p6); (try clear p64)
              obtain ⟨kq, eB, HA, HJ131, hA, qA, cA, lA, eA, zA, GA, HB⟩ := hcut
              cases kq with
              | zero => exact absurd HA.out (by simp [spec_StStep.j4])
              | succ kj131 =>
               have H := HA.out
               clear HA
               simp only [spec_StStep.j4] at H
               replace H := Option.bind_eq_some_iff.mp H
               obtain ⟨⟨dF, VF, aG, jG, UH, ZH, eI, oI, rI, xI⟩, A1490, H⟩ := H
               (try dsimp only at H)
               have A149 := Aside0.mk A1490
               clear A1490
               simp only [Option.some.injEq, Prod.mk.injEq] at H
               obtain ⟨rfl, rfl, rfl, rfl, rfl, rfl, rfl, rfl, rfl, rfl, rfl, rfl⟩ := H
               try go_wp2
               have AB := Aside0.mk (Kd.R_drew hA.out)
               have LB := Aside0.mk (blk_drew qA.out)
               have BB := Aside0.mk (blk_drew cA.out)
               have CB := Aside0.mk (blk_drew lA.out)
               have IB := Aside0.mk (blk_drew eA.out)
               have DC := Aside0.mk (blk_drew zA.out)
               have MB := Aside0.mk (blk_drew GA.out)
               have EC := Aside0.mk (below_drew1 HB.out)
               clear hA qA cA lA eA zA GA HB
               have hA := AB
               have qA := LB
               have cA := BB
               have lA := CB
               have eA := IB
               have zA := DC
               have GA := MB
               have HB := EC
               clear AB LB BB CB IB DC MB EC
               refine start_ (n := 6) (S := fun w' => w'.cell? ⟨ZA, 0, none⟩ = some (.slice lB cB.length mB) ∧ w'.cell? ⟨dA, 0, none⟩ = some (.int .i64 kA) ∧ w'.cell? ⟨dA, 1, none⟩ = some (.int .i64 mA) ∧ w'.cell? ⟨dA, 2, none⟩ = some (.int .i64 nA) ∧ w'.cell? ⟨dA, 3, none⟩ = some (.int .i64 (wrap64 (jA + 1))) ∧ w'.cell? ⟨dA, 4, none⟩ = some (.int .i64 oA) ∧ w'.cell? ⟨dA, 5, none⟩ = some (.int .i64 sA) ∧ w'.cell? ⟨dA, 6, none⟩ = some (.int .i64 yA) ∧ w'.cell? ⟨dA, 7, none⟩ = some (.int .i64 pA) ∧ w'.cell? ⟨dA, 8, none⟩ = some (.int .i64 eB) ∧ w'.cell? ⟨dA, 9, none⟩ = some (.bool rA)) (ds := []) #[F,F,F,F,F,F] q5_39 rfl rfl ⟨(blk_cell GA.out 0).trans rfl, (blk_cell cA.out 0).trans rfl, (blk_cell cA.out 1).trans rfl, (blk_cell cA.out 2).trans rfl, (blk_cell cA.out 3).trans rfl, (blk_cell cA.out 4).trans rfl, (blk_cell cA.out 5).trans rfl, (blk_cell cA.out 6).trans rfl, (blk_cell cA.out 7).trans rfl, (blk_cell cA.out 8).trans rfl, (blk_cell cA.out 9).trans rfl⟩ (fun hHeld => ?_)
               generalize wc.drew = mO at hA qA cA lA eA zA GA HB hHeld ⊢
               refine take_ (i := 0) (N := some 104) (v := ?_) (a' := ?_) #[T,F,F,F,F,F] rfl rfl q5_39 (fun _ _ _ h => h) (Or.inl ⟨by rfl, ?_⟩) hHeld ?_ ?_
               rotate_left
               ·rintro w' ⟨s0, s1, s2, s3, s4, s5, s6, s7, s8, s9, KI⟩
                go_simp
                with_reducible rfl
               rotate_left
               ·simp only [Act.put, List.setIfInBounds_toArray, List.set_cons_zero, List.set_cons_succ, i64_w, i32_w]
                rfl
               refine take_ (i := 1) (N := some 105) (v := ?_) (a' := ?_) #[T,T,F,F,F,F] rfl rfl q5_39 (fun _ _ _ h => h) (Or.inl ⟨by rfl, ?_⟩) hHeld ?_ ?_
               rotate_left
               ·rintro w' ⟨s0, s1, s2, s3, s4, s5, s6, s7, s8, s9, KI⟩
                go_simp
                with_reducible rfl
               rotate_left
               ·simp only [Act.put, List.setIfInBounds_toArray, List.set_cons_zero, List.set_cons_succ, i64_w, i32_w]
                rfl
               refine one_ (i := 2) (N := some 106) #[T,T,T,F,F,F] rfl rfl q5_39 (by decide) (fun K hK => ?_)
               refine goes_ Try.func66 q5_39 rfl #[.agg #[.int .i64 kA, .int .i64 mA, .int .i64 nA, .int .i64 (wrap64 (jA + 1)), .int .i64 oA, .int .i64 sA, .int .i64 yA, .int .i64 pA, .int .i64 eB, .bool rA], .int .i64 1] (by rfl) rfl rfl q5_7 ?_
               with_reducible refine (spec_l03End.calls kA mA nA (wrap64 (jA + 1)) oA sA yA pA eB rA 1 dF VF aG jG UH ZH eI oI rI xI _ A149.out).mono ?_
               rintro e WF ⟨rfl, hb⟩
               refine ⟨_, rfl, ?_⟩
               have AB := Aside0.mk (Kd.R_below q5_16 hb)
               have BB := Aside0.mk (blk_below (g := dA) (o := .cells #[.int .i64 kA, .int .i64 mA, .int .i64 nA, .int .i64 (wrap64 (jA + 1)), .int .i64 oA, .int .i64 sA, .int .i64 yA, .int .i64 pA, .int .i64 eB, .bool rA] 23 (0, 0)) q5_2 hb)
               have CB := Aside0.mk (blk_below (g := iA) (o := .cells #[.slice none 0 0] 29 (0, 0)) q5_3 hb)
               have IB := Aside0.mk (blk_below (g := bA) (o := .cells #[.int .i64 0, .int .i64 0, .int .i64 0, .int .i64 0, .int .i64 0, .int .i64 0, .int .i64 0, .int .i64 0, .int .i64 0, .bool false] 23 (0, 0)) q5_4 hb)
               have MB := Aside0.mk (blk_below (g := ZA) (o := .cells #[.slice lB cB.length mB] 29 (0, 0)) q5_14 hb)
               have EC := Aside0.mk (below_step q5_0 hb)
               clear hA qA cA lA eA zA GA HB
               have hA := AB
               have cA := BB
               have lA := CB
               have eA := IB
               have GA := MB
               have HB := EC
               clear AB BB CB IB MB EC
               (try clear hb)
               (try clear hb2)
               (try clear hk)
               (try clear hi)
               refine hK.out _ _ ⟨(blk_cell GA.out 0).trans rfl, (blk_cell cA.out 0).trans rfl, (blk_cell cA.out 1).trans rfl, (blk_cell cA.out 2).trans rfl, (blk_cell cA.out 3).trans rfl, (blk_cell cA.out 4).trans rfl, (blk_cell cA.out 5).trans rfl, (blk_cell cA.out 6).trans rfl, (blk_cell cA.out 7).trans rfl, (blk_cell cA.out 8).trans rfl, (blk_cell cA.out 9).trans rfl⟩ (fun hHeld => ?_)
               clear hK K
               refine norm_ (a' := ?_) ?_ ?_
               rotate_left
               ·show Act.put _ (some 106) _ = _
                simp only [Act.put, List.setIfInBounds_toArray, List.set_cons_zero, List.set_cons_succ, i64_w, i32_w]
                rfl
               refine one_ (i := 3) (N := none) #[T,T,T,T,F,F] rfl rfl q5_39 (by decide) (fun K hK => ?_)
               have EN : WF.cell? ⟨iA, 0, none⟩ = some (.slice none 0 0) := (blk_cell lA.out 0).trans rfl
               have YK := blk_frozen lA.out 0
               have LI := pB.out
               have MI := fA.out
               have NI := iB.out
               have OI := DB.out
               have PI := jB.out
               have QI := qB.out
               have RI := wA.out
               have SI := zB.out
               have TI := tB.out
               have UI := nB.out
               refine skip_ (w1 := ?_) (by rfl) rfl ?_ ?_
               rotate_left
               ·go_simp
                rfl
               refine hK.out _ _ ⟨((cell_far (p := ⟨iA, _, none⟩) jB.out _).trans (hHeld.1)), ((cell_far (p := ⟨iA, _, none⟩) fA.out _).trans (hHeld.2.1)), ((cell_far (p := ⟨iA, _, none⟩) fA.out _).trans (hHeld.2.2.1)), ((cell_far (p := ⟨iA, _, none⟩) fA.out _).trans (hHeld.2.2.2.1)), ((cell_far (p := ⟨iA, _, none⟩) fA.out _).trans (hHeld.2.2.2.2.1)), ((cell_far (p := ⟨iA, _, none⟩) fA.out _).trans (hHeld.2.2.2.2.2.1)), ((cell_far (p := ⟨iA, _, none⟩) fA.out _).trans (hHeld.2.2.2.2.2.2.1)), ((cell_far (p := ⟨iA, _, none⟩) fA.out _).trans (hHeld.2.2.2.2.2.2.2.1)), ((cell_far (p := ⟨iA, _, none⟩) fA.out _).trans (hHeld.2.2.2.2.2.2.2.2.1)), ((cell_far (p := ⟨iA, _, none⟩) fA.out _).trans (hHeld.2.2.2.2.2.2.2.2.2.1)), ((cell_far (p := ⟨iA, _, none⟩) fA.out _).trans (hHeld.2.2.2.2.2.2.2.2.2.2))⟩ (fun hHeld => ?_)
               clear hK K
               refine one_ (i := 4) (N := none) #[T,T,T,T,T,F] rfl rfl q5_39 (by decide) (fun K hK => ?_)
               have FN : WF.cell? ⟨bA, 0, none⟩ = some (.int .i64 0) := (blk_cell eA.out 0).trans rfl
               have ZK := blk_frozen eA.out 0
               have VI := rB.out
               have WI := aA.out
               have XI := EB.out
               have YI := gA.out
               have ZI := sB.out
               have aJ := xA.out
               have bJ := uB.out
               have cJ := oB.out
               have GN : WF.cell? ⟨bA, 1, none⟩ = some (.int .i64 0) := (blk_cell eA.out 1).trans rfl
               have aL := blk_frozen eA.out 1
               have HN : WF.cell? ⟨bA, 2, none⟩ = some (.int .i64 0) := (blk_cell eA.out 2).trans rfl
               have bL := blk_frozen eA.out 2
               have IN : WF.cell? ⟨bA, 3, none⟩ = some (.int .i64 0) := (blk_cell eA.out 3).trans rfl
               have cL := blk_frozen eA.out 3
               have JN : WF.cell? ⟨bA, 4, none⟩ = some (.int .i64 0) := (blk_cell eA.out 4).trans rfl
               have dL := blk_frozen eA.out 4
               have KN : WF.cell? ⟨bA, 5, none⟩ = some (.int .i64 0) := (blk_cell eA.out 5).trans rfl
               have eL := blk_frozen eA.out 5
               have LN : WF.cell? ⟨bA, 6, none⟩ = some (.int .i64 0) := (blk_cell eA.out 6).trans rfl
               have fL := blk_frozen eA.out 6
               have MN : WF.cell? ⟨bA, 7, none⟩ = some (.int .i64 0) := (blk_cell eA.out 7).trans rfl
               have gL := blk_frozen eA.out 7
               have NN : WF.cell? ⟨bA, 8, none⟩ = some (.int .i64 0) := (blk_cell eA.out 8).trans rfl
               have hL := blk_frozen eA.out 8
               have ON : WF.cell? ⟨bA, 9, none⟩ = some (.bool false) := (blk_cell eA.out 9).trans rfl
               have iL := blk_frozen eA.out 9
               refine skip_ (w1 := ?_) (by rfl) rfl ?_ ?_
               rotate_left
               ·go_simp
                rfl
               refine hK.out _ _ ⟨((cell_far (p := ⟨bA, _, none⟩) gA.out _).trans (((cell_far (p := ⟨bA, _, none⟩) gA.out _).trans (((cell_far (p := ⟨bA, _, none⟩) gA.out _).trans (((cell_far (p := ⟨bA, _, none⟩) gA.out _).trans (((cell_far (p := ⟨bA, _, none⟩) gA.out _).trans (((cell_far (p := ⟨bA, _, none⟩) gA.out _).trans (((cell_far (p := ⟨bA, _, none⟩) gA.out _).trans (((cell_far (p := ⟨bA, _, none⟩) gA.out _).trans (((cell_far (p := ⟨bA, _, none⟩) gA.out _).trans (((cell_far (p := ⟨bA, _, none⟩) gA.out _).trans (hHeld.1)))))))))))))))))))), ((cell_far (p := ⟨bA, _, none⟩) aA.out _).trans (((cell_far (p := ⟨bA, _, none⟩) aA.out _).trans (((cell_far (p := ⟨bA, _, none⟩) aA.out _).trans (((cell_far (p := ⟨bA, _, none⟩) aA.out _).trans (((cell_far (p := ⟨bA, _, none⟩) aA.out _).trans (((cell_far (p := ⟨bA, _, none⟩) aA.out _).trans (((cell_far (p := ⟨bA, _, none⟩) aA.out _).trans (((cell_far (p := ⟨bA, _, none⟩) aA.out _).trans (((cell_far (p := ⟨bA, _, none⟩) aA.out _).trans (((cell_far (p := ⟨bA, _, none⟩) aA.out _).trans (hHeld.2.1)))))))))))))))))))), ((cell_far (p := ⟨bA, _, none⟩) aA.out _).trans (((cell_far (p := ⟨bA, _, none⟩) aA.out _).trans (((cell_far (p := ⟨bA, _, none⟩) aA.out _).trans (((cell_far (p := ⟨bA, _, none⟩) aA.out _).trans (((cell_far (p := ⟨bA, _, none⟩) aA.out _).trans (((cell_far (p := ⟨bA, _, none⟩) aA.out _).trans (((cell_far (p := ⟨bA, _, none⟩) aA.out _).trans (((cell_far (p := ⟨bA, _, none⟩) aA.out _).trans (((cell_far (p := ⟨bA, _, none⟩) aA.out _).trans (((cell_far (p := ⟨bA, _, none⟩) aA.out _).trans (hHeld.2.2.1)))))))))))))))))))), ((cell_far (p := ⟨bA, _, none⟩) aA.out _).trans (((cell_far (p := ⟨bA, _, none⟩) aA.out _).trans (((cell_far (p := ⟨bA, _, none⟩) aA.out _).trans (((cell_far (p := ⟨bA, _, none⟩) aA.out _).trans (((cell_far (p := ⟨bA, _, none⟩) aA.out _).trans (((cell_far (p := ⟨bA, _, none⟩) aA.out _).trans (((cell_far (p := ⟨bA, _, none⟩) aA.out _).trans (((cell_far (p := ⟨bA, _, none⟩) aA.out _).trans (((cell_far (p := ⟨bA, _, none⟩) aA.out _).trans (((cell_far (p := ⟨bA, _, none⟩) aA.out _).trans (hHeld.2.2.2.1)))))))))))))))))))), ((cell_far (p := ⟨bA, _, none⟩) aA.out _).trans (((cell_far (p := ⟨bA, _, none⟩) aA.out _).trans (((cell_far (p := ⟨bA, _, none⟩) aA.out _).trans (((cell_far (p := ⟨bA, _, none⟩) aA.out _).trans (((cell_far (p := ⟨bA, _, none⟩) aA.out _).trans (((cell_far (p := ⟨bA, _, none⟩) aA.out _).trans (((cell_far (p := ⟨bA, _, none⟩) aA.out _).trans (((cell_far (p := ⟨bA, _, none⟩) aA.out _).trans (((cell_far (p := ⟨bA, _, none⟩) aA.out _).trans (((cell_far (p := ⟨bA, _, none⟩) aA.out _).trans (hHeld.2.2.2.2.1)))))))))))))))))))), ((cell_far (p := ⟨bA, _, none⟩) aA.out _).trans (((cell_far (p := ⟨bA, _, none⟩) aA.out _).trans (((cell_far (p := ⟨bA, _, none⟩) aA.out _).trans (((cell_far (p := ⟨bA, _, none⟩) aA.out _).trans (((cell_far (p := ⟨bA, _, none⟩) aA.out _).trans (((cell_far (p := ⟨bA, _, none⟩) aA.out _).trans (((cell_far (p := ⟨bA, _, none⟩) aA.out _).trans (((cell_far (p := ⟨bA, _, none⟩) aA.out _).trans (((cell_far (p := ⟨bA, _, none⟩) aA.out _).trans (((cell_far (p := ⟨bA, _, none⟩) aA.out _).trans (hHeld.2.2.2.2.2.1)))))))))))))))))))), ((cell_far (p := ⟨bA, _, none⟩) aA.out _).trans (((cell_far (p := ⟨bA, _, none⟩) aA.out _).trans (((cell_far (p := ⟨bA, _, none⟩) aA.out _).trans (((cell_far (p := ⟨bA, _, none⟩) aA.out _).trans (((cell_far (p := ⟨bA, _, none⟩) aA.out _).trans (((cell_far (p := ⟨bA, _, none⟩) aA.out _).trans (((cell_far (p := ⟨bA, _, none⟩) aA.out _).trans (((cell_far (p := ⟨bA, _, none⟩) aA.out _).trans (((cell_far (p := ⟨bA, _, none⟩) aA.out _).trans (((cell_far (p := ⟨bA, _, none⟩) aA.out _).trans (hHeld.2.2.2.2.2.2.1)))))))))))))))))))), ((cell_far (p := ⟨bA, _, none⟩) aA.out _).trans (((cell_far (p := ⟨bA, _, none⟩) aA.out _).trans (((cell_far (p := ⟨bA, _, none⟩) aA.out _).trans (((cell_far (p := ⟨bA, _, none⟩) aA.out _).trans (((cell_far (p := ⟨bA, _, none⟩) aA.out _).trans (((cell_far (p := ⟨bA, _, none⟩) aA.out _).trans (((cell_far (p := ⟨bA, _, none⟩) aA.out _).trans (((cell_far (p := ⟨bA, _, none⟩) aA.out _).trans (((cell_far (p := ⟨bA, _, none⟩) aA.out _).trans (((cell_far (p := ⟨bA, _, none⟩) aA.out _).trans (hHeld.2.2.2.2.2.2.2.1)))))))))))))))))))), ((cell_far (p := ⟨bA, _, none⟩) aA.out _).trans (((cell_far (p := ⟨bA, _, none⟩) aA.out _).trans (((cell_far (p := ⟨bA, _, none⟩) aA.out _).trans (((cell_far (p := ⟨bA, _, none⟩) aA.out _).trans (((cell_far (p := ⟨bA, _, none⟩) aA.out _).trans (((cell_far (p := ⟨bA, _, none⟩) aA.out _).trans (((cell_far (p := ⟨bA, _, none⟩) aA.out _).trans (((cell_far (p := ⟨bA, _, none⟩) aA.out _).trans (((cell_far (p := ⟨bA, _, none⟩) aA.out _).trans (((cell_far (p := ⟨bA, _, none⟩) aA.out _).trans (hHeld.2.2.2.2.2.2.2.2.1)))))))))))))))))))), ((cell_far (p := ⟨bA, _, none⟩) aA.out _).trans (((cell_far (p := ⟨bA, _, none⟩) aA.out _).trans (((cell_far (p := ⟨bA, _, none⟩) aA.out _).trans (((cell_far (p := ⟨bA, _, none⟩) aA.out _).trans (((cell_far (p := ⟨bA, _, none⟩) aA.out _).trans (((cell_far (p := ⟨bA, _, none⟩) aA.out _).trans (((cell_far (p := ⟨bA, _, none⟩) aA.out _).trans (((cell_far (p := ⟨bA, _, none⟩) aA.out _).trans (((cell_far (p := ⟨bA, _, none⟩) aA.out _).trans (((cell_far (p := ⟨bA, _, none⟩) aA.out _).trans (hHeld.2.2.2.2.2.2.2.2.2.1)))))))))))))))))))), ((cell_far (p := ⟨bA, _, none⟩) aA.out _).trans (((cell_far (p := ⟨bA, _, none⟩) aA.out _).trans (((cell_far (p := ⟨bA, _, none⟩) aA.out _).trans (((cell_far (p := ⟨bA, _, none⟩) aA.out _).trans (((cell_far (p := ⟨bA, _, none⟩) aA.out _).trans (((cell_far (p := ⟨bA, _, none⟩) aA.out _).trans (((cell_far (p := ⟨bA, _, none⟩) aA.out _).trans (((cell_far (p := ⟨bA, _, none⟩) aA.out _).trans (((cell_far (p := ⟨bA, _, none⟩) aA.out _).trans (((cell_far (p := ⟨bA, _, none⟩) aA.out _).trans (hHeld.2.2.2.2.2.2.2.2.2.2))))))))))))))))))))⟩ (fun hHeld => ?_)
               clear hK K
               refine pure_ (i := 5) (N := some 8) (v := ?_) (a' := ?_) #[T,T,T,T,T,T] rfl rfl q5_39 (fun _ _ _ h => h) (Or.inl ⟨by rfl, ?_⟩) ?_ ?_
               rotate_left
               ·intro w'
                go_simp
                with_reducible rfl
               rotate_left
               ·simp only [Act.put, List.setIfInBounds_toArray, List.set_cons_zero, List.set_cons_succ, i64_w, i32_w]
                rfl
               refine done_ q5_39 ?_
               try go_wp2
               refine bodyPost_ret (results_list (rs := [.cell 6 29, .cell 7 23, .tmp 8]) rfl (by simp) (.cell iA 29 #[.slice lB cB.length mB] (0, 0) _ rfl q5_6 Try.underlying29 rfl q5_39 (.cell bA 23 #[.int .i64 dF, .int .i64 VF, .int .i64 aG, .int .i64 jG, .int .i64 UH, .int .i64 ZH, .int .i64 eI, .int .i64 oI, .int .i64 rI, .bool xI] (0, 0) _ rfl (by (with_reducible repeat (first | refine blk_drewN ?_ _ | refine blk_drew ?_ | refine blk_alloc ?_ _)); refine blk_put (cs := #[.int .i64 dF, .int .i64 VF, .int .i64 aG, .int .i64 jG, .int .i64 UH, .int .i64 ZH, .int .i64 eI, .int .i64 oI, .int .i64 rI, .bool false]) ?_ 9 _ rfl; (with_reducible repeat (first | refine blk_drewN ?_ _ | refine blk_drew ?_ | refine blk_alloc ?_ _)); refine blk_put (cs := #[.int .i64 dF, .int .i64 VF, .int .i64 aG, .int .i64 jG, .int .i64 UH, .int .i64 ZH, .int .i64 eI, .int .i64 oI, .int .i64 0, .bool false]) ?_ 8 _ rfl; (with_reducible repeat (first | refine blk_drewN ?_ _ | refine blk_drew ?_ | refine blk_alloc ?_ _)); refine blk_put (cs := #[.int .i64 dF, .int .i64 VF, .int .i64 aG, .int .i64 jG, .int .i64 UH, .int .i64 ZH, .int .i64 eI, .int .i64 0, .int .i64 0, .bool false]) ?_ 7 _ rfl; (with_reducible repeat (first | refine blk_drewN ?_ _ | refine blk_drew ?_ | refine blk_alloc ?_ _)); refine blk_put (cs := #[.int .i64 dF, .int .i64 VF, .int .i64 aG, .int .i64 jG, .int .i64 UH, .int .i64 ZH, .int .i64 0, .int .i64 0, .int .i64 0, .bool false]) ?_ 6 _ rfl; (with_reducible repeat (first | refine blk_drewN ?_ _ | refine blk_drew ?_ | refine blk_alloc ?_ _)); refine blk_put (cs := #[.int .i64 dF, .int .i64 VF, .int .i64 aG, .int .i64 jG, .int .i64 UH, .int .i64 0, .int .i64 0, .int .i64 0, .int .i64 0, .bool false]) ?_ 5 _ rfl; (with_reducible repeat (first | refine blk_drewN ?_ _ | refine blk_drew ?_ | refine blk_alloc ?_ _)); refine blk_put (cs := #[.int .i64 dF, .int .i64 VF, .int .i64 aG, .int .i64 jG, .int .i64 0, .int .i64 0, .int .i64 0, .int .i64 0, .int .i64 0, .bool false]) ?_ 4 _ rfl; (with_reducible repeat (first | refine blk_drewN ?_ _ | refine blk_drew ?_ | refine blk_alloc ?_ _)); refine blk_put (cs := #[.int .i64 dF, .int .i64 VF, .int .i64 aG, .int .i64 0, .int .i64 0, .int .i64 0, .int .i64 0, .int .i64 0, .int .i64 0, .bool false]) ?_ 3 _ rfl; (with_reducible repeat (first | refine blk_drewN ?_ _ | refine blk_drew ?_ | refine blk_alloc ?_ _)); refine blk_put (cs := #[.int .i64 dF, .int .i64 VF, .int .i64 0, .int .i64 0, .int .i64 0, .int .i64 0, .int .i64 0, .int .i64 0, .int .i64 0, .bool false]) ?_ 2 _ rfl; (with_reducible repeat (first | refine blk_drewN ?_ _ | refine blk_drew ?_ | refine blk_alloc ?_ _)); refine blk_put (cs := #[.int .i64 dF, .int .i64 0, .int .i64 0, .int .i64 0, .int .i64 0, .int .i64 0, .int .i64 0, .int .i64 0, .int .i64 0, .bool false]) ?_ 1 _ rfl; (with_reducible repeat (first | refine blk_drewN ?_ _ | refine blk_drew ?_ | refine blk_alloc ?_ _)); refine blk_put (cs := #[.int .i64 0, .int .i64 0, .int .i64 0, .int .i64 0, .int .i64 0, .int .i64 0, .int .i64 0, .int .i64 0, .int .i64 0, .bool false]) ?_ 0 _ rfl; (with_reducible repeat (first | refine blk_drewN ?_ _ | refine blk_drew ?_ | refine blk_alloc ?_ _)); refine blk_far ?_ iB.out _; (with_reducible repeat (first | refine blk_drewN ?_ _ | refine blk_drew ?_ | refine blk_alloc ?_ _)); exact eA.out) Try.underlying23 rfl q5_39 (.tmp .nil)))) rfl ?_
               exact ⟨_, q5_41, by (with_reducible repeat (first | apply Kd.R_alloc | apply Kd.R_drewN | apply Kd.R_drew)); exact Kd.R_mono (Kd.R_far (p := ⟨bA, 9, none⟩) (Kd.R_far (p := ⟨bA, 8, none⟩) (Kd.R_far (p := ⟨bA, 7, none⟩) (Kd.R_far (p := ⟨bA, 6, none⟩) (Kd.R_far (p := ⟨bA, 5, none⟩) (Kd.R_far (p := ⟨bA, 4, none⟩) (Kd.R_far (p := ⟨bA, 3, none⟩) (Kd.R_far (p := ⟨bA, 2, none⟩) (Kd.R_far (p := ⟨bA, 1, none⟩) (Kd.R_far (p := ⟨bA, 0, none⟩) (Kd.R_far (p := ⟨iA, 0, none⟩) (Kd.R_types (Kd.R_types hA.out lA.out (by decide)) eA.out (by decide)) (fun _ hk => hk.1.2) (.slice lB cB.length mB)) (fun _ hk => hk.2) (.int .i64 dF)) (fun _ hk => hk.2) (.int .i64 VF)) (fun _ hk => hk.2) (.int .i64 aG)) (fun _ hk => hk.2) (.int .i64 jG)) (fun _ hk => hk.2) (.int .i64 UH)) (fun _ hk => hk.2) (.int .i64 ZH)) (fun _ hk => hk.2) (.int .i64 eI)) (fun _ hk => hk.2) (.int .i64 oI)) (fun _ hk => hk.2) (.int .i64 rI)) (fun _ hk => hk.2) (.bool xI)) (fun _ hk => trivial), q5_0⟩
            ·rw [if_neg c131] at H
             have WH : (jA == 2) = false := beq_eq_false_iff_ne.mpr c131
             have XH : (jA != 2) = true := bne_iff_ne.mpr c131
             have H' := Aside0.mk H
             clear H
             go_wp2
             go_meet
             case rel => exact ⟨_, ((wrap64 (jA + 1))), (sA), (yA), (vA), (0), (0), (0), (0), (0), (0), (0), (0), (0), (false), H', ⟨q5_43⟩, ⟨q5_16⟩, ⟨q5_1⟩, ⟨q5_2⟩, ⟨q5_3⟩, ⟨q5_4⟩, ⟨q5_13⟩, ⟨q5_14⟩, ⟨q5_0⟩⟩
    case rest =>
     clear HC54
     (try clear c1); (try clear p2); (try clear c6); (try clear p6); (try clear c7); (try clear c8); (try clear c10); (try clear c11); (try clear c12); (try clear c13); (try clear c14); (try clear p64); (try clear c66); (try clear c74); (try clear c75); (try clear c76); (try clear c78); (try clear c79); (try clear c80); (try clear c81); (try clear c82); (try clear c84); (try clear c100); (try clear GB); (try clear gF); (try clear c101); (try clear c102); (try clear c103); (try clear c104); (try clear c105); (try clear c107); (try clear c109); (try clear c110); (try clear c111); (try clear c112); (try clear c113); (try clear c114); (try clear c116); (try clear c117); (try clear c118); (try clear c119); (try clear c120); (try clear c123); (try clear NB); (try clear iG); (try clear c124); (try clear c125); (try clear c126); (try clear c127); (try clear c128); (try clear c129); (try clear c131); (try clear WH); (try clear XH); (try clear c133); (try clear c134); (try clear c135); (try clear c136); (try clear c137); (try clear c139); (try clear AC); (try clear YH); (try clear c141); (try clear c142); (try clear c143); (try clear c144); (try clear c145); (try clear FE); (try clear GE); (try clear HE); (try clear IE); (try clear JE); (try clear KE); (try clear LE); (try clear ME); (try clear NE); (try clear OE); (try clear hF); (try clear iF); (try clear jF); (try clear kF); (try clear lF); (try clear mF); (try clear nF); (try clear oF); (try clear pF); (try clear qF); (try clear BF); (try clear CF); (try clear DF); (try clear EF); (try clear FF); (try clear GF); (try clear HF); (try clear IF); (try clear JF); (try clear KF); (try clear sG); (try clear tG); (try clear uG); (try clear vG); (try clear wG); (try clear xG); (try clear yG); (try clear zG); (try clear AG); (try clear BG); (try clear MG); (try clear NG); (try clear OG); (try clear PG); (try clear QG); (try clear RG); (try clear SG); (try clear TG); (try clear UG); (try clear VG); (try clear gH); (try clear hH); (try clear iH); (try clear jH); (try clear kH); (try clear lH); (try clear mH); (try clear nH); (try clear oH); (try clear pH); (try clear AH); (try clear BH); (try clear CH); (try clear DH); (try clear EH); (try clear FH); (try clear GH); (try clear HH); (try clear IH); (try clear JH); (try clear OB); (try clear PB); (try clear QB); (try clear RB); (try clear SB); (try clear TB); (try clear UB); (try clear VB); (try clear WB); (try clear XB); (try clear iC); (try clear jC); (try clear kC); (try clear lC); (try clear qC); (try clear sC); (try clear uC); (try clear FC); (try clear HC); (try clear IC); (try clear JC); (try clear KC); (try clear LC); (try clear MC); (try clear NC); (try clear OC); (try clear PC); (try clear QC); (try clear bD); (try clear cD); (try clear dD); (try clear eD); (try clear fD); (try clear gD); (try clear hD); (try clear iD); (try clear jD); (try clear kD); (try clear wD); (try clear xD); (try clear yD); (try clear zD); (try clear AD); (try clear BD); (try clear CD); (try clear DD); (try clear ED); (try clear FD); (try clear RD); (try clear SD); (try clear TD); (try clear UD); (try clear VD); (try clear WD); (try clear XD); (try clear YD); (try clear ZD); (try clear aE); (try clear lE); (try clear mE); (try clear nE); (try clear oE); (try clear pE); (try clear qE); (try clear rE); (try clear sE); (try clear tE); (try clear uE); (try clear PE); (try clear QE); (try clear RE); (try clear SE); (try clear TE); (try clear UE); (try clear VE); (try clear WE); (try clear XE); (try clear YE); (try clear rF); (try clear sF); (try clear tF); (try clear uF); (try clear vF); (try clear wF); (try clear xF); (try clear yF); (try clear zF); (try clear AF); (try clear LF); (try clear MF); (try clear NF); (try clear OF); (try clear PF); (try clear QF); (try clear RF); (try clear SF); (try clear TF); (try clear UF); (try clear CG); (try clear DG); (try clear EG); (try clear FG); (try clear GG); (try clear HG); (try clear IG); (try clear JG); (try clear KG); (try clear LG); (try clear WG); (try clear XG); (try clear YG); (try clear ZG); (try clear aH); (try clear bH); (try clear cH); (try clear dH); (try clear eH); (try clear fH); (try clear qH); (try clear rH); (try clear sH); (try clear tH); (try clear uH); (try clear vH); (try clear wH); (try clear xH); (try clear yH); (try clear zH); (try clear KH); (try clear LH); (try clear MH); (try clear NH); (try clear OH); (try clear PH); (try clear QH); (try clear RH); (try clear SH); (try clear TH); (try clear YB); (try clear ZB); (try clear aC); (try clear bC); (try clear cC); (try clear dC); (try clear eC); (try clear fC); (try clear gC); (try clear hC); (try clear mC); (try clear nC); (try clear oC); (try clear pC); (try clear rC); (try clear tC); (try clear vC); (try clear GC); (try clear RC); (try clear SC); (try clear TC); (try clear UC); (try clear VC); (try clear WC); (try clear XC); (try clear YC); (try clear ZC); (try clear aD); (try clear lD); (try clear mD); (try clear nD); (try clear oD); (try clear pD); (try clear qD); (try clear rD); (try clear sD); (try clear tD); (try clear uD); (try clear GD); (try clear HD); (try clear ID); (try clear JD); (try clear KD); (try clear LD); (try clear MD); (try clear ND); (try clear OD); (try clear PD); (try clear bE); (try clear cE); (try clear dE); (try clear eE); (try clear fE); (try clear gE); (try clear hE); (try clear iE); (try clear jE); (try clear kE); (try clear vE); (try clear wE); (try clear xE); (try clear yE); (try clear zE); (try clear AE); (try clear BE); (try clear CE); (try clear DE); (try clear EE); (try clear p2); (try clear p6); (try clear p64)
     obtain ⟨kq, NA, WA, aB, gB, FB, wB, kB, hB, dB, bB, XA, RA, OA, FA, HA, HJ53, hA, qA, cA, lA, eA, zA, GA, HB⟩ := hcut
     cases kq with
     | zero => exact absurd HA.out (by simp [spec_StStep.j5])
     | succ kj53 =>
      have H := HA.out
      clear HA
      simp only [spec_StStep.j5] at H
      simp only [Option.some.injEq, Prod.mk.injEq] at H
      obtain ⟨rfl, rfl, rfl, rfl, rfl, rfl, rfl, rfl, rfl, rfl, rfl, rfl⟩ := H
      try go_wp2
      have AB := Aside0.mk (Kd.R_drew hA.out)
      have LB := Aside0.mk (blk_drew qA.out)
      have BB := Aside0.mk (blk_drew cA.out)
      have CB := Aside0.mk (blk_drew lA.out)
      have IB := Aside0.mk (blk_drew eA.out)
      have DC := Aside0.mk (blk_drew zA.out)
      have MB := Aside0.mk (blk_drew GA.out)
      have EC := Aside0.mk (below_drew1 HB.out)
      clear hA qA cA lA eA zA GA HB
      have hA := AB
      have qA := LB
      have cA := BB
      have lA := CB
      have eA := IB
      have zA := DC
      have GA := MB
      have HB := EC
      clear AB LB BB CB IB DC MB EC
      refine start_ (n := 5) (S := fun w' => w'.cell? ⟨ZA, 0, none⟩ = some (.slice lB cB.length mB) ∧ w'.cell? ⟨dA, 0, none⟩ = some (.int .i64 kA) ∧ w'.cell? ⟨dA, 1, none⟩ = some (.int .i64 mA) ∧ w'.cell? ⟨dA, 2, none⟩ = some (.int .i64 nA) ∧ w'.cell? ⟨dA, 3, none⟩ = some (.int .i64 NA) ∧ w'.cell? ⟨dA, 4, none⟩ = some (.int .i64 oA) ∧ w'.cell? ⟨dA, 5, none⟩ = some (.int .i64 WA) ∧ w'.cell? ⟨dA, 6, none⟩ = some (.int .i64 aB) ∧ w'.cell? ⟨dA, 7, none⟩ = some (.int .i64 pA) ∧ w'.cell? ⟨dA, 8, none⟩ = some (.int .i64 gB) ∧ w'.cell? ⟨dA, 9, none⟩ = some (.bool rA)) (ds := []) #[F,F,F,F,F] q5_39 rfl rfl ⟨(blk_cell GA.out 0).trans rfl, (blk_cell cA.out 0).trans rfl, (blk_cell cA.out 1).trans rfl, (blk_cell cA.out 2).trans rfl, (blk_cell cA.out 3).trans rfl, (blk_cell cA.out 4).trans rfl, (blk_cell cA.out 5).trans rfl, (blk_cell cA.out 6).trans rfl, (blk_cell cA.out 7).trans rfl, (blk_cell cA.out 8).trans rfl, (blk_cell cA.out 9).trans rfl⟩ (fun hHeld => ?_)
      generalize wc.drew = XF at hA qA cA lA eA zA GA HB hHeld ⊢
      refine take_ (i := 0) (N := some 107) (v := ?_) (a' := ?_) #[T,F,F,F,F] rfl rfl q5_39 (fun _ _ _ h => h) (Or.inl ⟨by rfl, ?_⟩) hHeld ?_ ?_
      rotate_left
      ·rintro w' ⟨s0, s1, s2, s3, s4, s5, s6, s7, s8, s9, KI⟩
       go_simp
       with_reducible rfl
      rotate_left
      ·simp only [Act.put, List.setIfInBounds_toArray, List.set_cons_zero, List.set_cons_succ, i64_w, i32_w]
       rfl
      refine take_ (i := 1) (N := some 108) (v := ?_) (a' := ?_) #[T,T,F,F,F] rfl rfl q5_39 (fun _ _ _ h => h) (Or.inl ⟨by rfl, ?_⟩) hHeld ?_ ?_
      rotate_left
      ·rintro w' ⟨s0, s1, s2, s3, s4, s5, s6, s7, s8, s9, KI⟩
       go_simp
       with_reducible rfl
      rotate_left
      ·simp only [Act.put, List.setIfInBounds_toArray, List.set_cons_zero, List.set_cons_succ, i64_w, i32_w]
       rfl
      refine one_ (i := 2) (N := none) #[T,T,T,F,F] rfl rfl q5_39 (by decide) (fun K hK => ?_)
      have PN : XF.cell? ⟨iA, 0, none⟩ = some (.slice none 0 0) := (blk_cell lA.out 0).trans rfl
      have jL := blk_frozen lA.out 0
      have dJ := pB.out
      have eJ := fA.out
      have fJ := iB.out
      have gJ := DB.out
      have hJ := jB.out
      have iJ := qB.out
      have jJ := wA.out
      have kJ := zB.out
      have lJ := tB.out
      have mJ := nB.out
      refine skip_ (w1 := ?_) (by rfl) rfl ?_ ?_
      rotate_left
      ·go_simp
       rfl
      refine hK.out _ _ ⟨((cell_far (p := ⟨iA, _, none⟩) jB.out _).trans (hHeld.1)), ((cell_far (p := ⟨iA, _, none⟩) fA.out _).trans (hHeld.2.1)), ((cell_far (p := ⟨iA, _, none⟩) fA.out _).trans (hHeld.2.2.1)), ((cell_far (p := ⟨iA, _, none⟩) fA.out _).trans (hHeld.2.2.2.1)), ((cell_far (p := ⟨iA, _, none⟩) fA.out _).trans (hHeld.2.2.2.2.1)), ((cell_far (p := ⟨iA, _, none⟩) fA.out _).trans (hHeld.2.2.2.2.2.1)), ((cell_far (p := ⟨iA, _, none⟩) fA.out _).trans (hHeld.2.2.2.2.2.2.1)), ((cell_far (p := ⟨iA, _, none⟩) fA.out _).trans (hHeld.2.2.2.2.2.2.2.1)), ((cell_far (p := ⟨iA, _, none⟩) fA.out _).trans (hHeld.2.2.2.2.2.2.2.2.1)), ((cell_far (p := ⟨iA, _, none⟩) fA.out _).trans (hHeld.2.2.2.2.2.2.2.2.2.1)), ((cell_far (p := ⟨iA, _, none⟩) fA.out _).trans (hHeld.2.2.2.2.2.2.2.2.2.2))⟩ (fun hHeld => ?_)
      clear hK K
      refine one_ (i := 3) (N := none) #[T,T,T,T,F] rfl rfl q5_39 (by decide) (fun K hK => ?_)
      have QN : XF.cell? ⟨bA, 0, none⟩ = some (.int .i64 FB) := (blk_cell eA.out 0).trans rfl
      have kL := blk_frozen eA.out 0
      have nJ := rB.out
      have oJ := aA.out
      have pJ := EB.out
      have qJ := gA.out
      have rJ := sB.out
      have sJ := xA.out
      have tJ := uB.out
      have uJ := oB.out
      have RN : XF.cell? ⟨bA, 1, none⟩ = some (.int .i64 wB) := (blk_cell eA.out 1).trans rfl
      have lL := blk_frozen eA.out 1
      have SN : XF.cell? ⟨bA, 2, none⟩ = some (.int .i64 kB) := (blk_cell eA.out 2).trans rfl
      have mL := blk_frozen eA.out 2
      have TN : XF.cell? ⟨bA, 3, none⟩ = some (.int .i64 hB) := (blk_cell eA.out 3).trans rfl
      have nL := blk_frozen eA.out 3
      have UN : XF.cell? ⟨bA, 4, none⟩ = some (.int .i64 dB) := (blk_cell eA.out 4).trans rfl
      have oL := blk_frozen eA.out 4
      have VN : XF.cell? ⟨bA, 5, none⟩ = some (.int .i64 bB) := (blk_cell eA.out 5).trans rfl
      have pL := blk_frozen eA.out 5
      have WN : XF.cell? ⟨bA, 6, none⟩ = some (.int .i64 XA) := (blk_cell eA.out 6).trans rfl
      have qL := blk_frozen eA.out 6
      have XN : XF.cell? ⟨bA, 7, none⟩ = some (.int .i64 RA) := (blk_cell eA.out 7).trans rfl
      have rL := blk_frozen eA.out 7
      have YN : XF.cell? ⟨bA, 8, none⟩ = some (.int .i64 OA) := (blk_cell eA.out 8).trans rfl
      have sL := blk_frozen eA.out 8
      have ZN : XF.cell? ⟨bA, 9, none⟩ = some (.bool FA) := (blk_cell eA.out 9).trans rfl
      have tL := blk_frozen eA.out 9
      refine skip_ (w1 := ?_) (by rfl) rfl ?_ ?_
      rotate_left
      ·go_simp
       rfl
      refine hK.out _ _ ⟨((cell_far (p := ⟨bA, _, none⟩) gA.out _).trans (((cell_far (p := ⟨bA, _, none⟩) gA.out _).trans (((cell_far (p := ⟨bA, _, none⟩) gA.out _).trans (((cell_far (p := ⟨bA, _, none⟩) gA.out _).trans (((cell_far (p := ⟨bA, _, none⟩) gA.out _).trans (((cell_far (p := ⟨bA, _, none⟩) gA.out _).trans (((cell_far (p := ⟨bA, _, none⟩) gA.out _).trans (((cell_far (p := ⟨bA, _, none⟩) gA.out _).trans (((cell_far (p := ⟨bA, _, none⟩) gA.out _).trans (((cell_far (p := ⟨bA, _, none⟩) gA.out _).trans (hHeld.1)))))))))))))))))))), ((cell_far (p := ⟨bA, _, none⟩) aA.out _).trans (((cell_far (p := ⟨bA, _, none⟩) aA.out _).trans (((cell_far (p := ⟨bA, _, none⟩) aA.out _).trans (((cell_far (p := ⟨bA, _, none⟩) aA.out _).trans (((cell_far (p := ⟨bA, _, none⟩) aA.out _).trans (((cell_far (p := ⟨bA, _, none⟩) aA.out _).trans (((cell_far (p := ⟨bA, _, none⟩) aA.out _).trans (((cell_far (p := ⟨bA, _, none⟩) aA.out _).trans (((cell_far (p := ⟨bA, _, none⟩) aA.out _).trans (((cell_far (p := ⟨bA, _, none⟩) aA.out _).trans (hHeld.2.1)))))))))))))))))))), ((cell_far (p := ⟨bA, _, none⟩) aA.out _).trans (((cell_far (p := ⟨bA, _, none⟩) aA.out _).trans (((cell_far (p := ⟨bA, _, none⟩) aA.out _).trans (((cell_far (p := ⟨bA, _, none⟩) aA.out _).trans (((cell_far (p := ⟨bA, _, none⟩) aA.out _).trans (((cell_far (p := ⟨bA, _, none⟩) aA.out _).trans (((cell_far (p := ⟨bA, _, none⟩) aA.out _).trans (((cell_far (p := ⟨bA, _, none⟩) aA.out _).trans (((cell_far (p := ⟨bA, _, none⟩) aA.out _).trans (((cell_far (p := ⟨bA, _, none⟩) aA.out _).trans (hHeld.2.2.1)))))))))))))))))))), ((cell_far (p := ⟨bA, _, none⟩) aA.out _).trans (((cell_far (p := ⟨bA, _, none⟩) aA.out _).trans (((cell_far (p := ⟨bA, _, none⟩) aA.out _).trans (((cell_far (p := ⟨bA, _, none⟩) aA.out _).trans (((cell_far (p := ⟨bA, _, none⟩) aA.out _).trans (((cell_far (p := ⟨bA, _, none⟩) aA.out _).trans (((cell_far (p := ⟨bA, _, none⟩) aA.out _).trans (((cell_far (p := ⟨bA, _, none⟩) aA.out _).trans (((cell_far (p := ⟨bA, _, none⟩) aA.out _).trans (((cell_far (p := ⟨bA, _, none⟩) aA.out _).trans (hHeld.2.2.2.1)))))))))))))))))))), ((cell_far (p := ⟨bA, _, none⟩) aA.out _).trans (((cell_far (p := ⟨bA, _, none⟩) aA.out _).trans (((cell_far (p := ⟨bA, _, none⟩) aA.out _).trans (((cell_far (p := ⟨bA, _, none⟩) aA.out _).trans (((cell_far (p := ⟨bA, _, none⟩) aA.out _).trans (((cell_far (p := ⟨bA, _, none⟩) aA.out _).trans (((cell_far (p := ⟨bA, _, none⟩) aA.out _).trans (((cell_far (p := ⟨bA, _, none⟩) aA.out _).trans (((cell_far (p := ⟨bA, _, none⟩) aA.out _).trans (((cell_far (p := ⟨bA, _, none⟩) aA.out _).trans (hHeld.2.2.2.2.1)))))))))))))))))))), ((cell_far (p := ⟨bA, _, none⟩) aA.out _).trans (((cell_far (p := ⟨bA, _, none⟩) aA.out _).trans (((cell_far (p := ⟨bA, _, none⟩) aA.out _).trans (((cell_far (p := ⟨bA, _, none⟩) aA.out _).trans (((cell_far (p := ⟨bA, _, none⟩) aA.out _).trans (((cell_far (p := ⟨bA, _, none⟩) aA.out _).trans (((cell_far (p := ⟨bA, _, none⟩) aA.out _).trans (((cell_far (p := ⟨bA, _, none⟩) aA.out _).trans (((cell_far (p := ⟨bA, _, none⟩) aA.out _).trans (((cell_far (p := ⟨bA, _, none⟩) aA.out _).trans (hHeld.2.2.2.2.2.1)))))))))))))))))))), ((cell_far (p := ⟨bA, _, none⟩) aA.out _).trans (((cell_far (p := ⟨bA, _, none⟩) aA.out _).trans (((cell_far (p := ⟨bA, _, none⟩) aA.out _).trans (((cell_far (p := ⟨bA, _, none⟩) aA.out _).trans (((cell_far (p := ⟨bA, _, none⟩) aA.out _).trans (((cell_far (p := ⟨bA, _, none⟩) aA.out _).trans (((cell_far (p := ⟨bA, _, none⟩) aA.out _).trans (((cell_far (p := ⟨bA, _, none⟩) aA.out _).trans (((cell_far (p := ⟨bA, _, none⟩) aA.out _).trans (((cell_far (p := ⟨bA, _, none⟩) aA.out _).trans (hHeld.2.2.2.2.2.2.1)))))))))))))))))))), ((cell_far (p := ⟨bA, _, none⟩) aA.out _).trans (((cell_far (p := ⟨bA, _, none⟩) aA.out _).trans (((cell_far (p := ⟨bA, _, none⟩) aA.out _).trans (((cell_far (p := ⟨bA, _, none⟩) aA.out _).trans (((cell_far (p := ⟨bA, _, none⟩) aA.out _).trans (((cell_far (p := ⟨bA, _, none⟩) aA.out _).trans (((cell_far (p := ⟨bA, _, none⟩) aA.out _).trans (((cell_far (p := ⟨bA, _, none⟩) aA.out _).trans (((cell_far (p := ⟨bA, _, none⟩) aA.out _).trans (((cell_far (p := ⟨bA, _, none⟩) aA.out _).trans (hHeld.2.2.2.2.2.2.2.1)))))))))))))))))))), ((cell_far (p := ⟨bA, _, none⟩) aA.out _).trans (((cell_far (p := ⟨bA, _, none⟩) aA.out _).trans (((cell_far (p := ⟨bA, _, none⟩) aA.out _).trans (((cell_far (p := ⟨bA, _, none⟩) aA.out _).trans (((cell_far (p := ⟨bA, _, none⟩) aA.out _).trans (((cell_far (p := ⟨bA, _, none⟩) aA.out _).trans (((cell_far (p := ⟨bA, _, none⟩) aA.out _).trans (((cell_far (p := ⟨bA, _, none⟩) aA.out _).trans (((cell_far (p := ⟨bA, _, none⟩) aA.out _).trans (((cell_far (p := ⟨bA, _, none⟩) aA.out _).trans (hHeld.2.2.2.2.2.2.2.2.1)))))))))))))))))))), ((cell_far (p := ⟨bA, _, none⟩) aA.out _).trans (((cell_far (p := ⟨bA, _, none⟩) aA.out _).trans (((cell_far (p := ⟨bA, _, none⟩) aA.out _).trans (((cell_far (p := ⟨bA, _, none⟩) aA.out _).trans (((cell_far (p := ⟨bA, _, none⟩) aA.out _).trans (((cell_far (p := ⟨bA, _, none⟩) aA.out _).trans (((cell_far (p := ⟨bA, _, none⟩) aA.out _).trans (((cell_far (p := ⟨bA, _, none⟩) aA.out _).trans (((cell_far (p := ⟨bA, _, none⟩) aA.out _).trans (((cell_far (p := ⟨bA, _, none⟩) aA.out _).trans (hHeld.2.2.2.2.2.2.2.2.2.1)))))))))))))))))))), ((cell_far (p := ⟨bA, _, none⟩) aA.out _).trans (((cell_far (p := ⟨bA, _, none⟩) aA.out _).trans (((cell_far (p := ⟨bA, _, none⟩) aA.out _).trans (((cell_far (p := ⟨bA, _, none⟩) aA.out _).trans (((cell_far (p := ⟨bA, _, none⟩) aA.out _).trans (((cell_far (p := ⟨bA, _, none⟩) aA.out _).trans (((cell_far (p := ⟨bA, _, none⟩) aA.out _).trans (((cell_far (p := ⟨bA, _, none⟩) aA.out _).trans (((cell_far (p := ⟨bA, _, none⟩) aA.out _).trans (((cell_far (p := ⟨bA, _, none⟩) aA.out _).trans (hHeld.2.2.2.2.2.2.2.2.2.2))))))))))))))))))))⟩ (fun hHeld => ?_)
      clear hK K
      refine pure_ (i := 4) (N := some 8) (v := ?_) (a' := ?_) #[T,T,T,T,T] rfl rfl q5_39 (fun _ _ _ h => h) (Or.inl ⟨by rfl, ?_⟩) ?_ ?_
      rotate_left
      ·intro w'
       go_simp
       with_reducible rfl
      rotate_left
      ·simp only [Act.put, List.setIfInBounds_toArray, List.set_cons_zero, List.set_cons_succ, i64_w, i32_w]
       rfl
      refine done_ q5_39 ?_
      try go_wp2
      refine bodyPost_ret (results_list (rs := [.cell 6 29, .cell 7 23, .tmp 8]) rfl (by simp) (.cell iA 29 #[.slice lB cB.length mB] (0, 0) _ rfl q5_6 Try.underlying29 rfl q5_39 (.cell bA 23 #[.int .i64 kA, .int .i64 mA, .int .i64 nA, .int .i64 NA, .int .i64 oA, .int .i64 WA, .int .i64 aB, .int .i64 pA, .int .i64 gB, .bool rA] (0, 0) _ rfl (by (with_reducible repeat (first | refine blk_drewN ?_ _ | refine blk_drew ?_ | refine blk_alloc ?_ _)); refine blk_put (cs := #[.int .i64 kA, .int .i64 mA, .int .i64 nA, .int .i64 NA, .int .i64 oA, .int .i64 WA, .int .i64 aB, .int .i64 pA, .int .i64 gB, .bool FA]) ?_ 9 _ rfl; (with_reducible repeat (first | refine blk_drewN ?_ _ | refine blk_drew ?_ | refine blk_alloc ?_ _)); refine blk_put (cs := #[.int .i64 kA, .int .i64 mA, .int .i64 nA, .int .i64 NA, .int .i64 oA, .int .i64 WA, .int .i64 aB, .int .i64 pA, .int .i64 OA, .bool FA]) ?_ 8 _ rfl; (with_reducible repeat (first | refine blk_drewN ?_ _ | refine blk_drew ?_ | refine blk_alloc ?_ _)); refine blk_put (cs := #[.int .i64 kA, .int .i64 mA, .int .i64 nA, .int .i64 NA, .int .i64 oA, .int .i64 WA, .int .i64 aB, .int .i64 RA, .int .i64 OA, .bool FA]) ?_ 7 _ rfl; (with_reducible repeat (first | refine blk_drewN ?_ _ | refine blk_drew ?_ | refine blk_alloc ?_ _)); refine blk_put (cs := #[.int .i64 kA, .int .i64 mA, .int .i64 nA, .int .i64 NA, .int .i64 oA, .int .i64 WA, .int .i64 XA, .int .i64 RA, .int .i64 OA, .bool FA]) ?_ 6 _ rfl; (with_reducible repeat (first | refine blk_drewN ?_ _ | refine blk_drew ?_ | refine blk_alloc ?_ _)); refine blk_put (cs := #[.int .i64 kA, .int .i64 mA, .int .i64 nA, .int .i64 NA, .int .i64 oA, .int .i64 bB, .int .i64 XA, .int .i64 RA, .int .i64 OA, .bool FA]) ?_ 5 _ rfl; (with_reducible repeat (first | refine blk_drewN ?_ _ | refine blk_drew ?_ | refine blk_alloc ?_ _)); refine blk_put (cs := #[.int .i64 kA, .int .i64 mA, .int .i64 nA, .int .i64 NA, .int .i64 dB, .int .i64 bB, .int .i64 XA, .int .i64 RA, .int .i64 OA, .bool FA]) ?_ 4 _ rfl; (with_reducible repeat (first | refine blk_drewN ?_ _ | refine blk_drew ?_ | refine blk_alloc ?_ _)); refine blk_put (cs := #[.int .i64 kA, .int .i64 mA, .int .i64 nA, .int .i64 hB, .int .i64 dB, .int .i64 bB, .int .i64 XA, .int .i64 RA, .int .i64 OA, .bool FA]) ?_ 3 _ rfl; (with_reducible repeat (first | refine blk_drewN ?_ _ | refine blk_drew ?_ | refine blk_alloc ?_ _)); refine blk_put (cs := #[.int .i64 kA, .int .i64 mA, .int .i64 kB, .int .i64 hB, .int .i64 dB, .int .i64 bB, .int .i64 XA, .int .i64 RA, .int .i64 OA, .bool FA]) ?_ 2 _ rfl; (with_reducible repeat (first | refine blk_drewN ?_ _ | refine blk_drew ?_ | refine blk_alloc ?_ _)); refine blk_put (cs := #[.int .i64 kA, .int .i64 wB, .int .i64 kB, .int .i64 hB, .int .i64 dB, .int .i64 bB, .int .i64 XA, .int .i64 RA, .int .i64 OA, .bool FA]) ?_ 1 _ rfl; (with_reducible repeat (first | refine blk_drewN ?_ _ | refine blk_drew ?_ | refine blk_alloc ?_ _)); refine blk_put (cs := #[.int .i64 FB, .int .i64 wB, .int .i64 kB, .int .i64 hB, .int .i64 dB, .int .i64 bB, .int .i64 XA, .int .i64 RA, .int .i64 OA, .bool FA]) ?_ 0 _ rfl; (with_reducible repeat (first | refine blk_drewN ?_ _ | refine blk_drew ?_ | refine blk_alloc ?_ _)); refine blk_far ?_ iB.out _; (with_reducible repeat (first | refine blk_drewN ?_ _ | refine blk_drew ?_ | refine blk_alloc ?_ _)); exact eA.out) Try.underlying23 rfl q5_39 (.tmp .nil)))) rfl ?_
      exact ⟨_, q5_41, by (with_reducible repeat (first | apply Kd.R_alloc | apply Kd.R_drewN | apply Kd.R_drew)); exact Kd.R_mono (Kd.R_far (p := ⟨bA, 9, none⟩) (Kd.R_far (p := ⟨bA, 8, none⟩) (Kd.R_far (p := ⟨bA, 7, none⟩) (Kd.R_far (p := ⟨bA, 6, none⟩) (Kd.R_far (p := ⟨bA, 5, none⟩) (Kd.R_far (p := ⟨bA, 4, none⟩) (Kd.R_far (p := ⟨bA, 3, none⟩) (Kd.R_far (p := ⟨bA, 2, none⟩) (Kd.R_far (p := ⟨bA, 1, none⟩) (Kd.R_far (p := ⟨bA, 0, none⟩) (Kd.R_far (p := ⟨iA, 0, none⟩) (Kd.R_types (Kd.R_types hA.out lA.out (by decide)) eA.out (by decide)) (fun _ hk => hk.1.2) (.slice lB cB.length mB)) (fun _ hk => hk.2) (.int .i64 kA)) (fun _ hk => hk.2) (.int .i64 mA)) (fun _ hk => hk.2) (.int .i64 nA)) (fun _ hk => hk.2) (.int .i64 NA)) (fun _ hk => hk.2) (.int .i64 oA)) (fun _ hk => hk.2) (.int .i64 WA)) (fun _ hk => hk.2) (.int .i64 aB)) (fun _ hk => hk.2) (.int .i64 pA)) (fun _ hk => hk.2) (.int .i64 gB)) (fun _ hk => hk.2) (.bool rA)) (fun _ hk => trivial), q5_0⟩

end Go.Proofs.Ytfahmmlkcmadeaa.PFnExactStStep
