-- Written by the session's own patched copy of the printer (wip/patch_print.py).
import Derived.Test.YtfahmmlkcmadeaaPFnExactRiStepx0
import Derived.Test.YtfahmmlkcmadeaaPFnExactRiStepx3
import Derived.Test.YtfahmmlkcmadeaaPFnExactRiStepx4
namespace Go.Proofs.Ytfahmmlkcmadeaa.PFnExactRiStep
open Go.RowKit Go.Proofs.YtfahmmlkcmadeaaW.PrintWords Go.Proofs.YtfahmmlkcmadeaaW.PrintLast Go.Proofs.YtfahmmlkcmadeaaW.PrintMore
attribute [local go_sem] max2_int min2_int max_two min_two max_three min_three max_four min_four   -- for this text's walks alone
set_option linter.unusedVariables false
set_option linter.unusedSimpArgs false

open Bool renaming true → T, false → F
theorem q5_0 {p : Prop} (h : p := by repeat (first | (with_reducible first | exact HB.out | apply below_alloc | apply pw_below_drewN | apply below_drew1 | refine below_set ?_ LC.out | refine below_set ?_ SE.out | refine below_set ?_ bF.out | refine below_set ?_ YF.out | refine below_set ?_ xH.out | refine below_set ?_ AH.out) | exact HB.out)) : p := h
theorem q5_1 {p : Prop} (h : p := by (with_reducible repeat (first | refine blk_drewN ?_ _ | refine blk_drew ?_ | refine blk_alloc ?_ _)); exact AA.out) : p := h
theorem q5_2 {p : Prop} (h : p := by (with_reducible repeat (first | refine blk_drewN ?_ _ | refine blk_drew ?_ | refine blk_alloc ?_ _)); exact bA.out) : p := h
theorem q5_3 {p : Prop} (h : p := by (with_reducible repeat (first | refine blk_drewN ?_ _ | refine blk_drew ?_ | refine blk_alloc ?_ _)); refine blk_far ?_ IA.out _; (with_reducible repeat (first | refine blk_drewN ?_ _ | refine blk_drew ?_ | refine blk_alloc ?_ _)); refine blk_far ?_ IA.out _; (with_reducible repeat (first | refine blk_drewN ?_ _ | refine blk_drew ?_ | refine blk_alloc ?_ _)); refine blk_far ?_ IA.out _; (with_reducible repeat (first | refine blk_drewN ?_ _ | refine blk_drew ?_ | refine blk_alloc ?_ _)); refine blk_far ?_ IA.out _; (with_reducible repeat (first | refine blk_drewN ?_ _ | refine blk_drew ?_ | refine blk_alloc ?_ _)); refine blk_far ?_ IA.out _; (with_reducible repeat (first | refine blk_drewN ?_ _ | refine blk_drew ?_ | refine blk_alloc ?_ _)); refine blk_far ?_ IA.out _; (with_reducible repeat (first | refine blk_drewN ?_ _ | refine blk_drew ?_ | refine blk_alloc ?_ _)); refine blk_far ?_ IA.out _; (with_reducible repeat (first | refine blk_drewN ?_ _ | refine blk_drew ?_ | refine blk_alloc ?_ _)); refine blk_far ?_ IA.out _; (with_reducible repeat (first | refine blk_drewN ?_ _ | refine blk_drew ?_ | refine blk_alloc ?_ _)); refine blk_far ?_ IA.out _; (with_reducible repeat (first | refine blk_drewN ?_ _ | refine blk_drew ?_ | refine blk_alloc ?_ _)); refine blk_far ?_ IA.out _; (with_reducible repeat (first | refine blk_drewN ?_ _ | refine blk_drew ?_ | refine blk_alloc ?_ _)); refine blk_put (cs := #[.slice none 0 0]) ?_ 0 _ rfl; (with_reducible repeat (first | refine blk_drewN ?_ _ | refine blk_drew ?_ | refine blk_alloc ?_ _)); exact BA.out) : p := h
theorem q5_4 {p : Prop} (h : p := by (with_reducible repeat (first | refine blk_drewN ?_ _ | refine blk_drew ?_ | refine blk_alloc ?_ _)); exact BA.out) : p := h
theorem q5_5 {p : Prop} (h : p := by (with_reducible repeat (first | refine blk_drewN ?_ _ | refine blk_drew ?_ | refine blk_alloc ?_ _)); refine blk_far ?_ pA.out _; (with_reducible repeat (first | refine blk_drewN ?_ _ | refine blk_drew ?_ | refine blk_alloc ?_ _)); refine blk_far ?_ pA.out _; (with_reducible repeat (first | refine blk_drewN ?_ _ | refine blk_drew ?_ | refine blk_alloc ?_ _)); refine blk_far ?_ pA.out _; (with_reducible repeat (first | refine blk_drewN ?_ _ | refine blk_drew ?_ | refine blk_alloc ?_ _)); refine blk_far ?_ pA.out _; (with_reducible repeat (first | refine blk_drewN ?_ _ | refine blk_drew ?_ | refine blk_alloc ?_ _)); refine blk_far ?_ pA.out _; (with_reducible repeat (first | refine blk_drewN ?_ _ | refine blk_drew ?_ | refine blk_alloc ?_ _)); refine blk_far ?_ pA.out _; (with_reducible repeat (first | refine blk_drewN ?_ _ | refine blk_drew ?_ | refine blk_alloc ?_ _)); refine blk_far ?_ pA.out _; (with_reducible repeat (first | refine blk_drewN ?_ _ | refine blk_drew ?_ | refine blk_alloc ?_ _)); refine blk_far ?_ pA.out _; (with_reducible repeat (first | refine blk_drewN ?_ _ | refine blk_drew ?_ | refine blk_alloc ?_ _)); refine blk_far ?_ pA.out _; (with_reducible repeat (first | refine blk_drewN ?_ _ | refine blk_drew ?_ | refine blk_alloc ?_ _)); refine blk_far ?_ pA.out _; (with_reducible repeat (first | refine blk_drewN ?_ _ | refine blk_drew ?_ | refine blk_alloc ?_ _)); exact AA.out) : p := h
theorem q5_6 {p : Prop} (h : p := by (with_reducible repeat (first | refine blk_drewN ?_ _ | refine blk_drew ?_ | refine blk_alloc ?_ _)); refine blk_far ?_ lA.out _; (with_reducible repeat (first | refine blk_drewN ?_ _ | refine blk_drew ?_ | refine blk_alloc ?_ _)); refine blk_far ?_ lA.out _; (with_reducible repeat (first | refine blk_drewN ?_ _ | refine blk_drew ?_ | refine blk_alloc ?_ _)); refine blk_far ?_ lA.out _; (with_reducible repeat (first | refine blk_drewN ?_ _ | refine blk_drew ?_ | refine blk_alloc ?_ _)); refine blk_far ?_ lA.out _; (with_reducible repeat (first | refine blk_drewN ?_ _ | refine blk_drew ?_ | refine blk_alloc ?_ _)); refine blk_far ?_ lA.out _; (with_reducible repeat (first | refine blk_drewN ?_ _ | refine blk_drew ?_ | refine blk_alloc ?_ _)); refine blk_far ?_ lA.out _; (with_reducible repeat (first | refine blk_drewN ?_ _ | refine blk_drew ?_ | refine blk_alloc ?_ _)); refine blk_far ?_ lA.out _; (with_reducible repeat (first | refine blk_drewN ?_ _ | refine blk_drew ?_ | refine blk_alloc ?_ _)); refine blk_far ?_ lA.out _; (with_reducible repeat (first | refine blk_drewN ?_ _ | refine blk_drew ?_ | refine blk_alloc ?_ _)); refine blk_far ?_ lA.out _; (with_reducible repeat (first | refine blk_drewN ?_ _ | refine blk_drew ?_ | refine blk_alloc ?_ _)); refine blk_far ?_ lA.out _; (with_reducible repeat (first | refine blk_drewN ?_ _ | refine blk_drew ?_ | refine blk_alloc ?_ _)); exact BA.out) : p := h
theorem q5_7 {p : Prop} (h : p := by (with_reducible repeat (first | refine blk_drewN ?_ _ | refine blk_drew ?_ | refine blk_alloc ?_ _)); refine blk_far ?_ mA.out _; (with_reducible repeat (first | refine blk_drewN ?_ _ | refine blk_drew ?_ | refine blk_alloc ?_ _)); refine blk_far ?_ mA.out _; (with_reducible repeat (first | refine blk_drewN ?_ _ | refine blk_drew ?_ | refine blk_alloc ?_ _)); refine blk_far ?_ mA.out _; (with_reducible repeat (first | refine blk_drewN ?_ _ | refine blk_drew ?_ | refine blk_alloc ?_ _)); refine blk_far ?_ mA.out _; (with_reducible repeat (first | refine blk_drewN ?_ _ | refine blk_drew ?_ | refine blk_alloc ?_ _)); refine blk_far ?_ mA.out _; (with_reducible repeat (first | refine blk_drewN ?_ _ | refine blk_drew ?_ | refine blk_alloc ?_ _)); refine blk_far ?_ mA.out _; (with_reducible repeat (first | refine blk_drewN ?_ _ | refine blk_drew ?_ | refine blk_alloc ?_ _)); refine blk_far ?_ mA.out _; (with_reducible repeat (first | refine blk_drewN ?_ _ | refine blk_drew ?_ | refine blk_alloc ?_ _)); refine blk_far ?_ mA.out _; (with_reducible repeat (first | refine blk_drewN ?_ _ | refine blk_drew ?_ | refine blk_alloc ?_ _)); refine blk_far ?_ mA.out _; (with_reducible repeat (first | refine blk_drewN ?_ _ | refine blk_drew ?_ | refine blk_alloc ?_ _)); refine blk_far ?_ mA.out _; (with_reducible repeat (first | refine blk_drewN ?_ _ | refine blk_drew ?_ | refine blk_alloc ?_ _)); exact fA.out) : p := h
theorem q5_8 {p : Prop} (h : p := by (with_reducible repeat (first | refine blk_drewN ?_ _ | refine blk_drew ?_ | refine blk_alloc ?_ _)); refine blk_far ?_ sA.out _; (with_reducible repeat (first | refine blk_drewN ?_ _ | refine blk_drew ?_ | refine blk_alloc ?_ _)); refine blk_far ?_ sA.out _; (with_reducible repeat (first | refine blk_drewN ?_ _ | refine blk_drew ?_ | refine blk_alloc ?_ _)); refine blk_far ?_ sA.out _; (with_reducible repeat (first | refine blk_drewN ?_ _ | refine blk_drew ?_ | refine blk_alloc ?_ _)); refine blk_far ?_ sA.out _; (with_reducible repeat (first | refine blk_drewN ?_ _ | refine blk_drew ?_ | refine blk_alloc ?_ _)); refine blk_far ?_ sA.out _; (with_reducible repeat (first | refine blk_drewN ?_ _ | refine blk_drew ?_ | refine blk_alloc ?_ _)); refine blk_far ?_ sA.out _; (with_reducible repeat (first | refine blk_drewN ?_ _ | refine blk_drew ?_ | refine blk_alloc ?_ _)); refine blk_far ?_ sA.out _; (with_reducible repeat (first | refine blk_drewN ?_ _ | refine blk_drew ?_ | refine blk_alloc ?_ _)); refine blk_far ?_ sA.out _; (with_reducible repeat (first | refine blk_drewN ?_ _ | refine blk_drew ?_ | refine blk_alloc ?_ _)); refine blk_far ?_ sA.out _; (with_reducible repeat (first | refine blk_drewN ?_ _ | refine blk_drew ?_ | refine blk_alloc ?_ _)); refine blk_far ?_ sA.out _; (with_reducible repeat (first | refine blk_drewN ?_ _ | refine blk_drew ?_ | refine blk_alloc ?_ _)); exact GA.out) : p := h
theorem q5_9 {p : Prop} (h : p := by (with_reducible repeat (first | refine blk_drewN ?_ _ | refine blk_drew ?_ | refine blk_alloc ?_ _)); refine blk_far ?_ tA.out _; (with_reducible repeat (first | refine blk_drewN ?_ _ | refine blk_drew ?_ | refine blk_alloc ?_ _)); refine blk_far ?_ tA.out _; (with_reducible repeat (first | refine blk_drewN ?_ _ | refine blk_drew ?_ | refine blk_alloc ?_ _)); refine blk_far ?_ tA.out _; (with_reducible repeat (first | refine blk_drewN ?_ _ | refine blk_drew ?_ | refine blk_alloc ?_ _)); refine blk_far ?_ tA.out _; (with_reducible repeat (first | refine blk_drewN ?_ _ | refine blk_drew ?_ | refine blk_alloc ?_ _)); refine blk_far ?_ tA.out _; (with_reducible repeat (first | refine blk_drewN ?_ _ | refine blk_drew ?_ | refine blk_alloc ?_ _)); refine blk_far ?_ tA.out _; (with_reducible repeat (first | refine blk_drewN ?_ _ | refine blk_drew ?_ | refine blk_alloc ?_ _)); refine blk_far ?_ tA.out _; (with_reducible repeat (first | refine blk_drewN ?_ _ | refine blk_drew ?_ | refine blk_alloc ?_ _)); refine blk_far ?_ tA.out _; (with_reducible repeat (first | refine blk_drewN ?_ _ | refine blk_drew ?_ | refine blk_alloc ?_ _)); refine blk_far ?_ tA.out _; (with_reducible repeat (first | refine blk_drewN ?_ _ | refine blk_drew ?_ | refine blk_alloc ?_ _)); refine blk_far ?_ tA.out _; (with_reducible repeat (first | refine blk_drewN ?_ _ | refine blk_drew ?_ | refine blk_alloc ?_ _)); exact eB.out) : p := h
theorem q5_10 {p : Prop} (h : p := by repeat (first | (with_reducible first | exact HB.out | apply below_alloc | apply pw_below_drewN | apply below_drew1 | refine below_set ?_ LC.out | refine below_set ?_ SE.out | refine below_set ?_ bF.out | refine below_set ?_ YF.out | refine below_set ?_ xH.out) | exact HB.out)) : p := h
theorem q5_11 {p : Prop} (h : p := by (with_reducible repeat (first | refine blk_drewN ?_ _ | refine blk_drew ?_ | refine blk_alloc ?_ _)); exact fA.out) : p := h
theorem q5_12 {p : Prop} (h : p := by (with_reducible repeat (first | refine blk_drewN ?_ _ | refine blk_drew ?_ | refine blk_alloc ?_ _)); refine blk_far ?_ pA.out _; (with_reducible repeat (first | refine blk_drewN ?_ _ | refine blk_drew ?_ | refine blk_alloc ?_ _)); exact AA.out) : p := h
theorem q5_13 {p : Prop} (h : p := by (with_reducible repeat (first | refine blk_drewN ?_ _ | refine blk_drew ?_ | refine blk_alloc ?_ _)); refine blk_far ?_ lA.out _; (with_reducible repeat (first | refine blk_drewN ?_ _ | refine blk_drew ?_ | refine blk_alloc ?_ _)); exact BA.out) : p := h
theorem q5_14 {p : Prop} (h : p := by (with_reducible repeat (first | refine blk_drewN ?_ _ | refine blk_drew ?_ | refine blk_alloc ?_ _)); refine blk_far ?_ mA.out _; (with_reducible repeat (first | refine blk_drewN ?_ _ | refine blk_drew ?_ | refine blk_alloc ?_ _)); exact fA.out) : p := h
theorem q5_15 {p : Prop} (h : p := by (with_reducible repeat (first | refine blk_drewN ?_ _ | refine blk_drew ?_ | refine blk_alloc ?_ _)); refine blk_far ?_ sA.out _; (with_reducible repeat (first | refine blk_drewN ?_ _ | refine blk_drew ?_ | refine blk_alloc ?_ _)); exact GA.out) : p := h
theorem q5_16 {p : Prop} (h : p := by (with_reducible repeat (first | refine blk_drewN ?_ _ | refine blk_drew ?_ | refine blk_alloc ?_ _)); refine blk_far ?_ tA.out _; (with_reducible repeat (first | refine blk_drewN ?_ _ | refine blk_drew ?_ | refine blk_alloc ?_ _)); exact eB.out) : p := h
theorem q5_17 {p : Prop} (h : p := by (with_reducible repeat (first | refine blk_drewN ?_ _ | refine blk_drew ?_ | refine blk_alloc ?_ _)); refine blk_put (cs := #[.int .i64 qA, .int .i64 rA, .int .i64 oA, .int .i64 eA, .int .i64 nA, .int .i64 kA, .int .i64 jA, .int .i64 hA, .int .i64 iA, .bool gA]) ?_ 3 _ rfl; (with_reducible repeat (first | refine blk_drewN ?_ _ | refine blk_drew ?_ | refine blk_alloc ?_ _)); exact bA.out) : p := h
theorem q5_18 {p : Prop} (h : p := by repeat (first | (with_reducible first | exact HB.out | apply below_alloc | apply pw_below_drewN | apply below_drew1 | refine below_set ?_ LC.out | refine below_set ?_ SE.out | refine below_set ?_ bF.out | refine below_set ?_ YF.out) | exact HB.out)) : p := h
theorem q5_19 {p : Prop} (h : p := by rw [hg]; exact Nat.ne_of_lt (blk_lt (g := dA) (o := .cells #[.int .i64 qA, .int .i64 rA, .int .i64 oA, .int .i64 eA, .int .i64 nA, .int .i64 kA, .int .i64 jA, .int .i64 hA, .int .i64 iA, .bool gA] 23 (0, 0)) q5_2)) : p := h
theorem q5_20 {p : Prop} (h : p := by rw [hg]; exact Nat.ne_of_gt (blk_lt (g := dA) (o := .cells #[.int .i64 qA, .int .i64 rA, .int .i64 oA, .int .i64 eA, .int .i64 nA, .int .i64 kA, .int .i64 jA, .int .i64 hA, .int .i64 iA, .bool gA] 23 (0, 0)) q5_2)) : p := h
theorem q5_21 {p : Prop} (h : p := by (with_reducible repeat (first | refine blk_drewN ?_ _ | refine blk_drew ?_ | refine blk_alloc ?_ _)); exact GA.out) : p := h
theorem q5_22 {p : Prop} (h : p := by (with_reducible repeat (first | refine blk_drewN ?_ _ | refine blk_drew ?_ | refine blk_alloc ?_ _)); refine blk_put (cs := #[.slice none 0 0]) ?_ 0 _ rfl; (with_reducible repeat (first | refine blk_drewN ?_ _ | refine blk_drew ?_ | refine blk_alloc ?_ _)); exact eB.out) : p := h
theorem q5_23 {p : Prop} (h : p := by (with_reducible repeat (first | apply Kd.R_alloc | apply Kd.R_drewN | apply Kd.R_drew)); exact Kd.R_mono (Kd.R_far (p := ⟨fB, 0, none⟩) (Kd.R_types TE.out eB.out (by decide)) (fun _ hk => hk.2) (.slice GB LA.length IB)) (fun _ hk => trivial)) : p := h
theorem q5_24 {p : Prop} (h : p := by (with_reducible repeat (first | refine blk_drewN ?_ _ | refine blk_drew ?_ | refine blk_alloc ?_ _)); refine blk_far ?_ LB.out _; (with_reducible repeat (first | refine blk_drewN ?_ _ | refine blk_drew ?_ | refine blk_alloc ?_ _)); exact AA.out) : p := h
theorem q5_25 {p : Prop} (h : p := by (with_reducible repeat (first | refine blk_drewN ?_ _ | refine blk_drew ?_ | refine blk_alloc ?_ _)); refine blk_far ?_ aB.out _; (with_reducible repeat (first | refine blk_drewN ?_ _ | refine blk_drew ?_ | refine blk_alloc ?_ _)); exact bA.out) : p := h
theorem q5_26 {p : Prop} (h : p := by (with_reducible repeat (first | refine blk_drewN ?_ _ | refine blk_drew ?_ | refine blk_alloc ?_ _)); refine blk_far ?_ sB.out _; (with_reducible repeat (first | refine blk_drewN ?_ _ | refine blk_drew ?_ | refine blk_alloc ?_ _)); exact BA.out) : p := h
theorem q5_27 {p : Prop} (h : p := by (with_reducible repeat (first | refine blk_drewN ?_ _ | refine blk_drew ?_ | refine blk_alloc ?_ _)); refine blk_far ?_ tB.out _; (with_reducible repeat (first | refine blk_drewN ?_ _ | refine blk_drew ?_ | refine blk_alloc ?_ _)); exact fA.out) : p := h
theorem q5_28 {p : Prop} (h : p := by (with_reducible repeat (first | refine blk_drewN ?_ _ | refine blk_drew ?_ | refine blk_alloc ?_ _)); refine blk_far ?_ MC.out _; (with_reducible repeat (first | refine blk_drewN ?_ _ | refine blk_drew ?_ | refine blk_alloc ?_ _)); exact GA.out) : p := h
theorem q5_29 {p : Prop} (h : p := by repeat (first | (with_reducible first | exact HB.out | apply below_alloc | apply pw_below_drewN | apply below_drew1 | refine below_set ?_ LC.out | refine below_set ?_ SE.out | refine below_set ?_ bF.out) | exact HB.out)) : p := h
theorem q5_30 {p : Prop} (h : p := by rw [hg]; exact Nat.ne_of_lt (blk_lt (g := KA) (o := .cells #[.slice oB XA.length pB] 29 (0, 0)) q5_1)) : p := h
theorem q5_31 {p : Prop} (h : p := by rw [hg]; exact Nat.ne_of_gt (blk_lt (g := KA) (o := .cells #[.slice oB XA.length pB] 29 (0, 0)) q5_1)) : p := h
theorem q5_32 {p : Prop} (h : p := by (try simp only [List.map_toArray, List.map_cons, List.map_nil]); first | done | rfl | (simp only [List.length_drop, List.length_take]; rfl)) : p := h
theorem q5_33 {p : Prop} (h : p := by repeat (first | (with_reducible first | exact HB.out | apply below_alloc | apply pw_below_drewN | apply below_drew1 | refine below_set ?_ LC.out | refine below_set ?_ SE.out) | exact HB.out)) : p := h
theorem q5_34 {p : Prop} (h : p := by (with_reducible repeat (first | refine blk_drewN ?_ _ | refine blk_drew ?_ | refine blk_alloc ?_ _)); exact eB.out) : p := h
theorem q5_35 {p : Prop} (h : p := by repeat (first | (with_reducible first | exact HB.out | apply below_alloc | apply pw_below_drewN | apply below_drew1 | refine below_set ?_ LC.out) | exact HB.out)) : p := h
theorem q5_36 {p : Prop} (h : p := by (with_reducible repeat (first | apply Kd.R_alloc | apply Kd.R_drewN | apply Kd.R_drew)); exact uA.out) : p := h
theorem q5_37 {p : Prop} (h : p := by first | rfl | (simp; done) | (simp [*]; done)) : p := h
theorem q5_38 {p : Prop} (h : p := by (with_reducible repeat (first | apply Kd.R_alloc | apply Kd.R_drewN | apply Kd.R_drew)); exact Kd.R_mono (Kd.R_far (p := ⟨dA, 3, none⟩) (Kd.R_types uA.out bA.out (by decide)) (fun _ hk => hk.2) (.int .i64 (wrap64 (eA + 1)))) (fun _ hk => trivial)) : p := h
theorem q5_39 {p : Prop} (h : p := by repeat (first | (with_reducible first | exact HB.out | apply below_alloc | apply pw_below_drewN | apply below_drew1) | exact HB.out)) : p := h
theorem q5_40 {p : Prop} (h : p := by rw [hg]; exact Nat.ne_of_lt (blk_lt (g := cA) (o := .cells #[.int .i64 0, .int .i64 0, .int .i64 0, .int .i64 0, .int .i64 0, .int .i64 0, .int .i64 0, .int .i64 0, .int .i64 0, .bool false] 23 (0, 0)) q5_11)) : p := h
theorem q5_41 {p : Prop} (h : p := by rw [hg]; exact Nat.ne_of_gt (blk_lt (g := cA) (o := .cells #[.int .i64 0, .int .i64 0, .int .i64 0, .int .i64 0, .int .i64 0, .int .i64 0, .int .i64 0, .int .i64 0, .int .i64 0, .bool false] 23 (0, 0)) q5_11)) : p := h
/-! ### spec_RiStep: function 42 -/
mutual
def spec_RiStep.j0 : Nat → Int → Bool → Int → Int → Int → Int → Int → Int → Int → Int → Int → Bool → List Int → Option (List Int × Int × Int × Int × Int × Int × Int × Int × Int × Int × Bool × Bool)
 | 0, _, _, _, _, _, _, _, _, _, _, _, _, _ => none
 | k + 1, x12, x42, OA, QA, RA, FA, bB, SA, TA, UA, cB, VA, WA => if x42 = true then (some (([] : List Int), 0, 0, 0, 0, 0, 0, 0, 0, 0, false, false)) else (if FA = 0 then (spec_RiStep.j3 k OA QA RA (wrap64 (FA + 1)) x12 SA TA UA cB VA WA) else (if FA = 1 then ((spec_l04Seen.f k OA QA RA (wrap64 (FA + 1)) bB SA TA UA cB VA x12).bind fun gB => (spec_RiStep.j3 k gB.1 gB.2.1 gB.2.2.1 gB.2.2.2.1 gB.2.2.2.2.1 gB.2.2.2.2.2.1 gB.2.2.2.2.2.2.1 gB.2.2.2.2.2.2.2.1 gB.2.2.2.2.2.2.2.2.1 gB.2.2.2.2.2.2.2.2.2 WA)) else (if FA = 2 then (spec_RiStep.j1 k x12 FA (x12 == 0) OA QA RA (wrap64 (FA + 1)) bB SA TA UA cB VA WA) else (spec_RiStep.j1 k x12 FA false OA QA RA (wrap64 (FA + 1)) bB SA TA UA cB VA WA))))
def spec_RiStep.j3 : Nat → Int → Int → Int → Int → Int → Int → Int → Int → Int → Bool → List Int → Option (List Int × Int × Int × Int × Int × Int × Int × Int × Int × Int × Bool × Bool)
 | 0, _, _, _, _, _, _, _, _, _, _, _ => none
 | k + 1, OA, QA, RA, FA, bB, SA, TA, UA, cB, VA, WA => some (WA, OA, QA, RA, FA, bB, SA, TA, UA, cB, VA, true)
def spec_RiStep.j1 : Nat → Int → Int → Bool → Int → Int → Int → Int → Int → Int → Int → Int → Int → Bool → List Int → Option (List Int × Int × Int × Int × Int × Int × Int × Int × Int × Int × Bool × Bool)
 | 0, _, _, _, _, _, _, _, _, _, _, _, _, _, _ => none
 | k + 1, x12, x14, x61, OA, QA, RA, FA, bB, SA, TA, UA, cB, VA, WA => if x61 = true then (spec_RiStep.j3 k OA QA RA 0 bB SA TA UA cB VA WA) else (if x14 = 3 then (spec_RiStep.j2 k x12 x14 (OA == 2) OA QA RA FA bB SA TA UA cB VA WA) else (spec_RiStep.j2 k x12 x14 false OA QA RA FA bB SA TA UA cB VA WA))
def spec_RiStep.j2 : Nat → Int → Int → Bool → Int → Int → Int → Int → Int → Int → Int → Int → Int → Bool → List Int → Option (List Int × Int × Int × Int × Int × Int × Int × Int × Int × Int × Bool × Bool)
 | 0, _, _, _, _, _, _, _, _, _, _, _, _, _, _ => none
 | k + 1, x12, x14, x69, OA, QA, RA, FA, bB, SA, TA, UA, cB, VA, WA => if x69 = true then (spec_RiStep.j3 k OA QA RA FA bB SA TA UA x12 VA WA) else (if x14 = 4 then ((spec_l03End.f OA QA RA FA bB SA TA UA cB VA 1).bind fun hB => (spec_RiStep.j3 k hB.1 hB.2.1 hB.2.2.1 hB.2.2.2.1 hB.2.2.2.2.1 hB.2.2.2.2.2.1 hB.2.2.2.2.2.2.1 hB.2.2.2.2.2.2.2.1 hB.2.2.2.2.2.2.2.2.1 hB.2.2.2.2.2.2.2.2.2 WA)) else (spec_RiStep.j3 k OA QA RA FA bB SA TA UA cB VA WA))
end
def spec_RiStep.f (k : Nat) (a0 : Int) (XA : List Int) (qA : Int) (rA : Int) (oA : Int) (eA : Int) (nA : Int) (kA : Int) (jA : Int) (hA : Int) (iA : Int) (gA : Bool) : Option (List Int × Int × Int × Int × Int × Int × Int × Int × Int × Int × Bool × Bool) := (spec_RiAct.f k a0 qA rA oA eA nA kA jA hA iA gA).bind fun qB => ((spec_Do.f XA qB.1 qB.2.1 qB.2.2.1 qB.2.2.2.1).bind fun YA => (if qB.2.2.2.2 = true then (if YA.2.2 = true then (spec_RiStep.j0 k YA.2.1 ((XA.length : Int) != (wrap64 (2 + (wrap64 (2 * a0))))) qA rA oA eA nA kA jA hA iA gA YA.1) else (spec_RiStep.j0 k YA.2.1 true qA rA oA eA nA kA jA hA iA gA YA.1)) else (spec_RiStep.j0 k YA.2.1 true qA rA oA eA nA kA jA hA iA gA YA.1)))
theorem spec_RiStep.mono_l : ∀ k, (∀ y0 y1 y2 y3 y4 y5 y6 y7 y8 y9 y10 y11 y12, LeO (spec_RiStep.j0 k y0 y1 y2 y3 y4 y5 y6 y7 y8 y9 y10 y11 y12) (spec_RiStep.j0 (k + 1) y0 y1 y2 y3 y4 y5 y6 y7 y8 y9 y10 y11 y12)) ∧ (∀ y0 y1 y2 y3 y4 y5 y6 y7 y8 y9 y10, LeO (spec_RiStep.j3 k y0 y1 y2 y3 y4 y5 y6 y7 y8 y9 y10) (spec_RiStep.j3 (k + 1) y0 y1 y2 y3 y4 y5 y6 y7 y8 y9 y10)) ∧ (∀ y0 y1 y2 y3 y4 y5 y6 y7 y8 y9 y10 y11 y12 y13, LeO (spec_RiStep.j1 k y0 y1 y2 y3 y4 y5 y6 y7 y8 y9 y10 y11 y12 y13) (spec_RiStep.j1 (k + 1) y0 y1 y2 y3 y4 y5 y6 y7 y8 y9 y10 y11 y12 y13)) ∧ (∀ y0 y1 y2 y3 y4 y5 y6 y7 y8 y9 y10 y11 y12 y13, LeO (spec_RiStep.j2 k y0 y1 y2 y3 y4 y5 y6 y7 y8 y9 y10 y11 y12 y13) (spec_RiStep.j2 (k + 1) y0 y1 y2 y3 y4 y5 y6 y7 y8 y9 y10 y11 y12 y13))
 | 0 => ⟨fun _ _ _ _ _ _ _ _ _ _ _ _ _ r h => by simp [spec_RiStep.j0] at h, fun _ _ _ _ _ _ _ _ _ _ _ r h => by simp [spec_RiStep.j3] at h, fun _ _ _ _ _ _ _ _ _ _ _ _ _ _ r h => by simp [spec_RiStep.j1] at h, fun _ _ _ _ _ _ _ _ _ _ _ _ _ _ r h => by simp [spec_RiStep.j2] at h⟩
 | k + 1 => by
  obtain ⟨ih0, ih1, ih2, ih3⟩ := spec_RiStep.mono_l k
  refine ⟨?_, ?_, ?_, ?_⟩
  ·intro y0 y1 y2 y3 y4 y5 y6 y7 y8 y9 y10 y11 y12
   unfold spec_RiStep.j0
   repeat' first
   | (with_reducible exact ih0 _ _ _ _ _ _ _ _ _ _ _ _ _)
   | (with_reducible exact ih1 _ _ _ _ _ _ _ _ _ _ _)
   | (with_reducible exact ih2 _ _ _ _ _ _ _ _ _ _ _ _ _ _)
   | (with_reducible exact ih3 _ _ _ _ _ _ _ _ _ _ _ _ _ _)
   | (with_reducible exact spec_RiAct.mono _ _ _ _ _ _ _ _ _ _ _ _)
   | (with_reducible exact spec_l04Seen.mono _ _ _ _ _ _ _ _ _ _ _ _)
   | (with_reducible exact LeO.refl _)
   | (with_reducible exact LeO.none _)
   | (with_reducible refine LeO.ite ?_ ?_)
   | (with_reducible refine LeO.bind ?_ (fun _ => ?_))
   | exact ih0 _ _ _ _ _ _ _ _ _ _ _ _ _
   | exact ih1 _ _ _ _ _ _ _ _ _ _ _
   | exact ih2 _ _ _ _ _ _ _ _ _ _ _ _ _ _
   | exact ih3 _ _ _ _ _ _ _ _ _ _ _ _ _ _
   | exact spec_RiAct.mono _ _ _ _ _ _ _ _ _ _ _ _
   | exact spec_l04Seen.mono _ _ _ _ _ _ _ _ _ _ _ _
   | exact LeO.none _
   | refine LeO.ite ?_ ?_
   | refine LeO.bind ?_ (fun _ => ?_)
  ·intro y0 y1 y2 y3 y4 y5 y6 y7 y8 y9 y10
   unfold spec_RiStep.j3
   repeat' first
   | (with_reducible exact ih0 _ _ _ _ _ _ _ _ _ _ _ _ _)
   | (with_reducible exact ih1 _ _ _ _ _ _ _ _ _ _ _)
   | (with_reducible exact ih2 _ _ _ _ _ _ _ _ _ _ _ _ _ _)
   | (with_reducible exact ih3 _ _ _ _ _ _ _ _ _ _ _ _ _ _)
   | (with_reducible exact spec_RiAct.mono _ _ _ _ _ _ _ _ _ _ _ _)
   | (with_reducible exact spec_l04Seen.mono _ _ _ _ _ _ _ _ _ _ _ _)
   | (with_reducible exact LeO.refl _)
   | (with_reducible exact LeO.none _)
   | (with_reducible refine LeO.ite ?_ ?_)
   | (with_reducible refine LeO.bind ?_ (fun _ => ?_))
   | exact ih0 _ _ _ _ _ _ _ _ _ _ _ _ _
   | exact ih1 _ _ _ _ _ _ _ _ _ _ _
   | exact ih2 _ _ _ _ _ _ _ _ _ _ _ _ _ _
   | exact ih3 _ _ _ _ _ _ _ _ _ _ _ _ _ _
   | exact spec_RiAct.mono _ _ _ _ _ _ _ _ _ _ _ _
   | exact spec_l04Seen.mono _ _ _ _ _ _ _ _ _ _ _ _
   | exact LeO.none _
   | refine LeO.ite ?_ ?_
   | refine LeO.bind ?_ (fun _ => ?_)
  ·intro y0 y1 y2 y3 y4 y5 y6 y7 y8 y9 y10 y11 y12 y13
   unfold spec_RiStep.j1
   repeat' first
   | (with_reducible exact ih0 _ _ _ _ _ _ _ _ _ _ _ _ _)
   | (with_reducible exact ih1 _ _ _ _ _ _ _ _ _ _ _)
   | (with_reducible exact ih2 _ _ _ _ _ _ _ _ _ _ _ _ _ _)
   | (with_reducible exact ih3 _ _ _ _ _ _ _ _ _ _ _ _ _ _)
   | (with_reducible exact spec_RiAct.mono _ _ _ _ _ _ _ _ _ _ _ _)
   | (with_reducible exact spec_l04Seen.mono _ _ _ _ _ _ _ _ _ _ _ _)
   | (with_reducible exact LeO.refl _)
   | (with_reducible exact LeO.none _)
   | (with_reducible refine LeO.ite ?_ ?_)
   | (with_reducible refine LeO.bind ?_ (fun _ => ?_))
   | exact ih0 _ _ _ _ _ _ _ _ _ _ _ _ _
   | exact ih1 _ _ _ _ _ _ _ _ _ _ _
   | exact ih2 _ _ _ _ _ _ _ _ _ _ _ _ _ _
   | exact ih3 _ _ _ _ _ _ _ _ _ _ _ _ _ _
   | exact spec_RiAct.mono _ _ _ _ _ _ _ _ _ _ _ _
   | exact spec_l04Seen.mono _ _ _ _ _ _ _ _ _ _ _ _
   | exact LeO.none _
   | refine LeO.ite ?_ ?_
   | refine LeO.bind ?_ (fun _ => ?_)
  ·intro y0 y1 y2 y3 y4 y5 y6 y7 y8 y9 y10 y11 y12 y13
   unfold spec_RiStep.j2
   repeat' first
   | (with_reducible exact ih0 _ _ _ _ _ _ _ _ _ _ _ _ _)
   | (with_reducible exact ih1 _ _ _ _ _ _ _ _ _ _ _)
   | (with_reducible exact ih2 _ _ _ _ _ _ _ _ _ _ _ _ _ _)
   | (with_reducible exact ih3 _ _ _ _ _ _ _ _ _ _ _ _ _ _)
   | (with_reducible exact spec_RiAct.mono _ _ _ _ _ _ _ _ _ _ _ _)
   | (with_reducible exact spec_l04Seen.mono _ _ _ _ _ _ _ _ _ _ _ _)
   | (with_reducible exact LeO.refl _)
   | (with_reducible exact LeO.none _)
   | (with_reducible refine LeO.ite ?_ ?_)
   | (with_reducible refine LeO.bind ?_ (fun _ => ?_))
   | exact ih0 _ _ _ _ _ _ _ _ _ _ _ _ _
   | exact ih1 _ _ _ _ _ _ _ _ _ _ _
   | exact ih2 _ _ _ _ _ _ _ _ _ _ _ _ _ _
   | exact ih3 _ _ _ _ _ _ _ _ _ _ _ _ _ _
   | exact spec_RiAct.mono _ _ _ _ _ _ _ _ _ _ _ _
   | exact spec_l04Seen.mono _ _ _ _ _ _ _ _ _ _ _ _
   | exact LeO.none _
   | refine LeO.ite ?_ ?_
   | refine LeO.bind ?_ (fun _ => ?_)
theorem spec_RiStep.mono : ∀ a0 a1 a2 a3 a4 a5 a6 a7 a8 a9 a10 a11 k, LeO (spec_RiStep.f k a0 a1 a2 a3 a4 a5 a6 a7 a8 a9 a10 a11) (spec_RiStep.f (k + 1) a0 a1 a2 a3 a4 a5 a6 a7 a8 a9 a10 a11) := by
 intro a0 a1 a2 a3 a4 a5 a6 a7 a8 a9 a10 a11 k
 obtain ⟨ih0, ih1, ih2, ih3⟩ := spec_RiStep.mono_l k
 unfold spec_RiStep.f
 repeat' first
   | (with_reducible exact ih0 _ _ _ _ _ _ _ _ _ _ _ _ _)
   | (with_reducible exact ih1 _ _ _ _ _ _ _ _ _ _ _)
   | (with_reducible exact ih2 _ _ _ _ _ _ _ _ _ _ _ _ _ _)
   | (with_reducible exact ih3 _ _ _ _ _ _ _ _ _ _ _ _ _ _)
   | (with_reducible exact spec_RiAct.mono _ _ _ _ _ _ _ _ _ _ _ _)
   | (with_reducible exact spec_l04Seen.mono _ _ _ _ _ _ _ _ _ _ _ _)
   | (with_reducible exact LeO.refl _)
   | (with_reducible exact LeO.none _)
   | (with_reducible refine LeO.ite ?_ ?_)
   | (with_reducible refine LeO.bind ?_ (fun _ => ?_))
   | exact ih0 _ _ _ _ _ _ _ _ _ _ _ _ _
   | exact ih1 _ _ _ _ _ _ _ _ _ _ _
   | exact ih2 _ _ _ _ _ _ _ _ _ _ _ _ _ _
   | exact ih3 _ _ _ _ _ _ _ _ _ _ _ _ _ _
   | exact spec_RiAct.mono _ _ _ _ _ _ _ _ _ _ _ _
   | exact spec_l04Seen.mono _ _ _ _ _ _ _ _ _ _ _ _
   | exact LeO.none _
   | refine LeO.ite ?_ ?_
   | refine LeO.bind ?_ (fun _ => ?_)
set_option maxHeartbeats 8000000 in
set_option maxRecDepth 100000 in
theorem spec_RiStep.calls (k : Nat) (a0 : Int) (oB : Option Addr) (pB : Nat) (XA : List Int) (qA : Int) (rA : Int) (oA : Int) (eA : Int) (nA : Int) (kA : Int) (jA : Int) (hA : Int) (iA : Int) (gA : Bool) (r1 : List Int) (r2 : Int) (r3 : Int) (r4 : Int) (r5 : Int) (r6 : Int) (r7 : Int) (r8 : Int) (r9 : Int) (r10 : Int) (r11 : Bool) (r12 : Bool) (w : World) (yH : Kd.C (Kd.int .i64) w oB XA.length XA) (zH : XA.length ≤ pB) (h : spec_RiStep.f k a0 XA qA rA oA eA nA kA jA hA iA gA = some (r1, r2, r3, r4, r5, r6, r7, r8, r9, r10, r11, r12)) :
  Calls Try.prog 42 #[.int .i64 a0, .agg #[.slice oB XA.length pB], .agg #[.int .i64 qA, .int .i64 rA, .int .i64 oA, .int .i64 eA, .int .i64 nA, .int .i64 kA, .int .i64 jA, .int .i64 hA, .int .i64 iA, .bool gA]] w fun e w' => ∃ v0_ : Value, e = .returned (.tuple #[.agg #[v0_], .agg #[.int .i64 r2, .int .i64 r3, .int .i64 r4, .int .i64 r5, .int .i64 r6, .int .i64 r7, .int .i64 r8, .int .i64 r9, .int .i64 r10, .bool r11], .bool r12]) ∧ Kd.R (Kd.int .i64) 3 w' w.heap.size (fun _ => True) v0_ r1 ∧ Below w.heap.size w w' := by
 have hu29 := Try.underlying29
 have hu23 := Try.underlying23
 have hu37 := Try.underlying37
 have BH := Aside0.mk yH
 have CH := Aside0.mk zH
 clear yH zH
 have HB := Aside0.mk (Below.refl w.heap.size w)
 have H : ((spec_RiAct.f k a0 qA rA oA eA nA kA jA hA iA gA).bind fun qB => ((spec_Do.f XA qB.1 qB.2.1 qB.2.2.1 qB.2.2.2.1).bind fun YA => (if qB.2.2.2.2 = true then (if YA.2.2 = true then (spec_RiStep.j0 k YA.2.1 ((XA.length : Int) != (wrap64 (2 + (wrap64 (2 * a0))))) qA rA oA eA nA kA jA hA iA gA YA.1) else (spec_RiStep.j0 k YA.2.1 true qA rA oA eA nA kA jA hA iA gA YA.1)) else (spec_RiStep.j0 k YA.2.1 true qA rA oA eA nA kA jA hA iA gA YA.1)))) = some (r1, r2, r3, r4, r5, r6, r7, r8, r9, r10, r11, r12) := h
 clear h
 replace H := Option.bind_eq_some_iff.mp H
 obtain ⟨⟨rB, AB, FB, JB, tH⟩, A40, H⟩ := H
 replace H : ((spec_Do.f XA rB AB FB JB).bind fun YA => (if tH = true then (if YA.2.2 = true then (spec_RiStep.j0 k YA.2.1 ((XA.length : Int) != (wrap64 (2 + (wrap64 (2 * a0))))) qA rA oA eA nA kA jA hA iA gA YA.1) else (spec_RiStep.j0 k YA.2.1 true qA rA oA eA nA kA jA hA iA gA YA.1)) else (spec_RiStep.j0 k YA.2.1 true qA rA oA eA nA kA jA hA iA gA YA.1))) = some (r1, r2, r3, r4, r5, r6, r7, r8, r9, r10, r11, r12) := H
 have A4 := Aside0.mk A40
 clear A40
 replace H := Option.bind_eq_some_iff.mp H
 obtain ⟨⟨LA, jB, uH⟩, A50, H⟩ := H
 replace H : (if tH = true then (if uH = true then (spec_RiStep.j0 k jB ((XA.length : Int) != (wrap64 (2 + (wrap64 (2 * a0))))) qA rA oA eA nA kA jA hA iA gA LA) else (spec_RiStep.j0 k jB true qA rA oA eA nA kA jA hA iA gA LA)) else (spec_RiStep.j0 k jB true qA rA oA eA nA kA jA hA iA gA LA)) = some (r1, r2, r3, r4, r5, r6, r7, r8, r9, r10, r11, r12) := H
 have A5 := Aside0.mk A50
 clear A50
 have HC6 := Aside0.mk H
 clear H
 go_enter Try.func42, Try.ntmps42
 go_upto_region 3 with (first | ((with_reducible refine gate_dst (N := 4) rfl ?_); (try (refine gate_guard (by rfl) ?_; dsimp only)); refine box_event ?hg (N := 4) ?hd (cs := #[.slice oB XA.length pB]) (t := 29) ?hr ?_; (case hd => rfl); (case hg => rfl); (case hr => first | (go_simp; done) | (go_simp; rfl)); intro KA hg w7 hbox hb; have BB := Aside0.mk (below_step q5_39 hb); have CB := Aside0.mk (hbox); have DB := Aside0.mk ((by rw [hg]; exact (below_size q5_39) : w.heap.size ≤ KA)); have EB := Aside0.mk ((by rw [hg]; exact (below_size q5_39) : w.heap.size ≤ KA)); clear HB; have HB := BB; have AA := CB; have yI := DB; have LC := EB; clear BB CB DB EB; clear hb hbox hg) | ((with_reducible refine gate_dst (N := 5) rfl ?_); (try (refine gate_guard (by rfl) ?_; dsimp only)); refine box_event ?hg (N := 5) ?hd (cs := #[.int .i64 qA, .int .i64 rA, .int .i64 oA, .int .i64 eA, .int .i64 nA, .int .i64 kA, .int .i64 jA, .int .i64 hA, .int .i64 iA, .bool gA]) (t := 23) ?hr ?_; (case hd => rfl); (case hg => rfl); (case hr => first | (go_simp; done) | (go_simp; rfl)); intro dA hg w8 hbox hb; have BB := Aside0.mk (blk_below (g := KA) (o := .cells #[.slice oB XA.length pB] 29 (0, 0)) q5_1 hb); have CB := Aside0.mk (below_step q5_35 hb); have DB := Aside0.mk (hbox); have EB := Aside0.mk ((by rw [hg]; exact (below_size q5_35) : w.heap.size ≤ dA)); have KB := Aside0.mk ((by rw [hg]; exact (below_size q5_35) : w.heap.size ≤ dA)); have QB := Aside0.mk ((q5_30 : KA ≠ dA)); have RB := Aside0.mk ((q5_31 : dA ≠ KA)); clear AA; clear HB; have AA := BB; have HB := CB; have bA := DB; have zI := EB; have SE := KB; have pA := QB; have dB := RB; clear BB CB DB EB KB QB RB; clear hb hbox hg) | ((with_reducible refine gate_dst (N := 6) rfl ?_); (try (refine gate_guard (by rfl) ?_; dsimp only)); refine box_event ?hg (N := 6) ?hd (cs := #[.slice none 0 0]) (t := 29) ?hr ?_; (case hd => rfl); (case hg => rfl); (case hr => first | (go_simp; done) | (go_simp; rfl)); intro wA hg w9 hbox hb; have BB := Aside0.mk (blk_below (g := KA) (o := .cells #[.slice oB XA.length pB] 29 (0, 0)) q5_1 hb); have CB := Aside0.mk (blk_below (g := dA) (o := .cells #[.int .i64 qA, .int .i64 rA, .int .i64 oA, .int .i64 eA, .int .i64 nA, .int .i64 kA, .int .i64 jA, .int .i64 hA, .int .i64 iA, .bool gA] 23 (0, 0)) q5_2 hb); have DB := Aside0.mk (below_step q5_33 hb); have EB := Aside0.mk (hbox); have KB := Aside0.mk ((by rw [hg]; exact (below_size q5_33) : w.heap.size ≤ wA)); have QB := Aside0.mk ((by rw [hg]; exact (below_size q5_33) : w.heap.size ≤ wA)); have RB := Aside0.mk ((q5_30 : KA ≠ wA)); have NC := Aside0.mk ((q5_31 : wA ≠ KA)); have ZF := Aside0.mk ((q5_19 : dA ≠ wA)); have aG := Aside0.mk ((q5_20 : wA ≠ dA)); clear AA; clear bA; clear HB; have AA := BB; have bA := CB; have HB := DB; have BA := EB; have AI := KB; have bF := QB; have uB := RB; have vB := NC; have vA := ZF; have lA := aG; clear BB CB DB EB KB QB RB NC ZF aG; clear hb hbox hg) | ((with_reducible refine gate_dst (N := 7) rfl ?_); (try (refine gate_guard (by rfl) ?_; dsimp only)); refine box_event ?hg (N := 7) ?hd (cs := #[.int .i64 0, .int .i64 0, .int .i64 0, .int .i64 0, .int .i64 0, .int .i64 0, .int .i64 0, .int .i64 0, .int .i64 0, .bool false]) (t := 23) ?hr ?_; (case hd => rfl); (case hg => rfl); (case hr => first | (go_simp; done) | (go_simp; rfl)); intro cA hg rH hbox hb; have BB := Aside0.mk (blk_below (g := KA) (o := .cells #[.slice oB XA.length pB] 29 (0, 0)) q5_1 hb); have CB := Aside0.mk (blk_below (g := dA) (o := .cells #[.int .i64 qA, .int .i64 rA, .int .i64 oA, .int .i64 eA, .int .i64 nA, .int .i64 kA, .int .i64 jA, .int .i64 hA, .int .i64 iA, .bool gA] 23 (0, 0)) q5_2 hb); have DB := Aside0.mk (blk_below (g := wA) (o := .cells #[.slice none 0 0] 29 (0, 0)) q5_4 hb); have EB := Aside0.mk (below_step q5_29 hb); have KB := Aside0.mk (hbox); have QB := Aside0.mk ((by rw [hg]; exact (below_size q5_29) : w.heap.size ≤ cA)); have RB := Aside0.mk ((by rw [hg]; exact (below_size q5_29) : w.heap.size ≤ cA)); have NC := Aside0.mk ((q5_30 : KA ≠ cA)); have ZF := Aside0.mk ((q5_31 : cA ≠ KA)); have aG := Aside0.mk ((q5_19 : dA ≠ cA)); have UE := Aside0.mk ((q5_20 : cA ≠ dA)); have VE := Aside0.mk ((by rw [hg]; exact Nat.ne_of_lt (blk_lt (g := wA) (o := .cells #[.slice none 0 0] 29 (0, 0)) q5_4) : wA ≠ cA)); have WE := Aside0.mk ((by rw [hg]; exact Nat.ne_of_gt (blk_lt (g := wA) (o := .cells #[.slice none 0 0] 29 (0, 0)) q5_4) : cA ≠ wA)); clear AA; clear bA; clear BA; clear HB; have AA := BB; have bA := CB; have BA := DB; have HB := EB; have fA := KB; have BI := QB; have YF := RB; have wB := NC; have xB := ZF; have aA := aG; have mA := UE; have IA := VE; have yB := WE; clear BB CB DB EB KB QB RB NC ZF aG UE VE WE; clear hb hbox hg; have CI := dB.out; have DI := pA.out; have EI := vA.out; have FI := lA.out; have GI := aA.out; have HI := mA.out; have WB : rH.cell? ⟨dA, 0, none⟩ = some (.int .i64 qA) := (blk_cell bA.out 0).trans rfl; have XB : rH.cell? ⟨dA, 1, none⟩ = some (.int .i64 rA) := (blk_cell bA.out 1).trans rfl; have YB : rH.cell? ⟨dA, 2, none⟩ = some (.int .i64 oA) := (blk_cell bA.out 2).trans rfl; have ZB : rH.cell? ⟨dA, 3, none⟩ = some (.int .i64 eA) := (blk_cell bA.out 3).trans rfl; have aC : rH.cell? ⟨dA, 4, none⟩ = some (.int .i64 nA) := (blk_cell bA.out 4).trans rfl; have bC : rH.cell? ⟨dA, 5, none⟩ = some (.int .i64 kA) := (blk_cell bA.out 5).trans rfl; have cC : rH.cell? ⟨dA, 6, none⟩ = some (.int .i64 jA) := (blk_cell bA.out 6).trans rfl; have dC : rH.cell? ⟨dA, 7, none⟩ = some (.int .i64 hA) := (blk_cell bA.out 7).trans rfl; have eC : rH.cell? ⟨dA, 8, none⟩ = some (.int .i64 iA) := (blk_cell bA.out 8).trans rfl; have fC : rH.cell? ⟨dA, 9, none⟩ = some (.bool gA) := (blk_cell bA.out 9).trans rfl; have gC := blk_frozen bA.out 0; have hC := blk_frozen bA.out 1; have iC := blk_frozen bA.out 2; have jC := blk_frozen bA.out 3; have kC := blk_frozen bA.out 4; have lC := blk_frozen bA.out 5; have mC := blk_frozen bA.out 6; have nC := blk_frozen bA.out 7; have oC := blk_frozen bA.out 8; have pC := blk_frozen bA.out 9) | ((with_reducible refine gate_callee (f := 40) rfl ?_); refine goesL_ (some 18) rfl rfl Try.func40 (by kernel_rfl) rfl #[.int .i64 a0, .agg #[.int .i64 qA, .int .i64 rA, .int .i64 oA, .int .i64 eA, .int .i64 nA, .int .i64 kA, .int .i64 jA, .int .i64 hA, .int .i64 iA, .bool gA]] rfl q5_32 ?_; (with_reducible refine (spec_RiAct.calls k a0 qA rA oA eA nA kA jA hA iA gA rB AB FB JB tH _ A4.out).mono ?_); rintro e dL ⟨rfl, hb⟩; refine ⟨_, rfl, ?_⟩; have BB := Aside0.mk (blk_below (g := KA) (o := .cells #[.slice oB XA.length pB] 29 (0, 0)) q5_1 hb); have CB := Aside0.mk (blk_below (g := dA) (o := .cells #[.int .i64 qA, .int .i64 rA, .int .i64 oA, .int .i64 eA, .int .i64 nA, .int .i64 kA, .int .i64 jA, .int .i64 hA, .int .i64 iA, .bool gA] 23 (0, 0)) q5_2 hb); have DB := Aside0.mk (blk_below (g := wA) (o := .cells #[.slice none 0 0] 29 (0, 0)) q5_4 hb); have EB := Aside0.mk (blk_below (g := cA) (o := .cells #[.int .i64 0, .int .i64 0, .int .i64 0, .int .i64 0, .int .i64 0, .int .i64 0, .int .i64 0, .int .i64 0, .int .i64 0, .bool false] 23 (0, 0)) q5_11 hb); have KB := Aside0.mk (below_step q5_18 hb); clear AA; clear bA; clear BA; clear fA; clear HB; have AA := BB; have bA := CB; have BA := DB; have fA := EB; have HB := KB; clear BB CB DB EB KB; (try clear hb); (try clear hb2); (try clear hk); (try clear hi)) | ((with_reducible refine gate_dst (N := 9) rfl ?_); (try (refine gate_guard (by rfl) ?_; dsimp only)); refine box_event ?hg (N := 9) ?hd (cs := #[.int .i64 0, .int .i64 0, .int .i64 0, .int .i64 0]) (t := 37) ?hr ?_; (case hd => rfl); (case hg => rfl); (case hr => first | (go_simp; done) | (go_simp; rfl)); intro NA hg DH hbox hb; have BB := Aside0.mk (blk_below (g := KA) (o := .cells #[.slice oB XA.length pB] 29 (0, 0)) q5_1 hb); have CB := Aside0.mk (blk_below (g := dA) (o := .cells #[.int .i64 qA, .int .i64 rA, .int .i64 oA, .int .i64 eA, .int .i64 nA, .int .i64 kA, .int .i64 jA, .int .i64 hA, .int .i64 iA, .bool gA] 23 (0, 0)) q5_2 hb); have DB := Aside0.mk (blk_below (g := wA) (o := .cells #[.slice none 0 0] 29 (0, 0)) q5_4 hb); have EB := Aside0.mk (blk_below (g := cA) (o := .cells #[.int .i64 0, .int .i64 0, .int .i64 0, .int .i64 0, .int .i64 0, .int .i64 0, .int .i64 0, .int .i64 0, .int .i64 0, .bool false] 23 (0, 0)) q5_11 hb); have KB := Aside0.mk (below_step q5_18 hb); have QB := Aside0.mk (hbox); have RB := Aside0.mk ((by rw [hg]; exact (below_size q5_18) : w.heap.size ≤ NA)); have NC := Aside0.mk ((by rw [hg]; exact (below_size q5_18) : w.heap.size ≤ NA)); have ZF := Aside0.mk ((q5_30 : KA ≠ NA)); have aG := Aside0.mk ((q5_31 : NA ≠ KA)); have UE := Aside0.mk ((q5_19 : dA ≠ NA)); have VE := Aside0.mk ((q5_20 : NA ≠ dA)); have WE := Aside0.mk ((by rw [hg]; exact Nat.ne_of_lt (blk_lt (g := wA) (o := .cells #[.slice none 0 0] 29 (0, 0)) q5_4) : wA ≠ NA)); have bG := Aside0.mk ((by rw [hg]; exact Nat.ne_of_gt (blk_lt (g := wA) (o := .cells #[.slice none 0 0] 29 (0, 0)) q5_4) : NA ≠ wA)); have cG := Aside0.mk ((q5_40 : cA ≠ NA)); have dG := Aside0.mk ((q5_41 : NA ≠ cA)); clear AA; clear bA; clear BA; clear fA; clear HB; have AA := BB; have bA := CB; have BA := DB; have fA := EB; have HB := KB; have GA := QB; have II := RB; have xH := NC; have nB := ZF; have OC := aG; have JA := UE; have sA := VE; have kB := WE; have MB := bG; have lB := cG; have NB := dG; clear BB CB DB EB KB QB RB NC ZF aG UE VE WE bG cG dG; clear hb hbox hg; have JI := OC.out; have KI := nB.out; have LI := sA.out; have MI := JA.out; have NI := MB.out; have OI := kB.out; have PI := NB.out; have QI := lB.out; have qC : DH.cell? ⟨NA, 0, none⟩ = some (.int .i64 0) := (blk_cell GA.out 0).trans rfl; have rC : DH.cell? ⟨NA, 1, none⟩ = some (.int .i64 0) := (blk_cell GA.out 1).trans rfl; have sC : DH.cell? ⟨NA, 2, none⟩ = some (.int .i64 0) := (blk_cell GA.out 2).trans rfl; have tC : DH.cell? ⟨NA, 3, none⟩ = some (.int .i64 0) := (blk_cell GA.out 3).trans rfl; have uC := blk_frozen GA.out 0; have vC := blk_frozen GA.out 1; have wC := blk_frozen GA.out 2; have xC := blk_frozen GA.out 3; have RI := uB.out; have SI := vB.out; have TI := wB.out; have UI := xB.out; have yC : DH.cell? ⟨KA, 0, none⟩ = some (.slice oB XA.length pB) := (blk_cell AA.out 0).trans rfl; have zC := blk_frozen AA.out 0) | ((with_reducible refine gate_callee (f := 64) rfl ?_); refine goesL_ (some 24) rfl rfl Try.func64 (by kernel_rfl) rfl #[.agg #[.slice oB XA.length pB], .agg #[.int .i64 rB, .int .i64 AB, .int .i64 FB, .int .i64 JB]] rfl q5_32 ?_; (with_reducible refine (spec_Do.calls _ _ XA rB AB FB JB LA jB uH _ ?side1 ?side2 A5.out).mono ?_); (case side1 => exact Kd.C_below BH.out q5_10); (case side2 => exact CH.out); rintro e eL ⟨bL, rfl, ho0, hb⟩; refine ⟨_, rfl, ?_⟩; have BB := Aside0.mk (Kd.R_lower ho0 (below_size q5_10)); have CB := Aside0.mk (blk_below (g := KA) (o := .cells #[.slice oB XA.length pB] 29 (0, 0)) (by (with_reducible repeat (first | refine blk_drewN ?_ _ | refine blk_drew ?_ | refine blk_alloc ?_ _)); refine blk_far ?_ nB.out _; (with_reducible repeat (first | refine blk_drewN ?_ _ | refine blk_drew ?_ | refine blk_alloc ?_ _)); refine blk_far ?_ nB.out _; (with_reducible repeat (first | refine blk_drewN ?_ _ | refine blk_drew ?_ | refine blk_alloc ?_ _)); refine blk_far ?_ nB.out _; (with_reducible repeat (first | refine blk_drewN ?_ _ | refine blk_drew ?_ | refine blk_alloc ?_ _)); refine blk_far ?_ nB.out _; (with_reducible repeat (first | refine blk_drewN ?_ _ | refine blk_drew ?_ | refine blk_alloc ?_ _)); exact AA.out) hb); have DB := Aside0.mk (blk_below (g := dA) (o := .cells #[.int .i64 qA, .int .i64 rA, .int .i64 oA, .int .i64 eA, .int .i64 nA, .int .i64 kA, .int .i64 jA, .int .i64 hA, .int .i64 iA, .bool gA] 23 (0, 0)) (by (with_reducible repeat (first | refine blk_drewN ?_ _ | refine blk_drew ?_ | refine blk_alloc ?_ _)); refine blk_far ?_ JA.out _; (with_reducible repeat (first | refine blk_drewN ?_ _ | refine blk_drew ?_ | refine blk_alloc ?_ _)); refine blk_far ?_ JA.out _; (with_reducible repeat (first | refine blk_drewN ?_ _ | refine blk_drew ?_ | refine blk_alloc ?_ _)); refine blk_far ?_ JA.out _; (with_reducible repeat (first | refine blk_drewN ?_ _ | refine blk_drew ?_ | refine blk_alloc ?_ _)); refine blk_far ?_ JA.out _; (with_reducible repeat (first | refine blk_drewN ?_ _ | refine blk_drew ?_ | refine blk_alloc ?_ _)); exact bA.out) hb); have EB := Aside0.mk (blk_below (g := wA) (o := .cells #[.slice none 0 0] 29 (0, 0)) (by (with_reducible repeat (first | refine blk_drewN ?_ _ | refine blk_drew ?_ | refine blk_alloc ?_ _)); refine blk_far ?_ kB.out _; (with_reducible repeat (first | refine blk_drewN ?_ _ | refine blk_drew ?_ | refine blk_alloc ?_ _)); refine blk_far ?_ kB.out _; (with_reducible repeat (first | refine blk_drewN ?_ _ | refine blk_drew ?_ | refine blk_alloc ?_ _)); refine blk_far ?_ kB.out _; (with_reducible repeat (first | refine blk_drewN ?_ _ | refine blk_drew ?_ | refine blk_alloc ?_ _)); refine blk_far ?_ kB.out _; (with_reducible repeat (first | refine blk_drewN ?_ _ | refine blk_drew ?_ | refine blk_alloc ?_ _)); exact BA.out) hb); have KB := Aside0.mk (blk_below (g := cA) (o := .cells #[.int .i64 0, .int .i64 0, .int .i64 0, .int .i64 0, .int .i64 0, .int .i64 0, .int .i64 0, .int .i64 0, .int .i64 0, .bool false] 23 (0, 0)) (by (with_reducible repeat (first | refine blk_drewN ?_ _ | refine blk_drew ?_ | refine blk_alloc ?_ _)); refine blk_far ?_ lB.out _; (with_reducible repeat (first | refine blk_drewN ?_ _ | refine blk_drew ?_ | refine blk_alloc ?_ _)); refine blk_far ?_ lB.out _; (with_reducible repeat (first | refine blk_drewN ?_ _ | refine blk_drew ?_ | refine blk_alloc ?_ _)); refine blk_far ?_ lB.out _; (with_reducible repeat (first | refine blk_drewN ?_ _ | refine blk_drew ?_ | refine blk_alloc ?_ _)); refine blk_far ?_ lB.out _; (with_reducible repeat (first | refine blk_drewN ?_ _ | refine blk_drew ?_ | refine blk_alloc ?_ _)); exact fA.out) hb); have QB := Aside0.mk (blk_below (g := NA) (o := .cells #[.int .i64 rB, .int .i64 AB, .int .i64 FB, .int .i64 JB] 37 (0, 0)) (by (with_reducible repeat (first | refine blk_drewN ?_ _ | refine blk_drew ?_ | refine blk_alloc ?_ _)); refine blk_put (cs := #[.int .i64 rB, .int .i64 AB, .int .i64 FB, .int .i64 0]) ?_ 3 _ rfl; (with_reducible repeat (first | refine blk_drewN ?_ _ | refine blk_drew ?_ | refine blk_alloc ?_ _)); refine blk_put (cs := #[.int .i64 rB, .int .i64 AB, .int .i64 0, .int .i64 0]) ?_ 2 _ rfl; (with_reducible repeat (first | refine blk_drewN ?_ _ | refine blk_drew ?_ | refine blk_alloc ?_ _)); refine blk_put (cs := #[.int .i64 rB, .int .i64 0, .int .i64 0, .int .i64 0]) ?_ 1 _ rfl; (with_reducible repeat (first | refine blk_drewN ?_ _ | refine blk_drew ?_ | refine blk_alloc ?_ _)); refine blk_put (cs := #[.int .i64 0, .int .i64 0, .int .i64 0, .int .i64 0]) ?_ 0 _ rfl; (with_reducible repeat (first | refine blk_drewN ?_ _ | refine blk_drew ?_ | refine blk_alloc ?_ _)); exact GA.out) hb); have RB := Aside0.mk (below_step q5_10 hb); clear AA; clear bA; clear BA; clear fA; clear GA; clear HB; have TE := BB; have AA := CB; have bA := DB; have BA := EB; have fA := KB; have GA := QB; have HB := RB; clear BB CB DB EB KB QB RB; (try clear hb); (try clear hb2); (try clear hk); (try clear hi); (try clear ho0)) | ((with_reducible refine gate_dst (N := 11) rfl ?_); (try (refine gate_guard (by rfl) ?_; dsimp only)); refine box_event ?hg (N := 11) ?hd (cs := #[.slice none 0 0]) (t := 29) ?hr ?_; (case hd => rfl); (case hg => rfl); (case hr => first | (go_simp; done) | (go_simp; rfl)); intro fB hg VI hbox hb; have BB := Aside0.mk (Kd.R_below (by (with_reducible repeat (first | apply Kd.R_alloc | apply Kd.R_drewN | apply Kd.R_drew)); exact TE.out) hb); have CB := Aside0.mk (blk_below (g := KA) (o := .cells #[.slice oB XA.length pB] 29 (0, 0)) q5_1 hb); have DB := Aside0.mk (blk_below (g := dA) (o := .cells #[.int .i64 qA, .int .i64 rA, .int .i64 oA, .int .i64 eA, .int .i64 nA, .int .i64 kA, .int .i64 jA, .int .i64 hA, .int .i64 iA, .bool gA] 23 (0, 0)) q5_2 hb); have EB := Aside0.mk (blk_below (g := wA) (o := .cells #[.slice none 0 0] 29 (0, 0)) q5_4 hb); have KB := Aside0.mk (blk_below (g := cA) (o := .cells #[.int .i64 0, .int .i64 0, .int .i64 0, .int .i64 0, .int .i64 0, .int .i64 0, .int .i64 0, .int .i64 0, .int .i64 0, .bool false] 23 (0, 0)) q5_11 hb); have QB := Aside0.mk (blk_below (g := NA) (o := .cells #[.int .i64 rB, .int .i64 AB, .int .i64 FB, .int .i64 JB] 37 (0, 0)) q5_21 hb); have RB := Aside0.mk (below_step q5_10 hb); have NC := Aside0.mk (hbox); have ZF := Aside0.mk ((by rw [hg]; exact (below_size q5_10) : w.heap.size ≤ fB)); have aG := Aside0.mk ((by rw [hg]; exact (below_size q5_10) : w.heap.size ≤ fB)); have UE := Aside0.mk ((q5_30 : KA ≠ fB)); have VE := Aside0.mk ((q5_31 : fB ≠ KA)); have WE := Aside0.mk ((q5_19 : dA ≠ fB)); have bG := Aside0.mk ((q5_20 : fB ≠ dA)); have cG := Aside0.mk ((by rw [hg]; exact Nat.ne_of_lt (blk_lt (g := wA) (o := .cells #[.slice none 0 0] 29 (0, 0)) q5_4) : wA ≠ fB)); have dG := Aside0.mk ((by rw [hg]; exact Nat.ne_of_gt (blk_lt (g := wA) (o := .cells #[.slice none 0 0] 29 (0, 0)) q5_4) : fB ≠ wA)); have EH := Aside0.mk ((q5_40 : cA ≠ fB)); have FH := Aside0.mk ((q5_41 : fB ≠ cA)); have GH := Aside0.mk ((by rw [hg]; exact Nat.ne_of_lt (blk_lt (g := NA) (o := .cells #[.int .i64 rB, .int .i64 AB, .int .i64 FB, .int .i64 JB] 37 (0, 0)) q5_21) : NA ≠ fB)); have HH := Aside0.mk ((by rw [hg]; exact Nat.ne_of_gt (blk_lt (g := NA) (o := .cells #[.int .i64 rB, .int .i64 AB, .int .i64 FB, .int .i64 JB] 37 (0, 0)) q5_21) : fB ≠ NA)); clear TE; clear AA; clear bA; clear BA; clear fA; clear GA; clear HB; have TE := BB; have AA := CB; have bA := DB; have BA := EB; have fA := KB; have GA := QB; have HB := RB; have eB := NC; have WI := ZF; have AH := aG; have LB := UE; have PC := VE; have aB := WE; have tA := bG; have sB := cG; have zB := dG; have tB := EH; have DA := FH; have MC := GH; have VF := HH; clear BB CB DB EB KB QB RB NC ZF aG UE VE WE bG cG dG EH FH GH HH; clear hb hbox hg; obtain ⟨GB, IB, aI⟩ := Kd.R_slice TE.out; subst aI; have XI := PC.out; have YI := LB.out; have ZI := tA.out; have aJ := aB.out; have bJ := zB.out; have cJ := sB.out; have dJ := DA.out; have eJ := tB.out; have fJ := VF.out; have gJ := MC.out; have AC : VI.cell? ⟨fB, 0, none⟩ = some (.slice none 0 0) := (blk_cell eB.out 0).trans rfl; have BC := blk_frozen eB.out 0))
 (try simp only [Act.put, List.setIfInBounds_toArray, List.set_cons_zero, List.set_cons_succ])
 go_cut [42] (fun v42 wc => ∃ (kq : Nat) (cF : Bool), v42 = .bool cF ∧ Aside0 (spec_RiStep.j0 kq jB cF qA rA oA eA nA kA jA hA iA gA LA = some (r1, r2, r3, r4, r5, r6, r7, r8, r9, r10, r11, r12)) ∧ Aside0 (kq ≤ k) ∧ Aside0 (Kd.R (Kd.int .i64) 3 wc w.heap.size (fun _ => True) (.slice GB LA.length IB) LA) ∧ Aside0 (wc.heap[KA]? = some (.cells #[(.slice oB XA.length pB)] 29 (0, 0))) ∧ Aside0 (wc.heap[dA]? = some (.cells #[.int .i64 qA, .int .i64 rA, .int .i64 oA, .int .i64 eA, .int .i64 nA, .int .i64 kA, .int .i64 jA, .int .i64 hA, .int .i64 iA, .bool gA] 23 (0, 0))) ∧ Aside0 (wc.heap[wA]? = some (.cells #[(.slice none 0 0)] 29 (0, 0))) ∧ Aside0 (wc.heap[cA]? = some (.cells #[.int .i64 0, .int .i64 0, .int .i64 0, .int .i64 0, .int .i64 0, .int .i64 0, .int .i64 0, .int .i64 0, .int .i64 0, .bool false] 23 (0, 0))) ∧ Aside0 (wc.heap[NA]? = some (.cells #[.int .i64 rB, .int .i64 AB, .int .i64 FB, .int .i64 JB] 37 (0, 0))) ∧ Aside0 (wc.heap[fB]? = some (.cells #[(.slice GB LA.length IB)] 29 (0, 0))) ∧ Aside0 (Below w.heap.size w wc))
 case first =>
  have H := HC6.out
  clear HC6
  by_cases c34 : tH = true
  ·subst c34
   have H1 : (if uH = true then (spec_RiStep.j0 k jB ((XA.length : Int) != (wrap64 (2 + (wrap64 (2 * a0))))) qA rA oA eA nA kA jA hA iA gA LA) else (spec_RiStep.j0 k jB true qA rA oA eA nA kA jA hA iA gA LA)) = some (r1, r2, r3, r4, r5, r6, r7, r8, r9, r10, r11, r12) := by rw [if_pos rfl] at H; exact H
   clear H
   have H := H1
   clear H1
   by_cases c35 : uH = true
   ·subst c35
    have H1 : (spec_RiStep.j0 k jB ((XA.length : Int) != (wrap64 (2 + (wrap64 (2 * a0))))) qA rA oA eA nA kA jA hA iA gA LA) = some (r1, r2, r3, r4, r5, r6, r7, r8, r9, r10, r11, r12) := by rw [if_pos rfl] at H; exact H
    clear H
    have H := H1
    clear H1
    have H' := Aside0.mk H
    clear H
    have hJ := pA.out
    have iJ := dB.out
    have jJ := uB.out
    have kJ := vB.out
    have lJ := wB.out
    have mJ := xB.out
    have nJ := nB.out
    have oJ := OC.out
    have pJ := LB.out
    have qJ := PC.out
    have CC : VI.cell? ⟨KA, 0, none⟩ = some (.slice oB XA.length pB) := (blk_cell AA.out 0).trans rfl
    have DC := blk_frozen AA.out 0
    go_wp2
    go_meet
    case rel => exact ⟨_, (((XA.length : Int) != (wrap64 (2 + (wrap64 (2 * a0)))))), q5_37, H', ⟨by first | omega | exact Nat.le_refl _⟩, ⟨q5_23⟩, ⟨q5_24⟩, ⟨q5_25⟩, ⟨q5_26⟩, ⟨q5_27⟩, ⟨q5_28⟩, ⟨q5_22⟩, ⟨q5_0⟩⟩
   ·replace c35 := Bool.eq_false_iff.mpr c35
    subst c35
    have H1 : (spec_RiStep.j0 k jB true qA rA oA eA nA kA jA hA iA gA LA) = some (r1, r2, r3, r4, r5, r6, r7, r8, r9, r10, r11, r12) := by rw [if_neg (show ¬ (false = true) by decide)] at H; exact H
    clear H
    have H := H1
    clear H1
    have H' := Aside0.mk H
    clear H
    go_wp2
    go_meet
    case rel => exact ⟨_, (true), q5_37, H', ⟨by first | omega | exact Nat.le_refl _⟩, ⟨q5_23⟩, ⟨q5_24⟩, ⟨q5_25⟩, ⟨q5_26⟩, ⟨q5_27⟩, ⟨q5_28⟩, ⟨q5_22⟩, ⟨q5_0⟩⟩
  ·replace c34 := Bool.eq_false_iff.mpr c34
   subst c34
   have H1 : (spec_RiStep.j0 k jB true qA rA oA eA nA kA jA hA iA gA LA) = some (r1, r2, r3, r4, r5, r6, r7, r8, r9, r10, r11, r12) := by rw [if_neg (show ¬ (false = true) by decide)] at H; exact H
   clear H
   have H := H1
   clear H1
   have H' := Aside0.mk H
   clear H
   go_wp2
   go_meet
   case rel => exact ⟨_, (true), q5_37, H', ⟨by first | omega | exact Nat.le_refl _⟩, ⟨q5_23⟩, ⟨q5_24⟩, ⟨q5_25⟩, ⟨q5_26⟩, ⟨q5_27⟩, ⟨q5_28⟩, ⟨q5_22⟩, ⟨q5_0⟩⟩
 case rest =>
  clear HC6
  (try clear c1); (try clear c2); (try clear p2); (try clear c3); (try clear c4); (try clear c6); (try clear p6); (try clear c11); (try clear c12); (try clear c13); (try clear c17); (try clear c18); (try clear c19); (try clear c20); (try clear c22); (try clear c23); (try clear c28); (try clear c29); (try clear c30); (try clear c31); (try clear c32); (try clear c34); (try clear c35); (try clear c36); (try clear c37); (try clear c38); (try clear c39); (try clear c40); (try clear WB); (try clear XB); (try clear YB); (try clear ZB); (try clear aC); (try clear bC); (try clear cC); (try clear dC); (try clear eC); (try clear fC); (try clear qC); (try clear rC); (try clear sC); (try clear tC); (try clear yC); (try clear AC); (try clear CC); (try clear gC); (try clear hC); (try clear iC); (try clear jC); (try clear kC); (try clear lC); (try clear mC); (try clear nC); (try clear oC); (try clear pC); (try clear uC); (try clear vC); (try clear wC); (try clear xC); (try clear zC); (try clear BC); (try clear DC)
  obtain ⟨kq, cF, rfl, HA, HJ5, uA, AA, bA, BA, fA, GA, eB, HB⟩ := hcut
  cases kq with
  | zero => exact absurd HA.out (by simp [spec_RiStep.j0])
  | succ kj5 =>
   have H := HA.out
   clear HA
   simp only [spec_RiStep.j0] at H
   by_cases c42 : cF = true
   ·subst c42
    have H1 : (some (([] : List Int), 0, 0, 0, 0, 0, 0, 0, 0, 0, false, false)) = some (r1, r2, r3, r4, r5, r6, r7, r8, r9, r10, r11, r12) := by rw [if_pos rfl] at H; exact H
    clear H
    have H := H1
    clear H1
    simp only [Option.some.injEq, Prod.mk.injEq] at H
    obtain ⟨rfl, rfl, rfl, rfl, rfl, rfl, rfl, rfl, rfl, rfl, rfl, rfl⟩ := H
    have rJ := vB.out
    have sJ := uB.out
    have tJ := lA.out
    have uJ := vA.out
    have vJ := IA.out
    have wJ := yB.out
    have xJ := kB.out
    have yJ := MB.out
    have zJ := sB.out
    have AJ := zB.out
    have QC : wc.cell? ⟨wA, 0, none⟩ = some (.slice none 0 0) := (blk_cell BA.out 0).trans rfl
    have RC := blk_frozen BA.out 0
    have BJ := xB.out
    have CJ := wB.out
    have DJ := mA.out
    have EJ := aA.out
    have FJ := lB.out
    have GJ := NB.out
    have HJ := tB.out
    have IJ := DA.out
    have SC : wc.cell? ⟨cA, 0, none⟩ = some (.int .i64 0) := (blk_cell fA.out 0).trans rfl
    have TC : wc.cell? ⟨cA, 1, none⟩ = some (.int .i64 0) := (blk_cell fA.out 1).trans rfl
    have UC : wc.cell? ⟨cA, 2, none⟩ = some (.int .i64 0) := (blk_cell fA.out 2).trans rfl
    have VC : wc.cell? ⟨cA, 3, none⟩ = some (.int .i64 0) := (blk_cell fA.out 3).trans rfl
    have WC : wc.cell? ⟨cA, 4, none⟩ = some (.int .i64 0) := (blk_cell fA.out 4).trans rfl
    have XC : wc.cell? ⟨cA, 5, none⟩ = some (.int .i64 0) := (blk_cell fA.out 5).trans rfl
    have YC : wc.cell? ⟨cA, 6, none⟩ = some (.int .i64 0) := (blk_cell fA.out 6).trans rfl
    have ZC : wc.cell? ⟨cA, 7, none⟩ = some (.int .i64 0) := (blk_cell fA.out 7).trans rfl
    have aD : wc.cell? ⟨cA, 8, none⟩ = some (.int .i64 0) := (blk_cell fA.out 8).trans rfl
    have bD : wc.cell? ⟨cA, 9, none⟩ = some (.bool false) := (blk_cell fA.out 9).trans rfl
    have cD := blk_frozen fA.out 0
    have dD := blk_frozen fA.out 1
    have eD := blk_frozen fA.out 2
    have fD := blk_frozen fA.out 3
    have gD := blk_frozen fA.out 4
    have hD := blk_frozen fA.out 5
    have iD := blk_frozen fA.out 6
    have jD := blk_frozen fA.out 7
    have kD := blk_frozen fA.out 8
    have lD := blk_frozen fA.out 9
    go_wp2
    refine bodyPost_ret (results_list (rs := [.cell 6 29, .cell 7 23, .tmp 8]) rfl (by simp) (.cell wA 29 #[.slice none 0 0] (0, 0) _ rfl q5_3 Try.underlying29 rfl (by kernel_rfl) (.cell cA 23 #[.int .i64 0, .int .i64 0, .int .i64 0, .int .i64 0, .int .i64 0, .int .i64 0, .int .i64 0, .int .i64 0, .int .i64 0, .bool false] (0, 0) _ rfl (by (with_reducible repeat (first | refine blk_drewN ?_ _ | refine blk_drew ?_ | refine blk_alloc ?_ _)); refine blk_put (cs := #[.int .i64 0, .int .i64 0, .int .i64 0, .int .i64 0, .int .i64 0, .int .i64 0, .int .i64 0, .int .i64 0, .int .i64 0, .bool false]) ?_ 9 _ rfl; (with_reducible repeat (first | refine blk_drewN ?_ _ | refine blk_drew ?_ | refine blk_alloc ?_ _)); refine blk_put (cs := #[.int .i64 0, .int .i64 0, .int .i64 0, .int .i64 0, .int .i64 0, .int .i64 0, .int .i64 0, .int .i64 0, .int .i64 0, .bool false]) ?_ 8 _ rfl; (with_reducible repeat (first | refine blk_drewN ?_ _ | refine blk_drew ?_ | refine blk_alloc ?_ _)); refine blk_put (cs := #[.int .i64 0, .int .i64 0, .int .i64 0, .int .i64 0, .int .i64 0, .int .i64 0, .int .i64 0, .int .i64 0, .int .i64 0, .bool false]) ?_ 7 _ rfl; (with_reducible repeat (first | refine blk_drewN ?_ _ | refine blk_drew ?_ | refine blk_alloc ?_ _)); refine blk_put (cs := #[.int .i64 0, .int .i64 0, .int .i64 0, .int .i64 0, .int .i64 0, .int .i64 0, .int .i64 0, .int .i64 0, .int .i64 0, .bool false]) ?_ 6 _ rfl; (with_reducible repeat (first | refine blk_drewN ?_ _ | refine blk_drew ?_ | refine blk_alloc ?_ _)); refine blk_put (cs := #[.int .i64 0, .int .i64 0, .int .i64 0, .int .i64 0, .int .i64 0, .int .i64 0, .int .i64 0, .int .i64 0, .int .i64 0, .bool false]) ?_ 5 _ rfl; (with_reducible repeat (first | refine blk_drewN ?_ _ | refine blk_drew ?_ | refine blk_alloc ?_ _)); refine blk_put (cs := #[.int .i64 0, .int .i64 0, .int .i64 0, .int .i64 0, .int .i64 0, .int .i64 0, .int .i64 0, .int .i64 0, .int .i64 0, .bool false]) ?_ 4 _ rfl; (with_reducible repeat (first | refine blk_drewN ?_ _ | refine blk_drew ?_ | refine blk_alloc ?_ _)); refine blk_put (cs := #[.int .i64 0, .int .i64 0, .int .i64 0, .int .i64 0, .int .i64 0, .int .i64 0, .int .i64 0, .int .i64 0, .int .i64 0, .bool false]) ?_ 3 _ rfl; (with_reducible repeat (first | refine blk_drewN ?_ _ | refine blk_drew ?_ | refine blk_alloc ?_ _)); refine blk_put (cs := #[.int .i64 0, .int .i64 0, .int .i64 0, .int .i64 0, .int .i64 0, .int .i64 0, .int .i64 0, .int .i64 0, .int .i64 0, .bool false]) ?_ 2 _ rfl; (with_reducible repeat (first | refine blk_drewN ?_ _ | refine blk_drew ?_ | refine blk_alloc ?_ _)); refine blk_put (cs := #[.int .i64 0, .int .i64 0, .int .i64 0, .int .i64 0, .int .i64 0, .int .i64 0, .int .i64 0, .int .i64 0, .int .i64 0, .bool false]) ?_ 1 _ rfl; (with_reducible repeat (first | refine blk_drewN ?_ _ | refine blk_drew ?_ | refine blk_alloc ?_ _)); refine blk_put (cs := #[.int .i64 0, .int .i64 0, .int .i64 0, .int .i64 0, .int .i64 0, .int .i64 0, .int .i64 0, .int .i64 0, .int .i64 0, .bool false]) ?_ 0 _ rfl; (with_reducible repeat (first | refine blk_drewN ?_ _ | refine blk_drew ?_ | refine blk_alloc ?_ _)); refine blk_far ?_ yB.out _; (with_reducible repeat (first | refine blk_drewN ?_ _ | refine blk_drew ?_ | refine blk_alloc ?_ _)); exact fA.out) Try.underlying23 rfl (by kernel_rfl) (.tmp .nil)))) rfl ?_
    exact ⟨_, by first | rfl | (simp [errW_none, errW_some] <;> rfl) | (simp [*, errW_none, errW_some] <;> rfl), by first | exact Kd.R_nil _ _ _ _ _ | exact Kd.N_nil _ _ _ _ _ | exact Kd.V_nil _ _ _ _ _ | exact Kd.Q_nil _ _ _ _ _ | exact Kd.S_nil _ _ _ _ _, q5_0⟩
   ·replace c42 := Bool.eq_false_iff.mpr c42
    subst c42
    have H1 : (if eA = 0 then (spec_RiStep.j3 kj5 qA rA oA (wrap64 (eA + 1)) jB kA jA hA iA gA LA) else (if eA = 1 then ((spec_l04Seen.f kj5 qA rA oA (wrap64 (eA + 1)) nA kA jA hA iA gA jB).bind fun gB => (spec_RiStep.j3 kj5 gB.1 gB.2.1 gB.2.2.1 gB.2.2.2.1 gB.2.2.2.2.1 gB.2.2.2.2.2.1 gB.2.2.2.2.2.2.1 gB.2.2.2.2.2.2.2.1 gB.2.2.2.2.2.2.2.2.1 gB.2.2.2.2.2.2.2.2.2 LA)) else (if eA = 2 then (spec_RiStep.j1 kj5 jB eA (jB == 0) qA rA oA (wrap64 (eA + 1)) nA kA jA hA iA gA LA) else (spec_RiStep.j1 kj5 jB eA false qA rA oA (wrap64 (eA + 1)) nA kA jA hA iA gA LA)))) = some (r1, r2, r3, r4, r5, r6, r7, r8, r9, r10, r11, r12) := by rw [if_neg (show ¬ (false = true) by decide)] at H; exact H
    clear H
    have H := H1
    clear H1
    have HC54 := Aside0.mk H
    clear H
    have JJ := dB.out
    have KJ := pA.out
    have LJ := vA.out
    have MJ := lA.out
    have NJ := aA.out
    have OJ := mA.out
    have PJ := JA.out
    have QJ := sA.out
    have RJ := aB.out
    have SJ := tA.out
    have mD : wc.cell? ⟨dA, 0, none⟩ = some (.int .i64 qA) := (blk_cell bA.out 0).trans rfl
    have nD : wc.cell? ⟨dA, 1, none⟩ = some (.int .i64 rA) := (blk_cell bA.out 1).trans rfl
    have oD : wc.cell? ⟨dA, 2, none⟩ = some (.int .i64 oA) := (blk_cell bA.out 2).trans rfl
    have pD : wc.cell? ⟨dA, 3, none⟩ = some (.int .i64 eA) := (blk_cell bA.out 3).trans rfl
    have qD : wc.cell? ⟨dA, 4, none⟩ = some (.int .i64 nA) := (blk_cell bA.out 4).trans rfl
    have rD : wc.cell? ⟨dA, 5, none⟩ = some (.int .i64 kA) := (blk_cell bA.out 5).trans rfl
    have sD : wc.cell? ⟨dA, 6, none⟩ = some (.int .i64 jA) := (blk_cell bA.out 6).trans rfl
    have tD : wc.cell? ⟨dA, 7, none⟩ = some (.int .i64 hA) := (blk_cell bA.out 7).trans rfl
    have uD : wc.cell? ⟨dA, 8, none⟩ = some (.int .i64 iA) := (blk_cell bA.out 8).trans rfl
    have vD : wc.cell? ⟨dA, 9, none⟩ = some (.bool gA) := (blk_cell bA.out 9).trans rfl
    have wD := blk_frozen bA.out 0
    have xD := blk_frozen bA.out 1
    have yD := blk_frozen bA.out 2
    have zD := blk_frozen bA.out 3
    have AD := blk_frozen bA.out 4
    have BD := blk_frozen bA.out 5
    have CD := blk_frozen bA.out 6
    have DD := blk_frozen bA.out 7
    have ED := blk_frozen bA.out 8
    have FD := blk_frozen bA.out 9
    go_upto_block 0 with (fail)
    go_cut [] (fun wc => ∃ (kq : Nat) (xA : Int) (yA : Int) (zA : Int) (CA : Int) (EA : Int) (MA : Int) (PA : Int) (ZA : Int) (iB : Int) (mB : Bool), Aside0 (spec_RiStep.j3 kq xA yA zA CA EA MA PA ZA iB mB LA = some (r1, r2, r3, r4, r5, r6, r7, r8, r9, r10, r11, r12)) ∧ Aside0 (kq ≤ kj5) ∧ Aside0 (Kd.R (Kd.int .i64) 3 wc w.heap.size (fun _ => True) (.slice GB LA.length IB) LA) ∧ Aside0 (wc.heap[KA]? = some (.cells #[(.slice oB XA.length pB)] 29 (0, 0))) ∧ Aside0 (wc.heap[dA]? = some (.cells #[.int .i64 xA, .int .i64 yA, .int .i64 zA, .int .i64 CA, .int .i64 EA, .int .i64 MA, .int .i64 PA, .int .i64 ZA, .int .i64 iB, .bool mB] 23 (0, 0))) ∧ Aside0 (wc.heap[wA]? = some (.cells #[(.slice none 0 0)] 29 (0, 0))) ∧ Aside0 (wc.heap[cA]? = some (.cells #[.int .i64 0, .int .i64 0, .int .i64 0, .int .i64 0, .int .i64 0, .int .i64 0, .int .i64 0, .int .i64 0, .int .i64 0, .bool false] 23 (0, 0))) ∧ Aside0 (wc.heap[NA]? = some (.cells #[.int .i64 rB, .int .i64 AB, .int .i64 FB, .int .i64 JB] 37 (0, 0))) ∧ Aside0 (wc.heap[fB]? = some (.cells #[(.slice GB LA.length IB)] 29 (0, 0))) ∧ Aside0 (Below w.heap.size w wc))
    case first =>
     have H := HC54.out
     clear HC54
     by_cases c61 : eA = 0
     ·rw [if_pos c61] at H
      have SB : (eA == 0) = true := beq_iff_eq.mpr c61
      have dF : (eA != 0) = false := bne_eq_false_iff_eq.mpr c61
      clear c61
      (first | rw [SB] | (simp only [i64_w, i32_w]; rw [SB]) | skip)
      have H' := Aside0.mk H
      clear H
      have TJ := dB.out
      have UJ := pA.out
      have VJ := vA.out
      have WJ := lA.out
      have XJ := aA.out
      have YJ := mA.out
      have ZJ := JA.out
      have aK := sA.out
      have bK := aB.out
      have cK := tA.out
      have GD : wc.cell? ⟨dA, 0, none⟩ = some (.int .i64 qA) := (blk_cell bA.out 0).trans rfl
      have HD : wc.cell? ⟨dA, 1, none⟩ = some (.int .i64 rA) := (blk_cell bA.out 1).trans rfl
      have ID : wc.cell? ⟨dA, 2, none⟩ = some (.int .i64 oA) := (blk_cell bA.out 2).trans rfl
      have JD : wc.cell? ⟨dA, 3, none⟩ = some (.int .i64 eA) := (blk_cell bA.out 3).trans rfl
      have KD : wc.cell? ⟨dA, 4, none⟩ = some (.int .i64 nA) := (blk_cell bA.out 4).trans rfl
      have LD : wc.cell? ⟨dA, 5, none⟩ = some (.int .i64 kA) := (blk_cell bA.out 5).trans rfl
      have MD : wc.cell? ⟨dA, 6, none⟩ = some (.int .i64 jA) := (blk_cell bA.out 6).trans rfl
      have ND : wc.cell? ⟨dA, 7, none⟩ = some (.int .i64 hA) := (blk_cell bA.out 7).trans rfl
      have OD : wc.cell? ⟨dA, 8, none⟩ = some (.int .i64 iA) := (blk_cell bA.out 8).trans rfl
      have PD : wc.cell? ⟨dA, 9, none⟩ = some (.bool gA) := (blk_cell bA.out 9).trans rfl
      have QD := blk_frozen bA.out 0
      have RD := blk_frozen bA.out 1
      have SD := blk_frozen bA.out 2
      have TD := blk_frozen bA.out 3
      have UD := blk_frozen bA.out 4
      have VD := blk_frozen bA.out 5
      have WD := blk_frozen bA.out 6
      have XD := blk_frozen bA.out 7
      have YD := blk_frozen bA.out 8
      have ZD := blk_frozen bA.out 9
      go_wp2
      go_meet
      case rel => exact ⟨_, (qA), (rA), (oA), (wrap64 (eA + 1)), (jB), (kA), (jA), (hA), (iA), (gA), H', ⟨by have := HJ5.out; first | omega | exact Nat.le_refl _⟩, ⟨by (with_reducible repeat (first | apply Kd.R_alloc | apply Kd.R_drewN | apply Kd.R_drew)); exact Kd.R_mono (Kd.R_far (p := ⟨dA, 4, none⟩) (Kd.R_far (p := ⟨dA, 3, none⟩) (Kd.R_types uA.out bA.out (by decide)) (fun _ hk => hk.2) (.int .i64 (wrap64 (eA + 1)))) (fun _ hk => hk.2) (.int .i64 jB)) (fun _ hk => trivial)⟩, ⟨by (with_reducible repeat (first | refine blk_drewN ?_ _ | refine blk_drew ?_ | refine blk_alloc ?_ _)); refine blk_far ?_ pA.out _; (with_reducible repeat (first | refine blk_drewN ?_ _ | refine blk_drew ?_ | refine blk_alloc ?_ _)); refine blk_far ?_ pA.out _; (with_reducible repeat (first | refine blk_drewN ?_ _ | refine blk_drew ?_ | refine blk_alloc ?_ _)); exact AA.out⟩, ⟨by (with_reducible repeat (first | refine blk_drewN ?_ _ | refine blk_drew ?_ | refine blk_alloc ?_ _)); refine blk_put (cs := #[.int .i64 qA, .int .i64 rA, .int .i64 oA, .int .i64 (wrap64 (eA + 1)), .int .i64 nA, .int .i64 kA, .int .i64 jA, .int .i64 hA, .int .i64 iA, .bool gA]) ?_ 4 _ rfl; (with_reducible repeat (first | refine blk_drewN ?_ _ | refine blk_drew ?_ | refine blk_alloc ?_ _)); refine blk_put (cs := #[.int .i64 qA, .int .i64 rA, .int .i64 oA, .int .i64 eA, .int .i64 nA, .int .i64 kA, .int .i64 jA, .int .i64 hA, .int .i64 iA, .bool gA]) ?_ 3 _ rfl; (with_reducible repeat (first | refine blk_drewN ?_ _ | refine blk_drew ?_ | refine blk_alloc ?_ _)); exact bA.out⟩, ⟨by (with_reducible repeat (first | refine blk_drewN ?_ _ | refine blk_drew ?_ | refine blk_alloc ?_ _)); refine blk_far ?_ lA.out _; (with_reducible repeat (first | refine blk_drewN ?_ _ | refine blk_drew ?_ | refine blk_alloc ?_ _)); refine blk_far ?_ lA.out _; (with_reducible repeat (first | refine blk_drewN ?_ _ | refine blk_drew ?_ | refine blk_alloc ?_ _)); exact BA.out⟩, ⟨by (with_reducible repeat (first | refine blk_drewN ?_ _ | refine blk_drew ?_ | refine blk_alloc ?_ _)); refine blk_far ?_ mA.out _; (with_reducible repeat (first | refine blk_drewN ?_ _ | refine blk_drew ?_ | refine blk_alloc ?_ _)); refine blk_far ?_ mA.out _; (with_reducible repeat (first | refine blk_drewN ?_ _ | refine blk_drew ?_ | refine blk_alloc ?_ _)); exact fA.out⟩, ⟨by (with_reducible repeat (first | refine blk_drewN ?_ _ | refine blk_drew ?_ | refine blk_alloc ?_ _)); refine blk_far ?_ sA.out _; (with_reducible repeat (first | refine blk_drewN ?_ _ | refine blk_drew ?_ | refine blk_alloc ?_ _)); refine blk_far ?_ sA.out _; (with_reducible repeat (first | refine blk_drewN ?_ _ | refine blk_drew ?_ | refine blk_alloc ?_ _)); exact GA.out⟩, ⟨by (with_reducible repeat (first | refine blk_drewN ?_ _ | refine blk_drew ?_ | refine blk_alloc ?_ _)); refine blk_far ?_ tA.out _; (with_reducible repeat (first | refine blk_drewN ?_ _ | refine blk_drew ?_ | refine blk_alloc ?_ _)); refine blk_far ?_ tA.out _; (with_reducible repeat (first | refine blk_drewN ?_ _ | refine blk_drew ?_ | refine blk_alloc ?_ _)); exact eB.out⟩, ⟨q5_0⟩⟩
     ·rw [if_neg c61] at H
      have SB : (eA == 0) = false := beq_eq_false_iff_ne.mpr c61
      have dF : (eA != 0) = true := bne_iff_ne.mpr c61
      (first | rw [SB] | (simp only [i64_w, i32_w]; rw [SB]) | skip)
      by_cases c68 : eA = 1
      ·rw [if_pos c68] at H
       have eF : (eA == 1) = true := beq_iff_eq.mpr c68
       have fF : (eA != 1) = false := bne_eq_false_iff_eq.mpr c68
       clear c68
       replace H := Option.bind_eq_some_iff.mp H
       obtain ⟨⟨OB, UB, EC, IC, aE, XE, ZE, WF, eG, vH⟩, A690, H⟩ := H
       replace H : (spec_RiStep.j3 kj5 OB UB EC IC aE XE ZE WF eG vH LA) = some (r1, r2, r3, r4, r5, r6, r7, r8, r9, r10, r11, r12) := H
       have A69 := Aside0.mk A690
       clear A690
       have H' := Aside0.mk H
       clear H
       have dK := dB.out
       have eK := pA.out
       have fK := vA.out
       have gK := lA.out
       have iK := aA.out
       have jK := mA.out
       have kK := JA.out
       have lK := sA.out
       have mK := aB.out
       have nK := tA.out
       have bE : wc.cell? ⟨dA, 0, none⟩ = some (.int .i64 qA) := (blk_cell bA.out 0).trans rfl
       have cE : wc.cell? ⟨dA, 1, none⟩ = some (.int .i64 rA) := (blk_cell bA.out 1).trans rfl
       have dE : wc.cell? ⟨dA, 2, none⟩ = some (.int .i64 oA) := (blk_cell bA.out 2).trans rfl
       have eE : wc.cell? ⟨dA, 3, none⟩ = some (.int .i64 eA) := (blk_cell bA.out 3).trans rfl
       have fE : wc.cell? ⟨dA, 4, none⟩ = some (.int .i64 nA) := (blk_cell bA.out 4).trans rfl
       have gE : wc.cell? ⟨dA, 5, none⟩ = some (.int .i64 kA) := (blk_cell bA.out 5).trans rfl
       have hE : wc.cell? ⟨dA, 6, none⟩ = some (.int .i64 jA) := (blk_cell bA.out 6).trans rfl
       have iE : wc.cell? ⟨dA, 7, none⟩ = some (.int .i64 hA) := (blk_cell bA.out 7).trans rfl
       have jE : wc.cell? ⟨dA, 8, none⟩ = some (.int .i64 iA) := (blk_cell bA.out 8).trans rfl
       have kE : wc.cell? ⟨dA, 9, none⟩ = some (.bool gA) := (blk_cell bA.out 9).trans rfl
       have lE := blk_frozen bA.out 0
       have mE := blk_frozen bA.out 1
       have nE := blk_frozen bA.out 2
       have oE := blk_frozen bA.out 3
       have pE := blk_frozen bA.out 4
       have qE := blk_frozen bA.out 5
       have rE := blk_frozen bA.out 6
       have sE := blk_frozen bA.out 7
       have tE := blk_frozen bA.out 8
       have uE := blk_frozen bA.out 9
       go_wp2_with (first | ((with_reducible refine gate_callee (f := 78) rfl ?_); refine goesL_ (some 60) rfl rfl Try.func78 (by kernel_rfl) rfl #[.agg #[.int .i64 qA, .int .i64 rA, .int .i64 oA, .int .i64 (wrap64 (eA + 1)), .int .i64 nA, .int .i64 kA, .int .i64 jA, .int .i64 hA, .int .i64 iA, .bool gA], .int .i64 jB] rfl q5_32 ?_; (with_reducible refine (spec_l04Seen.calls kj5 qA rA oA (wrap64 (eA + 1)) nA kA jA hA iA gA jB OB UB EC IC aE XE ZE WF eG vH _ A69.out).mono ?_); rintro e sH ⟨rfl, hb⟩; refine ⟨_, rfl, ?_⟩; have BB := Aside0.mk (Kd.R_below (by (with_reducible repeat (first | apply Kd.R_alloc | apply Kd.R_drewN | apply Kd.R_drew)); exact (Kd.R_mono (Kd.R_far (p := ⟨dA, 3, none⟩) (Kd.R_types uA.out bA.out (by decide)) (fun _ hk => hk.2) (.int .i64 (wrap64 (eA + 1)))) (fun _ h_ => h_.1))) hb); have CB := Aside0.mk (blk_below (g := KA) (o := .cells #[.slice oB XA.length pB] 29 (0, 0)) q5_12 hb); have DB := Aside0.mk (blk_below (g := dA) (o := .cells #[.int .i64 qA, .int .i64 rA, .int .i64 oA, .int .i64 (wrap64 (eA + 1)), .int .i64 nA, .int .i64 kA, .int .i64 jA, .int .i64 hA, .int .i64 iA, .bool gA] 23 (0, 0)) q5_17 hb); have EB := Aside0.mk (blk_below (g := wA) (o := .cells #[.slice none 0 0] 29 (0, 0)) q5_13 hb); have KB := Aside0.mk (blk_below (g := cA) (o := .cells #[.int .i64 0, .int .i64 0, .int .i64 0, .int .i64 0, .int .i64 0, .int .i64 0, .int .i64 0, .int .i64 0, .int .i64 0, .bool false] 23 (0, 0)) q5_14 hb); have QB := Aside0.mk (blk_below (g := NA) (o := .cells #[.int .i64 rB, .int .i64 AB, .int .i64 FB, .int .i64 JB] 37 (0, 0)) q5_15 hb); have RB := Aside0.mk (blk_below (g := fB) (o := .cells #[.slice GB LA.length IB] 29 (0, 0)) q5_16 hb); have NC := Aside0.mk (below_step q5_0 hb); clear uA; clear AA; clear bA; clear BA; clear fA; clear GA; clear eB; clear HB; have uA := BB; have AA := CB; have bA := DB; have BA := EB; have fA := KB; have GA := QB; have eB := RB; have HB := NC; clear BB CB DB EB KB QB RB NC; (try clear hb); (try clear hb2); (try clear hk); (try clear hi); have vE : sH.cell? ⟨dA, 0, none⟩ = some (.int .i64 qA) := (blk_cell bA.out 0).trans rfl; have wE : sH.cell? ⟨dA, 1, none⟩ = some (.int .i64 rA) := (blk_cell bA.out 1).trans rfl; have xE : sH.cell? ⟨dA, 2, none⟩ = some (.int .i64 oA) := (blk_cell bA.out 2).trans rfl; have yE : sH.cell? ⟨dA, 3, none⟩ = some (.int .i64 (wrap64 (eA + 1))) := (blk_cell bA.out 3).trans rfl; have zE : sH.cell? ⟨dA, 4, none⟩ = some (.int .i64 nA) := (blk_cell bA.out 4).trans rfl; have AE : sH.cell? ⟨dA, 5, none⟩ = some (.int .i64 kA) := (blk_cell bA.out 5).trans rfl; have BE : sH.cell? ⟨dA, 6, none⟩ = some (.int .i64 jA) := (blk_cell bA.out 6).trans rfl; have CE : sH.cell? ⟨dA, 7, none⟩ = some (.int .i64 hA) := (blk_cell bA.out 7).trans rfl; have DE : sH.cell? ⟨dA, 8, none⟩ = some (.int .i64 iA) := (blk_cell bA.out 8).trans rfl; have EE : sH.cell? ⟨dA, 9, none⟩ = some (.bool gA) := (blk_cell bA.out 9).trans rfl; have FE := blk_frozen bA.out 0; have GE := blk_frozen bA.out 1; have HE := blk_frozen bA.out 2; have IE := blk_frozen bA.out 3; have JE := blk_frozen bA.out 4; have KE := blk_frozen bA.out 5; have LE := blk_frozen bA.out 6; have ME := blk_frozen bA.out 7; have NE := blk_frozen bA.out 8; have OE := blk_frozen bA.out 9))
       go_meet
       case rel => exact ⟨_, (OB), (UB), (EC), (IC), (aE), (XE), (ZE), (WF), (eG), (vH), H', ⟨by have := HJ5.out; first | omega | exact Nat.le_refl _⟩, ⟨by (with_reducible repeat (first | apply Kd.R_alloc | apply Kd.R_drewN | apply Kd.R_drew)); exact Kd.R_mono (Kd.R_far (p := ⟨dA, 9, none⟩) (Kd.R_far (p := ⟨dA, 8, none⟩) (Kd.R_far (p := ⟨dA, 7, none⟩) (Kd.R_far (p := ⟨dA, 6, none⟩) (Kd.R_far (p := ⟨dA, 5, none⟩) (Kd.R_far (p := ⟨dA, 4, none⟩) (Kd.R_far (p := ⟨dA, 3, none⟩) (Kd.R_far (p := ⟨dA, 2, none⟩) (Kd.R_far (p := ⟨dA, 1, none⟩) (Kd.R_far (p := ⟨dA, 0, none⟩) (Kd.R_types uA.out bA.out (by decide)) (fun _ hk => hk.2) (.int .i64 OB)) (fun _ hk => hk.2) (.int .i64 UB)) (fun _ hk => hk.2) (.int .i64 EC)) (fun _ hk => hk.2) (.int .i64 IC)) (fun _ hk => hk.2) (.int .i64 aE)) (fun _ hk => hk.2) (.int .i64 XE)) (fun _ hk => hk.2) (.int .i64 ZE)) (fun _ hk => hk.2) (.int .i64 WF)) (fun _ hk => hk.2) (.int .i64 eG)) (fun _ hk => hk.2) (.bool vH)) (fun _ hk => trivial)⟩, ⟨q5_5⟩, ⟨by (with_reducible repeat (first | refine blk_drewN ?_ _ | refine blk_drew ?_ | refine blk_alloc ?_ _)); refine blk_put (cs := #[.int .i64 OB, .int .i64 UB, .int .i64 EC, .int .i64 IC, .int .i64 aE, .int .i64 XE, .int .i64 ZE, .int .i64 WF, .int .i64 eG, .bool gA]) ?_ 9 _ rfl; (with_reducible repeat (first | refine blk_drewN ?_ _ | refine blk_drew ?_ | refine blk_alloc ?_ _)); refine blk_put (cs := #[.int .i64 OB, .int .i64 UB, .int .i64 EC, .int .i64 IC, .int .i64 aE, .int .i64 XE, .int .i64 ZE, .int .i64 WF, .int .i64 iA, .bool gA]) ?_ 8 _ rfl; (with_reducible repeat (first | refine blk_drewN ?_ _ | refine blk_drew ?_ | refine blk_alloc ?_ _)); refine blk_put (cs := #[.int .i64 OB, .int .i64 UB, .int .i64 EC, .int .i64 IC, .int .i64 aE, .int .i64 XE, .int .i64 ZE, .int .i64 hA, .int .i64 iA, .bool gA]) ?_ 7 _ rfl; (with_reducible repeat (first | refine blk_drewN ?_ _ | refine blk_drew ?_ | refine blk_alloc ?_ _)); refine blk_put (cs := #[.int .i64 OB, .int .i64 UB, .int .i64 EC, .int .i64 IC, .int .i64 aE, .int .i64 XE, .int .i64 jA, .int .i64 hA, .int .i64 iA, .bool gA]) ?_ 6 _ rfl; (with_reducible repeat (first | refine blk_drewN ?_ _ | refine blk_drew ?_ | refine blk_alloc ?_ _)); refine blk_put (cs := #[.int .i64 OB, .int .i64 UB, .int .i64 EC, .int .i64 IC, .int .i64 aE, .int .i64 kA, .int .i64 jA, .int .i64 hA, .int .i64 iA, .bool gA]) ?_ 5 _ rfl; (with_reducible repeat (first | refine blk_drewN ?_ _ | refine blk_drew ?_ | refine blk_alloc ?_ _)); refine blk_put (cs := #[.int .i64 OB, .int .i64 UB, .int .i64 EC, .int .i64 IC, .int .i64 nA, .int .i64 kA, .int .i64 jA, .int .i64 hA, .int .i64 iA, .bool gA]) ?_ 4 _ rfl; (with_reducible repeat (first | refine blk_drewN ?_ _ | refine blk_drew ?_ | refine blk_alloc ?_ _)); refine blk_put (cs := #[.int .i64 OB, .int .i64 UB, .int .i64 EC, .int .i64 (wrap64 (eA + 1)), .int .i64 nA, .int .i64 kA, .int .i64 jA, .int .i64 hA, .int .i64 iA, .bool gA]) ?_ 3 _ rfl; (with_reducible repeat (first | refine blk_drewN ?_ _ | refine blk_drew ?_ | refine blk_alloc ?_ _)); refine blk_put (cs := #[.int .i64 OB, .int .i64 UB, .int .i64 oA, .int .i64 (wrap64 (eA + 1)), .int .i64 nA, .int .i64 kA, .int .i64 jA, .int .i64 hA, .int .i64 iA, .bool gA]) ?_ 2 _ rfl; (with_reducible repeat (first | refine blk_drewN ?_ _ | refine blk_drew ?_ | refine blk_alloc ?_ _)); refine blk_put (cs := #[.int .i64 OB, .int .i64 rA, .int .i64 oA, .int .i64 (wrap64 (eA + 1)), .int .i64 nA, .int .i64 kA, .int .i64 jA, .int .i64 hA, .int .i64 iA, .bool gA]) ?_ 1 _ rfl; (with_reducible repeat (first | refine blk_drewN ?_ _ | refine blk_drew ?_ | refine blk_alloc ?_ _)); refine blk_put (cs := #[.int .i64 qA, .int .i64 rA, .int .i64 oA, .int .i64 (wrap64 (eA + 1)), .int .i64 nA, .int .i64 kA, .int .i64 jA, .int .i64 hA, .int .i64 iA, .bool gA]) ?_ 0 _ rfl; (with_reducible repeat (first | refine blk_drewN ?_ _ | refine blk_drew ?_ | refine blk_alloc ?_ _)); exact bA.out⟩, ⟨q5_6⟩, ⟨q5_7⟩, ⟨q5_8⟩, ⟨q5_9⟩, ⟨q5_0⟩⟩
      ·rw [if_neg c68] at H
       have eF : (eA == 1) = false := beq_eq_false_iff_ne.mpr c68
       have fF : (eA != 1) = true := bne_iff_ne.mpr c68
       have HC78 := Aside0.mk H
       clear H
       go_upto_region 11 with (fail)
       go_cut [61] (fun v61 wc => ∃ (kq : Nat) (PE : Bool), v61 = .bool PE ∧ Aside0 (spec_RiStep.j1 kq jB eA PE qA rA oA (wrap64 (eA + 1)) nA kA jA hA iA gA LA = some (r1, r2, r3, r4, r5, r6, r7, r8, r9, r10, r11, r12)) ∧ Aside0 (kq ≤ kj5) ∧ Aside0 (Kd.R (Kd.int .i64) 3 wc w.heap.size (fun _ => True) (.slice GB LA.length IB) LA) ∧ Aside0 (wc.heap[KA]? = some (.cells #[(.slice oB XA.length pB)] 29 (0, 0))) ∧ Aside0 (wc.heap[dA]? = some (.cells #[.int .i64 qA, .int .i64 rA, .int .i64 oA, .int .i64 (wrap64 (eA + 1)), .int .i64 nA, .int .i64 kA, .int .i64 jA, .int .i64 hA, .int .i64 iA, .bool gA] 23 (0, 0))) ∧ Aside0 (wc.heap[wA]? = some (.cells #[(.slice none 0 0)] 29 (0, 0))) ∧ Aside0 (wc.heap[cA]? = some (.cells #[.int .i64 0, .int .i64 0, .int .i64 0, .int .i64 0, .int .i64 0, .int .i64 0, .int .i64 0, .int .i64 0, .int .i64 0, .bool false] 23 (0, 0))) ∧ Aside0 (wc.heap[NA]? = some (.cells #[.int .i64 rB, .int .i64 AB, .int .i64 FB, .int .i64 JB] 37 (0, 0))) ∧ Aside0 (wc.heap[fB]? = some (.cells #[(.slice GB LA.length IB)] 29 (0, 0))) ∧ Aside0 (Below w.heap.size w wc))
       case first =>
        have H := HC78.out
        clear HC78
        by_cases c79 : eA = 2
        ·rw [if_pos c79] at H
         have TB : (eA == 2) = true := beq_iff_eq.mpr c79
         have gF : (eA != 2) = false := bne_eq_false_iff_eq.mpr c79
         clear c79
         (first | rw [TB] | (simp only [i64_w, i32_w]; rw [TB]) | skip)
         have H' := Aside0.mk H
         clear H
         go_wp2
         go_meet
         case rel => exact ⟨_, ((jB == 0)), q5_37, H', ⟨by have := HJ5.out; first | omega | exact Nat.le_refl _⟩, ⟨q5_38⟩, ⟨q5_12⟩, ⟨q5_17⟩, ⟨q5_13⟩, ⟨q5_14⟩, ⟨q5_15⟩, ⟨q5_16⟩, ⟨q5_0⟩⟩
        ·rw [if_neg c79] at H
         have TB : (eA == 2) = false := beq_eq_false_iff_ne.mpr c79
         have gF : (eA != 2) = true := bne_iff_ne.mpr c79
         (first | rw [TB] | (simp only [i64_w, i32_w]; rw [TB]) | skip)
         have H' := Aside0.mk H
         clear H
         go_wp2
         go_meet
         case rel => exact ⟨_, (false), q5_37, H', ⟨by have := HJ5.out; first | omega | exact Nat.le_refl _⟩, ⟨q5_38⟩, ⟨q5_12⟩, ⟨q5_17⟩, ⟨q5_13⟩, ⟨q5_14⟩, ⟨q5_15⟩, ⟨q5_16⟩, ⟨q5_0⟩⟩
       case rest =>
        clear HC78
        (try clear c1); (try clear c2); (try clear p2); (try clear c3); (try clear c4); (try clear c5); (try clear c6); (try clear p6); (try clear c7); (try clear c11); (try clear c12); (try clear c13); (try clear c17); (try clear c18); (try clear c19); (try clear c20); (try clear c22); (try clear c23); (try clear c28); (try clear c29); (try clear c30); (try clear c31); (try clear c32); (try clear c34); (try clear c35); (try clear c36); (try clear c37); (try clear c38); (try clear c39); (try clear c40); (try clear c42); (try clear c43); (try clear c44); (try clear c45); (try clear c46); (try clear c47); (try clear c49); (try clear c50); (try clear c51); (try clear c52); (try clear c55); (try clear c56); (try clear c57); (try clear c58); (try clear c59); (try clear c61); (try clear SB); (try clear dF); (try clear c62); (try clear c63); (try clear c64); (try clear p64); (try clear c65); (try clear c66); (try clear c68); (try clear eF); (try clear fF); (try clear c70); (try clear c71); (try clear c72); (try clear c73); (try clear c74); (try clear c78); (try clear c79); (try clear TB); (try clear gF); (try clear WB); (try clear XB); (try clear YB); (try clear ZB); (try clear aC); (try clear bC); (try clear cC); (try clear dC); (try clear eC); (try clear fC); (try clear qC); (try clear rC); (try clear sC); (try clear tC); (try clear yC); (try clear AC); (try clear CC); (try clear QC); (try clear SC); (try clear TC); (try clear UC); (try clear VC); (try clear WC); (try clear XC); (try clear YC); (try clear ZC); (try clear aD); (try clear bD); (try clear mD); (try clear nD); (try clear oD); (try clear pD); (try clear qD); (try clear rD); (try clear sD); (try clear tD); (try clear uD); (try clear vD); (try clear GD); (try clear HD); (try clear ID); (try clear JD); (try clear KD); (try clear LD); (try clear MD); (try clear ND); (try clear OD); (try clear PD); (try clear bE); (try clear cE); (try clear dE); (try clear eE); (try clear fE); (try clear gE); (try clear hE); (try clear iE); (try clear jE); (try clear kE); (try clear vE); (try clear wE); (try clear xE); (try clear yE); (try clear zE); (try clear AE); (try clear BE); (try clear CE); (try clear DE); (try clear EE); (try clear gC); (try clear hC); (try clear iC); (try clear jC); (try clear kC); (try clear lC); (try clear mC); (try clear nC); (try clear oC); (try clear pC); (try clear uC); (try clear vC); (try clear wC); (try clear xC); (try clear zC); (try clear BC); (try clear DC); (try clear RC); (try clear cD); (try clear dD); (try clear eD); (try clear fD); (try clear gD); (try clear hD); (try clear iD); (try clear jD); (try clear kD); (try clear lD); (try clear wD); (try clear xD); (try clear yD); (try clear zD); (try clear AD); (try clear BD); (try clear CD); (try clear DD); (try clear ED); (try clear FD); (try clear QD); (try clear RD); (try clear SD); (try clear TD); (try clear UD); (try clear VD); (try clear WD); (try clear XD); (try clear YD); (try clear ZD); (try clear lE); (try clear mE); (try clear nE); (try clear oE); (try clear pE); (try clear qE); (try clear rE); (try clear sE); (try clear tE); (try clear uE); (try clear FE); (try clear GE); (try clear HE); (try clear IE); (try clear JE); (try clear KE); (try clear LE); (try clear ME); (try clear NE); (try clear OE); (try clear p2); (try clear p6)
        obtain ⟨kq, PE, rfl, HA, HJ77, uA, AA, bA, BA, fA, GA, eB, HB⟩ := hcut
        cases kq with
        | zero => exact absurd HA.out (by simp [spec_RiStep.j1])
        | succ kj77 =>
         have H := HA.out
         clear HA
         simp only [spec_RiStep.j1] at H
         by_cases c80 : PE = true
         ·subst c80
          have H1 : (spec_RiStep.j3 kj77 qA rA oA 0 nA kA jA hA iA gA LA) = some (r1, r2, r3, r4, r5, r6, r7, r8, r9, r10, r11, r12) := by rw [if_pos rfl] at H; exact H
          clear H
          have H := H1
          clear H1
          have H' := Aside0.mk H
          clear H
          have oK := dB.out
          have pK := pA.out
          have qK := vA.out
          have rK := lA.out
          have sK := aA.out
          have tK := mA.out
          have uK := JA.out
          have vK := sA.out
          have wK := aB.out
          have xK := tA.out
          have hF : wc.cell? ⟨dA, 0, none⟩ = some (.int .i64 qA) := (blk_cell bA.out 0).trans rfl
          have iF : wc.cell? ⟨dA, 1, none⟩ = some (.int .i64 rA) := (blk_cell bA.out 1).trans rfl
          have jF : wc.cell? ⟨dA, 2, none⟩ = some (.int .i64 oA) := (blk_cell bA.out 2).trans rfl
          have kF : wc.cell? ⟨dA, 3, none⟩ = some (.int .i64 (wrap64 (eA + 1))) := (blk_cell bA.out 3).trans rfl
          have lF : wc.cell? ⟨dA, 4, none⟩ = some (.int .i64 nA) := (blk_cell bA.out 4).trans rfl
          have mF : wc.cell? ⟨dA, 5, none⟩ = some (.int .i64 kA) := (blk_cell bA.out 5).trans rfl
          have nF : wc.cell? ⟨dA, 6, none⟩ = some (.int .i64 jA) := (blk_cell bA.out 6).trans rfl
          have oF : wc.cell? ⟨dA, 7, none⟩ = some (.int .i64 hA) := (blk_cell bA.out 7).trans rfl
          have pF : wc.cell? ⟨dA, 8, none⟩ = some (.int .i64 iA) := (blk_cell bA.out 8).trans rfl
          have qF : wc.cell? ⟨dA, 9, none⟩ = some (.bool gA) := (blk_cell bA.out 9).trans rfl
          have rF := blk_frozen bA.out 0
          have sF := blk_frozen bA.out 1
          have tF := blk_frozen bA.out 2
          have uF := blk_frozen bA.out 3
          have vF := blk_frozen bA.out 4
          have wF := blk_frozen bA.out 5
          have xF := blk_frozen bA.out 6
          have yF := blk_frozen bA.out 7
          have zF := blk_frozen bA.out 8
          have AF := blk_frozen bA.out 9
          go_wp2
          go_meet
          case rel => exact ⟨_, (qA), (rA), (oA), (0), (nA), (kA), (jA), (hA), (iA), (gA), H', ⟨by have := HJ5.out; have := HJ77.out; first | omega | exact Nat.le_refl _⟩, ⟨by (with_reducible repeat (first | apply Kd.R_alloc | apply Kd.R_drewN | apply Kd.R_drew)); exact Kd.R_mono (Kd.R_far (p := ⟨dA, 3, none⟩) (Kd.R_types uA.out bA.out (by decide)) (fun _ hk => hk.2) (.int .i64 0)) (fun _ hk => trivial)⟩, ⟨q5_12⟩, ⟨by (with_reducible repeat (first | refine blk_drewN ?_ _ | refine blk_drew ?_ | refine blk_alloc ?_ _)); refine blk_put (cs := #[.int .i64 qA, .int .i64 rA, .int .i64 oA, .int .i64 (wrap64 (eA + 1)), .int .i64 nA, .int .i64 kA, .int .i64 jA, .int .i64 hA, .int .i64 iA, .bool gA]) ?_ 3 _ rfl; (with_reducible repeat (first | refine blk_drewN ?_ _ | refine blk_drew ?_ | refine blk_alloc ?_ _)); exact bA.out⟩, ⟨q5_13⟩, ⟨q5_14⟩, ⟨q5_15⟩, ⟨q5_16⟩, ⟨q5_0⟩⟩
         ·replace c80 := Bool.eq_false_iff.mpr c80
          subst c80
          have H1 : (if eA = 3 then (spec_RiStep.j2 kj77 jB eA (qA == 2) qA rA oA (wrap64 (eA + 1)) nA kA jA hA iA gA LA) else (spec_RiStep.j2 kj77 jB eA false qA rA oA (wrap64 (eA + 1)) nA kA jA hA iA gA LA)) = some (r1, r2, r3, r4, r5, r6, r7, r8, r9, r10, r11, r12) := by rw [if_neg (show ¬ (false = true) by decide)] at H; exact H
          clear H
          have H := H1
          clear H1
          have HC87 := Aside0.mk H
          clear H
          go_upto_region 13 with (fail)
          go_cut [69] (fun v69 wc => ∃ (kq : Nat) (QE : Bool), v69 = .bool QE ∧ Aside0 (spec_RiStep.j2 kq jB eA QE qA rA oA (wrap64 (eA + 1)) nA kA jA hA iA gA LA = some (r1, r2, r3, r4, r5, r6, r7, r8, r9, r10, r11, r12)) ∧ Aside0 (kq ≤ kj77) ∧ Aside0 (Kd.R (Kd.int .i64) 3 wc w.heap.size (fun _ => True) (.slice GB LA.length IB) LA) ∧ Aside0 (wc.heap[KA]? = some (.cells #[(.slice oB XA.length pB)] 29 (0, 0))) ∧ Aside0 (wc.heap[dA]? = some (.cells #[.int .i64 qA, .int .i64 rA, .int .i64 oA, .int .i64 (wrap64 (eA + 1)), .int .i64 nA, .int .i64 kA, .int .i64 jA, .int .i64 hA, .int .i64 iA, .bool gA] 23 (0, 0))) ∧ Aside0 (wc.heap[wA]? = some (.cells #[(.slice none 0 0)] 29 (0, 0))) ∧ Aside0 (wc.heap[cA]? = some (.cells #[.int .i64 0, .int .i64 0, .int .i64 0, .int .i64 0, .int .i64 0, .int .i64 0, .int .i64 0, .int .i64 0, .int .i64 0, .bool false] 23 (0, 0))) ∧ Aside0 (wc.heap[NA]? = some (.cells #[.int .i64 rB, .int .i64 AB, .int .i64 FB, .int .i64 JB] 37 (0, 0))) ∧ Aside0 (wc.heap[fB]? = some (.cells #[(.slice GB LA.length IB)] 29 (0, 0))) ∧ Aside0 (Below w.heap.size w wc))
          case first =>
           have H := HC87.out
           clear HC87
           by_cases c88 : eA = 3
           ·rw [if_pos c88] at H
            have FC : (eA == 3) = true := beq_iff_eq.mpr c88
            have fG : (eA != 3) = false := bne_eq_false_iff_eq.mpr c88
            clear c88
            (first | rw [FC] | (simp only [i64_w, i32_w]; rw [FC]) | skip)
            have H' := Aside0.mk H
            clear H
            have yK := dB.out
            have zK := pA.out
            have AK := vA.out
            have BK := lA.out
            have CK := aA.out
            have DK := mA.out
            have EK := JA.out
            have FK := sA.out
            have GK := aB.out
            have HK := tA.out
            have BF : wc.cell? ⟨dA, 0, none⟩ = some (.int .i64 qA) := (blk_cell bA.out 0).trans rfl
            have CF : wc.cell? ⟨dA, 1, none⟩ = some (.int .i64 rA) := (blk_cell bA.out 1).trans rfl
            have DF : wc.cell? ⟨dA, 2, none⟩ = some (.int .i64 oA) := (blk_cell bA.out 2).trans rfl
            have EF : wc.cell? ⟨dA, 3, none⟩ = some (.int .i64 (wrap64 (eA + 1))) := (blk_cell bA.out 3).trans rfl
            have FF : wc.cell? ⟨dA, 4, none⟩ = some (.int .i64 nA) := (blk_cell bA.out 4).trans rfl
            have GF : wc.cell? ⟨dA, 5, none⟩ = some (.int .i64 kA) := (blk_cell bA.out 5).trans rfl
            have HF : wc.cell? ⟨dA, 6, none⟩ = some (.int .i64 jA) := (blk_cell bA.out 6).trans rfl
            have IF : wc.cell? ⟨dA, 7, none⟩ = some (.int .i64 hA) := (blk_cell bA.out 7).trans rfl
            have JF : wc.cell? ⟨dA, 8, none⟩ = some (.int .i64 iA) := (blk_cell bA.out 8).trans rfl
            have KF : wc.cell? ⟨dA, 9, none⟩ = some (.bool gA) := (blk_cell bA.out 9).trans rfl
            have LF := blk_frozen bA.out 0
            have MF := blk_frozen bA.out 1
            have NF := blk_frozen bA.out 2
            have OF := blk_frozen bA.out 3
            have PF := blk_frozen bA.out 4
            have QF := blk_frozen bA.out 5
            have RF := blk_frozen bA.out 6
            have SF := blk_frozen bA.out 7
            have TF := blk_frozen bA.out 8
            have UF := blk_frozen bA.out 9
            go_wp2
            go_meet
            case rel => exact ⟨_, ((qA == 2)), q5_37, H', ⟨by have := HJ5.out; have := HJ77.out; first | omega | exact Nat.le_refl _⟩, ⟨q5_36⟩, ⟨q5_1⟩, ⟨q5_2⟩, ⟨q5_4⟩, ⟨q5_11⟩, ⟨q5_21⟩, ⟨q5_34⟩, ⟨q5_0⟩⟩
           ·rw [if_neg c88] at H
            have FC : (eA == 3) = false := beq_eq_false_iff_ne.mpr c88
            have fG : (eA != 3) = true := bne_iff_ne.mpr c88
            (first | rw [FC] | (simp only [i64_w, i32_w]; rw [FC]) | skip)
            have H' := Aside0.mk H
            clear H
            go_wp2
            go_meet
            case rel => exact ⟨_, (false), q5_37, H', ⟨by have := HJ5.out; have := HJ77.out; first | omega | exact Nat.le_refl _⟩, ⟨q5_36⟩, ⟨q5_1⟩, ⟨q5_2⟩, ⟨q5_4⟩, ⟨q5_11⟩, ⟨q5_21⟩, ⟨q5_34⟩, ⟨q5_0⟩⟩
          case rest =>
           clear HC87
           (try clear c1); (try clear c2); (try clear p2); (try clear c3); (try clear c4); (try clear c5); (try clear c6); (try clear p6); (try clear c7); (try clear c8); (try clear c9); (try clear c11); (try clear c12); (try clear c13); (try clear c17); (try clear c18); (try clear c19); (try clear c20); (try clear c22); (try clear c23); (try clear c28); (try clear c29); (try clear c30); (try clear c31); (try clear c32); (try clear c34); (try clear c35); (try clear c36); (try clear c37); (try clear c38); (try clear c39); (try clear c40); (try clear c42); (try clear c43); (try clear c44); (try clear c45); (try clear c46); (try clear c47); (try clear c49); (try clear c50); (try clear c51); (try clear c52); (try clear c55); (try clear c56); (try clear c57); (try clear c58); (try clear c59); (try clear c61); (try clear SB); (try clear dF); (try clear c62); (try clear c63); (try clear c64); (try clear p64); (try clear c65); (try clear c66); (try clear c68); (try clear eF); (try clear fF); (try clear c70); (try clear c71); (try clear c72); (try clear c73); (try clear c74); (try clear c78); (try clear c79); (try clear TB); (try clear gF); (try clear c80); (try clear c81); (try clear c82); (try clear c83); (try clear c84); (try clear c85); (try clear c88); (try clear FC); (try clear fG); (try clear c89); (try clear c90); (try clear c91); (try clear c92); (try clear c93); (try clear WB); (try clear XB); (try clear YB); (try clear ZB); (try clear aC); (try clear bC); (try clear cC); (try clear dC); (try clear eC); (try clear fC); (try clear qC); (try clear rC); (try clear sC); (try clear tC); (try clear yC); (try clear AC); (try clear CC); (try clear QC); (try clear SC); (try clear TC); (try clear UC); (try clear VC); (try clear WC); (try clear XC); (try clear YC); (try clear ZC); (try clear aD); (try clear bD); (try clear mD); (try clear nD); (try clear oD); (try clear pD); (try clear qD); (try clear rD); (try clear sD); (try clear tD); (try clear uD); (try clear vD); (try clear GD); (try clear HD); (try clear ID); (try clear JD); (try clear KD); (try clear LD); (try clear MD); (try clear ND); (try clear OD); (try clear PD); (try clear bE); (try clear cE); (try clear dE); (try clear eE); (try clear fE); (try clear gE); (try clear hE); (try clear iE); (try clear jE); (try clear kE); (try clear vE); (try clear wE); (try clear xE); (try clear yE); (try clear zE); (try clear AE); (try clear BE); (try clear CE); (try clear DE); (try clear EE); (try clear hF); (try clear iF); (try clear jF); (try clear kF); (try clear lF); (try clear mF); (try clear nF); (try clear oF); (try clear pF); (try clear qF); (try clear BF); (try clear CF); (try clear DF); (try clear EF); (try clear FF); (try clear GF); (try clear HF); (try clear IF); (try clear JF); (try clear KF); (try clear gC); (try clear hC); (try clear iC); (try clear jC); (try clear kC); (try clear lC); (try clear mC); (try clear nC); (try clear oC); (try clear pC); (try clear uC); (try clear vC); (try clear wC); (try clear xC); (try clear zC); (try clear BC); (try clear DC); (try clear RC); (try clear cD); (try clear dD); (try clear eD); (try clear fD); (try clear gD); (try clear hD); (try clear iD); (try clear jD); (try clear kD); (try clear lD); (try clear wD); (try clear xD); (try clear yD); (try clear zD); (try clear AD); (try clear BD); (try clear CD); (try clear DD); (try clear ED); (try clear FD); (try clear QD); (try clear RD); (try clear SD); (try clear TD); (try clear UD); (try clear VD); (try clear WD); (try clear XD); (try clear YD); (try clear ZD); (try clear lE); (try clear mE); (try clear nE); (try clear oE); (try clear pE); (try clear qE); (try clear rE); (try clear sE); (try clear tE); (try clear uE); (try clear FE); (try clear GE); (try clear HE); (try clear IE); (try clear JE); (try clear KE); (try clear LE); (try clear ME); (try clear NE); (try clear OE); (try clear rF); (try clear sF); (try clear tF); (try clear uF); (try clear vF); (try clear wF); (try clear xF); (try clear yF); (try clear zF); (try clear AF); (try clear LF); (try clear MF); (try clear NF); (try clear OF); (try clear PF); (try clear QF); (try clear RF); (try clear SF); (try clear TF); (try clear UF); (try clear p2); (try clear p6); (try clear p64)
           obtain ⟨kq, QE, rfl, HA, HJ86, uA, AA, bA, BA, fA, GA, eB, HB⟩ := hcut
           cases kq with
           | zero => exact absurd HA.out (by simp [spec_RiStep.j2])
           | succ kj86 =>
            have H := HA.out
            clear HA
            simp only [spec_RiStep.j2] at H
            by_cases c95 : QE = true
            ·subst c95
             have H1 : (spec_RiStep.j3 kj86 qA rA oA (wrap64 (eA + 1)) nA kA jA hA jB gA LA) = some (r1, r2, r3, r4, r5, r6, r7, r8, r9, r10, r11, r12) := by rw [if_pos rfl] at H; exact H
             clear H
             have H := H1
             clear H1
             have H' := Aside0.mk H
             clear H
             have IK := dB.out
             have JK := pA.out
             have KK := vA.out
             have LK := lA.out
             have MK := aA.out
             have NK := mA.out
             have OK := JA.out
             have PK := sA.out
             have bI := aB.out
             have cI := tA.out
             have gG : wc.cell? ⟨dA, 0, none⟩ = some (.int .i64 qA) := (blk_cell bA.out 0).trans rfl
             have hG : wc.cell? ⟨dA, 1, none⟩ = some (.int .i64 rA) := (blk_cell bA.out 1).trans rfl
             have iG : wc.cell? ⟨dA, 2, none⟩ = some (.int .i64 oA) := (blk_cell bA.out 2).trans rfl
             have jG : wc.cell? ⟨dA, 3, none⟩ = some (.int .i64 (wrap64 (eA + 1))) := (blk_cell bA.out 3).trans rfl
             have kG : wc.cell? ⟨dA, 4, none⟩ = some (.int .i64 nA) := (blk_cell bA.out 4).trans rfl
             have lG : wc.cell? ⟨dA, 5, none⟩ = some (.int .i64 kA) := (blk_cell bA.out 5).trans rfl
             have mG : wc.cell? ⟨dA, 6, none⟩ = some (.int .i64 jA) := (blk_cell bA.out 6).trans rfl
             have nG : wc.cell? ⟨dA, 7, none⟩ = some (.int .i64 hA) := (blk_cell bA.out 7).trans rfl
             have oG : wc.cell? ⟨dA, 8, none⟩ = some (.int .i64 iA) := (blk_cell bA.out 8).trans rfl
             have pG : wc.cell? ⟨dA, 9, none⟩ = some (.bool gA) := (blk_cell bA.out 9).trans rfl
             have qG := blk_frozen bA.out 0
             have rG := blk_frozen bA.out 1
             have sG := blk_frozen bA.out 2
             have tG := blk_frozen bA.out 3
             have uG := blk_frozen bA.out 4
             have vG := blk_frozen bA.out 5
             have wG := blk_frozen bA.out 6
             have xG := blk_frozen bA.out 7
             have yG := blk_frozen bA.out 8
             have zG := blk_frozen bA.out 9
             go_wp2
             go_meet
             case rel => exact ⟨_, (qA), (rA), (oA), ((wrap64 (eA + 1))), (nA), (kA), (jA), (hA), (jB), (gA), H', ⟨by have := HJ5.out; have := HJ77.out; have := HJ86.out; first | omega | exact Nat.le_refl _⟩, ⟨by (with_reducible repeat (first | apply Kd.R_alloc | apply Kd.R_drewN | apply Kd.R_drew)); exact Kd.R_mono (Kd.R_far (p := ⟨dA, 8, none⟩) (Kd.R_types uA.out bA.out (by decide)) (fun _ hk => hk.2) (.int .i64 jB)) (fun _ hk => trivial)⟩, ⟨q5_12⟩, ⟨by (with_reducible repeat (first | refine blk_drewN ?_ _ | refine blk_drew ?_ | refine blk_alloc ?_ _)); refine blk_put (cs := #[.int .i64 qA, .int .i64 rA, .int .i64 oA, .int .i64 (wrap64 (eA + 1)), .int .i64 nA, .int .i64 kA, .int .i64 jA, .int .i64 hA, .int .i64 iA, .bool gA]) ?_ 8 _ rfl; (with_reducible repeat (first | refine blk_drewN ?_ _ | refine blk_drew ?_ | refine blk_alloc ?_ _)); exact bA.out⟩, ⟨q5_13⟩, ⟨q5_14⟩, ⟨q5_15⟩, ⟨q5_16⟩, ⟨q5_0⟩⟩
            ·replace c95 := Bool.eq_false_iff.mpr c95
             subst c95
             have H1 : (if eA = 4 then ((spec_l03End.f qA rA oA (wrap64 (eA + 1)) nA kA jA hA iA gA 1).bind fun hB => (spec_RiStep.j3 kj86 hB.1 hB.2.1 hB.2.2.1 hB.2.2.2.1 hB.2.2.2.2.1 hB.2.2.2.2.2.1 hB.2.2.2.2.2.2.1 hB.2.2.2.2.2.2.2.1 hB.2.2.2.2.2.2.2.2.1 hB.2.2.2.2.2.2.2.2.2 LA)) else (spec_RiStep.j3 kj86 qA rA oA (wrap64 (eA + 1)) nA kA jA hA iA gA LA)) = some (r1, r2, r3, r4, r5, r6, r7, r8, r9, r10, r11, r12) := by rw [if_neg (show ¬ (false = true) by decide)] at H; exact H
             clear H
             have H := H1
             clear H1
             by_cases c102 : eA = 4
             ·rw [if_pos c102] at H
              have AG : (eA == 4) = true := beq_iff_eq.mpr c102
              have BG : (eA != 4) = false := bne_eq_false_iff_eq.mpr c102
              clear c102
              replace H := Option.bind_eq_some_iff.mp H
              obtain ⟨⟨PB, VB, GC, JC, RE, YE, aF, XF, CG, wH⟩, A1030, H⟩ := H
              replace H : (spec_RiStep.j3 kj86 PB VB GC JC RE YE aF XF CG wH LA) = some (r1, r2, r3, r4, r5, r6, r7, r8, r9, r10, r11, r12) := H
              have A103 := Aside0.mk A1030
              clear A1030
              have H' := Aside0.mk H
              clear H
              have dI := dB.out
              have eI := pA.out
              have fI := vA.out
              have gI := lA.out
              have hI := aA.out
              have iI := mA.out
              have jI := JA.out
              have kI := sA.out
              have lI := aB.out
              have mI := tA.out
              have DG : wc.cell? ⟨dA, 0, none⟩ = some (.int .i64 qA) := (blk_cell bA.out 0).trans rfl
              have EG : wc.cell? ⟨dA, 1, none⟩ = some (.int .i64 rA) := (blk_cell bA.out 1).trans rfl
              have FG : wc.cell? ⟨dA, 2, none⟩ = some (.int .i64 oA) := (blk_cell bA.out 2).trans rfl
              have GG : wc.cell? ⟨dA, 3, none⟩ = some (.int .i64 (wrap64 (eA + 1))) := (blk_cell bA.out 3).trans rfl
              have HG : wc.cell? ⟨dA, 4, none⟩ = some (.int .i64 nA) := (blk_cell bA.out 4).trans rfl
              have IG : wc.cell? ⟨dA, 5, none⟩ = some (.int .i64 kA) := (blk_cell bA.out 5).trans rfl
              have JG : wc.cell? ⟨dA, 6, none⟩ = some (.int .i64 jA) := (blk_cell bA.out 6).trans rfl
              have KG : wc.cell? ⟨dA, 7, none⟩ = some (.int .i64 hA) := (blk_cell bA.out 7).trans rfl
              have LG : wc.cell? ⟨dA, 8, none⟩ = some (.int .i64 iA) := (blk_cell bA.out 8).trans rfl
              have MG : wc.cell? ⟨dA, 9, none⟩ = some (.bool gA) := (blk_cell bA.out 9).trans rfl
              have NG := blk_frozen bA.out 0
              have OG := blk_frozen bA.out 1
              have PG := blk_frozen bA.out 2
              have QG := blk_frozen bA.out 3
              have RG := blk_frozen bA.out 4
              have SG := blk_frozen bA.out 5
              have TG := blk_frozen bA.out 6
              have UG := blk_frozen bA.out 7
              have VG := blk_frozen bA.out 8
              have WG := blk_frozen bA.out 9
              go_wp2_with (first | ((with_reducible refine gate_callee (f := 66) rfl ?_); refine goesL_ (some 83) rfl rfl Try.func66 (by kernel_rfl) rfl #[.agg #[.int .i64 qA, .int .i64 rA, .int .i64 oA, .int .i64 (wrap64 (eA + 1)), .int .i64 nA, .int .i64 kA, .int .i64 jA, .int .i64 hA, .int .i64 iA, .bool gA], .int .i64 1] rfl q5_32 ?_; (with_reducible refine (spec_l03End.calls qA rA oA (wrap64 (eA + 1)) nA kA jA hA iA gA 1 PB VB GC JC RE YE aF XF CG wH _ A103.out).mono ?_); rintro e KC ⟨rfl, hb⟩; refine ⟨_, rfl, ?_⟩; have BB := Aside0.mk (Kd.R_below q5_36 hb); have CB := Aside0.mk (blk_below (g := KA) (o := .cells #[.slice oB XA.length pB] 29 (0, 0)) q5_1 hb); have DB := Aside0.mk (blk_below (g := dA) (o := .cells #[.int .i64 qA, .int .i64 rA, .int .i64 oA, .int .i64 (wrap64 (eA + 1)), .int .i64 nA, .int .i64 kA, .int .i64 jA, .int .i64 hA, .int .i64 iA, .bool gA] 23 (0, 0)) q5_2 hb); have EB := Aside0.mk (blk_below (g := wA) (o := .cells #[.slice none 0 0] 29 (0, 0)) q5_4 hb); have KB := Aside0.mk (blk_below (g := cA) (o := .cells #[.int .i64 0, .int .i64 0, .int .i64 0, .int .i64 0, .int .i64 0, .int .i64 0, .int .i64 0, .int .i64 0, .int .i64 0, .bool false] 23 (0, 0)) q5_11 hb); have QB := Aside0.mk (blk_below (g := NA) (o := .cells #[.int .i64 rB, .int .i64 AB, .int .i64 FB, .int .i64 JB] 37 (0, 0)) q5_21 hb); have RB := Aside0.mk (blk_below (g := fB) (o := .cells #[.slice GB LA.length IB] 29 (0, 0)) q5_34 hb); have NC := Aside0.mk (below_step q5_0 hb); clear uA; clear AA; clear bA; clear BA; clear fA; clear GA; clear eB; clear HB; have uA := BB; have AA := CB; have bA := DB; have BA := EB; have fA := KB; have GA := QB; have eB := RB; have HB := NC; clear BB CB DB EB KB QB RB NC; (try clear hb); (try clear hb2); (try clear hk); (try clear hi); have XG : KC.cell? ⟨dA, 0, none⟩ = some (.int .i64 qA) := (blk_cell bA.out 0).trans rfl; have YG : KC.cell? ⟨dA, 1, none⟩ = some (.int .i64 rA) := (blk_cell bA.out 1).trans rfl; have ZG : KC.cell? ⟨dA, 2, none⟩ = some (.int .i64 oA) := (blk_cell bA.out 2).trans rfl; have aH : KC.cell? ⟨dA, 3, none⟩ = some (.int .i64 (wrap64 (eA + 1))) := (blk_cell bA.out 3).trans rfl; have bH : KC.cell? ⟨dA, 4, none⟩ = some (.int .i64 nA) := (blk_cell bA.out 4).trans rfl; have cH : KC.cell? ⟨dA, 5, none⟩ = some (.int .i64 kA) := (blk_cell bA.out 5).trans rfl; have dH : KC.cell? ⟨dA, 6, none⟩ = some (.int .i64 jA) := (blk_cell bA.out 6).trans rfl; have eH : KC.cell? ⟨dA, 7, none⟩ = some (.int .i64 hA) := (blk_cell bA.out 7).trans rfl; have fH : KC.cell? ⟨dA, 8, none⟩ = some (.int .i64 iA) := (blk_cell bA.out 8).trans rfl; have gH : KC.cell? ⟨dA, 9, none⟩ = some (.bool gA) := (blk_cell bA.out 9).trans rfl; have hH := blk_frozen bA.out 0; have iH := blk_frozen bA.out 1; have jH := blk_frozen bA.out 2; have kH := blk_frozen bA.out 3; have lH := blk_frozen bA.out 4; have mH := blk_frozen bA.out 5; have nH := blk_frozen bA.out 6; have oH := blk_frozen bA.out 7; have pH := blk_frozen bA.out 8; have qH := blk_frozen bA.out 9))
              go_meet
              case rel => exact ⟨_, (PB), (VB), (GC), (JC), (RE), (YE), (aF), (XF), (CG), (wH), H', ⟨by have := HJ5.out; have := HJ77.out; have := HJ86.out; first | omega | exact Nat.le_refl _⟩, ⟨by (with_reducible repeat (first | apply Kd.R_alloc | apply Kd.R_drewN | apply Kd.R_drew)); exact Kd.R_mono (Kd.R_far (p := ⟨dA, 9, none⟩) (Kd.R_far (p := ⟨dA, 8, none⟩) (Kd.R_far (p := ⟨dA, 7, none⟩) (Kd.R_far (p := ⟨dA, 6, none⟩) (Kd.R_far (p := ⟨dA, 5, none⟩) (Kd.R_far (p := ⟨dA, 4, none⟩) (Kd.R_far (p := ⟨dA, 3, none⟩) (Kd.R_far (p := ⟨dA, 2, none⟩) (Kd.R_far (p := ⟨dA, 1, none⟩) (Kd.R_far (p := ⟨dA, 0, none⟩) (Kd.R_types uA.out bA.out (by decide)) (fun _ hk => hk.2) (.int .i64 PB)) (fun _ hk => hk.2) (.int .i64 VB)) (fun _ hk => hk.2) (.int .i64 GC)) (fun _ hk => hk.2) (.int .i64 JC)) (fun _ hk => hk.2) (.int .i64 RE)) (fun _ hk => hk.2) (.int .i64 YE)) (fun _ hk => hk.2) (.int .i64 aF)) (fun _ hk => hk.2) (.int .i64 XF)) (fun _ hk => hk.2) (.int .i64 CG)) (fun _ hk => hk.2) (.bool wH)) (fun _ hk => trivial)⟩, ⟨q5_5⟩, ⟨by (with_reducible repeat (first | refine blk_drewN ?_ _ | refine blk_drew ?_ | refine blk_alloc ?_ _)); refine blk_put (cs := #[.int .i64 PB, .int .i64 VB, .int .i64 GC, .int .i64 JC, .int .i64 RE, .int .i64 YE, .int .i64 aF, .int .i64 XF, .int .i64 CG, .bool gA]) ?_ 9 _ rfl; (with_reducible repeat (first | refine blk_drewN ?_ _ | refine blk_drew ?_ | refine blk_alloc ?_ _)); refine blk_put (cs := #[.int .i64 PB, .int .i64 VB, .int .i64 GC, .int .i64 JC, .int .i64 RE, .int .i64 YE, .int .i64 aF, .int .i64 XF, .int .i64 iA, .bool gA]) ?_ 8 _ rfl; (with_reducible repeat (first | refine blk_drewN ?_ _ | refine blk_drew ?_ | refine blk_alloc ?_ _)); refine blk_put (cs := #[.int .i64 PB, .int .i64 VB, .int .i64 GC, .int .i64 JC, .int .i64 RE, .int .i64 YE, .int .i64 aF, .int .i64 hA, .int .i64 iA, .bool gA]) ?_ 7 _ rfl; (with_reducible repeat (first | refine blk_drewN ?_ _ | refine blk_drew ?_ | refine blk_alloc ?_ _)); refine blk_put (cs := #[.int .i64 PB, .int .i64 VB, .int .i64 GC, .int .i64 JC, .int .i64 RE, .int .i64 YE, .int .i64 jA, .int .i64 hA, .int .i64 iA, .bool gA]) ?_ 6 _ rfl; (with_reducible repeat (first | refine blk_drewN ?_ _ | refine blk_drew ?_ | refine blk_alloc ?_ _)); refine blk_put (cs := #[.int .i64 PB, .int .i64 VB, .int .i64 GC, .int .i64 JC, .int .i64 RE, .int .i64 kA, .int .i64 jA, .int .i64 hA, .int .i64 iA, .bool gA]) ?_ 5 _ rfl; (with_reducible repeat (first | refine blk_drewN ?_ _ | refine blk_drew ?_ | refine blk_alloc ?_ _)); refine blk_put (cs := #[.int .i64 PB, .int .i64 VB, .int .i64 GC, .int .i64 JC, .int .i64 nA, .int .i64 kA, .int .i64 jA, .int .i64 hA, .int .i64 iA, .bool gA]) ?_ 4 _ rfl; (with_reducible repeat (first | refine blk_drewN ?_ _ | refine blk_drew ?_ | refine blk_alloc ?_ _)); refine blk_put (cs := #[.int .i64 PB, .int .i64 VB, .int .i64 GC, .int .i64 (wrap64 (eA + 1)), .int .i64 nA, .int .i64 kA, .int .i64 jA, .int .i64 hA, .int .i64 iA, .bool gA]) ?_ 3 _ rfl; (with_reducible repeat (first | refine blk_drewN ?_ _ | refine blk_drew ?_ | refine blk_alloc ?_ _)); refine blk_put (cs := #[.int .i64 PB, .int .i64 VB, .int .i64 oA, .int .i64 (wrap64 (eA + 1)), .int .i64 nA, .int .i64 kA, .int .i64 jA, .int .i64 hA, .int .i64 iA, .bool gA]) ?_ 2 _ rfl; (with_reducible repeat (first | refine blk_drewN ?_ _ | refine blk_drew ?_ | refine blk_alloc ?_ _)); refine blk_put (cs := #[.int .i64 PB, .int .i64 rA, .int .i64 oA, .int .i64 (wrap64 (eA + 1)), .int .i64 nA, .int .i64 kA, .int .i64 jA, .int .i64 hA, .int .i64 iA, .bool gA]) ?_ 1 _ rfl; (with_reducible repeat (first | refine blk_drewN ?_ _ | refine blk_drew ?_ | refine blk_alloc ?_ _)); refine blk_put (cs := #[.int .i64 qA, .int .i64 rA, .int .i64 oA, .int .i64 (wrap64 (eA + 1)), .int .i64 nA, .int .i64 kA, .int .i64 jA, .int .i64 hA, .int .i64 iA, .bool gA]) ?_ 0 _ rfl; (with_reducible repeat (first | refine blk_drewN ?_ _ | refine blk_drew ?_ | refine blk_alloc ?_ _)); exact bA.out⟩, ⟨q5_6⟩, ⟨q5_7⟩, ⟨q5_8⟩, ⟨q5_9⟩, ⟨q5_0⟩⟩
             ·rw [if_neg c102] at H
              have AG : (eA == 4) = false := beq_eq_false_iff_ne.mpr c102
              have BG : (eA != 4) = true := bne_iff_ne.mpr c102
              have H' := Aside0.mk H
              clear H
              go_wp2
              go_meet
              case rel => exact ⟨_, (qA), (rA), (oA), ((wrap64 (eA + 1))), (nA), (kA), (jA), (hA), (iA), (gA), H', ⟨by have := HJ5.out; have := HJ77.out; have := HJ86.out; first | omega | exact Nat.le_refl _⟩, ⟨q5_36⟩, ⟨q5_1⟩, ⟨q5_2⟩, ⟨q5_4⟩, ⟨q5_11⟩, ⟨q5_21⟩, ⟨q5_34⟩, ⟨q5_0⟩⟩
    case rest =>
     clear HC54
     (try clear c1); (try clear c2); (try clear p2); (try clear c3); (try clear c4); (try clear c5); (try clear c6); (try clear p6); (try clear c7); (try clear c8); (try clear c9); (try clear c10); (try clear c11); (try clear c12); (try clear c13); (try clear c17); (try clear c18); (try clear c19); (try clear c20); (try clear c22); (try clear c23); (try clear c28); (try clear c29); (try clear c30); (try clear c31); (try clear c32); (try clear c34); (try clear c35); (try clear c36); (try clear c37); (try clear c38); (try clear c39); (try clear c40); (try clear c42); (try clear c43); (try clear c44); (try clear c45); (try clear c46); (try clear c47); (try clear c49); (try clear c50); (try clear c51); (try clear c52); (try clear c55); (try clear c56); (try clear c57); (try clear c58); (try clear c59); (try clear c61); (try clear SB); (try clear dF); (try clear c62); (try clear c63); (try clear c64); (try clear p64); (try clear c65); (try clear c66); (try clear c68); (try clear eF); (try clear fF); (try clear c70); (try clear c71); (try clear c72); (try clear c73); (try clear c74); (try clear c78); (try clear c79); (try clear TB); (try clear gF); (try clear c80); (try clear c81); (try clear c82); (try clear c83); (try clear c84); (try clear c85); (try clear c88); (try clear FC); (try clear fG); (try clear c89); (try clear c90); (try clear c91); (try clear c92); (try clear c93); (try clear c95); (try clear c96); (try clear c97); (try clear c98); (try clear c99); (try clear c100); (try clear c102); (try clear AG); (try clear BG); (try clear c104); (try clear c105); (try clear c106); (try clear c107); (try clear c108); (try clear gG); (try clear hG); (try clear iG); (try clear jG); (try clear kG); (try clear lG); (try clear mG); (try clear nG); (try clear oG); (try clear pG); (try clear DG); (try clear EG); (try clear FG); (try clear GG); (try clear HG); (try clear IG); (try clear JG); (try clear KG); (try clear LG); (try clear MG); (try clear XG); (try clear YG); (try clear ZG); (try clear aH); (try clear bH); (try clear cH); (try clear dH); (try clear eH); (try clear fH); (try clear gH); (try clear WB); (try clear XB); (try clear YB); (try clear ZB); (try clear aC); (try clear bC); (try clear cC); (try clear dC); (try clear eC); (try clear fC); (try clear qC); (try clear rC); (try clear sC); (try clear tC); (try clear yC); (try clear AC); (try clear CC); (try clear QC); (try clear SC); (try clear TC); (try clear UC); (try clear VC); (try clear WC); (try clear XC); (try clear YC); (try clear ZC); (try clear aD); (try clear bD); (try clear mD); (try clear nD); (try clear oD); (try clear pD); (try clear qD); (try clear rD); (try clear sD); (try clear tD); (try clear uD); (try clear vD); (try clear GD); (try clear HD); (try clear ID); (try clear JD); (try clear KD); (try clear LD); (try clear MD); (try clear ND); (try clear OD); (try clear PD); (try clear bE); (try clear cE); (try clear dE); (try clear eE); (try clear fE); (try clear gE); (try clear hE); (try clear iE); (try clear jE); (try clear kE); (try clear vE); (try clear wE); (try clear xE); (try clear yE); (try clear zE); (try clear AE); (try clear BE); (try clear CE); (try clear DE); (try clear EE); (try clear hF); (try clear iF); (try clear jF); (try clear kF); (try clear lF); (try clear mF); (try clear nF); (try clear oF); (try clear pF); (try clear qF); (try clear BF); (try clear CF); (try clear DF); (try clear EF); (try clear FF); (try clear GF); (try clear HF); (try clear IF); (try clear JF); (try clear KF); (try clear qG); (try clear rG); (try clear sG); (try clear tG); (try clear uG); (try clear vG); (try clear wG); (try clear xG); (try clear yG); (try clear zG); (try clear NG); (try clear OG); (try clear PG); (try clear QG); (try clear RG); (try clear SG); (try clear TG); (try clear UG); (try clear VG); (try clear WG); (try clear hH); (try clear iH); (try clear jH); (try clear kH); (try clear lH); (try clear mH); (try clear nH); (try clear oH); (try clear pH); (try clear qH); (try clear gC); (try clear hC); (try clear iC); (try clear jC); (try clear kC); (try clear lC); (try clear mC); (try clear nC); (try clear oC); (try clear pC); (try clear uC); (try clear vC); (try clear wC); (try clear xC); (try clear zC); (try clear BC); (try clear DC); (try clear RC); (try clear cD); (try clear dD); (try clear eD); (try clear fD); (try clear gD); (try clear hD); (try clear iD); (try clear jD); (try clear kD); (try clear lD); (try clear wD); (try clear xD); (try clear yD); (try clear zD); (try clear AD); (try clear BD); (try clear CD); (try clear DD); (try clear ED); (try clear FD); (try clear QD); (try clear RD); (try clear SD); (try clear TD); (try clear UD); (try clear VD); (try clear WD); (try clear XD); (try clear YD); (try clear ZD); (try clear lE); (try clear mE); (try clear nE); (try clear oE); (try clear pE); (try clear qE); (try clear rE); (try clear sE); (try clear tE); (try clear uE); (try clear FE); (try clear GE); (try clear HE); (try clear IE); (try clear JE); (try clear KE); (try clear LE); (try clear ME); (try clear NE); (try clear OE); (try clear rF); (try clear sF); (try clear tF); (try clear uF); (try clear vF); (try clear wF); (try clear xF); (try clear yF); (try clear zF); (try clear AF); (try clear LF); (try clear MF); (try clear NF); (try clear OF); (try clear PF); (try clear QF); (try clear RF); (try clear SF); (try clear TF); (try clear UF); (try clear p2); (try clear p6); (try clear p64)
     obtain ⟨kq, xA, yA, zA, CA, EA, MA, PA, ZA, iB, mB, HA, HJ53, uA, AA, bA, BA, fA, GA, eB, HB⟩ := hcut
     cases kq with
     | zero => exact absurd HA.out (by simp [spec_RiStep.j3])
     | succ kj53 =>
      have H := HA.out
      clear HA
      simp only [spec_RiStep.j3] at H
      simp only [Option.some.injEq, Prod.mk.injEq] at H
      obtain ⟨rfl, rfl, rfl, rfl, rfl, rfl, rfl, rfl, rfl, rfl, rfl, rfl⟩ := H
      try go_wp2
      have BB := Aside0.mk (Kd.R_drew uA.out)
      have CB := Aside0.mk (blk_drew AA.out)
      have DB := Aside0.mk (blk_drew bA.out)
      have EB := Aside0.mk (blk_drew BA.out)
      have KB := Aside0.mk (blk_drew fA.out)
      have QB := Aside0.mk (blk_drew GA.out)
      have RB := Aside0.mk (blk_drew eB.out)
      have NC := Aside0.mk (below_drew1 HB.out)
      clear uA
      clear AA
      clear bA
      clear BA
      clear fA
      clear GA
      clear eB
      clear HB
      have uA := BB
      have AA := CB
      have bA := DB
      have BA := EB
      have fA := KB
      have GA := QB
      have eB := RB
      have HB := NC
      clear BB CB DB EB KB QB RB NC
      refine start_ (n := 5) (S := fun w' => w'.cell? ⟨fB, 0, none⟩ = some (.slice GB LA.length IB) ∧ w'.cell? ⟨dA, 0, none⟩ = some (.int .i64 xA) ∧ w'.cell? ⟨dA, 1, none⟩ = some (.int .i64 yA) ∧ w'.cell? ⟨dA, 2, none⟩ = some (.int .i64 zA) ∧ w'.cell? ⟨dA, 3, none⟩ = some (.int .i64 CA) ∧ w'.cell? ⟨dA, 4, none⟩ = some (.int .i64 EA) ∧ w'.cell? ⟨dA, 5, none⟩ = some (.int .i64 MA) ∧ w'.cell? ⟨dA, 6, none⟩ = some (.int .i64 PA) ∧ w'.cell? ⟨dA, 7, none⟩ = some (.int .i64 ZA) ∧ w'.cell? ⟨dA, 8, none⟩ = some (.int .i64 iB) ∧ w'.cell? ⟨dA, 9, none⟩ = some (.bool mB)) (ds := []) #[F,F,F,F,F] (by kernel_rfl) rfl rfl ⟨(blk_cell eB.out 0).trans rfl, (blk_cell bA.out 0).trans rfl, (blk_cell bA.out 1).trans rfl, (blk_cell bA.out 2).trans rfl, (blk_cell bA.out 3).trans rfl, (blk_cell bA.out 4).trans rfl, (blk_cell bA.out 5).trans rfl, (blk_cell bA.out 6).trans rfl, (blk_cell bA.out 7).trans rfl, (blk_cell bA.out 8).trans rfl, (blk_cell bA.out 9).trans rfl⟩ (fun hHeld => ?_)
      generalize wc.drew = HC at uA AA bA BA fA GA eB HB hHeld ⊢
      refine take_ (i := 0) (N := some 84) (v := ?_) (a' := ?_) #[T,F,F,F,F] rfl rfl (by kernel_rfl) (fun _ _ _ h => h) (Or.inl ⟨by rfl, ?_⟩) hHeld ?_ ?_
      rotate_left
      ·rintro w' ⟨s0, s1, s2, s3, s4, s5, s6, s7, s8, s9, cL⟩
       go_simp
       with_reducible rfl
      rotate_left
      ·simp only [Act.put, List.setIfInBounds_toArray, List.set_cons_zero, List.set_cons_succ, i64_w, i32_w]
       rfl
      refine take_ (i := 1) (N := some 85) (v := ?_) (a' := ?_) #[T,T,F,F,F] rfl rfl (by kernel_rfl) (fun _ _ _ h => h) (Or.inl ⟨by rfl, ?_⟩) hHeld ?_ ?_
      rotate_left
      ·rintro w' ⟨s0, s1, s2, s3, s4, s5, s6, s7, s8, s9, cL⟩
       go_simp
       with_reducible rfl
      rotate_left
      ·simp only [Act.put, List.setIfInBounds_toArray, List.set_cons_zero, List.set_cons_succ, i64_w, i32_w]
       rfl
      refine one_ (i := 2) (N := none) #[T,T,T,F,F] rfl rfl (by kernel_rfl) (by decide) (fun K hK => ?_)
      have QK : HC.cell? ⟨wA, 0, none⟩ = some (.slice none 0 0) := (blk_cell BA.out 0).trans rfl
      have nI := blk_frozen BA.out 0
      have IH := uB.out
      have JH := vA.out
      have KH := yB.out
      have LH := MB.out
      have MH := zB.out
      have NH := vB.out
      have OH := lA.out
      have PH := IA.out
      have QH := kB.out
      have RH := sB.out
      refine skip_ (w1 := ?_) (by rfl) rfl ?_ ?_
      rotate_left
      ·go_simp
       rfl
      refine hK.out _ _ ⟨((cell_far (p := ⟨wA, _, none⟩) zB.out _).trans (hHeld.1)), ((cell_far (p := ⟨wA, _, none⟩) vA.out _).trans (hHeld.2.1)), ((cell_far (p := ⟨wA, _, none⟩) vA.out _).trans (hHeld.2.2.1)), ((cell_far (p := ⟨wA, _, none⟩) vA.out _).trans (hHeld.2.2.2.1)), ((cell_far (p := ⟨wA, _, none⟩) vA.out _).trans (hHeld.2.2.2.2.1)), ((cell_far (p := ⟨wA, _, none⟩) vA.out _).trans (hHeld.2.2.2.2.2.1)), ((cell_far (p := ⟨wA, _, none⟩) vA.out _).trans (hHeld.2.2.2.2.2.2.1)), ((cell_far (p := ⟨wA, _, none⟩) vA.out _).trans (hHeld.2.2.2.2.2.2.2.1)), ((cell_far (p := ⟨wA, _, none⟩) vA.out _).trans (hHeld.2.2.2.2.2.2.2.2.1)), ((cell_far (p := ⟨wA, _, none⟩) vA.out _).trans (hHeld.2.2.2.2.2.2.2.2.2.1)), ((cell_far (p := ⟨wA, _, none⟩) vA.out _).trans (hHeld.2.2.2.2.2.2.2.2.2.2))⟩ (fun hHeld => ?_)
      clear hK K
      refine one_ (i := 3) (N := none) #[T,T,T,T,F] rfl rfl (by kernel_rfl) (by decide) (fun K hK => ?_)
      have RK : HC.cell? ⟨cA, 0, none⟩ = some (.int .i64 0) := (blk_cell fA.out 0).trans rfl
      have oI := blk_frozen fA.out 0
      have SH := wB.out
      have TH := aA.out
      have UH := NB.out
      have VH := DA.out
      have WH := xB.out
      have XH := mA.out
      have YH := lB.out
      have ZH := tB.out
      have SK : HC.cell? ⟨cA, 1, none⟩ = some (.int .i64 0) := (blk_cell fA.out 1).trans rfl
      have pI := blk_frozen fA.out 1
      have TK : HC.cell? ⟨cA, 2, none⟩ = some (.int .i64 0) := (blk_cell fA.out 2).trans rfl
      have qI := blk_frozen fA.out 2
      have UK : HC.cell? ⟨cA, 3, none⟩ = some (.int .i64 0) := (blk_cell fA.out 3).trans rfl
      have rI := blk_frozen fA.out 3
      have VK : HC.cell? ⟨cA, 4, none⟩ = some (.int .i64 0) := (blk_cell fA.out 4).trans rfl
      have sI := blk_frozen fA.out 4
      have WK : HC.cell? ⟨cA, 5, none⟩ = some (.int .i64 0) := (blk_cell fA.out 5).trans rfl
      have tI := blk_frozen fA.out 5
      have XK : HC.cell? ⟨cA, 6, none⟩ = some (.int .i64 0) := (blk_cell fA.out 6).trans rfl
      have uI := blk_frozen fA.out 6
      have YK : HC.cell? ⟨cA, 7, none⟩ = some (.int .i64 0) := (blk_cell fA.out 7).trans rfl
      have vI := blk_frozen fA.out 7
      have ZK : HC.cell? ⟨cA, 8, none⟩ = some (.int .i64 0) := (blk_cell fA.out 8).trans rfl
      have wI := blk_frozen fA.out 8
      have aL : HC.cell? ⟨cA, 9, none⟩ = some (.bool false) := (blk_cell fA.out 9).trans rfl
      have xI := blk_frozen fA.out 9
      refine skip_ (w1 := ?_) (by rfl) rfl ?_ ?_
      rotate_left
      ·go_simp
       rfl
      refine hK.out _ _ ⟨((cell_far (p := ⟨cA, _, none⟩) DA.out _).trans (((cell_far (p := ⟨cA, _, none⟩) DA.out _).trans (((cell_far (p := ⟨cA, _, none⟩) DA.out _).trans (((cell_far (p := ⟨cA, _, none⟩) DA.out _).trans (((cell_far (p := ⟨cA, _, none⟩) DA.out _).trans (((cell_far (p := ⟨cA, _, none⟩) DA.out _).trans (((cell_far (p := ⟨cA, _, none⟩) DA.out _).trans (((cell_far (p := ⟨cA, _, none⟩) DA.out _).trans (((cell_far (p := ⟨cA, _, none⟩) DA.out _).trans (((cell_far (p := ⟨cA, _, none⟩) DA.out _).trans (hHeld.1)))))))))))))))))))), ((cell_far (p := ⟨cA, _, none⟩) aA.out _).trans (((cell_far (p := ⟨cA, _, none⟩) aA.out _).trans (((cell_far (p := ⟨cA, _, none⟩) aA.out _).trans (((cell_far (p := ⟨cA, _, none⟩) aA.out _).trans (((cell_far (p := ⟨cA, _, none⟩) aA.out _).trans (((cell_far (p := ⟨cA, _, none⟩) aA.out _).trans (((cell_far (p := ⟨cA, _, none⟩) aA.out _).trans (((cell_far (p := ⟨cA, _, none⟩) aA.out _).trans (((cell_far (p := ⟨cA, _, none⟩) aA.out _).trans (((cell_far (p := ⟨cA, _, none⟩) aA.out _).trans (hHeld.2.1)))))))))))))))))))), ((cell_far (p := ⟨cA, _, none⟩) aA.out _).trans (((cell_far (p := ⟨cA, _, none⟩) aA.out _).trans (((cell_far (p := ⟨cA, _, none⟩) aA.out _).trans (((cell_far (p := ⟨cA, _, none⟩) aA.out _).trans (((cell_far (p := ⟨cA, _, none⟩) aA.out _).trans (((cell_far (p := ⟨cA, _, none⟩) aA.out _).trans (((cell_far (p := ⟨cA, _, none⟩) aA.out _).trans (((cell_far (p := ⟨cA, _, none⟩) aA.out _).trans (((cell_far (p := ⟨cA, _, none⟩) aA.out _).trans (((cell_far (p := ⟨cA, _, none⟩) aA.out _).trans (hHeld.2.2.1)))))))))))))))))))), ((cell_far (p := ⟨cA, _, none⟩) aA.out _).trans (((cell_far (p := ⟨cA, _, none⟩) aA.out _).trans (((cell_far (p := ⟨cA, _, none⟩) aA.out _).trans (((cell_far (p := ⟨cA, _, none⟩) aA.out _).trans (((cell_far (p := ⟨cA, _, none⟩) aA.out _).trans (((cell_far (p := ⟨cA, _, none⟩) aA.out _).trans (((cell_far (p := ⟨cA, _, none⟩) aA.out _).trans (((cell_far (p := ⟨cA, _, none⟩) aA.out _).trans (((cell_far (p := ⟨cA, _, none⟩) aA.out _).trans (((cell_far (p := ⟨cA, _, none⟩) aA.out _).trans (hHeld.2.2.2.1)))))))))))))))))))), ((cell_far (p := ⟨cA, _, none⟩) aA.out _).trans (((cell_far (p := ⟨cA, _, none⟩) aA.out _).trans (((cell_far (p := ⟨cA, _, none⟩) aA.out _).trans (((cell_far (p := ⟨cA, _, none⟩) aA.out _).trans (((cell_far (p := ⟨cA, _, none⟩) aA.out _).trans (((cell_far (p := ⟨cA, _, none⟩) aA.out _).trans (((cell_far (p := ⟨cA, _, none⟩) aA.out _).trans (((cell_far (p := ⟨cA, _, none⟩) aA.out _).trans (((cell_far (p := ⟨cA, _, none⟩) aA.out _).trans (((cell_far (p := ⟨cA, _, none⟩) aA.out _).trans (hHeld.2.2.2.2.1)))))))))))))))))))), ((cell_far (p := ⟨cA, _, none⟩) aA.out _).trans (((cell_far (p := ⟨cA, _, none⟩) aA.out _).trans (((cell_far (p := ⟨cA, _, none⟩) aA.out _).trans (((cell_far (p := ⟨cA, _, none⟩) aA.out _).trans (((cell_far (p := ⟨cA, _, none⟩) aA.out _).trans (((cell_far (p := ⟨cA, _, none⟩) aA.out _).trans (((cell_far (p := ⟨cA, _, none⟩) aA.out _).trans (((cell_far (p := ⟨cA, _, none⟩) aA.out _).trans (((cell_far (p := ⟨cA, _, none⟩) aA.out _).trans (((cell_far (p := ⟨cA, _, none⟩) aA.out _).trans (hHeld.2.2.2.2.2.1)))))))))))))))))))), ((cell_far (p := ⟨cA, _, none⟩) aA.out _).trans (((cell_far (p := ⟨cA, _, none⟩) aA.out _).trans (((cell_far (p := ⟨cA, _, none⟩) aA.out _).trans (((cell_far (p := ⟨cA, _, none⟩) aA.out _).trans (((cell_far (p := ⟨cA, _, none⟩) aA.out _).trans (((cell_far (p := ⟨cA, _, none⟩) aA.out _).trans (((cell_far (p := ⟨cA, _, none⟩) aA.out _).trans (((cell_far (p := ⟨cA, _, none⟩) aA.out _).trans (((cell_far (p := ⟨cA, _, none⟩) aA.out _).trans (((cell_far (p := ⟨cA, _, none⟩) aA.out _).trans (hHeld.2.2.2.2.2.2.1)))))))))))))))))))), ((cell_far (p := ⟨cA, _, none⟩) aA.out _).trans (((cell_far (p := ⟨cA, _, none⟩) aA.out _).trans (((cell_far (p := ⟨cA, _, none⟩) aA.out _).trans (((cell_far (p := ⟨cA, _, none⟩) aA.out _).trans (((cell_far (p := ⟨cA, _, none⟩) aA.out _).trans (((cell_far (p := ⟨cA, _, none⟩) aA.out _).trans (((cell_far (p := ⟨cA, _, none⟩) aA.out _).trans (((cell_far (p := ⟨cA, _, none⟩) aA.out _).trans (((cell_far (p := ⟨cA, _, none⟩) aA.out _).trans (((cell_far (p := ⟨cA, _, none⟩) aA.out _).trans (hHeld.2.2.2.2.2.2.2.1)))))))))))))))))))), ((cell_far (p := ⟨cA, _, none⟩) aA.out _).trans (((cell_far (p := ⟨cA, _, none⟩) aA.out _).trans (((cell_far (p := ⟨cA, _, none⟩) aA.out _).trans (((cell_far (p := ⟨cA, _, none⟩) aA.out _).trans (((cell_far (p := ⟨cA, _, none⟩) aA.out _).trans (((cell_far (p := ⟨cA, _, none⟩) aA.out _).trans (((cell_far (p := ⟨cA, _, none⟩) aA.out _).trans (((cell_far (p := ⟨cA, _, none⟩) aA.out _).trans (((cell_far (p := ⟨cA, _, none⟩) aA.out _).trans (((cell_far (p := ⟨cA, _, none⟩) aA.out _).trans (hHeld.2.2.2.2.2.2.2.2.1)))))))))))))))))))), ((cell_far (p := ⟨cA, _, none⟩) aA.out _).trans (((cell_far (p := ⟨cA, _, none⟩) aA.out _).trans (((cell_far (p := ⟨cA, _, none⟩) aA.out _).trans (((cell_far (p := ⟨cA, _, none⟩) aA.out _).trans (((cell_far (p := ⟨cA, _, none⟩) aA.out _).trans (((cell_far (p := ⟨cA, _, none⟩) aA.out _).trans (((cell_far (p := ⟨cA, _, none⟩) aA.out _).trans (((cell_far (p := ⟨cA, _, none⟩) aA.out _).trans (((cell_far (p := ⟨cA, _, none⟩) aA.out _).trans (((cell_far (p := ⟨cA, _, none⟩) aA.out _).trans (hHeld.2.2.2.2.2.2.2.2.2.1)))))))))))))))))))), ((cell_far (p := ⟨cA, _, none⟩) aA.out _).trans (((cell_far (p := ⟨cA, _, none⟩) aA.out _).trans (((cell_far (p := ⟨cA, _, none⟩) aA.out _).trans (((cell_far (p := ⟨cA, _, none⟩) aA.out _).trans (((cell_far (p := ⟨cA, _, none⟩) aA.out _).trans (((cell_far (p := ⟨cA, _, none⟩) aA.out _).trans (((cell_far (p := ⟨cA, _, none⟩) aA.out _).trans (((cell_far (p := ⟨cA, _, none⟩) aA.out _).trans (((cell_far (p := ⟨cA, _, none⟩) aA.out _).trans (((cell_far (p := ⟨cA, _, none⟩) aA.out _).trans (hHeld.2.2.2.2.2.2.2.2.2.2))))))))))))))))))))⟩ (fun hHeld => ?_)
      clear hK K
      refine pure_ (i := 4) (N := some 8) (v := ?_) (a' := ?_) #[T,T,T,T,T] rfl rfl (by kernel_rfl) (fun _ _ _ h => h) (Or.inl ⟨by rfl, ?_⟩) ?_ ?_
      rotate_left
      ·intro w'
       go_simp
       with_reducible rfl
      rotate_left
      ·simp only [Act.put, List.setIfInBounds_toArray, List.set_cons_zero, List.set_cons_succ, i64_w, i32_w]
       rfl
      refine done_ (by kernel_rfl) ?_
      try go_wp2
      refine bodyPost_ret (results_list (rs := [.cell 6 29, .cell 7 23, .tmp 8]) rfl (by simp) (.cell wA 29 #[.slice GB LA.length IB] (0, 0) _ rfl q5_3 Try.underlying29 rfl (by kernel_rfl) (.cell cA 23 #[.int .i64 xA, .int .i64 yA, .int .i64 zA, .int .i64 CA, .int .i64 EA, .int .i64 MA, .int .i64 PA, .int .i64 ZA, .int .i64 iB, .bool mB] (0, 0) _ rfl (by (with_reducible repeat (first | refine blk_drewN ?_ _ | refine blk_drew ?_ | refine blk_alloc ?_ _)); refine blk_put (cs := #[.int .i64 xA, .int .i64 yA, .int .i64 zA, .int .i64 CA, .int .i64 EA, .int .i64 MA, .int .i64 PA, .int .i64 ZA, .int .i64 iB, .bool false]) ?_ 9 _ rfl; (with_reducible repeat (first | refine blk_drewN ?_ _ | refine blk_drew ?_ | refine blk_alloc ?_ _)); refine blk_put (cs := #[.int .i64 xA, .int .i64 yA, .int .i64 zA, .int .i64 CA, .int .i64 EA, .int .i64 MA, .int .i64 PA, .int .i64 ZA, .int .i64 0, .bool false]) ?_ 8 _ rfl; (with_reducible repeat (first | refine blk_drewN ?_ _ | refine blk_drew ?_ | refine blk_alloc ?_ _)); refine blk_put (cs := #[.int .i64 xA, .int .i64 yA, .int .i64 zA, .int .i64 CA, .int .i64 EA, .int .i64 MA, .int .i64 PA, .int .i64 0, .int .i64 0, .bool false]) ?_ 7 _ rfl; (with_reducible repeat (first | refine blk_drewN ?_ _ | refine blk_drew ?_ | refine blk_alloc ?_ _)); refine blk_put (cs := #[.int .i64 xA, .int .i64 yA, .int .i64 zA, .int .i64 CA, .int .i64 EA, .int .i64 MA, .int .i64 0, .int .i64 0, .int .i64 0, .bool false]) ?_ 6 _ rfl; (with_reducible repeat (first | refine blk_drewN ?_ _ | refine blk_drew ?_ | refine blk_alloc ?_ _)); refine blk_put (cs := #[.int .i64 xA, .int .i64 yA, .int .i64 zA, .int .i64 CA, .int .i64 EA, .int .i64 0, .int .i64 0, .int .i64 0, .int .i64 0, .bool false]) ?_ 5 _ rfl; (with_reducible repeat (first | refine blk_drewN ?_ _ | refine blk_drew ?_ | refine blk_alloc ?_ _)); refine blk_put (cs := #[.int .i64 xA, .int .i64 yA, .int .i64 zA, .int .i64 CA, .int .i64 0, .int .i64 0, .int .i64 0, .int .i64 0, .int .i64 0, .bool false]) ?_ 4 _ rfl; (with_reducible repeat (first | refine blk_drewN ?_ _ | refine blk_drew ?_ | refine blk_alloc ?_ _)); refine blk_put (cs := #[.int .i64 xA, .int .i64 yA, .int .i64 zA, .int .i64 0, .int .i64 0, .int .i64 0, .int .i64 0, .int .i64 0, .int .i64 0, .bool false]) ?_ 3 _ rfl; (with_reducible repeat (first | refine blk_drewN ?_ _ | refine blk_drew ?_ | refine blk_alloc ?_ _)); refine blk_put (cs := #[.int .i64 xA, .int .i64 yA, .int .i64 0, .int .i64 0, .int .i64 0, .int .i64 0, .int .i64 0, .int .i64 0, .int .i64 0, .bool false]) ?_ 2 _ rfl; (with_reducible repeat (first | refine blk_drewN ?_ _ | refine blk_drew ?_ | refine blk_alloc ?_ _)); refine blk_put (cs := #[.int .i64 xA, .int .i64 0, .int .i64 0, .int .i64 0, .int .i64 0, .int .i64 0, .int .i64 0, .int .i64 0, .int .i64 0, .bool false]) ?_ 1 _ rfl; (with_reducible repeat (first | refine blk_drewN ?_ _ | refine blk_drew ?_ | refine blk_alloc ?_ _)); refine blk_put (cs := #[.int .i64 0, .int .i64 0, .int .i64 0, .int .i64 0, .int .i64 0, .int .i64 0, .int .i64 0, .int .i64 0, .int .i64 0, .bool false]) ?_ 0 _ rfl; (with_reducible repeat (first | refine blk_drewN ?_ _ | refine blk_drew ?_ | refine blk_alloc ?_ _)); refine blk_far ?_ yB.out _; (with_reducible repeat (first | refine blk_drewN ?_ _ | refine blk_drew ?_ | refine blk_alloc ?_ _)); exact fA.out) Try.underlying23 rfl (by kernel_rfl) (.tmp .nil)))) rfl ?_
      exact ⟨_, by first | rfl | (simp [errW_none, errW_some] <;> rfl) | (simp [*, errW_none, errW_some] <;> rfl), by (with_reducible repeat (first | apply Kd.R_alloc | apply Kd.R_drewN | apply Kd.R_drew)); exact Kd.R_mono (Kd.R_far (p := ⟨cA, 9, none⟩) (Kd.R_far (p := ⟨cA, 8, none⟩) (Kd.R_far (p := ⟨cA, 7, none⟩) (Kd.R_far (p := ⟨cA, 6, none⟩) (Kd.R_far (p := ⟨cA, 5, none⟩) (Kd.R_far (p := ⟨cA, 4, none⟩) (Kd.R_far (p := ⟨cA, 3, none⟩) (Kd.R_far (p := ⟨cA, 2, none⟩) (Kd.R_far (p := ⟨cA, 1, none⟩) (Kd.R_far (p := ⟨cA, 0, none⟩) (Kd.R_far (p := ⟨wA, 0, none⟩) (Kd.R_types (Kd.R_types uA.out BA.out (by decide)) fA.out (by decide)) (fun _ hk => hk.1.2) (.slice GB LA.length IB)) (fun _ hk => hk.2) (.int .i64 xA)) (fun _ hk => hk.2) (.int .i64 yA)) (fun _ hk => hk.2) (.int .i64 zA)) (fun _ hk => hk.2) (.int .i64 CA)) (fun _ hk => hk.2) (.int .i64 EA)) (fun _ hk => hk.2) (.int .i64 MA)) (fun _ hk => hk.2) (.int .i64 PA)) (fun _ hk => hk.2) (.int .i64 ZA)) (fun _ hk => hk.2) (.int .i64 iB)) (fun _ hk => hk.2) (.bool mB)) (fun _ hk => trivial), q5_0⟩

end Go.Proofs.Ytfahmmlkcmadeaa.PFnExactRiStep
