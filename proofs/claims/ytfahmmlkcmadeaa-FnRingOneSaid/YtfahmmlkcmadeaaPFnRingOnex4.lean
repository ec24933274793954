-- Written by the session's own patched copy of the printer (wip/patch_print.py).
import Derived.Test.YtfahmmlkcmadeaaPFnRingOnex0
import Derived.Test.YtfahmmlkcmadeaaPFnRingOnex2
import Derived.Test.YtfahmmlkcmadeaaPFnRingOnex3
namespace Go.Proofs.Ytfahmmlkcmadeaa.PFnRingOne
open Go.RowKit Go.Proofs.YtfahmmlkcmadeaaW.PrintWords Go.Proofs.YtfahmmlkcmadeaaW.PrintLast Go.Proofs.YtfahmmlkcmadeaaW.PrintMore
attribute [local go_sem] max2_int min2_int max_two min_two max_three min_three max_four min_four   -- for this text's walks alone
set_option linter.unusedVariables false
set_option linter.unusedSimpArgs false

open Bool renaming true → T, false → F
theorem q4_0 {p : Prop} (h : p := by repeat (first | (with_reducible first | exact HB.out | apply below_alloc | apply pw_below_drewN | apply below_drew1 | refine below_set ?_ IC.out | refine below_set ?_ ZB.out | refine below_set ?_ ZE.out | refine below_set ?_ dF.out | refine below_set ?_ FF.out | refine below_set ?_ GF.out) | exact HB.out)) : p := h
theorem q4_1 {p : Prop} (h : p := by repeat (first | (with_reducible first | exact HB.out | apply below_alloc | apply pw_below_drewN | apply below_drew1 | refine below_set ?_ IC.out | refine below_set ?_ ZB.out | refine below_set ?_ ZE.out | refine below_set ?_ dF.out | refine below_set ?_ FF.out) | exact HB.out)) : p := h
theorem q4_2 {p : Prop} (h : p := by (with_reducible repeat (first | refine blk_drewN ?_ _ | refine blk_drew ?_ | refine blk_alloc ?_ _)); exact oA.out) : p := h
theorem q4_3 {p : Prop} (h : p := by (with_reducible repeat (first | refine blk_drewN ?_ _ | refine blk_drew ?_ | refine blk_alloc ?_ _)); exact bA.out) : p := h
theorem q4_4 {p : Prop} (h : p := by (with_reducible repeat (first | refine blk_drewN ?_ _ | refine blk_drew ?_ | refine blk_alloc ?_ _)); exact pA.out) : p := h
theorem q4_5 {p : Prop} (h : p := by (with_reducible repeat (first | refine blk_drewN ?_ _ | refine blk_drew ?_ | refine blk_alloc ?_ _)); exact eA.out) : p := h
theorem q4_6 {p : Prop} (h : p := by (with_reducible repeat (first | refine blk_drewN ?_ _ | refine blk_drew ?_ | refine blk_alloc ?_ _)); exact hA.out) : p := h
theorem q4_7 {p : Prop} (h : p := by (iterate 2 ((with_reducible repeat (first | refine blk_drewN ?_ _ | refine blk_drew ?_ | refine blk_alloc ?_ _)); refine blk_far ?_ sA.out _)); (with_reducible repeat (first | refine blk_drewN ?_ _ | refine blk_drew ?_ | refine blk_alloc ?_ _)); refine blk_put (cs := #[.slice none 0 0]) ?_ 0 _ rfl; (with_reducible repeat (first | refine blk_drewN ?_ _ | refine blk_drew ?_ | refine blk_alloc ?_ _)); exact WA.out) : p := h
theorem q4_8 {p : Prop} (h : p := by (iterate 2 ((with_reducible repeat (first | refine blk_drewN ?_ _ | refine blk_drew ?_ | refine blk_alloc ?_ _)); refine blk_far ?_ nA.out _)); (with_reducible repeat (first | refine blk_drewN ?_ _ | refine blk_drew ?_ | refine blk_alloc ?_ _)); refine blk_far ?_ yB.out _; (with_reducible repeat (first | refine blk_drewN ?_ _ | refine blk_drew ?_ | refine blk_alloc ?_ _)); exact oA.out) : p := h
theorem q4_9 {p : Prop} (h : p := by (iterate 2 ((with_reducible repeat (first | refine blk_drewN ?_ _ | refine blk_drew ?_ | refine blk_alloc ?_ _)); refine blk_far ?_ lA.out _)); (with_reducible repeat (first | refine blk_drewN ?_ _ | refine blk_drew ?_ | refine blk_alloc ?_ _)); refine blk_far ?_ gB.out _; (with_reducible repeat (first | refine blk_drewN ?_ _ | refine blk_drew ?_ | refine blk_alloc ?_ _)); exact pA.out) : p := h
theorem q4_10 {p : Prop} (h : p := by (iterate 2 ((with_reducible repeat (first | refine blk_drewN ?_ _ | refine blk_drew ?_ | refine blk_alloc ?_ _)); refine blk_far ?_ mA.out _)); (with_reducible repeat (first | refine blk_drewN ?_ _ | refine blk_drew ?_ | refine blk_alloc ?_ _)); refine blk_far ?_ hB.out _; (with_reducible repeat (first | refine blk_drewN ?_ _ | refine blk_drew ?_ | refine blk_alloc ?_ _)); exact eA.out) : p := h
theorem q4_11 {p : Prop} (h : p := by (iterate 2 ((with_reducible repeat (first | refine blk_drewN ?_ _ | refine blk_drew ?_ | refine blk_alloc ?_ _)); refine blk_far ?_ tA.out _)); (with_reducible repeat (first | refine blk_drewN ?_ _ | refine blk_drew ?_ | refine blk_alloc ?_ _)); refine blk_far ?_ zB.out _; (with_reducible repeat (first | refine blk_drewN ?_ _ | refine blk_drew ?_ | refine blk_alloc ?_ _)); exact hA.out) : p := h
theorem q4_12 {p : Prop} (h : p := by (with_reducible repeat (first | refine blk_drewN ?_ _ | refine blk_drew ?_ | refine blk_alloc ?_ _)); refine blk_far ?_ sA.out _; (with_reducible repeat (first | refine blk_drewN ?_ _ | refine blk_drew ?_ | refine blk_alloc ?_ _)); refine blk_put (cs := #[.slice none 0 0]) ?_ 0 _ rfl; (with_reducible repeat (first | refine blk_drewN ?_ _ | refine blk_drew ?_ | refine blk_alloc ?_ _)); exact WA.out) : p := h
theorem q4_13 {p : Prop} (h : p := by (with_reducible repeat (first | refine blk_drewN ?_ _ | refine blk_drew ?_ | refine blk_alloc ?_ _)); refine blk_far ?_ nA.out _; (with_reducible repeat (first | refine blk_drewN ?_ _ | refine blk_drew ?_ | refine blk_alloc ?_ _)); refine blk_far ?_ yB.out _; (with_reducible repeat (first | refine blk_drewN ?_ _ | refine blk_drew ?_ | refine blk_alloc ?_ _)); exact oA.out) : p := h
theorem q4_14 {p : Prop} (h : p := by (with_reducible repeat (first | refine blk_drewN ?_ _ | refine blk_drew ?_ | refine blk_alloc ?_ _)); refine blk_far ?_ lA.out _; (with_reducible repeat (first | refine blk_drewN ?_ _ | refine blk_drew ?_ | refine blk_alloc ?_ _)); refine blk_far ?_ gB.out _; (with_reducible repeat (first | refine blk_drewN ?_ _ | refine blk_drew ?_ | refine blk_alloc ?_ _)); exact pA.out) : p := h
theorem q4_15 {p : Prop} (h : p := by (with_reducible repeat (first | refine blk_drewN ?_ _ | refine blk_drew ?_ | refine blk_alloc ?_ _)); refine blk_far ?_ mA.out _; (with_reducible repeat (first | refine blk_drewN ?_ _ | refine blk_drew ?_ | refine blk_alloc ?_ _)); refine blk_far ?_ hB.out _; (with_reducible repeat (first | refine blk_drewN ?_ _ | refine blk_drew ?_ | refine blk_alloc ?_ _)); exact eA.out) : p := h
theorem q4_16 {p : Prop} (h : p := by (with_reducible repeat (first | refine blk_drewN ?_ _ | refine blk_drew ?_ | refine blk_alloc ?_ _)); refine blk_far ?_ tA.out _; (with_reducible repeat (first | refine blk_drewN ?_ _ | refine blk_drew ?_ | refine blk_alloc ?_ _)); refine blk_far ?_ zB.out _; (with_reducible repeat (first | refine blk_drewN ?_ _ | refine blk_drew ?_ | refine blk_alloc ?_ _)); exact hA.out) : p := h
theorem q4_17 {p : Prop} (h : p := by (with_reducible repeat (first | refine blk_drewN ?_ _ | refine blk_drew ?_ | refine blk_alloc ?_ _)); refine blk_put (cs := #[.int .i64 iA, .int .i64 uA, .int .i64 vA, .int .i64 gA, .int .i64 qA, .int .i64 NA, .int .i64 wA, .int .i64 xA, .int .i64 AA, .bool yA]) ?_ 3 _ rfl; (with_reducible repeat (first | refine blk_drewN ?_ _ | refine blk_drew ?_ | refine blk_alloc ?_ _)); refine blk_far ?_ jA.out _; (with_reducible repeat (first | refine blk_drewN ?_ _ | refine blk_drew ?_ | refine blk_alloc ?_ _)); exact bA.out) : p := h
theorem q4_18 {p : Prop} (h : p := by repeat (first | (with_reducible first | exact bB.out | apply IsS23.alloc | apply IsS23.drewN | apply IsS23.drew | apply IsS23.set_0 | apply IsS23.set_1 | apply IsS23.set_2 | apply IsS23.set_3 | apply IsS23.set_4 | apply IsS23.set_5 | apply IsS23.set_6 | apply IsS23.set_7 | apply IsS23.set_8 | apply IsS23.set_9 | apply IsS23.far_ DA.out | apply IsS23.far_ fA.out | apply IsS23.far_ aA.out | apply IsS23.far_ EA.out | apply IsS23.far_ jA.out) | exact bB.out)) : p := h
theorem q4_19 {p : Prop} (h : p := by rw [hg]; exact Nat.ne_of_lt (blk_lt (g := dA) (o := .cells #[.int .i64 iA, .int .i64 uA, .int .i64 vA, .int .i64 gA, .int .i64 qA, .int .i64 NA, .int .i64 wA, .int .i64 xA, .int .i64 AA, .bool yA] 23 (0, 0)) q4_3)) : p := h
theorem q4_20 {p : Prop} (h : p := by rw [hg]; exact Nat.ne_of_gt (blk_lt (g := dA) (o := .cells #[.int .i64 iA, .int .i64 uA, .int .i64 vA, .int .i64 gA, .int .i64 qA, .int .i64 NA, .int .i64 wA, .int .i64 xA, .int .i64 AA, .bool yA] 23 (0, 0)) q4_3)) : p := h
theorem q4_21 {p : Prop} (h : p := by (with_reducible repeat (first | refine blk_drewN ?_ _ | refine blk_drew ?_ | refine blk_alloc ?_ _)); refine blk_put (cs := #[.int .i64 lB, .int .i64 qB, .int .i64 sB, .int .i64 0]) ?_ 3 _ rfl; (with_reducible repeat (first | refine blk_drewN ?_ _ | refine blk_drew ?_ | refine blk_alloc ?_ _)); refine blk_put (cs := #[.int .i64 lB, .int .i64 qB, .int .i64 0, .int .i64 0]) ?_ 2 _ rfl; (with_reducible repeat (first | refine blk_drewN ?_ _ | refine blk_drew ?_ | refine blk_alloc ?_ _)); refine blk_put (cs := #[.int .i64 lB, .int .i64 0, .int .i64 0, .int .i64 0]) ?_ 1 _ rfl; (with_reducible repeat (first | refine blk_drewN ?_ _ | refine blk_drew ?_ | refine blk_alloc ?_ _)); refine blk_put (cs := #[.int .i64 0, .int .i64 0, .int .i64 0, .int .i64 0]) ?_ 0 _ rfl; (with_reducible repeat (first | refine blk_drewN ?_ _ | refine blk_drew ?_ | refine blk_alloc ?_ _)); exact hA.out) : p := h
theorem q4_22 {p : Prop} (h : p := by (with_reducible repeat (first | refine blk_drewN ?_ _ | refine blk_drew ?_ | refine blk_alloc ?_ _)); refine blk_put (cs := #[.int .i64 iA, .int .i64 uA, .int .i64 vA, .int .i64 (wrap64 (gA + 1)), .int .i64 qA, .int .i64 NA, .int .i64 wA, .int .i64 xA, .int .i64 AA, .bool yA]) ?_ 5 _ rfl; (with_reducible repeat (first | refine blk_drewN ?_ _ | refine blk_drew ?_ | refine blk_alloc ?_ _)); refine blk_put (cs := #[.int .i64 iA, .int .i64 uA, .int .i64 vA, .int .i64 gA, .int .i64 qA, .int .i64 NA, .int .i64 wA, .int .i64 xA, .int .i64 AA, .bool yA]) ?_ 3 _ rfl; (with_reducible repeat (first | refine blk_drewN ?_ _ | refine blk_drew ?_ | refine blk_alloc ?_ _)); refine blk_far ?_ jA.out _; (with_reducible repeat (first | refine blk_drewN ?_ _ | refine blk_drew ?_ | refine blk_alloc ?_ _)); exact bA.out) : p := h
theorem q4_23 {p : Prop} (h : p := by (with_reducible repeat (first | refine blk_drewN ?_ _ | refine blk_drew ?_ | refine blk_alloc ?_ _)); exact WA.out) : p := h
theorem q4_24 {p : Prop} (h : p := by repeat (first | (with_reducible first | exact HB.out | apply below_alloc | apply pw_below_drewN | apply below_drew1 | refine below_set ?_ IC.out | refine below_set ?_ ZB.out | refine below_set ?_ ZE.out | refine below_set ?_ dF.out) | exact HB.out)) : p := h
theorem q4_25 {p : Prop} (h : p := by (with_reducible repeat (first | apply Kd.R_alloc | apply Kd.R_drewN | apply Kd.R_drew)); exact Kd.R_mono (Kd.R_far (p := ⟨dA, 3, none⟩) (Kd.R_far (p := ⟨BA, 0, none⟩) (Kd.R_types (Kd.R_types rB.out WA.out (by decide)) bA.out (by decide)) (fun _ hk => hk.1.2) (.slice PB mB.length QB)) (fun _ hk => hk.2) (.int .i64 (wrap64 (gA + 1)))) (fun _ hk => trivial)) : p := h
theorem q4_26 {p : Prop} (h : p := by (try simp only [List.map_toArray, List.map_cons, List.map_nil]); first | done | rfl | (simp only [List.length_drop, List.length_take]; rfl)) : p := h
theorem q4_27 {p : Prop} (h : p := by repeat (first | (with_reducible first | exact HB.out | apply below_alloc | apply pw_below_drewN | apply below_drew1 | refine below_set ?_ (IsS23.ge bB.out) | refine below_set ?_ IC.out | refine below_set ?_ ZE.out | refine below_set ?_ dF.out | refine below_set ?_ FF.out | refine below_set ?_ GF.out) | exact HB.out)) : p := h
theorem q4_28 {p : Prop} (h : p := by (with_reducible repeat (first | apply Kd.R_alloc | apply Kd.R_drewN | apply Kd.R_drew)); exact TA.out) : p := h
theorem q4_29 {p : Prop} (h : p := by rw [hg]; exact Nat.ne_of_lt (blk_lt (g := JA) (o := .cells #[.slice nB ZA.length oB] 29 (0, 0)) q4_2)) : p := h
theorem q4_30 {p : Prop} (h : p := by rw [hg]; exact Nat.ne_of_gt (blk_lt (g := JA) (o := .cells #[.slice nB ZA.length oB] 29 (0, 0)) q4_2)) : p := h
theorem q4_31 {p : Prop} (h : p := by (with_reducible repeat (first | apply Kd.R_alloc | apply Kd.R_drewN | apply Kd.R_drew)); exact Kd.R_mono (Kd.R_far (p := ⟨dA, 5, none⟩) (Kd.R_far (p := ⟨dA, 3, none⟩) (Kd.R_far (p := ⟨BA, 0, none⟩) (Kd.R_types (Kd.R_types rB.out WA.out (by decide)) bA.out (by decide)) (fun _ hk => hk.1.2) (.slice PB mB.length QB)) (fun _ hk => hk.2) (.int .i64 (wrap64 (gA + 1)))) (fun _ hk => hk.2) (.int .i64 iB)) (fun _ hk => trivial)) : p := h
theorem q4_32 {p : Prop} (h : p := by repeat (first | (with_reducible first | exact HB.out | apply below_alloc | apply pw_below_drewN | apply below_drew1 | refine below_set ?_ IC.out | refine below_set ?_ ZB.out | refine below_set ?_ ZE.out) | exact HB.out)) : p := h
theorem q4_33 {p : Prop} (h : p := by (iterate 10 ((with_reducible repeat (first | refine blk_drewN ?_ _ | refine blk_drew ?_ | refine blk_alloc ?_ _)); refine blk_far ?_ AB.out _)); (with_reducible repeat (first | refine blk_drewN ?_ _ | refine blk_drew ?_ | refine blk_alloc ?_ _)); refine blk_put (cs := #[.slice none 0 0]) ?_ 0 _ rfl; (with_reducible repeat (first | refine blk_drewN ?_ _ | refine blk_drew ?_ | refine blk_alloc ?_ _)); exact pA.out) : p := h
theorem q4_34 {p : Prop} (h : p := by rw [hg]; exact Nat.ne_of_lt (blk_lt (g := cA) (o := .cells #[.int .i64 0, .int .i64 0, .int .i64 0, .int .i64 0, .int .i64 0, .int .i64 0, .int .i64 0, .int .i64 0, .int .i64 0, .bool false] 23 (0, 0)) q4_5)) : p := h
theorem q4_35 {p : Prop} (h : p := by rw [hg]; exact Nat.ne_of_gt (blk_lt (g := cA) (o := .cells #[.int .i64 0, .int .i64 0, .int .i64 0, .int .i64 0, .int .i64 0, .int .i64 0, .int .i64 0, .int .i64 0, .int .i64 0, .bool false] 23 (0, 0)) q4_5)) : p := h
theorem q4_36 {p : Prop} (h : p := by have := HJ4.out; first | omega | exact Nat.le_refl _) : p := h
theorem q4_37 {p : Prop} (h : p := by repeat (first | (with_reducible first | exact HB.out | apply below_alloc | apply pw_below_drewN | apply below_drew1 | refine below_set ?_ IC.out | refine below_set ?_ ZB.out) | exact HB.out)) : p := h
theorem q4_38 {p : Prop} (h : p := by repeat (first | (with_reducible first | exact HB.out | apply below_alloc | apply pw_below_drewN | apply below_drew1 | refine below_set ?_ IC.out) | exact HB.out)) : p := h
theorem q4_39 {p : Prop} (h : p := by rw [hg]; exact Nat.ne_of_lt (blk_lt (g := kA) (o := .cells #[.slice none 0 0] 29 (0, 0)) q4_4)) : p := h
theorem q4_40 {p : Prop} (h : p := by rw [hg]; exact Nat.ne_of_gt (blk_lt (g := kA) (o := .cells #[.slice none 0 0] 29 (0, 0)) q4_4)) : p := h
theorem q4_41 {p : Prop} (h : p := by (iterate 4 ((with_reducible repeat (first | refine blk_drewN ?_ _ | refine blk_drew ?_ | refine blk_alloc ?_ _)); refine blk_far ?_ BB.out _)); (with_reducible repeat (first | refine blk_drewN ?_ _ | refine blk_drew ?_ | refine blk_alloc ?_ _)); exact oA.out) : p := h
theorem q4_42 {p : Prop} (h : p := by (iterate 4 ((with_reducible repeat (first | refine blk_drewN ?_ _ | refine blk_drew ?_ | refine blk_alloc ?_ _)); refine blk_far ?_ EA.out _)); (with_reducible repeat (first | refine blk_drewN ?_ _ | refine blk_drew ?_ | refine blk_alloc ?_ _)); exact bA.out) : p := h
theorem q4_43 {p : Prop} (h : p := by (iterate 4 ((with_reducible repeat (first | refine blk_drewN ?_ _ | refine blk_drew ?_ | refine blk_alloc ?_ _)); refine blk_far ?_ uB.out _)); (with_reducible repeat (first | refine blk_drewN ?_ _ | refine blk_drew ?_ | refine blk_alloc ?_ _)); exact pA.out) : p := h
theorem q4_44 {p : Prop} (h : p := by (iterate 4 ((with_reducible repeat (first | refine blk_drewN ?_ _ | refine blk_drew ?_ | refine blk_alloc ?_ _)); refine blk_far ?_ vB.out _)); (with_reducible repeat (first | refine blk_drewN ?_ _ | refine blk_drew ?_ | refine blk_alloc ?_ _)); exact eA.out) : p := h
theorem q4_45 {p : Prop} (h : p := by repeat (first | (with_reducible first | exact HB.out | apply below_alloc | apply pw_below_drewN | apply below_drew1) | exact HB.out)) : p := h
theorem q4_46 {p : Prop} (h : p := by have := HJ4.out; have := HJ68.out; have := HJ82.out; first | omega | exact Nat.le_refl _) : p := h
theorem q4_47 {p : Prop} (h : p := by first | rfl | (simp; done) | (simp [*]; done)) : p := h
theorem q4_48 {p : Prop} (h : p := by (with_reducible repeat (first | apply Kd.R_alloc | apply Kd.R_drewN | apply Kd.R_drew)); exact rB.out) : p := h
/-! ### impl_RiStep: function 43 -/
mutual
def impl_RiStep.j0 : Nat → Bool → List Int → Int → Int → Int → Int → Int → Int → Int → Int → Int → Bool → Int → Int → Int → Int → Option (List Int × Int × Int × Int × Int × Int × Int × Int × Int × Int × Bool × Bool)
 | 0, _, _, _, _, _, _, _, _, _, _, _, _, _, _, _, _ => none
 | k + 1, x32, xH, FA, OA, PA, GA, KA, XA, QA, RA, VA, SA, yH, zH, AH, BH => if x32 = true then (some (([] : List Int), 0, 0, 0, 0, 0, 0, 0, 0, 0, false, false)) else ((impl_Do.f xH yH zH AH BH).bind fun pB => (if pB.2.2 = true then (if GA = 0 then (impl_RiStep.j3 k FA OA PA (wrap64 (GA + 1)) pB.2.1 XA QA RA VA SA pB.1) else (if GA = 1 then (if FA = 2 then (impl_RiStep.j1 k (wrap64 (pB.2.1 - (wrap64 (KA + 1)))) FA OA PA (wrap64 (GA + 1)) KA pB.2.1 QA RA VA SA pB.1) else (impl_RiStep.j1 k (wrap64 (pB.2.1 - KA)) FA OA PA (wrap64 (GA + 1)) KA pB.2.1 QA RA VA SA pB.1)) else (if GA = 2 then (if pB.2.1 = 0 then (impl_RiStep.j3 k FA OA PA 0 KA XA QA RA VA SA pB.1) else (impl_RiStep.j3 k FA OA PA (wrap64 (GA + 1)) KA XA QA RA VA SA pB.1)) else (if GA = 3 then (if FA = 2 then (impl_RiStep.j3 k FA OA PA (wrap64 (GA + 1)) KA XA QA RA pB.2.1 SA pB.1) else (impl_RiStep.j3 k FA OA PA (wrap64 (GA + 1)) KA XA QA RA VA SA pB.1)) else (if GA = 4 then ((impl_Call_end.f FA OA PA (wrap64 (GA + 1)) KA XA QA RA VA SA 1).bind fun UB => (impl_RiStep.j3 k UB.1 UB.2.1 UB.2.2.1 UB.2.2.2.1 UB.2.2.2.2.1 UB.2.2.2.2.2.1 UB.2.2.2.2.2.2.1 UB.2.2.2.2.2.2.2.1 UB.2.2.2.2.2.2.2.2.1 UB.2.2.2.2.2.2.2.2.2 pB.1)) else (impl_RiStep.j3 k FA OA PA (wrap64 (GA + 1)) KA XA QA RA VA SA pB.1)))))) else (some (([] : List Int), 0, 0, 0, 0, 0, 0, 0, 0, 0, false, false))))
def impl_RiStep.j3 : Nat → Int → Int → Int → Int → Int → Int → Int → Int → Int → Bool → List Int → Option (List Int × Int × Int × Int × Int × Int × Int × Int × Int × Int × Bool × Bool)
 | 0, _, _, _, _, _, _, _, _, _, _, _ => none
 | k + 1, FA, OA, PA, GA, KA, XA, QA, RA, VA, SA, tB => some (tB, FA, OA, PA, GA, KA, XA, QA, RA, VA, SA, true)
def impl_RiStep.j1 : Nat → Int → Int → Int → Int → Int → Int → Int → Int → Int → Int → Bool → List Int → Option (List Int × Int × Int × Int × Int × Int × Int × Int × Int × Int × Bool × Bool)
 | 0, _, _, _, _, _, _, _, _, _, _, _, _ => none
 | k + 1, x15, FA, OA, PA, GA, KA, XA, QA, RA, VA, SA, tB => if x15 < 0 then (impl_RiStep.j2 k x15 (FA == 1) FA OA PA GA KA XA QA RA VA SA tB) else (impl_RiStep.j2 k x15 false FA OA PA GA KA XA QA RA VA SA tB)
def impl_RiStep.j2 : Nat → Int → Bool → Int → Int → Int → Int → Int → Int → Int → Int → Int → Bool → List Int → Option (List Int × Int × Int × Int × Int × Int × Int × Int × Int × Int × Bool × Bool)
 | 0, _, _, _, _, _, _, _, _, _, _, _, _, _ => none
 | k + 1, x15, x75, FA, OA, PA, GA, KA, XA, QA, RA, VA, SA, tB => if x75 = true then ((impl_Call_end.f FA OA PA GA KA XA QA RA VA SA 3).bind fun VB => (impl_RiStep.j3 k VB.1 VB.2.1 VB.2.2.1 VB.2.2.2.1 VB.2.2.2.2.1 VB.2.2.2.2.2.1 VB.2.2.2.2.2.2.1 VB.2.2.2.2.2.2.2.1 VB.2.2.2.2.2.2.2.2.1 VB.2.2.2.2.2.2.2.2.2 tB)) else (if x15 < 0 then ((impl_Call_end.f FA OA PA GA KA XA QA RA VA SA 2).bind fun WB => (impl_RiStep.j3 k WB.1 WB.2.1 WB.2.2.1 WB.2.2.2.1 WB.2.2.2.2.1 WB.2.2.2.2.2.1 WB.2.2.2.2.2.2.1 WB.2.2.2.2.2.2.2.1 WB.2.2.2.2.2.2.2.2.1 WB.2.2.2.2.2.2.2.2.2 tB)) else (if x15 > 0 then (impl_RiStep.j3 k FA OA PA 0 KA XA QA RA VA SA tB) else (impl_RiStep.j3 k FA OA PA GA KA XA QA RA VA SA tB)))
end
def impl_RiStep.f (k : Nat) (a0 : Int) (ZA : List Int) (iA : Int) (uA : Int) (vA : Int) (gA : Int) (qA : Int) (NA : Int) (wA : Int) (xA : Int) (AA : Int) (yA : Bool) : Option (List Int × Int × Int × Int × Int × Int × Int × Int × Int × Int × Bool × Bool) := (impl_RiAct.f k a0 iA uA vA gA qA NA wA xA AA yA).bind fun fB => (if fB.2.2.2.2 = true then (impl_RiStep.j0 k ((ZA.length : Int) != (wrap64 (2 + (wrap64 (2 * a0))))) ZA iA uA vA gA qA NA wA xA AA yA fB.1 fB.2.1 fB.2.2.1 fB.2.2.2.1) else (impl_RiStep.j0 k true ZA iA uA vA gA qA NA wA xA AA yA fB.1 fB.2.1 fB.2.2.1 fB.2.2.2.1))
theorem impl_RiStep.mono_l : ∀ k, (∀ y0 y1 y2 y3 y4 y5 y6 y7 y8 y9 y10 y11 y12 y13 y14 y15, LeO (impl_RiStep.j0 k y0 y1 y2 y3 y4 y5 y6 y7 y8 y9 y10 y11 y12 y13 y14 y15) (impl_RiStep.j0 (k + 1) y0 y1 y2 y3 y4 y5 y6 y7 y8 y9 y10 y11 y12 y13 y14 y15)) ∧ (∀ y0 y1 y2 y3 y4 y5 y6 y7 y8 y9 y10, LeO (impl_RiStep.j3 k y0 y1 y2 y3 y4 y5 y6 y7 y8 y9 y10) (impl_RiStep.j3 (k + 1) y0 y1 y2 y3 y4 y5 y6 y7 y8 y9 y10)) ∧ (∀ y0 y1 y2 y3 y4 y5 y6 y7 y8 y9 y10 y11, LeO (impl_RiStep.j1 k y0 y1 y2 y3 y4 y5 y6 y7 y8 y9 y10 y11) (impl_RiStep.j1 (k + 1) y0 y1 y2 y3 y4 y5 y6 y7 y8 y9 y10 y11)) ∧ (∀ y0 y1 y2 y3 y4 y5 y6 y7 y8 y9 y10 y11 y12, LeO (impl_RiStep.j2 k y0 y1 y2 y3 y4 y5 y6 y7 y8 y9 y10 y11 y12) (impl_RiStep.j2 (k + 1) y0 y1 y2 y3 y4 y5 y6 y7 y8 y9 y10 y11 y12))
 | 0 => ⟨fun _ _ _ _ _ _ _ _ _ _ _ _ _ _ _ _ r h => by simp [impl_RiStep.j0] at h, fun _ _ _ _ _ _ _ _ _ _ _ r h => by simp [impl_RiStep.j3] at h, fun _ _ _ _ _ _ _ _ _ _ _ _ r h => by simp [impl_RiStep.j1] at h, fun _ _ _ _ _ _ _ _ _ _ _ _ _ r h => by simp [impl_RiStep.j2] at h⟩
 | k + 1 => by
  obtain ⟨ih0, ih1, ih2, ih3⟩ := impl_RiStep.mono_l k
  refine ⟨?_, ?_, ?_, ?_⟩
  ·intro y0 y1 y2 y3 y4 y5 y6 y7 y8 y9 y10 y11 y12 y13 y14 y15
   unfold impl_RiStep.j0
   repeat' first
   | (with_reducible exact ih0 _ _ _ _ _ _ _ _ _ _ _ _ _ _ _ _)
   | (with_reducible exact ih1 _ _ _ _ _ _ _ _ _ _ _)
   | (with_reducible exact ih2 _ _ _ _ _ _ _ _ _ _ _ _)
   | (with_reducible exact ih3 _ _ _ _ _ _ _ _ _ _ _ _ _)
   | (with_reducible exact impl_RiAct.mono _ _ _ _ _ _ _ _ _ _ _ _)
   | (with_reducible exact LeO.refl _)
   | (with_reducible exact LeO.none _)
   | (with_reducible refine LeO.ite ?_ ?_)
   | (with_reducible refine LeO.bind ?_ (fun _ => ?_))
   | exact ih0 _ _ _ _ _ _ _ _ _ _ _ _ _ _ _ _
   | exact ih1 _ _ _ _ _ _ _ _ _ _ _
   | exact ih2 _ _ _ _ _ _ _ _ _ _ _ _
   | exact ih3 _ _ _ _ _ _ _ _ _ _ _ _ _
   | exact impl_RiAct.mono _ _ _ _ _ _ _ _ _ _ _ _
   | exact LeO.none _
   | refine LeO.ite ?_ ?_
   | refine LeO.bind ?_ (fun _ => ?_)
  ·intro y0 y1 y2 y3 y4 y5 y6 y7 y8 y9 y10
   unfold impl_RiStep.j3
   repeat' first
   | (with_reducible exact ih0 _ _ _ _ _ _ _ _ _ _ _ _ _ _ _ _)
   | (with_reducible exact ih1 _ _ _ _ _ _ _ _ _ _ _)
   | (with_reducible exact ih2 _ _ _ _ _ _ _ _ _ _ _ _)
   | (with_reducible exact ih3 _ _ _ _ _ _ _ _ _ _ _ _ _)
   | (with_reducible exact impl_RiAct.mono _ _ _ _ _ _ _ _ _ _ _ _)
   | (with_reducible exact LeO.refl _)
   | (with_reducible exact LeO.none _)
   | (with_reducible refine LeO.ite ?_ ?_)
   | (with_reducible refine LeO.bind ?_ (fun _ => ?_))
   | exact ih0 _ _ _ _ _ _ _ _ _ _ _ _ _ _ _ _
   | exact ih1 _ _ _ _ _ _ _ _ _ _ _
   | exact ih2 _ _ _ _ _ _ _ _ _ _ _ _
   | exact ih3 _ _ _ _ _ _ _ _ _ _ _ _ _
   | exact impl_RiAct.mono _ _ _ _ _ _ _ _ _ _ _ _
   | exact LeO.none _
   | refine LeO.ite ?_ ?_
   | refine LeO.bind ?_ (fun _ => ?_)
  ·intro y0 y1 y2 y3 y4 y5 y6 y7 y8 y9 y10 y11
   unfold impl_RiStep.j1
   repeat' first
   | (with_reducible exact ih0 _ _ _ _ _ _ _ _ _ _ _ _ _ _ _ _)
   | (with_reducible exact ih1 _ _ _ _ _ _ _ _ _ _ _)
   | (with_reducible exact ih2 _ _ _ _ _ _ _ _ _ _ _ _)
   | (with_reducible exact ih3 _ _ _ _ _ _ _ _ _ _ _ _ _)
   | (with_reducible exact impl_RiAct.mono _ _ _ _ _ _ _ _ _ _ _ _)
   | (with_reducible exact LeO.refl _)
   | (with_reducible exact LeO.none _)
   | (with_reducible refine LeO.ite ?_ ?_)
   | (with_reducible refine LeO.bind ?_ (fun _ => ?_))
   | exact ih0 _ _ _ _ _ _ _ _ _ _ _ _ _ _ _ _
   | exact ih1 _ _ _ _ _ _ _ _ _ _ _
   | exact ih2 _ _ _ _ _ _ _ _ _ _ _ _
   | exact ih3 _ _ _ _ _ _ _ _ _ _ _ _ _
   | exact impl_RiAct.mono _ _ _ _ _ _ _ _ _ _ _ _
   | exact LeO.none _
   | refine LeO.ite ?_ ?_
   | refine LeO.bind ?_ (fun _ => ?_)
  ·intro y0 y1 y2 y3 y4 y5 y6 y7 y8 y9 y10 y11 y12
   unfold impl_RiStep.j2
   repeat' first
   | (with_reducible exact ih0 _ _ _ _ _ _ _ _ _ _ _ _ _ _ _ _)
   | (with_reducible exact ih1 _ _ _ _ _ _ _ _ _ _ _)
   | (with_reducible exact ih2 _ _ _ _ _ _ _ _ _ _ _ _)
   | (with_reducible exact ih3 _ _ _ _ _ _ _ _ _ _ _ _ _)
   | (with_reducible exact impl_RiAct.mono _ _ _ _ _ _ _ _ _ _ _ _)
   | (with_reducible exact LeO.refl _)
   | (with_reducible exact LeO.none _)
   | (with_reducible refine LeO.ite ?_ ?_)
   | (with_reducible refine LeO.bind ?_ (fun _ => ?_))
   | exact ih0 _ _ _ _ _ _ _ _ _ _ _ _ _ _ _ _
   | exact ih1 _ _ _ _ _ _ _ _ _ _ _
   | exact ih2 _ _ _ _ _ _ _ _ _ _ _ _
   | exact ih3 _ _ _ _ _ _ _ _ _ _ _ _ _
   | exact impl_RiAct.mono _ _ _ _ _ _ _ _ _ _ _ _
   | exact LeO.none _
   | refine LeO.ite ?_ ?_
   | refine LeO.bind ?_ (fun _ => ?_)
theorem impl_RiStep.mono : ∀ a0 a1 a2 a3 a4 a5 a6 a7 a8 a9 a10 a11 k, LeO (impl_RiStep.f k a0 a1 a2 a3 a4 a5 a6 a7 a8 a9 a10 a11) (impl_RiStep.f (k + 1) a0 a1 a2 a3 a4 a5 a6 a7 a8 a9 a10 a11) := by
 intro a0 a1 a2 a3 a4 a5 a6 a7 a8 a9 a10 a11 k
 obtain ⟨ih0, ih1, ih2, ih3⟩ := impl_RiStep.mono_l k
 unfold impl_RiStep.f
 repeat' first
   | (with_reducible exact ih0 _ _ _ _ _ _ _ _ _ _ _ _ _ _ _ _)
   | (with_reducible exact ih1 _ _ _ _ _ _ _ _ _ _ _)
   | (with_reducible exact ih2 _ _ _ _ _ _ _ _ _ _ _ _)
   | (with_reducible exact ih3 _ _ _ _ _ _ _ _ _ _ _ _ _)
   | (with_reducible exact impl_RiAct.mono _ _ _ _ _ _ _ _ _ _ _ _)
   | (with_reducible exact LeO.refl _)
   | (with_reducible exact LeO.none _)
   | (with_reducible refine LeO.ite ?_ ?_)
   | (with_reducible refine LeO.bind ?_ (fun _ => ?_))
   | exact ih0 _ _ _ _ _ _ _ _ _ _ _ _ _ _ _ _
   | exact ih1 _ _ _ _ _ _ _ _ _ _ _
   | exact ih2 _ _ _ _ _ _ _ _ _ _ _ _
   | exact ih3 _ _ _ _ _ _ _ _ _ _ _ _ _
   | exact impl_RiAct.mono _ _ _ _ _ _ _ _ _ _ _ _
   | exact LeO.none _
   | refine LeO.ite ?_ ?_
   | refine LeO.bind ?_ (fun _ => ?_)
set_option maxHeartbeats 8000000 in
set_option maxRecDepth 100000 in
theorem impl_RiStep.calls (k : Nat) (a0 : Int) (nB : Option Addr) (oB : Nat) (ZA : List Int) (iA : Int) (uA : Int) (vA : Int) (gA : Int) (qA : Int) (NA : Int) (wA : Int) (xA : Int) (AA : Int) (yA : Bool) (r1 : List Int) (r2 : Int) (r3 : Int) (r4 : Int) (r5 : Int) (r6 : Int) (r7 : Int) (r8 : Int) (r9 : Int) (r10 : Int) (r11 : Bool) (r12 : Bool) (w : World) (CH : Kd.C (Kd.int .i64) w nB ZA.length ZA) (DH : ZA.length ≤ oB) (h : impl_RiStep.f k a0 ZA iA uA vA gA qA NA wA xA AA yA = some (r1, r2, r3, r4, r5, r6, r7, r8, r9, r10, r11, r12)) :
  Calls Try.prog 43 #[.int .i64 a0, .agg #[.slice nB ZA.length oB], .agg #[.int .i64 iA, .int .i64 uA, .int .i64 vA, .int .i64 gA, .int .i64 qA, .int .i64 NA, .int .i64 wA, .int .i64 xA, .int .i64 AA, .bool yA]] w fun e w' => ∃ v0_ : Value, e = .returned (.tuple #[.agg #[v0_], .agg #[.int .i64 r2, .int .i64 r3, .int .i64 r4, .int .i64 r5, .int .i64 r6, .int .i64 r7, .int .i64 r8, .int .i64 r9, .int .i64 r10, .bool r11], .bool r12]) ∧ Kd.R (Kd.int .i64) 3 w' w.heap.size (fun _ => True) v0_ r1 ∧ Below w.heap.size w w' := by
 have hu29 := Try.underlying29
 have hu23 := Try.underlying23
 have hu37 := Try.underlying37
 have EH := Aside0.mk CH
 have FH := Aside0.mk DH
 clear CH DH
 have HB := Aside0.mk (Below.refl w.heap.size w)
 have H : ((impl_RiAct.f k a0 iA uA vA gA qA NA wA xA AA yA).bind fun fB => (if fB.2.2.2.2 = true then (impl_RiStep.j0 k ((ZA.length : Int) != (wrap64 (2 + (wrap64 (2 * a0))))) ZA iA uA vA gA qA NA wA xA AA yA fB.1 fB.2.1 fB.2.2.1 fB.2.2.2.1) else (impl_RiStep.j0 k true ZA iA uA vA gA qA NA wA xA AA yA fB.1 fB.2.1 fB.2.2.1 fB.2.2.2.1))) = some (r1, r2, r3, r4, r5, r6, r7, r8, r9, r10, r11, r12) := h
 clear h
 replace H := Option.bind_eq_some_iff.mp H
 obtain ⟨⟨lB, qB, sB, xB, IH⟩, A40, H⟩ := H
 (try dsimp only at H)
 have A4 := Aside0.mk A40
 clear A40
 have HC5 := Aside0.mk H
 clear H
 go_enter Try.func43, Try.ntmps43
 go_upto_region 2 with (first | ((with_reducible refine gate_dst (N := 4) rfl ?_); (try (refine gate_guard (by rfl) ?_; dsimp only)); refine box_event ?hg (N := 4) ?hd (cs := #[.slice nB ZA.length oB]) (t := 29) ?hr ?_; (case hd => rfl); (case hg => rfl); (case hr => first | (go_simp; done) | (go_simp; rfl)); intro JA hg w6 hbox hb; have CB := Aside0.mk (below_step q4_45 hb); have DB := Aside0.mk (hbox); have EB := Aside0.mk ((by rw [hg]; exact (below_size q4_45) : w.heap.size ≤ JA)); have FB := Aside0.mk ((by rw [hg]; exact (below_size q4_45) : w.heap.size ≤ JA)); clear HB; have HB := CB; have oA := DB; have TK := EB; have IC := FB; clear CB DB EB FB; clear hb hbox hg) | ((with_reducible refine gate_dst (N := 5) rfl ?_); (try (refine gate_guard (by rfl) ?_; dsimp only)); refine box_event ?hg (N := 5) ?hd (cs := #[.int .i64 iA, .int .i64 uA, .int .i64 vA, .int .i64 gA, .int .i64 qA, .int .i64 NA, .int .i64 wA, .int .i64 xA, .int .i64 AA, .bool yA]) (t := 23) ?hr ?_; (case hd => rfl); (case hg => rfl); (case hr => first | (go_simp; done) | (go_simp; rfl)); intro dA hg w7 hbox hb; have CB := Aside0.mk (blk_below (g := JA) (o := .cells #[.slice nB ZA.length oB] 29 (0, 0)) q4_2 hb); have DB := Aside0.mk (below_step q4_38 hb); have EB := Aside0.mk (hbox); have FB := Aside0.mk ((by rw [hg]; exact (below_size q4_38) : w.heap.size ≤ dA)); have OB := Aside0.mk ((by rw [hg]; exact (below_size q4_38) : w.heap.size ≤ dA)); have RB := Aside0.mk ((q4_29 : JA ≠ dA)); have SB := Aside0.mk ((q4_30 : dA ≠ JA)); clear oA HB; have oA := CB; have HB := DB; have bA := EB; have UK := FB; have ZB := OB; have nA := RB; have DA := SB; clear CB DB EB FB OB RB SB; clear hb hbox hg) | ((with_reducible refine gate_dst (N := 6) rfl ?_); (try (refine gate_guard (by rfl) ?_; dsimp only)); refine box_event ?hg (N := 6) ?hd (cs := #[.slice none 0 0]) (t := 29) ?hr ?_; (case hd => rfl); (case hg => rfl); (case hr => first | (go_simp; done) | (go_simp; rfl)); intro kA hg w8 hbox hb; have CB := Aside0.mk (blk_below (g := JA) (o := .cells #[.slice nB ZA.length oB] 29 (0, 0)) q4_2 hb); have DB := Aside0.mk (blk_below (g := dA) (o := .cells #[.int .i64 iA, .int .i64 uA, .int .i64 vA, .int .i64 gA, .int .i64 qA, .int .i64 NA, .int .i64 wA, .int .i64 xA, .int .i64 AA, .bool yA] 23 (0, 0)) q4_3 hb); have EB := Aside0.mk (below_step q4_37 hb); have FB := Aside0.mk (hbox); have OB := Aside0.mk ((by rw [hg]; exact (below_size q4_37) : w.heap.size ≤ kA)); have RB := Aside0.mk ((by rw [hg]; exact (below_size q4_37) : w.heap.size ≤ kA)); have SB := Aside0.mk ((q4_29 : JA ≠ kA)); have aC := Aside0.mk ((q4_30 : kA ≠ JA)); have eF := Aside0.mk ((q4_19 : dA ≠ kA)); have fF := Aside0.mk ((q4_20 : kA ≠ dA)); clear oA bA HB; have oA := CB; have bA := DB; have HB := EB; have pA := FB; have VK := OB; have ZE := RB; have GB := SB; have IB := aC; have fA := eF; have lA := fF; clear CB DB EB FB OB RB SB aC eF fF; clear hb hbox hg) | ((with_reducible refine gate_dst (N := 7) rfl ?_); (try (refine gate_guard (by rfl) ?_; dsimp only)); refine box_event ?hg (N := 7) ?hd (cs := #[.int .i64 0, .int .i64 0, .int .i64 0, .int .i64 0, .int .i64 0, .int .i64 0, .int .i64 0, .int .i64 0, .int .i64 0, .bool false]) (t := 23) ?hr ?_; (case hd => rfl); (case hg => rfl); (case hr => first | (go_simp; done) | (go_simp; rfl)); intro cA hg w9 hbox hb; have CB := Aside0.mk (blk_below (g := JA) (o := .cells #[.slice nB ZA.length oB] 29 (0, 0)) q4_2 hb); have DB := Aside0.mk (blk_below (g := dA) (o := .cells #[.int .i64 iA, .int .i64 uA, .int .i64 vA, .int .i64 gA, .int .i64 qA, .int .i64 NA, .int .i64 wA, .int .i64 xA, .int .i64 AA, .bool yA] 23 (0, 0)) q4_3 hb); have EB := Aside0.mk (blk_below (g := kA) (o := .cells #[.slice none 0 0] 29 (0, 0)) q4_4 hb); have FB := Aside0.mk (below_step q4_32 hb); have OB := Aside0.mk (hbox); have RB := Aside0.mk ((by rw [hg]; exact (below_size q4_32) : w.heap.size ≤ cA)); have SB := Aside0.mk ((by rw [hg]; exact (below_size q4_32) : w.heap.size ≤ cA)); have aC := Aside0.mk ((q4_29 : JA ≠ cA)); have eF := Aside0.mk ((q4_30 : cA ≠ JA)); have fF := Aside0.mk ((q4_19 : dA ≠ cA)); have JC := Aside0.mk ((q4_20 : cA ≠ dA)); have KC := Aside0.mk ((q4_39 : kA ≠ cA)); have LC := Aside0.mk ((q4_40 : cA ≠ kA)); clear oA bA pA HB; have oA := CB; have bA := DB; have pA := EB; have HB := FB; have eA := OB; have WK := RB; have dF := SB; have JB := aC; have KB := eF; have aA := fF; have mA := JC; have AB := KC; have wB := LC; clear CB DB EB FB OB RB SB aC eF fF JC KC LC; clear hb hbox hg; have XK := DA.out; have YK := nA.out; have ZK := fA.out; have aL := lA.out; have bL := aA.out; have cL := mA.out; have eC : w9.cell? ⟨dA, 0, none⟩ = some (.int .i64 iA) := (blk_cell bA.out 0).trans rfl; have fC : w9.cell? ⟨dA, 1, none⟩ = some (.int .i64 uA) := (blk_cell bA.out 1).trans rfl; have gC : w9.cell? ⟨dA, 2, none⟩ = some (.int .i64 vA) := (blk_cell bA.out 2).trans rfl; have hC : w9.cell? ⟨dA, 3, none⟩ = some (.int .i64 gA) := (blk_cell bA.out 3).trans rfl; have iC : w9.cell? ⟨dA, 4, none⟩ = some (.int .i64 qA) := (blk_cell bA.out 4).trans rfl; have jC : w9.cell? ⟨dA, 5, none⟩ = some (.int .i64 NA) := (blk_cell bA.out 5).trans rfl; have kC : w9.cell? ⟨dA, 6, none⟩ = some (.int .i64 wA) := (blk_cell bA.out 6).trans rfl; have lC : w9.cell? ⟨dA, 7, none⟩ = some (.int .i64 xA) := (blk_cell bA.out 7).trans rfl; have mC : w9.cell? ⟨dA, 8, none⟩ = some (.int .i64 AA) := (blk_cell bA.out 8).trans rfl; have nC : w9.cell? ⟨dA, 9, none⟩ = some (.bool yA) := (blk_cell bA.out 9).trans rfl; have oC := blk_frozen bA.out 0; have pC := blk_frozen bA.out 1; have qC := blk_frozen bA.out 2; have rC := blk_frozen bA.out 3; have sC := blk_frozen bA.out 4; have tC := blk_frozen bA.out 5; have uC := blk_frozen bA.out 6; have vC := blk_frozen bA.out 7; have wC := blk_frozen bA.out 8; have xC := blk_frozen bA.out 9) | ((with_reducible refine gate_callee (f := 41) rfl ?_); refine goesL_ (some 19) rfl rfl Try.func41 (by kernel_rfl) rfl #[.int .i64 a0, .agg #[.int .i64 iA, .int .i64 uA, .int .i64 vA, .int .i64 gA, .int .i64 qA, .int .i64 NA, .int .i64 wA, .int .i64 xA, .int .i64 AA, .bool yA]] rfl q4_26 ?_; (with_reducible refine (impl_RiAct.calls k a0 iA uA vA gA qA NA wA xA AA yA lB qB sB xB IH _ A4.out).mono ?_); rintro e sN ⟨rfl, hb⟩; refine ⟨_, rfl, ?_⟩; have CB := Aside0.mk (blk_below (g := JA) (o := .cells #[.slice nB ZA.length oB] 29 (0, 0)) q4_2 hb); have DB := Aside0.mk (blk_below (g := dA) (o := .cells #[.int .i64 iA, .int .i64 uA, .int .i64 vA, .int .i64 gA, .int .i64 qA, .int .i64 NA, .int .i64 wA, .int .i64 xA, .int .i64 AA, .bool yA] 23 (0, 0)) q4_3 hb); have EB := Aside0.mk (blk_below (g := kA) (o := .cells #[.slice none 0 0] 29 (0, 0)) q4_4 hb); have FB := Aside0.mk (blk_below (g := cA) (o := .cells #[.int .i64 0, .int .i64 0, .int .i64 0, .int .i64 0, .int .i64 0, .int .i64 0, .int .i64 0, .int .i64 0, .int .i64 0, .bool false] 23 (0, 0)) q4_5 hb); have OB := Aside0.mk (below_step q4_24 hb); clear oA bA pA eA HB; have oA := CB; have bA := DB; have pA := EB; have eA := FB; have HB := OB; clear CB DB EB FB OB; (try clear hb); (try clear hb2); (try clear hk); (try clear hi)) | ((with_reducible refine gate_dst (N := 9) rfl ?_); (try (refine gate_guard (by rfl) ?_; dsimp only)); refine box_event ?hg (N := 9) ?hd (cs := #[.int .i64 0, .int .i64 0, .int .i64 0, .int .i64 0]) (t := 37) ?hr ?_; (case hd => rfl); (case hg => rfl); (case hr => first | (go_simp; done) | (go_simp; rfl)); intro zA hg JH hbox hb; have CB := Aside0.mk (blk_below (g := JA) (o := .cells #[.slice nB ZA.length oB] 29 (0, 0)) q4_2 hb); have DB := Aside0.mk (blk_below (g := dA) (o := .cells #[.int .i64 iA, .int .i64 uA, .int .i64 vA, .int .i64 gA, .int .i64 qA, .int .i64 NA, .int .i64 wA, .int .i64 xA, .int .i64 AA, .bool yA] 23 (0, 0)) q4_3 hb); have EB := Aside0.mk (blk_below (g := kA) (o := .cells #[.slice none 0 0] 29 (0, 0)) q4_4 hb); have FB := Aside0.mk (blk_below (g := cA) (o := .cells #[.int .i64 0, .int .i64 0, .int .i64 0, .int .i64 0, .int .i64 0, .int .i64 0, .int .i64 0, .int .i64 0, .int .i64 0, .bool false] 23 (0, 0)) q4_5 hb); have OB := Aside0.mk (below_step q4_24 hb); have RB := Aside0.mk (hbox); have SB := Aside0.mk ((by rw [hg]; exact (below_size q4_24) : w.heap.size ≤ zA)); have aC := Aside0.mk ((by rw [hg]; exact (below_size q4_24) : w.heap.size ≤ zA)); have eF := Aside0.mk ((q4_29 : JA ≠ zA)); have fF := Aside0.mk ((q4_30 : zA ≠ JA)); have JC := Aside0.mk ((q4_19 : dA ≠ zA)); have KC := Aside0.mk ((q4_20 : zA ≠ dA)); have LC := Aside0.mk ((q4_39 : kA ≠ zA)); have aF := Aside0.mk ((q4_40 : zA ≠ kA)); have bF := Aside0.mk ((q4_34 : cA ≠ zA)); have cF := Aside0.mk ((q4_35 : zA ≠ cA)); clear oA bA pA eA HB; have oA := CB; have bA := DB; have pA := EB; have eA := FB; have HB := OB; have hA := RB; have dL := SB; have FF := aC; have BB := eF; have TB := fF; have EA := JC; have tA := KC; have uB := LC; have LB := aF; have vB := bF; have MB := cF; clear CB DB EB FB OB RB SB aC eF fF JC KC LC aF bF cF; clear hb hbox hg; have eL := TB.out; have fL := BB.out; have gL := tA.out; have hL := EA.out; have iL := LB.out; have jL := uB.out; have kL := MB.out; have lL := vB.out; have yC : JH.cell? ⟨zA, 0, none⟩ = some (.int .i64 0) := (blk_cell hA.out 0).trans rfl; have zC : JH.cell? ⟨zA, 1, none⟩ = some (.int .i64 0) := (blk_cell hA.out 1).trans rfl; have AC : JH.cell? ⟨zA, 2, none⟩ = some (.int .i64 0) := (blk_cell hA.out 2).trans rfl; have BC : JH.cell? ⟨zA, 3, none⟩ = some (.int .i64 0) := (blk_cell hA.out 3).trans rfl; have CC := blk_frozen hA.out 0; have DC := blk_frozen hA.out 1; have EC := blk_frozen hA.out 2; have FC := blk_frozen hA.out 3))
 (try simp only [Act.put, List.setIfInBounds_toArray, List.set_cons_zero, List.set_cons_succ])
 go_cut [32] (fun v32 wc => ∃ (kq : Nat) (gF : Bool), v32 = .bool gF ∧ Aside0 (impl_RiStep.j0 kq gF ZA iA uA vA gA qA NA wA xA AA yA lB qB sB xB = some (r1, r2, r3, r4, r5, r6, r7, r8, r9, r10, r11, r12)) ∧ Aside0 (kq ≤ k) ∧ Aside0 (wc.heap[JA]? = some (.cells #[(.slice nB ZA.length oB)] 29 (0, 0))) ∧ Aside0 (wc.heap[dA]? = some (.cells #[.int .i64 iA, .int .i64 uA, .int .i64 vA, .int .i64 gA, .int .i64 qA, .int .i64 NA, .int .i64 wA, .int .i64 xA, .int .i64 AA, .bool yA] 23 (0, 0))) ∧ Aside0 (wc.heap[kA]? = some (.cells #[(.slice none 0 0)] 29 (0, 0))) ∧ Aside0 (wc.heap[cA]? = some (.cells #[.int .i64 0, .int .i64 0, .int .i64 0, .int .i64 0, .int .i64 0, .int .i64 0, .int .i64 0, .int .i64 0, .int .i64 0, .bool false] 23 (0, 0))) ∧ Aside0 (wc.heap[zA]? = some (.cells #[.int .i64 lB, .int .i64 qB, .int .i64 sB, .int .i64 xB] 37 (0, 0))) ∧ Aside0 (Below w.heap.size w wc))
 case first =>
  have H := HC5.out
  clear HC5
  by_cases c21 : IH = true
  ·subst c21
   rw [if_pos rfl] at H
   have H' := Aside0.mk H
   clear H
   have mL := nA.out
   have nL := DA.out
   have oL := GB.out
   have pL := IB.out
   have qL := JB.out
   have rL := KB.out
   have sL := BB.out
   have tL := TB.out
   have GC : JH.cell? ⟨JA, 0, none⟩ = some (.slice nB ZA.length oB) := (blk_cell oA.out 0).trans rfl
   have HC := blk_frozen oA.out 0
   go_wp2
   go_meet
   case rel => exact ⟨_, (((ZA.length : Int) != (wrap64 (2 + (wrap64 (2 * a0)))))), q4_47, H', ⟨by first | omega | exact Nat.le_refl _⟩, ⟨q4_41⟩, ⟨q4_42⟩, ⟨q4_43⟩, ⟨q4_44⟩, ⟨q4_21⟩, ⟨q4_1⟩⟩
  ·replace c21 := Bool.eq_false_iff.mpr c21
   subst c21
   rw [if_neg (show ¬ (false = true) by decide)] at H
   have H' := Aside0.mk H
   clear H
   go_wp2
   go_meet
   case rel => exact ⟨_, (true), q4_47, H', ⟨by first | omega | exact Nat.le_refl _⟩, ⟨q4_41⟩, ⟨q4_42⟩, ⟨q4_43⟩, ⟨q4_44⟩, ⟨q4_21⟩, ⟨q4_1⟩⟩
 case rest =>
  clear HC5
  (try clear c1); (try clear c2); (try clear p2); (try clear c4); (try clear p6); (try clear c10); (try clear c11); (try clear c12); (try clear c16); (try clear c17); (try clear c18); (try clear c19); (try clear c21); (try clear c22); (try clear c23); (try clear c24); (try clear c25); (try clear eC); (try clear fC); (try clear gC); (try clear hC); (try clear iC); (try clear jC); (try clear kC); (try clear lC); (try clear mC); (try clear nC); (try clear yC); (try clear zC); (try clear AC); (try clear BC); (try clear GC); (try clear oC); (try clear pC); (try clear qC); (try clear rC); (try clear sC); (try clear tC); (try clear uC); (try clear vC); (try clear wC); (try clear xC); (try clear CC); (try clear DC); (try clear EC); (try clear FC); (try clear HC)
  obtain ⟨kq, gF, rfl, HA, HJ4, oA, bA, pA, eA, hA, HB⟩ := hcut
  cases kq with
  | zero => exact absurd HA.out (by simp [impl_RiStep.j0])
  | succ kj4 =>
   have H := HA.out
   clear HA
   simp only [impl_RiStep.j0] at H
   by_cases c27 : gF = true
   ·subst c27
    rw [if_pos rfl] at H
    simp only [Option.some.injEq, Prod.mk.injEq] at H
    obtain ⟨rfl, rfl, rfl, rfl, rfl, rfl, rfl, rfl, rfl, rfl, rfl, rfl⟩ := H
    have uL := IB.out
    have vL := GB.out
    have wL := lA.out
    have xL := fA.out
    have yL := AB.out
    have zL := wB.out
    have AL := uB.out
    have BL := LB.out
    have OC : wc.cell? ⟨kA, 0, none⟩ = some (.slice none 0 0) := (blk_cell pA.out 0).trans rfl
    have PC := blk_frozen pA.out 0
    have CL := KB.out
    have DL := JB.out
    have EL := mA.out
    have FL := aA.out
    have GL := vB.out
    have HL := MB.out
    have QC : wc.cell? ⟨cA, 0, none⟩ = some (.int .i64 0) := (blk_cell eA.out 0).trans rfl
    have RC : wc.cell? ⟨cA, 1, none⟩ = some (.int .i64 0) := (blk_cell eA.out 1).trans rfl
    have SC : wc.cell? ⟨cA, 2, none⟩ = some (.int .i64 0) := (blk_cell eA.out 2).trans rfl
    have TC : wc.cell? ⟨cA, 3, none⟩ = some (.int .i64 0) := (blk_cell eA.out 3).trans rfl
    have UC : wc.cell? ⟨cA, 4, none⟩ = some (.int .i64 0) := (blk_cell eA.out 4).trans rfl
    have VC : wc.cell? ⟨cA, 5, none⟩ = some (.int .i64 0) := (blk_cell eA.out 5).trans rfl
    have WC : wc.cell? ⟨cA, 6, none⟩ = some (.int .i64 0) := (blk_cell eA.out 6).trans rfl
    have XC : wc.cell? ⟨cA, 7, none⟩ = some (.int .i64 0) := (blk_cell eA.out 7).trans rfl
    have YC : wc.cell? ⟨cA, 8, none⟩ = some (.int .i64 0) := (blk_cell eA.out 8).trans rfl
    have ZC : wc.cell? ⟨cA, 9, none⟩ = some (.bool false) := (blk_cell eA.out 9).trans rfl
    have aD := blk_frozen eA.out 0
    have bD := blk_frozen eA.out 1
    have cD := blk_frozen eA.out 2
    have dD := blk_frozen eA.out 3
    have eD := blk_frozen eA.out 4
    have fD := blk_frozen eA.out 5
    have gD := blk_frozen eA.out 6
    have hD := blk_frozen eA.out 7
    have iD := blk_frozen eA.out 8
    have jD := blk_frozen eA.out 9
    go_wp2
    refine bodyPost_ret (results_list (rs := [.cell 6 29, .cell 7 23, .tmp 8]) rfl (by simp) (.cell kA 29 #[.slice none 0 0] (0, 0) _ rfl q4_33 Try.underlying29 rfl (by kernel_rfl) (.cell cA 23 #[.int .i64 0, .int .i64 0, .int .i64 0, .int .i64 0, .int .i64 0, .int .i64 0, .int .i64 0, .int .i64 0, .int .i64 0, .bool false] (0, 0) _ rfl (by (with_reducible repeat (first | refine blk_drewN ?_ _ | refine blk_drew ?_ | refine blk_alloc ?_ _)); refine blk_put (cs := #[.int .i64 0, .int .i64 0, .int .i64 0, .int .i64 0, .int .i64 0, .int .i64 0, .int .i64 0, .int .i64 0, .int .i64 0, .bool false]) ?_ 9 _ rfl; (with_reducible repeat (first | refine blk_drewN ?_ _ | refine blk_drew ?_ | refine blk_alloc ?_ _)); refine blk_put (cs := #[.int .i64 0, .int .i64 0, .int .i64 0, .int .i64 0, .int .i64 0, .int .i64 0, .int .i64 0, .int .i64 0, .int .i64 0, .bool false]) ?_ 8 _ rfl; (with_reducible repeat (first | refine blk_drewN ?_ _ | refine blk_drew ?_ | refine blk_alloc ?_ _)); refine blk_put (cs := #[.int .i64 0, .int .i64 0, .int .i64 0, .int .i64 0, .int .i64 0, .int .i64 0, .int .i64 0, .int .i64 0, .int .i64 0, .bool false]) ?_ 7 _ rfl; (with_reducible repeat (first | refine blk_drewN ?_ _ | refine blk_drew ?_ | refine blk_alloc ?_ _)); refine blk_put (cs := #[.int .i64 0, .int .i64 0, .int .i64 0, .int .i64 0, .int .i64 0, .int .i64 0, .int .i64 0, .int .i64 0, .int .i64 0, .bool false]) ?_ 6 _ rfl; (with_reducible repeat (first | refine blk_drewN ?_ _ | refine blk_drew ?_ | refine blk_alloc ?_ _)); refine blk_put (cs := #[.int .i64 0, .int .i64 0, .int .i64 0, .int .i64 0, .int .i64 0, .int .i64 0, .int .i64 0, .int .i64 0, .int .i64 0, .bool false]) ?_ 5 _ rfl; (with_reducible repeat (first | refine blk_drewN ?_ _ | refine blk_drew ?_ | refine blk_alloc ?_ _)); refine blk_put (cs := #[.int .i64 0, .int .i64 0, .int .i64 0, .int .i64 0, .int .i64 0, .int .i64 0, .int .i64 0, .int .i64 0, .int .i64 0, .bool false]) ?_ 4 _ rfl; (with_reducible repeat (first | refine blk_drewN ?_ _ | refine blk_drew ?_ | refine blk_alloc ?_ _)); refine blk_put (cs := #[.int .i64 0, .int .i64 0, .int .i64 0, .int .i64 0, .int .i64 0, .int .i64 0, .int .i64 0, .int .i64 0, .int .i64 0, .bool false]) ?_ 3 _ rfl; (with_reducible repeat (first | refine blk_drewN ?_ _ | refine blk_drew ?_ | refine blk_alloc ?_ _)); refine blk_put (cs := #[.int .i64 0, .int .i64 0, .int .i64 0, .int .i64 0, .int .i64 0, .int .i64 0, .int .i64 0, .int .i64 0, .int .i64 0, .bool false]) ?_ 2 _ rfl; (with_reducible repeat (first | refine blk_drewN ?_ _ | refine blk_drew ?_ | refine blk_alloc ?_ _)); refine blk_put (cs := #[.int .i64 0, .int .i64 0, .int .i64 0, .int .i64 0, .int .i64 0, .int .i64 0, .int .i64 0, .int .i64 0, .int .i64 0, .bool false]) ?_ 1 _ rfl; (with_reducible repeat (first | refine blk_drewN ?_ _ | refine blk_drew ?_ | refine blk_alloc ?_ _)); refine blk_put (cs := #[.int .i64 0, .int .i64 0, .int .i64 0, .int .i64 0, .int .i64 0, .int .i64 0, .int .i64 0, .int .i64 0, .int .i64 0, .bool false]) ?_ 0 _ rfl; (with_reducible repeat (first | refine blk_drewN ?_ _ | refine blk_drew ?_ | refine blk_alloc ?_ _)); refine blk_far ?_ wB.out _; (with_reducible repeat (first | refine blk_drewN ?_ _ | refine blk_drew ?_ | refine blk_alloc ?_ _)); exact eA.out) Try.underlying23 rfl (by kernel_rfl) (.tmp .nil)))) rfl ?_
    exact ⟨_, by first | rfl | (simp [errW_none, errW_some] <;> rfl) | (simp [*, errW_none, errW_some] <;> rfl), by first | exact Kd.R_nil _ _ _ _ _ | exact Kd.N_nil _ _ _ _ _ | exact Kd.V_nil _ _ _ _ _ | exact Kd.Q_nil _ _ _ _ _ | exact Kd.S_nil _ _ _ _ _, q4_1⟩
   ·replace c27 := Bool.eq_false_iff.mpr c27
    subst c27
    rw [if_neg (show ¬ (false = true) by decide)] at H
    replace H := Option.bind_eq_some_iff.mp H
    obtain ⟨⟨mB, iB, qJ⟩, A370, H⟩ := H
    (try dsimp only at H)
    have A37 := Aside0.mk A370
    clear A370
    by_cases c38 : qJ = true
    ·subst c38
     rw [if_pos rfl] at H
     have HC39 := Aside0.mk H
     clear H
     have IL := nA.out
     have JL := DA.out
     have KL := GB.out
     have LL := IB.out
     have ML := JB.out
     have NL := KB.out
     have OL := BB.out
     have PL := TB.out
     have kD : wc.cell? ⟨JA, 0, none⟩ = some (.slice nB ZA.length oB) := (blk_cell oA.out 0).trans rfl
     have lD := blk_frozen oA.out 0
     have QL := tA.out
     have RL := EA.out
     have SL := LB.out
     have TL := uB.out
     have UL := MB.out
     have VL := vB.out
     have mD : wc.cell? ⟨zA, 0, none⟩ = some (.int .i64 lB) := (blk_cell hA.out 0).trans rfl
     have nD : wc.cell? ⟨zA, 1, none⟩ = some (.int .i64 qB) := (blk_cell hA.out 1).trans rfl
     have oD : wc.cell? ⟨zA, 2, none⟩ = some (.int .i64 sB) := (blk_cell hA.out 2).trans rfl
     have pD : wc.cell? ⟨zA, 3, none⟩ = some (.int .i64 xB) := (blk_cell hA.out 3).trans rfl
     have qD := blk_frozen hA.out 0
     have rD := blk_frozen hA.out 1
     have sD := blk_frozen hA.out 2
     have tD := blk_frozen hA.out 3
     go_upto_block 0 with (first | ((with_reducible refine gate_callee (f := 68) rfl ?_); refine goesL_ (some 38) rfl rfl Try.func68 (by kernel_rfl) rfl #[.agg #[.slice nB ZA.length oB], .agg #[.int .i64 lB, .int .i64 qB, .int .i64 sB, .int .i64 xB]] rfl q4_26 ?_; (with_reducible refine (impl_Do.calls _ _ ZA lB qB sB xB mB iB true _ ?side1 ?side2 A37.out).mono ?_); (case side1 => repeat (first | exact (Kd.C_below EH.out HB.out) | (with_reducible refine Kd.C_alloc ?_ _) | (with_reducible refine Kd.C_drewN ?_ _) | (with_reducible refine Kd.C_drew ?_))); (case side2 => exact FH.out); rintro e tN ⟨rJ, rfl, ho0, hb⟩; refine ⟨_, rfl, ?_⟩; have CB := Aside0.mk (Kd.R_lower ho0 (below_size q4_1)); have DB := Aside0.mk (blk_below (g := JA) (o := .cells #[.slice nB ZA.length oB] 29 (0, 0)) q4_2 hb); have EB := Aside0.mk (blk_below (g := dA) (o := .cells #[.int .i64 iA, .int .i64 uA, .int .i64 vA, .int .i64 gA, .int .i64 qA, .int .i64 NA, .int .i64 wA, .int .i64 xA, .int .i64 AA, .bool yA] 23 (0, 0)) q4_3 hb); have FB := Aside0.mk (blk_below (g := kA) (o := .cells #[.slice none 0 0] 29 (0, 0)) q4_4 hb); have OB := Aside0.mk (blk_below (g := cA) (o := .cells #[.int .i64 0, .int .i64 0, .int .i64 0, .int .i64 0, .int .i64 0, .int .i64 0, .int .i64 0, .int .i64 0, .int .i64 0, .bool false] 23 (0, 0)) q4_5 hb); have RB := Aside0.mk (blk_below (g := zA) (o := .cells #[.int .i64 lB, .int .i64 qB, .int .i64 sB, .int .i64 xB] 37 (0, 0)) q4_6 hb); have SB := Aside0.mk (below_step q4_1 hb); clear oA bA pA eA hA HB; have rB := CB; have oA := DB; have bA := EB; have pA := FB; have eA := OB; have hA := RB; have HB := SB; clear CB DB EB FB OB RB SB; (try clear hb); (try clear hb2); (try clear hk); (try clear hi); (try clear ho0)) | ((with_reducible refine gate_dst (N := 11) rfl ?_); (try (refine gate_guard (by rfl) ?_; dsimp only)); refine box_event ?hg (N := 11) ?hd (cs := #[.slice none 0 0]) (t := 29) ?hr ?_; (case hd => rfl); (case hg => rfl); (case hr => first | (go_simp; done) | (go_simp; rfl)); intro BA hg cB hbox hb; have CB := Aside0.mk (Kd.R_below q4_48 hb); have DB := Aside0.mk (blk_below (g := JA) (o := .cells #[.slice nB ZA.length oB] 29 (0, 0)) q4_2 hb); have EB := Aside0.mk (blk_below (g := dA) (o := .cells #[.int .i64 iA, .int .i64 uA, .int .i64 vA, .int .i64 gA, .int .i64 qA, .int .i64 NA, .int .i64 wA, .int .i64 xA, .int .i64 AA, .bool yA] 23 (0, 0)) q4_3 hb); have FB := Aside0.mk (blk_below (g := kA) (o := .cells #[.slice none 0 0] 29 (0, 0)) q4_4 hb); have OB := Aside0.mk (blk_below (g := cA) (o := .cells #[.int .i64 0, .int .i64 0, .int .i64 0, .int .i64 0, .int .i64 0, .int .i64 0, .int .i64 0, .int .i64 0, .int .i64 0, .bool false] 23 (0, 0)) q4_5 hb); have RB := Aside0.mk (blk_below (g := zA) (o := .cells #[.int .i64 lB, .int .i64 qB, .int .i64 sB, .int .i64 xB] 37 (0, 0)) q4_6 hb); have SB := Aside0.mk (below_step q4_1 hb); have aC := Aside0.mk (hbox); have eF := Aside0.mk ((by rw [hg]; exact (below_size q4_1) : w.heap.size ≤ BA)); have fF := Aside0.mk ((by rw [hg]; exact (below_size q4_1) : w.heap.size ≤ BA)); have JC := Aside0.mk ((q4_29 : JA ≠ BA)); have KC := Aside0.mk ((q4_30 : BA ≠ JA)); have LC := Aside0.mk ((q4_19 : dA ≠ BA)); have aF := Aside0.mk ((q4_20 : BA ≠ dA)); have bF := Aside0.mk ((q4_39 : kA ≠ BA)); have cF := Aside0.mk ((q4_40 : BA ≠ kA)); have HF := Aside0.mk ((q4_34 : cA ≠ BA)); have IF := Aside0.mk ((q4_35 : BA ≠ cA)); have JF := Aside0.mk ((by rw [hg]; exact Nat.ne_of_lt (blk_lt (g := zA) (o := .cells #[.int .i64 lB, .int .i64 qB, .int .i64 sB, .int .i64 xB] 37 (0, 0)) q4_6) : zA ≠ BA)); have KF := Aside0.mk ((by rw [hg]; exact Nat.ne_of_gt (blk_lt (g := zA) (o := .cells #[.int .i64 lB, .int .i64 qB, .int .i64 sB, .int .i64 xB] 37 (0, 0)) q4_6) : BA ≠ zA)); clear rB oA bA pA eA hA HB; have rB := CB; have oA := DB; have bA := EB; have pA := FB; have eA := OB; have hA := RB; have HB := SB; have WA := aC; have KH := eF; have GF := fF; have yB := JC; have XB := KC; have jA := LC; have sA := aF; have gB := bF; have NB := cF; have hB := HF; have LA := IF; have zB := JF; have YB := KF; clear CB DB EB FB OB RB SB aC eF fF JC KC LC aF bF cF HF IF JF KF; clear hb hbox hg; obtain ⟨PB, QB, sJ⟩ := Kd.R_slice rB.out; subst sJ; have WL := XB.out; have XL := yB.out; have YL := sA.out; have ZL := jA.out; have aM := NB.out; have bM := gB.out; have cM := LA.out; have dM := hB.out; have eM := YB.out; have fM := zB.out; have uD : cB.cell? ⟨BA, 0, none⟩ = some (.slice none 0 0) := (blk_cell WA.out 0).trans rfl; have vD := blk_frozen WA.out 0; have gM := fA.out; have hM := lA.out; have iM := aA.out; have jM := mA.out; have wD : cB.cell? ⟨dA, 0, none⟩ = some (.int .i64 iA) := (blk_cell bA.out 0).trans rfl; have xD : cB.cell? ⟨dA, 1, none⟩ = some (.int .i64 uA) := (blk_cell bA.out 1).trans rfl; have yD : cB.cell? ⟨dA, 2, none⟩ = some (.int .i64 vA) := (blk_cell bA.out 2).trans rfl; have zD : cB.cell? ⟨dA, 3, none⟩ = some (.int .i64 gA) := (blk_cell bA.out 3).trans rfl; have AD : cB.cell? ⟨dA, 4, none⟩ = some (.int .i64 qA) := (blk_cell bA.out 4).trans rfl; have BD : cB.cell? ⟨dA, 5, none⟩ = some (.int .i64 NA) := (blk_cell bA.out 5).trans rfl; have CD : cB.cell? ⟨dA, 6, none⟩ = some (.int .i64 wA) := (blk_cell bA.out 6).trans rfl; have DD : cB.cell? ⟨dA, 7, none⟩ = some (.int .i64 xA) := (blk_cell bA.out 7).trans rfl; have ED : cB.cell? ⟨dA, 8, none⟩ = some (.int .i64 AA) := (blk_cell bA.out 8).trans rfl; have FD : cB.cell? ⟨dA, 9, none⟩ = some (.bool yA) := (blk_cell bA.out 9).trans rfl; have GD := blk_frozen bA.out 0; have HD := blk_frozen bA.out 1; have ID := blk_frozen bA.out 2; have JD := blk_frozen bA.out 3; have KD := blk_frozen bA.out 4; have LD := blk_frozen bA.out 5; have MD := blk_frozen bA.out 6; have ND := blk_frozen bA.out 7; have OD := blk_frozen bA.out 8; have PD := blk_frozen bA.out 9))
     (try simp only [Act.put, List.setIfInBounds_toArray, List.set_cons_zero, List.set_cons_succ])
     go_cut [] (fun wc => ∃ (kq : Nat) (rA : Int) (CA : Int) (IA : Int) (MA : Int) (UA : Int) (YA : Int) (aB : Int) (dB : Int) (eB : Int) (jB : Bool), Aside0 (impl_RiStep.j3 kq rA CA IA MA UA YA aB dB eB jB mB = some (r1, r2, r3, r4, r5, r6, r7, r8, r9, r10, r11, r12)) ∧ Aside0 (kq ≤ kj4) ∧ Aside0 (Kd.R (Kd.int .i64) 3 wc w.heap.size (fun _ => True) (.slice PB mB.length QB) mB) ∧ Aside0 (wc.heap[JA]? = some (.cells #[(.slice nB ZA.length oB)] 29 (0, 0))) ∧ Aside0 (wc.heap[dA]? = some (.cells #[.int .i64 rA, .int .i64 CA, .int .i64 IA, .int .i64 MA, .int .i64 UA, .int .i64 YA, .int .i64 aB, .int .i64 dB, .int .i64 eB, .bool jB] 23 (0, 0))) ∧ Aside0 (wc.heap[kA]? = some (.cells #[(.slice none 0 0)] 29 (0, 0))) ∧ Aside0 (wc.heap[cA]? = some (.cells #[.int .i64 0, .int .i64 0, .int .i64 0, .int .i64 0, .int .i64 0, .int .i64 0, .int .i64 0, .int .i64 0, .int .i64 0, .bool false] 23 (0, 0))) ∧ Aside0 (wc.heap[zA]? = some (.cells #[.int .i64 lB, .int .i64 qB, .int .i64 sB, .int .i64 xB] 37 (0, 0))) ∧ Aside0 (wc.heap[BA]? = some (.cells #[(.slice PB mB.length QB)] 29 (0, 0))) ∧ Aside0 (Below w.heap.size w wc))
     case first =>
      have H := HC39.out
      clear HC39
      by_cases c61 : gA = 0
      ·rw [if_pos c61] at H
       have bC : (gA == 0) = true := beq_iff_eq.mpr c61
       have hF : (gA != 0) = false := bne_eq_false_iff_eq.mpr c61
       clear c61
       (first | rw [bC] | (simp only [i64_w, i32_w]; rw [bC]) | skip)
       have H' := Aside0.mk H
       clear H
       have kM := DA.out
       have lM := nA.out
       have mM := fA.out
       have nM := lA.out
       have oM := aA.out
       have pM := mA.out
       have qM := EA.out
       have rM := tA.out
       have sM := jA.out
       have tM := sA.out
       have QD : cB.cell? ⟨dA, 0, none⟩ = some (.int .i64 iA) := (blk_cell bA.out 0).trans rfl
       have RD : cB.cell? ⟨dA, 1, none⟩ = some (.int .i64 uA) := (blk_cell bA.out 1).trans rfl
       have SD : cB.cell? ⟨dA, 2, none⟩ = some (.int .i64 vA) := (blk_cell bA.out 2).trans rfl
       have TD : cB.cell? ⟨dA, 3, none⟩ = some (.int .i64 gA) := (blk_cell bA.out 3).trans rfl
       have UD : cB.cell? ⟨dA, 4, none⟩ = some (.int .i64 qA) := (blk_cell bA.out 4).trans rfl
       have VD : cB.cell? ⟨dA, 5, none⟩ = some (.int .i64 NA) := (blk_cell bA.out 5).trans rfl
       have WD : cB.cell? ⟨dA, 6, none⟩ = some (.int .i64 wA) := (blk_cell bA.out 6).trans rfl
       have XD : cB.cell? ⟨dA, 7, none⟩ = some (.int .i64 xA) := (blk_cell bA.out 7).trans rfl
       have YD : cB.cell? ⟨dA, 8, none⟩ = some (.int .i64 AA) := (blk_cell bA.out 8).trans rfl
       have ZD : cB.cell? ⟨dA, 9, none⟩ = some (.bool yA) := (blk_cell bA.out 9).trans rfl
       have aE := blk_frozen bA.out 0
       have bE := blk_frozen bA.out 1
       have cE := blk_frozen bA.out 2
       have dE := blk_frozen bA.out 3
       have eE := blk_frozen bA.out 4
       have fE := blk_frozen bA.out 5
       have gE := blk_frozen bA.out 6
       have hE := blk_frozen bA.out 7
       have iE := blk_frozen bA.out 8
       have jE := blk_frozen bA.out 9
       go_wp2
       go_meet
       case rel => exact ⟨_, (iA), (uA), (vA), (wrap64 (gA + 1)), (iB), (NA), (wA), (xA), (AA), (yA), H', ⟨q4_36⟩, ⟨by (with_reducible repeat (first | apply Kd.R_alloc | apply Kd.R_drewN | apply Kd.R_drew)); exact Kd.R_mono (Kd.R_far (p := ⟨dA, 4, none⟩) (Kd.R_far (p := ⟨dA, 3, none⟩) (Kd.R_far (p := ⟨BA, 0, none⟩) (Kd.R_types (Kd.R_types rB.out WA.out (by decide)) bA.out (by decide)) (fun _ hk => hk.1.2) (.slice PB mB.length QB)) (fun _ hk => hk.2) (.int .i64 (wrap64 (gA + 1)))) (fun _ hk => hk.2) (.int .i64 iB)) (fun _ hk => trivial)⟩, ⟨q4_8⟩, ⟨by (with_reducible repeat (first | refine blk_drewN ?_ _ | refine blk_drew ?_ | refine blk_alloc ?_ _)); refine blk_put (cs := #[.int .i64 iA, .int .i64 uA, .int .i64 vA, .int .i64 (wrap64 (gA + 1)), .int .i64 qA, .int .i64 NA, .int .i64 wA, .int .i64 xA, .int .i64 AA, .bool yA]) ?_ 4 _ rfl; (with_reducible repeat (first | refine blk_drewN ?_ _ | refine blk_drew ?_ | refine blk_alloc ?_ _)); refine blk_put (cs := #[.int .i64 iA, .int .i64 uA, .int .i64 vA, .int .i64 gA, .int .i64 qA, .int .i64 NA, .int .i64 wA, .int .i64 xA, .int .i64 AA, .bool yA]) ?_ 3 _ rfl; (with_reducible repeat (first | refine blk_drewN ?_ _ | refine blk_drew ?_ | refine blk_alloc ?_ _)); refine blk_far ?_ jA.out _; (with_reducible repeat (first | refine blk_drewN ?_ _ | refine blk_drew ?_ | refine blk_alloc ?_ _)); exact bA.out⟩, ⟨q4_9⟩, ⟨q4_10⟩, ⟨q4_11⟩, ⟨q4_7⟩, ⟨q4_0⟩⟩
      ·rw [if_neg c61] at H
       have bC : (gA == 0) = false := beq_eq_false_iff_ne.mpr c61
       have hF : (gA != 0) = true := bne_iff_ne.mpr c61
       (first | rw [bC] | (simp only [i64_w, i32_w]; rw [bC]) | skip)
       by_cases c68 : gA = 1
       ·rw [if_pos c68] at H
        have iF : (gA == 1) = true := beq_iff_eq.mpr c68
        have jF : (gA != 1) = false := bne_eq_false_iff_eq.mpr c68
        clear c68
        have HC69 := Aside0.mk H
        clear H
        have uM := DA.out
        have vM := nA.out
        have wM := fA.out
        have xM := lA.out
        have yM := aA.out
        have zM := mA.out
        have AM := EA.out
        have BM := tA.out
        have CM := jA.out
        have DM := sA.out
        have kE : cB.cell? ⟨dA, 0, none⟩ = some (.int .i64 iA) := (blk_cell bA.out 0).trans rfl
        have lE : cB.cell? ⟨dA, 1, none⟩ = some (.int .i64 uA) := (blk_cell bA.out 1).trans rfl
        have mE : cB.cell? ⟨dA, 2, none⟩ = some (.int .i64 vA) := (blk_cell bA.out 2).trans rfl
        have nE : cB.cell? ⟨dA, 3, none⟩ = some (.int .i64 gA) := (blk_cell bA.out 3).trans rfl
        have oE : cB.cell? ⟨dA, 4, none⟩ = some (.int .i64 qA) := (blk_cell bA.out 4).trans rfl
        have pE : cB.cell? ⟨dA, 5, none⟩ = some (.int .i64 NA) := (blk_cell bA.out 5).trans rfl
        have qE : cB.cell? ⟨dA, 6, none⟩ = some (.int .i64 wA) := (blk_cell bA.out 6).trans rfl
        have rE : cB.cell? ⟨dA, 7, none⟩ = some (.int .i64 xA) := (blk_cell bA.out 7).trans rfl
        have sE : cB.cell? ⟨dA, 8, none⟩ = some (.int .i64 AA) := (blk_cell bA.out 8).trans rfl
        have tE : cB.cell? ⟨dA, 9, none⟩ = some (.bool yA) := (blk_cell bA.out 9).trans rfl
        have uE := blk_frozen bA.out 0
        have vE := blk_frozen bA.out 1
        have wE := blk_frozen bA.out 2
        have xE := blk_frozen bA.out 3
        have yE := blk_frozen bA.out 4
        have zE := blk_frozen bA.out 5
        have AE := blk_frozen bA.out 6
        have BE := blk_frozen bA.out 7
        have CE := blk_frozen bA.out 8
        have DE := blk_frozen bA.out 9
        go_upto_if 68 with (fail)
        go_cut [15] (fun v15 wc => ∃ (kq : Nat) (kB : Int), v15 = .int .i64 kB ∧ Aside0 (impl_RiStep.j1 kq kB iA uA vA (wrap64 (gA + 1)) qA iB wA xA AA yA mB = some (r1, r2, r3, r4, r5, r6, r7, r8, r9, r10, r11, r12)) ∧ Aside0 (kq ≤ kj4) ∧ Aside0 (Kd.R (Kd.int .i64) 3 wc w.heap.size (fun _ => True) (.slice PB mB.length QB) mB) ∧ Aside0 (wc.heap[JA]? = some (.cells #[(.slice nB ZA.length oB)] 29 (0, 0))) ∧ Aside0 (wc.heap[dA]? = some (.cells #[.int .i64 iA, .int .i64 uA, .int .i64 vA, .int .i64 (wrap64 (gA + 1)), .int .i64 qA, .int .i64 iB, .int .i64 wA, .int .i64 xA, .int .i64 AA, .bool yA] 23 (0, 0))) ∧ Aside0 (wc.heap[kA]? = some (.cells #[(.slice none 0 0)] 29 (0, 0))) ∧ Aside0 (wc.heap[cA]? = some (.cells #[.int .i64 0, .int .i64 0, .int .i64 0, .int .i64 0, .int .i64 0, .int .i64 0, .int .i64 0, .int .i64 0, .int .i64 0, .bool false] 23 (0, 0))) ∧ Aside0 (wc.heap[zA]? = some (.cells #[.int .i64 lB, .int .i64 qB, .int .i64 sB, .int .i64 xB] 37 (0, 0))) ∧ Aside0 (wc.heap[BA]? = some (.cells #[(.slice PB mB.length QB)] 29 (0, 0))) ∧ Aside0 (Below w.heap.size w wc))
        case first =>
         have H := HC69.out
         clear HC69
         by_cases c76 : iA = 2
         ·rw [if_pos c76] at H
          have cC : (iA == 2) = true := beq_iff_eq.mpr c76
          have kF : (iA != 2) = false := bne_eq_false_iff_eq.mpr c76
          clear c76
          (first | rw [cC] | (simp only [i64_w, i32_w]; rw [cC]) | skip)
          have H' := Aside0.mk H
          clear H
          have EM := DA.out
          have FM := nA.out
          have GM := fA.out
          have HM := lA.out
          have IM := aA.out
          have JM := mA.out
          have KM := EA.out
          have LM := tA.out
          have MM := jA.out
          have NM := sA.out
          have EE : cB.cell? ⟨dA, 0, none⟩ = some (.int .i64 iA) := (blk_cell bA.out 0).trans rfl
          have FE : cB.cell? ⟨dA, 1, none⟩ = some (.int .i64 uA) := (blk_cell bA.out 1).trans rfl
          have GE : cB.cell? ⟨dA, 2, none⟩ = some (.int .i64 vA) := (blk_cell bA.out 2).trans rfl
          have HE : cB.cell? ⟨dA, 3, none⟩ = some (.int .i64 gA) := (blk_cell bA.out 3).trans rfl
          have IE : cB.cell? ⟨dA, 4, none⟩ = some (.int .i64 qA) := (blk_cell bA.out 4).trans rfl
          have JE : cB.cell? ⟨dA, 5, none⟩ = some (.int .i64 NA) := (blk_cell bA.out 5).trans rfl
          have KE : cB.cell? ⟨dA, 6, none⟩ = some (.int .i64 wA) := (blk_cell bA.out 6).trans rfl
          have LE : cB.cell? ⟨dA, 7, none⟩ = some (.int .i64 xA) := (blk_cell bA.out 7).trans rfl
          have ME : cB.cell? ⟨dA, 8, none⟩ = some (.int .i64 AA) := (blk_cell bA.out 8).trans rfl
          have NE : cB.cell? ⟨dA, 9, none⟩ = some (.bool yA) := (blk_cell bA.out 9).trans rfl
          have OE := blk_frozen bA.out 0
          have PE := blk_frozen bA.out 1
          have QE := blk_frozen bA.out 2
          have RE := blk_frozen bA.out 3
          have SE := blk_frozen bA.out 4
          have TE := blk_frozen bA.out 5
          have UE := blk_frozen bA.out 6
          have VE := blk_frozen bA.out 7
          have WE := blk_frozen bA.out 8
          have XE := blk_frozen bA.out 9
          go_wp2
          go_meet
          case rel => exact ⟨_, (wrap64 (iB - (wrap64 (qA + 1)))), q4_47, H', ⟨q4_36⟩, ⟨q4_31⟩, ⟨q4_8⟩, ⟨q4_22⟩, ⟨q4_9⟩, ⟨q4_10⟩, ⟨q4_11⟩, ⟨q4_7⟩, ⟨q4_0⟩⟩
         ·rw [if_neg c76] at H
          have cC : (iA == 2) = false := beq_eq_false_iff_ne.mpr c76
          have kF : (iA != 2) = true := bne_iff_ne.mpr c76
          (first | rw [cC] | (simp only [i64_w, i32_w]; rw [cC]) | skip)
          have H' := Aside0.mk H
          clear H
          go_wp2
          go_meet
          case rel => exact ⟨_, (wrap64 (iB - qA)), q4_47, H', ⟨q4_36⟩, ⟨q4_31⟩, ⟨q4_8⟩, ⟨q4_22⟩, ⟨q4_9⟩, ⟨q4_10⟩, ⟨q4_11⟩, ⟨q4_7⟩, ⟨q4_0⟩⟩
        case rest =>
         clear HC69
         (try clear c1); (try clear c2); (try clear p2); (try clear c3); (try clear c4); (try clear c5); (try clear c6); (try clear p6); (try clear c7); (try clear c8); (try clear c10); (try clear c11); (try clear c12); (try clear c16); (try clear c17); (try clear c18); (try clear c19); (try clear c21); (try clear c22); (try clear c23); (try clear c24); (try clear c25); (try clear c27); (try clear c28); (try clear c29); (try clear c30); (try clear c31); (try clear c33); (try clear c34); (try clear c35); (try clear c38); (try clear c40); (try clear c41); (try clear c42); (try clear c43); (try clear c45); (try clear c46); (try clear c47); (try clear c52); (try clear c53); (try clear c54); (try clear c55); (try clear c56); (try clear c58); (try clear c59); (try clear c61); (try clear bC); (try clear hF); (try clear c62); (try clear c63); (try clear c64); (try clear p64); (try clear c65); (try clear c66); (try clear c68); (try clear iF); (try clear jF); (try clear c70); (try clear c71); (try clear c72); (try clear c73); (try clear c74); (try clear c76); (try clear cC); (try clear kF); (try clear c77); (try clear c78); (try clear c79); (try clear c80); (try clear c81); (try clear eC); (try clear fC); (try clear gC); (try clear hC); (try clear iC); (try clear jC); (try clear kC); (try clear lC); (try clear mC); (try clear nC); (try clear yC); (try clear zC); (try clear AC); (try clear BC); (try clear GC); (try clear OC); (try clear QC); (try clear RC); (try clear SC); (try clear TC); (try clear UC); (try clear VC); (try clear WC); (try clear XC); (try clear YC); (try clear ZC); (try clear kD); (try clear mD); (try clear nD); (try clear oD); (try clear pD); (try clear uD); (try clear wD); (try clear xD); (try clear yD); (try clear zD); (try clear AD); (try clear BD); (try clear CD); (try clear DD); (try clear ED); (try clear FD); (try clear QD); (try clear RD); (try clear SD); (try clear TD); (try clear UD); (try clear VD); (try clear WD); (try clear XD); (try clear YD); (try clear ZD); (try clear kE); (try clear lE); (try clear mE); (try clear nE); (try clear oE); (try clear pE); (try clear qE); (try clear rE); (try clear sE); (try clear tE); (try clear EE); (try clear FE); (try clear GE); (try clear HE); (try clear IE); (try clear JE); (try clear KE); (try clear LE); (try clear ME); (try clear NE); (try clear oC); (try clear pC); (try clear qC); (try clear rC); (try clear sC); (try clear tC); (try clear uC); (try clear vC); (try clear wC); (try clear xC); (try clear CC); (try clear DC); (try clear EC); (try clear FC); (try clear HC); (try clear PC); (try clear aD); (try clear bD); (try clear cD); (try clear dD); (try clear eD); (try clear fD); (try clear gD); (try clear hD); (try clear iD); (try clear jD); (try clear lD); (try clear qD); (try clear rD); (try clear sD); (try clear tD); (try clear vD); (try clear GD); (try clear HD); (try clear ID); (try clear JD); (try clear KD); (try clear LD); (try clear MD); (try clear ND); (try clear OD); (try clear PD); (try clear aE); (try clear bE); (try clear cE); (try clear dE); (try clear eE); (try clear fE); (try clear gE); (try clear hE); (try clear iE); (try clear jE); (try clear uE); (try clear vE); (try clear wE); (try clear xE); (try clear yE); (try clear zE); (try clear AE); (try clear BE); (try clear CE); (try clear DE); (try clear OE); (try clear PE); (try clear QE); (try clear RE); (try clear SE); (try clear TE); (try clear UE); (try clear VE); (try clear WE); (try clear XE); (try clear p2); (try clear p6)
         obtain ⟨kq, kB, rfl, HA, HJ68, TA, oA, bA, pA, eA, hA, WA, HB⟩ := hcut
         cases kq with
         | zero => exact absurd HA.out (by simp [impl_RiStep.j1])
         | succ kj68 =>
          have H := HA.out
          clear HA
          simp only [impl_RiStep.j1] at H
          have HC83 := Aside0.mk H
          clear H
          go_upto_region 17 with (fail)
          go_cut [75] (fun v75 wc => ∃ (kq : Nat) (YE : Bool), v75 = .bool YE ∧ Aside0 (impl_RiStep.j2 kq kB YE iA uA vA (wrap64 (gA + 1)) qA iB wA xA AA yA mB = some (r1, r2, r3, r4, r5, r6, r7, r8, r9, r10, r11, r12)) ∧ Aside0 (kq ≤ kj68) ∧ Aside0 (Kd.R (Kd.int .i64) 3 wc w.heap.size (fun _ => True) (.slice PB mB.length QB) mB) ∧ Aside0 (wc.heap[JA]? = some (.cells #[(.slice nB ZA.length oB)] 29 (0, 0))) ∧ Aside0 (wc.heap[dA]? = some (.cells #[.int .i64 iA, .int .i64 uA, .int .i64 vA, .int .i64 (wrap64 (gA + 1)), .int .i64 qA, .int .i64 iB, .int .i64 wA, .int .i64 xA, .int .i64 AA, .bool yA] 23 (0, 0))) ∧ Aside0 (wc.heap[kA]? = some (.cells #[(.slice none 0 0)] 29 (0, 0))) ∧ Aside0 (wc.heap[cA]? = some (.cells #[.int .i64 0, .int .i64 0, .int .i64 0, .int .i64 0, .int .i64 0, .int .i64 0, .int .i64 0, .int .i64 0, .int .i64 0, .bool false] 23 (0, 0))) ∧ Aside0 (wc.heap[zA]? = some (.cells #[.int .i64 lB, .int .i64 qB, .int .i64 sB, .int .i64 xB] 37 (0, 0))) ∧ Aside0 (wc.heap[BA]? = some (.cells #[(.slice PB mB.length QB)] 29 (0, 0))) ∧ Aside0 (Below w.heap.size w wc))
          case first =>
           have H := HC83.out
           clear HC83
           by_cases c84 : kB < 0
           ·rw [if_pos c84] at H
            have MC : decide (kB < 0) = true := decide_eq_true c84
            clear c84
            (first | rw [MC] | (simp only [i64_w, i32_w]; rw [MC]) | skip)
            have H' := Aside0.mk H
            clear H
            have OM := DA.out
            have PM := nA.out
            have QM := fA.out
            have RM := lA.out
            have SM := aA.out
            have TM := mA.out
            have UM := EA.out
            have VM := tA.out
            have WM := jA.out
            have XM := sA.out
            have lF : wc.cell? ⟨dA, 0, none⟩ = some (.int .i64 iA) := (blk_cell bA.out 0).trans rfl
            have mF : wc.cell? ⟨dA, 1, none⟩ = some (.int .i64 uA) := (blk_cell bA.out 1).trans rfl
            have nF : wc.cell? ⟨dA, 2, none⟩ = some (.int .i64 vA) := (blk_cell bA.out 2).trans rfl
            have oF : wc.cell? ⟨dA, 3, none⟩ = some (.int .i64 (wrap64 (gA + 1))) := (blk_cell bA.out 3).trans rfl
            have pF : wc.cell? ⟨dA, 4, none⟩ = some (.int .i64 qA) := (blk_cell bA.out 4).trans rfl
            have qF : wc.cell? ⟨dA, 5, none⟩ = some (.int .i64 iB) := (blk_cell bA.out 5).trans rfl
            have rF : wc.cell? ⟨dA, 6, none⟩ = some (.int .i64 wA) := (blk_cell bA.out 6).trans rfl
            have sF : wc.cell? ⟨dA, 7, none⟩ = some (.int .i64 xA) := (blk_cell bA.out 7).trans rfl
            have tF : wc.cell? ⟨dA, 8, none⟩ = some (.int .i64 AA) := (blk_cell bA.out 8).trans rfl
            have uF : wc.cell? ⟨dA, 9, none⟩ = some (.bool yA) := (blk_cell bA.out 9).trans rfl
            have vF := blk_frozen bA.out 0
            have wF := blk_frozen bA.out 1
            have xF := blk_frozen bA.out 2
            have yF := blk_frozen bA.out 3
            have zF := blk_frozen bA.out 4
            have AF := blk_frozen bA.out 5
            have BF := blk_frozen bA.out 6
            have CF := blk_frozen bA.out 7
            have DF := blk_frozen bA.out 8
            have EF := blk_frozen bA.out 9
            go_wp2
            go_meet
            case rel => exact ⟨_, ((iA == 1)), q4_47, H', ⟨by have := HJ4.out; have := HJ68.out; first | omega | exact Nat.le_refl _⟩, ⟨q4_28⟩, ⟨q4_2⟩, ⟨q4_3⟩, ⟨q4_4⟩, ⟨q4_5⟩, ⟨q4_6⟩, ⟨q4_23⟩, ⟨q4_0⟩⟩
           ·rw [if_neg c84] at H
            have MC : decide (kB < 0) = false := decide_eq_false c84
            clear c84
            (first | rw [MC] | (simp only [i64_w, i32_w]; rw [MC]) | skip)
            have H' := Aside0.mk H
            clear H
            go_wp2
            go_meet
            case rel => exact ⟨_, (false), q4_47, H', ⟨by have := HJ4.out; have := HJ68.out; first | omega | exact Nat.le_refl _⟩, ⟨q4_28⟩, ⟨q4_2⟩, ⟨q4_3⟩, ⟨q4_4⟩, ⟨q4_5⟩, ⟨q4_6⟩, ⟨q4_23⟩, ⟨q4_0⟩⟩
          case rest =>
           clear HC83
           (try clear c1); (try clear c2); (try clear p2); (try clear c3); (try clear c4); (try clear c5); (try clear c6); (try clear p6); (try clear c7); (try clear c8); (try clear c10); (try clear c11); (try clear c12); (try clear c16); (try clear c17); (try clear c18); (try clear c19); (try clear c21); (try clear c22); (try clear c23); (try clear c24); (try clear c25); (try clear c27); (try clear c28); (try clear c29); (try clear c30); (try clear c31); (try clear c33); (try clear c34); (try clear c35); (try clear c38); (try clear c40); (try clear c41); (try clear c42); (try clear c43); (try clear c45); (try clear c46); (try clear c47); (try clear c52); (try clear c53); (try clear c54); (try clear c55); (try clear c56); (try clear c58); (try clear c59); (try clear c61); (try clear bC); (try clear hF); (try clear c62); (try clear c63); (try clear c64); (try clear p64); (try clear c65); (try clear c66); (try clear c68); (try clear iF); (try clear jF); (try clear c70); (try clear c71); (try clear c72); (try clear c73); (try clear c74); (try clear c76); (try clear cC); (try clear kF); (try clear c77); (try clear c78); (try clear c79); (try clear c80); (try clear c81); (try clear c84); (try clear MC); (try clear c85); (try clear c86); (try clear c87); (try clear c88); (try clear c89); (try clear eC); (try clear fC); (try clear gC); (try clear hC); (try clear iC); (try clear jC); (try clear kC); (try clear lC); (try clear mC); (try clear nC); (try clear yC); (try clear zC); (try clear AC); (try clear BC); (try clear GC); (try clear OC); (try clear QC); (try clear RC); (try clear SC); (try clear TC); (try clear UC); (try clear VC); (try clear WC); (try clear XC); (try clear YC); (try clear ZC); (try clear kD); (try clear mD); (try clear nD); (try clear oD); (try clear pD); (try clear uD); (try clear wD); (try clear xD); (try clear yD); (try clear zD); (try clear AD); (try clear BD); (try clear CD); (try clear DD); (try clear ED); (try clear FD); (try clear QD); (try clear RD); (try clear SD); (try clear TD); (try clear UD); (try clear VD); (try clear WD); (try clear XD); (try clear YD); (try clear ZD); (try clear kE); (try clear lE); (try clear mE); (try clear nE); (try clear oE); (try clear pE); (try clear qE); (try clear rE); (try clear sE); (try clear tE); (try clear EE); (try clear FE); (try clear GE); (try clear HE); (try clear IE); (try clear JE); (try clear KE); (try clear LE); (try clear ME); (try clear NE); (try clear lF); (try clear mF); (try clear nF); (try clear oF); (try clear pF); (try clear qF); (try clear rF); (try clear sF); (try clear tF); (try clear uF); (try clear oC); (try clear pC); (try clear qC); (try clear rC); (try clear sC); (try clear tC); (try clear uC); (try clear vC); (try clear wC); (try clear xC); (try clear CC); (try clear DC); (try clear EC); (try clear FC); (try clear HC); (try clear PC); (try clear aD); (try clear bD); (try clear cD); (try clear dD); (try clear eD); (try clear fD); (try clear gD); (try clear hD); (try clear iD); (try clear jD); (try clear lD); (try clear qD); (try clear rD); (try clear sD); (try clear tD); (try clear vD); (try clear GD); (try clear HD); (try clear ID); (try clear JD); (try clear KD); (try clear LD); (try clear MD); (try clear ND); (try clear OD); (try clear PD); (try clear aE); (try clear bE); (try clear cE); (try clear dE); (try clear eE); (try clear fE); (try clear gE); (try clear hE); (try clear iE); (try clear jE); (try clear uE); (try clear vE); (try clear wE); (try clear xE); (try clear yE); (try clear zE); (try clear AE); (try clear BE); (try clear CE); (try clear DE); (try clear OE); (try clear PE); (try clear QE); (try clear RE); (try clear SE); (try clear TE); (try clear UE); (try clear VE); (try clear WE); (try clear XE); (try clear vF); (try clear wF); (try clear xF); (try clear yF); (try clear zF); (try clear AF); (try clear BF); (try clear CF); (try clear DF); (try clear EF); (try clear p2); (try clear p6); (try clear p64)
           obtain ⟨kq, YE, rfl, HA, HJ82, TA, oA, bA, pA, eA, hA, WA, HB⟩ := hcut
           cases kq with
           | zero => exact absurd HA.out (by simp [impl_RiStep.j2])
           | succ kj82 =>
            have H := HA.out
            clear HA
            simp only [impl_RiStep.j2] at H
            by_cases c91 : YE = true
            ·subst c91
             rw [if_pos rfl] at H
             replace H := Option.bind_eq_some_iff.mp H
             obtain ⟨⟨LH, MH, NH, OH, PH, QH, RH, SH, TH, UH⟩, A920, H⟩ := H
             (try dsimp only at H)
             have A92 := Aside0.mk A920
             clear A920
             have H' := Aside0.mk H
             clear H
             have bB := Aside0.mk (show IsS23 w wc dA _ _ _ _ _ _ _ _ _ _ from ⟨bA.out, ZB.out⟩)
             clear bA
             go_wp2_with (first | ((with_reducible refine gate_callee (f := 70) rfl ?_); refine goesL_ (some 83) rfl rfl Try.func70 (by kernel_rfl) rfl #[.pointer (some ⟨dA, 0, none⟩), .int .i64 3] rfl q4_26 ?_; (with_reducible refine (impl_Call_end.calls dA iA uA vA (wrap64 (gA + 1)) qA iB wA xA AA yA 3 LH MH NH OH PH QH RH SH TH UH w _ ?side1 ?side2 A92.out).mono ?_); (case side1 => exact q4_18); (case side2 => exact q4_27); rintro e uN ⟨rfl, hi, hb, hk⟩; refine ⟨_, rfl, ?_⟩; have CB := Aside0.mk (Kd.R_mono (Kd.R_keep (IsS23.apart (show IsS23 w _ dA iA uA vA (wrap64 (gA + 1)) qA iB wA xA AA yA from by repeat (first | (with_reducible first | exact bB.out | apply IsS23.alloc | apply IsS23.drewN | apply IsS23.drew | apply IsS23.set_0 | apply IsS23.set_1 | apply IsS23.set_2 | apply IsS23.set_3 | apply IsS23.set_4 | apply IsS23.set_5 | apply IsS23.set_6 | apply IsS23.set_7 | apply IsS23.set_8 | apply IsS23.set_9 | apply IsS23.far_ DA.out | apply IsS23.far_ fA.out | apply IsS23.far_ aA.out | apply IsS23.far_ EA.out | apply IsS23.far_ jA.out) | exact bB.out)) q4_28 (by decide)) hk (fun _ h => h.2)) (fun _ h => h.1)); have DB := Aside0.mk (KeepBut.blk hk (g' := JA) (o := .cells #[.slice nB ZA.length oB] 29 (0, 0)) q4_2 nA.out (by simp)); have EB := Aside0.mk (KeepBut.blk hk (g' := kA) (o := .cells #[.slice none 0 0] 29 (0, 0)) q4_4 lA.out (by simp)); have FB := Aside0.mk (KeepBut.blk hk (g' := cA) (o := .cells #[.int .i64 0, .int .i64 0, .int .i64 0, .int .i64 0, .int .i64 0, .int .i64 0, .int .i64 0, .int .i64 0, .int .i64 0, .bool false] 23 (0, 0)) q4_5 mA.out (by simp)); have OB := Aside0.mk (KeepBut.blk hk (g' := zA) (o := .cells #[.int .i64 lB, .int .i64 qB, .int .i64 sB, .int .i64 xB] 37 (0, 0)) q4_6 tA.out (by simp)); have RB := Aside0.mk (KeepBut.blk hk (g' := BA) (o := .cells #[.slice PB mB.length QB] 29 (0, 0)) q4_23 sA.out (by simp)); have SB := Aside0.mk (hb); have aC := Aside0.mk (hi); clear TA oA pA eA hA WA HB bB; have TA := CB; have oA := DB; have pA := EB; have eA := FB; have hA := OB; have WA := RB; have HB := SB; have bB := aC; clear CB DB EB FB OB RB SB aC; have bA := Aside0.mk bB.out.1; clear bB; (try clear hb); (try clear hb2); (try clear hk); (try clear hi)))
             go_meet
             case rel => exact ⟨_, (LH), (MH), (NH), (OH), (PH), (QH), (RH), (SH), (TH), (UH), H', ⟨q4_46⟩, ⟨q4_28⟩, ⟨q4_2⟩, ⟨q4_3⟩, ⟨q4_4⟩, ⟨q4_5⟩, ⟨q4_6⟩, ⟨q4_23⟩, ⟨q4_0⟩⟩
            ·replace c91 := Bool.eq_false_iff.mpr c91
             subst c91
             rw [if_neg (show ¬ (false = true) by decide)] at H
             by_cases c94 : kB < 0
             ·rw [if_pos c94] at H
              have GH : decide (kB < 0) = true := decide_eq_true c94
              clear c94
              replace H := Option.bind_eq_some_iff.mp H
              obtain ⟨⟨VH, WH, XH, YH, ZH, aI, bI, cI, dI, eI⟩, A950, H⟩ := H
              (try dsimp only at H)
              have A95 := Aside0.mk A950
              clear A950
              have H' := Aside0.mk H
              clear H
              have bB := Aside0.mk (show IsS23 w wc dA _ _ _ _ _ _ _ _ _ _ from ⟨bA.out, ZB.out⟩)
              clear bA
              go_wp2_with (first | ((with_reducible refine gate_callee (f := 70) rfl ?_); refine goesL_ (some 87) rfl rfl Try.func70 (by kernel_rfl) rfl #[.pointer (some ⟨dA, 0, none⟩), .int .i64 2] rfl q4_26 ?_; (with_reducible refine (impl_Call_end.calls dA iA uA vA (wrap64 (gA + 1)) qA iB wA xA AA yA 2 VH WH XH YH ZH aI bI cI dI eI w _ ?side1 ?side2 A95.out).mono ?_); (case side1 => exact q4_18); (case side2 => exact q4_27); rintro e vN ⟨rfl, hi, hb, hk⟩; refine ⟨_, rfl, ?_⟩; have CB := Aside0.mk (Kd.R_mono (Kd.R_keep (IsS23.apart (show IsS23 w _ dA iA uA vA (wrap64 (gA + 1)) qA iB wA xA AA yA from by repeat (first | (with_reducible first | exact bB.out | apply IsS23.alloc | apply IsS23.drewN | apply IsS23.drew | apply IsS23.set_0 | apply IsS23.set_1 | apply IsS23.set_2 | apply IsS23.set_3 | apply IsS23.set_4 | apply IsS23.set_5 | apply IsS23.set_6 | apply IsS23.set_7 | apply IsS23.set_8 | apply IsS23.set_9 | apply IsS23.far_ DA.out | apply IsS23.far_ fA.out | apply IsS23.far_ aA.out | apply IsS23.far_ EA.out | apply IsS23.far_ jA.out) | exact bB.out)) q4_28 (by decide)) hk (fun _ h => h.2)) (fun _ h => h.1)); have DB := Aside0.mk (KeepBut.blk hk (g' := JA) (o := .cells #[.slice nB ZA.length oB] 29 (0, 0)) q4_2 nA.out (by simp)); have EB := Aside0.mk (KeepBut.blk hk (g' := kA) (o := .cells #[.slice none 0 0] 29 (0, 0)) q4_4 lA.out (by simp)); have FB := Aside0.mk (KeepBut.blk hk (g' := cA) (o := .cells #[.int .i64 0, .int .i64 0, .int .i64 0, .int .i64 0, .int .i64 0, .int .i64 0, .int .i64 0, .int .i64 0, .int .i64 0, .bool false] 23 (0, 0)) q4_5 mA.out (by simp)); have OB := Aside0.mk (KeepBut.blk hk (g' := zA) (o := .cells #[.int .i64 lB, .int .i64 qB, .int .i64 sB, .int .i64 xB] 37 (0, 0)) q4_6 tA.out (by simp)); have RB := Aside0.mk (KeepBut.blk hk (g' := BA) (o := .cells #[.slice PB mB.length QB] 29 (0, 0)) q4_23 sA.out (by simp)); have SB := Aside0.mk (hb); have aC := Aside0.mk (hi); clear TA oA pA eA hA WA HB bB; have TA := CB; have oA := DB; have pA := EB; have eA := FB; have hA := OB; have WA := RB; have HB := SB; have bB := aC; clear CB DB EB FB OB RB SB aC; have bA := Aside0.mk bB.out.1; clear bB; (try clear hb); (try clear hb2); (try clear hk); (try clear hi)))
              go_meet
              case rel => exact ⟨_, (VH), (WH), (XH), (YH), (ZH), (aI), (bI), (cI), (dI), (eI), H', ⟨q4_46⟩, ⟨q4_28⟩, ⟨q4_2⟩, ⟨q4_3⟩, ⟨q4_4⟩, ⟨q4_5⟩, ⟨q4_6⟩, ⟨q4_23⟩, ⟨q4_0⟩⟩
             ·rw [if_neg c94] at H
              have GH : decide (kB < 0) = false := decide_eq_false c94
              clear c94
              by_cases c97 : kB > 0
              ·rw [if_pos c97] at H
               have HH : decide (0 < kB) = true := decide_eq_true c97
               clear c97
               have H' := Aside0.mk H
               clear H
               have YM := DA.out
               have ZM := nA.out
               have aN := fA.out
               have bN := lA.out
               have tJ := aA.out
               have uJ := mA.out
               have vJ := EA.out
               have wJ := tA.out
               have xJ := jA.out
               have yJ := sA.out
               have LF : wc.cell? ⟨dA, 0, none⟩ = some (.int .i64 iA) := (blk_cell bA.out 0).trans rfl
               have MF : wc.cell? ⟨dA, 1, none⟩ = some (.int .i64 uA) := (blk_cell bA.out 1).trans rfl
               have NF : wc.cell? ⟨dA, 2, none⟩ = some (.int .i64 vA) := (blk_cell bA.out 2).trans rfl
               have OF : wc.cell? ⟨dA, 3, none⟩ = some (.int .i64 (wrap64 (gA + 1))) := (blk_cell bA.out 3).trans rfl
               have PF : wc.cell? ⟨dA, 4, none⟩ = some (.int .i64 qA) := (blk_cell bA.out 4).trans rfl
               have QF : wc.cell? ⟨dA, 5, none⟩ = some (.int .i64 iB) := (blk_cell bA.out 5).trans rfl
               have RF : wc.cell? ⟨dA, 6, none⟩ = some (.int .i64 wA) := (blk_cell bA.out 6).trans rfl
               have SF : wc.cell? ⟨dA, 7, none⟩ = some (.int .i64 xA) := (blk_cell bA.out 7).trans rfl
               have TF : wc.cell? ⟨dA, 8, none⟩ = some (.int .i64 AA) := (blk_cell bA.out 8).trans rfl
               have UF : wc.cell? ⟨dA, 9, none⟩ = some (.bool yA) := (blk_cell bA.out 9).trans rfl
               have VF := blk_frozen bA.out 0
               have WF := blk_frozen bA.out 1
               have XF := blk_frozen bA.out 2
               have YF := blk_frozen bA.out 3
               have ZF := blk_frozen bA.out 4
               have aG := blk_frozen bA.out 5
               have bG := blk_frozen bA.out 6
               have cG := blk_frozen bA.out 7
               have dG := blk_frozen bA.out 8
               have eG := blk_frozen bA.out 9
               go_wp2
               go_meet
               case rel => exact ⟨_, (iA), (uA), (vA), (0), (qA), (iB), (wA), (xA), (AA), (yA), H', ⟨q4_46⟩, ⟨by (with_reducible repeat (first | apply Kd.R_alloc | apply Kd.R_drewN | apply Kd.R_drew)); exact Kd.R_mono (Kd.R_far (p := ⟨dA, 3, none⟩) (Kd.R_types TA.out bA.out (by decide)) (fun _ hk => hk.2) (.int .i64 0)) (fun _ hk => trivial)⟩, ⟨by (with_reducible repeat (first | refine blk_drewN ?_ _ | refine blk_drew ?_ | refine blk_alloc ?_ _)); refine blk_far ?_ nA.out _; (with_reducible repeat (first | refine blk_drewN ?_ _ | refine blk_drew ?_ | refine blk_alloc ?_ _)); exact oA.out⟩, ⟨by (with_reducible repeat (first | refine blk_drewN ?_ _ | refine blk_drew ?_ | refine blk_alloc ?_ _)); refine blk_put (cs := #[.int .i64 iA, .int .i64 uA, .int .i64 vA, .int .i64 (wrap64 (gA + 1)), .int .i64 qA, .int .i64 iB, .int .i64 wA, .int .i64 xA, .int .i64 AA, .bool yA]) ?_ 3 _ rfl; (with_reducible repeat (first | refine blk_drewN ?_ _ | refine blk_drew ?_ | refine blk_alloc ?_ _)); exact bA.out⟩, ⟨by (with_reducible repeat (first | refine blk_drewN ?_ _ | refine blk_drew ?_ | refine blk_alloc ?_ _)); refine blk_far ?_ lA.out _; (with_reducible repeat (first | refine blk_drewN ?_ _ | refine blk_drew ?_ | refine blk_alloc ?_ _)); exact pA.out⟩, ⟨by (with_reducible repeat (first | refine blk_drewN ?_ _ | refine blk_drew ?_ | refine blk_alloc ?_ _)); refine blk_far ?_ mA.out _; (with_reducible repeat (first | refine blk_drewN ?_ _ | refine blk_drew ?_ | refine blk_alloc ?_ _)); exact eA.out⟩, ⟨by (with_reducible repeat (first | refine blk_drewN ?_ _ | refine blk_drew ?_ | refine blk_alloc ?_ _)); refine blk_far ?_ tA.out _; (with_reducible repeat (first | refine blk_drewN ?_ _ | refine blk_drew ?_ | refine blk_alloc ?_ _)); exact hA.out⟩, ⟨by (with_reducible repeat (first | refine blk_drewN ?_ _ | refine blk_drew ?_ | refine blk_alloc ?_ _)); refine blk_far ?_ sA.out _; (with_reducible repeat (first | refine blk_drewN ?_ _ | refine blk_drew ?_ | refine blk_alloc ?_ _)); exact WA.out⟩, ⟨q4_0⟩⟩
              ·rw [if_neg c97] at H
               have HH : decide (0 < kB) = false := decide_eq_false c97
               clear c97
               have H' := Aside0.mk H
               clear H
               go_wp2
               go_meet
               case rel => exact ⟨_, (iA), (uA), (vA), ((wrap64 (gA + 1))), (qA), (iB), (wA), (xA), (AA), (yA), H', ⟨q4_46⟩, ⟨q4_28⟩, ⟨q4_2⟩, ⟨q4_3⟩, ⟨q4_4⟩, ⟨q4_5⟩, ⟨q4_6⟩, ⟨q4_23⟩, ⟨q4_0⟩⟩
       ·rw [if_neg c68] at H
        have iF : (gA == 1) = false := beq_eq_false_iff_ne.mpr c68
        have jF : (gA != 1) = true := bne_iff_ne.mpr c68
        by_cases c104 : gA = 2
        ·rw [if_pos c104] at H
         have fG : (gA == 2) = true := beq_iff_eq.mpr c104
         have gG : (gA != 2) = false := bne_eq_false_iff_eq.mpr c104
         clear c104
         by_cases c105 : iB = 0
         ·rw [if_pos c105] at H
          have hG : (iB == 0) = true := beq_iff_eq.mpr c105
          have iG : (iB != 0) = false := bne_eq_false_iff_eq.mpr c105
          clear c105
          have H' := Aside0.mk H
          clear H
          have zJ := DA.out
          have AJ := nA.out
          have BJ := fA.out
          have CJ := lA.out
          have DJ := aA.out
          have EJ := mA.out
          have FJ := EA.out
          have GJ := tA.out
          have HJ := jA.out
          have IJ := sA.out
          have jG : cB.cell? ⟨dA, 0, none⟩ = some (.int .i64 iA) := (blk_cell bA.out 0).trans rfl
          have kG : cB.cell? ⟨dA, 1, none⟩ = some (.int .i64 uA) := (blk_cell bA.out 1).trans rfl
          have lG : cB.cell? ⟨dA, 2, none⟩ = some (.int .i64 vA) := (blk_cell bA.out 2).trans rfl
          have mG : cB.cell? ⟨dA, 3, none⟩ = some (.int .i64 gA) := (blk_cell bA.out 3).trans rfl
          have nG : cB.cell? ⟨dA, 4, none⟩ = some (.int .i64 qA) := (blk_cell bA.out 4).trans rfl
          have oG : cB.cell? ⟨dA, 5, none⟩ = some (.int .i64 NA) := (blk_cell bA.out 5).trans rfl
          have pG : cB.cell? ⟨dA, 6, none⟩ = some (.int .i64 wA) := (blk_cell bA.out 6).trans rfl
          have qG : cB.cell? ⟨dA, 7, none⟩ = some (.int .i64 xA) := (blk_cell bA.out 7).trans rfl
          have rG : cB.cell? ⟨dA, 8, none⟩ = some (.int .i64 AA) := (blk_cell bA.out 8).trans rfl
          have sG : cB.cell? ⟨dA, 9, none⟩ = some (.bool yA) := (blk_cell bA.out 9).trans rfl
          have tG := blk_frozen bA.out 0
          have uG := blk_frozen bA.out 1
          have vG := blk_frozen bA.out 2
          have wG := blk_frozen bA.out 3
          have xG := blk_frozen bA.out 4
          have yG := blk_frozen bA.out 5
          have zG := blk_frozen bA.out 6
          have AG := blk_frozen bA.out 7
          have BG := blk_frozen bA.out 8
          have CG := blk_frozen bA.out 9
          go_wp2
          go_meet
          case rel => exact ⟨_, (iA), (uA), (vA), (0), (qA), (NA), (wA), (xA), (AA), (yA), H', ⟨q4_36⟩, ⟨by (with_reducible repeat (first | apply Kd.R_alloc | apply Kd.R_drewN | apply Kd.R_drew)); exact Kd.R_mono (Kd.R_far (p := ⟨dA, 3, none⟩) (Kd.R_far (p := ⟨dA, 3, none⟩) (Kd.R_far (p := ⟨BA, 0, none⟩) (Kd.R_types (Kd.R_types rB.out WA.out (by decide)) bA.out (by decide)) (fun _ hk => hk.1.2) (.slice PB mB.length QB)) (fun _ hk => hk.2) (.int .i64 (wrap64 (gA + 1)))) (fun _ hk => hk.2) (.int .i64 0)) (fun _ hk => trivial)⟩, ⟨q4_8⟩, ⟨by (with_reducible repeat (first | refine blk_drewN ?_ _ | refine blk_drew ?_ | refine blk_alloc ?_ _)); refine blk_put (cs := #[.int .i64 iA, .int .i64 uA, .int .i64 vA, .int .i64 (wrap64 (gA + 1)), .int .i64 qA, .int .i64 NA, .int .i64 wA, .int .i64 xA, .int .i64 AA, .bool yA]) ?_ 3 _ rfl; (with_reducible repeat (first | refine blk_drewN ?_ _ | refine blk_drew ?_ | refine blk_alloc ?_ _)); refine blk_put (cs := #[.int .i64 iA, .int .i64 uA, .int .i64 vA, .int .i64 gA, .int .i64 qA, .int .i64 NA, .int .i64 wA, .int .i64 xA, .int .i64 AA, .bool yA]) ?_ 3 _ rfl; (with_reducible repeat (first | refine blk_drewN ?_ _ | refine blk_drew ?_ | refine blk_alloc ?_ _)); refine blk_far ?_ jA.out _; (with_reducible repeat (first | refine blk_drewN ?_ _ | refine blk_drew ?_ | refine blk_alloc ?_ _)); exact bA.out⟩, ⟨q4_9⟩, ⟨q4_10⟩, ⟨q4_11⟩, ⟨q4_7⟩, ⟨q4_0⟩⟩
         ·rw [if_neg c105] at H
          have hG : (iB == 0) = false := beq_eq_false_iff_ne.mpr c105
          have iG : (iB != 0) = true := bne_iff_ne.mpr c105
          have H' := Aside0.mk H
          clear H
          go_wp2
          go_meet
          case rel => exact ⟨_, (iA), (uA), (vA), (wrap64 (gA + 1)), (qA), (NA), (wA), (xA), (AA), (yA), H', ⟨q4_36⟩, ⟨q4_25⟩, ⟨q4_13⟩, ⟨q4_17⟩, ⟨q4_14⟩, ⟨q4_15⟩, ⟨q4_16⟩, ⟨q4_12⟩, ⟨q4_0⟩⟩
        ·rw [if_neg c104] at H
         have fG : (gA == 2) = false := beq_eq_false_iff_ne.mpr c104
         have gG : (gA != 2) = true := bne_iff_ne.mpr c104
         by_cases c112 : gA = 3
         ·rw [if_pos c112] at H
          have DG : (gA == 3) = true := beq_iff_eq.mpr c112
          have EG : (gA != 3) = false := bne_eq_false_iff_eq.mpr c112
          clear c112
          by_cases c113 : iA = 2
          ·rw [if_pos c113] at H
           have FG : (iA == 2) = true := beq_iff_eq.mpr c113
           have GG : (iA != 2) = false := bne_eq_false_iff_eq.mpr c113
           clear c113
           have H' := Aside0.mk H
           clear H
           have JJ := DA.out
           have KJ := nA.out
           have LJ := fA.out
           have MJ := lA.out
           have NJ := aA.out
           have OJ := mA.out
           have PJ := EA.out
           have QJ := tA.out
           have RJ := jA.out
           have SJ := sA.out
           have HG : cB.cell? ⟨dA, 0, none⟩ = some (.int .i64 iA) := (blk_cell bA.out 0).trans rfl
           have IG : cB.cell? ⟨dA, 1, none⟩ = some (.int .i64 uA) := (blk_cell bA.out 1).trans rfl
           have JG : cB.cell? ⟨dA, 2, none⟩ = some (.int .i64 vA) := (blk_cell bA.out 2).trans rfl
           have KG : cB.cell? ⟨dA, 3, none⟩ = some (.int .i64 gA) := (blk_cell bA.out 3).trans rfl
           have LG : cB.cell? ⟨dA, 4, none⟩ = some (.int .i64 qA) := (blk_cell bA.out 4).trans rfl
           have MG : cB.cell? ⟨dA, 5, none⟩ = some (.int .i64 NA) := (blk_cell bA.out 5).trans rfl
           have NG : cB.cell? ⟨dA, 6, none⟩ = some (.int .i64 wA) := (blk_cell bA.out 6).trans rfl
           have OG : cB.cell? ⟨dA, 7, none⟩ = some (.int .i64 xA) := (blk_cell bA.out 7).trans rfl
           have PG : cB.cell? ⟨dA, 8, none⟩ = some (.int .i64 AA) := (blk_cell bA.out 8).trans rfl
           have QG : cB.cell? ⟨dA, 9, none⟩ = some (.bool yA) := (blk_cell bA.out 9).trans rfl
           have RG := blk_frozen bA.out 0
           have SG := blk_frozen bA.out 1
           have TG := blk_frozen bA.out 2
           have UG := blk_frozen bA.out 3
           have VG := blk_frozen bA.out 4
           have WG := blk_frozen bA.out 5
           have XG := blk_frozen bA.out 6
           have YG := blk_frozen bA.out 7
           have ZG := blk_frozen bA.out 8
           have aH := blk_frozen bA.out 9
           go_wp2
           go_meet
           case rel => exact ⟨_, (iA), (uA), (vA), (wrap64 (gA + 1)), (qA), (NA), (wA), (xA), (iB), (yA), H', ⟨q4_36⟩, ⟨by (with_reducible repeat (first | apply Kd.R_alloc | apply Kd.R_drewN | apply Kd.R_drew)); exact Kd.R_mono (Kd.R_far (p := ⟨dA, 8, none⟩) (Kd.R_far (p := ⟨dA, 3, none⟩) (Kd.R_far (p := ⟨BA, 0, none⟩) (Kd.R_types (Kd.R_types rB.out WA.out (by decide)) bA.out (by decide)) (fun _ hk => hk.1.2) (.slice PB mB.length QB)) (fun _ hk => hk.2) (.int .i64 (wrap64 (gA + 1)))) (fun _ hk => hk.2) (.int .i64 iB)) (fun _ hk => trivial)⟩, ⟨q4_8⟩, ⟨by (with_reducible repeat (first | refine blk_drewN ?_ _ | refine blk_drew ?_ | refine blk_alloc ?_ _)); refine blk_put (cs := #[.int .i64 iA, .int .i64 uA, .int .i64 vA, .int .i64 (wrap64 (gA + 1)), .int .i64 qA, .int .i64 NA, .int .i64 wA, .int .i64 xA, .int .i64 AA, .bool yA]) ?_ 8 _ rfl; (with_reducible repeat (first | refine blk_drewN ?_ _ | refine blk_drew ?_ | refine blk_alloc ?_ _)); refine blk_put (cs := #[.int .i64 iA, .int .i64 uA, .int .i64 vA, .int .i64 gA, .int .i64 qA, .int .i64 NA, .int .i64 wA, .int .i64 xA, .int .i64 AA, .bool yA]) ?_ 3 _ rfl; (with_reducible repeat (first | refine blk_drewN ?_ _ | refine blk_drew ?_ | refine blk_alloc ?_ _)); refine blk_far ?_ jA.out _; (with_reducible repeat (first | refine blk_drewN ?_ _ | refine blk_drew ?_ | refine blk_alloc ?_ _)); exact bA.out⟩, ⟨q4_9⟩, ⟨q4_10⟩, ⟨q4_11⟩, ⟨q4_7⟩, ⟨q4_0⟩⟩
          ·rw [if_neg c113] at H
           have FG : (iA == 2) = false := beq_eq_false_iff_ne.mpr c113
           have GG : (iA != 2) = true := bne_iff_ne.mpr c113
           have H' := Aside0.mk H
           clear H
           have TJ := DA.out
           have UJ := nA.out
           have VJ := fA.out
           have WJ := lA.out
           have XJ := aA.out
           have YJ := mA.out
           have ZJ := EA.out
           have aK := tA.out
           have bK := jA.out
           have cK := sA.out
           have bH : cB.cell? ⟨dA, 0, none⟩ = some (.int .i64 iA) := (blk_cell bA.out 0).trans rfl
           have cH : cB.cell? ⟨dA, 1, none⟩ = some (.int .i64 uA) := (blk_cell bA.out 1).trans rfl
           have dH : cB.cell? ⟨dA, 2, none⟩ = some (.int .i64 vA) := (blk_cell bA.out 2).trans rfl
           have eH : cB.cell? ⟨dA, 3, none⟩ = some (.int .i64 gA) := (blk_cell bA.out 3).trans rfl
           have fH : cB.cell? ⟨dA, 4, none⟩ = some (.int .i64 qA) := (blk_cell bA.out 4).trans rfl
           have gH : cB.cell? ⟨dA, 5, none⟩ = some (.int .i64 NA) := (blk_cell bA.out 5).trans rfl
           have hH : cB.cell? ⟨dA, 6, none⟩ = some (.int .i64 wA) := (blk_cell bA.out 6).trans rfl
           have iH : cB.cell? ⟨dA, 7, none⟩ = some (.int .i64 xA) := (blk_cell bA.out 7).trans rfl
           have jH : cB.cell? ⟨dA, 8, none⟩ = some (.int .i64 AA) := (blk_cell bA.out 8).trans rfl
           have kH : cB.cell? ⟨dA, 9, none⟩ = some (.bool yA) := (blk_cell bA.out 9).trans rfl
           have lH := blk_frozen bA.out 0
           have mH := blk_frozen bA.out 1
           have nH := blk_frozen bA.out 2
           have oH := blk_frozen bA.out 3
           have pH := blk_frozen bA.out 4
           have qH := blk_frozen bA.out 5
           have rH := blk_frozen bA.out 6
           have sH := blk_frozen bA.out 7
           have tH := blk_frozen bA.out 8
           have uH := blk_frozen bA.out 9
           go_wp2
           go_meet
           case rel => exact ⟨_, (iA), (uA), (vA), (wrap64 (gA + 1)), (qA), (NA), (wA), (xA), (AA), (yA), H', ⟨q4_36⟩, ⟨q4_25⟩, ⟨q4_13⟩, ⟨q4_17⟩, ⟨q4_14⟩, ⟨q4_15⟩, ⟨q4_16⟩, ⟨q4_12⟩, ⟨q4_0⟩⟩
         ·rw [if_neg c112] at H
          have DG : (gA == 3) = false := beq_eq_false_iff_ne.mpr c112
          have EG : (gA != 3) = true := bne_iff_ne.mpr c112
          by_cases c126 : gA = 4
          ·rw [if_pos c126] at H
           have vH : (gA == 4) = true := beq_iff_eq.mpr c126
           have wH : (gA != 4) = false := bne_eq_false_iff_eq.mpr c126
           clear c126
           replace H := Option.bind_eq_some_iff.mp H
           obtain ⟨⟨fI, gI, hI, iI, jI, kI, lI, mI, nI, oI⟩, A1270, H⟩ := H
           (try dsimp only at H)
           have A127 := Aside0.mk A1270
           clear A1270
           have H' := Aside0.mk H
           clear H
           have bB := Aside0.mk (show IsS23 w cB dA _ _ _ _ _ _ _ _ _ _ from ⟨bA.out, ZB.out⟩)
           clear bA
           go_wp2_with (first | ((with_reducible refine gate_callee (f := 70) rfl ?_); refine goesL_ (some 106) rfl rfl Try.func70 (by kernel_rfl) rfl #[.pointer (some ⟨dA, 0, none⟩), .int .i64 1] rfl q4_26 ?_; (with_reducible refine (impl_Call_end.calls dA iA uA vA (wrap64 (gA + 1)) qA NA wA xA AA yA 1 fI gI hI iI jI kI lI mI nI oI w _ ?side1 ?side2 A127.out).mono ?_); (case side1 => exact q4_18); (case side2 => exact q4_27); rintro e pN ⟨rfl, hi, hb, hk⟩; refine ⟨_, rfl, ?_⟩; have CB := Aside0.mk (KeepBut.blk hk (g' := JA) (o := .cells #[.slice nB ZA.length oB] 29 (0, 0)) q4_13 nA.out (by simp)); have DB := Aside0.mk (KeepBut.blk hk (g' := kA) (o := .cells #[.slice none 0 0] 29 (0, 0)) q4_14 lA.out (by simp)); have EB := Aside0.mk (KeepBut.blk hk (g' := cA) (o := .cells #[.int .i64 0, .int .i64 0, .int .i64 0, .int .i64 0, .int .i64 0, .int .i64 0, .int .i64 0, .int .i64 0, .int .i64 0, .bool false] 23 (0, 0)) q4_15 mA.out (by simp)); have FB := Aside0.mk (KeepBut.blk hk (g' := zA) (o := .cells #[.int .i64 lB, .int .i64 qB, .int .i64 sB, .int .i64 xB] 37 (0, 0)) q4_16 tA.out (by simp)); have OB := Aside0.mk (Kd.R_mono (Kd.R_keep (IsS23.apart (show IsS23 w _ dA iA uA vA (wrap64 (gA + 1)) qA NA wA xA AA yA from by repeat (first | (with_reducible first | exact bB.out | apply IsS23.alloc | apply IsS23.drewN | apply IsS23.drew | apply IsS23.set_0 | apply IsS23.set_1 | apply IsS23.set_2 | apply IsS23.set_3 | apply IsS23.set_4 | apply IsS23.set_5 | apply IsS23.set_6 | apply IsS23.set_7 | apply IsS23.set_8 | apply IsS23.set_9 | apply IsS23.far_ DA.out | apply IsS23.far_ fA.out | apply IsS23.far_ aA.out | apply IsS23.far_ EA.out | apply IsS23.far_ jA.out) | exact bB.out)) (by (with_reducible repeat (first | apply Kd.R_alloc | apply Kd.R_drewN | apply Kd.R_drew)); exact (Kd.R_mono (Kd.R_mono (Kd.R_far (p := ⟨dA, 3, none⟩) (Kd.R_far (p := ⟨BA, 0, none⟩) (IsS23.apart bB.out (Kd.R_types rB.out WA.out (by decide)) (by decide)) (fun _ hk => hk.1.2) (.slice PB mB.length QB)) (fun _ hk => hk.2) (.int .i64 (wrap64 (gA + 1)))) (fun _ h_ => h_.1)) (fun _ h_ => h_.1))) (by decide)) hk (fun _ h => h.2)) (fun _ h => h.1)); have RB := Aside0.mk (KeepBut.blk hk (g' := BA) (o := .cells #[.slice PB mB.length QB] 29 (0, 0)) q4_12 sA.out (by simp)); have SB := Aside0.mk (hb); have aC := Aside0.mk (hi); clear oA pA eA hA rB WA HB bB; have oA := CB; have pA := DB; have eA := EB; have hA := FB; have rB := OB; have WA := RB; have HB := SB; have bB := aC; clear CB DB EB FB OB RB SB aC; have bA := Aside0.mk bB.out.1; clear bB; (try clear hb); (try clear hb2); (try clear hk); (try clear hi)))
           go_meet
           case rel => exact ⟨_, (fI), (gI), (hI), (iI), (jI), (kI), (lI), (mI), (nI), (oI), H', ⟨q4_36⟩, ⟨q4_48⟩, ⟨q4_2⟩, ⟨q4_3⟩, ⟨q4_4⟩, ⟨q4_5⟩, ⟨q4_6⟩, ⟨q4_23⟩, ⟨q4_0⟩⟩
          ·rw [if_neg c126] at H
           have vH : (gA == 4) = false := beq_eq_false_iff_ne.mpr c126
           have wH : (gA != 4) = true := bne_iff_ne.mpr c126
           have H' := Aside0.mk H
           clear H
           go_wp2
           go_meet
           case rel => exact ⟨_, (iA), (uA), (vA), (wrap64 (gA + 1)), (qA), (NA), (wA), (xA), (AA), (yA), H', ⟨q4_36⟩, ⟨q4_25⟩, ⟨q4_13⟩, ⟨q4_17⟩, ⟨q4_14⟩, ⟨q4_15⟩, ⟨q4_16⟩, ⟨q4_12⟩, ⟨q4_0⟩⟩
     case rest =>
      clear HC39
      (try clear c1); (try clear c2); (try clear p2); (try clear c3); (try clear c4); (try clear c5); (try clear c6); (try clear p6); (try clear c7); (try clear c8); (try clear c9); (try clear c10); (try clear c11); (try clear c12); (try clear c16); (try clear c17); (try clear c18); (try clear c19); (try clear c21); (try clear c22); (try clear c23); (try clear c24); (try clear c25); (try clear c27); (try clear c28); (try clear c29); (try clear c30); (try clear c31); (try clear c33); (try clear c34); (try clear c35); (try clear c38); (try clear c40); (try clear c41); (try clear c42); (try clear c43); (try clear c45); (try clear c46); (try clear c47); (try clear c52); (try clear c53); (try clear c54); (try clear c55); (try clear c56); (try clear c58); (try clear c59); (try clear c61); (try clear bC); (try clear hF); (try clear c62); (try clear c63); (try clear c64); (try clear p64); (try clear c65); (try clear c66); (try clear c68); (try clear iF); (try clear jF); (try clear c70); (try clear c71); (try clear c72); (try clear c73); (try clear c74); (try clear c76); (try clear cC); (try clear kF); (try clear c77); (try clear c78); (try clear c79); (try clear c80); (try clear c81); (try clear c84); (try clear MC); (try clear c85); (try clear c86); (try clear c87); (try clear c88); (try clear c89); (try clear c91); (try clear c94); (try clear GH); (try clear c97); (try clear HH); (try clear c98); (try clear c99); (try clear c100); (try clear c101); (try clear c102); (try clear c104); (try clear fG); (try clear gG); (try clear c105); (try clear hG); (try clear iG); (try clear c106); (try clear c107); (try clear c108); (try clear c109); (try clear c110); (try clear c112); (try clear DG); (try clear EG); (try clear c113); (try clear FG); (try clear GG); (try clear c114); (try clear c115); (try clear c116); (try clear c117); (try clear c118); (try clear c120); (try clear c121); (try clear c122); (try clear c123); (try clear c124); (try clear c126); (try clear vH); (try clear wH); (try clear LF); (try clear MF); (try clear NF); (try clear OF); (try clear PF); (try clear QF); (try clear RF); (try clear SF); (try clear TF); (try clear UF); (try clear jG); (try clear kG); (try clear lG); (try clear mG); (try clear nG); (try clear oG); (try clear pG); (try clear qG); (try clear rG); (try clear sG); (try clear HG); (try clear IG); (try clear JG); (try clear KG); (try clear LG); (try clear MG); (try clear NG); (try clear OG); (try clear PG); (try clear QG); (try clear bH); (try clear cH); (try clear dH); (try clear eH); (try clear fH); (try clear gH); (try clear hH); (try clear iH); (try clear jH); (try clear kH); (try clear eC); (try clear fC); (try clear gC); (try clear hC); (try clear iC); (try clear jC); (try clear kC); (try clear lC); (try clear mC); (try clear nC); (try clear yC); (try clear zC); (try clear AC); (try clear BC); (try clear GC); (try clear OC); (try clear QC); (try clear RC); (try clear SC); (try clear TC); (try clear UC); (try clear VC); (try clear WC); (try clear XC); (try clear YC); (try clear ZC); (try clear kD); (try clear mD); (try clear nD); (try clear oD); (try clear pD); (try clear uD); (try clear wD); (try clear xD); (try clear yD); (try clear zD); (try clear AD); (try clear BD); (try clear CD); (try clear DD); (try clear ED); (try clear FD); (try clear QD); (try clear RD); (try clear SD); (try clear TD); (try clear UD); (try clear VD); (try clear WD); (try clear XD); (try clear YD); (try clear ZD); (try clear kE); (try clear lE); (try clear mE); (try clear nE); (try clear oE); (try clear pE); (try clear qE); (try clear rE); (try clear sE); (try clear tE); (try clear EE); (try clear FE); (try clear GE); (try clear HE); (try clear IE); (try clear JE); (try clear KE); (try clear LE); (try clear ME); (try clear NE); (try clear lF); (try clear mF); (try clear nF); (try clear oF); (try clear pF); (try clear qF); (try clear rF); (try clear sF); (try clear tF); (try clear uF); (try clear VF); (try clear WF); (try clear XF); (try clear YF); (try clear ZF); (try clear aG); (try clear bG); (try clear cG); (try clear dG); (try clear eG); (try clear tG); (try clear uG); (try clear vG); (try clear wG); (try clear xG); (try clear yG); (try clear zG); (try clear AG); (try clear BG); (try clear CG); (try clear RG); (try clear SG); (try clear TG); (try clear UG); (try clear VG); (try clear WG); (try clear XG); (try clear YG); (try clear ZG); (try clear aH); (try clear lH); (try clear mH); (try clear nH); (try clear oH); (try clear pH); (try clear qH); (try clear rH); (try clear sH); (try clear tH); (try clear uH); (try clear oC); (try clear pC); (try clear qC); (try clear rC); (try clear sC); (try clear tC); (try clear uC); (try clear vC); (try clear wC); (try clear xC); (try clear CC); (try clear DC); (try clear EC); (try clear FC); (try clear HC); (try clear PC); (try clear aD); (try clear bD); (try clear cD); (try clear dD); (try clear eD); (try clear fD); (try clear gD); (try clear hD); (try clear iD); (try clear jD); (try clear lD); (try clear qD); (try clear rD); (try clear sD); (try clear tD); (try clear vD); (try clear GD); (try clear HD); (try clear ID); (try clear JD); (try clear KD); (try clear LD); (try clear MD); (try clear ND); (try clear OD); (try clear PD); (try clear aE); (try clear bE); (try clear cE); (try clear dE); (try clear eE); (try clear fE); (try clear gE); (try clear hE); (try clear iE); (try clear jE); (try clear uE); (try clear vE); (try clear wE); (try clear xE); (try clear yE); (try clear zE); (try clear AE); (try clear BE); (try clear CE); (try clear DE); (try clear OE); (try clear PE); (try clear QE); (try clear RE); (try clear SE); (try clear TE); (try clear UE); (try clear VE); (try clear WE); (try clear XE); (try clear vF); (try clear wF); (try clear xF); (try clear yF); (try clear zF); (try clear AF); (try clear BF); (try clear CF); (try clear DF); (try clear EF); (try clear p2); (try clear p6); (try clear p64)
      obtain ⟨kq, rA, CA, IA, MA, UA, YA, aB, dB, eB, jB, HA, HJ38, TA, oA, bA, pA, eA, hA, WA, HB⟩ := hcut
      cases kq with
      | zero => exact absurd HA.out (by simp [impl_RiStep.j3])
      | succ kj38 =>
       have H := HA.out
       clear HA
       simp only [impl_RiStep.j3] at H
       simp only [Option.some.injEq, Prod.mk.injEq] at H
       obtain ⟨rfl, rfl, rfl, rfl, rfl, rfl, rfl, rfl, rfl, rfl, rfl, rfl⟩ := H
       try go_wp2
       have CB := Aside0.mk (Kd.R_drew TA.out)
       have DB := Aside0.mk (blk_drew oA.out)
       have EB := Aside0.mk (blk_drew bA.out)
       have FB := Aside0.mk (blk_drew pA.out)
       have OB := Aside0.mk (blk_drew eA.out)
       have RB := Aside0.mk (blk_drew hA.out)
       have SB := Aside0.mk (blk_drew WA.out)
       have aC := Aside0.mk (below_drew1 HB.out)
       clear TA oA bA pA eA hA WA HB
       have TA := CB
       have oA := DB
       have bA := EB
       have pA := FB
       have eA := OB
       have hA := RB
       have WA := SB
       have HB := aC
       clear CB DB EB FB OB RB SB aC
       refine start_ (n := 5) (S := fun w' => w'.cell? ⟨BA, 0, none⟩ = some (.slice PB mB.length QB) ∧ w'.cell? ⟨dA, 0, none⟩ = some (.int .i64 rA) ∧ w'.cell? ⟨dA, 1, none⟩ = some (.int .i64 CA) ∧ w'.cell? ⟨dA, 2, none⟩ = some (.int .i64 IA) ∧ w'.cell? ⟨dA, 3, none⟩ = some (.int .i64 MA) ∧ w'.cell? ⟨dA, 4, none⟩ = some (.int .i64 UA) ∧ w'.cell? ⟨dA, 5, none⟩ = some (.int .i64 YA) ∧ w'.cell? ⟨dA, 6, none⟩ = some (.int .i64 aB) ∧ w'.cell? ⟨dA, 7, none⟩ = some (.int .i64 dB) ∧ w'.cell? ⟨dA, 8, none⟩ = some (.int .i64 eB) ∧ w'.cell? ⟨dA, 9, none⟩ = some (.bool jB)) (ds := []) #[F,F,F,F,F] (by kernel_rfl) rfl rfl ⟨(blk_cell WA.out 0).trans rfl, (blk_cell bA.out 0).trans rfl, (blk_cell bA.out 1).trans rfl, (blk_cell bA.out 2).trans rfl, (blk_cell bA.out 3).trans rfl, (blk_cell bA.out 4).trans rfl, (blk_cell bA.out 5).trans rfl, (blk_cell bA.out 6).trans rfl, (blk_cell bA.out 7).trans rfl, (blk_cell bA.out 8).trans rfl, (blk_cell bA.out 9).trans rfl⟩ (fun hHeld => ?_)
       generalize wc.drew = NC at TA oA bA pA eA hA WA HB hHeld ⊢
       refine take_ (i := 0) (N := some 107) (v := ?_) (a' := ?_) #[T,F,F,F,F] rfl rfl (by kernel_rfl) (fun _ _ _ h => h) (Or.inl ⟨by rfl, ?_⟩) hHeld ?_ ?_
       rotate_left
       ·rintro w' ⟨s0, s1, s2, s3, s4, s5, s6, s7, s8, s9, qN⟩
        go_simp
        with_reducible rfl
       rotate_left
       ·simp only [Act.put, List.setIfInBounds_toArray, List.set_cons_zero, List.set_cons_succ, i64_w, i32_w]
        rfl
       refine take_ (i := 1) (N := some 108) (v := ?_) (a' := ?_) #[T,T,F,F,F] rfl rfl (by kernel_rfl) (fun _ _ _ h => h) (Or.inl ⟨by rfl, ?_⟩) hHeld ?_ ?_
       rotate_left
       ·rintro w' ⟨s0, s1, s2, s3, s4, s5, s6, s7, s8, s9, qN⟩
        go_simp
        with_reducible rfl
       rotate_left
       ·simp only [Act.put, List.setIfInBounds_toArray, List.set_cons_zero, List.set_cons_succ, i64_w, i32_w]
        rfl
       refine one_ (i := 2) (N := none) #[T,T,T,F,F] rfl rfl (by kernel_rfl) (by decide) (fun K hK => ?_)
       have cN : NC.cell? ⟨kA, 0, none⟩ = some (.slice none 0 0) := (blk_cell pA.out 0).trans rfl
       have dK := blk_frozen pA.out 0
       have pI := GB.out
       have qI := fA.out
       have rI := wB.out
       have sI := LB.out
       have tI := NB.out
       have uI := IB.out
       have vI := lA.out
       have wI := AB.out
       have xI := uB.out
       have yI := gB.out
       refine skip_ (w1 := ?_) (by rfl) rfl ?_ ?_
       rotate_left
       ·go_simp
        rfl
       refine hK.out _ _ ⟨((cell_far (p := ⟨kA, _, none⟩) NB.out _).trans (hHeld.1)), ((cell_far (p := ⟨kA, _, none⟩) fA.out _).trans (hHeld.2.1)), ((cell_far (p := ⟨kA, _, none⟩) fA.out _).trans (hHeld.2.2.1)), ((cell_far (p := ⟨kA, _, none⟩) fA.out _).trans (hHeld.2.2.2.1)), ((cell_far (p := ⟨kA, _, none⟩) fA.out _).trans (hHeld.2.2.2.2.1)), ((cell_far (p := ⟨kA, _, none⟩) fA.out _).trans (hHeld.2.2.2.2.2.1)), ((cell_far (p := ⟨kA, _, none⟩) fA.out _).trans (hHeld.2.2.2.2.2.2.1)), ((cell_far (p := ⟨kA, _, none⟩) fA.out _).trans (hHeld.2.2.2.2.2.2.2.1)), ((cell_far (p := ⟨kA, _, none⟩) fA.out _).trans (hHeld.2.2.2.2.2.2.2.2.1)), ((cell_far (p := ⟨kA, _, none⟩) fA.out _).trans (hHeld.2.2.2.2.2.2.2.2.2.1)), ((cell_far (p := ⟨kA, _, none⟩) fA.out _).trans (hHeld.2.2.2.2.2.2.2.2.2.2))⟩ (fun hHeld => ?_)
       clear hK K
       refine one_ (i := 3) (N := none) #[T,T,T,T,F] rfl rfl (by kernel_rfl) (by decide) (fun K hK => ?_)
       have dN : NC.cell? ⟨cA, 0, none⟩ = some (.int .i64 0) := (blk_cell eA.out 0).trans rfl
       have eK := blk_frozen eA.out 0
       have zI := JB.out
       have AI := aA.out
       have BI := MB.out
       have CI := LA.out
       have DI := KB.out
       have EI := mA.out
       have FI := vB.out
       have GI := hB.out
       have eN : NC.cell? ⟨cA, 1, none⟩ = some (.int .i64 0) := (blk_cell eA.out 1).trans rfl
       have fK := blk_frozen eA.out 1
       have fN : NC.cell? ⟨cA, 2, none⟩ = some (.int .i64 0) := (blk_cell eA.out 2).trans rfl
       have gK := blk_frozen eA.out 2
       have gN : NC.cell? ⟨cA, 3, none⟩ = some (.int .i64 0) := (blk_cell eA.out 3).trans rfl
       have iK := blk_frozen eA.out 3
       have hN : NC.cell? ⟨cA, 4, none⟩ = some (.int .i64 0) := (blk_cell eA.out 4).trans rfl
       have jK := blk_frozen eA.out 4
       have iN : NC.cell? ⟨cA, 5, none⟩ = some (.int .i64 0) := (blk_cell eA.out 5).trans rfl
       have kK := blk_frozen eA.out 5
       have jN : NC.cell? ⟨cA, 6, none⟩ = some (.int .i64 0) := (blk_cell eA.out 6).trans rfl
       have lK := blk_frozen eA.out 6
       have kN : NC.cell? ⟨cA, 7, none⟩ = some (.int .i64 0) := (blk_cell eA.out 7).trans rfl
       have mK := blk_frozen eA.out 7
       have lN : NC.cell? ⟨cA, 8, none⟩ = some (.int .i64 0) := (blk_cell eA.out 8).trans rfl
       have nK := blk_frozen eA.out 8
       have mN : NC.cell? ⟨cA, 9, none⟩ = some (.bool false) := (blk_cell eA.out 9).trans rfl
       have oK := blk_frozen eA.out 9
       refine skip_ (w1 := ?_) (by rfl) rfl ?_ ?_
       rotate_left
       ·go_simp
        rfl
       refine hK.out _ _ ⟨((cell_far (p := ⟨cA, _, none⟩) LA.out _).trans (((cell_far (p := ⟨cA, _, none⟩) LA.out _).trans (((cell_far (p := ⟨cA, _, none⟩) LA.out _).trans (((cell_far (p := ⟨cA, _, none⟩) LA.out _).trans (((cell_far (p := ⟨cA, _, none⟩) LA.out _).trans (((cell_far (p := ⟨cA, _, none⟩) LA.out _).trans (((cell_far (p := ⟨cA, _, none⟩) LA.out _).trans (((cell_far (p := ⟨cA, _, none⟩) LA.out _).trans (((cell_far (p := ⟨cA, _, none⟩) LA.out _).trans (((cell_far (p := ⟨cA, _, none⟩) LA.out _).trans (hHeld.1)))))))))))))))))))), ((cell_far (p := ⟨cA, _, none⟩) aA.out _).trans (((cell_far (p := ⟨cA, _, none⟩) aA.out _).trans (((cell_far (p := ⟨cA, _, none⟩) aA.out _).trans (((cell_far (p := ⟨cA, _, none⟩) aA.out _).trans (((cell_far (p := ⟨cA, _, none⟩) aA.out _).trans (((cell_far (p := ⟨cA, _, none⟩) aA.out _).trans (((cell_far (p := ⟨cA, _, none⟩) aA.out _).trans (((cell_far (p := ⟨cA, _, none⟩) aA.out _).trans (((cell_far (p := ⟨cA, _, none⟩) aA.out _).trans (((cell_far (p := ⟨cA, _, none⟩) aA.out _).trans (hHeld.2.1)))))))))))))))))))), ((cell_far (p := ⟨cA, _, none⟩) aA.out _).trans (((cell_far (p := ⟨cA, _, none⟩) aA.out _).trans (((cell_far (p := ⟨cA, _, none⟩) aA.out _).trans (((cell_far (p := ⟨cA, _, none⟩) aA.out _).trans (((cell_far (p := ⟨cA, _, none⟩) aA.out _).trans (((cell_far (p := ⟨cA, _, none⟩) aA.out _).trans (((cell_far (p := ⟨cA, _, none⟩) aA.out _).trans (((cell_far (p := ⟨cA, _, none⟩) aA.out _).trans (((cell_far (p := ⟨cA, _, none⟩) aA.out _).trans (((cell_far (p := ⟨cA, _, none⟩) aA.out _).trans (hHeld.2.2.1)))))))))))))))))))), ((cell_far (p := ⟨cA, _, none⟩) aA.out _).trans (((cell_far (p := ⟨cA, _, none⟩) aA.out _).trans (((cell_far (p := ⟨cA, _, none⟩) aA.out _).trans (((cell_far (p := ⟨cA, _, none⟩) aA.out _).trans (((cell_far (p := ⟨cA, _, none⟩) aA.out _).trans (((cell_far (p := ⟨cA, _, none⟩) aA.out _).trans (((cell_far (p := ⟨cA, _, none⟩) aA.out _).trans (((cell_far (p := ⟨cA, _, none⟩) aA.out _).trans (((cell_far (p := ⟨cA, _, none⟩) aA.out _).trans (((cell_far (p := ⟨cA, _, none⟩) aA.out _).trans (hHeld.2.2.2.1)))))))))))))))))))), ((cell_far (p := ⟨cA, _, none⟩) aA.out _).trans (((cell_far (p := ⟨cA, _, none⟩) aA.out _).trans (((cell_far (p := ⟨cA, _, none⟩) aA.out _).trans (((cell_far (p := ⟨cA, _, none⟩) aA.out _).trans (((cell_far (p := ⟨cA, _, none⟩) aA.out _).trans (((cell_far (p := ⟨cA, _, none⟩) aA.out _).trans (((cell_far (p := ⟨cA, _, none⟩) aA.out _).trans (((cell_far (p := ⟨cA, _, none⟩) aA.out _).trans (((cell_far (p := ⟨cA, _, none⟩) aA.out _).trans (((cell_far (p := ⟨cA, _, none⟩) aA.out _).trans (hHeld.2.2.2.2.1)))))))))))))))))))), ((cell_far (p := ⟨cA, _, none⟩) aA.out _).trans (((cell_far (p := ⟨cA, _, none⟩) aA.out _).trans (((cell_far (p := ⟨cA, _, none⟩) aA.out _).trans (((cell_far (p := ⟨cA, _, none⟩) aA.out _).trans (((cell_far (p := ⟨cA, _, none⟩) aA.out _).trans (((cell_far (p := ⟨cA, _, none⟩) aA.out _).trans (((cell_far (p := ⟨cA, _, none⟩) aA.out _).trans (((cell_far (p := ⟨cA, _, none⟩) aA.out _).trans (((cell_far (p := ⟨cA, _, none⟩) aA.out _).trans (((cell_far (p := ⟨cA, _, none⟩) aA.out _).trans (hHeld.2.2.2.2.2.1)))))))))))))))))))), ((cell_far (p := ⟨cA, _, none⟩) aA.out _).trans (((cell_far (p := ⟨cA, _, none⟩) aA.out _).trans (((cell_far (p := ⟨cA, _, none⟩) aA.out _).trans (((cell_far (p := ⟨cA, _, none⟩) aA.out _).trans (((cell_far (p := ⟨cA, _, none⟩) aA.out _).trans (((cell_far (p := ⟨cA, _, none⟩) aA.out _).trans (((cell_far (p := ⟨cA, _, none⟩) aA.out _).trans (((cell_far (p := ⟨cA, _, none⟩) aA.out _).trans (((cell_far (p := ⟨cA, _, none⟩) aA.out _).trans (((cell_far (p := ⟨cA, _, none⟩) aA.out _).trans (hHeld.2.2.2.2.2.2.1)))))))))))))))))))), ((cell_far (p := ⟨cA, _, none⟩) aA.out _).trans (((cell_far (p := ⟨cA, _, none⟩) aA.out _).trans (((cell_far (p := ⟨cA, _, none⟩) aA.out _).trans (((cell_far (p := ⟨cA, _, none⟩) aA.out _).trans (((cell_far (p := ⟨cA, _, none⟩) aA.out _).trans (((cell_far (p := ⟨cA, _, none⟩) aA.out _).trans (((cell_far (p := ⟨cA, _, none⟩) aA.out _).trans (((cell_far (p := ⟨cA, _, none⟩) aA.out _).trans (((cell_far (p := ⟨cA, _, none⟩) aA.out _).trans (((cell_far (p := ⟨cA, _, none⟩) aA.out _).trans (hHeld.2.2.2.2.2.2.2.1)))))))))))))))))))), ((cell_far (p := ⟨cA, _, none⟩) aA.out _).trans (((cell_far (p := ⟨cA, _, none⟩) aA.out _).trans (((cell_far (p := ⟨cA, _, none⟩) aA.out _).trans (((cell_far (p := ⟨cA, _, none⟩) aA.out _).trans (((cell_far (p := ⟨cA, _, none⟩) aA.out _).trans (((cell_far (p := ⟨cA, _, none⟩) aA.out _).trans (((cell_far (p := ⟨cA, _, none⟩) aA.out _).trans (((cell_far (p := ⟨cA, _, none⟩) aA.out _).trans (((cell_far (p := ⟨cA, _, none⟩) aA.out _).trans (((cell_far (p := ⟨cA, _, none⟩) aA.out _).trans (hHeld.2.2.2.2.2.2.2.2.1)))))))))))))))))))), ((cell_far (p := ⟨cA, _, none⟩) aA.out _).trans (((cell_far (p := ⟨cA, _, none⟩) aA.out _).trans (((cell_far (p := ⟨cA, _, none⟩) aA.out _).trans (((cell_far (p := ⟨cA, _, none⟩) aA.out _).trans (((cell_far (p := ⟨cA, _, none⟩) aA.out _).trans (((cell_far (p := ⟨cA, _, none⟩) aA.out _).trans (((cell_far (p := ⟨cA, _, none⟩) aA.out _).trans (((cell_far (p := ⟨cA, _, none⟩) aA.out _).trans (((cell_far (p := ⟨cA, _, none⟩) aA.out _).trans (((cell_far (p := ⟨cA, _, none⟩) aA.out _).trans (hHeld.2.2.2.2.2.2.2.2.2.1)))))))))))))))))))), ((cell_far (p := ⟨cA, _, none⟩) aA.out _).trans (((cell_far (p := ⟨cA, _, none⟩) aA.out _).trans (((cell_far (p := ⟨cA, _, none⟩) aA.out _).trans (((cell_far (p := ⟨cA, _, none⟩) aA.out _).trans (((cell_far (p := ⟨cA, _, none⟩) aA.out _).trans (((cell_far (p := ⟨cA, _, none⟩) aA.out _).trans (((cell_far (p := ⟨cA, _, none⟩) aA.out _).trans (((cell_far (p := ⟨cA, _, none⟩) aA.out _).trans (((cell_far (p := ⟨cA, _, none⟩) aA.out _).trans (((cell_far (p := ⟨cA, _, none⟩) aA.out _).trans (hHeld.2.2.2.2.2.2.2.2.2.2))))))))))))))))))))⟩ (fun hHeld => ?_)
       clear hK K
       refine pure_ (i := 4) (N := some 8) (v := ?_) (a' := ?_) #[T,T,T,T,T] rfl rfl (by kernel_rfl) (fun _ _ _ h => h) (Or.inl ⟨by rfl, ?_⟩) ?_ ?_
       rotate_left
       ·intro w'
        go_simp
        with_reducible rfl
       rotate_left
       ·simp only [Act.put, List.setIfInBounds_toArray, List.set_cons_zero, List.set_cons_succ, i64_w, i32_w]
        rfl
       refine done_ (by kernel_rfl) ?_
       try go_wp2
       refine bodyPost_ret (results_list (rs := [.cell 6 29, .cell 7 23, .tmp 8]) rfl (by simp) (.cell kA 29 #[.slice PB mB.length QB] (0, 0) _ rfl q4_33 Try.underlying29 rfl (by kernel_rfl) (.cell cA 23 #[.int .i64 rA, .int .i64 CA, .int .i64 IA, .int .i64 MA, .int .i64 UA, .int .i64 YA, .int .i64 aB, .int .i64 dB, .int .i64 eB, .bool jB] (0, 0) _ rfl (by (with_reducible repeat (first | refine blk_drewN ?_ _ | refine blk_drew ?_ | refine blk_alloc ?_ _)); refine blk_put (cs := #[.int .i64 rA, .int .i64 CA, .int .i64 IA, .int .i64 MA, .int .i64 UA, .int .i64 YA, .int .i64 aB, .int .i64 dB, .int .i64 eB, .bool false]) ?_ 9 _ rfl; (with_reducible repeat (first | refine blk_drewN ?_ _ | refine blk_drew ?_ | refine blk_alloc ?_ _)); refine blk_put (cs := #[.int .i64 rA, .int .i64 CA, .int .i64 IA, .int .i64 MA, .int .i64 UA, .int .i64 YA, .int .i64 aB, .int .i64 dB, .int .i64 0, .bool false]) ?_ 8 _ rfl; (with_reducible repeat (first | refine blk_drewN ?_ _ | refine blk_drew ?_ | refine blk_alloc ?_ _)); refine blk_put (cs := #[.int .i64 rA, .int .i64 CA, .int .i64 IA, .int .i64 MA, .int .i64 UA, .int .i64 YA, .int .i64 aB, .int .i64 0, .int .i64 0, .bool false]) ?_ 7 _ rfl; (with_reducible repeat (first | refine blk_drewN ?_ _ | refine blk_drew ?_ | refine blk_alloc ?_ _)); refine blk_put (cs := #[.int .i64 rA, .int .i64 CA, .int .i64 IA, .int .i64 MA, .int .i64 UA, .int .i64 YA, .int .i64 0, .int .i64 0, .int .i64 0, .bool false]) ?_ 6 _ rfl; (with_reducible repeat (first | refine blk_drewN ?_ _ | refine blk_drew ?_ | refine blk_alloc ?_ _)); refine blk_put (cs := #[.int .i64 rA, .int .i64 CA, .int .i64 IA, .int .i64 MA, .int .i64 UA, .int .i64 0, .int .i64 0, .int .i64 0, .int .i64 0, .bool false]) ?_ 5 _ rfl; (with_reducible repeat (first | refine blk_drewN ?_ _ | refine blk_drew ?_ | refine blk_alloc ?_ _)); refine blk_put (cs := #[.int .i64 rA, .int .i64 CA, .int .i64 IA, .int .i64 MA, .int .i64 0, .int .i64 0, .int .i64 0, .int .i64 0, .int .i64 0, .bool false]) ?_ 4 _ rfl; (with_reducible repeat (first | refine blk_drewN ?_ _ | refine blk_drew ?_ | refine blk_alloc ?_ _)); refine blk_put (cs := #[.int .i64 rA, .int .i64 CA, .int .i64 IA, .int .i64 0, .int .i64 0, .int .i64 0, .int .i64 0, .int .i64 0, .int .i64 0, .bool false]) ?_ 3 _ rfl; (with_reducible repeat (first | refine blk_drewN ?_ _ | refine blk_drew ?_ | refine blk_alloc ?_ _)); refine blk_put (cs := #[.int .i64 rA, .int .i64 CA, .int .i64 0, .int .i64 0, .int .i64 0, .int .i64 0, .int .i64 0, .int .i64 0, .int .i64 0, .bool false]) ?_ 2 _ rfl; (with_reducible repeat (first | refine blk_drewN ?_ _ | refine blk_drew ?_ | refine blk_alloc ?_ _)); refine blk_put (cs := #[.int .i64 rA, .int .i64 0, .int .i64 0, .int .i64 0, .int .i64 0, .int .i64 0, .int .i64 0, .int .i64 0, .int .i64 0, .bool false]) ?_ 1 _ rfl; (with_reducible repeat (first | refine blk_drewN ?_ _ | refine blk_drew ?_ | refine blk_alloc ?_ _)); refine blk_put (cs := #[.int .i64 0, .int .i64 0, .int .i64 0, .int .i64 0, .int .i64 0, .int .i64 0, .int .i64 0, .int .i64 0, .int .i64 0, .bool false]) ?_ 0 _ rfl; (with_reducible repeat (first | refine blk_drewN ?_ _ | refine blk_drew ?_ | refine blk_alloc ?_ _)); refine blk_far ?_ wB.out _; (with_reducible repeat (first | refine blk_drewN ?_ _ | refine blk_drew ?_ | refine blk_alloc ?_ _)); exact eA.out) Try.underlying23 rfl (by kernel_rfl) (.tmp .nil)))) rfl ?_
       exact ⟨_, by first | rfl | (simp [errW_none, errW_some] <;> rfl) | (simp [*, errW_none, errW_some] <;> rfl), by (with_reducible repeat (first | apply Kd.R_alloc | apply Kd.R_drewN | apply Kd.R_drew)); exact Kd.R_mono (Kd.R_far (p := ⟨cA, 9, none⟩) (Kd.R_far (p := ⟨cA, 8, none⟩) (Kd.R_far (p := ⟨cA, 7, none⟩) (Kd.R_far (p := ⟨cA, 6, none⟩) (Kd.R_far (p := ⟨cA, 5, none⟩) (Kd.R_far (p := ⟨cA, 4, none⟩) (Kd.R_far (p := ⟨cA, 3, none⟩) (Kd.R_far (p := ⟨cA, 2, none⟩) (Kd.R_far (p := ⟨cA, 1, none⟩) (Kd.R_far (p := ⟨cA, 0, none⟩) (Kd.R_far (p := ⟨kA, 0, none⟩) (Kd.R_types (Kd.R_types TA.out pA.out (by decide)) eA.out (by decide)) (fun _ hk => hk.1.2) (.slice PB mB.length QB)) (fun _ hk => hk.2) (.int .i64 rA)) (fun _ hk => hk.2) (.int .i64 CA)) (fun _ hk => hk.2) (.int .i64 IA)) (fun _ hk => hk.2) (.int .i64 MA)) (fun _ hk => hk.2) (.int .i64 UA)) (fun _ hk => hk.2) (.int .i64 YA)) (fun _ hk => hk.2) (.int .i64 aB)) (fun _ hk => hk.2) (.int .i64 dB)) (fun _ hk => hk.2) (.int .i64 eB)) (fun _ hk => hk.2) (.bool jB)) (fun _ hk => trivial), q4_0⟩
    ·replace c38 := Bool.eq_false_iff.mpr c38
     subst c38
     rw [if_neg (show ¬ (false = true) by decide)] at H
     simp only [Option.some.injEq, Prod.mk.injEq] at H
     obtain ⟨rfl, rfl, rfl, rfl, rfl, rfl, rfl, rfl, rfl, rfl, rfl, rfl⟩ := H
     have pK := nA.out
     have qK := DA.out
     have rK := GB.out
     have sK := IB.out
     have tK := JB.out
     have uK := KB.out
     have vK := BB.out
     have wK := TB.out
     have HI : wc.cell? ⟨JA, 0, none⟩ = some (.slice nB ZA.length oB) := (blk_cell oA.out 0).trans rfl
     have II := blk_frozen oA.out 0
     have xK := tA.out
     have yK := EA.out
     have zK := LB.out
     have AK := uB.out
     have BK := MB.out
     have CK := vB.out
     have JI : wc.cell? ⟨zA, 0, none⟩ = some (.int .i64 lB) := (blk_cell hA.out 0).trans rfl
     have KI : wc.cell? ⟨zA, 1, none⟩ = some (.int .i64 qB) := (blk_cell hA.out 1).trans rfl
     have LI : wc.cell? ⟨zA, 2, none⟩ = some (.int .i64 sB) := (blk_cell hA.out 2).trans rfl
     have MI : wc.cell? ⟨zA, 3, none⟩ = some (.int .i64 xB) := (blk_cell hA.out 3).trans rfl
     have NI := blk_frozen hA.out 0
     have OI := blk_frozen hA.out 1
     have PI := blk_frozen hA.out 2
     have QI := blk_frozen hA.out 3
     go_wp2_with (first | ((with_reducible refine gate_callee (f := 68) rfl ?_); refine goesL_ (some 38) rfl rfl Try.func68 (by kernel_rfl) rfl #[.agg #[.slice nB ZA.length oB], .agg #[.int .i64 lB, .int .i64 qB, .int .i64 sB, .int .i64 xB]] rfl q4_26 ?_; (with_reducible refine (impl_Do.calls _ _ ZA lB qB sB xB mB iB false _ ?side1 ?side2 A37.out).mono ?_); (case side1 => repeat (first | exact (Kd.C_below EH.out HB.out) | (with_reducible refine Kd.C_alloc ?_ _) | (with_reducible refine Kd.C_drewN ?_ _) | (with_reducible refine Kd.C_drew ?_))); (case side2 => exact FH.out); rintro e rN ⟨rJ, rfl, ho0, hb⟩; refine ⟨_, rfl, ?_⟩; have CB := Aside0.mk (Kd.R_lower ho0 (below_size q4_1)); have DB := Aside0.mk (blk_below (g := JA) (o := .cells #[.slice nB ZA.length oB] 29 (0, 0)) q4_2 hb); have EB := Aside0.mk (blk_below (g := dA) (o := .cells #[.int .i64 iA, .int .i64 uA, .int .i64 vA, .int .i64 gA, .int .i64 qA, .int .i64 NA, .int .i64 wA, .int .i64 xA, .int .i64 AA, .bool yA] 23 (0, 0)) q4_3 hb); have FB := Aside0.mk (blk_below (g := kA) (o := .cells #[.slice none 0 0] 29 (0, 0)) q4_4 hb); have OB := Aside0.mk (blk_below (g := cA) (o := .cells #[.int .i64 0, .int .i64 0, .int .i64 0, .int .i64 0, .int .i64 0, .int .i64 0, .int .i64 0, .int .i64 0, .int .i64 0, .bool false] 23 (0, 0)) q4_5 hb); have RB := Aside0.mk (blk_below (g := zA) (o := .cells #[.int .i64 lB, .int .i64 qB, .int .i64 sB, .int .i64 xB] 37 (0, 0)) q4_6 hb); have SB := Aside0.mk (below_step q4_1 hb); clear oA bA pA eA hA HB; have rB := CB; have oA := DB; have bA := EB; have pA := FB; have eA := OB; have hA := RB; have HB := SB; clear CB DB EB FB OB RB SB; (try clear hb); (try clear hb2); (try clear hk); (try clear hi); (try clear ho0)) | ((with_reducible refine gate_dst (N := 11) rfl ?_); (try (refine gate_guard (by rfl) ?_; dsimp only)); refine box_event ?hg (N := 11) ?hd (cs := #[.slice none 0 0]) (t := 29) ?hr ?_; (case hd => rfl); (case hg => rfl); (case hr => first | (go_simp; done) | (go_simp; rfl)); intro BA hg dC hbox hb; have CB := Aside0.mk (Kd.R_below q4_48 hb); have DB := Aside0.mk (blk_below (g := JA) (o := .cells #[.slice nB ZA.length oB] 29 (0, 0)) q4_2 hb); have EB := Aside0.mk (blk_below (g := dA) (o := .cells #[.int .i64 iA, .int .i64 uA, .int .i64 vA, .int .i64 gA, .int .i64 qA, .int .i64 NA, .int .i64 wA, .int .i64 xA, .int .i64 AA, .bool yA] 23 (0, 0)) q4_3 hb); have FB := Aside0.mk (blk_below (g := kA) (o := .cells #[.slice none 0 0] 29 (0, 0)) q4_4 hb); have OB := Aside0.mk (blk_below (g := cA) (o := .cells #[.int .i64 0, .int .i64 0, .int .i64 0, .int .i64 0, .int .i64 0, .int .i64 0, .int .i64 0, .int .i64 0, .int .i64 0, .bool false] 23 (0, 0)) q4_5 hb); have RB := Aside0.mk (blk_below (g := zA) (o := .cells #[.int .i64 lB, .int .i64 qB, .int .i64 sB, .int .i64 xB] 37 (0, 0)) q4_6 hb); have SB := Aside0.mk (below_step q4_1 hb); have aC := Aside0.mk (hbox); have eF := Aside0.mk ((by rw [hg]; exact (below_size q4_1) : w.heap.size ≤ BA)); have fF := Aside0.mk ((by rw [hg]; exact (below_size q4_1) : w.heap.size ≤ BA)); have JC := Aside0.mk ((q4_29 : JA ≠ BA)); have KC := Aside0.mk ((q4_30 : BA ≠ JA)); have LC := Aside0.mk ((q4_19 : dA ≠ BA)); have aF := Aside0.mk ((q4_20 : BA ≠ dA)); have bF := Aside0.mk ((q4_39 : kA ≠ BA)); have cF := Aside0.mk ((q4_40 : BA ≠ kA)); have HF := Aside0.mk ((q4_34 : cA ≠ BA)); have IF := Aside0.mk ((q4_35 : BA ≠ cA)); have JF := Aside0.mk ((by rw [hg]; exact Nat.ne_of_lt (blk_lt (g := zA) (o := .cells #[.int .i64 lB, .int .i64 qB, .int .i64 sB, .int .i64 xB] 37 (0, 0)) q4_6) : zA ≠ BA)); have KF := Aside0.mk ((by rw [hg]; exact Nat.ne_of_gt (blk_lt (g := zA) (o := .cells #[.int .i64 lB, .int .i64 qB, .int .i64 sB, .int .i64 xB] 37 (0, 0)) q4_6) : BA ≠ zA)); clear rB oA bA pA eA hA HB; have rB := CB; have oA := DB; have bA := EB; have pA := FB; have eA := OB; have hA := RB; have HB := SB; have WA := aC; have KH := eF; have GF := fF; have yB := JC; have XB := KC; have jA := LC; have sA := aF; have gB := bF; have NB := cF; have hB := HF; have LA := IF; have zB := JF; have YB := KF; clear CB DB EB FB OB RB SB aC eF fF JC KC LC aF bF cF HF IF JF KF; clear hb hbox hg; obtain ⟨nN, oN, RI⟩ := Kd.R_slice rB.out; subst RI; have DK := XB.out; have EK := yB.out; have FK := sA.out; have GK := jA.out; have HK := NB.out; have IK := gB.out; have JK := LA.out; have KK := hB.out; have LK := YB.out; have MK := zB.out; have SI : dC.cell? ⟨BA, 0, none⟩ = some (.slice none 0 0) := (blk_cell WA.out 0).trans rfl; have TI := blk_frozen WA.out 0; have NK := lA.out; have OK := fA.out; have PK := AB.out; have QK := wB.out; have UI : dC.cell? ⟨kA, 0, none⟩ = some (.slice none 0 0) := (blk_cell pA.out 0).trans rfl; have VI := blk_frozen pA.out 0; have RK := mA.out; have SK := aA.out; have WI : dC.cell? ⟨cA, 0, none⟩ = some (.int .i64 0) := (blk_cell eA.out 0).trans rfl; have XI : dC.cell? ⟨cA, 1, none⟩ = some (.int .i64 0) := (blk_cell eA.out 1).trans rfl; have YI : dC.cell? ⟨cA, 2, none⟩ = some (.int .i64 0) := (blk_cell eA.out 2).trans rfl; have ZI : dC.cell? ⟨cA, 3, none⟩ = some (.int .i64 0) := (blk_cell eA.out 3).trans rfl; have aJ : dC.cell? ⟨cA, 4, none⟩ = some (.int .i64 0) := (blk_cell eA.out 4).trans rfl; have bJ : dC.cell? ⟨cA, 5, none⟩ = some (.int .i64 0) := (blk_cell eA.out 5).trans rfl; have cJ : dC.cell? ⟨cA, 6, none⟩ = some (.int .i64 0) := (blk_cell eA.out 6).trans rfl; have dJ : dC.cell? ⟨cA, 7, none⟩ = some (.int .i64 0) := (blk_cell eA.out 7).trans rfl; have eJ : dC.cell? ⟨cA, 8, none⟩ = some (.int .i64 0) := (blk_cell eA.out 8).trans rfl; have fJ : dC.cell? ⟨cA, 9, none⟩ = some (.bool false) := (blk_cell eA.out 9).trans rfl; have gJ := blk_frozen eA.out 0; have hJ := blk_frozen eA.out 1; have iJ := blk_frozen eA.out 2; have jJ := blk_frozen eA.out 3; have kJ := blk_frozen eA.out 4; have lJ := blk_frozen eA.out 5; have mJ := blk_frozen eA.out 6; have nJ := blk_frozen eA.out 7; have oJ := blk_frozen eA.out 8; have pJ := blk_frozen eA.out 9))
     refine bodyPost_ret (results_list (rs := [.cell 6 29, .cell 7 23, .tmp 8]) rfl (by simp) (.cell kA 29 #[.slice none 0 0] (0, 0) _ rfl (by (iterate 10 ((with_reducible repeat (first | refine blk_drewN ?_ _ | refine blk_drew ?_ | refine blk_alloc ?_ _)); refine blk_far ?_ AB.out _)); (with_reducible repeat (first | refine blk_drewN ?_ _ | refine blk_drew ?_ | refine blk_alloc ?_ _)); refine blk_put (cs := #[.slice none 0 0]) ?_ 0 _ rfl; (with_reducible repeat (first | refine blk_drewN ?_ _ | refine blk_drew ?_ | refine blk_alloc ?_ _)); refine blk_far ?_ gB.out _; (with_reducible repeat (first | refine blk_drewN ?_ _ | refine blk_drew ?_ | refine blk_alloc ?_ _)); exact pA.out) Try.underlying29 rfl (by kernel_rfl) (.cell cA 23 #[.int .i64 0, .int .i64 0, .int .i64 0, .int .i64 0, .int .i64 0, .int .i64 0, .int .i64 0, .int .i64 0, .int .i64 0, .bool false] (0, 0) _ rfl (by (with_reducible repeat (first | refine blk_drewN ?_ _ | refine blk_drew ?_ | refine blk_alloc ?_ _)); refine blk_put (cs := #[.int .i64 0, .int .i64 0, .int .i64 0, .int .i64 0, .int .i64 0, .int .i64 0, .int .i64 0, .int .i64 0, .int .i64 0, .bool false]) ?_ 9 _ rfl; (with_reducible repeat (first | refine blk_drewN ?_ _ | refine blk_drew ?_ | refine blk_alloc ?_ _)); refine blk_put (cs := #[.int .i64 0, .int .i64 0, .int .i64 0, .int .i64 0, .int .i64 0, .int .i64 0, .int .i64 0, .int .i64 0, .int .i64 0, .bool false]) ?_ 8 _ rfl; (with_reducible repeat (first | refine blk_drewN ?_ _ | refine blk_drew ?_ | refine blk_alloc ?_ _)); refine blk_put (cs := #[.int .i64 0, .int .i64 0, .int .i64 0, .int .i64 0, .int .i64 0, .int .i64 0, .int .i64 0, .int .i64 0, .int .i64 0, .bool false]) ?_ 7 _ rfl; (with_reducible repeat (first | refine blk_drewN ?_ _ | refine blk_drew ?_ | refine blk_alloc ?_ _)); refine blk_put (cs := #[.int .i64 0, .int .i64 0, .int .i64 0, .int .i64 0, .int .i64 0, .int .i64 0, .int .i64 0, .int .i64 0, .int .i64 0, .bool false]) ?_ 6 _ rfl; (with_reducible repeat (first | refine blk_drewN ?_ _ | refine blk_drew ?_ | refine blk_alloc ?_ _)); refine blk_put (cs := #[.int .i64 0, .int .i64 0, .int .i64 0, .int .i64 0, .int .i64 0, .int .i64 0, .int .i64 0, .int .i64 0, .int .i64 0, .bool false]) ?_ 5 _ rfl; (with_reducible repeat (first | refine blk_drewN ?_ _ | refine blk_drew ?_ | refine blk_alloc ?_ _)); refine blk_put (cs := #[.int .i64 0, .int .i64 0, .int .i64 0, .int .i64 0, .int .i64 0, .int .i64 0, .int .i64 0, .int .i64 0, .int .i64 0, .bool false]) ?_ 4 _ rfl; (with_reducible repeat (first | refine blk_drewN ?_ _ | refine blk_drew ?_ | refine blk_alloc ?_ _)); refine blk_put (cs := #[.int .i64 0, .int .i64 0, .int .i64 0, .int .i64 0, .int .i64 0, .int .i64 0, .int .i64 0, .int .i64 0, .int .i64 0, .bool false]) ?_ 3 _ rfl; (with_reducible repeat (first | refine blk_drewN ?_ _ | refine blk_drew ?_ | refine blk_alloc ?_ _)); refine blk_put (cs := #[.int .i64 0, .int .i64 0, .int .i64 0, .int .i64 0, .int .i64 0, .int .i64 0, .int .i64 0, .int .i64 0, .int .i64 0, .bool false]) ?_ 2 _ rfl; (with_reducible repeat (first | refine blk_drewN ?_ _ | refine blk_drew ?_ | refine blk_alloc ?_ _)); refine blk_put (cs := #[.int .i64 0, .int .i64 0, .int .i64 0, .int .i64 0, .int .i64 0, .int .i64 0, .int .i64 0, .int .i64 0, .int .i64 0, .bool false]) ?_ 1 _ rfl; (with_reducible repeat (first | refine blk_drewN ?_ _ | refine blk_drew ?_ | refine blk_alloc ?_ _)); refine blk_put (cs := #[.int .i64 0, .int .i64 0, .int .i64 0, .int .i64 0, .int .i64 0, .int .i64 0, .int .i64 0, .int .i64 0, .int .i64 0, .bool false]) ?_ 0 _ rfl; (with_reducible repeat (first | refine blk_drewN ?_ _ | refine blk_drew ?_ | refine blk_alloc ?_ _)); refine blk_far ?_ wB.out _; (with_reducible repeat (first | refine blk_drewN ?_ _ | refine blk_drew ?_ | refine blk_alloc ?_ _)); refine blk_far ?_ hB.out _; (with_reducible repeat (first | refine blk_drewN ?_ _ | refine blk_drew ?_ | refine blk_alloc ?_ _)); exact eA.out) Try.underlying23 rfl (by kernel_rfl) (.tmp .nil)))) rfl ?_
     exact ⟨_, by first | rfl | (simp [errW_none, errW_some] <;> rfl) | (simp [*, errW_none, errW_some] <;> rfl), by first | exact Kd.R_nil _ _ _ _ _ | exact Kd.N_nil _ _ _ _ _ | exact Kd.V_nil _ _ _ _ _ | exact Kd.Q_nil _ _ _ _ _ | exact Kd.S_nil _ _ _ _ _, q4_0⟩

end Go.Proofs.Ytfahmmlkcmadeaa.PFnRingOne
