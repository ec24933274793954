-- Written by the session's own patched copy of the printer (wip/patch_print.py).
import Derived.Test.YtlnjhgjjfplodaaPFnExactAdvancex0
import Derived.Test.YtlnjhgjjfplodaaPFnExactAdvancex1
import Derived.Test.YtlnjhgjjfplodaaPFnExactAdvancex2
import Derived.Test.YtlnjhgjjfplodaaPFnExactAdvancex3
import Derived.Test.YtlnjhgjjfplodaaPFnExactAdvancex5
import Derived.Test.YtlnjhgjjfplodaaPFnExactAdvancex8
namespace Go.Proofs.Ytlnjhgjjfplodaa.PFnExactAdvance
open Go.RowKit Go.Proofs.YtlnjhgjjfplodaaW.PrintWords Go.Proofs.YtlnjhgjjfplodaaW.PrintLast Go.Proofs.YtlnjhgjjfplodaaW.PrintMore
attribute [local go_sem] max2_int min2_int max_two min_two max_three min_three max_four min_four   -- for this text's walks alone
set_option linter.unusedVariables false
set_option linter.unusedSimpArgs false

open Bool renaming true → T, false → F
theorem q9_0 {p : Prop} (h : p := by repeat (first | (with_reducible first | exact HB.out | apply below_alloc | apply pw_below_drewN | apply below_drew1 | refine below_set ?_ GE234.out | refine below_set ?_ GE251.out | refine below_set ?_ GE259.out | refine below_set ?_ GE268.out) | exact HB.out)) : p := h
theorem q9_1 {p : Prop} (h : p := by (with_reducible repeat (first | refine blk_drewN ?_ _ | refine blk_drew ?_ | refine blk_alloc ?_ _)); exact BK234.out) : p := h
theorem q9_2 {p : Prop} (h : p := by (with_reducible repeat (first | refine blk_drewN ?_ _ | refine blk_drew ?_ | refine blk_alloc ?_ _)); exact BK251.out) : p := h
theorem q9_3 {p : Prop} (h : p := by (with_reducible repeat (first | refine blk_drewN ?_ _ | refine blk_drew ?_ | refine blk_alloc ?_ _)); exact BK259.out) : p := h
theorem q9_4 {p : Prop} (h : p := by (try simp only [List.map_toArray, List.map_cons, List.map_nil]); first | done | rfl | (simp only [List.length_drop, List.length_take]; rfl)) : p := h
theorem q9_5 {p : Prop} (h : p := by (with_reducible repeat (first | refine blk_drewN ?_ _ | refine blk_drew ?_ | refine blk_alloc ?_ _)); exact BK268.out) : p := h
theorem q9_6 {p : Prop} (h : p := by repeat (first | (with_reducible first | exact HB.out | apply below_alloc | apply pw_below_drewN | apply below_drew1 | refine below_set ?_ GE234.out | refine below_set ?_ GE251.out | refine below_set ?_ GE259.out | refine below_set ?_ GE268.out | refine below_set ?_ GE301.out) | exact HB.out)) : p := h
theorem q9_7 {p : Prop} (h : p := by (with_reducible repeat (first | apply Kd.R_alloc | apply Kd.R_drewN | apply Kd.R_drew)); exact HO_252001.out) : p := h
theorem q9_8 {p : Prop} (h : p := by (with_reducible repeat (first | apply Kd.R_alloc | apply Kd.R_drewN | apply Kd.R_drew)); exact HO_252002.out) : p := h
theorem q9_9 {p : Prop} (h : p := by (with_reducible repeat (first | apply Kd.R_alloc | apply Kd.R_drewN | apply Kd.R_drew)); exact HO_260001.out) : p := h
theorem q9_10 {p : Prop} (h : p := by (with_reducible repeat (first | apply Kd.R_alloc | apply Kd.R_drewN | apply Kd.R_drew)); exact HO_260002.out) : p := h
theorem q9_11 {p : Prop} (h : p := by (with_reducible repeat (first | apply Kd.R_alloc | apply Kd.R_drewN | apply Kd.R_drew)); exact HO_269001.out) : p := h
theorem q9_12 {p : Prop} (h : p := by (with_reducible repeat (first | apply Kd.R_alloc | apply Kd.R_drewN | apply Kd.R_drew)); exact HO_269002.out) : p := h
theorem q9_13 {p : Prop} (h : p := by repeat (first | (with_reducible first | exact HB.out | apply below_alloc | apply pw_below_drewN | apply below_drew1 | refine below_set ?_ GE234.out) | exact HB.out)) : p := h
theorem q9_14 {p : Prop} (h : p := by repeat (first | (with_reducible first | exact HB.out | apply below_alloc | apply pw_below_drewN | apply below_drew1 | refine below_set ?_ GE234.out | refine below_set ?_ GE251.out) | exact HB.out)) : p := h
theorem q9_15 {p : Prop} (h : p := by (with_reducible repeat (first | apply Kd.R_alloc | apply Kd.R_drewN | apply Kd.R_drew)); exact (Kd.R_mono (Kd.R_far (p := ⟨gb301, 2, none⟩) (Kd.R_far (p := ⟨gb301, 1, none⟩) (Kd.R_far (p := ⟨gb301, 0, none⟩) (Kd.R_types HO_252001.out BK301.out (by decide)) (fun _ hk => hk.2) (.int .i64 t293)) (fun _ hk => hk.2) (.slice Ao129 t294.length co129)) (fun _ hk => hk.2) (.slice Ao130 t297.length co130)) (fun _ h_ => h_.1))) : p := h
theorem q9_16 {p : Prop} (h : p := by (with_reducible repeat (first | apply Kd.R_alloc | apply Kd.R_drewN | apply Kd.R_drew)); exact (Kd.R_mono (Kd.R_far (p := ⟨gb301, 2, none⟩) (Kd.R_far (p := ⟨gb301, 1, none⟩) (Kd.R_far (p := ⟨gb301, 0, none⟩) (Kd.R_types HO_252002.out BK301.out (by decide)) (fun _ hk => hk.2) (.int .i64 t293)) (fun _ hk => hk.2) (.slice Ao129 t294.length co129)) (fun _ hk => hk.2) (.slice Ao130 t297.length co130)) (fun _ h_ => h_.1))) : p := h
theorem q9_17 {p : Prop} (h : p := by (with_reducible repeat (first | apply Kd.R_alloc | apply Kd.R_drewN | apply Kd.R_drew)); exact (Kd.R_mono (Kd.R_far (p := ⟨gb301, 2, none⟩) (Kd.R_far (p := ⟨gb301, 1, none⟩) (Kd.R_far (p := ⟨gb301, 0, none⟩) (Kd.R_types HO296.out BK301.out (by decide)) (fun _ hk => hk.2) (.int .i64 t293)) (fun _ hk => hk.2) (.slice Ao129 t294.length co129)) (fun _ hk => hk.2) (.slice Ao130 t297.length co130)) (fun _ h_ => h_.1))) : p := h
theorem q9_18 {p : Prop} (h : p := by (with_reducible repeat (first | apply Kd.R_alloc | apply Kd.R_drewN | apply Kd.R_drew)); exact (Kd.R_mono (Kd.R_far (p := ⟨gb301, 2, none⟩) (Kd.R_far (p := ⟨gb301, 1, none⟩) (Kd.R_far (p := ⟨gb301, 0, none⟩) (Kd.R_types HO299.out BK301.out (by decide)) (fun _ hk => hk.2) (.int .i64 t293)) (fun _ hk => hk.2) (.slice Ao129 t294.length co129)) (fun _ hk => hk.2) (.slice Ao130 t297.length co130)) (fun _ h_ => h_.1))) : p := h
theorem q9_19 {p : Prop} (h : p := by (with_reducible repeat (first | apply Kd.R_alloc | apply Kd.R_drewN | apply Kd.R_drew)); exact (Kd.R_mono (Kd.R_far (p := ⟨gb268, 2, none⟩) (Kd.R_far (p := ⟨gb268, 1, none⟩) (Kd.R_far (p := ⟨gb268, 0, none⟩) (Kd.R_types HO263.out BK268.out (by decide)) (fun _ hk => hk.2) (.int .i64 t260)) (fun _ hk => hk.2) (.slice Ao39 t261.length co39)) (fun _ hk => hk.2) (.slice Ao40 t264.length co40)) (fun _ h_ => h_.1))) : p := h
theorem q9_20 {p : Prop} (h : p := by (with_reducible repeat (first | apply Kd.R_alloc | apply Kd.R_drewN | apply Kd.R_drew)); exact (Kd.R_mono (Kd.R_far (p := ⟨gb268, 2, none⟩) (Kd.R_far (p := ⟨gb268, 1, none⟩) (Kd.R_far (p := ⟨gb268, 0, none⟩) (Kd.R_types HO266.out BK268.out (by decide)) (fun _ hk => hk.2) (.int .i64 t260)) (fun _ hk => hk.2) (.slice Ao39 t261.length co39)) (fun _ hk => hk.2) (.slice Ao40 t264.length co40)) (fun _ h_ => h_.1))) : p := h
theorem q9_21 {p : Prop} (h : p := by (with_reducible repeat (first | apply Kd.R_alloc | apply Kd.R_drewN | apply Kd.R_drew)); exact (Kd.R_mono (Kd.R_far (p := ⟨gb268, 2, none⟩) (Kd.R_far (p := ⟨gb268, 1, none⟩) (Kd.R_far (p := ⟨gb268, 0, none⟩) (Kd.R_types HO246.out BK268.out (by decide)) (fun _ hk => hk.2) (.int .i64 t260)) (fun _ hk => hk.2) (.slice Ao39 t261.length co39)) (fun _ hk => hk.2) (.slice Ao40 t264.length co40)) (fun _ h_ => h_.1))) : p := h
theorem q9_22 {p : Prop} (h : p := by (with_reducible repeat (first | apply Kd.R_alloc | apply Kd.R_drewN | apply Kd.R_drew)); exact (Kd.R_mono (Kd.R_far (p := ⟨gb268, 2, none⟩) (Kd.R_far (p := ⟨gb268, 1, none⟩) (Kd.R_far (p := ⟨gb268, 0, none⟩) (Kd.R_types HO249.out BK268.out (by decide)) (fun _ hk => hk.2) (.int .i64 t260)) (fun _ hk => hk.2) (.slice Ao39 t261.length co39)) (fun _ hk => hk.2) (.slice Ao40 t264.length co40)) (fun _ h_ => h_.1))) : p := h
theorem q9_23 {p : Prop} (h : p := by repeat (first | exact (Kd.R_reads' HO_269001.out).2.2 | (with_reducible refine Kd.C_alloc ?_ _) | (with_reducible refine Kd.C_drewN ?_ _) | (with_reducible refine Kd.C_drew ?_))) : p := h
theorem q9_24 {p : Prop} (h : p := by repeat (first | exact (Kd.R_reads' HO_269002.out).2.2 | (with_reducible refine Kd.C_alloc ?_ _) | (with_reducible refine Kd.C_drewN ?_ _) | (with_reducible refine Kd.C_drew ?_))) : p := h
theorem q9_25 {p : Prop} (h : p := by repeat (first | (with_reducible first | exact HB.out | apply below_alloc | apply pw_below_drewN | apply below_drew1 | refine below_set ?_ GE234.out | refine below_set ?_ GE251.out | refine below_set ?_ GE259.out) | exact HB.out)) : p := h
theorem q9_26 {p : Prop} (h : p := by repeat (first | exact (Kd.C_below HR0_1.out HB.out) | (with_reducible refine Kd.C_alloc ?_ _) | (with_reducible refine Kd.C_drewN ?_ _) | (with_reducible refine Kd.C_drew ?_))) : p := h
theorem q9_27 {p : Prop} (h : p := by repeat (first | exact (Kd.C_below HR0_2.out HB.out) | (with_reducible refine Kd.C_alloc ?_ _) | (with_reducible refine Kd.C_drewN ?_ _) | (with_reducible refine Kd.C_drew ?_))) : p := h
theorem q9_28 {p : Prop} (h : p := by (with_reducible repeat (first | apply Kd.R_alloc | apply Kd.R_drewN | apply Kd.R_drew)); exact (Kd.R_mono (Kd.R_far (p := ⟨gb259, 2, none⟩) (Kd.R_far (p := ⟨gb259, 1, none⟩) (Kd.R_far (p := ⟨gb259, 0, none⟩) (Kd.R_types HO255.out BK259.out (by decide)) (fun _ hk => hk.2) (.int .i64 t252)) (fun _ hk => hk.2) (.slice Ao31 t253.length co31)) (fun _ hk => hk.2) (.slice Ao32 t256.length co32)) (fun _ h_ => h_.1))) : p := h
theorem q9_29 {p : Prop} (h : p := by (with_reducible repeat (first | apply Kd.R_alloc | apply Kd.R_drewN | apply Kd.R_drew)); exact (Kd.R_mono (Kd.R_far (p := ⟨gb259, 2, none⟩) (Kd.R_far (p := ⟨gb259, 1, none⟩) (Kd.R_far (p := ⟨gb259, 0, none⟩) (Kd.R_types HO258.out BK259.out (by decide)) (fun _ hk => hk.2) (.int .i64 t252)) (fun _ hk => hk.2) (.slice Ao31 t253.length co31)) (fun _ hk => hk.2) (.slice Ao32 t256.length co32)) (fun _ h_ => h_.1))) : p := h
theorem q9_30 {p : Prop} (h : p := by first | rfl | (simp [errW_none, errW_some] <;> rfl) | (simp [*, errW_none, errW_some] <;> rfl)) : p := h
theorem q9_31 {p : Prop} (h : p := by (with_reducible repeat (first | refine blk_drewN ?_ _ | refine blk_drew ?_ | refine blk_alloc ?_ _)); refine blk_put (cs := #[.int .i64 t293, .slice Ao129 t294.length co129, .slice none 0 0]) ?_ 2 _ rfl; (with_reducible repeat (first | refine blk_drewN ?_ _ | refine blk_drew ?_ | refine blk_alloc ?_ _)); refine blk_put (cs := #[.int .i64 t293, .slice none 0 0, .slice none 0 0]) ?_ 1 _ rfl; (with_reducible repeat (first | refine blk_drewN ?_ _ | refine blk_drew ?_ | refine blk_alloc ?_ _)); refine blk_put (cs := #[.int .i64 0, .slice none 0 0, .slice none 0 0]) ?_ 0 _ rfl; (with_reducible repeat (first | refine blk_drewN ?_ _ | refine blk_drew ?_ | refine blk_alloc ?_ _)); exact BK301.out) : p := h
theorem q9_32 {p : Prop} (h : p := by (with_reducible repeat (first | refine blk_drewN ?_ _ | refine blk_drew ?_ | refine blk_alloc ?_ _)); refine blk_put (cs := #[.int .i64 t260, .slice Ao39 t261.length co39, .slice none 0 0]) ?_ 2 _ rfl; (with_reducible repeat (first | refine blk_drewN ?_ _ | refine blk_drew ?_ | refine blk_alloc ?_ _)); refine blk_put (cs := #[.int .i64 t260, .slice none 0 0, .slice none 0 0]) ?_ 1 _ rfl; (with_reducible repeat (first | refine blk_drewN ?_ _ | refine blk_drew ?_ | refine blk_alloc ?_ _)); refine blk_put (cs := #[.int .i64 0, .slice none 0 0, .slice none 0 0]) ?_ 0 _ rfl; (with_reducible repeat (first | refine blk_drewN ?_ _ | refine blk_drew ?_ | refine blk_alloc ?_ _)); exact BK268.out) : p := h
theorem q9_33 {p : Prop} (h : p := by repeat (first | (with_reducible first | exact HB.out | apply below_alloc | apply pw_below_drewN | apply below_drew1) | exact HB.out)) : p := h
theorem q9_34 {p : Prop} (h : p := by (try simp only [List.map_toArray, List.map_cons, List.map_nil]); first | done | (rw [show t283.length = t261.length from (Kd.R_reads' HO_269001.out).1.symm, show t284.length = t264.length from (Kd.R_reads' HO_269002.out).1.symm] <;> rfl) | rfl | (simp only [List.length_drop, List.length_take]; rfl)) : p := h
theorem q9_35 {p : Prop} (h : p := by (with_reducible repeat (first | refine blk_drewN ?_ _ | refine blk_drew ?_ | refine blk_alloc ?_ _)); refine blk_far ?_ NB234_268.out _; (with_reducible repeat (first | refine blk_drewN ?_ _ | refine blk_drew ?_ | refine blk_alloc ?_ _)); refine blk_far ?_ NB234_268.out _; (with_reducible repeat (first | refine blk_drewN ?_ _ | refine blk_drew ?_ | refine blk_alloc ?_ _)); refine blk_far ?_ NB234_268.out _; (with_reducible repeat (first | refine blk_drewN ?_ _ | refine blk_drew ?_ | refine blk_alloc ?_ _)); exact BK234.out) : p := h
theorem q9_36 {p : Prop} (h : p := by (with_reducible repeat (first | refine blk_drewN ?_ _ | refine blk_drew ?_ | refine blk_alloc ?_ _)); refine blk_far ?_ NB251_268.out _; (with_reducible repeat (first | refine blk_drewN ?_ _ | refine blk_drew ?_ | refine blk_alloc ?_ _)); refine blk_far ?_ NB251_268.out _; (with_reducible repeat (first | refine blk_drewN ?_ _ | refine blk_drew ?_ | refine blk_alloc ?_ _)); refine blk_far ?_ NB251_268.out _; (with_reducible repeat (first | refine blk_drewN ?_ _ | refine blk_drew ?_ | refine blk_alloc ?_ _)); exact BK251.out) : p := h
theorem q9_37 {p : Prop} (h : p := by (with_reducible repeat (first | refine blk_drewN ?_ _ | refine blk_drew ?_ | refine blk_alloc ?_ _)); refine blk_far ?_ NB259_268.out _; (with_reducible repeat (first | refine blk_drewN ?_ _ | refine blk_drew ?_ | refine blk_alloc ?_ _)); refine blk_far ?_ NB259_268.out _; (with_reducible repeat (first | refine blk_drewN ?_ _ | refine blk_drew ?_ | refine blk_alloc ?_ _)); refine blk_far ?_ NB259_268.out _; (with_reducible repeat (first | refine blk_drewN ?_ _ | refine blk_drew ?_ | refine blk_alloc ?_ _)); exact BK259.out) : p := h
theorem q9_38 {p : Prop} (h : p := by (with_reducible repeat (first | refine blk_drewN ?_ _ | refine blk_drew ?_ | refine blk_alloc ?_ _)); refine blk_far ?_ NB234_301.out _; (with_reducible repeat (first | refine blk_drewN ?_ _ | refine blk_drew ?_ | refine blk_alloc ?_ _)); refine blk_far ?_ NB234_301.out _; (with_reducible repeat (first | refine blk_drewN ?_ _ | refine blk_drew ?_ | refine blk_alloc ?_ _)); refine blk_far ?_ NB234_301.out _; (with_reducible repeat (first | refine blk_drewN ?_ _ | refine blk_drew ?_ | refine blk_alloc ?_ _)); exact BK234.out) : p := h
theorem q9_39 {p : Prop} (h : p := by (with_reducible repeat (first | refine blk_drewN ?_ _ | refine blk_drew ?_ | refine blk_alloc ?_ _)); refine blk_far ?_ NB251_301.out _; (with_reducible repeat (first | refine blk_drewN ?_ _ | refine blk_drew ?_ | refine blk_alloc ?_ _)); refine blk_far ?_ NB251_301.out _; (with_reducible repeat (first | refine blk_drewN ?_ _ | refine blk_drew ?_ | refine blk_alloc ?_ _)); refine blk_far ?_ NB251_301.out _; (with_reducible repeat (first | refine blk_drewN ?_ _ | refine blk_drew ?_ | refine blk_alloc ?_ _)); exact BK251.out) : p := h
theorem q9_40 {p : Prop} (h : p := by (with_reducible repeat (first | refine blk_drewN ?_ _ | refine blk_drew ?_ | refine blk_alloc ?_ _)); refine blk_far ?_ NB259_301.out _; (with_reducible repeat (first | refine blk_drewN ?_ _ | refine blk_drew ?_ | refine blk_alloc ?_ _)); refine blk_far ?_ NB259_301.out _; (with_reducible repeat (first | refine blk_drewN ?_ _ | refine blk_drew ?_ | refine blk_alloc ?_ _)); refine blk_far ?_ NB259_301.out _; (with_reducible repeat (first | refine blk_drewN ?_ _ | refine blk_drew ?_ | refine blk_alloc ?_ _)); exact BK259.out) : p := h
theorem q9_41 {p : Prop} (h : p := by (with_reducible repeat (first | refine blk_drewN ?_ _ | refine blk_drew ?_ | refine blk_alloc ?_ _)); refine blk_far ?_ NB268_301.out _; (with_reducible repeat (first | refine blk_drewN ?_ _ | refine blk_drew ?_ | refine blk_alloc ?_ _)); refine blk_far ?_ NB268_301.out _; (with_reducible repeat (first | refine blk_drewN ?_ _ | refine blk_drew ?_ | refine blk_alloc ?_ _)); refine blk_far ?_ NB268_301.out _; (with_reducible repeat (first | refine blk_drewN ?_ _ | refine blk_drew ?_ | refine blk_alloc ?_ _)); exact BK268.out) : p := h
theorem q9_42 {p : Prop} (h : p := by rw [hg]; exact Nat.ne_of_lt (blk_lt (g := gb234) (o := .cells #[.int .i64 a0_0, .slice A0_1 l0_1.length c0_1, .slice A0_2 l0_2.length c0_2] 25 (0, 0)) q9_1)) : p := h
theorem q9_43 {p : Prop} (h : p := by rw [hg]; exact Nat.ne_of_gt (blk_lt (g := gb234) (o := .cells #[.int .i64 a0_0, .slice A0_1 l0_1.length c0_1, .slice A0_2 l0_2.length c0_2] 25 (0, 0)) q9_1)) : p := h
theorem q9_44 {p : Prop} (h : p := by decide) : p := h
theorem q9_45 {p : Prop} (h : p := by (with_reducible repeat (first | apply Kd.R_alloc | apply Kd.R_drewN | apply Kd.R_drew)); exact (Kd.R_mono (Kd.R_far (p := ⟨gb301, 2, none⟩) (Kd.R_far (p := ⟨gb301, 1, none⟩) (Kd.R_far (p := ⟨gb301, 0, none⟩) (Kd.R_types HO_260001.out BK301.out q9_44) (fun _ hk => hk.2) (.int .i64 t293)) (fun _ hk => hk.2) (.slice Ao129 t294.length co129)) (fun _ hk => hk.2) (.slice Ao130 t297.length co130)) (fun _ h_ => h_.1))) : p := h
theorem q9_46 {p : Prop} (h : p := by (with_reducible repeat (first | apply Kd.R_alloc | apply Kd.R_drewN | apply Kd.R_drew)); exact (Kd.R_mono (Kd.R_far (p := ⟨gb301, 2, none⟩) (Kd.R_far (p := ⟨gb301, 1, none⟩) (Kd.R_far (p := ⟨gb301, 0, none⟩) (Kd.R_types HO_260002.out BK301.out q9_44) (fun _ hk => hk.2) (.int .i64 t293)) (fun _ hk => hk.2) (.slice Ao129 t294.length co129)) (fun _ hk => hk.2) (.slice Ao130 t297.length co130)) (fun _ h_ => h_.1))) : p := h
theorem q9_47 {p : Prop} (h : p := by (with_reducible repeat (first | apply Kd.R_alloc | apply Kd.R_drewN | apply Kd.R_drew)); exact (Kd.R_mono (Kd.R_far (p := ⟨gb301, 2, none⟩) (Kd.R_far (p := ⟨gb301, 1, none⟩) (Kd.R_far (p := ⟨gb301, 0, none⟩) (Kd.R_types HO_269001.out BK301.out q9_44) (fun _ hk => hk.2) (.int .i64 t293)) (fun _ hk => hk.2) (.slice Ao129 t294.length co129)) (fun _ hk => hk.2) (.slice Ao130 t297.length co130)) (fun _ h_ => h_.1))) : p := h
theorem q9_48 {p : Prop} (h : p := by (with_reducible repeat (first | apply Kd.R_alloc | apply Kd.R_drewN | apply Kd.R_drew)); exact (Kd.R_mono (Kd.R_far (p := ⟨gb301, 2, none⟩) (Kd.R_far (p := ⟨gb301, 1, none⟩) (Kd.R_far (p := ⟨gb301, 0, none⟩) (Kd.R_types HO_269002.out BK301.out q9_44) (fun _ hk => hk.2) (.int .i64 t293)) (fun _ hk => hk.2) (.slice Ao129 t294.length co129)) (fun _ hk => hk.2) (.slice Ao130 t297.length co130)) (fun _ h_ => h_.1))) : p := h
theorem q9_49 {p : Prop} (h : p := by (with_reducible repeat (first | apply Kd.R_alloc | apply Kd.R_drewN | apply Kd.R_drew)); exact (Kd.R_mono (Kd.R_far (p := ⟨gb301, 2, none⟩) (Kd.R_far (p := ⟨gb301, 1, none⟩) (Kd.R_far (p := ⟨gb301, 0, none⟩) (Kd.R_types HO289.out BK301.out q9_44) (fun _ hk => hk.2) (.int .i64 t293)) (fun _ hk => hk.2) (.slice Ao129 t294.length co129)) (fun _ hk => hk.2) (.slice Ao130 t297.length co130)) (fun _ h_ => h_.1))) : p := h
theorem q9_50 {p : Prop} (h : p := by (with_reducible repeat (first | apply Kd.R_alloc | apply Kd.R_drewN | apply Kd.R_drew)); exact (Kd.R_mono (Kd.R_far (p := ⟨gb301, 2, none⟩) (Kd.R_far (p := ⟨gb301, 1, none⟩) (Kd.R_far (p := ⟨gb301, 0, none⟩) (Kd.R_types HO292.out BK301.out q9_44) (fun _ hk => hk.2) (.int .i64 t293)) (fun _ hk => hk.2) (.slice Ao129 t294.length co129)) (fun _ hk => hk.2) (.slice Ao130 t297.length co130)) (fun _ h_ => h_.1))) : p := h
theorem q9_51 {p : Prop} (h : p := by (with_reducible repeat (first | apply Kd.R_alloc | apply Kd.R_drewN | apply Kd.R_drew)); exact (Kd.R_mono (Kd.R_far (p := ⟨gb251, 2, none⟩) (Kd.R_far (p := ⟨gb251, 1, none⟩) (Kd.R_far (p := ⟨gb251, 0, none⟩) (Kd.R_types HO239.out BK251.out q9_44) (fun _ hk => hk.2) (.int .i64 t243)) (fun _ hk => hk.2) (.slice Ao23 t244.length co23)) (fun _ hk => hk.2) (.slice Ao24 t247.length co24)) (fun _ h_ => h_.1))) : p := h
theorem q9_52 {p : Prop} (h : p := by (with_reducible repeat (first | apply Kd.R_alloc | apply Kd.R_drewN | apply Kd.R_drew)); exact (Kd.R_mono (Kd.R_far (p := ⟨gb251, 2, none⟩) (Kd.R_far (p := ⟨gb251, 1, none⟩) (Kd.R_far (p := ⟨gb251, 0, none⟩) (Kd.R_types HO242.out BK251.out q9_44) (fun _ hk => hk.2) (.int .i64 t243)) (fun _ hk => hk.2) (.slice Ao23 t244.length co23)) (fun _ hk => hk.2) (.slice Ao24 t247.length co24)) (fun _ h_ => h_.1))) : p := h
theorem q9_53 {p : Prop} (h : p := by (with_reducible repeat (first | apply Kd.R_alloc | apply Kd.R_drewN | apply Kd.R_drew)); exact (Kd.R_mono (Kd.R_far (p := ⟨gb251, 2, none⟩) (Kd.R_far (p := ⟨gb251, 1, none⟩) (Kd.R_far (p := ⟨gb251, 0, none⟩) (Kd.R_types HO246.out BK251.out q9_44) (fun _ hk => hk.2) (.int .i64 t243)) (fun _ hk => hk.2) (.slice Ao23 t244.length co23)) (fun _ hk => hk.2) (.slice Ao24 t247.length co24)) (fun _ h_ => h_.1))) : p := h
theorem q9_54 {p : Prop} (h : p := by (with_reducible repeat (first | apply Kd.R_alloc | apply Kd.R_drewN | apply Kd.R_drew)); exact (Kd.R_mono (Kd.R_far (p := ⟨gb251, 2, none⟩) (Kd.R_far (p := ⟨gb251, 1, none⟩) (Kd.R_far (p := ⟨gb251, 0, none⟩) (Kd.R_types HO249.out BK251.out q9_44) (fun _ hk => hk.2) (.int .i64 t243)) (fun _ hk => hk.2) (.slice Ao23 t244.length co23)) (fun _ hk => hk.2) (.slice Ao24 t247.length co24)) (fun _ h_ => h_.1))) : p := h
theorem q9_55 {p : Prop} (h : p := by (with_reducible repeat (first | apply Kd.R_alloc | apply Kd.R_drewN | apply Kd.R_drew)); exact (Kd.R_mono (Kd.R_far (p := ⟨gb259, 2, none⟩) (Kd.R_far (p := ⟨gb259, 1, none⟩) (Kd.R_far (p := ⟨gb259, 0, none⟩) (Kd.R_types HO239.out BK259.out q9_44) (fun _ hk => hk.2) (.int .i64 t252)) (fun _ hk => hk.2) (.slice Ao31 t253.length co31)) (fun _ hk => hk.2) (.slice Ao32 t256.length co32)) (fun _ h_ => h_.1))) : p := h
theorem q9_56 {p : Prop} (h : p := by (with_reducible repeat (first | apply Kd.R_alloc | apply Kd.R_drewN | apply Kd.R_drew)); exact (Kd.R_mono (Kd.R_far (p := ⟨gb259, 2, none⟩) (Kd.R_far (p := ⟨gb259, 1, none⟩) (Kd.R_far (p := ⟨gb259, 0, none⟩) (Kd.R_types HO242.out BK259.out q9_44) (fun _ hk => hk.2) (.int .i64 t252)) (fun _ hk => hk.2) (.slice Ao31 t253.length co31)) (fun _ hk => hk.2) (.slice Ao32 t256.length co32)) (fun _ h_ => h_.1))) : p := h
theorem q9_57 {p : Prop} (h : p := by (with_reducible repeat (first | apply Kd.R_alloc | apply Kd.R_drewN | apply Kd.R_drew)); exact (Kd.R_mono (Kd.R_far (p := ⟨gb259, 2, none⟩) (Kd.R_far (p := ⟨gb259, 1, none⟩) (Kd.R_far (p := ⟨gb259, 0, none⟩) (Kd.R_types HO246.out BK259.out q9_44) (fun _ hk => hk.2) (.int .i64 t252)) (fun _ hk => hk.2) (.slice Ao31 t253.length co31)) (fun _ hk => hk.2) (.slice Ao32 t256.length co32)) (fun _ h_ => h_.1))) : p := h
theorem q9_58 {p : Prop} (h : p := by (with_reducible repeat (first | apply Kd.R_alloc | apply Kd.R_drewN | apply Kd.R_drew)); exact (Kd.R_mono (Kd.R_far (p := ⟨gb259, 2, none⟩) (Kd.R_far (p := ⟨gb259, 1, none⟩) (Kd.R_far (p := ⟨gb259, 0, none⟩) (Kd.R_types HO249.out BK259.out q9_44) (fun _ hk => hk.2) (.int .i64 t252)) (fun _ hk => hk.2) (.slice Ao31 t253.length co31)) (fun _ hk => hk.2) (.slice Ao32 t256.length co32)) (fun _ h_ => h_.1))) : p := h
theorem q9_59 {p : Prop} (h : p := by (with_reducible repeat (first | apply Kd.R_alloc | apply Kd.R_drewN | apply Kd.R_drew)); exact (Kd.R_mono (Kd.R_far (p := ⟨gb268, 2, none⟩) (Kd.R_far (p := ⟨gb268, 1, none⟩) (Kd.R_far (p := ⟨gb268, 0, none⟩) (Kd.R_types HO239.out BK268.out q9_44) (fun _ hk => hk.2) (.int .i64 t260)) (fun _ hk => hk.2) (.slice Ao39 t261.length co39)) (fun _ hk => hk.2) (.slice Ao40 t264.length co40)) (fun _ h_ => h_.1))) : p := h
/-! ### laws_FnExactAdvance: function 8 -/
mutual
def laws_FnExactAdvance.j0 : Nat → Bool → Bool → Bool → Int → List Int → List (S61) → Int → List Int → List (S48) → Int → List Int → List (S48) → Int → List Int → List (S48) → Option (Bool)
 | 0, _, _, _, _, _, _, _, _, _, _, _, _, _, _, _ => none
 | k + 1, x5, x8, x40, x235000, x235001, x235002, x252000, x252001, x252002, x260000, x260001, x260002, x269000, x269001, x269002 => if x40 = true then (some false) else ((laws_toAges.f k x235000 x235001 x235002).bind fun bt270 => ((laws_eqAges.f k x260000 x260001 x260002 bt270.1 bt270.2.1 bt270.2.2).bind fun t277 => (if t277 = true then ((laws_markAges.f k x260000 x260001 x260002 1).bind fun bt278 => (if bt278.1 < 0 then (laws_FnExactAdvance.j1 k x5 true x235000 x235001 x235002 x252000 x252001 x252002 x269000 x269001 x269002) else ((laws_eqAges.f k x269000 x269001 x269002 x252000 x252001 x252002).bind fun t281 => (if t281 = true then (laws_FnExactAdvance.j1 k x5 (x8 != x5) x235000 x235001 x235002 x252000 x252001 x252002 x269000 x269001 x269002) else (laws_FnExactAdvance.j1 k x5 true x235000 x235001 x235002 x252000 x252001 x252002 x269000 x269001 x269002))))) else (some false))))
def laws_FnExactAdvance.j1 : Nat → Bool → Bool → Int → List Int → List (S61) → Int → List Int → List (S48) → Int → List Int → List (S48) → Option (Bool)
 | 0, _, _, _, _, _, _, _, _, _, _, _ => none
 | k + 1, x5, x61, x235000, x235001, x235002, x252000, x252001, x252002, x269000, x269001, x269002 => if x61 = true then (some false) else ((laws_markAges.f k x269000 x269001 x269002 1).bind fun bt282 => ((laws_heldAges.f k x269000 bt282.2.1 bt282.2.2 1).bind fun t285 => (if t285 < 0 then (some false) else (if t285 = bt282.1 then ((laws_toAges.f k x235000 x235001 x235002).bind fun bt286 => ((impl_Advance.f k bt286.1 bt286.2.1 bt286.2.2).bind fun bt293 => ((laws_eqAges.f k bt293.1 bt293.2.1 bt293.2.2.1 x252000 x252001 x252002).bind fun t302 => (if t302 = true then (laws_FnExactAdvance.j2 k bt282.1 (bt293.2.2.2 != x5) x269000 bt282.2.1 bt282.2.2) else (laws_FnExactAdvance.j2 k bt282.1 true x269000 bt282.2.1 bt282.2.2))))) else (some false)))))
def laws_FnExactAdvance.j2 : Nat → Int → Bool → Int → List Int → List (S48) → Option (Bool)
 | 0, _, _, _, _, _ => none
 | k + 1, x10, x87, x269000, x269001, x269002 => if x87 = true then (some false) else ((laws_heldAges.f k x269000 x269001 x269002 1).bind fun t303 => (if t303 < 0 then (some false) else (if t303 = x10 then (some true) else (some false))))
end
def laws_FnExactAdvance.f (k : Nat) (a0_0 : Int) (l0_1 : List Int) (l0_2 : List (S61)) : Option (Bool) := (laws_szAges.f a0_0 l0_1 l0_2 1048576).bind fun t235 => (if t235 < 0 then (some true) else ((laws_toAges.f k a0_0 l0_1 l0_2).bind fun bt236 => ((spec_Advance.f k bt236.1 bt236.2.1 bt236.2.2).bind fun bt243 => ((laws_toAges.f k a0_0 l0_1 l0_2).bind fun bt252 => ((impl_Advance.f k bt252.1 bt252.2.1 bt252.2.2).bind fun bt260 => ((laws_eqAges.f k bt260.1 bt260.2.1 bt260.2.2.1 bt243.1 bt243.2.1 bt243.2.2.1).bind fun t269 => (if t269 = true then (laws_FnExactAdvance.j0 k bt243.2.2.2 bt260.2.2.2 (bt260.2.2.2 != bt243.2.2.2) a0_0 l0_1 l0_2 bt243.1 bt243.2.1 bt243.2.2.1 bt252.1 bt252.2.1 bt252.2.2 bt260.1 bt260.2.1 bt260.2.2.1) else (laws_FnExactAdvance.j0 k bt243.2.2.2 bt260.2.2.2 true a0_0 l0_1 l0_2 bt243.1 bt243.2.1 bt243.2.2.1 bt252.1 bt252.2.1 bt252.2.2 bt260.1 bt260.2.1 bt260.2.2.1))))))))
theorem laws_FnExactAdvance.mono_l : ∀ k, (∀ y0 y1 y2 y3 y4 y5 y6 y7 y8 y9 y10 y11 y12 y13 y14, LeO (laws_FnExactAdvance.j0 k y0 y1 y2 y3 y4 y5 y6 y7 y8 y9 y10 y11 y12 y13 y14) (laws_FnExactAdvance.j0 (k + 1) y0 y1 y2 y3 y4 y5 y6 y7 y8 y9 y10 y11 y12 y13 y14)) ∧ (∀ y0 y1 y2 y3 y4 y5 y6 y7 y8 y9 y10, LeO (laws_FnExactAdvance.j1 k y0 y1 y2 y3 y4 y5 y6 y7 y8 y9 y10) (laws_FnExactAdvance.j1 (k + 1) y0 y1 y2 y3 y4 y5 y6 y7 y8 y9 y10)) ∧ (∀ y0 y1 y2 y3 y4, LeO (laws_FnExactAdvance.j2 k y0 y1 y2 y3 y4) (laws_FnExactAdvance.j2 (k + 1) y0 y1 y2 y3 y4))
 | 0 => ⟨fun _ _ _ _ _ _ _ _ _ _ _ _ _ _ _ r h => by simp [laws_FnExactAdvance.j0] at h, fun _ _ _ _ _ _ _ _ _ _ _ r h => by simp [laws_FnExactAdvance.j1] at h, fun _ _ _ _ _ r h => by simp [laws_FnExactAdvance.j2] at h⟩
 | k + 1 => by
  obtain ⟨ih0, ih1, ih2⟩ := laws_FnExactAdvance.mono_l k
  refine ⟨?_, ?_, ?_⟩
  ·intro y0 y1 y2 y3 y4 y5 y6 y7 y8 y9 y10 y11 y12 y13 y14
   unfold laws_FnExactAdvance.j0
   repeat' first
   | (with_reducible exact ih0 _ _ _ _ _ _ _ _ _ _ _ _ _ _ _)
   | (with_reducible exact ih1 _ _ _ _ _ _ _ _ _ _ _)
   | (with_reducible exact ih2 _ _ _ _ _)
   | (with_reducible exact impl_Advance.mono _ _ _ _)
   | (with_reducible exact laws_eqAges.mono _ _ _ _ _ _ _)
   | (with_reducible exact laws_heldAges.mono _ _ _ _ _)
   | (with_reducible exact laws_markAges.mono _ _ _ _ _)
   | (with_reducible exact laws_toAges.mono _ _ _ _)
   | (with_reducible exact spec_Advance.mono _ _ _ _)
   | (with_reducible exact LeO.refl _)
   | (with_reducible exact LeO.none _)
   | (with_reducible refine LeO.ite ?_ ?_)
   | (with_reducible refine LeO.bind ?_ (fun _ => ?_))
   | exact ih0 _ _ _ _ _ _ _ _ _ _ _ _ _ _ _
   | exact ih1 _ _ _ _ _ _ _ _ _ _ _
   | exact ih2 _ _ _ _ _
   | exact impl_Advance.mono _ _ _ _
   | exact laws_eqAges.mono _ _ _ _ _ _ _
   | exact laws_heldAges.mono _ _ _ _ _
   | exact laws_markAges.mono _ _ _ _ _
   | exact laws_toAges.mono _ _ _ _
   | exact spec_Advance.mono _ _ _ _
   | exact LeO.none _
   | refine LeO.ite ?_ ?_
   | refine LeO.bind ?_ (fun _ => ?_)
  ·intro y0 y1 y2 y3 y4 y5 y6 y7 y8 y9 y10
   unfold laws_FnExactAdvance.j1
   repeat' first
   | (with_reducible exact ih0 _ _ _ _ _ _ _ _ _ _ _ _ _ _ _)
   | (with_reducible exact ih1 _ _ _ _ _ _ _ _ _ _ _)
   | (with_reducible exact ih2 _ _ _ _ _)
   | (with_reducible exact impl_Advance.mono _ _ _ _)
   | (with_reducible exact laws_eqAges.mono _ _ _ _ _ _ _)
   | (with_reducible exact laws_heldAges.mono _ _ _ _ _)
   | (with_reducible exact laws_markAges.mono _ _ _ _ _)
   | (with_reducible exact laws_toAges.mono _ _ _ _)
   | (with_reducible exact spec_Advance.mono _ _ _ _)
   | (with_reducible exact LeO.refl _)
   | (with_reducible exact LeO.none _)
   | (with_reducible refine LeO.ite ?_ ?_)
   | (with_reducible refine LeO.bind ?_ (fun _ => ?_))
   | exact ih0 _ _ _ _ _ _ _ _ _ _ _ _ _ _ _
   | exact ih1 _ _ _ _ _ _ _ _ _ _ _
   | exact ih2 _ _ _ _ _
   | exact impl_Advance.mono _ _ _ _
   | exact laws_eqAges.mono _ _ _ _ _ _ _
   | exact laws_heldAges.mono _ _ _ _ _
   | exact laws_markAges.mono _ _ _ _ _
   | exact laws_toAges.mono _ _ _ _
   | exact spec_Advance.mono _ _ _ _
   | exact LeO.none _
   | refine LeO.ite ?_ ?_
   | refine LeO.bind ?_ (fun _ => ?_)
  ·intro y0 y1 y2 y3 y4
   unfold laws_FnExactAdvance.j2
   repeat' first
   | (with_reducible exact ih0 _ _ _ _ _ _ _ _ _ _ _ _ _ _ _)
   | (with_reducible exact ih1 _ _ _ _ _ _ _ _ _ _ _)
   | (with_reducible exact ih2 _ _ _ _ _)
   | (with_reducible exact impl_Advance.mono _ _ _ _)
   | (with_reducible exact laws_eqAges.mono _ _ _ _ _ _ _)
   | (with_reducible exact laws_heldAges.mono _ _ _ _ _)
   | (with_reducible exact laws_markAges.mono _ _ _ _ _)
   | (with_reducible exact laws_toAges.mono _ _ _ _)
   | (with_reducible exact spec_Advance.mono _ _ _ _)
   | (with_reducible exact LeO.refl _)
   | (with_reducible exact LeO.none _)
   | (with_reducible refine LeO.ite ?_ ?_)
   | (with_reducible refine LeO.bind ?_ (fun _ => ?_))
   | exact ih0 _ _ _ _ _ _ _ _ _ _ _ _ _ _ _
   | exact ih1 _ _ _ _ _ _ _ _ _ _ _
   | exact ih2 _ _ _ _ _
   | exact impl_Advance.mono _ _ _ _
   | exact laws_eqAges.mono _ _ _ _ _ _ _
   | exact laws_heldAges.mono _ _ _ _ _
   | exact laws_markAges.mono _ _ _ _ _
   | exact laws_toAges.mono _ _ _ _
   | exact spec_Advance.mono _ _ _ _
   | exact LeO.none _
   | refine LeO.ite ?_ ?_
   | refine LeO.bind ?_ (fun _ => ?_)
theorem laws_FnExactAdvance.mono : ∀ a0 a1 a2 k, LeO (laws_FnExactAdvance.f k a0 a1 a2) (laws_FnExactAdvance.f (k + 1) a0 a1 a2) := by
 intro a0 a1 a2 k
 obtain ⟨ih0, ih1, ih2⟩ := laws_FnExactAdvance.mono_l k
 unfold laws_FnExactAdvance.f
 repeat' first
   | (with_reducible exact ih0 _ _ _ _ _ _ _ _ _ _ _ _ _ _ _)
   | (with_reducible exact ih1 _ _ _ _ _ _ _ _ _ _ _)
   | (with_reducible exact ih2 _ _ _ _ _)
   | (with_reducible exact impl_Advance.mono _ _ _ _)
   | (with_reducible exact laws_eqAges.mono _ _ _ _ _ _ _)
   | (with_reducible exact laws_heldAges.mono _ _ _ _ _)
   | (with_reducible exact laws_markAges.mono _ _ _ _ _)
   | (with_reducible exact laws_toAges.mono _ _ _ _)
   | (with_reducible exact spec_Advance.mono _ _ _ _)
   | (with_reducible exact LeO.refl _)
   | (with_reducible exact LeO.none _)
   | (with_reducible refine LeO.ite ?_ ?_)
   | (with_reducible refine LeO.bind ?_ (fun _ => ?_))
   | exact ih0 _ _ _ _ _ _ _ _ _ _ _ _ _ _ _
   | exact ih1 _ _ _ _ _ _ _ _ _ _ _
   | exact ih2 _ _ _ _ _
   | exact impl_Advance.mono _ _ _ _
   | exact laws_eqAges.mono _ _ _ _ _ _ _
   | exact laws_heldAges.mono _ _ _ _ _
   | exact laws_markAges.mono _ _ _ _ _
   | exact laws_toAges.mono _ _ _ _
   | exact spec_Advance.mono _ _ _ _
   | exact LeO.none _
   | refine LeO.ite ?_ ?_
   | refine LeO.bind ?_ (fun _ => ?_)
set_option maxHeartbeats 8000000 in
set_option maxRecDepth 100000 in
theorem laws_FnExactAdvance.calls (k : Nat) (a0_0 : Int) (A0_1 : Option Addr) (c0_1 : Nat) (l0_1 : List Int) (A0_2 : Option Addr) (c0_2 : Nat) (l0_2 : List (S61)) (r : Bool) (w : World) (hr0_1 : Kd.C (Kd.int .i64) w A0_1 l0_1.length l0_1) (hc0_1 : l0_1.length ≤ c0_1) (hr0_2 : Kd.C k61 w A0_2 l0_2.length l0_2) (hc0_2 : l0_2.length ≤ c0_2) (h : laws_FnExactAdvance.f k a0_0 l0_1 l0_2 = some r) :
  Calls Try.prog 8 #[.agg #[.int .i64 a0_0, .slice A0_1 l0_1.length c0_1, .slice A0_2 l0_2.length c0_2]] w fun e w' => e = .returned (.bool r) ∧ Below w.heap.size w w' := by
 have hu25 := Try.underlying25
 have hu30 := Try.underlying30
 have HR0_1 := Aside0.mk hr0_1
 have HC0_1 := Aside0.mk hc0_1
 clear hr0_1 hc0_1
 have HR0_2 := Aside0.mk hr0_2
 have HC0_2 := Aside0.mk hc0_2
 clear hr0_2 hc0_2
 have HB := Aside0.mk (Below.refl w.heap.size w)
 have H : ((laws_szAges.f a0_0 l0_1 l0_2 1048576).bind fun t235 => (if t235 < 0 then (some true) else ((laws_toAges.f k a0_0 l0_1 l0_2).bind fun bt236 => ((spec_Advance.f k bt236.1 bt236.2.1 bt236.2.2).bind fun bt243 => ((laws_toAges.f k a0_0 l0_1 l0_2).bind fun bt252 => ((impl_Advance.f k bt252.1 bt252.2.1 bt252.2.2).bind fun bt260 => ((laws_eqAges.f k bt260.1 bt260.2.1 bt260.2.2.1 bt243.1 bt243.2.1 bt243.2.2.1).bind fun t269 => (if t269 = true then (laws_FnExactAdvance.j0 k bt243.2.2.2 bt260.2.2.2 (bt260.2.2.2 != bt243.2.2.2) a0_0 l0_1 l0_2 bt243.1 bt243.2.1 bt243.2.2.1 bt252.1 bt252.2.1 bt252.2.2 bt260.1 bt260.2.1 bt260.2.2.1) else (laws_FnExactAdvance.j0 k bt243.2.2.2 bt260.2.2.2 true a0_0 l0_1 l0_2 bt243.1 bt243.2.1 bt243.2.2.1 bt252.1 bt252.2.1 bt252.2.2 bt260.1 bt260.2.1 bt260.2.2.1))))))))) = some r := h
 clear h
 replace H := Option.bind_eq_some_iff.mp H
 obtain ⟨t235, A20, H⟩ := H
 replace H : (if t235 < 0 then (some true) else ((laws_toAges.f k a0_0 l0_1 l0_2).bind fun bt236 => ((spec_Advance.f k bt236.1 bt236.2.1 bt236.2.2).bind fun bt243 => ((laws_toAges.f k a0_0 l0_1 l0_2).bind fun bt252 => ((impl_Advance.f k bt252.1 bt252.2.1 bt252.2.2).bind fun bt260 => ((laws_eqAges.f k bt260.1 bt260.2.1 bt260.2.2.1 bt243.1 bt243.2.1 bt243.2.2.1).bind fun t269 => (if t269 = true then (laws_FnExactAdvance.j0 k bt243.2.2.2 bt260.2.2.2 (bt260.2.2.2 != bt243.2.2.2) a0_0 l0_1 l0_2 bt243.1 bt243.2.1 bt243.2.2.1 bt252.1 bt252.2.1 bt252.2.2 bt260.1 bt260.2.1 bt260.2.2.1) else (laws_FnExactAdvance.j0 k bt243.2.2.2 bt260.2.2.2 true a0_0 l0_1 l0_2 bt243.1 bt243.2.1 bt243.2.2.1 bt252.1 bt252.2.1 bt252.2.2 bt260.1 bt260.2.1 bt260.2.2.1)))))))) = some r := H
 have A2 := Aside0.mk A20
 clear A20
 by_cases c3 : t235 < 0
 ·rw [if_pos c3] at H
  have c3b0 : decide (t235 < 0) = true := decide_eq_true c3
  clear c3
  obtain rfl := Option.some.inj H
  go_enter Try.func8, Try.ntmps8
  go_wp2_with (first | ((with_reducible refine gate_dst (N := 1) rfl ?_); refine box_event ?hg (N := 1) ?hd (cs := #[.int .i64 a0_0, .slice A0_1 l0_1.length c0_1, .slice A0_2 l0_2.length c0_2]) (t := 25) ?hr ?_; (case hd => rfl); (case hg => rfl); (case hr => first | (go_simp; done) | (go_simp; rfl)); intro gb234 hg w4 hbox hb; have n0_ := Aside0.mk (below_step q9_33 hb); have n1_ := Aside0.mk (hbox); have n2_ := Aside0.mk ((by rw [hg]; exact (below_size q9_33) : w.heap.size ≤ gb234)); have n3_ := Aside0.mk ((by rw [hg]; exact (below_size q9_33) : w.heap.size ≤ gb234)); clear HB; have HB := n0_; have BK234 := n1_; have GW234 := n2_; have GE234 := n3_; clear n0_ n1_ n2_ n3_; clear hb hbox hg; have hcz5_0 : w4.cell? ⟨gb234, 0, none⟩ = some (.int .i64 a0_0) := (blk_cell BK234.out 0).trans rfl; have hcz5_1 : w4.cell? ⟨gb234, 1, none⟩ = some (.slice A0_1 l0_1.length c0_1) := (blk_cell BK234.out 1).trans rfl; have hcz5_2 : w4.cell? ⟨gb234, 2, none⟩ = some (.slice A0_2 l0_2.length c0_2) := (blk_cell BK234.out 2).trans rfl; have hfz5_0 := blk_frozen BK234.out 0; have hfz5_1 := blk_frozen BK234.out 1; have hfz5_2 := blk_frozen BK234.out 2) | ((with_reducible refine gate_callee (f := 11) rfl ?_); refine goesL_ (some 16) rfl rfl Try.func11 (by kernel_rfl) rfl #[.agg #[.int .i64 a0_0, .slice A0_1 l0_1.length c0_1, .slice A0_2 l0_2.length c0_2], .int .i64 1048576] rfl q9_4 ?_; (with_reducible refine (laws_szAges.calls a0_0 _ _ l0_1 _ _ l0_2 1048576 t235 _ ?side1 ?side2 ?side3 ?side4 A2.out).mono ?_); (case side1 => exact q9_26); (case side2 => exact HC0_1.out); (case side3 => exact q9_27); (case side4 => exact HC0_2.out); rintro e w6 ⟨rfl, hb⟩; refine ⟨_, rfl, ?_⟩; have n0_ := Aside0.mk (blk_below (g := gb234) (o := .cells #[.int .i64 a0_0, .slice A0_1 l0_1.length c0_1, .slice A0_2 l0_2.length c0_2] 25 (0, 0)) q9_1 hb); have n1_ := Aside0.mk (below_step q9_13 hb); clear BK234; clear HB; have BK234 := n0_; have HB := n1_; clear n0_ n1_; (try clear hb); (try clear hb2); (try clear hk); (try clear hi)))
  go_ret
  exact ⟨q9_30, q9_13⟩
 ·rw [if_neg c3] at H
  have c3b0 : decide (t235 < 0) = false := decide_eq_false c3
  clear c3
  replace H := Option.bind_eq_some_iff.mp H
  obtain ⟨⟨t236, t237, t240⟩, A70, H⟩ := H
  replace H : ((spec_Advance.f k t236 t237 t240).bind fun bt243 => ((laws_toAges.f k a0_0 l0_1 l0_2).bind fun bt252 => ((impl_Advance.f k bt252.1 bt252.2.1 bt252.2.2).bind fun bt260 => ((laws_eqAges.f k bt260.1 bt260.2.1 bt260.2.2.1 bt243.1 bt243.2.1 bt243.2.2.1).bind fun t269 => (if t269 = true then (laws_FnExactAdvance.j0 k bt243.2.2.2 bt260.2.2.2 (bt260.2.2.2 != bt243.2.2.2) a0_0 l0_1 l0_2 bt243.1 bt243.2.1 bt243.2.2.1 bt252.1 bt252.2.1 bt252.2.2 bt260.1 bt260.2.1 bt260.2.2.1) else (laws_FnExactAdvance.j0 k bt243.2.2.2 bt260.2.2.2 true a0_0 l0_1 l0_2 bt243.1 bt243.2.1 bt243.2.2.1 bt252.1 bt252.2.1 bt252.2.2 bt260.1 bt260.2.1 bt260.2.2.1)))))) = some r := H
  have A7 := Aside0.mk A70
  clear A70
  replace H := Option.bind_eq_some_iff.mp H
  obtain ⟨⟨t243, t244, t247, t250⟩, A80, H⟩ := H
  replace H : ((laws_toAges.f k a0_0 l0_1 l0_2).bind fun bt252 => ((impl_Advance.f k bt252.1 bt252.2.1 bt252.2.2).bind fun bt260 => ((laws_eqAges.f k bt260.1 bt260.2.1 bt260.2.2.1 t243 t244 t247).bind fun t269 => (if t269 = true then (laws_FnExactAdvance.j0 k t250 bt260.2.2.2 (bt260.2.2.2 != t250) a0_0 l0_1 l0_2 t243 t244 t247 bt252.1 bt252.2.1 bt252.2.2 bt260.1 bt260.2.1 bt260.2.2.1) else (laws_FnExactAdvance.j0 k t250 bt260.2.2.2 true a0_0 l0_1 l0_2 t243 t244 t247 bt252.1 bt252.2.1 bt252.2.2 bt260.1 bt260.2.1 bt260.2.2.1))))) = some r := H
  have A8 := Aside0.mk A80
  clear A80
  replace H := Option.bind_eq_some_iff.mp H
  obtain ⟨⟨t252, t253, t256⟩, A90, H⟩ := H
  replace H : ((impl_Advance.f k t252 t253 t256).bind fun bt260 => ((laws_eqAges.f k bt260.1 bt260.2.1 bt260.2.2.1 t243 t244 t247).bind fun t269 => (if t269 = true then (laws_FnExactAdvance.j0 k t250 bt260.2.2.2 (bt260.2.2.2 != t250) a0_0 l0_1 l0_2 t243 t244 t247 t252 t253 t256 bt260.1 bt260.2.1 bt260.2.2.1) else (laws_FnExactAdvance.j0 k t250 bt260.2.2.2 true a0_0 l0_1 l0_2 t243 t244 t247 t252 t253 t256 bt260.1 bt260.2.1 bt260.2.2.1)))) = some r := H
  have A9 := Aside0.mk A90
  clear A90
  replace H := Option.bind_eq_some_iff.mp H
  obtain ⟨⟨t260, t261, t264, t267⟩, A100, H⟩ := H
  replace H : ((laws_eqAges.f k t260 t261 t264 t243 t244 t247).bind fun t269 => (if t269 = true then (laws_FnExactAdvance.j0 k t250 t267 (t267 != t250) a0_0 l0_1 l0_2 t243 t244 t247 t252 t253 t256 t260 t261 t264) else (laws_FnExactAdvance.j0 k t250 t267 true a0_0 l0_1 l0_2 t243 t244 t247 t252 t253 t256 t260 t261 t264))) = some r := H
  have A10 := Aside0.mk A100
  clear A100
  have HC11 := Aside0.mk H
  clear H
  go_enter Try.func8, Try.ntmps8
  go_upto_region 8 with (first | ((with_reducible refine gate_dst (N := 1) rfl ?_); refine box_event ?hg (N := 1) ?hd (cs := #[.int .i64 a0_0, .slice A0_1 l0_1.length c0_1, .slice A0_2 l0_2.length c0_2]) (t := 25) ?hr ?_; (case hd => rfl); (case hg => rfl); (case hr => first | (go_simp; done) | (go_simp; rfl)); intro gb234 hg w12 hbox hb; have n0_ := Aside0.mk (below_step q9_33 hb); have n1_ := Aside0.mk (hbox); have n2_ := Aside0.mk ((by rw [hg]; exact (below_size q9_33) : w.heap.size ≤ gb234)); have n3_ := Aside0.mk ((by rw [hg]; exact (below_size q9_33) : w.heap.size ≤ gb234)); clear HB; have HB := n0_; have BK234 := n1_; have GW234 := n2_; have GE234 := n3_; clear n0_ n1_ n2_ n3_; clear hb hbox hg; have hcz13_0 : w12.cell? ⟨gb234, 0, none⟩ = some (.int .i64 a0_0) := (blk_cell BK234.out 0).trans rfl; have hcz13_1 : w12.cell? ⟨gb234, 1, none⟩ = some (.slice A0_1 l0_1.length c0_1) := (blk_cell BK234.out 1).trans rfl; have hcz13_2 : w12.cell? ⟨gb234, 2, none⟩ = some (.slice A0_2 l0_2.length c0_2) := (blk_cell BK234.out 2).trans rfl; have hfz13_0 := blk_frozen BK234.out 0; have hfz13_1 := blk_frozen BK234.out 1; have hfz13_2 := blk_frozen BK234.out 2) | ((with_reducible refine gate_callee (f := 11) rfl ?_); refine goesL_ (some 16) rfl rfl Try.func11 (by kernel_rfl) rfl #[.agg #[.int .i64 a0_0, .slice A0_1 l0_1.length c0_1, .slice A0_2 l0_2.length c0_2], .int .i64 1048576] rfl q9_4 ?_; (with_reducible refine (laws_szAges.calls a0_0 _ _ l0_1 _ _ l0_2 1048576 t235 _ ?side1 ?side2 ?side3 ?side4 A2.out).mono ?_); (case side1 => exact q9_26); (case side2 => exact HC0_1.out); (case side3 => exact q9_27); (case side4 => exact HC0_2.out); rintro e w14 ⟨rfl, hb⟩; refine ⟨_, rfl, ?_⟩; have n0_ := Aside0.mk (blk_below (g := gb234) (o := .cells #[.int .i64 a0_0, .slice A0_1 l0_1.length c0_1, .slice A0_2 l0_2.length c0_2] 25 (0, 0)) q9_1 hb); have n1_ := Aside0.mk (below_step q9_13 hb); clear BK234; clear HB; have BK234 := n0_; have HB := n1_; clear n0_ n1_; (try clear hb); (try clear hb2); (try clear hk); (try clear hi); have hcz15_0 : w14.cell? ⟨gb234, 0, none⟩ = some (.int .i64 a0_0) := (blk_cell BK234.out 0).trans rfl; have hcz15_1 : w14.cell? ⟨gb234, 1, none⟩ = some (.slice A0_1 l0_1.length c0_1) := (blk_cell BK234.out 1).trans rfl; have hcz15_2 : w14.cell? ⟨gb234, 2, none⟩ = some (.slice A0_2 l0_2.length c0_2) := (blk_cell BK234.out 2).trans rfl; have hfz15_0 := blk_frozen BK234.out 0; have hfz15_1 := blk_frozen BK234.out 1; have hfz15_2 := blk_frozen BK234.out 2) | ((with_reducible refine gate_callee (f := 13) rfl ?_); refine goesL_ (some 21) rfl rfl Try.func13 (by kernel_rfl) rfl #[.agg #[.int .i64 a0_0, .slice A0_1 l0_1.length c0_1, .slice A0_2 l0_2.length c0_2]] rfl q9_4 ?_; (with_reducible refine (laws_toAges.calls k a0_0 _ _ l0_1 _ _ l0_2 t236 t237 t240 _ ?side1 ?side2 ?side3 ?side4 A7.out).mono ?_); (case side1 => exact q9_26); (case side2 => exact HC0_1.out); (case side3 => exact q9_27); (case side4 => exact HC0_2.out); rintro e w16 ⟨v238, v241, rfl, ho0, ho1, hb⟩; refine ⟨_, rfl, ?_⟩; have n0_ := Aside0.mk (Kd.R_lower ho0 (below_size q9_13)); have n1_ := Aside0.mk (Kd.R_lower ho1 (below_size q9_13)); have n2_ := Aside0.mk (blk_below (g := gb234) (o := .cells #[.int .i64 a0_0, .slice A0_1 l0_1.length c0_1, .slice A0_2 l0_2.length c0_2] 25 (0, 0)) q9_1 hb); have n3_ := Aside0.mk (below_step q9_13 hb); clear BK234; clear HB; have HO239 := n0_; have HO242 := n1_; have BK234 := n2_; have HB := n3_; clear n0_ n1_ n2_ n3_; (try clear hb); (try clear hb2); (try clear hk); (try clear hi); (try clear ho0); (try clear ho1); obtain ⟨Ao17, co17, eo17⟩ := Kd.R_slice HO239.out; subst eo17; obtain ⟨Ao18, co18, eo18⟩ := Kd.R_slice HO242.out; subst eo18) | ((with_reducible refine gate_callee (f := 26) rfl ?_); refine goesL_ (some 22) rfl rfl Try.func26 (by kernel_rfl) rfl #[.agg #[.int .i64 t236, .slice Ao17 t237.length co17, .slice Ao18 t240.length co18]] rfl q9_4 ?_; (with_reducible refine (spec_Advance.calls k t236 _ _ t237 _ _ t240 t243 t244 t247 t250 _ ?side1 ?side2 ?side3 ?side4 A8.out).mono ?_); (case side1 => repeat (first | exact (Kd.R_reads' HO239.out).2.2 | (with_reducible refine Kd.C_alloc ?_ _) | (with_reducible refine Kd.C_drewN ?_ _) | (with_reducible refine Kd.C_drew ?_))); (case side2 => exact (Kd.R_reads' HO239.out).2.1); (case side3 => repeat (first | exact (Kd.R_reads' HO242.out).2.2 | (with_reducible refine Kd.C_alloc ?_ _) | (with_reducible refine Kd.C_drewN ?_ _) | (with_reducible refine Kd.C_drew ?_))); (case side4 => exact (Kd.R_reads' HO242.out).2.1); rintro e w19 ⟨v245, v248, rfl, ho0, ho1, hb⟩; refine ⟨_, rfl, ?_⟩; have n0_ := Aside0.mk (Kd.R_elder' (by (with_reducible repeat (first | apply Kd.R_alloc | apply Kd.R_drewN | apply Kd.R_drew)); exact HO239.out) (Kd.R_base ho0) hb); have n1_ := Aside0.mk (Kd.R_elder' (by (with_reducible repeat (first | apply Kd.R_alloc | apply Kd.R_drewN | apply Kd.R_drew)); exact HO242.out) (Kd.R_base ho1) hb); have n2_ := Aside0.mk (Kd.R_lower (Kd.R_new' ho0 (Kd.R_lt (by (with_reducible repeat (first | apply Kd.R_alloc | apply Kd.R_drewN | apply Kd.R_drew)); exact HO239.out))) (below_size q9_13)); have n3_ := Aside0.mk (Kd.R_lower (Kd.R_new' ho1 (Kd.R_lt (by (with_reducible repeat (first | apply Kd.R_alloc | apply Kd.R_drewN | apply Kd.R_drew)); exact HO242.out))) (below_size q9_13)); have n4_ := Aside0.mk (blk_below (g := gb234) (o := .cells #[.int .i64 a0_0, .slice A0_1 l0_1.length c0_1, .slice A0_2 l0_2.length c0_2] 25 (0, 0)) q9_1 hb); have n5_ := Aside0.mk (below_step q9_13 hb); clear HO239; clear HO242; clear BK234; clear HB; have HO239 := n0_; have HO242 := n1_; have HO246 := n2_; have HO249 := n3_; have BK234 := n4_; have HB := n5_; clear n0_ n1_ n2_ n3_ n4_ n5_; (try clear hb); (try clear hb2); (try clear hk); (try clear hi); (try clear ho0); (try clear ho1)) | ((with_reducible refine gate_dst (N := 4) rfl ?_); refine box_event ?hg (N := 4) ?hd (cs := #[.int .i64 0, .slice none 0 0, .slice none 0 0]) (t := 30) ?hr ?_; (case hd => rfl); (case hg => rfl); (case hr => first | (go_simp; done) | (go_simp; rfl)); intro gb251 hg w20 hbox hb; have n0_ := Aside0.mk (Kd.R_below (by (with_reducible repeat (first | apply Kd.R_alloc | apply Kd.R_drewN | apply Kd.R_drew)); exact HO239.out) hb); have n1_ := Aside0.mk (Kd.R_below (by (with_reducible repeat (first | apply Kd.R_alloc | apply Kd.R_drewN | apply Kd.R_drew)); exact HO242.out) hb); have n2_ := Aside0.mk (Kd.R_below (by (with_reducible repeat (first | apply Kd.R_alloc | apply Kd.R_drewN | apply Kd.R_drew)); exact HO246.out) hb); have n3_ := Aside0.mk (Kd.R_below (by (with_reducible repeat (first | apply Kd.R_alloc | apply Kd.R_drewN | apply Kd.R_drew)); exact HO249.out) hb); have n4_ := Aside0.mk (blk_below (g := gb234) (o := .cells #[.int .i64 a0_0, .slice A0_1 l0_1.length c0_1, .slice A0_2 l0_2.length c0_2] 25 (0, 0)) q9_1 hb); have n5_ := Aside0.mk (below_step q9_13 hb); have n6_ := Aside0.mk (hbox); have n7_ := Aside0.mk ((by rw [hg]; exact (below_size q9_13) : w.heap.size ≤ gb251)); have n8_ := Aside0.mk ((by rw [hg]; exact (below_size q9_13) : w.heap.size ≤ gb251)); have n9_ := Aside0.mk ((q9_42 : gb234 ≠ gb251)); have n10_ := Aside0.mk ((q9_43 : gb251 ≠ gb234)); clear HO239; clear HO242; clear HO246; clear HO249; clear BK234; clear HB; have HO239 := n0_; have HO242 := n1_; have HO246 := n2_; have HO249 := n3_; have BK234 := n4_; have HB := n5_; have BK251 := n6_; have GW251 := n7_; have GE251 := n8_; have NB234_251 := n9_; have NB251_234 := n10_; clear n0_ n1_ n2_ n3_ n4_ n5_ n6_ n7_ n8_ n9_ n10_; clear hb hbox hg; have hnb21 := NB251_234.out; have hnc21 := NB234_251.out; have hcz22_0 : w20.cell? ⟨gb251, 0, none⟩ = some (.int .i64 0) := (blk_cell BK251.out 0).trans rfl; have hcz22_1 : w20.cell? ⟨gb251, 1, none⟩ = some (.slice none 0 0) := (blk_cell BK251.out 1).trans rfl; have hcz22_2 : w20.cell? ⟨gb251, 2, none⟩ = some (.slice none 0 0) := (blk_cell BK251.out 2).trans rfl; have hfz22_0 := blk_frozen BK251.out 0; have hfz22_1 := blk_frozen BK251.out 1; have hfz22_2 := blk_frozen BK251.out 2; obtain ⟨Ao23, co23, eo23⟩ := Kd.R_slice HO246.out; subst eo23; obtain ⟨Ao24, co24, eo24⟩ := Kd.R_slice HO249.out; subst eo24; have hcz25_0 : w20.cell? ⟨gb234, 0, none⟩ = some (.int .i64 a0_0) := (blk_cell BK234.out 0).trans rfl; have hcz25_1 : w20.cell? ⟨gb234, 1, none⟩ = some (.slice A0_1 l0_1.length c0_1) := (blk_cell BK234.out 1).trans rfl; have hcz25_2 : w20.cell? ⟨gb234, 2, none⟩ = some (.slice A0_2 l0_2.length c0_2) := (blk_cell BK234.out 2).trans rfl; have hfz25_0 := blk_frozen BK234.out 0; have hfz25_1 := blk_frozen BK234.out 1; have hfz25_2 := blk_frozen BK234.out 2) | ((with_reducible refine gate_callee (f := 13) rfl ?_); refine goesL_ (some 26) rfl rfl Try.func13 (by kernel_rfl) rfl #[.agg #[.int .i64 a0_0, .slice A0_1 l0_1.length c0_1, .slice A0_2 l0_2.length c0_2]] rfl q9_4 ?_; (with_reducible refine (laws_toAges.calls k a0_0 _ _ l0_1 _ _ l0_2 t252 t253 t256 _ ?side1 ?side2 ?side3 ?side4 A9.out).mono ?_); (case side1 => exact Kd.C_below HR0_1.out q9_14); (case side2 => exact HC0_1.out); (case side3 => exact Kd.C_below HR0_2.out q9_14); (case side4 => exact HC0_2.out); rintro e w26 ⟨v254, v257, rfl, ho0, ho1, hb⟩; refine ⟨_, rfl, ?_⟩; have n0_ := Aside0.mk (Kd.R_elder' q9_51 (Kd.R_base ho0) hb); have n1_ := Aside0.mk (Kd.R_elder' q9_52 (Kd.R_base ho1) hb); have n2_ := Aside0.mk (Kd.R_elder' q9_53 (Kd.R_base ho0) hb); have n3_ := Aside0.mk (Kd.R_elder' q9_54 (Kd.R_base ho1) hb); have n4_ := Aside0.mk (Kd.R_lower (Kd.R_new' (Kd.R_new' ho0 (Kd.R_lt q9_51)) (Kd.R_lt q9_53)) (below_size q9_14)); have n5_ := Aside0.mk (Kd.R_lower (Kd.R_new' (Kd.R_new' ho1 (Kd.R_lt q9_52)) (Kd.R_lt q9_54)) (below_size q9_14)); have n6_ := Aside0.mk (blk_below (g := gb234) (o := .cells #[.int .i64 a0_0, .slice A0_1 l0_1.length c0_1, .slice A0_2 l0_2.length c0_2] 25 (0, 0)) (by (with_reducible repeat (first | refine blk_drewN ?_ _ | refine blk_drew ?_ | refine blk_alloc ?_ _)); refine blk_far ?_ NB234_251.out _; (with_reducible repeat (first | refine blk_drewN ?_ _ | refine blk_drew ?_ | refine blk_alloc ?_ _)); refine blk_far ?_ NB234_251.out _; (with_reducible repeat (first | refine blk_drewN ?_ _ | refine blk_drew ?_ | refine blk_alloc ?_ _)); refine blk_far ?_ NB234_251.out _; (with_reducible repeat (first | refine blk_drewN ?_ _ | refine blk_drew ?_ | refine blk_alloc ?_ _)); exact BK234.out) hb); have n7_ := Aside0.mk (blk_below (g := gb251) (o := .cells #[.int .i64 t243, .slice Ao23 t244.length co23, .slice Ao24 t247.length co24] 30 (0, 0)) (by (with_reducible repeat (first | refine blk_drewN ?_ _ | refine blk_drew ?_ | refine blk_alloc ?_ _)); refine blk_put (cs := #[.int .i64 t243, .slice Ao23 t244.length co23, .slice none 0 0]) ?_ 2 _ rfl; (with_reducible repeat (first | refine blk_drewN ?_ _ | refine blk_drew ?_ | refine blk_alloc ?_ _)); refine blk_put (cs := #[.int .i64 t243, .slice none 0 0, .slice none 0 0]) ?_ 1 _ rfl; (with_reducible repeat (first | refine blk_drewN ?_ _ | refine blk_drew ?_ | refine blk_alloc ?_ _)); refine blk_put (cs := #[.int .i64 0, .slice none 0 0, .slice none 0 0]) ?_ 0 _ rfl; (with_reducible repeat (first | refine blk_drewN ?_ _ | refine blk_drew ?_ | refine blk_alloc ?_ _)); exact BK251.out) hb); have n8_ := Aside0.mk (below_step q9_14 hb); clear HO239; clear HO242; clear HO246; clear HO249; clear BK234; clear BK251; clear HB; have HO239 := n0_; have HO242 := n1_; have HO246 := n2_; have HO249 := n3_; have HO255 := n4_; have HO258 := n5_; have BK234 := n6_; have BK251 := n7_; have HB := n8_; clear n0_ n1_ n2_ n3_ n4_ n5_ n6_ n7_ n8_; (try clear hb); (try clear hb2); (try clear hk); (try clear hi); (try clear ho0); (try clear ho1)) | ((with_reducible refine gate_dst (N := 6) rfl ?_); refine box_event ?hg (N := 6) ?hd (cs := #[.int .i64 0, .slice none 0 0, .slice none 0 0]) (t := 30) ?hr ?_; (case hd => rfl); (case hg => rfl); (case hr => first | (go_simp; done) | (go_simp; rfl)); intro gb259 hg w27 hbox hb; have n0_ := Aside0.mk (Kd.R_below (by (with_reducible repeat (first | apply Kd.R_alloc | apply Kd.R_drewN | apply Kd.R_drew)); exact HO239.out) hb); have n1_ := Aside0.mk (Kd.R_below (by (with_reducible repeat (first | apply Kd.R_alloc | apply Kd.R_drewN | apply Kd.R_drew)); exact HO242.out) hb); have n2_ := Aside0.mk (Kd.R_below (by (with_reducible repeat (first | apply Kd.R_alloc | apply Kd.R_drewN | apply Kd.R_drew)); exact HO246.out) hb); have n3_ := Aside0.mk (Kd.R_below (by (with_reducible repeat (first | apply Kd.R_alloc | apply Kd.R_drewN | apply Kd.R_drew)); exact HO249.out) hb); have n4_ := Aside0.mk (Kd.R_below (by (with_reducible repeat (first | apply Kd.R_alloc | apply Kd.R_drewN | apply Kd.R_drew)); exact HO255.out) hb); have n5_ := Aside0.mk (Kd.R_below (by (with_reducible repeat (first | apply Kd.R_alloc | apply Kd.R_drewN | apply Kd.R_drew)); exact HO258.out) hb); have n6_ := Aside0.mk (blk_below (g := gb234) (o := .cells #[.int .i64 a0_0, .slice A0_1 l0_1.length c0_1, .slice A0_2 l0_2.length c0_2] 25 (0, 0)) q9_1 hb); have n7_ := Aside0.mk (blk_below (g := gb251) (o := .cells #[.int .i64 t243, .slice Ao23 t244.length co23, .slice Ao24 t247.length co24] 30 (0, 0)) q9_2 hb); have n8_ := Aside0.mk (below_step q9_14 hb); have n9_ := Aside0.mk (hbox); have n10_ := Aside0.mk ((by rw [hg]; exact (below_size q9_14) : w.heap.size ≤ gb259)); have n11_ := Aside0.mk ((by rw [hg]; exact (below_size q9_14) : w.heap.size ≤ gb259)); have n12_ := Aside0.mk ((q9_42 : gb234 ≠ gb259)); have n13_ := Aside0.mk ((q9_43 : gb259 ≠ gb234)); have n14_ := Aside0.mk ((by rw [hg]; exact Nat.ne_of_lt (blk_lt (g := gb251) (o := .cells #[.int .i64 t243, .slice Ao23 t244.length co23, .slice Ao24 t247.length co24] 30 (0, 0)) q9_2) : gb251 ≠ gb259)); have n15_ := Aside0.mk ((by rw [hg]; exact Nat.ne_of_gt (blk_lt (g := gb251) (o := .cells #[.int .i64 t243, .slice Ao23 t244.length co23, .slice Ao24 t247.length co24] 30 (0, 0)) q9_2) : gb259 ≠ gb251)); clear HO239; clear HO242; clear HO246; clear HO249; clear HO255; clear HO258; clear BK234; clear BK251; clear HB; have HO239 := n0_; have HO242 := n1_; have HO246 := n2_; have HO249 := n3_; have HO255 := n4_; have HO258 := n5_; have BK234 := n6_; have BK251 := n7_; have HB := n8_; have BK259 := n9_; have GW259 := n10_; have GE259 := n11_; have NB234_259 := n12_; have NB259_234 := n13_; have NB251_259 := n14_; have NB259_251 := n15_; clear n0_ n1_ n2_ n3_ n4_ n5_ n6_ n7_ n8_ n9_ n10_ n11_ n12_ n13_ n14_ n15_; clear hb hbox hg; have hnb28 := NB259_234.out; have hnc28 := NB234_259.out; have hnb29 := NB259_251.out; have hnc29 := NB251_259.out; have hcz30_0 : w27.cell? ⟨gb259, 0, none⟩ = some (.int .i64 0) := (blk_cell BK259.out 0).trans rfl; have hcz30_1 : w27.cell? ⟨gb259, 1, none⟩ = some (.slice none 0 0) := (blk_cell BK259.out 1).trans rfl; have hcz30_2 : w27.cell? ⟨gb259, 2, none⟩ = some (.slice none 0 0) := (blk_cell BK259.out 2).trans rfl; have hfz30_0 := blk_frozen BK259.out 0; have hfz30_1 := blk_frozen BK259.out 1; have hfz30_2 := blk_frozen BK259.out 2; obtain ⟨Ao31, co31, eo31⟩ := Kd.R_slice HO255.out; subst eo31; obtain ⟨Ao32, co32, eo32⟩ := Kd.R_slice HO258.out; subst eo32) | ((with_reducible refine gate_callee (f := 27) rfl ?_); refine goesL_ (some 29) rfl rfl Try.func27 (by kernel_rfl) rfl #[.agg #[.int .i64 t252, .slice Ao31 t253.length co31, .slice Ao32 t256.length co32]] rfl q9_4 ?_; (with_reducible refine (impl_Advance.calls k t252 _ _ t253 _ _ t256 t260 t261 t264 t267 _ ?side1 ?side2 ?side3 ?side4 A10.out).mono ?_); (case side1 => refine (Kd.R_reads' (e := 3) (base := w.heap.size) (ok := fun k_ => ((True ∧ some k_ ≠ (.slice Ao17 t237.length co17 : Value).ownBlock) ∧ some k_ ≠ (.slice Ao23 t244.length co23 : Value).ownBlock)) (n := t253.length) (c := co31) ?_).2.2; exact q9_28); (case side2 => exact (Kd.R_reads' HO255.out).2.1); (case side3 => refine (Kd.R_reads' (e := 48) (base := w.heap.size) (ok := fun k_ => ((True ∧ some k_ ≠ (.slice Ao18 t240.length co18 : Value).ownBlock) ∧ some k_ ≠ (.slice Ao24 t247.length co24 : Value).ownBlock)) (n := t256.length) (c := co32) ?_).2.2; exact q9_29); (case side4 => exact (Kd.R_reads' HO258.out).2.1); rintro e w33 ⟨v262, v265, rfl, ho0, ho1, hb⟩; refine ⟨_, rfl, ?_⟩; have n0_ := Aside0.mk (Kd.R_elder' q9_55 (Kd.R_base ho0) hb); have n1_ := Aside0.mk (Kd.R_elder' q9_56 (Kd.R_base ho1) hb); have n2_ := Aside0.mk (Kd.R_elder' q9_57 (Kd.R_base ho0) hb); have n3_ := Aside0.mk (Kd.R_elder' q9_58 (Kd.R_base ho1) hb); have n4_ := Aside0.mk (Kd.R_elder' q9_28 (Kd.R_base ho0) hb); have n5_ := Aside0.mk (Kd.R_elder' q9_29 (Kd.R_base ho1) hb); have n6_ := Aside0.mk (Kd.R_lower (Kd.R_new' (Kd.R_new' (Kd.R_new' ho0 (Kd.R_lt q9_55)) (Kd.R_lt q9_57)) (Kd.R_lt q9_28)) (below_size q9_25)); have n7_ := Aside0.mk (Kd.R_lower (Kd.R_new' (Kd.R_new' (Kd.R_new' ho1 (Kd.R_lt q9_56)) (Kd.R_lt q9_58)) (Kd.R_lt q9_29)) (below_size q9_25)); have n8_ := Aside0.mk (blk_below (g := gb234) (o := .cells #[.int .i64 a0_0, .slice A0_1 l0_1.length c0_1, .slice A0_2 l0_2.length c0_2] 25 (0, 0)) (by (with_reducible repeat (first | refine blk_drewN ?_ _ | refine blk_drew ?_ | refine blk_alloc ?_ _)); refine blk_far ?_ NB234_259.out _; (with_reducible repeat (first | refine blk_drewN ?_ _ | refine blk_drew ?_ | refine blk_alloc ?_ _)); refine blk_far ?_ NB234_259.out _; (with_reducible repeat (first | refine blk_drewN ?_ _ | refine blk_drew ?_ | refine blk_alloc ?_ _)); refine blk_far ?_ NB234_259.out _; (with_reducible repeat (first | refine blk_drewN ?_ _ | refine blk_drew ?_ | refine blk_alloc ?_ _)); exact BK234.out) hb); have n9_ := Aside0.mk (blk_below (g := gb251) (o := .cells #[.int .i64 t243, .slice Ao23 t244.length co23, .slice Ao24 t247.length co24] 30 (0, 0)) (by (with_reducible repeat (first | refine blk_drewN ?_ _ | refine blk_drew ?_ | refine blk_alloc ?_ _)); refine blk_far ?_ NB251_259.out _; (with_reducible repeat (first | refine blk_drewN ?_ _ | refine blk_drew ?_ | refine blk_alloc ?_ _)); refine blk_far ?_ NB251_259.out _; (with_reducible repeat (first | refine blk_drewN ?_ _ | refine blk_drew ?_ | refine blk_alloc ?_ _)); refine blk_far ?_ NB251_259.out _; (with_reducible repeat (first | refine blk_drewN ?_ _ | refine blk_drew ?_ | refine blk_alloc ?_ _)); exact BK251.out) hb); have n10_ := Aside0.mk (blk_below (g := gb259) (o := .cells #[.int .i64 t252, .slice Ao31 t253.length co31, .slice Ao32 t256.length co32] 30 (0, 0)) (by (with_reducible repeat (first | refine blk_drewN ?_ _ | refine blk_drew ?_ | refine blk_alloc ?_ _)); refine blk_put (cs := #[.int .i64 t252, .slice Ao31 t253.length co31, .slice none 0 0]) ?_ 2 _ rfl; (with_reducible repeat (first | refine blk_drewN ?_ _ | refine blk_drew ?_ | refine blk_alloc ?_ _)); refine blk_put (cs := #[.int .i64 t252, .slice none 0 0, .slice none 0 0]) ?_ 1 _ rfl; (with_reducible repeat (first | refine blk_drewN ?_ _ | refine blk_drew ?_ | refine blk_alloc ?_ _)); refine blk_put (cs := #[.int .i64 0, .slice none 0 0, .slice none 0 0]) ?_ 0 _ rfl; (with_reducible repeat (first | refine blk_drewN ?_ _ | refine blk_drew ?_ | refine blk_alloc ?_ _)); exact BK259.out) hb); have n11_ := Aside0.mk (below_step q9_25 hb); clear HO239; clear HO242; clear HO246; clear HO249; clear HO255; clear HO258; clear BK234; clear BK251; clear BK259; clear HB; have HO239 := n0_; have HO242 := n1_; have HO246 := n2_; have HO249 := n3_; have HO255 := n4_; have HO258 := n5_; have HO263 := n6_; have HO266 := n7_; have BK234 := n8_; have BK251 := n9_; have BK259 := n10_; have HB := n11_; clear n0_ n1_ n2_ n3_ n4_ n5_ n6_ n7_ n8_ n9_ n10_ n11_; (try clear hb); (try clear hb2); (try clear hk); (try clear hi); (try clear ho0); (try clear ho1)) | ((with_reducible refine gate_dst (N := 7) rfl ?_); refine box_event ?hg (N := 7) ?hd (cs := #[.int .i64 0, .slice none 0 0, .slice none 0 0]) (t := 30) ?hr ?_; (case hd => rfl); (case hg => rfl); (case hr => first | (go_simp; done) | (go_simp; rfl)); intro gb268 hg w34 hbox hb; have n0_ := Aside0.mk (Kd.R_below (by (with_reducible repeat (first | apply Kd.R_alloc | apply Kd.R_drewN | apply Kd.R_drew)); exact HO239.out) hb); have n1_ := Aside0.mk (Kd.R_below (by (with_reducible repeat (first | apply Kd.R_alloc | apply Kd.R_drewN | apply Kd.R_drew)); exact HO242.out) hb); have n2_ := Aside0.mk (Kd.R_below (by (with_reducible repeat (first | apply Kd.R_alloc | apply Kd.R_drewN | apply Kd.R_drew)); exact HO246.out) hb); have n3_ := Aside0.mk (Kd.R_below (by (with_reducible repeat (first | apply Kd.R_alloc | apply Kd.R_drewN | apply Kd.R_drew)); exact HO249.out) hb); have n4_ := Aside0.mk (Kd.R_below (by (with_reducible repeat (first | apply Kd.R_alloc | apply Kd.R_drewN | apply Kd.R_drew)); exact HO255.out) hb); have n5_ := Aside0.mk (Kd.R_below (by (with_reducible repeat (first | apply Kd.R_alloc | apply Kd.R_drewN | apply Kd.R_drew)); exact HO258.out) hb); have n6_ := Aside0.mk (Kd.R_below (by (with_reducible repeat (first | apply Kd.R_alloc | apply Kd.R_drewN | apply Kd.R_drew)); exact HO263.out) hb); have n7_ := Aside0.mk (Kd.R_below (by (with_reducible repeat (first | apply Kd.R_alloc | apply Kd.R_drewN | apply Kd.R_drew)); exact HO266.out) hb); have n8_ := Aside0.mk (blk_below (g := gb234) (o := .cells #[.int .i64 a0_0, .slice A0_1 l0_1.length c0_1, .slice A0_2 l0_2.length c0_2] 25 (0, 0)) q9_1 hb); have n9_ := Aside0.mk (blk_below (g := gb251) (o := .cells #[.int .i64 t243, .slice Ao23 t244.length co23, .slice Ao24 t247.length co24] 30 (0, 0)) q9_2 hb); have n10_ := Aside0.mk (blk_below (g := gb259) (o := .cells #[.int .i64 t252, .slice Ao31 t253.length co31, .slice Ao32 t256.length co32] 30 (0, 0)) q9_3 hb); have n11_ := Aside0.mk (below_step q9_25 hb); have n12_ := Aside0.mk (hbox); have n13_ := Aside0.mk ((by rw [hg]; exact (below_size q9_25) : w.heap.size ≤ gb268)); have n14_ := Aside0.mk ((by rw [hg]; exact (below_size q9_25) : w.heap.size ≤ gb268)); have n15_ := Aside0.mk ((q9_42 : gb234 ≠ gb268)); have n16_ := Aside0.mk ((q9_43 : gb268 ≠ gb234)); have n17_ := Aside0.mk ((by rw [hg]; exact Nat.ne_of_lt (blk_lt (g := gb251) (o := .cells #[.int .i64 t243, .slice Ao23 t244.length co23, .slice Ao24 t247.length co24] 30 (0, 0)) q9_2) : gb251 ≠ gb268)); have n18_ := Aside0.mk ((by rw [hg]; exact Nat.ne_of_gt (blk_lt (g := gb251) (o := .cells #[.int .i64 t243, .slice Ao23 t244.length co23, .slice Ao24 t247.length co24] 30 (0, 0)) q9_2) : gb268 ≠ gb251)); have n19_ := Aside0.mk ((by rw [hg]; exact Nat.ne_of_lt (blk_lt (g := gb259) (o := .cells #[.int .i64 t252, .slice Ao31 t253.length co31, .slice Ao32 t256.length co32] 30 (0, 0)) q9_3) : gb259 ≠ gb268)); have n20_ := Aside0.mk ((by rw [hg]; exact Nat.ne_of_gt (blk_lt (g := gb259) (o := .cells #[.int .i64 t252, .slice Ao31 t253.length co31, .slice Ao32 t256.length co32] 30 (0, 0)) q9_3) : gb268 ≠ gb259)); clear HO239; clear HO242; clear HO246; clear HO249; clear HO255; clear HO258; clear HO263; clear HO266; clear BK234; clear BK251; clear BK259; clear HB; have HO239 := n0_; have HO242 := n1_; have HO246 := n2_; have HO249 := n3_; have HO255 := n4_; have HO258 := n5_; have HO263 := n6_; have HO266 := n7_; have BK234 := n8_; have BK251 := n9_; have BK259 := n10_; have HB := n11_; have BK268 := n12_; have GW268 := n13_; have GE268 := n14_; have NB234_268 := n15_; have NB268_234 := n16_; have NB251_268 := n17_; have NB268_251 := n18_; have NB259_268 := n19_; have NB268_259 := n20_; clear n0_ n1_ n2_ n3_ n4_ n5_ n6_ n7_ n8_ n9_ n10_ n11_ n12_ n13_ n14_ n15_ n16_ n17_ n18_ n19_ n20_; clear hb hbox hg; have hnb35 := NB268_234.out; have hnc35 := NB234_268.out; have hnb36 := NB268_251.out; have hnc36 := NB251_268.out; have hnb37 := NB268_259.out; have hnc37 := NB259_268.out; have hcz38_0 : w34.cell? ⟨gb268, 0, none⟩ = some (.int .i64 0) := (blk_cell BK268.out 0).trans rfl; have hcz38_1 : w34.cell? ⟨gb268, 1, none⟩ = some (.slice none 0 0) := (blk_cell BK268.out 1).trans rfl; have hcz38_2 : w34.cell? ⟨gb268, 2, none⟩ = some (.slice none 0 0) := (blk_cell BK268.out 2).trans rfl; have hfz38_0 := blk_frozen BK268.out 0; have hfz38_1 := blk_frozen BK268.out 1; have hfz38_2 := blk_frozen BK268.out 2; obtain ⟨Ao39, co39, eo39⟩ := Kd.R_slice HO263.out; subst eo39; obtain ⟨Ao40, co40, eo40⟩ := Kd.R_slice HO266.out; subst eo40))
  (try simp only [Act.put, List.setIfInBounds_toArray, List.set_cons_zero, List.set_cons_succ])
  go_cut [40] (fun v40 wc => ∃ (kq : Nat) (x40_10 : Bool), v40 = .bool x40_10 ∧ Aside0 (laws_FnExactAdvance.j0 kq t250 t267 x40_10 a0_0 l0_1 l0_2 t243 t244 t247 t252 t253 t256 t260 t261 t264 = some r) ∧ Aside0 (kq ≤ k) ∧ Aside0 (Kd.R (Kd.int .i64) 3 wc w.heap.size (fun k_ => some k_ ≠ ((.slice Ao31 t253.length co31) : Value).ownBlock ∧ some k_ ≠ ((.slice Ao39 t261.length co39) : Value).ownBlock) (.slice Ao23 t244.length co23) t244) ∧ Aside0 (Kd.R k48 48 wc w.heap.size (fun k_ => some k_ ≠ ((.slice Ao32 t256.length co32) : Value).ownBlock ∧ some k_ ≠ ((.slice Ao40 t264.length co40) : Value).ownBlock) (.slice Ao24 t247.length co24) t247) ∧ Aside0 (Kd.R (Kd.int .i64) 3 wc w.heap.size (fun k_ => some k_ ≠ ((.slice Ao23 t244.length co23) : Value).ownBlock ∧ some k_ ≠ ((.slice Ao39 t261.length co39) : Value).ownBlock) (.slice Ao31 t253.length co31) t253) ∧ Aside0 (Kd.R k48 48 wc w.heap.size (fun k_ => some k_ ≠ ((.slice Ao24 t247.length co24) : Value).ownBlock ∧ some k_ ≠ ((.slice Ao40 t264.length co40) : Value).ownBlock) (.slice Ao32 t256.length co32) t256) ∧ Aside0 (Kd.R (Kd.int .i64) 3 wc w.heap.size (fun k_ => some k_ ≠ ((.slice Ao23 t244.length co23) : Value).ownBlock ∧ some k_ ≠ ((.slice Ao31 t253.length co31) : Value).ownBlock) (.slice Ao39 t261.length co39) t261) ∧ Aside0 (Kd.R k48 48 wc w.heap.size (fun k_ => some k_ ≠ ((.slice Ao24 t247.length co24) : Value).ownBlock ∧ some k_ ≠ ((.slice Ao32 t256.length co32) : Value).ownBlock) (.slice Ao40 t264.length co40) t264) ∧ Aside0 (wc.heap[gb234]? = some (.cells #[.int .i64 a0_0, (.slice A0_1 l0_1.length c0_1), (.slice A0_2 l0_2.length c0_2)] 25 (0, 0))) ∧ Aside0 (wc.heap[gb251]? = some (.cells #[.int .i64 t243, (.slice Ao23 t244.length co23), (.slice Ao24 t247.length co24)] 30 (0, 0))) ∧ Aside0 (wc.heap[gb259]? = some (.cells #[.int .i64 t252, (.slice Ao31 t253.length co31), (.slice Ao32 t256.length co32)] 30 (0, 0))) ∧ Aside0 (wc.heap[gb268]? = some (.cells #[.int .i64 t260, (.slice Ao39 t261.length co39), (.slice Ao40 t264.length co40)] 30 (0, 0))) ∧ Aside0 (Below w.heap.size w wc))
  case first =>
   have H := HC11.out
   clear HC11
   replace H := Option.bind_eq_some_iff.mp H
   obtain ⟨t269, A410, H⟩ := H
   replace H : (if t269 = true then (laws_FnExactAdvance.j0 k t250 t267 (t267 != t250) a0_0 l0_1 l0_2 t243 t244 t247 t252 t253 t256 t260 t261 t264) else (laws_FnExactAdvance.j0 k t250 t267 true a0_0 l0_1 l0_2 t243 t244 t247 t252 t253 t256 t260 t261 t264)) = some r := H
   have A41 := Aside0.mk A410
   clear A410
   by_cases c42 : t269 = true
   ·subst c42
    have H1 : (laws_FnExactAdvance.j0 k t250 t267 (t267 != t250) a0_0 l0_1 l0_2 t243 t244 t247 t252 t253 t256 t260 t261 t264) = some r := by rw [if_pos rfl] at H; exact H
    clear H
    have H := H1
    clear H1
    have H' := Aside0.mk H
    clear H
    have hnb43 := NB268_234.out
    have hnc43 := NB234_268.out
    have hnb44 := NB268_251.out
    have hnc44 := NB251_268.out
    have hnb45 := NB268_259.out
    have hnc45 := NB259_268.out
    have hcz46_0 : w34.cell? ⟨gb268, 0, none⟩ = some (.int .i64 0) := (blk_cell BK268.out 0).trans rfl
    have hcz46_1 : w34.cell? ⟨gb268, 1, none⟩ = some (.slice none 0 0) := (blk_cell BK268.out 1).trans rfl
    have hcz46_2 : w34.cell? ⟨gb268, 2, none⟩ = some (.slice none 0 0) := (blk_cell BK268.out 2).trans rfl
    have hfz46_0 := blk_frozen BK268.out 0
    have hfz46_1 := blk_frozen BK268.out 1
    have hfz46_2 := blk_frozen BK268.out 2
    have hnb47 := NB251_234.out
    have hnc47 := NB234_251.out
    have hnb48 := NB251_259.out
    have hnc48 := NB259_251.out
    have hcz49_0 : w34.cell? ⟨gb251, 0, none⟩ = some (.int .i64 t243) := (blk_cell BK251.out 0).trans rfl
    have hcz49_1 : w34.cell? ⟨gb251, 1, none⟩ = some (.slice Ao23 t244.length co23) := (blk_cell BK251.out 1).trans rfl
    have hcz49_2 : w34.cell? ⟨gb251, 2, none⟩ = some (.slice Ao24 t247.length co24) := (blk_cell BK251.out 2).trans rfl
    have hfz49_0 := blk_frozen BK251.out 0
    have hfz49_1 := blk_frozen BK251.out 1
    have hfz49_2 := blk_frozen BK251.out 2
    go_wp2_with (first | ((with_reducible refine gate_callee (f := 15) rfl ?_); refine goesL_ (some 34) rfl rfl Try.func15 (by kernel_rfl) rfl #[.agg #[.int .i64 t260, .slice Ao39 t261.length co39, .slice Ao40 t264.length co40], .agg #[.int .i64 t243, .slice Ao23 t244.length co23, .slice Ao24 t247.length co24]] rfl q9_4 ?_; (with_reducible refine (laws_eqAges.calls k t260 _ _ t261 _ _ t264 t243 _ _ t244 _ _ t247 true _ ?side1 ?side2 ?side3 ?side4 ?side5 ?side6 ?side7 ?side8 A41.out).mono ?_); (case side1 => refine (Kd.R_reads' (e := 3) (base := w.heap.size) (ok := fun k_ => (((True ∧ some k_ ≠ (.slice Ao17 t237.length co17 : Value).ownBlock) ∧ some k_ ≠ (.slice Ao23 t244.length co23 : Value).ownBlock) ∧ some k_ ≠ (.slice Ao31 t253.length co31 : Value).ownBlock)) (n := t261.length) (c := co39) ?_).2.2; exact q9_19); (case side2 => exact (Kd.R_reads' HO263.out).2.1); (case side3 => refine (Kd.R_reads' (e := 48) (base := w.heap.size) (ok := fun k_ => (((True ∧ some k_ ≠ (.slice Ao18 t240.length co18 : Value).ownBlock) ∧ some k_ ≠ (.slice Ao24 t247.length co24 : Value).ownBlock) ∧ some k_ ≠ (.slice Ao32 t256.length co32 : Value).ownBlock)) (n := t264.length) (c := co40) ?_).2.2; exact q9_20); (case side4 => exact (Kd.R_reads' HO266.out).2.1); (case side5 => refine (Kd.R_reads' (e := 3) (base := w.heap.size) (ok := fun k_ => (((True ∧ some k_ ≠ (.slice Ao17 t237.length co17 : Value).ownBlock) ∧ some k_ ≠ (.slice Ao31 t253.length co31 : Value).ownBlock) ∧ some k_ ≠ (.slice Ao39 t261.length co39 : Value).ownBlock)) (n := t244.length) (c := co23) ?_).2.2; exact q9_21); (case side6 => exact (Kd.R_reads' HO246.out).2.1); (case side7 => refine (Kd.R_reads' (e := 48) (base := w.heap.size) (ok := fun k_ => (((True ∧ some k_ ≠ (.slice Ao18 t240.length co18 : Value).ownBlock) ∧ some k_ ≠ (.slice Ao32 t256.length co32 : Value).ownBlock) ∧ some k_ ≠ (.slice Ao40 t264.length co40 : Value).ownBlock)) (n := t247.length) (c := co24) ?_).2.2; exact q9_22); (case side8 => exact (Kd.R_reads' HO249.out).2.1); rintro e w50 ⟨rfl, hb⟩; refine ⟨_, rfl, ?_⟩; have n0_ := Aside0.mk (Kd.R_below q9_59 hb); have n1_ := Aside0.mk (Kd.R_below (by (with_reducible repeat (first | apply Kd.R_alloc | apply Kd.R_drewN | apply Kd.R_drew)); exact (Kd.R_mono (Kd.R_far (p := ⟨gb268, 2, none⟩) (Kd.R_far (p := ⟨gb268, 1, none⟩) (Kd.R_far (p := ⟨gb268, 0, none⟩) (Kd.R_types HO242.out BK268.out q9_44) (fun _ hk => hk.2) (.int .i64 t260)) (fun _ hk => hk.2) (.slice Ao39 t261.length co39)) (fun _ hk => hk.2) (.slice Ao40 t264.length co40)) (fun _ h_ => h_.1))) hb); have n2_ := Aside0.mk (Kd.R_below q9_21 hb); have n3_ := Aside0.mk (Kd.R_below q9_22 hb); have n4_ := Aside0.mk (Kd.R_below (by (with_reducible repeat (first | apply Kd.R_alloc | apply Kd.R_drewN | apply Kd.R_drew)); exact (Kd.R_mono (Kd.R_far (p := ⟨gb268, 2, none⟩) (Kd.R_far (p := ⟨gb268, 1, none⟩) (Kd.R_far (p := ⟨gb268, 0, none⟩) (Kd.R_types HO255.out BK268.out q9_44) (fun _ hk => hk.2) (.int .i64 t260)) (fun _ hk => hk.2) (.slice Ao39 t261.length co39)) (fun _ hk => hk.2) (.slice Ao40 t264.length co40)) (fun _ h_ => h_.1))) hb); have n5_ := Aside0.mk (Kd.R_below (by (with_reducible repeat (first | apply Kd.R_alloc | apply Kd.R_drewN | apply Kd.R_drew)); exact (Kd.R_mono (Kd.R_far (p := ⟨gb268, 2, none⟩) (Kd.R_far (p := ⟨gb268, 1, none⟩) (Kd.R_far (p := ⟨gb268, 0, none⟩) (Kd.R_types HO258.out BK268.out q9_44) (fun _ hk => hk.2) (.int .i64 t260)) (fun _ hk => hk.2) (.slice Ao39 t261.length co39)) (fun _ hk => hk.2) (.slice Ao40 t264.length co40)) (fun _ h_ => h_.1))) hb); have n6_ := Aside0.mk (Kd.R_below q9_19 hb); have n7_ := Aside0.mk (Kd.R_below q9_20 hb); have n8_ := Aside0.mk (blk_below (g := gb234) (o := .cells #[.int .i64 a0_0, .slice A0_1 l0_1.length c0_1, .slice A0_2 l0_2.length c0_2] 25 (0, 0)) q9_35 hb); have n9_ := Aside0.mk (blk_below (g := gb251) (o := .cells #[.int .i64 t243, .slice Ao23 t244.length co23, .slice Ao24 t247.length co24] 30 (0, 0)) q9_36 hb); have n10_ := Aside0.mk (blk_below (g := gb259) (o := .cells #[.int .i64 t252, .slice Ao31 t253.length co31, .slice Ao32 t256.length co32] 30 (0, 0)) q9_37 hb); have n11_ := Aside0.mk (blk_below (g := gb268) (o := .cells #[.int .i64 t260, .slice Ao39 t261.length co39, .slice Ao40 t264.length co40] 30 (0, 0)) q9_32 hb); have n12_ := Aside0.mk (below_step q9_0 hb); clear HO239; clear HO242; clear HO246; clear HO249; clear HO255; clear HO258; clear HO263; clear HO266; clear BK234; clear BK251; clear BK259; clear BK268; clear HB; have HO239 := n0_; have HO242 := n1_; have HO246 := n2_; have HO249 := n3_; have HO255 := n4_; have HO258 := n5_; have HO263 := n6_; have HO266 := n7_; have BK234 := n8_; have BK251 := n9_; have BK259 := n10_; have BK268 := n11_; have HB := n12_; clear n0_ n1_ n2_ n3_ n4_ n5_ n6_ n7_ n8_ n9_ n10_ n11_ n12_; (try clear hb); (try clear hb2); (try clear hk); (try clear hi)))
    go_meet
    case rel => exact ⟨_, ((t267 != t250)), (by first | rfl | (simp; done) | (simp [*]; done)), H', ⟨by first | omega | exact Nat.le_refl _⟩, ⟨by (with_reducible repeat (first | apply Kd.R_alloc | apply Kd.R_drewN | apply Kd.R_drew)); exact Kd.R_mono HO246.out (fun _ hk => ⟨hk.1.2, hk.2⟩)⟩, ⟨by (with_reducible repeat (first | apply Kd.R_alloc | apply Kd.R_drewN | apply Kd.R_drew)); exact Kd.R_mono HO249.out (fun _ hk => ⟨hk.1.2, hk.2⟩)⟩, ⟨by (with_reducible repeat (first | apply Kd.R_alloc | apply Kd.R_drewN | apply Kd.R_drew)); exact Kd.R_mono HO255.out (fun _ hk => ⟨hk.1.2, hk.2⟩)⟩, ⟨by (with_reducible repeat (first | apply Kd.R_alloc | apply Kd.R_drewN | apply Kd.R_drew)); exact Kd.R_mono HO258.out (fun _ hk => ⟨hk.1.2, hk.2⟩)⟩, ⟨by (with_reducible repeat (first | apply Kd.R_alloc | apply Kd.R_drewN | apply Kd.R_drew)); exact Kd.R_mono HO263.out (fun _ hk => ⟨hk.1.2, hk.2⟩)⟩, ⟨by (with_reducible repeat (first | apply Kd.R_alloc | apply Kd.R_drewN | apply Kd.R_drew)); exact Kd.R_mono HO266.out (fun _ hk => ⟨hk.1.2, hk.2⟩)⟩, ⟨q9_1⟩, ⟨q9_2⟩, ⟨q9_3⟩, ⟨q9_5⟩, ⟨q9_0⟩⟩
   ·replace c42 := Bool.eq_false_iff.mpr c42
    subst c42
    have H1 : (laws_FnExactAdvance.j0 k t250 t267 true a0_0 l0_1 l0_2 t243 t244 t247 t252 t253 t256 t260 t261 t264) = some r := by rw [if_neg (show ¬ (false = true) by decide)] at H; exact H
    clear H
    have H := H1
    clear H1
    have H' := Aside0.mk H
    clear H
    have hnb51 := NB268_234.out
    have hnc51 := NB234_268.out
    have hnb52 := NB268_251.out
    have hnc52 := NB251_268.out
    have hnb53 := NB268_259.out
    have hnc53 := NB259_268.out
    have hcz54_0 : w34.cell? ⟨gb268, 0, none⟩ = some (.int .i64 0) := (blk_cell BK268.out 0).trans rfl
    have hcz54_1 : w34.cell? ⟨gb268, 1, none⟩ = some (.slice none 0 0) := (blk_cell BK268.out 1).trans rfl
    have hcz54_2 : w34.cell? ⟨gb268, 2, none⟩ = some (.slice none 0 0) := (blk_cell BK268.out 2).trans rfl
    have hfz54_0 := blk_frozen BK268.out 0
    have hfz54_1 := blk_frozen BK268.out 1
    have hfz54_2 := blk_frozen BK268.out 2
    have hnb55 := NB251_234.out
    have hnc55 := NB234_251.out
    have hnb56 := NB251_259.out
    have hnc56 := NB259_251.out
    have hcz57_0 : w34.cell? ⟨gb251, 0, none⟩ = some (.int .i64 t243) := (blk_cell BK251.out 0).trans rfl
    have hcz57_1 : w34.cell? ⟨gb251, 1, none⟩ = some (.slice Ao23 t244.length co23) := (blk_cell BK251.out 1).trans rfl
    have hcz57_2 : w34.cell? ⟨gb251, 2, none⟩ = some (.slice Ao24 t247.length co24) := (blk_cell BK251.out 2).trans rfl
    have hfz57_0 := blk_frozen BK251.out 0
    have hfz57_1 := blk_frozen BK251.out 1
    have hfz57_2 := blk_frozen BK251.out 2
    go_wp2_with (first | ((with_reducible refine gate_callee (f := 15) rfl ?_); refine goesL_ (some 34) rfl rfl Try.func15 (by kernel_rfl) rfl #[.agg #[.int .i64 t260, .slice Ao39 t261.length co39, .slice Ao40 t264.length co40], .agg #[.int .i64 t243, .slice Ao23 t244.length co23, .slice Ao24 t247.length co24]] rfl q9_4 ?_; (with_reducible refine (laws_eqAges.calls k t260 _ _ t261 _ _ t264 t243 _ _ t244 _ _ t247 false _ ?side1 ?side2 ?side3 ?side4 ?side5 ?side6 ?side7 ?side8 A41.out).mono ?_); (case side1 => refine (Kd.R_reads' (e := 3) (base := w.heap.size) (ok := fun k_ => (((True ∧ some k_ ≠ (.slice Ao17 t237.length co17 : Value).ownBlock) ∧ some k_ ≠ (.slice Ao23 t244.length co23 : Value).ownBlock) ∧ some k_ ≠ (.slice Ao31 t253.length co31 : Value).ownBlock)) (n := t261.length) (c := co39) ?_).2.2; exact q9_19); (case side2 => exact (Kd.R_reads' HO263.out).2.1); (case side3 => refine (Kd.R_reads' (e := 48) (base := w.heap.size) (ok := fun k_ => (((True ∧ some k_ ≠ (.slice Ao18 t240.length co18 : Value).ownBlock) ∧ some k_ ≠ (.slice Ao24 t247.length co24 : Value).ownBlock) ∧ some k_ ≠ (.slice Ao32 t256.length co32 : Value).ownBlock)) (n := t264.length) (c := co40) ?_).2.2; exact q9_20); (case side4 => exact (Kd.R_reads' HO266.out).2.1); (case side5 => refine (Kd.R_reads' (e := 3) (base := w.heap.size) (ok := fun k_ => (((True ∧ some k_ ≠ (.slice Ao17 t237.length co17 : Value).ownBlock) ∧ some k_ ≠ (.slice Ao31 t253.length co31 : Value).ownBlock) ∧ some k_ ≠ (.slice Ao39 t261.length co39 : Value).ownBlock)) (n := t244.length) (c := co23) ?_).2.2; exact q9_21); (case side6 => exact (Kd.R_reads' HO246.out).2.1); (case side7 => refine (Kd.R_reads' (e := 48) (base := w.heap.size) (ok := fun k_ => (((True ∧ some k_ ≠ (.slice Ao18 t240.length co18 : Value).ownBlock) ∧ some k_ ≠ (.slice Ao32 t256.length co32 : Value).ownBlock) ∧ some k_ ≠ (.slice Ao40 t264.length co40 : Value).ownBlock)) (n := t247.length) (c := co24) ?_).2.2; exact q9_22); (case side8 => exact (Kd.R_reads' HO249.out).2.1); rintro e w58 ⟨rfl, hb⟩; refine ⟨_, rfl, ?_⟩; have n0_ := Aside0.mk (Kd.R_below q9_59 hb); have n1_ := Aside0.mk (Kd.R_below (by (with_reducible repeat (first | apply Kd.R_alloc | apply Kd.R_drewN | apply Kd.R_drew)); exact (Kd.R_mono (Kd.R_far (p := ⟨gb268, 2, none⟩) (Kd.R_far (p := ⟨gb268, 1, none⟩) (Kd.R_far (p := ⟨gb268, 0, none⟩) (Kd.R_types HO242.out BK268.out q9_44) (fun _ hk => hk.2) (.int .i64 t260)) (fun _ hk => hk.2) (.slice Ao39 t261.length co39)) (fun _ hk => hk.2) (.slice Ao40 t264.length co40)) (fun _ h_ => h_.1))) hb); have n2_ := Aside0.mk (Kd.R_below q9_21 hb); have n3_ := Aside0.mk (Kd.R_below q9_22 hb); have n4_ := Aside0.mk (Kd.R_below (by (with_reducible repeat (first | apply Kd.R_alloc | apply Kd.R_drewN | apply Kd.R_drew)); exact (Kd.R_mono (Kd.R_far (p := ⟨gb268, 2, none⟩) (Kd.R_far (p := ⟨gb268, 1, none⟩) (Kd.R_far (p := ⟨gb268, 0, none⟩) (Kd.R_types HO255.out BK268.out q9_44) (fun _ hk => hk.2) (.int .i64 t260)) (fun _ hk => hk.2) (.slice Ao39 t261.length co39)) (fun _ hk => hk.2) (.slice Ao40 t264.length co40)) (fun _ h_ => h_.1))) hb); have n5_ := Aside0.mk (Kd.R_below (by (with_reducible repeat (first | apply Kd.R_alloc | apply Kd.R_drewN | apply Kd.R_drew)); exact (Kd.R_mono (Kd.R_far (p := ⟨gb268, 2, none⟩) (Kd.R_far (p := ⟨gb268, 1, none⟩) (Kd.R_far (p := ⟨gb268, 0, none⟩) (Kd.R_types HO258.out BK268.out q9_44) (fun _ hk => hk.2) (.int .i64 t260)) (fun _ hk => hk.2) (.slice Ao39 t261.length co39)) (fun _ hk => hk.2) (.slice Ao40 t264.length co40)) (fun _ h_ => h_.1))) hb); have n6_ := Aside0.mk (Kd.R_below q9_19 hb); have n7_ := Aside0.mk (Kd.R_below q9_20 hb); have n8_ := Aside0.mk (blk_below (g := gb234) (o := .cells #[.int .i64 a0_0, .slice A0_1 l0_1.length c0_1, .slice A0_2 l0_2.length c0_2] 25 (0, 0)) q9_35 hb); have n9_ := Aside0.mk (blk_below (g := gb251) (o := .cells #[.int .i64 t243, .slice Ao23 t244.length co23, .slice Ao24 t247.length co24] 30 (0, 0)) q9_36 hb); have n10_ := Aside0.mk (blk_below (g := gb259) (o := .cells #[.int .i64 t252, .slice Ao31 t253.length co31, .slice Ao32 t256.length co32] 30 (0, 0)) q9_37 hb); have n11_ := Aside0.mk (blk_below (g := gb268) (o := .cells #[.int .i64 t260, .slice Ao39 t261.length co39, .slice Ao40 t264.length co40] 30 (0, 0)) q9_32 hb); have n12_ := Aside0.mk (below_step q9_0 hb); clear HO239; clear HO242; clear HO246; clear HO249; clear HO255; clear HO258; clear HO263; clear HO266; clear BK234; clear BK251; clear BK259; clear BK268; clear HB; have HO239 := n0_; have HO242 := n1_; have HO246 := n2_; have HO249 := n3_; have HO255 := n4_; have HO258 := n5_; have HO263 := n6_; have HO266 := n7_; have BK234 := n8_; have BK251 := n9_; have BK259 := n10_; have BK268 := n11_; have HB := n12_; clear n0_ n1_ n2_ n3_ n4_ n5_ n6_ n7_ n8_ n9_ n10_ n11_ n12_; (try clear hb); (try clear hb2); (try clear hk); (try clear hi)))
    go_meet
    case rel => exact ⟨_, (true), (by first | rfl | (simp; done) | (simp [*]; done)), H', ⟨by first | omega | exact Nat.le_refl _⟩, ⟨by (with_reducible repeat (first | apply Kd.R_alloc | apply Kd.R_drewN | apply Kd.R_drew)); exact Kd.R_mono HO246.out (fun _ hk => ⟨hk.1.2, hk.2⟩)⟩, ⟨by (with_reducible repeat (first | apply Kd.R_alloc | apply Kd.R_drewN | apply Kd.R_drew)); exact Kd.R_mono HO249.out (fun _ hk => ⟨hk.1.2, hk.2⟩)⟩, ⟨by (with_reducible repeat (first | apply Kd.R_alloc | apply Kd.R_drewN | apply Kd.R_drew)); exact Kd.R_mono HO255.out (fun _ hk => ⟨hk.1.2, hk.2⟩)⟩, ⟨by (with_reducible repeat (first | apply Kd.R_alloc | apply Kd.R_drewN | apply Kd.R_drew)); exact Kd.R_mono HO258.out (fun _ hk => ⟨hk.1.2, hk.2⟩)⟩, ⟨by (with_reducible repeat (first | apply Kd.R_alloc | apply Kd.R_drewN | apply Kd.R_drew)); exact Kd.R_mono HO263.out (fun _ hk => ⟨hk.1.2, hk.2⟩)⟩, ⟨by (with_reducible repeat (first | apply Kd.R_alloc | apply Kd.R_drewN | apply Kd.R_drew)); exact Kd.R_mono HO266.out (fun _ hk => ⟨hk.1.2, hk.2⟩)⟩, ⟨q9_1⟩, ⟨q9_2⟩, ⟨q9_3⟩, ⟨q9_5⟩, ⟨q9_0⟩⟩
  case rest =>
   clear HC11
   (try clear c1); (try clear c2); (try clear p2); (try clear c3); (try clear c3b0); (try clear c4); (try clear c5); (try clear c8); (try clear c11); (try clear c13); (try clear c15); (try clear c21); (try clear c26); (try clear c27); (try clear c28); (try clear c29); (try clear c35); (try clear c36); (try clear c37); (try clear c42); (try clear c43); (try clear c44); (try clear c45); (try clear c47); (try clear c48); (try clear c51); (try clear c52); (try clear c53); (try clear c55); (try clear c56); (try clear hcz13_0); (try clear hcz13_1); (try clear hcz13_2); (try clear hcz15_0); (try clear hcz15_1); (try clear hcz15_2); (try clear hcz22_0); (try clear hcz22_1); (try clear hcz22_2); (try clear hcz25_0); (try clear hcz25_1); (try clear hcz25_2); (try clear hcz30_0); (try clear hcz30_1); (try clear hcz30_2); (try clear hcz38_0); (try clear hcz38_1); (try clear hcz38_2); (try clear hcz46_0); (try clear hcz46_1); (try clear hcz46_2); (try clear hcz49_0); (try clear hcz49_1); (try clear hcz49_2); (try clear hcz54_0); (try clear hcz54_1); (try clear hcz54_2); (try clear hcz57_0); (try clear hcz57_1); (try clear hcz57_2); (try clear hcz5_0); (try clear hcz5_1); (try clear hcz5_2); (try clear hfz13_0); (try clear hfz13_1); (try clear hfz13_2); (try clear hfz15_0); (try clear hfz15_1); (try clear hfz15_2); (try clear hfz22_0); (try clear hfz22_1); (try clear hfz22_2); (try clear hfz25_0); (try clear hfz25_1); (try clear hfz25_2); (try clear hfz30_0); (try clear hfz30_1); (try clear hfz30_2); (try clear hfz38_0); (try clear hfz38_1); (try clear hfz38_2); (try clear hfz46_0); (try clear hfz46_1); (try clear hfz46_2); (try clear hfz49_0); (try clear hfz49_1); (try clear hfz49_2); (try clear hfz54_0); (try clear hfz54_1); (try clear hfz54_2); (try clear hfz57_0); (try clear hfz57_1); (try clear hfz57_2); (try clear hfz5_0); (try clear hfz5_1); (try clear hfz5_2)
   obtain ⟨kq, x40_10, rfl, HA, HJ10, HO_252001, HO_252002, HO_260001, HO_260002, HO_269001, HO_269002, BK234, BK251, BK259, BK268, HB⟩ := hcut
   cases kq with
   | zero => exact absurd HA.out (by simp [laws_FnExactAdvance.j0])
   | succ kj10 =>
    have H := HA.out
    clear HA
    simp only [laws_FnExactAdvance.j0] at H
    by_cases c59 : x40_10 = true
    ·subst c59
     have H1 : (some false) = some r := by rw [if_pos rfl] at H; exact H
     clear H
     have H := H1
     clear H1
     obtain rfl := Option.some.inj H
     go_wp2
     go_ret
     exact ⟨q9_30, q9_0⟩
    ·replace c59 := Bool.eq_false_iff.mpr c59
     subst c59
     have H1 : ((laws_toAges.f kj10 a0_0 l0_1 l0_2).bind fun bt270 => ((laws_eqAges.f kj10 t252 t253 t256 bt270.1 bt270.2.1 bt270.2.2).bind fun t277 => (if t277 = true then ((laws_markAges.f kj10 t252 t253 t256 1).bind fun bt278 => (if bt278.1 < 0 then (laws_FnExactAdvance.j1 kj10 t250 true a0_0 l0_1 l0_2 t243 t244 t247 t260 t261 t264) else ((laws_eqAges.f kj10 t260 t261 t264 t243 t244 t247).bind fun t281 => (if t281 = true then (laws_FnExactAdvance.j1 kj10 t250 (t267 != t250) a0_0 l0_1 l0_2 t243 t244 t247 t260 t261 t264) else (laws_FnExactAdvance.j1 kj10 t250 true a0_0 l0_1 l0_2 t243 t244 t247 t260 t261 t264))))) else (some false)))) = some r := by rw [if_neg (show ¬ (false = true) by decide)] at H; exact H
     clear H
     have H := H1
     clear H1
     replace H := Option.bind_eq_some_iff.mp H
     obtain ⟨⟨t270, t271, t274⟩, A600, H⟩ := H
     replace H : ((laws_eqAges.f kj10 t252 t253 t256 t270 t271 t274).bind fun t277 => (if t277 = true then ((laws_markAges.f kj10 t252 t253 t256 1).bind fun bt278 => (if bt278.1 < 0 then (laws_FnExactAdvance.j1 kj10 t250 true a0_0 l0_1 l0_2 t243 t244 t247 t260 t261 t264) else ((laws_eqAges.f kj10 t260 t261 t264 t243 t244 t247).bind fun t281 => (if t281 = true then (laws_FnExactAdvance.j1 kj10 t250 (t267 != t250) a0_0 l0_1 l0_2 t243 t244 t247 t260 t261 t264) else (laws_FnExactAdvance.j1 kj10 t250 true a0_0 l0_1 l0_2 t243 t244 t247 t260 t261 t264))))) else (some false))) = some r := H
     have A60 := Aside0.mk A600
     clear A600
     replace H := Option.bind_eq_some_iff.mp H
     obtain ⟨t277, A610, H⟩ := H
     replace H : (if t277 = true then ((laws_markAges.f kj10 t252 t253 t256 1).bind fun bt278 => (if bt278.1 < 0 then (laws_FnExactAdvance.j1 kj10 t250 true a0_0 l0_1 l0_2 t243 t244 t247 t260 t261 t264) else ((laws_eqAges.f kj10 t260 t261 t264 t243 t244 t247).bind fun t281 => (if t281 = true then (laws_FnExactAdvance.j1 kj10 t250 (t267 != t250) a0_0 l0_1 l0_2 t243 t244 t247 t260 t261 t264) else (laws_FnExactAdvance.j1 kj10 t250 true a0_0 l0_1 l0_2 t243 t244 t247 t260 t261 t264))))) else (some false)) = some r := H
     have A61 := Aside0.mk A610
     clear A610
     by_cases c62 : t277 = true
     ·subst c62
      have H1 : ((laws_markAges.f kj10 t252 t253 t256 1).bind fun bt278 => (if bt278.1 < 0 then (laws_FnExactAdvance.j1 kj10 t250 true a0_0 l0_1 l0_2 t243 t244 t247 t260 t261 t264) else ((laws_eqAges.f kj10 t260 t261 t264 t243 t244 t247).bind fun t281 => (if t281 = true then (laws_FnExactAdvance.j1 kj10 t250 (t267 != t250) a0_0 l0_1 l0_2 t243 t244 t247 t260 t261 t264) else (laws_FnExactAdvance.j1 kj10 t250 true a0_0 l0_1 l0_2 t243 t244 t247 t260 t261 t264))))) = some r := by rw [if_pos rfl] at H; exact H
      clear H
      have H := H1
      clear H1
      replace H := Option.bind_eq_some_iff.mp H
      obtain ⟨⟨t278, t279, t280⟩, A630, H⟩ := H
      replace H : (if t278 < 0 then (laws_FnExactAdvance.j1 kj10 t250 true a0_0 l0_1 l0_2 t243 t244 t247 t260 t261 t264) else ((laws_eqAges.f kj10 t260 t261 t264 t243 t244 t247).bind fun t281 => (if t281 = true then (laws_FnExactAdvance.j1 kj10 t250 (t267 != t250) a0_0 l0_1 l0_2 t243 t244 t247 t260 t261 t264) else (laws_FnExactAdvance.j1 kj10 t250 true a0_0 l0_1 l0_2 t243 t244 t247 t260 t261 t264)))) = some r := H
      have A63 := Aside0.mk A630
      clear A630
      have HC64 := Aside0.mk H
      clear H
      try go_wp2
      have n0_ := Aside0.mk (Kd.R_drew HO_252001.out)
      have n1_ := Aside0.mk (Kd.R_drew HO_252002.out)
      have n2_ := Aside0.mk (Kd.R_drew HO_260001.out)
      have n3_ := Aside0.mk (Kd.R_drew HO_260002.out)
      have n4_ := Aside0.mk (Kd.R_drew HO_269001.out)
      have n5_ := Aside0.mk (Kd.R_drew HO_269002.out)
      have n6_ := Aside0.mk (blk_drew BK234.out)
      have n7_ := Aside0.mk (blk_drew BK251.out)
      have n8_ := Aside0.mk (blk_drew BK259.out)
      have n9_ := Aside0.mk (blk_drew BK268.out)
      have n10_ := Aside0.mk (below_drew1 HB.out)
      clear HO_252001
      clear HO_252002
      clear HO_260001
      clear HO_260002
      clear HO_269001
      clear HO_269002
      clear BK234
      clear BK251
      clear BK259
      clear BK268
      clear HB
      have HO_252001 := n0_
      have HO_252002 := n1_
      have HO_260001 := n2_
      have HO_260002 := n3_
      have HO_269001 := n4_
      have HO_269002 := n5_
      have BK234 := n6_
      have BK251 := n7_
      have BK259 := n8_
      have BK268 := n9_
      have HB := n10_
      clear n0_ n1_ n2_ n3_ n4_ n5_ n6_ n7_ n8_ n9_ n10_
      refine start_ (n := 5) (S := fun w' => w'.cell? ⟨gb259, 0, none⟩ = some (.int .i64 t252) ∧ w'.cell? ⟨gb259, 1, none⟩ = some (.slice Ao31 t253.length co31) ∧ w'.cell? ⟨gb259, 2, none⟩ = some (.slice Ao32 t256.length co32) ∧ w'.cell? ⟨gb234, 0, none⟩ = some (.int .i64 a0_0) ∧ w'.cell? ⟨gb234, 1, none⟩ = some (.slice A0_1 l0_1.length c0_1) ∧ w'.cell? ⟨gb234, 2, none⟩ = some (.slice A0_2 l0_2.length c0_2)) (ds := []) #[F,F,F,F,F] (by kernel_rfl) rfl rfl ⟨(blk_cell BK259.out 0).trans rfl, (blk_cell BK259.out 1).trans rfl, (blk_cell BK259.out 2).trans rfl, (blk_cell BK234.out 0).trans rfl, (blk_cell BK234.out 1).trans rfl, (blk_cell BK234.out 2).trans rfl⟩ (fun hHeld => ?_)
      generalize wc.drew = w65 at HO_252001 HO_252002 HO_260001 HO_260002 HO_269001 HO_269002 BK234 BK251 BK259 BK268 HB hHeld ⊢
      refine take_ (i := 0) (N := some 41) (v := ?_) (a' := ?_) #[T,F,F,F,F] rfl rfl (by kernel_rfl) (fun _ _ _ h => h) (Or.inl ⟨by rfl, ?_⟩) hHeld ?_ ?_
      rotate_left
      ·rintro w' ⟨s0, s1, s2, s3, s4, s5⟩
       go_simp
       with_reducible rfl
      rotate_left
      ·simp only [Act.put, List.setIfInBounds_toArray, List.set_cons_zero, List.set_cons_succ, i64_w, i32_w]
       rfl
      refine take_ (i := 1) (N := some 42) (v := ?_) (a' := ?_) #[T,T,F,F,F] rfl rfl (by kernel_rfl) (fun _ _ _ h => h) (Or.inl ⟨by rfl, ?_⟩) hHeld ?_ ?_
      rotate_left
      ·rintro w' ⟨s0, s1, s2, s3, s4, s5⟩
       go_simp
       with_reducible rfl
      rotate_left
      ·simp only [Act.put, List.setIfInBounds_toArray, List.set_cons_zero, List.set_cons_succ, i64_w, i32_w]
       rfl
      refine one_ (i := 2) (N := some 43) #[T,T,T,F,F] rfl rfl (by kernel_rfl) q9_44 (fun K hK => ?_)
      refine goes_ Try.func13 (by kernel_rfl) rfl #[.agg #[.int .i64 a0_0, .slice A0_1 l0_1.length c0_1, .slice A0_2 l0_2.length c0_2]] (by rfl) rfl rfl q9_4 ?_
      with_reducible refine (laws_toAges.calls kj10 a0_0 _ _ l0_1 _ _ l0_2 t270 t271 t274 _ ?side1 ?side2 ?side3 ?side4 A60.out).mono ?_
      (case side1 => exact q9_26)
      (case side2 => exact HC0_1.out)
      (case side3 => exact q9_27)
      (case side4 => exact HC0_2.out)
      rintro e w66 ⟨v272, v275, rfl, ho0, ho1, hb⟩
      refine ⟨_, rfl, ?_⟩
      have n0_ := Aside0.mk (Kd.R_elder' q9_7 (Kd.R_base ho0) hb)
      have n1_ := Aside0.mk (Kd.R_elder' q9_8 (Kd.R_base ho1) hb)
      have n2_ := Aside0.mk (Kd.R_elder' q9_9 (Kd.R_base ho0) hb)
      have n3_ := Aside0.mk (Kd.R_elder' q9_10 (Kd.R_base ho1) hb)
      have n4_ := Aside0.mk (Kd.R_elder' q9_11 (Kd.R_base ho0) hb)
      have n5_ := Aside0.mk (Kd.R_elder' q9_12 (Kd.R_base ho1) hb)
      have n6_ := Aside0.mk (Kd.R_lower (Kd.R_new' (Kd.R_new' (Kd.R_new' ho0 (Kd.R_lt q9_7)) (Kd.R_lt q9_9)) (Kd.R_lt q9_11)) (below_size q9_0))
      have n7_ := Aside0.mk (Kd.R_lower (Kd.R_new' (Kd.R_new' (Kd.R_new' ho1 (Kd.R_lt q9_8)) (Kd.R_lt q9_10)) (Kd.R_lt q9_12)) (below_size q9_0))
      have n8_ := Aside0.mk (blk_below (g := gb234) (o := .cells #[.int .i64 a0_0, .slice A0_1 l0_1.length c0_1, .slice A0_2 l0_2.length c0_2] 25 (0, 0)) q9_1 hb)
      have n9_ := Aside0.mk (blk_below (g := gb251) (o := .cells #[.int .i64 t243, .slice Ao23 t244.length co23, .slice Ao24 t247.length co24] 30 (0, 0)) q9_2 hb)
      have n10_ := Aside0.mk (blk_below (g := gb259) (o := .cells #[.int .i64 t252, .slice Ao31 t253.length co31, .slice Ao32 t256.length co32] 30 (0, 0)) q9_3 hb)
      have n11_ := Aside0.mk (blk_below (g := gb268) (o := .cells #[.int .i64 t260, .slice Ao39 t261.length co39, .slice Ao40 t264.length co40] 30 (0, 0)) q9_5 hb)
      have n12_ := Aside0.mk (below_step q9_0 hb)
      clear HO_252001
      clear HO_252002
      clear HO_260001
      clear HO_260002
      clear HO_269001
      clear HO_269002
      clear BK234
      clear BK251
      clear BK259
      clear BK268
      clear HB
      have HO_252001 := n0_
      have HO_252002 := n1_
      have HO_260001 := n2_
      have HO_260002 := n3_
      have HO_269001 := n4_
      have HO_269002 := n5_
      have HO273 := n6_
      have HO276 := n7_
      have BK234 := n8_
      have BK251 := n9_
      have BK259 := n10_
      have BK268 := n11_
      have HB := n12_
      clear n0_ n1_ n2_ n3_ n4_ n5_ n6_ n7_ n8_ n9_ n10_ n11_ n12_
      (try clear hb)
      (try clear hb2)
      (try clear hk)
      (try clear hi)
      (try clear ho0)
      (try clear ho1)
      obtain ⟨Ao67, co67, eo67⟩ := Kd.R_slice HO273.out
      (first | subst eo67 | (injection eo67 with f1_ f2_ f3_; have f4_ := f1_.symm; have f5_ := f3_.symm; clear f1_ f2_ f3_; subst f4_; subst f5_))
      obtain ⟨Ao68, co68, eo68⟩ := Kd.R_slice HO276.out
      (first | subst eo68 | (injection eo68 with f1_ f2_ f3_; have f4_ := f1_.symm; have f5_ := f3_.symm; clear f1_ f2_ f3_; subst f4_; subst f5_))
      refine hK.out _ _ ⟨(blk_cell BK259.out 0).trans rfl, (blk_cell BK259.out 1).trans rfl, (blk_cell BK259.out 2).trans rfl, (blk_cell BK234.out 0).trans rfl, (blk_cell BK234.out 1).trans rfl, (blk_cell BK234.out 2).trans rfl⟩ (fun hHeld => ?_)
      clear hK K
      refine norm_ (a' := ?_) ?_ ?_
      rotate_left
      ·show Act.put _ (some 43) _ = _
       simp only [Act.put, List.setIfInBounds_toArray, List.set_cons_zero, List.set_cons_succ, i64_w, i32_w]
       rfl
      refine one_ (i := 3) (N := some 44) #[T,T,T,T,F] rfl rfl (by kernel_rfl) q9_44 (fun K hK => ?_)
      refine goes_ Try.func15 (by kernel_rfl) rfl #[.agg #[.int .i64 t252, .slice Ao31 t253.length co31, .slice Ao32 t256.length co32], .agg #[.int .i64 t270, .slice Ao67 t271.length co67, .slice Ao68 t274.length co68]] (by rfl) rfl rfl q9_4 ?_
      with_reducible refine (laws_eqAges.calls kj10 t252 _ _ t253 _ _ t256 t270 _ _ t271 _ _ t274 true _ ?side1 ?side2 ?side3 ?side4 ?side5 ?side6 ?side7 ?side8 A61.out).mono ?_
      (case side1 => repeat (first | exact (Kd.R_reads' HO_260001.out).2.2 | (with_reducible refine Kd.C_alloc ?_ _) | (with_reducible refine Kd.C_drewN ?_ _) | (with_reducible refine Kd.C_drew ?_)))
      (case side2 => exact (Kd.R_reads' HO_260001.out).2.1)
      (case side3 => repeat (first | exact (Kd.R_reads' HO_260002.out).2.2 | (with_reducible refine Kd.C_alloc ?_ _) | (with_reducible refine Kd.C_drewN ?_ _) | (with_reducible refine Kd.C_drew ?_)))
      (case side4 => exact (Kd.R_reads' HO_260002.out).2.1)
      (case side5 => repeat (first | exact (Kd.R_reads' HO273.out).2.2 | (with_reducible refine Kd.C_alloc ?_ _) | (with_reducible refine Kd.C_drewN ?_ _) | (with_reducible refine Kd.C_drew ?_)))
      (case side6 => exact (Kd.R_reads' HO273.out).2.1)
      (case side7 => repeat (first | exact (Kd.R_reads' HO276.out).2.2 | (with_reducible refine Kd.C_alloc ?_ _) | (with_reducible refine Kd.C_drewN ?_ _) | (with_reducible refine Kd.C_drew ?_)))
      (case side8 => exact (Kd.R_reads' HO276.out).2.1)
      rintro e w69 ⟨rfl, hb⟩
      refine ⟨_, rfl, ?_⟩
      have n0_ := Aside0.mk (Kd.R_below q9_7 hb)
      have n1_ := Aside0.mk (Kd.R_below q9_8 hb)
      have n2_ := Aside0.mk (Kd.R_below q9_9 hb)
      have n3_ := Aside0.mk (Kd.R_below q9_10 hb)
      have n4_ := Aside0.mk (Kd.R_below q9_11 hb)
      have n5_ := Aside0.mk (Kd.R_below q9_12 hb)
      have n6_ := Aside0.mk (Kd.R_below (by (with_reducible repeat (first | apply Kd.R_alloc | apply Kd.R_drewN | apply Kd.R_drew)); exact HO273.out) hb)
      have n7_ := Aside0.mk (Kd.R_below (by (with_reducible repeat (first | apply Kd.R_alloc | apply Kd.R_drewN | apply Kd.R_drew)); exact HO276.out) hb)
      have n8_ := Aside0.mk (blk_below (g := gb234) (o := .cells #[.int .i64 a0_0, .slice A0_1 l0_1.length c0_1, .slice A0_2 l0_2.length c0_2] 25 (0, 0)) q9_1 hb)
      have n9_ := Aside0.mk (blk_below (g := gb251) (o := .cells #[.int .i64 t243, .slice Ao23 t244.length co23, .slice Ao24 t247.length co24] 30 (0, 0)) q9_2 hb)
      have n10_ := Aside0.mk (blk_below (g := gb259) (o := .cells #[.int .i64 t252, .slice Ao31 t253.length co31, .slice Ao32 t256.length co32] 30 (0, 0)) q9_3 hb)
      have n11_ := Aside0.mk (blk_below (g := gb268) (o := .cells #[.int .i64 t260, .slice Ao39 t261.length co39, .slice Ao40 t264.length co40] 30 (0, 0)) q9_5 hb)
      have n12_ := Aside0.mk (below_step q9_0 hb)
      clear HO_252001
      clear HO_252002
      clear HO_260001
      clear HO_260002
      clear HO_269001
      clear HO_269002
      clear HO273
      clear HO276
      clear BK234
      clear BK251
      clear BK259
      clear BK268
      clear HB
      have HO_252001 := n0_
      have HO_252002 := n1_
      have HO_260001 := n2_
      have HO_260002 := n3_
      have HO_269001 := n4_
      have HO_269002 := n5_
      have HO273 := n6_
      have HO276 := n7_
      have BK234 := n8_
      have BK251 := n9_
      have BK259 := n10_
      have BK268 := n11_
      have HB := n12_
      clear n0_ n1_ n2_ n3_ n4_ n5_ n6_ n7_ n8_ n9_ n10_ n11_ n12_
      (try clear hb)
      (try clear hb2)
      (try clear hk)
      (try clear hi)
      refine hK.out _ _ ⟨(blk_cell BK259.out 0).trans rfl, (blk_cell BK259.out 1).trans rfl, (blk_cell BK259.out 2).trans rfl, (blk_cell BK234.out 0).trans rfl, (blk_cell BK234.out 1).trans rfl, (blk_cell BK234.out 2).trans rfl⟩ (fun hHeld => ?_)
      clear hK K
      refine norm_ (a' := ?_) ?_ ?_
      rotate_left
      ·show Act.put _ (some 44) _ = _
       simp only [Act.put, List.setIfInBounds_toArray, List.set_cons_zero, List.set_cons_succ, i64_w, i32_w]
       rfl
      refine pure_ (i := 4) (N := some 45) (v := ?_) (a' := ?_) #[T,T,T,T,T] rfl rfl (by kernel_rfl) (fun _ _ _ h => h) (Or.inl ⟨by rfl, ?_⟩) ?_ ?_
      rotate_left
      ·intro w'
       go_simp
       with_reducible rfl
      rotate_left
      ·simp only [Act.put, List.setIfInBounds_toArray, List.set_cons_zero, List.set_cons_succ, i64_w, i32_w]
       rfl
      refine done_ (by kernel_rfl) ?_
      have hnb70 := NB259_234.out
      have hnc70 := NB234_259.out
      have hnb71 := NB259_251.out
      have hnc71 := NB251_259.out
      have hnb72 := NB259_268.out
      have hnc72 := NB268_259.out
      have hcz73_0 : w69.cell? ⟨gb259, 0, none⟩ = some (.int .i64 t252) := (blk_cell BK259.out 0).trans rfl
      have hcz73_1 : w69.cell? ⟨gb259, 1, none⟩ = some (.slice Ao31 t253.length co31) := (blk_cell BK259.out 1).trans rfl
      have hcz73_2 : w69.cell? ⟨gb259, 2, none⟩ = some (.slice Ao32 t256.length co32) := (blk_cell BK259.out 2).trans rfl
      have hfz73_0 := blk_frozen BK259.out 0
      have hfz73_1 := blk_frozen BK259.out 1
      have hfz73_2 := blk_frozen BK259.out 2
      go_upto_region 14 with (first | ((with_reducible refine gate_callee (f := 18) rfl ?_); refine goesL_ (some 48) rfl rfl Try.func18 (by kernel_rfl) rfl #[.agg #[.int .i64 t252, .slice Ao31 t253.length co31, .slice Ao32 t256.length co32], .int .i64 1] rfl q9_4 ?_; (with_reducible refine (laws_markAges.calls kj10 t252 (fun k_ => some k_ = (.slice Ao31 t253.length co31 : Value).ownBlock) (.slice Ao31 t253.length co31) t253 (fun k_ => some k_ = (.slice Ao32 t256.length co32 : Value).ownBlock) (.slice Ao32 t256.length co32) t256 1 t278 t279 t280 w _ ?side1 ?side2 ?side3 A63.out).mono ?_); (case side1 => exact q9_0); (case side2 => exact Kd.R_tight rfl HO_260001.out); (case side3 => exact Kd.R_tight rfl HO_260002.out); rintro e w74 ⟨rfl, hy0, hy1, hb, hkp⟩; refine ⟨_, rfl, ?_⟩; have n0_ := Aside0.mk (Kd.R_mono (ok' := fun k_ => some k_ ≠ (.slice Ao31 t253.length co31 : Value).ownBlock ∧ some k_ ≠ (.slice Ao39 t261.length co39 : Value).ownBlock ∧ some k_ ≠ (.slice Ao67 t271.length co67 : Value).ownBlock) (Kd.R_keptB ((Kd.R_apart' HO_252001.out (Kd.R_typed HO_260002.out) q9_44)) hkp (fun k_ hk_ hs_ => Or.elim hs_ (fun e_ => (hk_.1.1.1) e_) (fun e_ => (hk_.2) e_))) (fun k_ hk_ => ⟨hk_.1.1.1.1, hk_.1.1.1.2, hk_.1.1.2⟩)); have n1_ := Aside0.mk (Kd.R_mono (ok' := fun k_ => some k_ ≠ (.slice Ao32 t256.length co32 : Value).ownBlock ∧ some k_ ≠ (.slice Ao40 t264.length co40 : Value).ownBlock ∧ some k_ ≠ (.slice Ao68 t274.length co68 : Value).ownBlock) (Kd.R_keptB ((Kd.R_apart' HO_252002.out (Kd.R_typed HO_260001.out) q9_44)) hkp (fun k_ hk_ hs_ => Or.elim hs_ (fun e_ => (hk_.2) e_) (fun e_ => (hk_.1.1.1) e_))) (fun k_ hk_ => ⟨hk_.1.1.1.1, hk_.1.1.1.2, hk_.1.1.2⟩)); have n2_ := Aside0.mk (Kd.R_reok rfl hy0 (fun k_ e_ => HO_260001.out.1 k_ e_)); have n3_ := Aside0.mk (Kd.R_reok rfl hy1 (fun k_ e_ => HO_260002.out.1 k_ e_)); have n4_ := Aside0.mk (Kd.R_mono (ok' := fun k_ => some k_ ≠ (.slice Ao23 t244.length co23 : Value).ownBlock ∧ some k_ ≠ (.slice Ao31 t253.length co31 : Value).ownBlock ∧ some k_ ≠ (.slice Ao67 t271.length co67 : Value).ownBlock) (Kd.R_keptB ((Kd.R_apart' HO_269001.out (Kd.R_typed HO_260002.out) q9_44)) hkp (fun k_ hk_ hs_ => Or.elim hs_ (fun e_ => (hk_.1.1.2) e_) (fun e_ => (hk_.2) e_))) (fun k_ hk_ => ⟨hk_.1.1.1.1, hk_.1.1.1.2, hk_.1.1.2⟩)); have n5_ := Aside0.mk (Kd.R_mono (ok' := fun k_ => some k_ ≠ (.slice Ao24 t247.length co24 : Value).ownBlock ∧ some k_ ≠ (.slice Ao32 t256.length co32 : Value).ownBlock ∧ some k_ ≠ (.slice Ao68 t274.length co68 : Value).ownBlock) (Kd.R_keptB ((Kd.R_apart' HO_269002.out (Kd.R_typed HO_260001.out) q9_44)) hkp (fun k_ hk_ hs_ => Or.elim hs_ (fun e_ => (hk_.2) e_) (fun e_ => (hk_.1.1.2) e_))) (fun k_ hk_ => ⟨hk_.1.1.1.1, hk_.1.1.1.2, hk_.1.1.2⟩)); have n6_ := Aside0.mk (blk_kept q9_1 hkp (fun hs_ => Or.elim hs_ (fun e_ => (fun e_ => (Kd.R_ne HO_260001.out BK234.out q9_44) e_) e_) (fun e_ => (fun e_ => (Kd.R_ne HO_260002.out BK234.out q9_44) e_) e_))); have n7_ := Aside0.mk (blk_kept q9_2 hkp (fun hs_ => Or.elim hs_ (fun e_ => (fun e_ => (Kd.R_ne HO_260001.out BK251.out q9_44) e_) e_) (fun e_ => (fun e_ => (Kd.R_ne HO_260002.out BK251.out q9_44) e_) e_))); have n8_ := Aside0.mk (blk_kept q9_3 hkp (fun hs_ => Or.elim hs_ (fun e_ => (fun e_ => (Kd.R_ne HO_260001.out BK259.out q9_44) e_) e_) (fun e_ => (fun e_ => (Kd.R_ne HO_260002.out BK259.out q9_44) e_) e_))); have n9_ := Aside0.mk (blk_kept q9_5 hkp (fun hs_ => Or.elim hs_ (fun e_ => (fun e_ => (Kd.R_ne HO_260001.out BK268.out q9_44) e_) e_) (fun e_ => (fun e_ => (Kd.R_ne HO_260002.out BK268.out q9_44) e_) e_))); have n10_ := Aside0.mk (Kd.R_mono (ok' := fun k_ => some k_ ≠ (.slice Ao23 t244.length co23 : Value).ownBlock ∧ some k_ ≠ (.slice Ao31 t253.length co31 : Value).ownBlock ∧ some k_ ≠ (.slice Ao39 t261.length co39 : Value).ownBlock) (Kd.R_keptB ((Kd.R_apart' HO273.out (Kd.R_typed HO_260002.out) q9_44)) hkp (fun k_ hk_ hs_ => Or.elim hs_ (fun e_ => (hk_.1.1.2) e_) (fun e_ => (hk_.2) e_))) (fun k_ hk_ => ⟨hk_.1.1.1.1.2, hk_.1.1.1.2, hk_.1.1.2⟩)); have n11_ := Aside0.mk (Kd.R_mono (ok' := fun k_ => some k_ ≠ (.slice Ao24 t247.length co24 : Value).ownBlock ∧ some k_ ≠ (.slice Ao32 t256.length co32 : Value).ownBlock ∧ some k_ ≠ (.slice Ao40 t264.length co40 : Value).ownBlock) (Kd.R_keptB ((Kd.R_apart' HO276.out (Kd.R_typed HO_260001.out) q9_44)) hkp (fun k_ hk_ hs_ => Or.elim hs_ (fun e_ => (hk_.2) e_) (fun e_ => (hk_.1.1.2) e_))) (fun k_ hk_ => ⟨hk_.1.1.1.1.2, hk_.1.1.1.2, hk_.1.1.2⟩)); have n12_ := Aside0.mk (hb); clear HO_252001; clear HO_252002; clear HO_260001; clear HO_260002; clear HO_269001; clear HO_269002; clear BK234; clear BK251; clear BK259; clear BK268; clear HO273; clear HO276; clear HB; have HO_252001 := n0_; have HO_252002 := n1_; have HO_260001 := n2_; have HO_260002 := n3_; have HO_269001 := n4_; have HO_269002 := n5_; have BK234 := n6_; have BK251 := n7_; have BK259 := n8_; have BK268 := n9_; have HO273 := n10_; have HO276 := n11_; have HB := n12_; clear n0_ n1_ n2_ n3_ n4_ n5_ n6_ n7_ n8_ n9_ n10_ n11_ n12_; (try clear hb); (try clear hkp); (try clear hy0); (try clear hy1)))
      (try simp only [Act.put, List.setIfInBounds_toArray, List.set_cons_zero, List.set_cons_succ])
      go_cut [61] (fun v61 wc => ∃ (kq : Nat) (x61_63 : Bool), v61 = .bool x61_63 ∧ Aside0 (laws_FnExactAdvance.j1 kq t250 x61_63 a0_0 l0_1 l0_2 t243 t244 t247 t260 t261 t264 = some r) ∧ Aside0 (kq ≤ kj10) ∧ Aside0 (Kd.R (Kd.int .i64) 3 wc w.heap.size (fun k_ => some k_ ≠ ((.slice Ao31 t253.length co31) : Value).ownBlock ∧ some k_ ≠ ((.slice Ao39 t261.length co39) : Value).ownBlock) (.slice Ao23 t244.length co23) t244) ∧ Aside0 (Kd.R k48 48 wc w.heap.size (fun k_ => some k_ ≠ ((.slice Ao32 t256.length co32) : Value).ownBlock ∧ some k_ ≠ ((.slice Ao40 t264.length co40) : Value).ownBlock) (.slice Ao24 t247.length co24) t247) ∧ Aside0 (Kd.R (Kd.int .i64) 3 wc w.heap.size (fun k_ => some k_ ≠ ((.slice Ao23 t244.length co23) : Value).ownBlock ∧ some k_ ≠ ((.slice Ao39 t261.length co39) : Value).ownBlock) (.slice Ao31 t253.length co31) t279) ∧ Aside0 (Kd.R k48 48 wc w.heap.size (fun k_ => some k_ ≠ ((.slice Ao24 t247.length co24) : Value).ownBlock ∧ some k_ ≠ ((.slice Ao40 t264.length co40) : Value).ownBlock) (.slice Ao32 t256.length co32) t280) ∧ Aside0 (Kd.R (Kd.int .i64) 3 wc w.heap.size (fun k_ => some k_ ≠ ((.slice Ao23 t244.length co23) : Value).ownBlock ∧ some k_ ≠ ((.slice Ao31 t253.length co31) : Value).ownBlock) (.slice Ao39 t261.length co39) t261) ∧ Aside0 (Kd.R k48 48 wc w.heap.size (fun k_ => some k_ ≠ ((.slice Ao24 t247.length co24) : Value).ownBlock ∧ some k_ ≠ ((.slice Ao32 t256.length co32) : Value).ownBlock) (.slice Ao40 t264.length co40) t264) ∧ Aside0 (wc.heap[gb234]? = some (.cells #[.int .i64 a0_0, (.slice A0_1 l0_1.length c0_1), (.slice A0_2 l0_2.length c0_2)] 25 (0, 0))) ∧ Aside0 (wc.heap[gb251]? = some (.cells #[.int .i64 t243, (.slice Ao23 t244.length co23), (.slice Ao24 t247.length co24)] 30 (0, 0))) ∧ Aside0 (wc.heap[gb259]? = some (.cells #[.int .i64 t252, (.slice Ao31 t253.length co31), (.slice Ao32 t256.length co32)] 30 (0, 0))) ∧ Aside0 (wc.heap[gb268]? = some (.cells #[.int .i64 t260, (.slice Ao39 t261.length co39), (.slice Ao40 t264.length co40)] 30 (0, 0))) ∧ Aside0 (Below w.heap.size w wc))
      case first =>
       have H := HC64.out
       clear HC64
       by_cases c75 : t278 < 0
       ·rw [if_pos c75] at H
        have c75b0 : decide (t278 < 0) = true := decide_eq_true c75
        clear c75
        (first | rw [c75b0] | (simp only [i64_w, i32_w]; rw [c75b0]) | skip)
        have H' := Aside0.mk H
        clear H
        go_wp2
        go_meet
        case rel => exact ⟨_, (true), (by first | rfl | (simp; done) | (simp [*]; done)), H', ⟨by have := HJ10.out; first | omega | exact Nat.le_refl _⟩, ⟨by (with_reducible repeat (first | apply Kd.R_alloc | apply Kd.R_drewN | apply Kd.R_drew)); exact Kd.R_mono HO_252001.out (fun _ hk => ⟨hk.1, hk.2.1⟩)⟩, ⟨by (with_reducible repeat (first | apply Kd.R_alloc | apply Kd.R_drewN | apply Kd.R_drew)); exact Kd.R_mono HO_252002.out (fun _ hk => ⟨hk.1, hk.2.1⟩)⟩, ⟨by (with_reducible repeat (first | apply Kd.R_alloc | apply Kd.R_drewN | apply Kd.R_drew)); exact Kd.R_mono HO_260001.out (fun _ hk => ⟨hk.1.1, hk.1.2⟩)⟩, ⟨by (with_reducible repeat (first | apply Kd.R_alloc | apply Kd.R_drewN | apply Kd.R_drew)); exact Kd.R_mono HO_260002.out (fun _ hk => ⟨hk.1.1, hk.1.2⟩)⟩, ⟨by (with_reducible repeat (first | apply Kd.R_alloc | apply Kd.R_drewN | apply Kd.R_drew)); exact Kd.R_mono HO_269001.out (fun _ hk => ⟨hk.1, hk.2.1⟩)⟩, ⟨by (with_reducible repeat (first | apply Kd.R_alloc | apply Kd.R_drewN | apply Kd.R_drew)); exact Kd.R_mono HO_269002.out (fun _ hk => ⟨hk.1, hk.2.1⟩)⟩, ⟨q9_1⟩, ⟨q9_2⟩, ⟨q9_3⟩, ⟨q9_5⟩, ⟨q9_0⟩⟩
       ·rw [if_neg c75] at H
        have c75b0 : decide (t278 < 0) = false := decide_eq_false c75
        clear c75
        (first | rw [c75b0] | (simp only [i64_w, i32_w]; rw [c75b0]) | skip)
        replace H := Option.bind_eq_some_iff.mp H
        obtain ⟨t281, A760, H⟩ := H
        replace H : (if t281 = true then (laws_FnExactAdvance.j1 kj10 t250 (t267 != t250) a0_0 l0_1 l0_2 t243 t244 t247 t260 t261 t264) else (laws_FnExactAdvance.j1 kj10 t250 true a0_0 l0_1 l0_2 t243 t244 t247 t260 t261 t264)) = some r := H
        have A76 := Aside0.mk A760
        clear A760
        by_cases c77 : t281 = true
        ·subst c77
         have H1 : (laws_FnExactAdvance.j1 kj10 t250 (t267 != t250) a0_0 l0_1 l0_2 t243 t244 t247 t260 t261 t264) = some r := by rw [if_pos rfl] at H; exact H
         clear H
         have H := H1
         clear H1
         have H' := Aside0.mk H
         clear H
         have hnb78 := NB268_234.out
         have hnc78 := NB234_268.out
         have hnb79 := NB268_251.out
         have hnc79 := NB251_268.out
         have hnb80 := NB268_259.out
         have hnc80 := NB259_268.out
         have hcz81_0 : w74.cell? ⟨gb268, 0, none⟩ = some (.int .i64 t260) := (blk_cell BK268.out 0).trans rfl
         have hcz81_1 : w74.cell? ⟨gb268, 1, none⟩ = some (.slice Ao39 t261.length co39) := (blk_cell BK268.out 1).trans rfl
         have hcz81_2 : w74.cell? ⟨gb268, 2, none⟩ = some (.slice Ao40 t264.length co40) := (blk_cell BK268.out 2).trans rfl
         have hfz81_0 := blk_frozen BK268.out 0
         have hfz81_1 := blk_frozen BK268.out 1
         have hfz81_2 := blk_frozen BK268.out 2
         have hnb82 := NB251_234.out
         have hnc82 := NB234_251.out
         have hnb83 := NB251_259.out
         have hnc83 := NB259_251.out
         have hcz84_0 : w74.cell? ⟨gb251, 0, none⟩ = some (.int .i64 t243) := (blk_cell BK251.out 0).trans rfl
         have hcz84_1 : w74.cell? ⟨gb251, 1, none⟩ = some (.slice Ao23 t244.length co23) := (blk_cell BK251.out 1).trans rfl
         have hcz84_2 : w74.cell? ⟨gb251, 2, none⟩ = some (.slice Ao24 t247.length co24) := (blk_cell BK251.out 2).trans rfl
         have hfz84_0 := blk_frozen BK251.out 0
         have hfz84_1 := blk_frozen BK251.out 1
         have hfz84_2 := blk_frozen BK251.out 2
         go_wp2_with (first | (go_at_call 15; (with_reducible refine (laws_eqAges.calls kj10 t260 _ _ t261 _ _ t264 t243 _ _ t244 _ _ t247 true _ ?side1 ?side2 ?side3 ?side4 ?side5 ?side6 ?side7 ?side8 A76.out).mono ?_); (case side1 => exact q9_23); (case side2 => exact (Kd.R_reads' HO_269001.out).2.1); (case side3 => exact q9_24); (case side4 => exact (Kd.R_reads' HO_269002.out).2.1); (case side5 => repeat (first | exact (Kd.R_reads' HO_252001.out).2.2 | (with_reducible refine Kd.C_alloc ?_ _) | (with_reducible refine Kd.C_drewN ?_ _) | (with_reducible refine Kd.C_drew ?_))); (case side6 => exact (Kd.R_reads' HO_252001.out).2.1); (case side7 => repeat (first | exact (Kd.R_reads' HO_252002.out).2.2 | (with_reducible refine Kd.C_alloc ?_ _) | (with_reducible refine Kd.C_drewN ?_ _) | (with_reducible refine Kd.C_drew ?_))); (case side8 => exact (Kd.R_reads' HO_252002.out).2.1); rintro e w85 ⟨rfl, hb⟩; have n0_ := Aside0.mk (Kd.R_below q9_7 hb); have n1_ := Aside0.mk (Kd.R_below q9_8 hb); have n2_ := Aside0.mk (Kd.R_below q9_9 hb); have n3_ := Aside0.mk (Kd.R_below q9_10 hb); have n4_ := Aside0.mk (Kd.R_below q9_11 hb); have n5_ := Aside0.mk (Kd.R_below q9_12 hb); have n6_ := Aside0.mk (Kd.R_below (by (with_reducible repeat (first | apply Kd.R_alloc | apply Kd.R_drewN | apply Kd.R_drew)); exact HO273.out) hb); have n7_ := Aside0.mk (Kd.R_below (by (with_reducible repeat (first | apply Kd.R_alloc | apply Kd.R_drewN | apply Kd.R_drew)); exact HO276.out) hb); have n8_ := Aside0.mk (blk_below (g := gb234) (o := .cells #[.int .i64 a0_0, .slice A0_1 l0_1.length c0_1, .slice A0_2 l0_2.length c0_2] 25 (0, 0)) q9_1 hb); have n9_ := Aside0.mk (blk_below (g := gb251) (o := .cells #[.int .i64 t243, .slice Ao23 t244.length co23, .slice Ao24 t247.length co24] 30 (0, 0)) q9_2 hb); have n10_ := Aside0.mk (blk_below (g := gb259) (o := .cells #[.int .i64 t252, .slice Ao31 t253.length co31, .slice Ao32 t256.length co32] 30 (0, 0)) q9_3 hb); have n11_ := Aside0.mk (blk_below (g := gb268) (o := .cells #[.int .i64 t260, .slice Ao39 t261.length co39, .slice Ao40 t264.length co40] 30 (0, 0)) q9_5 hb); have n12_ := Aside0.mk (below_step q9_0 hb); clear HO_252001; clear HO_252002; clear HO_260001; clear HO_260002; clear HO_269001; clear HO_269002; clear HO273; clear HO276; clear BK234; clear BK251; clear BK259; clear BK268; clear HB; have HO_252001 := n0_; have HO_252002 := n1_; have HO_260001 := n2_; have HO_260002 := n3_; have HO_269001 := n4_; have HO_269002 := n5_; have HO273 := n6_; have HO276 := n7_; have BK234 := n8_; have BK251 := n9_; have BK259 := n10_; have BK268 := n11_; have HB := n12_; clear n0_ n1_ n2_ n3_ n4_ n5_ n6_ n7_ n8_ n9_ n10_ n11_ n12_; (try clear hb); (try clear hb2); (try clear hk); (try clear hi)))
         go_meet
         case rel => exact ⟨_, ((t267 != t250)), (by first | rfl | (simp; done) | (simp [*]; done)), H', ⟨by have := HJ10.out; first | omega | exact Nat.le_refl _⟩, ⟨by (with_reducible repeat (first | apply Kd.R_alloc | apply Kd.R_drewN | apply Kd.R_drew)); exact Kd.R_mono HO_252001.out (fun _ hk => ⟨hk.1, hk.2.1⟩)⟩, ⟨by (with_reducible repeat (first | apply Kd.R_alloc | apply Kd.R_drewN | apply Kd.R_drew)); exact Kd.R_mono HO_252002.out (fun _ hk => ⟨hk.1, hk.2.1⟩)⟩, ⟨by (with_reducible repeat (first | apply Kd.R_alloc | apply Kd.R_drewN | apply Kd.R_drew)); exact Kd.R_mono HO_260001.out (fun _ hk => ⟨hk.1.1, hk.1.2⟩)⟩, ⟨by (with_reducible repeat (first | apply Kd.R_alloc | apply Kd.R_drewN | apply Kd.R_drew)); exact Kd.R_mono HO_260002.out (fun _ hk => ⟨hk.1.1, hk.1.2⟩)⟩, ⟨by (with_reducible repeat (first | apply Kd.R_alloc | apply Kd.R_drewN | apply Kd.R_drew)); exact Kd.R_mono HO_269001.out (fun _ hk => ⟨hk.1, hk.2.1⟩)⟩, ⟨by (with_reducible repeat (first | apply Kd.R_alloc | apply Kd.R_drewN | apply Kd.R_drew)); exact Kd.R_mono HO_269002.out (fun _ hk => ⟨hk.1, hk.2.1⟩)⟩, ⟨q9_1⟩, ⟨q9_2⟩, ⟨q9_3⟩, ⟨q9_5⟩, ⟨q9_0⟩⟩
        ·replace c77 := Bool.eq_false_iff.mpr c77
         subst c77
         have H1 : (laws_FnExactAdvance.j1 kj10 t250 true a0_0 l0_1 l0_2 t243 t244 t247 t260 t261 t264) = some r := by rw [if_neg (show ¬ (false = true) by decide)] at H; exact H
         clear H
         have H := H1
         clear H1
         have H' := Aside0.mk H
         clear H
         have hnb86 := NB268_234.out
         have hnc86 := NB234_268.out
         have hnb87 := NB268_251.out
         have hnc87 := NB251_268.out
         have hnb88 := NB268_259.out
         have hnc88 := NB259_268.out
         have hcz89_0 : w74.cell? ⟨gb268, 0, none⟩ = some (.int .i64 t260) := (blk_cell BK268.out 0).trans rfl
         have hcz89_1 : w74.cell? ⟨gb268, 1, none⟩ = some (.slice Ao39 t261.length co39) := (blk_cell BK268.out 1).trans rfl
         have hcz89_2 : w74.cell? ⟨gb268, 2, none⟩ = some (.slice Ao40 t264.length co40) := (blk_cell BK268.out 2).trans rfl
         have hfz89_0 := blk_frozen BK268.out 0
         have hfz89_1 := blk_frozen BK268.out 1
         have hfz89_2 := blk_frozen BK268.out 2
         have hnb90 := NB251_234.out
         have hnc90 := NB234_251.out
         have hnb91 := NB251_259.out
         have hnc91 := NB259_251.out
         have hcz92_0 : w74.cell? ⟨gb251, 0, none⟩ = some (.int .i64 t243) := (blk_cell BK251.out 0).trans rfl
         have hcz92_1 : w74.cell? ⟨gb251, 1, none⟩ = some (.slice Ao23 t244.length co23) := (blk_cell BK251.out 1).trans rfl
         have hcz92_2 : w74.cell? ⟨gb251, 2, none⟩ = some (.slice Ao24 t247.length co24) := (blk_cell BK251.out 2).trans rfl
         have hfz92_0 := blk_frozen BK251.out 0
         have hfz92_1 := blk_frozen BK251.out 1
         have hfz92_2 := blk_frozen BK251.out 2
         go_wp2_with (first | (go_at_call 15; (with_reducible refine (laws_eqAges.calls kj10 t260 _ _ t261 _ _ t264 t243 _ _ t244 _ _ t247 false _ ?side1 ?side2 ?side3 ?side4 ?side5 ?side6 ?side7 ?side8 A76.out).mono ?_); (case side1 => exact q9_23); (case side2 => exact (Kd.R_reads' HO_269001.out).2.1); (case side3 => exact q9_24); (case side4 => exact (Kd.R_reads' HO_269002.out).2.1); (case side5 => repeat (first | exact (Kd.R_reads' HO_252001.out).2.2 | (with_reducible refine Kd.C_alloc ?_ _) | (with_reducible refine Kd.C_drewN ?_ _) | (with_reducible refine Kd.C_drew ?_))); (case side6 => exact (Kd.R_reads' HO_252001.out).2.1); (case side7 => repeat (first | exact (Kd.R_reads' HO_252002.out).2.2 | (with_reducible refine Kd.C_alloc ?_ _) | (with_reducible refine Kd.C_drewN ?_ _) | (with_reducible refine Kd.C_drew ?_))); (case side8 => exact (Kd.R_reads' HO_252002.out).2.1); rintro e w93 ⟨rfl, hb⟩; have n0_ := Aside0.mk (Kd.R_below q9_7 hb); have n1_ := Aside0.mk (Kd.R_below q9_8 hb); have n2_ := Aside0.mk (Kd.R_below q9_9 hb); have n3_ := Aside0.mk (Kd.R_below q9_10 hb); have n4_ := Aside0.mk (Kd.R_below q9_11 hb); have n5_ := Aside0.mk (Kd.R_below q9_12 hb); have n6_ := Aside0.mk (Kd.R_below (by (with_reducible repeat (first | apply Kd.R_alloc | apply Kd.R_drewN | apply Kd.R_drew)); exact HO273.out) hb); have n7_ := Aside0.mk (Kd.R_below (by (with_reducible repeat (first | apply Kd.R_alloc | apply Kd.R_drewN | apply Kd.R_drew)); exact HO276.out) hb); have n8_ := Aside0.mk (blk_below (g := gb234) (o := .cells #[.int .i64 a0_0, .slice A0_1 l0_1.length c0_1, .slice A0_2 l0_2.length c0_2] 25 (0, 0)) q9_1 hb); have n9_ := Aside0.mk (blk_below (g := gb251) (o := .cells #[.int .i64 t243, .slice Ao23 t244.length co23, .slice Ao24 t247.length co24] 30 (0, 0)) q9_2 hb); have n10_ := Aside0.mk (blk_below (g := gb259) (o := .cells #[.int .i64 t252, .slice Ao31 t253.length co31, .slice Ao32 t256.length co32] 30 (0, 0)) q9_3 hb); have n11_ := Aside0.mk (blk_below (g := gb268) (o := .cells #[.int .i64 t260, .slice Ao39 t261.length co39, .slice Ao40 t264.length co40] 30 (0, 0)) q9_5 hb); have n12_ := Aside0.mk (below_step q9_0 hb); clear HO_252001; clear HO_252002; clear HO_260001; clear HO_260002; clear HO_269001; clear HO_269002; clear HO273; clear HO276; clear BK234; clear BK251; clear BK259; clear BK268; clear HB; have HO_252001 := n0_; have HO_252002 := n1_; have HO_260001 := n2_; have HO_260002 := n3_; have HO_269001 := n4_; have HO_269002 := n5_; have HO273 := n6_; have HO276 := n7_; have BK234 := n8_; have BK251 := n9_; have BK259 := n10_; have BK268 := n11_; have HB := n12_; clear n0_ n1_ n2_ n3_ n4_ n5_ n6_ n7_ n8_ n9_ n10_ n11_ n12_; (try clear hb); (try clear hb2); (try clear hk); (try clear hi)))
         go_meet
         case rel => exact ⟨_, (true), (by first | rfl | (simp; done) | (simp [*]; done)), H', ⟨by have := HJ10.out; first | omega | exact Nat.le_refl _⟩, ⟨by (with_reducible repeat (first | apply Kd.R_alloc | apply Kd.R_drewN | apply Kd.R_drew)); exact Kd.R_mono HO_252001.out (fun _ hk => ⟨hk.1, hk.2.1⟩)⟩, ⟨by (with_reducible repeat (first | apply Kd.R_alloc | apply Kd.R_drewN | apply Kd.R_drew)); exact Kd.R_mono HO_252002.out (fun _ hk => ⟨hk.1, hk.2.1⟩)⟩, ⟨by (with_reducible repeat (first | apply Kd.R_alloc | apply Kd.R_drewN | apply Kd.R_drew)); exact Kd.R_mono HO_260001.out (fun _ hk => ⟨hk.1.1, hk.1.2⟩)⟩, ⟨by (with_reducible repeat (first | apply Kd.R_alloc | apply Kd.R_drewN | apply Kd.R_drew)); exact Kd.R_mono HO_260002.out (fun _ hk => ⟨hk.1.1, hk.1.2⟩)⟩, ⟨by (with_reducible repeat (first | apply Kd.R_alloc | apply Kd.R_drewN | apply Kd.R_drew)); exact Kd.R_mono HO_269001.out (fun _ hk => ⟨hk.1, hk.2.1⟩)⟩, ⟨by (with_reducible repeat (first | apply Kd.R_alloc | apply Kd.R_drewN | apply Kd.R_drew)); exact Kd.R_mono HO_269002.out (fun _ hk => ⟨hk.1, hk.2.1⟩)⟩, ⟨q9_1⟩, ⟨q9_2⟩, ⟨q9_3⟩, ⟨q9_5⟩, ⟨q9_0⟩⟩
      case rest =>
       clear HC64
       (try clear c1); (try clear c2); (try clear p2); (try clear c3); (try clear c3b0); (try clear c4); (try clear c5); (try clear c6); (try clear c7); (try clear c8); (try clear c9); (try clear c11); (try clear c13); (try clear c15); (try clear c18); (try clear c21); (try clear c26); (try clear c27); (try clear c28); (try clear c29); (try clear c35); (try clear c36); (try clear c37); (try clear c42); (try clear c43); (try clear c44); (try clear c45); (try clear c47); (try clear c48); (try clear c51); (try clear c52); (try clear c53); (try clear c55); (try clear c56); (try clear c59); (try clear c62); (try clear c70); (try clear c71); (try clear c72); (try clear c75); (try clear c75b0); (try clear c77); (try clear c78); (try clear c79); (try clear c80); (try clear c82); (try clear c83); (try clear c86); (try clear c87); (try clear c88); (try clear c90); (try clear c91); (try clear hcz13_0); (try clear hcz13_1); (try clear hcz13_2); (try clear hcz15_0); (try clear hcz15_1); (try clear hcz15_2); (try clear hcz22_0); (try clear hcz22_1); (try clear hcz22_2); (try clear hcz25_0); (try clear hcz25_1); (try clear hcz25_2); (try clear hcz30_0); (try clear hcz30_1); (try clear hcz30_2); (try clear hcz38_0); (try clear hcz38_1); (try clear hcz38_2); (try clear hcz46_0); (try clear hcz46_1); (try clear hcz46_2); (try clear hcz49_0); (try clear hcz49_1); (try clear hcz49_2); (try clear hcz54_0); (try clear hcz54_1); (try clear hcz54_2); (try clear hcz57_0); (try clear hcz57_1); (try clear hcz57_2); (try clear hcz5_0); (try clear hcz5_1); (try clear hcz5_2); (try clear hcz73_0); (try clear hcz73_1); (try clear hcz73_2); (try clear hcz81_0); (try clear hcz81_1); (try clear hcz81_2); (try clear hcz84_0); (try clear hcz84_1); (try clear hcz84_2); (try clear hcz89_0); (try clear hcz89_1); (try clear hcz89_2); (try clear hcz92_0); (try clear hcz92_1); (try clear hcz92_2); (try clear hfz13_0); (try clear hfz13_1); (try clear hfz13_2); (try clear hfz15_0); (try clear hfz15_1); (try clear hfz15_2); (try clear hfz22_0); (try clear hfz22_1); (try clear hfz22_2); (try clear hfz25_0); (try clear hfz25_1); (try clear hfz25_2); (try clear hfz30_0); (try clear hfz30_1); (try clear hfz30_2); (try clear hfz38_0); (try clear hfz38_1); (try clear hfz38_2); (try clear hfz46_0); (try clear hfz46_1); (try clear hfz46_2); (try clear hfz49_0); (try clear hfz49_1); (try clear hfz49_2); (try clear hfz54_0); (try clear hfz54_1); (try clear hfz54_2); (try clear hfz57_0); (try clear hfz57_1); (try clear hfz57_2); (try clear hfz5_0); (try clear hfz5_1); (try clear hfz5_2); (try clear hfz73_0); (try clear hfz73_1); (try clear hfz73_2); (try clear hfz81_0); (try clear hfz81_1); (try clear hfz81_2); (try clear hfz84_0); (try clear hfz84_1); (try clear hfz84_2); (try clear hfz89_0); (try clear hfz89_1); (try clear hfz89_2); (try clear hfz92_0); (try clear hfz92_1); (try clear hfz92_2); (try clear p2)
       obtain ⟨kq, x61_63, rfl, HA, HJ63, HO_252001, HO_252002, HO_260001, HO_260002, HO_269001, HO_269002, BK234, BK251, BK259, BK268, HB⟩ := hcut
       have hl260001_63 := (Kd.R_reads' HO_260001.out).1
       rw [hl260001_63] at HO_260001
       (try simp only [hl260001_63])
       (try simp only [hl260001_63] at BK234)
       (try simp only [hl260001_63] at BK251)
       (try simp only [hl260001_63] at BK259)
       (try simp only [hl260001_63] at BK268)
       (try simp only [hl260001_63] at HO_252001)
       (try simp only [hl260001_63] at HO_252002)
       (try simp only [hl260001_63] at HO_260002)
       (try simp only [hl260001_63] at HO_269001)
       (try simp only [hl260001_63] at HO_269002)
       have hl260002_63 := (Kd.R_reads' HO_260002.out).1
       rw [hl260002_63] at HO_260002
       (try simp only [hl260002_63])
       (try simp only [hl260002_63] at BK234)
       (try simp only [hl260002_63] at BK251)
       (try simp only [hl260002_63] at BK259)
       (try simp only [hl260002_63] at BK268)
       (try simp only [hl260002_63] at HO_252001)
       (try simp only [hl260002_63] at HO_252002)
       (try simp only [hl260002_63] at HO_260001)
       (try simp only [hl260002_63] at HO_269001)
       (try simp only [hl260002_63] at HO_269002)
       cases kq with
       | zero => exact absurd HA.out (by simp [laws_FnExactAdvance.j1])
       | succ kj63 =>
        have H := HA.out
        clear HA
        simp only [laws_FnExactAdvance.j1] at H
        by_cases c94 : x61_63 = true
        ·subst c94
         have H1 : (some false) = some r := by rw [if_pos rfl] at H; exact H
         clear H
         have H := H1
         clear H1
         obtain rfl := Option.some.inj H
         go_wp2
         go_ret
         exact ⟨q9_30, q9_0⟩
        ·replace c94 := Bool.eq_false_iff.mpr c94
         subst c94
         have H1 : ((laws_markAges.f kj63 t260 t261 t264 1).bind fun bt282 => ((laws_heldAges.f kj63 t260 bt282.2.1 bt282.2.2 1).bind fun t285 => (if t285 < 0 then (some false) else (if t285 = bt282.1 then ((laws_toAges.f kj63 a0_0 l0_1 l0_2).bind fun bt286 => ((impl_Advance.f kj63 bt286.1 bt286.2.1 bt286.2.2).bind fun bt293 => ((laws_eqAges.f kj63 bt293.1 bt293.2.1 bt293.2.2.1 t243 t244 t247).bind fun t302 => (if t302 = true then (laws_FnExactAdvance.j2 kj63 bt282.1 (bt293.2.2.2 != t250) t260 bt282.2.1 bt282.2.2) else (laws_FnExactAdvance.j2 kj63 bt282.1 true t260 bt282.2.1 bt282.2.2))))) else (some false))))) = some r := by rw [if_neg (show ¬ (false = true) by decide)] at H; exact H
         clear H
         have H := H1
         clear H1
         replace H := Option.bind_eq_some_iff.mp H
         obtain ⟨⟨t282, t283, t284⟩, A950, H⟩ := H
         replace H : ((laws_heldAges.f kj63 t260 t283 t284 1).bind fun t285 => (if t285 < 0 then (some false) else (if t285 = t282 then ((laws_toAges.f kj63 a0_0 l0_1 l0_2).bind fun bt286 => ((impl_Advance.f kj63 bt286.1 bt286.2.1 bt286.2.2).bind fun bt293 => ((laws_eqAges.f kj63 bt293.1 bt293.2.1 bt293.2.2.1 t243 t244 t247).bind fun t302 => (if t302 = true then (laws_FnExactAdvance.j2 kj63 t282 (bt293.2.2.2 != t250) t260 t283 t284) else (laws_FnExactAdvance.j2 kj63 t282 true t260 t283 t284))))) else (some false)))) = some r := H
         have A95 := Aside0.mk A950
         clear A950
         replace H := Option.bind_eq_some_iff.mp H
         obtain ⟨t285, A960, H⟩ := H
         replace H : (if t285 < 0 then (some false) else (if t285 = t282 then ((laws_toAges.f kj63 a0_0 l0_1 l0_2).bind fun bt286 => ((impl_Advance.f kj63 bt286.1 bt286.2.1 bt286.2.2).bind fun bt293 => ((laws_eqAges.f kj63 bt293.1 bt293.2.1 bt293.2.2.1 t243 t244 t247).bind fun t302 => (if t302 = true then (laws_FnExactAdvance.j2 kj63 t282 (bt293.2.2.2 != t250) t260 t283 t284) else (laws_FnExactAdvance.j2 kj63 t282 true t260 t283 t284))))) else (some false))) = some r := H
         have A96 := Aside0.mk A960
         clear A960
         by_cases c97 : t285 < 0
         ·rw [if_pos c97] at H
          have c97b0 : decide (t285 < 0) = true := decide_eq_true c97
          clear c97
          obtain rfl := Option.some.inj H
          have hnb98 := NB268_234.out
          have hnc98 := NB234_268.out
          have hnb99 := NB268_251.out
          have hnc99 := NB251_268.out
          have hnb100 := NB268_259.out
          have hnc100 := NB259_268.out
          have hcz101_0 : wc.cell? ⟨gb268, 0, none⟩ = some (.int .i64 t260) := (blk_cell BK268.out 0).trans rfl
          have hcz101_1 : wc.cell? ⟨gb268, 1, none⟩ = some (.slice Ao39 t261.length co39) := (blk_cell BK268.out 1).trans rfl
          have hcz101_2 : wc.cell? ⟨gb268, 2, none⟩ = some (.slice Ao40 t264.length co40) := (blk_cell BK268.out 2).trans rfl
          have hfz101_0 := blk_frozen BK268.out 0
          have hfz101_1 := blk_frozen BK268.out 1
          have hfz101_2 := blk_frozen BK268.out 2
          go_wp2_with (first | ((with_reducible refine gate_callee (f := 18) rfl ?_); refine goesL_ (some 64) rfl rfl Try.func18 (by kernel_rfl) rfl #[.agg #[.int .i64 t260, .slice Ao39 t261.length co39, .slice Ao40 t264.length co40], .int .i64 1] rfl q9_4 ?_; (with_reducible refine (laws_markAges.calls kj63 t260 (fun k_ => some k_ = (.slice Ao39 t261.length co39 : Value).ownBlock) (.slice Ao39 t261.length co39) t261 (fun k_ => some k_ = (.slice Ao40 t264.length co40 : Value).ownBlock) (.slice Ao40 t264.length co40) t264 1 t282 t283 t284 w _ ?side1 ?side2 ?side3 A95.out).mono ?_); (case side1 => exact q9_0); (case side2 => exact Kd.R_tight rfl HO_269001.out); (case side3 => exact Kd.R_tight rfl HO_269002.out); rintro e w102 ⟨rfl, hy0, hy1, hb, hkp⟩; refine ⟨_, rfl, ?_⟩; have n0_ := Aside0.mk (Kd.R_mono (ok' := fun k_ => some k_ ≠ (.slice Ao31 t279.length co31 : Value).ownBlock ∧ some k_ ≠ (.slice Ao39 t261.length co39 : Value).ownBlock) (Kd.R_keptB ((Kd.R_apart' HO_252001.out (Kd.R_typed HO_269002.out) q9_44)) hkp (fun k_ hk_ hs_ => Or.elim hs_ (fun e_ => (hk_.1.2) e_) (fun e_ => (hk_.2) e_))) (fun k_ hk_ => ⟨hk_.1.1.1, hk_.1.1.2⟩)); have n1_ := Aside0.mk (Kd.R_mono (ok' := fun k_ => some k_ ≠ (.slice Ao32 t280.length co32 : Value).ownBlock ∧ some k_ ≠ (.slice Ao40 t264.length co40 : Value).ownBlock) (Kd.R_keptB ((Kd.R_apart' HO_252002.out (Kd.R_typed HO_269001.out) q9_44)) hkp (fun k_ hk_ hs_ => Or.elim hs_ (fun e_ => (hk_.2) e_) (fun e_ => (hk_.1.2) e_))) (fun k_ hk_ => ⟨hk_.1.1.1, hk_.1.1.2⟩)); have n2_ := Aside0.mk (Kd.R_mono (ok' := fun k_ => some k_ ≠ (.slice Ao23 t244.length co23 : Value).ownBlock ∧ some k_ ≠ (.slice Ao39 t261.length co39 : Value).ownBlock) (Kd.R_keptB ((Kd.R_apart' HO_260001.out (Kd.R_typed HO_269002.out) q9_44)) hkp (fun k_ hk_ hs_ => Or.elim hs_ (fun e_ => (hk_.1.2) e_) (fun e_ => (hk_.2) e_))) (fun k_ hk_ => ⟨hk_.1.1.1, hk_.1.1.2⟩)); have n3_ := Aside0.mk (Kd.R_mono (ok' := fun k_ => some k_ ≠ (.slice Ao24 t247.length co24 : Value).ownBlock ∧ some k_ ≠ (.slice Ao40 t264.length co40 : Value).ownBlock) (Kd.R_keptB ((Kd.R_apart' HO_260002.out (Kd.R_typed HO_269001.out) q9_44)) hkp (fun k_ hk_ hs_ => Or.elim hs_ (fun e_ => (hk_.2) e_) (fun e_ => (hk_.1.2) e_))) (fun k_ hk_ => ⟨hk_.1.1.1, hk_.1.1.2⟩)); have n4_ := Aside0.mk (Kd.R_reok rfl hy0 (fun k_ e_ => HO_269001.out.1 k_ e_)); have n5_ := Aside0.mk (Kd.R_reok rfl hy1 (fun k_ e_ => HO_269002.out.1 k_ e_)); have n6_ := Aside0.mk (blk_kept q9_1 hkp (fun hs_ => Or.elim hs_ (fun e_ => (fun e_ => (Kd.R_ne HO_269001.out BK234.out q9_44) e_) e_) (fun e_ => (fun e_ => (Kd.R_ne HO_269002.out BK234.out q9_44) e_) e_))); have n7_ := Aside0.mk (blk_kept q9_2 hkp (fun hs_ => Or.elim hs_ (fun e_ => (fun e_ => (Kd.R_ne HO_269001.out BK251.out q9_44) e_) e_) (fun e_ => (fun e_ => (Kd.R_ne HO_269002.out BK251.out q9_44) e_) e_))); have n8_ := Aside0.mk (blk_kept q9_3 hkp (fun hs_ => Or.elim hs_ (fun e_ => (fun e_ => (Kd.R_ne HO_269001.out BK259.out q9_44) e_) e_) (fun e_ => (fun e_ => (Kd.R_ne HO_269002.out BK259.out q9_44) e_) e_))); have n9_ := Aside0.mk (blk_kept q9_5 hkp (fun hs_ => Or.elim hs_ (fun e_ => (fun e_ => (Kd.R_ne HO_269001.out BK268.out q9_44) e_) e_) (fun e_ => (fun e_ => (Kd.R_ne HO_269002.out BK268.out q9_44) e_) e_))); have n10_ := Aside0.mk (hb); clear HO_252001; clear HO_252002; clear HO_260001; clear HO_260002; clear HO_269001; clear HO_269002; clear BK234; clear BK251; clear BK259; clear BK268; clear HB; have HO_252001 := n0_; have HO_252002 := n1_; have HO_260001 := n2_; have HO_260002 := n3_; have HO_269001 := n4_; have HO_269002 := n5_; have BK234 := n6_; have BK251 := n7_; have BK259 := n8_; have BK268 := n9_; have HB := n10_; clear n0_ n1_ n2_ n3_ n4_ n5_ n6_ n7_ n8_ n9_ n10_; (try clear hb); (try clear hkp); (try clear hy0); (try clear hy1); have hcz103_0 : w102.cell? ⟨gb268, 0, none⟩ = some (.int .i64 t260) := (blk_cell BK268.out 0).trans rfl; have hcz103_1 : w102.cell? ⟨gb268, 1, none⟩ = some (.slice Ao39 t261.length co39) := (blk_cell BK268.out 1).trans rfl; have hcz103_2 : w102.cell? ⟨gb268, 2, none⟩ = some (.slice Ao40 t264.length co40) := (blk_cell BK268.out 2).trans rfl; have hfz103_0 := blk_frozen BK268.out 0; have hfz103_1 := blk_frozen BK268.out 1; have hfz103_2 := blk_frozen BK268.out 2) | ((with_reducible refine gate_callee (f := 19) rfl ?_); refine goesL_ (some 67) rfl rfl Try.func19 (by kernel_rfl) rfl #[.agg #[.int .i64 t260, .slice Ao39 t283.length co39, .slice Ao40 t284.length co40], .int .i64 1] rfl q9_34 ?_; (with_reducible refine (laws_heldAges.calls kj63 t260 _ _ t283 _ _ t284 1 t285 _ ?side1 ?side2 ?side3 ?side4 A96.out).mono ?_); (case side1 => exact q9_23); (case side2 => rw [show t283.length = t261.length from (Kd.R_reads' HO_269001.out).1.symm]; exact (Kd.R_reads' HO_269001.out).2.1); (case side3 => exact q9_24); (case side4 => rw [show t284.length = t264.length from (Kd.R_reads' HO_269002.out).1.symm]; exact (Kd.R_reads' HO_269002.out).2.1); rintro e w104 ⟨rfl, hb⟩; refine ⟨_, rfl, ?_⟩; have n0_ := Aside0.mk (Kd.R_below q9_7 hb); have n1_ := Aside0.mk (Kd.R_below q9_8 hb); have n2_ := Aside0.mk (Kd.R_below q9_9 hb); have n3_ := Aside0.mk (Kd.R_below q9_10 hb); have n4_ := Aside0.mk (Kd.R_below q9_11 hb); have n5_ := Aside0.mk (Kd.R_below q9_12 hb); have n6_ := Aside0.mk (blk_below (g := gb234) (o := .cells #[.int .i64 a0_0, .slice A0_1 l0_1.length c0_1, .slice A0_2 l0_2.length c0_2] 25 (0, 0)) q9_1 hb); have n7_ := Aside0.mk (blk_below (g := gb251) (o := .cells #[.int .i64 t243, .slice Ao23 t244.length co23, .slice Ao24 t247.length co24] 30 (0, 0)) q9_2 hb); have n8_ := Aside0.mk (blk_below (g := gb259) (o := .cells #[.int .i64 t252, .slice Ao31 t279.length co31, .slice Ao32 t280.length co32] 30 (0, 0)) q9_3 hb); have n9_ := Aside0.mk (blk_below (g := gb268) (o := .cells #[.int .i64 t260, .slice Ao39 t261.length co39, .slice Ao40 t264.length co40] 30 (0, 0)) q9_5 hb); have n10_ := Aside0.mk (below_step q9_0 hb); clear HO_252001; clear HO_252002; clear HO_260001; clear HO_260002; clear HO_269001; clear HO_269002; clear BK234; clear BK251; clear BK259; clear BK268; clear HB; have HO_252001 := n0_; have HO_252002 := n1_; have HO_260001 := n2_; have HO_260002 := n3_; have HO_269001 := n4_; have HO_269002 := n5_; have BK234 := n6_; have BK251 := n7_; have BK259 := n8_; have BK268 := n9_; have HB := n10_; clear n0_ n1_ n2_ n3_ n4_ n5_ n6_ n7_ n8_ n9_ n10_; (try clear hb); (try clear hb2); (try clear hk); (try clear hi)))
          go_ret
          exact ⟨q9_30, q9_0⟩
         ·rw [if_neg c97] at H
          have c97b0 : decide (t285 < 0) = false := decide_eq_false c97
          clear c97
          by_cases c105 : t285 = t282
          ·rw [if_pos c105] at H
           have c105b0 : (t285 == t282) = true := beq_iff_eq.mpr c105
           have c105b1 : (t285 != t282) = false := bne_eq_false_iff_eq.mpr c105
           clear c105
           replace H := Option.bind_eq_some_iff.mp H
           obtain ⟨⟨t286, t287, t290⟩, A1060, H⟩ := H
           replace H : ((impl_Advance.f kj63 t286 t287 t290).bind fun bt293 => ((laws_eqAges.f kj63 bt293.1 bt293.2.1 bt293.2.2.1 t243 t244 t247).bind fun t302 => (if t302 = true then (laws_FnExactAdvance.j2 kj63 t282 (bt293.2.2.2 != t250) t260 t283 t284) else (laws_FnExactAdvance.j2 kj63 t282 true t260 t283 t284)))) = some r := H
           have A106 := Aside0.mk A1060
           clear A1060
           replace H := Option.bind_eq_some_iff.mp H
           obtain ⟨⟨t293, t294, t297, t300⟩, A1070, H⟩ := H
           replace H : ((laws_eqAges.f kj63 t293 t294 t297 t243 t244 t247).bind fun t302 => (if t302 = true then (laws_FnExactAdvance.j2 kj63 t282 (t300 != t250) t260 t283 t284) else (laws_FnExactAdvance.j2 kj63 t282 true t260 t283 t284))) = some r := H
           have A107 := Aside0.mk A1070
           clear A1070
           have HC108 := Aside0.mk H
           clear H
           have hnb109 := NB268_234.out
           have hnc109 := NB234_268.out
           have hnb110 := NB268_251.out
           have hnc110 := NB251_268.out
           have hnb111 := NB268_259.out
           have hnc111 := NB259_268.out
           have hcz112_0 : wc.cell? ⟨gb268, 0, none⟩ = some (.int .i64 t260) := (blk_cell BK268.out 0).trans rfl
           have hcz112_1 : wc.cell? ⟨gb268, 1, none⟩ = some (.slice Ao39 t261.length co39) := (blk_cell BK268.out 1).trans rfl
           have hcz112_2 : wc.cell? ⟨gb268, 2, none⟩ = some (.slice Ao40 t264.length co40) := (blk_cell BK268.out 2).trans rfl
           have hfz112_0 := blk_frozen BK268.out 0
           have hfz112_1 := blk_frozen BK268.out 1
           have hfz112_2 := blk_frozen BK268.out 2
           go_upto_region 25 with (first | ((with_reducible refine gate_callee (f := 18) rfl ?_); refine goesL_ (some 64) rfl rfl Try.func18 (by kernel_rfl) rfl #[.agg #[.int .i64 t260, .slice Ao39 t261.length co39, .slice Ao40 t264.length co40], .int .i64 1] rfl q9_4 ?_; (with_reducible refine (laws_markAges.calls kj63 t260 (fun k_ => some k_ = (.slice Ao39 t261.length co39 : Value).ownBlock) (.slice Ao39 t261.length co39) t261 (fun k_ => some k_ = (.slice Ao40 t264.length co40 : Value).ownBlock) (.slice Ao40 t264.length co40) t264 1 t282 t283 t284 w _ ?side1 ?side2 ?side3 A95.out).mono ?_); (case side1 => exact q9_0); (case side2 => exact Kd.R_tight rfl HO_269001.out); (case side3 => exact Kd.R_tight rfl HO_269002.out); rintro e w113 ⟨rfl, hy0, hy1, hb, hkp⟩; refine ⟨_, rfl, ?_⟩; have n0_ := Aside0.mk (Kd.R_mono (ok' := fun k_ => some k_ ≠ (.slice Ao31 t279.length co31 : Value).ownBlock ∧ some k_ ≠ (.slice Ao39 t261.length co39 : Value).ownBlock) (Kd.R_keptB ((Kd.R_apart' HO_252001.out (Kd.R_typed HO_269002.out) q9_44)) hkp (fun k_ hk_ hs_ => Or.elim hs_ (fun e_ => (hk_.1.2) e_) (fun e_ => (hk_.2) e_))) (fun k_ hk_ => ⟨hk_.1.1.1, hk_.1.1.2⟩)); have n1_ := Aside0.mk (Kd.R_mono (ok' := fun k_ => some k_ ≠ (.slice Ao32 t280.length co32 : Value).ownBlock ∧ some k_ ≠ (.slice Ao40 t264.length co40 : Value).ownBlock) (Kd.R_keptB ((Kd.R_apart' HO_252002.out (Kd.R_typed HO_269001.out) q9_44)) hkp (fun k_ hk_ hs_ => Or.elim hs_ (fun e_ => (hk_.2) e_) (fun e_ => (hk_.1.2) e_))) (fun k_ hk_ => ⟨hk_.1.1.1, hk_.1.1.2⟩)); have n2_ := Aside0.mk (Kd.R_mono (ok' := fun k_ => some k_ ≠ (.slice Ao23 t244.length co23 : Value).ownBlock ∧ some k_ ≠ (.slice Ao39 t261.length co39 : Value).ownBlock) (Kd.R_keptB ((Kd.R_apart' HO_260001.out (Kd.R_typed HO_269002.out) q9_44)) hkp (fun k_ hk_ hs_ => Or.elim hs_ (fun e_ => (hk_.1.2) e_) (fun e_ => (hk_.2) e_))) (fun k_ hk_ => ⟨hk_.1.1.1, hk_.1.1.2⟩)); have n3_ := Aside0.mk (Kd.R_mono (ok' := fun k_ => some k_ ≠ (.slice Ao24 t247.length co24 : Value).ownBlock ∧ some k_ ≠ (.slice Ao40 t264.length co40 : Value).ownBlock) (Kd.R_keptB ((Kd.R_apart' HO_260002.out (Kd.R_typed HO_269001.out) q9_44)) hkp (fun k_ hk_ hs_ => Or.elim hs_ (fun e_ => (hk_.2) e_) (fun e_ => (hk_.1.2) e_))) (fun k_ hk_ => ⟨hk_.1.1.1, hk_.1.1.2⟩)); have n4_ := Aside0.mk (Kd.R_reok rfl hy0 (fun k_ e_ => HO_269001.out.1 k_ e_)); have n5_ := Aside0.mk (Kd.R_reok rfl hy1 (fun k_ e_ => HO_269002.out.1 k_ e_)); have n6_ := Aside0.mk (blk_kept q9_1 hkp (fun hs_ => Or.elim hs_ (fun e_ => (fun e_ => (Kd.R_ne HO_269001.out BK234.out q9_44) e_) e_) (fun e_ => (fun e_ => (Kd.R_ne HO_269002.out BK234.out q9_44) e_) e_))); have n7_ := Aside0.mk (blk_kept q9_2 hkp (fun hs_ => Or.elim hs_ (fun e_ => (fun e_ => (Kd.R_ne HO_269001.out BK251.out q9_44) e_) e_) (fun e_ => (fun e_ => (Kd.R_ne HO_269002.out BK251.out q9_44) e_) e_))); have n8_ := Aside0.mk (blk_kept q9_3 hkp (fun hs_ => Or.elim hs_ (fun e_ => (fun e_ => (Kd.R_ne HO_269001.out BK259.out q9_44) e_) e_) (fun e_ => (fun e_ => (Kd.R_ne HO_269002.out BK259.out q9_44) e_) e_))); have n9_ := Aside0.mk (blk_kept q9_5 hkp (fun hs_ => Or.elim hs_ (fun e_ => (fun e_ => (Kd.R_ne HO_269001.out BK268.out q9_44) e_) e_) (fun e_ => (fun e_ => (Kd.R_ne HO_269002.out BK268.out q9_44) e_) e_))); have n10_ := Aside0.mk (hb); clear HO_252001; clear HO_252002; clear HO_260001; clear HO_260002; clear HO_269001; clear HO_269002; clear BK234; clear BK251; clear BK259; clear BK268; clear HB; have HO_252001 := n0_; have HO_252002 := n1_; have HO_260001 := n2_; have HO_260002 := n3_; have HO_269001 := n4_; have HO_269002 := n5_; have BK234 := n6_; have BK251 := n7_; have BK259 := n8_; have BK268 := n9_; have HB := n10_; clear n0_ n1_ n2_ n3_ n4_ n5_ n6_ n7_ n8_ n9_ n10_; (try clear hb); (try clear hkp); (try clear hy0); (try clear hy1); have hcz114_0 : w113.cell? ⟨gb268, 0, none⟩ = some (.int .i64 t260) := (blk_cell BK268.out 0).trans rfl; have hcz114_1 : w113.cell? ⟨gb268, 1, none⟩ = some (.slice Ao39 t261.length co39) := (blk_cell BK268.out 1).trans rfl; have hcz114_2 : w113.cell? ⟨gb268, 2, none⟩ = some (.slice Ao40 t264.length co40) := (blk_cell BK268.out 2).trans rfl; have hfz114_0 := blk_frozen BK268.out 0; have hfz114_1 := blk_frozen BK268.out 1; have hfz114_2 := blk_frozen BK268.out 2) | ((with_reducible refine gate_callee (f := 19) rfl ?_); refine goesL_ (some 67) rfl rfl Try.func19 (by kernel_rfl) rfl #[.agg #[.int .i64 t260, .slice Ao39 t283.length co39, .slice Ao40 t284.length co40], .int .i64 1] rfl q9_34 ?_; (with_reducible refine (laws_heldAges.calls kj63 t260 _ _ t283 _ _ t284 1 t285 _ ?side1 ?side2 ?side3 ?side4 A96.out).mono ?_); (case side1 => exact q9_23); (case side2 => rw [show t283.length = t261.length from (Kd.R_reads' HO_269001.out).1.symm]; exact (Kd.R_reads' HO_269001.out).2.1); (case side3 => exact q9_24); (case side4 => rw [show t284.length = t264.length from (Kd.R_reads' HO_269002.out).1.symm]; exact (Kd.R_reads' HO_269002.out).2.1); rintro e w115 ⟨rfl, hb⟩; refine ⟨_, rfl, ?_⟩; have n0_ := Aside0.mk (Kd.R_below q9_7 hb); have n1_ := Aside0.mk (Kd.R_below q9_8 hb); have n2_ := Aside0.mk (Kd.R_below q9_9 hb); have n3_ := Aside0.mk (Kd.R_below q9_10 hb); have n4_ := Aside0.mk (Kd.R_below q9_11 hb); have n5_ := Aside0.mk (Kd.R_below q9_12 hb); have n6_ := Aside0.mk (blk_below (g := gb234) (o := .cells #[.int .i64 a0_0, .slice A0_1 l0_1.length c0_1, .slice A0_2 l0_2.length c0_2] 25 (0, 0)) q9_1 hb); have n7_ := Aside0.mk (blk_below (g := gb251) (o := .cells #[.int .i64 t243, .slice Ao23 t244.length co23, .slice Ao24 t247.length co24] 30 (0, 0)) q9_2 hb); have n8_ := Aside0.mk (blk_below (g := gb259) (o := .cells #[.int .i64 t252, .slice Ao31 t279.length co31, .slice Ao32 t280.length co32] 30 (0, 0)) q9_3 hb); have n9_ := Aside0.mk (blk_below (g := gb268) (o := .cells #[.int .i64 t260, .slice Ao39 t261.length co39, .slice Ao40 t264.length co40] 30 (0, 0)) q9_5 hb); have n10_ := Aside0.mk (below_step q9_0 hb); clear HO_252001; clear HO_252002; clear HO_260001; clear HO_260002; clear HO_269001; clear HO_269002; clear BK234; clear BK251; clear BK259; clear BK268; clear HB; have HO_252001 := n0_; have HO_252002 := n1_; have HO_260001 := n2_; have HO_260002 := n3_; have HO_269001 := n4_; have HO_269002 := n5_; have BK234 := n6_; have BK251 := n7_; have BK259 := n8_; have BK268 := n9_; have HB := n10_; clear n0_ n1_ n2_ n3_ n4_ n5_ n6_ n7_ n8_ n9_ n10_; (try clear hb); (try clear hb2); (try clear hk); (try clear hi); have hnb116 := NB234_251.out; have hnc116 := NB251_234.out; have hnb117 := NB234_259.out; have hnc117 := NB259_234.out; have hcz118_0 : w115.cell? ⟨gb234, 0, none⟩ = some (.int .i64 a0_0) := (blk_cell BK234.out 0).trans rfl; have hcz118_1 : w115.cell? ⟨gb234, 1, none⟩ = some (.slice A0_1 l0_1.length c0_1) := (blk_cell BK234.out 1).trans rfl; have hcz118_2 : w115.cell? ⟨gb234, 2, none⟩ = some (.slice A0_2 l0_2.length c0_2) := (blk_cell BK234.out 2).trans rfl; have hfz118_0 := blk_frozen BK234.out 0; have hfz118_1 := blk_frozen BK234.out 1; have hfz118_2 := blk_frozen BK234.out 2) | ((with_reducible refine gate_callee (f := 13) rfl ?_); refine goesL_ (some 75) rfl rfl Try.func13 (by kernel_rfl) rfl #[.agg #[.int .i64 a0_0, .slice A0_1 l0_1.length c0_1, .slice A0_2 l0_2.length c0_2]] rfl q9_4 ?_; (with_reducible refine (laws_toAges.calls kj63 a0_0 _ _ l0_1 _ _ l0_2 t286 t287 t290 _ ?side1 ?side2 ?side3 ?side4 A106.out).mono ?_); (case side1 => exact q9_26); (case side2 => exact HC0_1.out); (case side3 => exact q9_27); (case side4 => exact HC0_2.out); rintro e w119 ⟨v288, v291, rfl, ho0, ho1, hb⟩; refine ⟨_, rfl, ?_⟩; have n0_ := Aside0.mk (Kd.R_elder' q9_7 (Kd.R_base ho0) hb); have n1_ := Aside0.mk (Kd.R_elder' q9_8 (Kd.R_base ho1) hb); have n2_ := Aside0.mk (Kd.R_elder' q9_9 (Kd.R_base ho0) hb); have n3_ := Aside0.mk (Kd.R_elder' q9_10 (Kd.R_base ho1) hb); have n4_ := Aside0.mk (Kd.R_elder' q9_11 (Kd.R_base ho0) hb); have n5_ := Aside0.mk (Kd.R_elder' q9_12 (Kd.R_base ho1) hb); have n6_ := Aside0.mk (Kd.R_lower (Kd.R_new' (Kd.R_new' (Kd.R_new' ho0 (Kd.R_lt q9_7)) (Kd.R_lt q9_9)) (Kd.R_lt q9_11)) (below_size q9_0)); have n7_ := Aside0.mk (Kd.R_lower (Kd.R_new' (Kd.R_new' (Kd.R_new' ho1 (Kd.R_lt q9_8)) (Kd.R_lt q9_10)) (Kd.R_lt q9_12)) (below_size q9_0)); have n8_ := Aside0.mk (blk_below (g := gb234) (o := .cells #[.int .i64 a0_0, .slice A0_1 l0_1.length c0_1, .slice A0_2 l0_2.length c0_2] 25 (0, 0)) q9_1 hb); have n9_ := Aside0.mk (blk_below (g := gb251) (o := .cells #[.int .i64 t243, .slice Ao23 t244.length co23, .slice Ao24 t247.length co24] 30 (0, 0)) q9_2 hb); have n10_ := Aside0.mk (blk_below (g := gb259) (o := .cells #[.int .i64 t252, .slice Ao31 t279.length co31, .slice Ao32 t280.length co32] 30 (0, 0)) q9_3 hb); have n11_ := Aside0.mk (blk_below (g := gb268) (o := .cells #[.int .i64 t260, .slice Ao39 t261.length co39, .slice Ao40 t264.length co40] 30 (0, 0)) q9_5 hb); have n12_ := Aside0.mk (below_step q9_0 hb); clear HO_252001; clear HO_252002; clear HO_260001; clear HO_260002; clear HO_269001; clear HO_269002; clear BK234; clear BK251; clear BK259; clear BK268; clear HB; have HO_252001 := n0_; have HO_252002 := n1_; have HO_260001 := n2_; have HO_260002 := n3_; have HO_269001 := n4_; have HO_269002 := n5_; have HO289 := n6_; have HO292 := n7_; have BK234 := n8_; have BK251 := n9_; have BK259 := n10_; have BK268 := n11_; have HB := n12_; clear n0_ n1_ n2_ n3_ n4_ n5_ n6_ n7_ n8_ n9_ n10_ n11_ n12_; (try clear hb); (try clear hb2); (try clear hk); (try clear hi); (try clear ho0); (try clear ho1); obtain ⟨Ao120, co120, eo120⟩ := Kd.R_slice HO289.out; subst eo120; obtain ⟨Ao121, co121, eo121⟩ := Kd.R_slice HO292.out; subst eo121) | ((with_reducible refine gate_callee (f := 27) rfl ?_); refine goesL_ (some 76) rfl rfl Try.func27 (by kernel_rfl) rfl #[.agg #[.int .i64 t286, .slice Ao120 t287.length co120, .slice Ao121 t290.length co121]] rfl q9_4 ?_; (with_reducible refine (impl_Advance.calls kj63 t286 _ _ t287 _ _ t290 t293 t294 t297 t300 _ ?side1 ?side2 ?side3 ?side4 A107.out).mono ?_); (case side1 => repeat (first | exact (Kd.R_reads' HO289.out).2.2 | (with_reducible refine Kd.C_alloc ?_ _) | (with_reducible refine Kd.C_drewN ?_ _) | (with_reducible refine Kd.C_drew ?_))); (case side2 => exact (Kd.R_reads' HO289.out).2.1); (case side3 => repeat (first | exact (Kd.R_reads' HO292.out).2.2 | (with_reducible refine Kd.C_alloc ?_ _) | (with_reducible refine Kd.C_drewN ?_ _) | (with_reducible refine Kd.C_drew ?_))); (case side4 => exact (Kd.R_reads' HO292.out).2.1); rintro e w122 ⟨v295, v298, rfl, ho0, ho1, hb⟩; refine ⟨_, rfl, ?_⟩; have n0_ := Aside0.mk (Kd.R_elder' q9_7 (Kd.R_base ho0) hb); have n1_ := Aside0.mk (Kd.R_elder' q9_8 (Kd.R_base ho1) hb); have n2_ := Aside0.mk (Kd.R_elder' q9_9 (Kd.R_base ho0) hb); have n3_ := Aside0.mk (Kd.R_elder' q9_10 (Kd.R_base ho1) hb); have n4_ := Aside0.mk (Kd.R_elder' q9_11 (Kd.R_base ho0) hb); have n5_ := Aside0.mk (Kd.R_elder' q9_12 (Kd.R_base ho1) hb); have n6_ := Aside0.mk (Kd.R_elder' (by (with_reducible repeat (first | apply Kd.R_alloc | apply Kd.R_drewN | apply Kd.R_drew)); exact HO289.out) (Kd.R_base ho0) hb); have n7_ := Aside0.mk (Kd.R_elder' (by (with_reducible repeat (first | apply Kd.R_alloc | apply Kd.R_drewN | apply Kd.R_drew)); exact HO292.out) (Kd.R_base ho1) hb); have n8_ := Aside0.mk (Kd.R_lower (Kd.R_new' (Kd.R_new' (Kd.R_new' (Kd.R_new' ho0 (Kd.R_lt q9_7)) (Kd.R_lt q9_9)) (Kd.R_lt q9_11)) (Kd.R_lt (by (with_reducible repeat (first | apply Kd.R_alloc | apply Kd.R_drewN | apply Kd.R_drew)); exact HO289.out))) (below_size q9_0)); have n9_ := Aside0.mk (Kd.R_lower (Kd.R_new' (Kd.R_new' (Kd.R_new' (Kd.R_new' ho1 (Kd.R_lt q9_8)) (Kd.R_lt q9_10)) (Kd.R_lt q9_12)) (Kd.R_lt (by (with_reducible repeat (first | apply Kd.R_alloc | apply Kd.R_drewN | apply Kd.R_drew)); exact HO292.out))) (below_size q9_0)); have n10_ := Aside0.mk (blk_below (g := gb234) (o := .cells #[.int .i64 a0_0, .slice A0_1 l0_1.length c0_1, .slice A0_2 l0_2.length c0_2] 25 (0, 0)) q9_1 hb); have n11_ := Aside0.mk (blk_below (g := gb251) (o := .cells #[.int .i64 t243, .slice Ao23 t244.length co23, .slice Ao24 t247.length co24] 30 (0, 0)) q9_2 hb); have n12_ := Aside0.mk (blk_below (g := gb259) (o := .cells #[.int .i64 t252, .slice Ao31 t279.length co31, .slice Ao32 t280.length co32] 30 (0, 0)) q9_3 hb); have n13_ := Aside0.mk (blk_below (g := gb268) (o := .cells #[.int .i64 t260, .slice Ao39 t261.length co39, .slice Ao40 t264.length co40] 30 (0, 0)) q9_5 hb); have n14_ := Aside0.mk (below_step q9_0 hb); clear HO_252001; clear HO_252002; clear HO_260001; clear HO_260002; clear HO_269001; clear HO_269002; clear HO289; clear HO292; clear BK234; clear BK251; clear BK259; clear BK268; clear HB; have HO_252001 := n0_; have HO_252002 := n1_; have HO_260001 := n2_; have HO_260002 := n3_; have HO_269001 := n4_; have HO_269002 := n5_; have HO289 := n6_; have HO292 := n7_; have HO296 := n8_; have HO299 := n9_; have BK234 := n10_; have BK251 := n11_; have BK259 := n12_; have BK268 := n13_; have HB := n14_; clear n0_ n1_ n2_ n3_ n4_ n5_ n6_ n7_ n8_ n9_ n10_ n11_ n12_ n13_ n14_; (try clear hb); (try clear hb2); (try clear hk); (try clear hi); (try clear ho0); (try clear ho1)) | ((with_reducible refine gate_dst (N := 12) rfl ?_); refine box_event ?hg (N := 12) ?hd (cs := #[.int .i64 0, .slice none 0 0, .slice none 0 0]) (t := 30) ?hr ?_; (case hd => rfl); (case hg => rfl); (case hr => first | (go_simp; done) | (go_simp; rfl)); intro gb301 hg w123 hbox hb; have n0_ := Aside0.mk (Kd.R_below q9_7 hb); have n1_ := Aside0.mk (Kd.R_below q9_8 hb); have n2_ := Aside0.mk (Kd.R_below q9_9 hb); have n3_ := Aside0.mk (Kd.R_below q9_10 hb); have n4_ := Aside0.mk (Kd.R_below q9_11 hb); have n5_ := Aside0.mk (Kd.R_below q9_12 hb); have n6_ := Aside0.mk (Kd.R_below (by (with_reducible repeat (first | apply Kd.R_alloc | apply Kd.R_drewN | apply Kd.R_drew)); exact HO289.out) hb); have n7_ := Aside0.mk (Kd.R_below (by (with_reducible repeat (first | apply Kd.R_alloc | apply Kd.R_drewN | apply Kd.R_drew)); exact HO292.out) hb); have n8_ := Aside0.mk (Kd.R_below (by (with_reducible repeat (first | apply Kd.R_alloc | apply Kd.R_drewN | apply Kd.R_drew)); exact HO296.out) hb); have n9_ := Aside0.mk (Kd.R_below (by (with_reducible repeat (first | apply Kd.R_alloc | apply Kd.R_drewN | apply Kd.R_drew)); exact HO299.out) hb); have n10_ := Aside0.mk (blk_below (g := gb234) (o := .cells #[.int .i64 a0_0, .slice A0_1 l0_1.length c0_1, .slice A0_2 l0_2.length c0_2] 25 (0, 0)) q9_1 hb); have n11_ := Aside0.mk (blk_below (g := gb251) (o := .cells #[.int .i64 t243, .slice Ao23 t244.length co23, .slice Ao24 t247.length co24] 30 (0, 0)) q9_2 hb); have n12_ := Aside0.mk (blk_below (g := gb259) (o := .cells #[.int .i64 t252, .slice Ao31 t279.length co31, .slice Ao32 t280.length co32] 30 (0, 0)) q9_3 hb); have n13_ := Aside0.mk (blk_below (g := gb268) (o := .cells #[.int .i64 t260, .slice Ao39 t261.length co39, .slice Ao40 t264.length co40] 30 (0, 0)) q9_5 hb); have n14_ := Aside0.mk (below_step q9_0 hb); have n15_ := Aside0.mk (hbox); have n16_ := Aside0.mk ((by rw [hg]; exact (below_size q9_0) : w.heap.size ≤ gb301)); have n17_ := Aside0.mk ((by rw [hg]; exact (below_size q9_0) : w.heap.size ≤ gb301)); have n18_ := Aside0.mk ((q9_42 : gb234 ≠ gb301)); have n19_ := Aside0.mk ((q9_43 : gb301 ≠ gb234)); have n20_ := Aside0.mk ((by rw [hg]; exact Nat.ne_of_lt (blk_lt (g := gb251) (o := .cells #[.int .i64 t243, .slice Ao23 t244.length co23, .slice Ao24 t247.length co24] 30 (0, 0)) q9_2) : gb251 ≠ gb301)); have n21_ := Aside0.mk ((by rw [hg]; exact Nat.ne_of_gt (blk_lt (g := gb251) (o := .cells #[.int .i64 t243, .slice Ao23 t244.length co23, .slice Ao24 t247.length co24] 30 (0, 0)) q9_2) : gb301 ≠ gb251)); have n22_ := Aside0.mk ((by rw [hg]; exact Nat.ne_of_lt (blk_lt (g := gb259) (o := .cells #[.int .i64 t252, .slice Ao31 t279.length co31, .slice Ao32 t280.length co32] 30 (0, 0)) q9_3) : gb259 ≠ gb301)); have n23_ := Aside0.mk ((by rw [hg]; exact Nat.ne_of_gt (blk_lt (g := gb259) (o := .cells #[.int .i64 t252, .slice Ao31 t279.length co31, .slice Ao32 t280.length co32] 30 (0, 0)) q9_3) : gb301 ≠ gb259)); have n24_ := Aside0.mk ((by rw [hg]; exact Nat.ne_of_lt (blk_lt (g := gb268) (o := .cells #[.int .i64 t260, .slice Ao39 t261.length co39, .slice Ao40 t264.length co40] 30 (0, 0)) q9_5) : gb268 ≠ gb301)); have n25_ := Aside0.mk ((by rw [hg]; exact Nat.ne_of_gt (blk_lt (g := gb268) (o := .cells #[.int .i64 t260, .slice Ao39 t261.length co39, .slice Ao40 t264.length co40] 30 (0, 0)) q9_5) : gb301 ≠ gb268)); clear HO_252001; clear HO_252002; clear HO_260001; clear HO_260002; clear HO_269001; clear HO_269002; clear HO289; clear HO292; clear HO296; clear HO299; clear BK234; clear BK251; clear BK259; clear BK268; clear HB; have HO_252001 := n0_; have HO_252002 := n1_; have HO_260001 := n2_; have HO_260002 := n3_; have HO_269001 := n4_; have HO_269002 := n5_; have HO289 := n6_; have HO292 := n7_; have HO296 := n8_; have HO299 := n9_; have BK234 := n10_; have BK251 := n11_; have BK259 := n12_; have BK268 := n13_; have HB := n14_; have BK301 := n15_; have GW301 := n16_; have GE301 := n17_; have NB234_301 := n18_; have NB301_234 := n19_; have NB251_301 := n20_; have NB301_251 := n21_; have NB259_301 := n22_; have NB301_259 := n23_; have NB268_301 := n24_; have NB301_268 := n25_; clear n0_ n1_ n2_ n3_ n4_ n5_ n6_ n7_ n8_ n9_ n10_ n11_ n12_ n13_ n14_ n15_ n16_ n17_ n18_ n19_ n20_ n21_ n22_ n23_ n24_ n25_; clear hb hbox hg; have hnb124 := NB301_234.out; have hnc124 := NB234_301.out; have hnb125 := NB301_251.out; have hnc125 := NB251_301.out; have hnb126 := NB301_259.out; have hnc126 := NB259_301.out; have hnb127 := NB301_268.out; have hnc127 := NB268_301.out; have hcz128_0 : w123.cell? ⟨gb301, 0, none⟩ = some (.int .i64 0) := (blk_cell BK301.out 0).trans rfl; have hcz128_1 : w123.cell? ⟨gb301, 1, none⟩ = some (.slice none 0 0) := (blk_cell BK301.out 1).trans rfl; have hcz128_2 : w123.cell? ⟨gb301, 2, none⟩ = some (.slice none 0 0) := (blk_cell BK301.out 2).trans rfl; have hfz128_0 := blk_frozen BK301.out 0; have hfz128_1 := blk_frozen BK301.out 1; have hfz128_2 := blk_frozen BK301.out 2; obtain ⟨Ao129, co129, eo129⟩ := Kd.R_slice HO296.out; subst eo129; obtain ⟨Ao130, co130, eo130⟩ := Kd.R_slice HO299.out; subst eo130))
           (try simp only [Act.put, List.setIfInBounds_toArray, List.set_cons_zero, List.set_cons_succ])
           go_cut [87] (fun v87 wc => ∃ (kq : Nat) (x87_107 : Bool), v87 = .bool x87_107 ∧ Aside0 (laws_FnExactAdvance.j2 kq t282 x87_107 t260 t283 t284 = some r) ∧ Aside0 (kq ≤ kj63) ∧ Aside0 (Kd.R (Kd.int .i64) 3 wc w.heap.size (fun k_ => some k_ ≠ ((.slice Ao31 t279.length co31) : Value).ownBlock ∧ some k_ ≠ ((.slice Ao39 t261.length co39) : Value).ownBlock ∧ some k_ ≠ ((.slice Ao129 t294.length co129) : Value).ownBlock) (.slice Ao23 t244.length co23) t244) ∧ Aside0 (Kd.R k48 48 wc w.heap.size (fun k_ => some k_ ≠ ((.slice Ao32 t280.length co32) : Value).ownBlock ∧ some k_ ≠ ((.slice Ao40 t264.length co40) : Value).ownBlock ∧ some k_ ≠ ((.slice Ao130 t297.length co130) : Value).ownBlock) (.slice Ao24 t247.length co24) t247) ∧ Aside0 (Kd.R (Kd.int .i64) 3 wc w.heap.size (fun k_ => some k_ ≠ ((.slice Ao23 t244.length co23) : Value).ownBlock ∧ some k_ ≠ ((.slice Ao39 t261.length co39) : Value).ownBlock ∧ some k_ ≠ ((.slice Ao129 t294.length co129) : Value).ownBlock) (.slice Ao31 t279.length co31) t279) ∧ Aside0 (Kd.R k48 48 wc w.heap.size (fun k_ => some k_ ≠ ((.slice Ao24 t247.length co24) : Value).ownBlock ∧ some k_ ≠ ((.slice Ao40 t264.length co40) : Value).ownBlock ∧ some k_ ≠ ((.slice Ao130 t297.length co130) : Value).ownBlock) (.slice Ao32 t280.length co32) t280) ∧ Aside0 (Kd.R (Kd.int .i64) 3 wc w.heap.size (fun k_ => some k_ ≠ ((.slice Ao23 t244.length co23) : Value).ownBlock ∧ some k_ ≠ ((.slice Ao31 t279.length co31) : Value).ownBlock ∧ some k_ ≠ ((.slice Ao129 t294.length co129) : Value).ownBlock) (.slice Ao39 t261.length co39) t283) ∧ Aside0 (Kd.R k48 48 wc w.heap.size (fun k_ => some k_ ≠ ((.slice Ao24 t247.length co24) : Value).ownBlock ∧ some k_ ≠ ((.slice Ao32 t280.length co32) : Value).ownBlock ∧ some k_ ≠ ((.slice Ao130 t297.length co130) : Value).ownBlock) (.slice Ao40 t264.length co40) t284) ∧ Aside0 (Kd.R (Kd.int .i64) 3 wc w.heap.size (fun k_ => some k_ ≠ ((.slice Ao23 t244.length co23) : Value).ownBlock ∧ some k_ ≠ ((.slice Ao31 t279.length co31) : Value).ownBlock ∧ some k_ ≠ ((.slice Ao39 t261.length co39) : Value).ownBlock) (.slice Ao129 t294.length co129) t294) ∧ Aside0 (Kd.R k48 48 wc w.heap.size (fun k_ => some k_ ≠ ((.slice Ao24 t247.length co24) : Value).ownBlock ∧ some k_ ≠ ((.slice Ao32 t280.length co32) : Value).ownBlock ∧ some k_ ≠ ((.slice Ao40 t264.length co40) : Value).ownBlock) (.slice Ao130 t297.length co130) t297) ∧ Aside0 (wc.heap[gb234]? = some (.cells #[.int .i64 a0_0, (.slice A0_1 l0_1.length c0_1), (.slice A0_2 l0_2.length c0_2)] 25 (0, 0))) ∧ Aside0 (wc.heap[gb251]? = some (.cells #[.int .i64 t243, (.slice Ao23 t244.length co23), (.slice Ao24 t247.length co24)] 30 (0, 0))) ∧ Aside0 (wc.heap[gb259]? = some (.cells #[.int .i64 t252, (.slice Ao31 t279.length co31), (.slice Ao32 t280.length co32)] 30 (0, 0))) ∧ Aside0 (wc.heap[gb268]? = some (.cells #[.int .i64 t260, (.slice Ao39 t261.length co39), (.slice Ao40 t264.length co40)] 30 (0, 0))) ∧ Aside0 (wc.heap[gb301]? = some (.cells #[.int .i64 t293, (.slice Ao129 t294.length co129), (.slice Ao130 t297.length co130)] 30 (0, 0))) ∧ Aside0 (Below w.heap.size w wc))
           case first =>
            have H := HC108.out
            clear HC108
            replace H := Option.bind_eq_some_iff.mp H
            obtain ⟨t302, A1310, H⟩ := H
            replace H : (if t302 = true then (laws_FnExactAdvance.j2 kj63 t282 (t300 != t250) t260 t283 t284) else (laws_FnExactAdvance.j2 kj63 t282 true t260 t283 t284)) = some r := H
            have A131 := Aside0.mk A1310
            clear A1310
            by_cases c132 : t302 = true
            ·subst c132
             have H1 : (laws_FnExactAdvance.j2 kj63 t282 (t300 != t250) t260 t283 t284) = some r := by rw [if_pos rfl] at H; exact H
             clear H
             have H := H1
             clear H1
             have H' := Aside0.mk H
             clear H
             have hnb133 := NB301_234.out
             have hnc133 := NB234_301.out
             have hnb134 := NB301_251.out
             have hnc134 := NB251_301.out
             have hnb135 := NB301_259.out
             have hnc135 := NB259_301.out
             have hnb136 := NB301_268.out
             have hnc136 := NB268_301.out
             have hcz137_0 : w123.cell? ⟨gb301, 0, none⟩ = some (.int .i64 0) := (blk_cell BK301.out 0).trans rfl
             have hcz137_1 : w123.cell? ⟨gb301, 1, none⟩ = some (.slice none 0 0) := (blk_cell BK301.out 1).trans rfl
             have hcz137_2 : w123.cell? ⟨gb301, 2, none⟩ = some (.slice none 0 0) := (blk_cell BK301.out 2).trans rfl
             have hfz137_0 := blk_frozen BK301.out 0
             have hfz137_1 := blk_frozen BK301.out 1
             have hfz137_2 := blk_frozen BK301.out 2
             have hnb138 := NB251_234.out
             have hnc138 := NB234_251.out
             have hnb139 := NB251_259.out
             have hnc139 := NB259_251.out
             have hnb140 := NB251_268.out
             have hnc140 := NB268_251.out
             have hcz141_0 : w123.cell? ⟨gb251, 0, none⟩ = some (.int .i64 t243) := (blk_cell BK251.out 0).trans rfl
             have hcz141_1 : w123.cell? ⟨gb251, 1, none⟩ = some (.slice Ao23 t244.length co23) := (blk_cell BK251.out 1).trans rfl
             have hcz141_2 : w123.cell? ⟨gb251, 2, none⟩ = some (.slice Ao24 t247.length co24) := (blk_cell BK251.out 2).trans rfl
             have hfz141_0 := blk_frozen BK251.out 0
             have hfz141_1 := blk_frozen BK251.out 1
             have hfz141_2 := blk_frozen BK251.out 2
             go_wp2_with (first | ((with_reducible refine gate_callee (f := 15) rfl ?_); refine goesL_ (some 81) rfl rfl Try.func15 (by kernel_rfl) rfl #[.agg #[.int .i64 t293, .slice Ao129 t294.length co129, .slice Ao130 t297.length co130], .agg #[.int .i64 t243, .slice Ao23 t244.length co23, .slice Ao24 t247.length co24]] rfl q9_4 ?_; (with_reducible refine (laws_eqAges.calls kj63 t293 _ _ t294 _ _ t297 t243 _ _ t244 _ _ t247 true _ ?side1 ?side2 ?side3 ?side4 ?side5 ?side6 ?side7 ?side8 A131.out).mono ?_); (case side1 => refine (Kd.R_reads' (e := 3) (base := w.heap.size) (ok := fun k_ => ((((True ∧ some k_ ≠ (.slice Ao23 t244.length co23 : Value).ownBlock) ∧ some k_ ≠ (.slice Ao31 t279.length co31 : Value).ownBlock) ∧ some k_ ≠ (.slice Ao39 t261.length co39 : Value).ownBlock) ∧ some k_ ≠ (.slice Ao120 t287.length co120 : Value).ownBlock)) (n := t294.length) (c := co129) ?_).2.2; exact q9_17); (case side2 => exact (Kd.R_reads' HO296.out).2.1); (case side3 => refine (Kd.R_reads' (e := 48) (base := w.heap.size) (ok := fun k_ => ((((True ∧ some k_ ≠ (.slice Ao24 t247.length co24 : Value).ownBlock) ∧ some k_ ≠ (.slice Ao32 t280.length co32 : Value).ownBlock) ∧ some k_ ≠ (.slice Ao40 t264.length co40 : Value).ownBlock) ∧ some k_ ≠ (.slice Ao121 t290.length co121 : Value).ownBlock)) (n := t297.length) (c := co130) ?_).2.2; exact q9_18); (case side4 => exact (Kd.R_reads' HO299.out).2.1); (case side5 => refine (Kd.R_reads' (e := 3) (base := w.heap.size) (ok := fun k_ => (((some k_ ≠ (.slice Ao31 t279.length co31 : Value).ownBlock ∧ some k_ ≠ (.slice Ao39 t261.length co39 : Value).ownBlock) ∧ some k_ ≠ (.slice Ao120 t287.length co120 : Value).ownBlock) ∧ some k_ ≠ (.slice Ao129 t294.length co129 : Value).ownBlock)) (n := t244.length) (c := co23) ?_).2.2; exact q9_15); (case side6 => exact (Kd.R_reads' HO_252001.out).2.1); (case side7 => refine (Kd.R_reads' (e := 48) (base := w.heap.size) (ok := fun k_ => (((some k_ ≠ (.slice Ao32 t280.length co32 : Value).ownBlock ∧ some k_ ≠ (.slice Ao40 t264.length co40 : Value).ownBlock) ∧ some k_ ≠ (.slice Ao121 t290.length co121 : Value).ownBlock) ∧ some k_ ≠ (.slice Ao130 t297.length co130 : Value).ownBlock)) (n := t247.length) (c := co24) ?_).2.2; exact q9_16); (case side8 => exact (Kd.R_reads' HO_252002.out).2.1); rintro e w142 ⟨rfl, hb⟩; refine ⟨_, rfl, ?_⟩; have n0_ := Aside0.mk (Kd.R_below q9_15 hb); have n1_ := Aside0.mk (Kd.R_below q9_16 hb); have n2_ := Aside0.mk (Kd.R_below q9_45 hb); have n3_ := Aside0.mk (Kd.R_below q9_46 hb); have n4_ := Aside0.mk (Kd.R_below q9_47 hb); have n5_ := Aside0.mk (Kd.R_below q9_48 hb); have n6_ := Aside0.mk (Kd.R_below q9_49 hb); have n7_ := Aside0.mk (Kd.R_below q9_50 hb); have n8_ := Aside0.mk (Kd.R_below q9_17 hb); have n9_ := Aside0.mk (Kd.R_below q9_18 hb); have n10_ := Aside0.mk (blk_below (g := gb234) (o := .cells #[.int .i64 a0_0, .slice A0_1 l0_1.length c0_1, .slice A0_2 l0_2.length c0_2] 25 (0, 0)) q9_38 hb); have n11_ := Aside0.mk (blk_below (g := gb251) (o := .cells #[.int .i64 t243, .slice Ao23 t244.length co23, .slice Ao24 t247.length co24] 30 (0, 0)) q9_39 hb); have n12_ := Aside0.mk (blk_below (g := gb259) (o := .cells #[.int .i64 t252, .slice Ao31 t279.length co31, .slice Ao32 t280.length co32] 30 (0, 0)) q9_40 hb); have n13_ := Aside0.mk (blk_below (g := gb268) (o := .cells #[.int .i64 t260, .slice Ao39 t261.length co39, .slice Ao40 t264.length co40] 30 (0, 0)) q9_41 hb); have n14_ := Aside0.mk (blk_below (g := gb301) (o := .cells #[.int .i64 t293, .slice Ao129 t294.length co129, .slice Ao130 t297.length co130] 30 (0, 0)) q9_31 hb); have n15_ := Aside0.mk (below_step q9_6 hb); clear HO_252001; clear HO_252002; clear HO_260001; clear HO_260002; clear HO_269001; clear HO_269002; clear HO289; clear HO292; clear HO296; clear HO299; clear BK234; clear BK251; clear BK259; clear BK268; clear BK301; clear HB; have HO_252001 := n0_; have HO_252002 := n1_; have HO_260001 := n2_; have HO_260002 := n3_; have HO_269001 := n4_; have HO_269002 := n5_; have HO289 := n6_; have HO292 := n7_; have HO296 := n8_; have HO299 := n9_; have BK234 := n10_; have BK251 := n11_; have BK259 := n12_; have BK268 := n13_; have BK301 := n14_; have HB := n15_; clear n0_ n1_ n2_ n3_ n4_ n5_ n6_ n7_ n8_ n9_ n10_ n11_ n12_ n13_ n14_ n15_; (try clear hb); (try clear hb2); (try clear hk); (try clear hi)))
             go_meet
             case rel => exact ⟨_, ((t300 != t250)), (by first | rfl | (simp; done) | (simp [*]; done)), H', ⟨by have := HJ10.out; have := HJ63.out; first | omega | exact Nat.le_refl _⟩, ⟨by (try simp only [hl260001_63]); (try simp only [hl260002_63]); (with_reducible repeat (first | apply Kd.R_alloc | apply Kd.R_drewN | apply Kd.R_drew)); exact Kd.R_mono HO_252001.out (fun _ hk => ⟨hk.1.1.1, ⟨hk.1.1.2, hk.2⟩⟩)⟩, ⟨by (try simp only [hl260001_63]); (try simp only [hl260002_63]); (with_reducible repeat (first | apply Kd.R_alloc | apply Kd.R_drewN | apply Kd.R_drew)); exact Kd.R_mono HO_252002.out (fun _ hk => ⟨hk.1.1.1, ⟨hk.1.1.2, hk.2⟩⟩)⟩, ⟨by (try simp only [hl260001_63]); (try simp only [hl260002_63]); (with_reducible repeat (first | apply Kd.R_alloc | apply Kd.R_drewN | apply Kd.R_drew)); exact Kd.R_mono HO_260001.out (fun _ hk => ⟨hk.1.1.1, ⟨hk.1.1.2, hk.2⟩⟩)⟩, ⟨by (try simp only [hl260001_63]); (try simp only [hl260002_63]); (with_reducible repeat (first | apply Kd.R_alloc | apply Kd.R_drewN | apply Kd.R_drew)); exact Kd.R_mono HO_260002.out (fun _ hk => ⟨hk.1.1.1, ⟨hk.1.1.2, hk.2⟩⟩)⟩, ⟨by (try simp only [hl260001_63]); (try simp only [hl260002_63]); (with_reducible repeat (first | apply Kd.R_alloc | apply Kd.R_drewN | apply Kd.R_drew)); exact Kd.R_mono HO_269001.out (fun _ hk => ⟨hk.1.1.1, ⟨hk.1.1.2, hk.2⟩⟩)⟩, ⟨by (try simp only [hl260001_63]); (try simp only [hl260002_63]); (with_reducible repeat (first | apply Kd.R_alloc | apply Kd.R_drewN | apply Kd.R_drew)); exact Kd.R_mono HO_269002.out (fun _ hk => ⟨hk.1.1.1, ⟨hk.1.1.2, hk.2⟩⟩)⟩, ⟨by (try simp only [hl260001_63]); (try simp only [hl260002_63]); (with_reducible repeat (first | apply Kd.R_alloc | apply Kd.R_drewN | apply Kd.R_drew)); exact Kd.R_mono HO296.out (fun _ hk => ⟨hk.1.1.1.2, ⟨hk.1.1.2, hk.1.2⟩⟩)⟩, ⟨by (try simp only [hl260001_63]); (try simp only [hl260002_63]); (with_reducible repeat (first | apply Kd.R_alloc | apply Kd.R_drewN | apply Kd.R_drew)); exact Kd.R_mono HO299.out (fun _ hk => ⟨hk.1.1.1.2, ⟨hk.1.1.2, hk.1.2⟩⟩)⟩, ⟨by (try simp only [hl260001_63]); (try simp only [hl260002_63]); (with_reducible repeat (first | refine blk_drewN ?_ _ | refine blk_drew ?_ | refine blk_alloc ?_ _)); exact BK234.out⟩, ⟨by (try simp only [hl260001_63]); (try simp only [hl260002_63]); (with_reducible repeat (first | refine blk_drewN ?_ _ | refine blk_drew ?_ | refine blk_alloc ?_ _)); exact BK251.out⟩, ⟨by (try simp only [hl260001_63]); (try simp only [hl260002_63]); (with_reducible repeat (first | refine blk_drewN ?_ _ | refine blk_drew ?_ | refine blk_alloc ?_ _)); exact BK259.out⟩, ⟨by (try simp only [hl260001_63]); (try simp only [hl260002_63]); (with_reducible repeat (first | refine blk_drewN ?_ _ | refine blk_drew ?_ | refine blk_alloc ?_ _)); exact BK268.out⟩, ⟨by (try simp only [hl260001_63]); (try simp only [hl260002_63]); (with_reducible repeat (first | refine blk_drewN ?_ _ | refine blk_drew ?_ | refine blk_alloc ?_ _)); exact BK301.out⟩, ⟨q9_6⟩⟩
            ·replace c132 := Bool.eq_false_iff.mpr c132
             subst c132
             have H1 : (laws_FnExactAdvance.j2 kj63 t282 true t260 t283 t284) = some r := by rw [if_neg (show ¬ (false = true) by decide)] at H; exact H
             clear H
             have H := H1
             clear H1
             have H' := Aside0.mk H
             clear H
             have hnb143 := NB301_234.out
             have hnc143 := NB234_301.out
             have hnb144 := NB301_251.out
             have hnc144 := NB251_301.out
             have hnb145 := NB301_259.out
             have hnc145 := NB259_301.out
             have hnb146 := NB301_268.out
             have hnc146 := NB268_301.out
             have hcz147_0 : w123.cell? ⟨gb301, 0, none⟩ = some (.int .i64 0) := (blk_cell BK301.out 0).trans rfl
             have hcz147_1 : w123.cell? ⟨gb301, 1, none⟩ = some (.slice none 0 0) := (blk_cell BK301.out 1).trans rfl
             have hcz147_2 : w123.cell? ⟨gb301, 2, none⟩ = some (.slice none 0 0) := (blk_cell BK301.out 2).trans rfl
             have hfz147_0 := blk_frozen BK301.out 0
             have hfz147_1 := blk_frozen BK301.out 1
             have hfz147_2 := blk_frozen BK301.out 2
             have hnb148 := NB251_234.out
             have hnc148 := NB234_251.out
             have hnb149 := NB251_259.out
             have hnc149 := NB259_251.out
             have hnb150 := NB251_268.out
             have hnc150 := NB268_251.out
             have hcz151_0 : w123.cell? ⟨gb251, 0, none⟩ = some (.int .i64 t243) := (blk_cell BK251.out 0).trans rfl
             have hcz151_1 : w123.cell? ⟨gb251, 1, none⟩ = some (.slice Ao23 t244.length co23) := (blk_cell BK251.out 1).trans rfl
             have hcz151_2 : w123.cell? ⟨gb251, 2, none⟩ = some (.slice Ao24 t247.length co24) := (blk_cell BK251.out 2).trans rfl
             have hfz151_0 := blk_frozen BK251.out 0
             have hfz151_1 := blk_frozen BK251.out 1
             have hfz151_2 := blk_frozen BK251.out 2
             go_wp2_with (first | ((with_reducible refine gate_callee (f := 15) rfl ?_); refine goesL_ (some 81) rfl rfl Try.func15 (by kernel_rfl) rfl #[.agg #[.int .i64 t293, .slice Ao129 t294.length co129, .slice Ao130 t297.length co130], .agg #[.int .i64 t243, .slice Ao23 t244.length co23, .slice Ao24 t247.length co24]] rfl q9_4 ?_; (with_reducible refine (laws_eqAges.calls kj63 t293 _ _ t294 _ _ t297 t243 _ _ t244 _ _ t247 false _ ?side1 ?side2 ?side3 ?side4 ?side5 ?side6 ?side7 ?side8 A131.out).mono ?_); (case side1 => refine (Kd.R_reads' (e := 3) (base := w.heap.size) (ok := fun k_ => ((((True ∧ some k_ ≠ (.slice Ao23 t244.length co23 : Value).ownBlock) ∧ some k_ ≠ (.slice Ao31 t279.length co31 : Value).ownBlock) ∧ some k_ ≠ (.slice Ao39 t261.length co39 : Value).ownBlock) ∧ some k_ ≠ (.slice Ao120 t287.length co120 : Value).ownBlock)) (n := t294.length) (c := co129) ?_).2.2; exact q9_17); (case side2 => exact (Kd.R_reads' HO296.out).2.1); (case side3 => refine (Kd.R_reads' (e := 48) (base := w.heap.size) (ok := fun k_ => ((((True ∧ some k_ ≠ (.slice Ao24 t247.length co24 : Value).ownBlock) ∧ some k_ ≠ (.slice Ao32 t280.length co32 : Value).ownBlock) ∧ some k_ ≠ (.slice Ao40 t264.length co40 : Value).ownBlock) ∧ some k_ ≠ (.slice Ao121 t290.length co121 : Value).ownBlock)) (n := t297.length) (c := co130) ?_).2.2; exact q9_18); (case side4 => exact (Kd.R_reads' HO299.out).2.1); (case side5 => refine (Kd.R_reads' (e := 3) (base := w.heap.size) (ok := fun k_ => (((some k_ ≠ (.slice Ao31 t279.length co31 : Value).ownBlock ∧ some k_ ≠ (.slice Ao39 t261.length co39 : Value).ownBlock) ∧ some k_ ≠ (.slice Ao120 t287.length co120 : Value).ownBlock) ∧ some k_ ≠ (.slice Ao129 t294.length co129 : Value).ownBlock)) (n := t244.length) (c := co23) ?_).2.2; exact q9_15); (case side6 => exact (Kd.R_reads' HO_252001.out).2.1); (case side7 => refine (Kd.R_reads' (e := 48) (base := w.heap.size) (ok := fun k_ => (((some k_ ≠ (.slice Ao32 t280.length co32 : Value).ownBlock ∧ some k_ ≠ (.slice Ao40 t264.length co40 : Value).ownBlock) ∧ some k_ ≠ (.slice Ao121 t290.length co121 : Value).ownBlock) ∧ some k_ ≠ (.slice Ao130 t297.length co130 : Value).ownBlock)) (n := t247.length) (c := co24) ?_).2.2; exact q9_16); (case side8 => exact (Kd.R_reads' HO_252002.out).2.1); rintro e w152 ⟨rfl, hb⟩; refine ⟨_, rfl, ?_⟩; have n0_ := Aside0.mk (Kd.R_below q9_15 hb); have n1_ := Aside0.mk (Kd.R_below q9_16 hb); have n2_ := Aside0.mk (Kd.R_below q9_45 hb); have n3_ := Aside0.mk (Kd.R_below q9_46 hb); have n4_ := Aside0.mk (Kd.R_below q9_47 hb); have n5_ := Aside0.mk (Kd.R_below q9_48 hb); have n6_ := Aside0.mk (Kd.R_below q9_49 hb); have n7_ := Aside0.mk (Kd.R_below q9_50 hb); have n8_ := Aside0.mk (Kd.R_below q9_17 hb); have n9_ := Aside0.mk (Kd.R_below q9_18 hb); have n10_ := Aside0.mk (blk_below (g := gb234) (o := .cells #[.int .i64 a0_0, .slice A0_1 l0_1.length c0_1, .slice A0_2 l0_2.length c0_2] 25 (0, 0)) q9_38 hb); have n11_ := Aside0.mk (blk_below (g := gb251) (o := .cells #[.int .i64 t243, .slice Ao23 t244.length co23, .slice Ao24 t247.length co24] 30 (0, 0)) q9_39 hb); have n12_ := Aside0.mk (blk_below (g := gb259) (o := .cells #[.int .i64 t252, .slice Ao31 t279.length co31, .slice Ao32 t280.length co32] 30 (0, 0)) q9_40 hb); have n13_ := Aside0.mk (blk_below (g := gb268) (o := .cells #[.int .i64 t260, .slice Ao39 t261.length co39, .slice Ao40 t264.length co40] 30 (0, 0)) q9_41 hb); have n14_ := Aside0.mk (blk_below (g := gb301) (o := .cells #[.int .i64 t293, .slice Ao129 t294.length co129, .slice Ao130 t297.length co130] 30 (0, 0)) q9_31 hb); have n15_ := Aside0.mk (below_step q9_6 hb); clear HO_252001; clear HO_252002; clear HO_260001; clear HO_260002; clear HO_269001; clear HO_269002; clear HO289; clear HO292; clear HO296; clear HO299; clear BK234; clear BK251; clear BK259; clear BK268; clear BK301; clear HB; have HO_252001 := n0_; have HO_252002 := n1_; have HO_260001 := n2_; have HO_260002 := n3_; have HO_269001 := n4_; have HO_269002 := n5_; have HO289 := n6_; have HO292 := n7_; have HO296 := n8_; have HO299 := n9_; have BK234 := n10_; have BK251 := n11_; have BK259 := n12_; have BK268 := n13_; have BK301 := n14_; have HB := n15_; clear n0_ n1_ n2_ n3_ n4_ n5_ n6_ n7_ n8_ n9_ n10_ n11_ n12_ n13_ n14_ n15_; (try clear hb); (try clear hb2); (try clear hk); (try clear hi)))
             go_meet
             case rel => exact ⟨_, (true), (by first | rfl | (simp; done) | (simp [*]; done)), H', ⟨by have := HJ10.out; have := HJ63.out; first | omega | exact Nat.le_refl _⟩, ⟨by (try simp only [hl260001_63]); (try simp only [hl260002_63]); (with_reducible repeat (first | apply Kd.R_alloc | apply Kd.R_drewN | apply Kd.R_drew)); exact Kd.R_mono HO_252001.out (fun _ hk => ⟨hk.1.1.1, ⟨hk.1.1.2, hk.2⟩⟩)⟩, ⟨by (try simp only [hl260001_63]); (try simp only [hl260002_63]); (with_reducible repeat (first | apply Kd.R_alloc | apply Kd.R_drewN | apply Kd.R_drew)); exact Kd.R_mono HO_252002.out (fun _ hk => ⟨hk.1.1.1, ⟨hk.1.1.2, hk.2⟩⟩)⟩, ⟨by (try simp only [hl260001_63]); (try simp only [hl260002_63]); (with_reducible repeat (first | apply Kd.R_alloc | apply Kd.R_drewN | apply Kd.R_drew)); exact Kd.R_mono HO_260001.out (fun _ hk => ⟨hk.1.1.1, ⟨hk.1.1.2, hk.2⟩⟩)⟩, ⟨by (try simp only [hl260001_63]); (try simp only [hl260002_63]); (with_reducible repeat (first | apply Kd.R_alloc | apply Kd.R_drewN | apply Kd.R_drew)); exact Kd.R_mono HO_260002.out (fun _ hk => ⟨hk.1.1.1, ⟨hk.1.1.2, hk.2⟩⟩)⟩, ⟨by (try simp only [hl260001_63]); (try simp only [hl260002_63]); (with_reducible repeat (first | apply Kd.R_alloc | apply Kd.R_drewN | apply Kd.R_drew)); exact Kd.R_mono HO_269001.out (fun _ hk => ⟨hk.1.1.1, ⟨hk.1.1.2, hk.2⟩⟩)⟩, ⟨by (try simp only [hl260001_63]); (try simp only [hl260002_63]); (with_reducible repeat (first | apply Kd.R_alloc | apply Kd.R_drewN | apply Kd.R_drew)); exact Kd.R_mono HO_269002.out (fun _ hk => ⟨hk.1.1.1, ⟨hk.1.1.2, hk.2⟩⟩)⟩, ⟨by (try simp only [hl260001_63]); (try simp only [hl260002_63]); (with_reducible repeat (first | apply Kd.R_alloc | apply Kd.R_drewN | apply Kd.R_drew)); exact Kd.R_mono HO296.out (fun _ hk => ⟨hk.1.1.1.2, ⟨hk.1.1.2, hk.1.2⟩⟩)⟩, ⟨by (try simp only [hl260001_63]); (try simp only [hl260002_63]); (with_reducible repeat (first | apply Kd.R_alloc | apply Kd.R_drewN | apply Kd.R_drew)); exact Kd.R_mono HO299.out (fun _ hk => ⟨hk.1.1.1.2, ⟨hk.1.1.2, hk.1.2⟩⟩)⟩, ⟨by (try simp only [hl260001_63]); (try simp only [hl260002_63]); (with_reducible repeat (first | refine blk_drewN ?_ _ | refine blk_drew ?_ | refine blk_alloc ?_ _)); exact BK234.out⟩, ⟨by (try simp only [hl260001_63]); (try simp only [hl260002_63]); (with_reducible repeat (first | refine blk_drewN ?_ _ | refine blk_drew ?_ | refine blk_alloc ?_ _)); exact BK251.out⟩, ⟨by (try simp only [hl260001_63]); (try simp only [hl260002_63]); (with_reducible repeat (first | refine blk_drewN ?_ _ | refine blk_drew ?_ | refine blk_alloc ?_ _)); exact BK259.out⟩, ⟨by (try simp only [hl260001_63]); (try simp only [hl260002_63]); (with_reducible repeat (first | refine blk_drewN ?_ _ | refine blk_drew ?_ | refine blk_alloc ?_ _)); exact BK268.out⟩, ⟨by (try simp only [hl260001_63]); (try simp only [hl260002_63]); (with_reducible repeat (first | refine blk_drewN ?_ _ | refine blk_drew ?_ | refine blk_alloc ?_ _)); exact BK301.out⟩, ⟨q9_6⟩⟩
           case rest =>
            clear HC108
            (try clear c1); (try clear c2); (try clear p2); (try clear c3); (try clear c3b0); (try clear c4); (try clear c5); (try clear c6); (try clear c7); (try clear c8); (try clear c9); (try clear c10); (try clear c11); (try clear c12); (try clear c13); (try clear c14); (try clear c15); (try clear c18); (try clear c19); (try clear c21); (try clear c26); (try clear c27); (try clear c28); (try clear c29); (try clear c35); (try clear c36); (try clear c37); (try clear c42); (try clear c43); (try clear c44); (try clear c45); (try clear c47); (try clear c48); (try clear c51); (try clear c52); (try clear c53); (try clear c55); (try clear c56); (try clear c59); (try clear c62); (try clear c70); (try clear c71); (try clear c72); (try clear c75); (try clear c75b0); (try clear c77); (try clear c78); (try clear c79); (try clear c80); (try clear c82); (try clear c83); (try clear c86); (try clear c87); (try clear c88); (try clear c90); (try clear c91); (try clear c94); (try clear c97); (try clear c97b0); (try clear c98); (try clear c99); (try clear c100); (try clear c105); (try clear c105b0); (try clear c105b1); (try clear c109); (try clear c110); (try clear c111); (try clear c116); (try clear c117); (try clear c124); (try clear c125); (try clear c126); (try clear c127); (try clear c132); (try clear c133); (try clear c134); (try clear c135); (try clear c136); (try clear c138); (try clear c139); (try clear c140); (try clear c143); (try clear c144); (try clear c145); (try clear c146); (try clear c148); (try clear c149); (try clear c150); (try clear hcz101_0); (try clear hcz101_1); (try clear hcz101_2); (try clear hcz103_0); (try clear hcz103_1); (try clear hcz103_2); (try clear hcz112_0); (try clear hcz112_1); (try clear hcz112_2); (try clear hcz114_0); (try clear hcz114_1); (try clear hcz114_2); (try clear hcz118_0); (try clear hcz118_1); (try clear hcz118_2); (try clear hcz128_0); (try clear hcz128_1); (try clear hcz128_2); (try clear hcz137_0); (try clear hcz137_1); (try clear hcz137_2); (try clear hcz13_0); (try clear hcz13_1); (try clear hcz13_2); (try clear hcz141_0); (try clear hcz141_1); (try clear hcz141_2); (try clear hcz147_0); (try clear hcz147_1); (try clear hcz147_2); (try clear hcz151_0); (try clear hcz151_1); (try clear hcz151_2); (try clear hcz15_0); (try clear hcz15_1); (try clear hcz15_2); (try clear hcz22_0); (try clear hcz22_1); (try clear hcz22_2); (try clear hcz25_0); (try clear hcz25_1); (try clear hcz25_2); (try clear hcz30_0); (try clear hcz30_1); (try clear hcz30_2); (try clear hcz38_0); (try clear hcz38_1); (try clear hcz38_2); (try clear hcz46_0); (try clear hcz46_1); (try clear hcz46_2); (try clear hcz49_0); (try clear hcz49_1); (try clear hcz49_2); (try clear hcz54_0); (try clear hcz54_1); (try clear hcz54_2); (try clear hcz57_0); (try clear hcz57_1); (try clear hcz57_2); (try clear hcz5_0); (try clear hcz5_1); (try clear hcz5_2); (try clear hcz73_0); (try clear hcz73_1); (try clear hcz73_2); (try clear hcz81_0); (try clear hcz81_1); (try clear hcz81_2); (try clear hcz84_0); (try clear hcz84_1); (try clear hcz84_2); (try clear hcz89_0); (try clear hcz89_1); (try clear hcz89_2); (try clear hcz92_0); (try clear hcz92_1); (try clear hcz92_2); (try clear hfz101_0); (try clear hfz101_1); (try clear hfz101_2); (try clear hfz103_0); (try clear hfz103_1); (try clear hfz103_2); (try clear hfz112_0); (try clear hfz112_1); (try clear hfz112_2); (try clear hfz114_0); (try clear hfz114_1); (try clear hfz114_2); (try clear hfz118_0); (try clear hfz118_1); (try clear hfz118_2); (try clear hfz128_0); (try clear hfz128_1); (try clear hfz128_2); (try clear hfz137_0); (try clear hfz137_1); (try clear hfz137_2); (try clear hfz13_0); (try clear hfz13_1); (try clear hfz13_2); (try clear hfz141_0); (try clear hfz141_1); (try clear hfz141_2); (try clear hfz147_0); (try clear hfz147_1); (try clear hfz147_2); (try clear hfz151_0); (try clear hfz151_1); (try clear hfz151_2); (try clear hfz15_0); (try clear hfz15_1); (try clear hfz15_2); (try clear hfz22_0); (try clear hfz22_1); (try clear hfz22_2); (try clear hfz25_0); (try clear hfz25_1); (try clear hfz25_2); (try clear hfz30_0); (try clear hfz30_1); (try clear hfz30_2); (try clear hfz38_0); (try clear hfz38_1); (try clear hfz38_2); (try clear hfz46_0); (try clear hfz46_1); (try clear hfz46_2); (try clear hfz49_0); (try clear hfz49_1); (try clear hfz49_2); (try clear hfz54_0); (try clear hfz54_1); (try clear hfz54_2); (try clear hfz57_0); (try clear hfz57_1); (try clear hfz57_2); (try clear hfz5_0); (try clear hfz5_1); (try clear hfz5_2); (try clear hfz73_0); (try clear hfz73_1); (try clear hfz73_2); (try clear hfz81_0); (try clear hfz81_1); (try clear hfz81_2); (try clear hfz84_0); (try clear hfz84_1); (try clear hfz84_2); (try clear hfz89_0); (try clear hfz89_1); (try clear hfz89_2); (try clear hfz92_0); (try clear hfz92_1); (try clear hfz92_2); (try clear p2)
            obtain ⟨kq, x87_107, rfl, HA, HJ107, HO_252001, HO_252002, HO_260001, HO_260002, HO_269001, HO_269002, HO_302001, HO_302002, BK234, BK251, BK259, BK268, BK301, HB⟩ := hcut
            have hl269001_107 := (Kd.R_reads' HO_269001.out).1
            rw [hl269001_107] at HO_269001
            (try simp only [hl269001_107])
            (try simp only [hl269001_107] at BK234)
            (try simp only [hl269001_107] at BK251)
            (try simp only [hl269001_107] at BK259)
            (try simp only [hl269001_107] at BK268)
            (try simp only [hl269001_107] at BK301)
            (try simp only [hl269001_107] at HO_252001)
            (try simp only [hl269001_107] at HO_252002)
            (try simp only [hl269001_107] at HO_260001)
            (try simp only [hl269001_107] at HO_260002)
            (try simp only [hl269001_107] at HO_269002)
            (try simp only [hl269001_107] at HO_302001)
            (try simp only [hl269001_107] at HO_302002)
            have hl269002_107 := (Kd.R_reads' HO_269002.out).1
            rw [hl269002_107] at HO_269002
            (try simp only [hl269002_107])
            (try simp only [hl269002_107] at BK234)
            (try simp only [hl269002_107] at BK251)
            (try simp only [hl269002_107] at BK259)
            (try simp only [hl269002_107] at BK268)
            (try simp only [hl269002_107] at BK301)
            (try simp only [hl269002_107] at HO_252001)
            (try simp only [hl269002_107] at HO_252002)
            (try simp only [hl269002_107] at HO_260001)
            (try simp only [hl269002_107] at HO_260002)
            (try simp only [hl269002_107] at HO_269001)
            (try simp only [hl269002_107] at HO_302001)
            (try simp only [hl269002_107] at HO_302002)
            cases kq with
            | zero => exact absurd HA.out (by simp [laws_FnExactAdvance.j2])
            | succ kj107 =>
             have H := HA.out
             clear HA
             simp only [laws_FnExactAdvance.j2] at H
             by_cases c153 : x87_107 = true
             ·subst c153
              have H1 : (some false) = some r := by rw [if_pos rfl] at H; exact H
              clear H
              have H := H1
              clear H1
              obtain rfl := Option.some.inj H
              go_wp2
              go_ret
              exact ⟨q9_30, q9_6⟩
             ·replace c153 := Bool.eq_false_iff.mpr c153
              subst c153
              have H1 : ((laws_heldAges.f kj107 t260 t283 t284 1).bind fun t303 => (if t303 < 0 then (some false) else (if t303 = t282 then (some true) else (some false)))) = some r := by rw [if_neg (show ¬ (false = true) by decide)] at H; exact H
              clear H
              have H := H1
              clear H1
              replace H := Option.bind_eq_some_iff.mp H
              obtain ⟨t303, A1540, H⟩ := H
              replace H : (if t303 < 0 then (some false) else (if t303 = t282 then (some true) else (some false))) = some r := H
              have A154 := Aside0.mk A1540
              clear A1540
              by_cases c155 : t303 < 0
              ·rw [if_pos c155] at H
               have c155b0 : decide (t303 < 0) = true := decide_eq_true c155
               clear c155
               obtain rfl := Option.some.inj H
               have hnb156 := NB268_234.out
               have hnc156 := NB234_268.out
               have hnb157 := NB268_251.out
               have hnc157 := NB251_268.out
               have hnb158 := NB268_259.out
               have hnc158 := NB259_268.out
               have hnb159 := NB268_301.out
               have hnc159 := NB301_268.out
               have hcz160_0 : wc.cell? ⟨gb268, 0, none⟩ = some (.int .i64 t260) := (blk_cell BK268.out 0).trans rfl
               have hcz160_1 : wc.cell? ⟨gb268, 1, none⟩ = some (.slice Ao39 t283.length co39) := (blk_cell BK268.out 1).trans rfl
               have hcz160_2 : wc.cell? ⟨gb268, 2, none⟩ = some (.slice Ao40 t284.length co40) := (blk_cell BK268.out 2).trans rfl
               have hfz160_0 := blk_frozen BK268.out 0
               have hfz160_1 := blk_frozen BK268.out 1
               have hfz160_2 := blk_frozen BK268.out 2
               go_wp2_with (first | ((with_reducible refine gate_callee (f := 19) rfl ?_); refine goesL_ (some 90) rfl rfl Try.func19 (by kernel_rfl) rfl #[.agg #[.int .i64 t260, .slice Ao39 t283.length co39, .slice Ao40 t284.length co40], .int .i64 1] rfl q9_4 ?_; (with_reducible refine (laws_heldAges.calls kj107 t260 _ _ t283 _ _ t284 1 t303 _ ?side1 ?side2 ?side3 ?side4 A154.out).mono ?_); (case side1 => exact q9_23); (case side2 => exact (Kd.R_reads' HO_269001.out).2.1); (case side3 => exact q9_24); (case side4 => exact (Kd.R_reads' HO_269002.out).2.1); rintro e w161 ⟨rfl, hb⟩; refine ⟨_, rfl, ?_⟩; have n0_ := Aside0.mk (Kd.R_below q9_7 hb); have n1_ := Aside0.mk (Kd.R_below q9_8 hb); have n2_ := Aside0.mk (Kd.R_below q9_9 hb); have n3_ := Aside0.mk (Kd.R_below q9_10 hb); have n4_ := Aside0.mk (Kd.R_below q9_11 hb); have n5_ := Aside0.mk (Kd.R_below q9_12 hb); have n6_ := Aside0.mk (Kd.R_below (by (with_reducible repeat (first | apply Kd.R_alloc | apply Kd.R_drewN | apply Kd.R_drew)); exact HO_302001.out) hb); have n7_ := Aside0.mk (Kd.R_below (by (with_reducible repeat (first | apply Kd.R_alloc | apply Kd.R_drewN | apply Kd.R_drew)); exact HO_302002.out) hb); have n8_ := Aside0.mk (blk_below (g := gb234) (o := .cells #[.int .i64 a0_0, .slice A0_1 l0_1.length c0_1, .slice A0_2 l0_2.length c0_2] 25 (0, 0)) q9_1 hb); have n9_ := Aside0.mk (blk_below (g := gb251) (o := .cells #[.int .i64 t243, .slice Ao23 t244.length co23, .slice Ao24 t247.length co24] 30 (0, 0)) q9_2 hb); have n10_ := Aside0.mk (blk_below (g := gb259) (o := .cells #[.int .i64 t252, .slice Ao31 t279.length co31, .slice Ao32 t280.length co32] 30 (0, 0)) q9_3 hb); have n11_ := Aside0.mk (blk_below (g := gb268) (o := .cells #[.int .i64 t260, .slice Ao39 t283.length co39, .slice Ao40 t284.length co40] 30 (0, 0)) q9_5 hb); have n12_ := Aside0.mk (blk_below (g := gb301) (o := .cells #[.int .i64 t293, .slice Ao129 t294.length co129, .slice Ao130 t297.length co130] 30 (0, 0)) (by (with_reducible repeat (first | refine blk_drewN ?_ _ | refine blk_drew ?_ | refine blk_alloc ?_ _)); exact BK301.out) hb); have n13_ := Aside0.mk (below_step q9_6 hb); clear HO_252001; clear HO_252002; clear HO_260001; clear HO_260002; clear HO_269001; clear HO_269002; clear HO_302001; clear HO_302002; clear BK234; clear BK251; clear BK259; clear BK268; clear BK301; clear HB; have HO_252001 := n0_; have HO_252002 := n1_; have HO_260001 := n2_; have HO_260002 := n3_; have HO_269001 := n4_; have HO_269002 := n5_; have HO_302001 := n6_; have HO_302002 := n7_; have BK234 := n8_; have BK251 := n9_; have BK259 := n10_; have BK268 := n11_; have BK301 := n12_; have HB := n13_; clear n0_ n1_ n2_ n3_ n4_ n5_ n6_ n7_ n8_ n9_ n10_ n11_ n12_ n13_; (try clear hb); (try clear hb2); (try clear hk); (try clear hi)))
               go_ret
               exact ⟨q9_30, q9_6⟩
              ·rw [if_neg c155] at H
               have c155b0 : decide (t303 < 0) = false := decide_eq_false c155
               clear c155
               by_cases c162 : t303 = t282
               ·rw [if_pos c162] at H
                have c162b0 : (t303 == t282) = true := beq_iff_eq.mpr c162
                have c162b1 : (t303 != t282) = false := bne_eq_false_iff_eq.mpr c162
                clear c162
                obtain rfl := Option.some.inj H
                have hnb163 := NB268_234.out
                have hnc163 := NB234_268.out
                have hnb164 := NB268_251.out
                have hnc164 := NB251_268.out
                have hnb165 := NB268_259.out
                have hnc165 := NB259_268.out
                have hnb166 := NB268_301.out
                have hnc166 := NB301_268.out
                have hcz167_0 : wc.cell? ⟨gb268, 0, none⟩ = some (.int .i64 t260) := (blk_cell BK268.out 0).trans rfl
                have hcz167_1 : wc.cell? ⟨gb268, 1, none⟩ = some (.slice Ao39 t283.length co39) := (blk_cell BK268.out 1).trans rfl
                have hcz167_2 : wc.cell? ⟨gb268, 2, none⟩ = some (.slice Ao40 t284.length co40) := (blk_cell BK268.out 2).trans rfl
                have hfz167_0 := blk_frozen BK268.out 0
                have hfz167_1 := blk_frozen BK268.out 1
                have hfz167_2 := blk_frozen BK268.out 2
                go_wp2_with (first | ((with_reducible refine gate_callee (f := 19) rfl ?_); refine goesL_ (some 90) rfl rfl Try.func19 (by kernel_rfl) rfl #[.agg #[.int .i64 t260, .slice Ao39 t283.length co39, .slice Ao40 t284.length co40], .int .i64 1] rfl q9_4 ?_; (with_reducible refine (laws_heldAges.calls kj107 t260 _ _ t283 _ _ t284 1 t303 _ ?side1 ?side2 ?side3 ?side4 A154.out).mono ?_); (case side1 => exact q9_23); (case side2 => exact (Kd.R_reads' HO_269001.out).2.1); (case side3 => exact q9_24); (case side4 => exact (Kd.R_reads' HO_269002.out).2.1); rintro e w168 ⟨rfl, hb⟩; refine ⟨_, rfl, ?_⟩; have n0_ := Aside0.mk (Kd.R_below q9_7 hb); have n1_ := Aside0.mk (Kd.R_below q9_8 hb); have n2_ := Aside0.mk (Kd.R_below q9_9 hb); have n3_ := Aside0.mk (Kd.R_below q9_10 hb); have n4_ := Aside0.mk (Kd.R_below q9_11 hb); have n5_ := Aside0.mk (Kd.R_below q9_12 hb); have n6_ := Aside0.mk (Kd.R_below (by (with_reducible repeat (first | apply Kd.R_alloc | apply Kd.R_drewN | apply Kd.R_drew)); exact HO_302001.out) hb); have n7_ := Aside0.mk (Kd.R_below (by (with_reducible repeat (first | apply Kd.R_alloc | apply Kd.R_drewN | apply Kd.R_drew)); exact HO_302002.out) hb); have n8_ := Aside0.mk (blk_below (g := gb234) (o := .cells #[.int .i64 a0_0, .slice A0_1 l0_1.length c0_1, .slice A0_2 l0_2.length c0_2] 25 (0, 0)) q9_1 hb); have n9_ := Aside0.mk (blk_below (g := gb251) (o := .cells #[.int .i64 t243, .slice Ao23 t244.length co23, .slice Ao24 t247.length co24] 30 (0, 0)) q9_2 hb); have n10_ := Aside0.mk (blk_below (g := gb259) (o := .cells #[.int .i64 t252, .slice Ao31 t279.length co31, .slice Ao32 t280.length co32] 30 (0, 0)) q9_3 hb); have n11_ := Aside0.mk (blk_below (g := gb268) (o := .cells #[.int .i64 t260, .slice Ao39 t283.length co39, .slice Ao40 t284.length co40] 30 (0, 0)) q9_5 hb); have n12_ := Aside0.mk (blk_below (g := gb301) (o := .cells #[.int .i64 t293, .slice Ao129 t294.length co129, .slice Ao130 t297.length co130] 30 (0, 0)) (by (with_reducible repeat (first | refine blk_drewN ?_ _ | refine blk_drew ?_ | refine blk_alloc ?_ _)); exact BK301.out) hb); have n13_ := Aside0.mk (below_step q9_6 hb); clear HO_252001; clear HO_252002; clear HO_260001; clear HO_260002; clear HO_269001; clear HO_269002; clear HO_302001; clear HO_302002; clear BK234; clear BK251; clear BK259; clear BK268; clear BK301; clear HB; have HO_252001 := n0_; have HO_252002 := n1_; have HO_260001 := n2_; have HO_260002 := n3_; have HO_269001 := n4_; have HO_269002 := n5_; have HO_302001 := n6_; have HO_302002 := n7_; have BK234 := n8_; have BK251 := n9_; have BK259 := n10_; have BK268 := n11_; have BK301 := n12_; have HB := n13_; clear n0_ n1_ n2_ n3_ n4_ n5_ n6_ n7_ n8_ n9_ n10_ n11_ n12_ n13_; (try clear hb); (try clear hb2); (try clear hk); (try clear hi)))
                go_ret
                exact ⟨q9_30, q9_6⟩
               ·rw [if_neg c162] at H
                have c162b0 : (t303 == t282) = false := beq_eq_false_iff_ne.mpr c162
                have c162b1 : (t303 != t282) = true := bne_iff_ne.mpr c162
                obtain rfl := Option.some.inj H
                have hnb169 := NB268_234.out
                have hnc169 := NB234_268.out
                have hnb170 := NB268_251.out
                have hnc170 := NB251_268.out
                have hnb171 := NB268_259.out
                have hnc171 := NB259_268.out
                have hnb172 := NB268_301.out
                have hnc172 := NB301_268.out
                have hcz173_0 : wc.cell? ⟨gb268, 0, none⟩ = some (.int .i64 t260) := (blk_cell BK268.out 0).trans rfl
                have hcz173_1 : wc.cell? ⟨gb268, 1, none⟩ = some (.slice Ao39 t283.length co39) := (blk_cell BK268.out 1).trans rfl
                have hcz173_2 : wc.cell? ⟨gb268, 2, none⟩ = some (.slice Ao40 t284.length co40) := (blk_cell BK268.out 2).trans rfl
                have hfz173_0 := blk_frozen BK268.out 0
                have hfz173_1 := blk_frozen BK268.out 1
                have hfz173_2 := blk_frozen BK268.out 2
                go_wp2_with (first | ((with_reducible refine gate_callee (f := 19) rfl ?_); refine goesL_ (some 90) rfl rfl Try.func19 (by kernel_rfl) rfl #[.agg #[.int .i64 t260, .slice Ao39 t283.length co39, .slice Ao40 t284.length co40], .int .i64 1] rfl q9_4 ?_; (with_reducible refine (laws_heldAges.calls kj107 t260 _ _ t283 _ _ t284 1 t303 _ ?side1 ?side2 ?side3 ?side4 A154.out).mono ?_); (case side1 => exact q9_23); (case side2 => exact (Kd.R_reads' HO_269001.out).2.1); (case side3 => exact q9_24); (case side4 => exact (Kd.R_reads' HO_269002.out).2.1); rintro e w174 ⟨rfl, hb⟩; refine ⟨_, rfl, ?_⟩; have n0_ := Aside0.mk (Kd.R_below q9_7 hb); have n1_ := Aside0.mk (Kd.R_below q9_8 hb); have n2_ := Aside0.mk (Kd.R_below q9_9 hb); have n3_ := Aside0.mk (Kd.R_below q9_10 hb); have n4_ := Aside0.mk (Kd.R_below q9_11 hb); have n5_ := Aside0.mk (Kd.R_below q9_12 hb); have n6_ := Aside0.mk (Kd.R_below (by (with_reducible repeat (first | apply Kd.R_alloc | apply Kd.R_drewN | apply Kd.R_drew)); exact HO_302001.out) hb); have n7_ := Aside0.mk (Kd.R_below (by (with_reducible repeat (first | apply Kd.R_alloc | apply Kd.R_drewN | apply Kd.R_drew)); exact HO_302002.out) hb); have n8_ := Aside0.mk (blk_below (g := gb234) (o := .cells #[.int .i64 a0_0, .slice A0_1 l0_1.length c0_1, .slice A0_2 l0_2.length c0_2] 25 (0, 0)) q9_1 hb); have n9_ := Aside0.mk (blk_below (g := gb251) (o := .cells #[.int .i64 t243, .slice Ao23 t244.length co23, .slice Ao24 t247.length co24] 30 (0, 0)) q9_2 hb); have n10_ := Aside0.mk (blk_below (g := gb259) (o := .cells #[.int .i64 t252, .slice Ao31 t279.length co31, .slice Ao32 t280.length co32] 30 (0, 0)) q9_3 hb); have n11_ := Aside0.mk (blk_below (g := gb268) (o := .cells #[.int .i64 t260, .slice Ao39 t283.length co39, .slice Ao40 t284.length co40] 30 (0, 0)) q9_5 hb); have n12_ := Aside0.mk (blk_below (g := gb301) (o := .cells #[.int .i64 t293, .slice Ao129 t294.length co129, .slice Ao130 t297.length co130] 30 (0, 0)) (by (with_reducible repeat (first | refine blk_drewN ?_ _ | refine blk_drew ?_ | refine blk_alloc ?_ _)); exact BK301.out) hb); have n13_ := Aside0.mk (below_step q9_6 hb); clear HO_252001; clear HO_252002; clear HO_260001; clear HO_260002; clear HO_269001; clear HO_269002; clear HO_302001; clear HO_302002; clear BK234; clear BK251; clear BK259; clear BK268; clear BK301; clear HB; have HO_252001 := n0_; have HO_252002 := n1_; have HO_260001 := n2_; have HO_260002 := n3_; have HO_269001 := n4_; have HO_269002 := n5_; have HO_302001 := n6_; have HO_302002 := n7_; have BK234 := n8_; have BK251 := n9_; have BK259 := n10_; have BK268 := n11_; have BK301 := n12_; have HB := n13_; clear n0_ n1_ n2_ n3_ n4_ n5_ n6_ n7_ n8_ n9_ n10_ n11_ n12_ n13_; (try clear hb); (try clear hb2); (try clear hk); (try clear hi)))
                go_ret
                exact ⟨q9_30, q9_6⟩
          ·rw [if_neg c105] at H
           have c105b0 : (t285 == t282) = false := beq_eq_false_iff_ne.mpr c105
           have c105b1 : (t285 != t282) = true := bne_iff_ne.mpr c105
           obtain rfl := Option.some.inj H
           have hnb175 := NB268_234.out
           have hnc175 := NB234_268.out
           have hnb176 := NB268_251.out
           have hnc176 := NB251_268.out
           have hnb177 := NB268_259.out
           have hnc177 := NB259_268.out
           have hcz178_0 : wc.cell? ⟨gb268, 0, none⟩ = some (.int .i64 t260) := (blk_cell BK268.out 0).trans rfl
           have hcz178_1 : wc.cell? ⟨gb268, 1, none⟩ = some (.slice Ao39 t261.length co39) := (blk_cell BK268.out 1).trans rfl
           have hcz178_2 : wc.cell? ⟨gb268, 2, none⟩ = some (.slice Ao40 t264.length co40) := (blk_cell BK268.out 2).trans rfl
           have hfz178_0 := blk_frozen BK268.out 0
           have hfz178_1 := blk_frozen BK268.out 1
           have hfz178_2 := blk_frozen BK268.out 2
           go_wp2_with (first | ((with_reducible refine gate_callee (f := 18) rfl ?_); refine goesL_ (some 64) rfl rfl Try.func18 (by kernel_rfl) rfl #[.agg #[.int .i64 t260, .slice Ao39 t261.length co39, .slice Ao40 t264.length co40], .int .i64 1] rfl q9_4 ?_; (with_reducible refine (laws_markAges.calls kj63 t260 (fun k_ => some k_ = (.slice Ao39 t261.length co39 : Value).ownBlock) (.slice Ao39 t261.length co39) t261 (fun k_ => some k_ = (.slice Ao40 t264.length co40 : Value).ownBlock) (.slice Ao40 t264.length co40) t264 1 t282 t283 t284 w _ ?side1 ?side2 ?side3 A95.out).mono ?_); (case side1 => exact q9_0); (case side2 => exact Kd.R_tight rfl HO_269001.out); (case side3 => exact Kd.R_tight rfl HO_269002.out); rintro e w179 ⟨rfl, hy0, hy1, hb, hkp⟩; refine ⟨_, rfl, ?_⟩; have n0_ := Aside0.mk (Kd.R_mono (ok' := fun k_ => some k_ ≠ (.slice Ao31 t279.length co31 : Value).ownBlock ∧ some k_ ≠ (.slice Ao39 t261.length co39 : Value).ownBlock) (Kd.R_keptB ((Kd.R_apart' HO_252001.out (Kd.R_typed HO_269002.out) q9_44)) hkp (fun k_ hk_ hs_ => Or.elim hs_ (fun e_ => (hk_.1.2) e_) (fun e_ => (hk_.2) e_))) (fun k_ hk_ => ⟨hk_.1.1.1, hk_.1.1.2⟩)); have n1_ := Aside0.mk (Kd.R_mono (ok' := fun k_ => some k_ ≠ (.slice Ao32 t280.length co32 : Value).ownBlock ∧ some k_ ≠ (.slice Ao40 t264.length co40 : Value).ownBlock) (Kd.R_keptB ((Kd.R_apart' HO_252002.out (Kd.R_typed HO_269001.out) q9_44)) hkp (fun k_ hk_ hs_ => Or.elim hs_ (fun e_ => (hk_.2) e_) (fun e_ => (hk_.1.2) e_))) (fun k_ hk_ => ⟨hk_.1.1.1, hk_.1.1.2⟩)); have n2_ := Aside0.mk (Kd.R_mono (ok' := fun k_ => some k_ ≠ (.slice Ao23 t244.length co23 : Value).ownBlock ∧ some k_ ≠ (.slice Ao39 t261.length co39 : Value).ownBlock) (Kd.R_keptB ((Kd.R_apart' HO_260001.out (Kd.R_typed HO_269002.out) q9_44)) hkp (fun k_ hk_ hs_ => Or.elim hs_ (fun e_ => (hk_.1.2) e_) (fun e_ => (hk_.2) e_))) (fun k_ hk_ => ⟨hk_.1.1.1, hk_.1.1.2⟩)); have n3_ := Aside0.mk (Kd.R_mono (ok' := fun k_ => some k_ ≠ (.slice Ao24 t247.length co24 : Value).ownBlock ∧ some k_ ≠ (.slice Ao40 t264.length co40 : Value).ownBlock) (Kd.R_keptB ((Kd.R_apart' HO_260002.out (Kd.R_typed HO_269001.out) q9_44)) hkp (fun k_ hk_ hs_ => Or.elim hs_ (fun e_ => (hk_.2) e_) (fun e_ => (hk_.1.2) e_))) (fun k_ hk_ => ⟨hk_.1.1.1, hk_.1.1.2⟩)); have n4_ := Aside0.mk (Kd.R_reok rfl hy0 (fun k_ e_ => HO_269001.out.1 k_ e_)); have n5_ := Aside0.mk (Kd.R_reok rfl hy1 (fun k_ e_ => HO_269002.out.1 k_ e_)); have n6_ := Aside0.mk (blk_kept q9_1 hkp (fun hs_ => Or.elim hs_ (fun e_ => (fun e_ => (Kd.R_ne HO_269001.out BK234.out q9_44) e_) e_) (fun e_ => (fun e_ => (Kd.R_ne HO_269002.out BK234.out q9_44) e_) e_))); have n7_ := Aside0.mk (blk_kept q9_2 hkp (fun hs_ => Or.elim hs_ (fun e_ => (fun e_ => (Kd.R_ne HO_269001.out BK251.out q9_44) e_) e_) (fun e_ => (fun e_ => (Kd.R_ne HO_269002.out BK251.out q9_44) e_) e_))); have n8_ := Aside0.mk (blk_kept q9_3 hkp (fun hs_ => Or.elim hs_ (fun e_ => (fun e_ => (Kd.R_ne HO_269001.out BK259.out q9_44) e_) e_) (fun e_ => (fun e_ => (Kd.R_ne HO_269002.out BK259.out q9_44) e_) e_))); have n9_ := Aside0.mk (blk_kept q9_5 hkp (fun hs_ => Or.elim hs_ (fun e_ => (fun e_ => (Kd.R_ne HO_269001.out BK268.out q9_44) e_) e_) (fun e_ => (fun e_ => (Kd.R_ne HO_269002.out BK268.out q9_44) e_) e_))); have n10_ := Aside0.mk (hb); clear HO_252001; clear HO_252002; clear HO_260001; clear HO_260002; clear HO_269001; clear HO_269002; clear BK234; clear BK251; clear BK259; clear BK268; clear HB; have HO_252001 := n0_; have HO_252002 := n1_; have HO_260001 := n2_; have HO_260002 := n3_; have HO_269001 := n4_; have HO_269002 := n5_; have BK234 := n6_; have BK251 := n7_; have BK259 := n8_; have BK268 := n9_; have HB := n10_; clear n0_ n1_ n2_ n3_ n4_ n5_ n6_ n7_ n8_ n9_ n10_; (try clear hb); (try clear hkp); (try clear hy0); (try clear hy1); have hcz180_0 : w179.cell? ⟨gb268, 0, none⟩ = some (.int .i64 t260) := (blk_cell BK268.out 0).trans rfl; have hcz180_1 : w179.cell? ⟨gb268, 1, none⟩ = some (.slice Ao39 t261.length co39) := (blk_cell BK268.out 1).trans rfl; have hcz180_2 : w179.cell? ⟨gb268, 2, none⟩ = some (.slice Ao40 t264.length co40) := (blk_cell BK268.out 2).trans rfl; have hfz180_0 := blk_frozen BK268.out 0; have hfz180_1 := blk_frozen BK268.out 1; have hfz180_2 := blk_frozen BK268.out 2) | ((with_reducible refine gate_callee (f := 19) rfl ?_); refine goesL_ (some 67) rfl rfl Try.func19 (by kernel_rfl) rfl #[.agg #[.int .i64 t260, .slice Ao39 t283.length co39, .slice Ao40 t284.length co40], .int .i64 1] rfl q9_34 ?_; (with_reducible refine (laws_heldAges.calls kj63 t260 _ _ t283 _ _ t284 1 t285 _ ?side1 ?side2 ?side3 ?side4 A96.out).mono ?_); (case side1 => exact q9_23); (case side2 => rw [show t283.length = t261.length from (Kd.R_reads' HO_269001.out).1.symm]; exact (Kd.R_reads' HO_269001.out).2.1); (case side3 => exact q9_24); (case side4 => rw [show t284.length = t264.length from (Kd.R_reads' HO_269002.out).1.symm]; exact (Kd.R_reads' HO_269002.out).2.1); rintro e w181 ⟨rfl, hb⟩; refine ⟨_, rfl, ?_⟩; have n0_ := Aside0.mk (Kd.R_below q9_7 hb); have n1_ := Aside0.mk (Kd.R_below q9_8 hb); have n2_ := Aside0.mk (Kd.R_below q9_9 hb); have n3_ := Aside0.mk (Kd.R_below q9_10 hb); have n4_ := Aside0.mk (Kd.R_below q9_11 hb); have n5_ := Aside0.mk (Kd.R_below q9_12 hb); have n6_ := Aside0.mk (blk_below (g := gb234) (o := .cells #[.int .i64 a0_0, .slice A0_1 l0_1.length c0_1, .slice A0_2 l0_2.length c0_2] 25 (0, 0)) q9_1 hb); have n7_ := Aside0.mk (blk_below (g := gb251) (o := .cells #[.int .i64 t243, .slice Ao23 t244.length co23, .slice Ao24 t247.length co24] 30 (0, 0)) q9_2 hb); have n8_ := Aside0.mk (blk_below (g := gb259) (o := .cells #[.int .i64 t252, .slice Ao31 t279.length co31, .slice Ao32 t280.length co32] 30 (0, 0)) q9_3 hb); have n9_ := Aside0.mk (blk_below (g := gb268) (o := .cells #[.int .i64 t260, .slice Ao39 t261.length co39, .slice Ao40 t264.length co40] 30 (0, 0)) q9_5 hb); have n10_ := Aside0.mk (below_step q9_0 hb); clear HO_252001; clear HO_252002; clear HO_260001; clear HO_260002; clear HO_269001; clear HO_269002; clear BK234; clear BK251; clear BK259; clear BK268; clear HB; have HO_252001 := n0_; have HO_252002 := n1_; have HO_260001 := n2_; have HO_260002 := n3_; have HO_269001 := n4_; have HO_269002 := n5_; have BK234 := n6_; have BK251 := n7_; have BK259 := n8_; have BK268 := n9_; have HB := n10_; clear n0_ n1_ n2_ n3_ n4_ n5_ n6_ n7_ n8_ n9_ n10_; (try clear hb); (try clear hb2); (try clear hk); (try clear hi)))
           go_ret
           exact ⟨q9_30, q9_0⟩
     ·replace c62 := Bool.eq_false_iff.mpr c62
      subst c62
      have H1 : (some false) = some r := by rw [if_neg (show ¬ (false = true) by decide)] at H; exact H
      clear H
      have H := H1
      clear H1
      obtain rfl := Option.some.inj H
      try go_wp2
      have n0_ := Aside0.mk (Kd.R_drew HO_252001.out)
      have n1_ := Aside0.mk (Kd.R_drew HO_252002.out)
      have n2_ := Aside0.mk (Kd.R_drew HO_260001.out)
      have n3_ := Aside0.mk (Kd.R_drew HO_260002.out)
      have n4_ := Aside0.mk (Kd.R_drew HO_269001.out)
      have n5_ := Aside0.mk (Kd.R_drew HO_269002.out)
      have n6_ := Aside0.mk (blk_drew BK234.out)
      have n7_ := Aside0.mk (blk_drew BK251.out)
      have n8_ := Aside0.mk (blk_drew BK259.out)
      have n9_ := Aside0.mk (blk_drew BK268.out)
      have n10_ := Aside0.mk (below_drew1 HB.out)
      clear HO_252001
      clear HO_252002
      clear HO_260001
      clear HO_260002
      clear HO_269001
      clear HO_269002
      clear BK234
      clear BK251
      clear BK259
      clear BK268
      clear HB
      have HO_252001 := n0_
      have HO_252002 := n1_
      have HO_260001 := n2_
      have HO_260002 := n3_
      have HO_269001 := n4_
      have HO_269002 := n5_
      have BK234 := n6_
      have BK251 := n7_
      have BK259 := n8_
      have BK268 := n9_
      have HB := n10_
      clear n0_ n1_ n2_ n3_ n4_ n5_ n6_ n7_ n8_ n9_ n10_
      refine start_ (n := 5) (S := fun w' => w'.cell? ⟨gb259, 0, none⟩ = some (.int .i64 t252) ∧ w'.cell? ⟨gb259, 1, none⟩ = some (.slice Ao31 t253.length co31) ∧ w'.cell? ⟨gb259, 2, none⟩ = some (.slice Ao32 t256.length co32) ∧ w'.cell? ⟨gb234, 0, none⟩ = some (.int .i64 a0_0) ∧ w'.cell? ⟨gb234, 1, none⟩ = some (.slice A0_1 l0_1.length c0_1) ∧ w'.cell? ⟨gb234, 2, none⟩ = some (.slice A0_2 l0_2.length c0_2)) (ds := []) #[F,F,F,F,F] (by kernel_rfl) rfl rfl ⟨(blk_cell BK259.out 0).trans rfl, (blk_cell BK259.out 1).trans rfl, (blk_cell BK259.out 2).trans rfl, (blk_cell BK234.out 0).trans rfl, (blk_cell BK234.out 1).trans rfl, (blk_cell BK234.out 2).trans rfl⟩ (fun hHeld => ?_)
      generalize wc.drew = w182 at HO_252001 HO_252002 HO_260001 HO_260002 HO_269001 HO_269002 BK234 BK251 BK259 BK268 HB hHeld ⊢
      refine take_ (i := 0) (N := some 41) (v := ?_) (a' := ?_) #[T,F,F,F,F] rfl rfl (by kernel_rfl) (fun _ _ _ h => h) (Or.inl ⟨by rfl, ?_⟩) hHeld ?_ ?_
      rotate_left
      ·rintro w' ⟨s0, s1, s2, s3, s4, s5⟩
       go_simp
       with_reducible rfl
      rotate_left
      ·simp only [Act.put, List.setIfInBounds_toArray, List.set_cons_zero, List.set_cons_succ, i64_w, i32_w]
       rfl
      refine take_ (i := 1) (N := some 42) (v := ?_) (a' := ?_) #[T,T,F,F,F] rfl rfl (by kernel_rfl) (fun _ _ _ h => h) (Or.inl ⟨by rfl, ?_⟩) hHeld ?_ ?_
      rotate_left
      ·rintro w' ⟨s0, s1, s2, s3, s4, s5⟩
       go_simp
       with_reducible rfl
      rotate_left
      ·simp only [Act.put, List.setIfInBounds_toArray, List.set_cons_zero, List.set_cons_succ, i64_w, i32_w]
       rfl
      refine one_ (i := 2) (N := some 43) #[T,T,T,F,F] rfl rfl (by kernel_rfl) q9_44 (fun K hK => ?_)
      refine goes_ Try.func13 (by kernel_rfl) rfl #[.agg #[.int .i64 a0_0, .slice A0_1 l0_1.length c0_1, .slice A0_2 l0_2.length c0_2]] (by rfl) rfl rfl q9_4 ?_
      with_reducible refine (laws_toAges.calls kj10 a0_0 _ _ l0_1 _ _ l0_2 t270 t271 t274 _ ?side1 ?side2 ?side3 ?side4 A60.out).mono ?_
      (case side1 => exact q9_26)
      (case side2 => exact HC0_1.out)
      (case side3 => exact q9_27)
      (case side4 => exact HC0_2.out)
      rintro e w183 ⟨v272, v275, rfl, ho0, ho1, hb⟩
      refine ⟨_, rfl, ?_⟩
      have n0_ := Aside0.mk (Kd.R_elder' q9_7 (Kd.R_base ho0) hb)
      have n1_ := Aside0.mk (Kd.R_elder' q9_8 (Kd.R_base ho1) hb)
      have n2_ := Aside0.mk (Kd.R_elder' q9_9 (Kd.R_base ho0) hb)
      have n3_ := Aside0.mk (Kd.R_elder' q9_10 (Kd.R_base ho1) hb)
      have n4_ := Aside0.mk (Kd.R_elder' q9_11 (Kd.R_base ho0) hb)
      have n5_ := Aside0.mk (Kd.R_elder' q9_12 (Kd.R_base ho1) hb)
      have n6_ := Aside0.mk (Kd.R_lower (Kd.R_new' (Kd.R_new' (Kd.R_new' ho0 (Kd.R_lt q9_7)) (Kd.R_lt q9_9)) (Kd.R_lt q9_11)) (below_size q9_0))
      have n7_ := Aside0.mk (Kd.R_lower (Kd.R_new' (Kd.R_new' (Kd.R_new' ho1 (Kd.R_lt q9_8)) (Kd.R_lt q9_10)) (Kd.R_lt q9_12)) (below_size q9_0))
      have n8_ := Aside0.mk (blk_below (g := gb234) (o := .cells #[.int .i64 a0_0, .slice A0_1 l0_1.length c0_1, .slice A0_2 l0_2.length c0_2] 25 (0, 0)) q9_1 hb)
      have n9_ := Aside0.mk (blk_below (g := gb251) (o := .cells #[.int .i64 t243, .slice Ao23 t244.length co23, .slice Ao24 t247.length co24] 30 (0, 0)) q9_2 hb)
      have n10_ := Aside0.mk (blk_below (g := gb259) (o := .cells #[.int .i64 t252, .slice Ao31 t253.length co31, .slice Ao32 t256.length co32] 30 (0, 0)) q9_3 hb)
      have n11_ := Aside0.mk (blk_below (g := gb268) (o := .cells #[.int .i64 t260, .slice Ao39 t261.length co39, .slice Ao40 t264.length co40] 30 (0, 0)) q9_5 hb)
      have n12_ := Aside0.mk (below_step q9_0 hb)
      clear HO_252001
      clear HO_252002
      clear HO_260001
      clear HO_260002
      clear HO_269001
      clear HO_269002
      clear BK234
      clear BK251
      clear BK259
      clear BK268
      clear HB
      have HO_252001 := n0_
      have HO_252002 := n1_
      have HO_260001 := n2_
      have HO_260002 := n3_
      have HO_269001 := n4_
      have HO_269002 := n5_
      have HO273 := n6_
      have HO276 := n7_
      have BK234 := n8_
      have BK251 := n9_
      have BK259 := n10_
      have BK268 := n11_
      have HB := n12_
      clear n0_ n1_ n2_ n3_ n4_ n5_ n6_ n7_ n8_ n9_ n10_ n11_ n12_
      (try clear hb)
      (try clear hb2)
      (try clear hk)
      (try clear hi)
      (try clear ho0)
      (try clear ho1)
      obtain ⟨Ao184, co184, eo184⟩ := Kd.R_slice HO273.out
      (first | subst eo184 | (injection eo184 with f1_ f2_ f3_; have f4_ := f1_.symm; have f5_ := f3_.symm; clear f1_ f2_ f3_; subst f4_; subst f5_))
      obtain ⟨Ao185, co185, eo185⟩ := Kd.R_slice HO276.out
      (first | subst eo185 | (injection eo185 with f1_ f2_ f3_; have f4_ := f1_.symm; have f5_ := f3_.symm; clear f1_ f2_ f3_; subst f4_; subst f5_))
      refine hK.out _ _ ⟨(blk_cell BK259.out 0).trans rfl, (blk_cell BK259.out 1).trans rfl, (blk_cell BK259.out 2).trans rfl, (blk_cell BK234.out 0).trans rfl, (blk_cell BK234.out 1).trans rfl, (blk_cell BK234.out 2).trans rfl⟩ (fun hHeld => ?_)
      clear hK K
      refine norm_ (a' := ?_) ?_ ?_
      rotate_left
      ·show Act.put _ (some 43) _ = _
       simp only [Act.put, List.setIfInBounds_toArray, List.set_cons_zero, List.set_cons_succ, i64_w, i32_w]
       rfl
      refine one_ (i := 3) (N := some 44) #[T,T,T,T,F] rfl rfl (by kernel_rfl) q9_44 (fun K hK => ?_)
      refine goes_ Try.func15 (by kernel_rfl) rfl #[.agg #[.int .i64 t252, .slice Ao31 t253.length co31, .slice Ao32 t256.length co32], .agg #[.int .i64 t270, .slice Ao184 t271.length co184, .slice Ao185 t274.length co185]] (by rfl) rfl rfl q9_4 ?_
      with_reducible refine (laws_eqAges.calls kj10 t252 _ _ t253 _ _ t256 t270 _ _ t271 _ _ t274 false _ ?side1 ?side2 ?side3 ?side4 ?side5 ?side6 ?side7 ?side8 A61.out).mono ?_
      (case side1 => repeat (first | exact (Kd.R_reads' HO_260001.out).2.2 | (with_reducible refine Kd.C_alloc ?_ _) | (with_reducible refine Kd.C_drewN ?_ _) | (with_reducible refine Kd.C_drew ?_)))
      (case side2 => exact (Kd.R_reads' HO_260001.out).2.1)
      (case side3 => repeat (first | exact (Kd.R_reads' HO_260002.out).2.2 | (with_reducible refine Kd.C_alloc ?_ _) | (with_reducible refine Kd.C_drewN ?_ _) | (with_reducible refine Kd.C_drew ?_)))
      (case side4 => exact (Kd.R_reads' HO_260002.out).2.1)
      (case side5 => repeat (first | exact (Kd.R_reads' HO273.out).2.2 | (with_reducible refine Kd.C_alloc ?_ _) | (with_reducible refine Kd.C_drewN ?_ _) | (with_reducible refine Kd.C_drew ?_)))
      (case side6 => exact (Kd.R_reads' HO273.out).2.1)
      (case side7 => repeat (first | exact (Kd.R_reads' HO276.out).2.2 | (with_reducible refine Kd.C_alloc ?_ _) | (with_reducible refine Kd.C_drewN ?_ _) | (with_reducible refine Kd.C_drew ?_)))
      (case side8 => exact (Kd.R_reads' HO276.out).2.1)
      rintro e w186 ⟨rfl, hb⟩
      refine ⟨_, rfl, ?_⟩
      have n0_ := Aside0.mk (Kd.R_below q9_7 hb)
      have n1_ := Aside0.mk (Kd.R_below q9_8 hb)
      have n2_ := Aside0.mk (Kd.R_below q9_9 hb)
      have n3_ := Aside0.mk (Kd.R_below q9_10 hb)
      have n4_ := Aside0.mk (Kd.R_below q9_11 hb)
      have n5_ := Aside0.mk (Kd.R_below q9_12 hb)
      have n6_ := Aside0.mk (Kd.R_below (by (with_reducible repeat (first | apply Kd.R_alloc | apply Kd.R_drewN | apply Kd.R_drew)); exact HO273.out) hb)
      have n7_ := Aside0.mk (Kd.R_below (by (with_reducible repeat (first | apply Kd.R_alloc | apply Kd.R_drewN | apply Kd.R_drew)); exact HO276.out) hb)
      have n8_ := Aside0.mk (blk_below (g := gb234) (o := .cells #[.int .i64 a0_0, .slice A0_1 l0_1.length c0_1, .slice A0_2 l0_2.length c0_2] 25 (0, 0)) q9_1 hb)
      have n9_ := Aside0.mk (blk_below (g := gb251) (o := .cells #[.int .i64 t243, .slice Ao23 t244.length co23, .slice Ao24 t247.length co24] 30 (0, 0)) q9_2 hb)
      have n10_ := Aside0.mk (blk_below (g := gb259) (o := .cells #[.int .i64 t252, .slice Ao31 t253.length co31, .slice Ao32 t256.length co32] 30 (0, 0)) q9_3 hb)
      have n11_ := Aside0.mk (blk_below (g := gb268) (o := .cells #[.int .i64 t260, .slice Ao39 t261.length co39, .slice Ao40 t264.length co40] 30 (0, 0)) q9_5 hb)
      have n12_ := Aside0.mk (below_step q9_0 hb)
      clear HO_252001
      clear HO_252002
      clear HO_260001
      clear HO_260002
      clear HO_269001
      clear HO_269002
      clear HO273
      clear HO276
      clear BK234
      clear BK251
      clear BK259
      clear BK268
      clear HB
      have HO_252001 := n0_
      have HO_252002 := n1_
      have HO_260001 := n2_
      have HO_260002 := n3_
      have HO_269001 := n4_
      have HO_269002 := n5_
      have HO273 := n6_
      have HO276 := n7_
      have BK234 := n8_
      have BK251 := n9_
      have BK259 := n10_
      have BK268 := n11_
      have HB := n12_
      clear n0_ n1_ n2_ n3_ n4_ n5_ n6_ n7_ n8_ n9_ n10_ n11_ n12_
      (try clear hb)
      (try clear hb2)
      (try clear hk)
      (try clear hi)
      refine hK.out _ _ ⟨(blk_cell BK259.out 0).trans rfl, (blk_cell BK259.out 1).trans rfl, (blk_cell BK259.out 2).trans rfl, (blk_cell BK234.out 0).trans rfl, (blk_cell BK234.out 1).trans rfl, (blk_cell BK234.out 2).trans rfl⟩ (fun hHeld => ?_)
      clear hK K
      refine norm_ (a' := ?_) ?_ ?_
      rotate_left
      ·show Act.put _ (some 44) _ = _
       simp only [Act.put, List.setIfInBounds_toArray, List.set_cons_zero, List.set_cons_succ, i64_w, i32_w]
       rfl
      refine pure_ (i := 4) (N := some 45) (v := ?_) (a' := ?_) #[T,T,T,T,T] rfl rfl (by kernel_rfl) (fun _ _ _ h => h) (Or.inl ⟨by rfl, ?_⟩) ?_ ?_
      rotate_left
      ·intro w'
       go_simp
       with_reducible rfl
      rotate_left
      ·simp only [Act.put, List.setIfInBounds_toArray, List.set_cons_zero, List.set_cons_succ, i64_w, i32_w]
       rfl
      refine done_ (by kernel_rfl) ?_
      try go_wp2
      go_ret
      exact ⟨q9_30, q9_0⟩

/-! What the arguments hold: each number fits, each length is one. -/
def wfT61 (x : S61) : Prop := (Lit.int .i64 x.f0).wf = true ∧ (Lit.int .i64 x.f1).wf = true
/-- THE ONE PURE STATEMENT of laws_FnExactAdvance. -/
def laws_FnExactAdvance.Pure : Prop := ∀ (a0_0 : Int) (l0_1 : List Int) (l0_2 : List (S61)), ((Lit.int .i64 a0_0).wf = true ∧ (l0_1.length ≤ maxLen ∧ ∀ x ∈ l0_1, (Lit.int .i64 x).wf = true) ∧ (l0_2.length ≤ maxLen ∧ ∀ x ∈ l0_2, wfT61 x)) → ∃ k, laws_FnExactAdvance.f k a0_0 l0_1 l0_2 = some true

end Go.Proofs.Ytlnjhgjjfplodaa.PFnExactAdvance
