-- Written by the session's own patched copy of the printer (wip/patch_print.py).
import Derived.Test.YtlnjhgjjfplodaaPFnExactRetirex0
import Derived.Test.YtlnjhgjjfplodaaPFnExactRetirex1
import Derived.Test.YtlnjhgjjfplodaaPFnExactRetirex2
import Derived.Test.YtlnjhgjjfplodaaPFnExactRetirex3
import Derived.Test.YtlnjhgjjfplodaaPFnExactRetirex5
import Derived.Test.YtlnjhgjjfplodaaPFnExactRetirex7
namespace Go.Proofs.Ytlnjhgjjfplodaa.PFnExactRetire
open Go.RowKit Go.Proofs.YtlnjhgjjfplodaaW.PrintWords Go.Proofs.YtlnjhgjjfplodaaW.PrintLast Go.Proofs.YtlnjhgjjfplodaaW.PrintMore
attribute [local go_sem] max2_int min2_int max_two min_two max_three min_three max_four min_four   -- for this text's walks alone
set_option linter.unusedVariables false
set_option linter.unusedSimpArgs false

open Bool renaming true → T, false → F
theorem q8_0 {p : Prop} (h : p := by repeat (first | (with_reducible first | exact HB.out | apply below_alloc | apply pw_below_drewN | apply below_drew1 | refine below_set ?_ GE240.out | refine below_set ?_ GE257.out | refine below_set ?_ GE265.out | refine below_set ?_ GE274.out) | exact HB.out)) : p := h
theorem q8_1 {p : Prop} (h : p := by (with_reducible repeat (first | refine blk_drewN ?_ _ | refine blk_drew ?_ | refine blk_alloc ?_ _)); exact BK240.out) : p := h
theorem q8_2 {p : Prop} (h : p := by (with_reducible repeat (first | refine blk_drewN ?_ _ | refine blk_drew ?_ | refine blk_alloc ?_ _)); exact BK257.out) : p := h
theorem q8_3 {p : Prop} (h : p := by (with_reducible repeat (first | refine blk_drewN ?_ _ | refine blk_drew ?_ | refine blk_alloc ?_ _)); exact BK265.out) : p := h
theorem q8_4 {p : Prop} (h : p := by (try simp only [List.map_toArray, List.map_cons, List.map_nil]); first | done | rfl | (simp only [List.length_drop, List.length_take]; rfl)) : p := h
theorem q8_5 {p : Prop} (h : p := by (with_reducible repeat (first | refine blk_drewN ?_ _ | refine blk_drew ?_ | refine blk_alloc ?_ _)); exact BK274.out) : p := h
theorem q8_6 {p : Prop} (h : p := by repeat (first | (with_reducible first | exact HB.out | apply below_alloc | apply pw_below_drewN | apply below_drew1 | refine below_set ?_ GE240.out | refine below_set ?_ GE257.out | refine below_set ?_ GE265.out | refine below_set ?_ GE274.out | refine below_set ?_ GE307.out) | exact HB.out)) : p := h
theorem q8_7 {p : Prop} (h : p := by (with_reducible repeat (first | apply Kd.R_alloc | apply Kd.R_drewN | apply Kd.R_drew)); exact HO_258001.out) : p := h
theorem q8_8 {p : Prop} (h : p := by (with_reducible repeat (first | apply Kd.R_alloc | apply Kd.R_drewN | apply Kd.R_drew)); exact HO_258002.out) : p := h
theorem q8_9 {p : Prop} (h : p := by (with_reducible repeat (first | apply Kd.R_alloc | apply Kd.R_drewN | apply Kd.R_drew)); exact HO_266001.out) : p := h
theorem q8_10 {p : Prop} (h : p := by (with_reducible repeat (first | apply Kd.R_alloc | apply Kd.R_drewN | apply Kd.R_drew)); exact HO_266002.out) : p := h
theorem q8_11 {p : Prop} (h : p := by (with_reducible repeat (first | apply Kd.R_alloc | apply Kd.R_drewN | apply Kd.R_drew)); exact HO_275001.out) : p := h
theorem q8_12 {p : Prop} (h : p := by (with_reducible repeat (first | apply Kd.R_alloc | apply Kd.R_drewN | apply Kd.R_drew)); exact HO_275002.out) : p := h
theorem q8_13 {p : Prop} (h : p := by repeat (first | (with_reducible first | exact HB.out | apply below_alloc | apply pw_below_drewN | apply below_drew1 | refine below_set ?_ GE240.out) | exact HB.out)) : p := h
theorem q8_14 {p : Prop} (h : p := by repeat (first | (with_reducible first | exact HB.out | apply below_alloc | apply pw_below_drewN | apply below_drew1 | refine below_set ?_ GE240.out | refine below_set ?_ GE257.out) | exact HB.out)) : p := h
theorem q8_15 {p : Prop} (h : p := by (with_reducible repeat (first | apply Kd.R_alloc | apply Kd.R_drewN | apply Kd.R_drew)); exact (Kd.R_mono (Kd.R_far (p := ⟨gb307, 2, none⟩) (Kd.R_far (p := ⟨gb307, 1, none⟩) (Kd.R_far (p := ⟨gb307, 0, none⟩) (Kd.R_types HO_258001.out BK307.out (by decide)) (fun _ hk => hk.2) (.int .i64 t299)) (fun _ hk => hk.2) (.slice Ao130 t300.length co130)) (fun _ hk => hk.2) (.slice Ao131 t303.length co131)) (fun _ h_ => h_.1))) : p := h
theorem q8_16 {p : Prop} (h : p := by (with_reducible repeat (first | apply Kd.R_alloc | apply Kd.R_drewN | apply Kd.R_drew)); exact (Kd.R_mono (Kd.R_far (p := ⟨gb307, 2, none⟩) (Kd.R_far (p := ⟨gb307, 1, none⟩) (Kd.R_far (p := ⟨gb307, 0, none⟩) (Kd.R_types HO_258002.out BK307.out (by decide)) (fun _ hk => hk.2) (.int .i64 t299)) (fun _ hk => hk.2) (.slice Ao130 t300.length co130)) (fun _ hk => hk.2) (.slice Ao131 t303.length co131)) (fun _ h_ => h_.1))) : p := h
theorem q8_17 {p : Prop} (h : p := by (with_reducible repeat (first | apply Kd.R_alloc | apply Kd.R_drewN | apply Kd.R_drew)); exact (Kd.R_mono (Kd.R_far (p := ⟨gb307, 2, none⟩) (Kd.R_far (p := ⟨gb307, 1, none⟩) (Kd.R_far (p := ⟨gb307, 0, none⟩) (Kd.R_types HO302.out BK307.out (by decide)) (fun _ hk => hk.2) (.int .i64 t299)) (fun _ hk => hk.2) (.slice Ao130 t300.length co130)) (fun _ hk => hk.2) (.slice Ao131 t303.length co131)) (fun _ h_ => h_.1))) : p := h
theorem q8_18 {p : Prop} (h : p := by (with_reducible repeat (first | apply Kd.R_alloc | apply Kd.R_drewN | apply Kd.R_drew)); exact (Kd.R_mono (Kd.R_far (p := ⟨gb307, 2, none⟩) (Kd.R_far (p := ⟨gb307, 1, none⟩) (Kd.R_far (p := ⟨gb307, 0, none⟩) (Kd.R_types HO305.out BK307.out (by decide)) (fun _ hk => hk.2) (.int .i64 t299)) (fun _ hk => hk.2) (.slice Ao130 t300.length co130)) (fun _ hk => hk.2) (.slice Ao131 t303.length co131)) (fun _ h_ => h_.1))) : p := h
theorem q8_19 {p : Prop} (h : p := by (with_reducible repeat (first | apply Kd.R_alloc | apply Kd.R_drewN | apply Kd.R_drew)); exact (Kd.R_mono (Kd.R_far (p := ⟨gb274, 2, none⟩) (Kd.R_far (p := ⟨gb274, 1, none⟩) (Kd.R_far (p := ⟨gb274, 0, none⟩) (Kd.R_types HO269.out BK274.out (by decide)) (fun _ hk => hk.2) (.int .i64 t266)) (fun _ hk => hk.2) (.slice Ao40 t267.length co40)) (fun _ hk => hk.2) (.slice Ao41 t270.length co41)) (fun _ h_ => h_.1))) : p := h
theorem q8_20 {p : Prop} (h : p := by (with_reducible repeat (first | apply Kd.R_alloc | apply Kd.R_drewN | apply Kd.R_drew)); exact (Kd.R_mono (Kd.R_far (p := ⟨gb274, 2, none⟩) (Kd.R_far (p := ⟨gb274, 1, none⟩) (Kd.R_far (p := ⟨gb274, 0, none⟩) (Kd.R_types HO272.out BK274.out (by decide)) (fun _ hk => hk.2) (.int .i64 t266)) (fun _ hk => hk.2) (.slice Ao40 t267.length co40)) (fun _ hk => hk.2) (.slice Ao41 t270.length co41)) (fun _ h_ => h_.1))) : p := h
theorem q8_21 {p : Prop} (h : p := by (with_reducible repeat (first | apply Kd.R_alloc | apply Kd.R_drewN | apply Kd.R_drew)); exact (Kd.R_mono (Kd.R_far (p := ⟨gb274, 2, none⟩) (Kd.R_far (p := ⟨gb274, 1, none⟩) (Kd.R_far (p := ⟨gb274, 0, none⟩) (Kd.R_types HO252.out BK274.out (by decide)) (fun _ hk => hk.2) (.int .i64 t266)) (fun _ hk => hk.2) (.slice Ao40 t267.length co40)) (fun _ hk => hk.2) (.slice Ao41 t270.length co41)) (fun _ h_ => h_.1))) : p := h
theorem q8_22 {p : Prop} (h : p := by (with_reducible repeat (first | apply Kd.R_alloc | apply Kd.R_drewN | apply Kd.R_drew)); exact (Kd.R_mono (Kd.R_far (p := ⟨gb274, 2, none⟩) (Kd.R_far (p := ⟨gb274, 1, none⟩) (Kd.R_far (p := ⟨gb274, 0, none⟩) (Kd.R_types HO255.out BK274.out (by decide)) (fun _ hk => hk.2) (.int .i64 t266)) (fun _ hk => hk.2) (.slice Ao40 t267.length co40)) (fun _ hk => hk.2) (.slice Ao41 t270.length co41)) (fun _ h_ => h_.1))) : p := h
theorem q8_23 {p : Prop} (h : p := by repeat (first | exact (Kd.R_reads' HO_275001.out).2.2 | (with_reducible refine Kd.C_alloc ?_ _) | (with_reducible refine Kd.C_drewN ?_ _) | (with_reducible refine Kd.C_drew ?_))) : p := h
theorem q8_24 {p : Prop} (h : p := by repeat (first | exact (Kd.R_reads' HO_275002.out).2.2 | (with_reducible refine Kd.C_alloc ?_ _) | (with_reducible refine Kd.C_drewN ?_ _) | (with_reducible refine Kd.C_drew ?_))) : p := h
theorem q8_25 {p : Prop} (h : p := by repeat (first | (with_reducible first | exact HB.out | apply below_alloc | apply pw_below_drewN | apply below_drew1 | refine below_set ?_ GE240.out | refine below_set ?_ GE257.out | refine below_set ?_ GE265.out) | exact HB.out)) : p := h
theorem q8_26 {p : Prop} (h : p := by repeat (first | exact (Kd.C_below HR0_1.out HB.out) | (with_reducible refine Kd.C_alloc ?_ _) | (with_reducible refine Kd.C_drewN ?_ _) | (with_reducible refine Kd.C_drew ?_))) : p := h
theorem q8_27 {p : Prop} (h : p := by repeat (first | exact (Kd.C_below HR0_2.out HB.out) | (with_reducible refine Kd.C_alloc ?_ _) | (with_reducible refine Kd.C_drewN ?_ _) | (with_reducible refine Kd.C_drew ?_))) : p := h
theorem q8_28 {p : Prop} (h : p := by (with_reducible repeat (first | apply Kd.R_alloc | apply Kd.R_drewN | apply Kd.R_drew)); exact (Kd.R_mono (Kd.R_far (p := ⟨gb265, 2, none⟩) (Kd.R_far (p := ⟨gb265, 1, none⟩) (Kd.R_far (p := ⟨gb265, 0, none⟩) (Kd.R_types HO261.out BK265.out (by decide)) (fun _ hk => hk.2) (.int .i64 t258)) (fun _ hk => hk.2) (.slice Ao32 t259.length co32)) (fun _ hk => hk.2) (.slice Ao33 t262.length co33)) (fun _ h_ => h_.1))) : p := h
theorem q8_29 {p : Prop} (h : p := by (with_reducible repeat (first | apply Kd.R_alloc | apply Kd.R_drewN | apply Kd.R_drew)); exact (Kd.R_mono (Kd.R_far (p := ⟨gb265, 2, none⟩) (Kd.R_far (p := ⟨gb265, 1, none⟩) (Kd.R_far (p := ⟨gb265, 0, none⟩) (Kd.R_types HO264.out BK265.out (by decide)) (fun _ hk => hk.2) (.int .i64 t258)) (fun _ hk => hk.2) (.slice Ao32 t259.length co32)) (fun _ hk => hk.2) (.slice Ao33 t262.length co33)) (fun _ h_ => h_.1))) : p := h
theorem q8_30 {p : Prop} (h : p := by first | rfl | (simp [errW_none, errW_some] <;> rfl) | (simp [*, errW_none, errW_some] <;> rfl)) : p := h
theorem q8_31 {p : Prop} (h : p := by (with_reducible repeat (first | refine blk_drewN ?_ _ | refine blk_drew ?_ | refine blk_alloc ?_ _)); refine blk_put (cs := #[.int .i64 t299, .slice Ao130 t300.length co130, .slice none 0 0]) ?_ 2 _ rfl; (with_reducible repeat (first | refine blk_drewN ?_ _ | refine blk_drew ?_ | refine blk_alloc ?_ _)); refine blk_put (cs := #[.int .i64 t299, .slice none 0 0, .slice none 0 0]) ?_ 1 _ rfl; (with_reducible repeat (first | refine blk_drewN ?_ _ | refine blk_drew ?_ | refine blk_alloc ?_ _)); refine blk_put (cs := #[.int .i64 0, .slice none 0 0, .slice none 0 0]) ?_ 0 _ rfl; (with_reducible repeat (first | refine blk_drewN ?_ _ | refine blk_drew ?_ | refine blk_alloc ?_ _)); exact BK307.out) : p := h
theorem q8_32 {p : Prop} (h : p := by (with_reducible repeat (first | refine blk_drewN ?_ _ | refine blk_drew ?_ | refine blk_alloc ?_ _)); refine blk_put (cs := #[.int .i64 t266, .slice Ao40 t267.length co40, .slice none 0 0]) ?_ 2 _ rfl; (with_reducible repeat (first | refine blk_drewN ?_ _ | refine blk_drew ?_ | refine blk_alloc ?_ _)); refine blk_put (cs := #[.int .i64 t266, .slice none 0 0, .slice none 0 0]) ?_ 1 _ rfl; (with_reducible repeat (first | refine blk_drewN ?_ _ | refine blk_drew ?_ | refine blk_alloc ?_ _)); refine blk_put (cs := #[.int .i64 0, .slice none 0 0, .slice none 0 0]) ?_ 0 _ rfl; (with_reducible repeat (first | refine blk_drewN ?_ _ | refine blk_drew ?_ | refine blk_alloc ?_ _)); exact BK274.out) : p := h
theorem q8_33 {p : Prop} (h : p := by repeat (first | (with_reducible first | exact HB.out | apply below_alloc | apply pw_below_drewN | apply below_drew1) | exact HB.out)) : p := h
theorem q8_34 {p : Prop} (h : p := by (try simp only [List.map_toArray, List.map_cons, List.map_nil]); first | done | (rw [show t289.length = t267.length from (Kd.R_reads' HO_275001.out).1.symm, show t290.length = t270.length from (Kd.R_reads' HO_275002.out).1.symm] <;> rfl) | rfl | (simp only [List.length_drop, List.length_take]; rfl)) : p := h
theorem q8_35 {p : Prop} (h : p := by (with_reducible repeat (first | refine blk_drewN ?_ _ | refine blk_drew ?_ | refine blk_alloc ?_ _)); refine blk_far ?_ NB240_274.out _; (with_reducible repeat (first | refine blk_drewN ?_ _ | refine blk_drew ?_ | refine blk_alloc ?_ _)); refine blk_far ?_ NB240_274.out _; (with_reducible repeat (first | refine blk_drewN ?_ _ | refine blk_drew ?_ | refine blk_alloc ?_ _)); refine blk_far ?_ NB240_274.out _; (with_reducible repeat (first | refine blk_drewN ?_ _ | refine blk_drew ?_ | refine blk_alloc ?_ _)); exact BK240.out) : p := h
theorem q8_36 {p : Prop} (h : p := by (with_reducible repeat (first | refine blk_drewN ?_ _ | refine blk_drew ?_ | refine blk_alloc ?_ _)); refine blk_far ?_ NB257_274.out _; (with_reducible repeat (first | refine blk_drewN ?_ _ | refine blk_drew ?_ | refine blk_alloc ?_ _)); refine blk_far ?_ NB257_274.out _; (with_reducible repeat (first | refine blk_drewN ?_ _ | refine blk_drew ?_ | refine blk_alloc ?_ _)); refine blk_far ?_ NB257_274.out _; (with_reducible repeat (first | refine blk_drewN ?_ _ | refine blk_drew ?_ | refine blk_alloc ?_ _)); exact BK257.out) : p := h
theorem q8_37 {p : Prop} (h : p := by (with_reducible repeat (first | refine blk_drewN ?_ _ | refine blk_drew ?_ | refine blk_alloc ?_ _)); refine blk_far ?_ NB265_274.out _; (with_reducible repeat (first | refine blk_drewN ?_ _ | refine blk_drew ?_ | refine blk_alloc ?_ _)); refine blk_far ?_ NB265_274.out _; (with_reducible repeat (first | refine blk_drewN ?_ _ | refine blk_drew ?_ | refine blk_alloc ?_ _)); refine blk_far ?_ NB265_274.out _; (with_reducible repeat (first | refine blk_drewN ?_ _ | refine blk_drew ?_ | refine blk_alloc ?_ _)); exact BK265.out) : p := h
theorem q8_38 {p : Prop} (h : p := by (with_reducible repeat (first | refine blk_drewN ?_ _ | refine blk_drew ?_ | refine blk_alloc ?_ _)); refine blk_far ?_ NB240_307.out _; (with_reducible repeat (first | refine blk_drewN ?_ _ | refine blk_drew ?_ | refine blk_alloc ?_ _)); refine blk_far ?_ NB240_307.out _; (with_reducible repeat (first | refine blk_drewN ?_ _ | refine blk_drew ?_ | refine blk_alloc ?_ _)); refine blk_far ?_ NB240_307.out _; (with_reducible repeat (first | refine blk_drewN ?_ _ | refine blk_drew ?_ | refine blk_alloc ?_ _)); exact BK240.out) : p := h
theorem q8_39 {p : Prop} (h : p := by (with_reducible repeat (first | refine blk_drewN ?_ _ | refine blk_drew ?_ | refine blk_alloc ?_ _)); refine blk_far ?_ NB257_307.out _; (with_reducible repeat (first | refine blk_drewN ?_ _ | refine blk_drew ?_ | refine blk_alloc ?_ _)); refine blk_far ?_ NB257_307.out _; (with_reducible repeat (first | refine blk_drewN ?_ _ | refine blk_drew ?_ | refine blk_alloc ?_ _)); refine blk_far ?_ NB257_307.out _; (with_reducible repeat (first | refine blk_drewN ?_ _ | refine blk_drew ?_ | refine blk_alloc ?_ _)); exact BK257.out) : p := h
theorem q8_40 {p : Prop} (h : p := by (with_reducible repeat (first | refine blk_drewN ?_ _ | refine blk_drew ?_ | refine blk_alloc ?_ _)); refine blk_far ?_ NB265_307.out _; (with_reducible repeat (first | refine blk_drewN ?_ _ | refine blk_drew ?_ | refine blk_alloc ?_ _)); refine blk_far ?_ NB265_307.out _; (with_reducible repeat (first | refine blk_drewN ?_ _ | refine blk_drew ?_ | refine blk_alloc ?_ _)); refine blk_far ?_ NB265_307.out _; (with_reducible repeat (first | refine blk_drewN ?_ _ | refine blk_drew ?_ | refine blk_alloc ?_ _)); exact BK265.out) : p := h
theorem q8_41 {p : Prop} (h : p := by (with_reducible repeat (first | refine blk_drewN ?_ _ | refine blk_drew ?_ | refine blk_alloc ?_ _)); refine blk_far ?_ NB274_307.out _; (with_reducible repeat (first | refine blk_drewN ?_ _ | refine blk_drew ?_ | refine blk_alloc ?_ _)); refine blk_far ?_ NB274_307.out _; (with_reducible repeat (first | refine blk_drewN ?_ _ | refine blk_drew ?_ | refine blk_alloc ?_ _)); refine blk_far ?_ NB274_307.out _; (with_reducible repeat (first | refine blk_drewN ?_ _ | refine blk_drew ?_ | refine blk_alloc ?_ _)); exact BK274.out) : p := h
theorem q8_42 {p : Prop} (h : p := by rw [hg]; exact Nat.ne_of_lt (blk_lt (g := gb240) (o := .cells #[.int .i64 a0_0, .slice A0_1 l0_1.length c0_1, .slice A0_2 l0_2.length c0_2] 25 (0, 0)) q8_1)) : p := h
theorem q8_43 {p : Prop} (h : p := by rw [hg]; exact Nat.ne_of_gt (blk_lt (g := gb240) (o := .cells #[.int .i64 a0_0, .slice A0_1 l0_1.length c0_1, .slice A0_2 l0_2.length c0_2] 25 (0, 0)) q8_1)) : p := h
theorem q8_44 {p : Prop} (h : p := by decide) : p := h
theorem q8_45 {p : Prop} (h : p := by (with_reducible repeat (first | apply Kd.R_alloc | apply Kd.R_drewN | apply Kd.R_drew)); exact (Kd.R_mono (Kd.R_far (p := ⟨gb307, 2, none⟩) (Kd.R_far (p := ⟨gb307, 1, none⟩) (Kd.R_far (p := ⟨gb307, 0, none⟩) (Kd.R_types HO_266001.out BK307.out q8_44) (fun _ hk => hk.2) (.int .i64 t299)) (fun _ hk => hk.2) (.slice Ao130 t300.length co130)) (fun _ hk => hk.2) (.slice Ao131 t303.length co131)) (fun _ h_ => h_.1))) : p := h
theorem q8_46 {p : Prop} (h : p := by (with_reducible repeat (first | apply Kd.R_alloc | apply Kd.R_drewN | apply Kd.R_drew)); exact (Kd.R_mono (Kd.R_far (p := ⟨gb307, 2, none⟩) (Kd.R_far (p := ⟨gb307, 1, none⟩) (Kd.R_far (p := ⟨gb307, 0, none⟩) (Kd.R_types HO_266002.out BK307.out q8_44) (fun _ hk => hk.2) (.int .i64 t299)) (fun _ hk => hk.2) (.slice Ao130 t300.length co130)) (fun _ hk => hk.2) (.slice Ao131 t303.length co131)) (fun _ h_ => h_.1))) : p := h
theorem q8_47 {p : Prop} (h : p := by (with_reducible repeat (first | apply Kd.R_alloc | apply Kd.R_drewN | apply Kd.R_drew)); exact (Kd.R_mono (Kd.R_far (p := ⟨gb307, 2, none⟩) (Kd.R_far (p := ⟨gb307, 1, none⟩) (Kd.R_far (p := ⟨gb307, 0, none⟩) (Kd.R_types HO_275001.out BK307.out q8_44) (fun _ hk => hk.2) (.int .i64 t299)) (fun _ hk => hk.2) (.slice Ao130 t300.length co130)) (fun _ hk => hk.2) (.slice Ao131 t303.length co131)) (fun _ h_ => h_.1))) : p := h
theorem q8_48 {p : Prop} (h : p := by (with_reducible repeat (first | apply Kd.R_alloc | apply Kd.R_drewN | apply Kd.R_drew)); exact (Kd.R_mono (Kd.R_far (p := ⟨gb307, 2, none⟩) (Kd.R_far (p := ⟨gb307, 1, none⟩) (Kd.R_far (p := ⟨gb307, 0, none⟩) (Kd.R_types HO_275002.out BK307.out q8_44) (fun _ hk => hk.2) (.int .i64 t299)) (fun _ hk => hk.2) (.slice Ao130 t300.length co130)) (fun _ hk => hk.2) (.slice Ao131 t303.length co131)) (fun _ h_ => h_.1))) : p := h
theorem q8_49 {p : Prop} (h : p := by (with_reducible repeat (first | apply Kd.R_alloc | apply Kd.R_drewN | apply Kd.R_drew)); exact (Kd.R_mono (Kd.R_far (p := ⟨gb307, 2, none⟩) (Kd.R_far (p := ⟨gb307, 1, none⟩) (Kd.R_far (p := ⟨gb307, 0, none⟩) (Kd.R_types HO295.out BK307.out q8_44) (fun _ hk => hk.2) (.int .i64 t299)) (fun _ hk => hk.2) (.slice Ao130 t300.length co130)) (fun _ hk => hk.2) (.slice Ao131 t303.length co131)) (fun _ h_ => h_.1))) : p := h
theorem q8_50 {p : Prop} (h : p := by (with_reducible repeat (first | apply Kd.R_alloc | apply Kd.R_drewN | apply Kd.R_drew)); exact (Kd.R_mono (Kd.R_far (p := ⟨gb307, 2, none⟩) (Kd.R_far (p := ⟨gb307, 1, none⟩) (Kd.R_far (p := ⟨gb307, 0, none⟩) (Kd.R_types HO298.out BK307.out q8_44) (fun _ hk => hk.2) (.int .i64 t299)) (fun _ hk => hk.2) (.slice Ao130 t300.length co130)) (fun _ hk => hk.2) (.slice Ao131 t303.length co131)) (fun _ h_ => h_.1))) : p := h
theorem q8_51 {p : Prop} (h : p := by (with_reducible repeat (first | apply Kd.R_alloc | apply Kd.R_drewN | apply Kd.R_drew)); exact (Kd.R_mono (Kd.R_far (p := ⟨gb257, 2, none⟩) (Kd.R_far (p := ⟨gb257, 1, none⟩) (Kd.R_far (p := ⟨gb257, 0, none⟩) (Kd.R_types HO245.out BK257.out q8_44) (fun _ hk => hk.2) (.int .i64 t249)) (fun _ hk => hk.2) (.slice Ao24 t250.length co24)) (fun _ hk => hk.2) (.slice Ao25 t253.length co25)) (fun _ h_ => h_.1))) : p := h
theorem q8_52 {p : Prop} (h : p := by (with_reducible repeat (first | apply Kd.R_alloc | apply Kd.R_drewN | apply Kd.R_drew)); exact (Kd.R_mono (Kd.R_far (p := ⟨gb257, 2, none⟩) (Kd.R_far (p := ⟨gb257, 1, none⟩) (Kd.R_far (p := ⟨gb257, 0, none⟩) (Kd.R_types HO248.out BK257.out q8_44) (fun _ hk => hk.2) (.int .i64 t249)) (fun _ hk => hk.2) (.slice Ao24 t250.length co24)) (fun _ hk => hk.2) (.slice Ao25 t253.length co25)) (fun _ h_ => h_.1))) : p := h
theorem q8_53 {p : Prop} (h : p := by (with_reducible repeat (first | apply Kd.R_alloc | apply Kd.R_drewN | apply Kd.R_drew)); exact (Kd.R_mono (Kd.R_far (p := ⟨gb257, 2, none⟩) (Kd.R_far (p := ⟨gb257, 1, none⟩) (Kd.R_far (p := ⟨gb257, 0, none⟩) (Kd.R_types HO252.out BK257.out q8_44) (fun _ hk => hk.2) (.int .i64 t249)) (fun _ hk => hk.2) (.slice Ao24 t250.length co24)) (fun _ hk => hk.2) (.slice Ao25 t253.length co25)) (fun _ h_ => h_.1))) : p := h
theorem q8_54 {p : Prop} (h : p := by (with_reducible repeat (first | apply Kd.R_alloc | apply Kd.R_drewN | apply Kd.R_drew)); exact (Kd.R_mono (Kd.R_far (p := ⟨gb257, 2, none⟩) (Kd.R_far (p := ⟨gb257, 1, none⟩) (Kd.R_far (p := ⟨gb257, 0, none⟩) (Kd.R_types HO255.out BK257.out q8_44) (fun _ hk => hk.2) (.int .i64 t249)) (fun _ hk => hk.2) (.slice Ao24 t250.length co24)) (fun _ hk => hk.2) (.slice Ao25 t253.length co25)) (fun _ h_ => h_.1))) : p := h
theorem q8_55 {p : Prop} (h : p := by (with_reducible repeat (first | apply Kd.R_alloc | apply Kd.R_drewN | apply Kd.R_drew)); exact (Kd.R_mono (Kd.R_far (p := ⟨gb265, 2, none⟩) (Kd.R_far (p := ⟨gb265, 1, none⟩) (Kd.R_far (p := ⟨gb265, 0, none⟩) (Kd.R_types HO245.out BK265.out q8_44) (fun _ hk => hk.2) (.int .i64 t258)) (fun _ hk => hk.2) (.slice Ao32 t259.length co32)) (fun _ hk => hk.2) (.slice Ao33 t262.length co33)) (fun _ h_ => h_.1))) : p := h
theorem q8_56 {p : Prop} (h : p := by (with_reducible repeat (first | apply Kd.R_alloc | apply Kd.R_drewN | apply Kd.R_drew)); exact (Kd.R_mono (Kd.R_far (p := ⟨gb265, 2, none⟩) (Kd.R_far (p := ⟨gb265, 1, none⟩) (Kd.R_far (p := ⟨gb265, 0, none⟩) (Kd.R_types HO248.out BK265.out q8_44) (fun _ hk => hk.2) (.int .i64 t258)) (fun _ hk => hk.2) (.slice Ao32 t259.length co32)) (fun _ hk => hk.2) (.slice Ao33 t262.length co33)) (fun _ h_ => h_.1))) : p := h
theorem q8_57 {p : Prop} (h : p := by (with_reducible repeat (first | apply Kd.R_alloc | apply Kd.R_drewN | apply Kd.R_drew)); exact (Kd.R_mono (Kd.R_far (p := ⟨gb265, 2, none⟩) (Kd.R_far (p := ⟨gb265, 1, none⟩) (Kd.R_far (p := ⟨gb265, 0, none⟩) (Kd.R_types HO252.out BK265.out q8_44) (fun _ hk => hk.2) (.int .i64 t258)) (fun _ hk => hk.2) (.slice Ao32 t259.length co32)) (fun _ hk => hk.2) (.slice Ao33 t262.length co33)) (fun _ h_ => h_.1))) : p := h
theorem q8_58 {p : Prop} (h : p := by (with_reducible repeat (first | apply Kd.R_alloc | apply Kd.R_drewN | apply Kd.R_drew)); exact (Kd.R_mono (Kd.R_far (p := ⟨gb265, 2, none⟩) (Kd.R_far (p := ⟨gb265, 1, none⟩) (Kd.R_far (p := ⟨gb265, 0, none⟩) (Kd.R_types HO255.out BK265.out q8_44) (fun _ hk => hk.2) (.int .i64 t258)) (fun _ hk => hk.2) (.slice Ao32 t259.length co32)) (fun _ hk => hk.2) (.slice Ao33 t262.length co33)) (fun _ h_ => h_.1))) : p := h
theorem q8_59 {p : Prop} (h : p := by (with_reducible repeat (first | apply Kd.R_alloc | apply Kd.R_drewN | apply Kd.R_drew)); exact (Kd.R_mono (Kd.R_far (p := ⟨gb274, 2, none⟩) (Kd.R_far (p := ⟨gb274, 1, none⟩) (Kd.R_far (p := ⟨gb274, 0, none⟩) (Kd.R_types HO245.out BK274.out q8_44) (fun _ hk => hk.2) (.int .i64 t266)) (fun _ hk => hk.2) (.slice Ao40 t267.length co40)) (fun _ hk => hk.2) (.slice Ao41 t270.length co41)) (fun _ h_ => h_.1))) : p := h
/-! ### laws_FnExactRetire: function 7 -/
mutual
def laws_FnExactRetire.j0 : Nat → Int → Bool → Bool → Bool → Int → List Int → List (S61) → Int → List Int → List (S48) → Int → List Int → List (S48) → Int → List Int → List (S48) → Option (Bool)
 | 0, _, _, _, _, _, _, _, _, _, _, _, _, _, _, _, _ => none
 | k + 1, x1, x7, x10, x44, x241000, x241001, x241002, x258000, x258001, x258002, x266000, x266001, x266002, x275000, x275001, x275002 => if x44 = true then (some false) else ((laws_toAges.f k x241000 x241001 x241002).bind fun bt276 => ((laws_eqAges.f k x266000 x266001 x266002 bt276.1 bt276.2.1 bt276.2.2).bind fun t283 => (if t283 = true then ((laws_markAges.f k x266000 x266001 x266002 1).bind fun bt284 => (if bt284.1 < 0 then (laws_FnExactRetire.j1 k x1 x7 true x241000 x241001 x241002 x258000 x258001 x258002 x275000 x275001 x275002) else ((laws_eqAges.f k x275000 x275001 x275002 x258000 x258001 x258002).bind fun t287 => (if t287 = true then (laws_FnExactRetire.j1 k x1 x7 (x10 != x7) x241000 x241001 x241002 x258000 x258001 x258002 x275000 x275001 x275002) else (laws_FnExactRetire.j1 k x1 x7 true x241000 x241001 x241002 x258000 x258001 x258002 x275000 x275001 x275002))))) else (some false))))
def laws_FnExactRetire.j1 : Nat → Int → Bool → Bool → Int → List Int → List (S61) → Int → List Int → List (S48) → Int → List Int → List (S48) → Option (Bool)
 | 0, _, _, _, _, _, _, _, _, _, _, _, _ => none
 | k + 1, x1, x7, x65, x241000, x241001, x241002, x258000, x258001, x258002, x275000, x275001, x275002 => if x65 = true then (some false) else ((laws_markAges.f k x275000 x275001 x275002 1).bind fun bt288 => ((laws_heldAges.f k x275000 bt288.2.1 bt288.2.2 1).bind fun t291 => (if t291 < 0 then (some false) else (if t291 = bt288.1 then ((laws_toAges.f k x241000 x241001 x241002).bind fun bt292 => ((impl_Retire.f k bt292.1 bt292.2.1 bt292.2.2 x1).bind fun bt299 => ((laws_eqAges.f k bt299.1 bt299.2.1 bt299.2.2.1 x258000 x258001 x258002).bind fun t308 => (if t308 = true then (laws_FnExactRetire.j2 k bt288.1 (bt299.2.2.2 != x7) x275000 bt288.2.1 bt288.2.2) else (laws_FnExactRetire.j2 k bt288.1 true x275000 bt288.2.1 bt288.2.2))))) else (some false)))))
def laws_FnExactRetire.j2 : Nat → Int → Bool → Int → List Int → List (S48) → Option (Bool)
 | 0, _, _, _, _, _ => none
 | k + 1, x12, x92, x275000, x275001, x275002 => if x92 = true then (some false) else ((laws_heldAges.f k x275000 x275001 x275002 1).bind fun t309 => (if t309 < 0 then (some false) else (if t309 = x12 then (some true) else (some false))))
end
def laws_FnExactRetire.f (k : Nat) (a0_0 : Int) (l0_1 : List Int) (l0_2 : List (S61)) (a1 : Int) : Option (Bool) := (laws_szAges.f a0_0 l0_1 l0_2 1048576).bind fun t241 => (if t241 < 0 then (some true) else ((laws_toAges.f k a0_0 l0_1 l0_2).bind fun bt242 => ((spec_Retire.f k bt242.1 bt242.2.1 bt242.2.2 a1).bind fun bt249 => ((laws_toAges.f k a0_0 l0_1 l0_2).bind fun bt258 => ((impl_Retire.f k bt258.1 bt258.2.1 bt258.2.2 a1).bind fun bt266 => ((laws_eqAges.f k bt266.1 bt266.2.1 bt266.2.2.1 bt249.1 bt249.2.1 bt249.2.2.1).bind fun t275 => (if t275 = true then (laws_FnExactRetire.j0 k a1 bt249.2.2.2 bt266.2.2.2 (bt266.2.2.2 != bt249.2.2.2) a0_0 l0_1 l0_2 bt249.1 bt249.2.1 bt249.2.2.1 bt258.1 bt258.2.1 bt258.2.2 bt266.1 bt266.2.1 bt266.2.2.1) else (laws_FnExactRetire.j0 k a1 bt249.2.2.2 bt266.2.2.2 true a0_0 l0_1 l0_2 bt249.1 bt249.2.1 bt249.2.2.1 bt258.1 bt258.2.1 bt258.2.2 bt266.1 bt266.2.1 bt266.2.2.1))))))))
theorem laws_FnExactRetire.mono_l : ∀ k, (∀ y0 y1 y2 y3 y4 y5 y6 y7 y8 y9 y10 y11 y12 y13 y14 y15, LeO (laws_FnExactRetire.j0 k y0 y1 y2 y3 y4 y5 y6 y7 y8 y9 y10 y11 y12 y13 y14 y15) (laws_FnExactRetire.j0 (k + 1) y0 y1 y2 y3 y4 y5 y6 y7 y8 y9 y10 y11 y12 y13 y14 y15)) ∧ (∀ y0 y1 y2 y3 y4 y5 y6 y7 y8 y9 y10 y11, LeO (laws_FnExactRetire.j1 k y0 y1 y2 y3 y4 y5 y6 y7 y8 y9 y10 y11) (laws_FnExactRetire.j1 (k + 1) y0 y1 y2 y3 y4 y5 y6 y7 y8 y9 y10 y11)) ∧ (∀ y0 y1 y2 y3 y4, LeO (laws_FnExactRetire.j2 k y0 y1 y2 y3 y4) (laws_FnExactRetire.j2 (k + 1) y0 y1 y2 y3 y4))
 | 0 => ⟨fun _ _ _ _ _ _ _ _ _ _ _ _ _ _ _ _ r h => by simp [laws_FnExactRetire.j0] at h, fun _ _ _ _ _ _ _ _ _ _ _ _ r h => by simp [laws_FnExactRetire.j1] at h, fun _ _ _ _ _ r h => by simp [laws_FnExactRetire.j2] at h⟩
 | k + 1 => by
  obtain ⟨ih0, ih1, ih2⟩ := laws_FnExactRetire.mono_l k
  refine ⟨?_, ?_, ?_⟩
  ·intro y0 y1 y2 y3 y4 y5 y6 y7 y8 y9 y10 y11 y12 y13 y14 y15
   unfold laws_FnExactRetire.j0
   repeat' first
   | (with_reducible exact ih0 _ _ _ _ _ _ _ _ _ _ _ _ _ _ _ _)
   | (with_reducible exact ih1 _ _ _ _ _ _ _ _ _ _ _ _)
   | (with_reducible exact ih2 _ _ _ _ _)
   | (with_reducible exact impl_Retire.mono _ _ _ _ _)
   | (with_reducible exact laws_eqAges.mono _ _ _ _ _ _ _)
   | (with_reducible exact laws_heldAges.mono _ _ _ _ _)
   | (with_reducible exact laws_markAges.mono _ _ _ _ _)
   | (with_reducible exact laws_toAges.mono _ _ _ _)
   | (with_reducible exact spec_Retire.mono _ _ _ _ _)
   | (with_reducible exact LeO.refl _)
   | (with_reducible exact LeO.none _)
   | (with_reducible refine LeO.ite ?_ ?_)
   | (with_reducible refine LeO.bind ?_ (fun _ => ?_))
   | exact ih0 _ _ _ _ _ _ _ _ _ _ _ _ _ _ _ _
   | exact ih1 _ _ _ _ _ _ _ _ _ _ _ _
   | exact ih2 _ _ _ _ _
   | exact impl_Retire.mono _ _ _ _ _
   | exact laws_eqAges.mono _ _ _ _ _ _ _
   | exact laws_heldAges.mono _ _ _ _ _
   | exact laws_markAges.mono _ _ _ _ _
   | exact laws_toAges.mono _ _ _ _
   | exact spec_Retire.mono _ _ _ _ _
   | exact LeO.none _
   | refine LeO.ite ?_ ?_
   | refine LeO.bind ?_ (fun _ => ?_)
  ·intro y0 y1 y2 y3 y4 y5 y6 y7 y8 y9 y10 y11
   unfold laws_FnExactRetire.j1
   repeat' first
   | (with_reducible exact ih0 _ _ _ _ _ _ _ _ _ _ _ _ _ _ _ _)
   | (with_reducible exact ih1 _ _ _ _ _ _ _ _ _ _ _ _)
   | (with_reducible exact ih2 _ _ _ _ _)
   | (with_reducible exact impl_Retire.mono _ _ _ _ _)
   | (with_reducible exact laws_eqAges.mono _ _ _ _ _ _ _)
   | (with_reducible exact laws_heldAges.mono _ _ _ _ _)
   | (with_reducible exact laws_markAges.mono _ _ _ _ _)
   | (with_reducible exact laws_toAges.mono _ _ _ _)
   | (with_reducible exact spec_Retire.mono _ _ _ _ _)
   | (with_reducible exact LeO.refl _)
   | (with_reducible exact LeO.none _)
   | (with_reducible refine LeO.ite ?_ ?_)
   | (with_reducible refine LeO.bind ?_ (fun _ => ?_))
   | exact ih0 _ _ _ _ _ _ _ _ _ _ _ _ _ _ _ _
   | exact ih1 _ _ _ _ _ _ _ _ _ _ _ _
   | exact ih2 _ _ _ _ _
   | exact impl_Retire.mono _ _ _ _ _
   | exact laws_eqAges.mono _ _ _ _ _ _ _
   | exact laws_heldAges.mono _ _ _ _ _
   | exact laws_markAges.mono _ _ _ _ _
   | exact laws_toAges.mono _ _ _ _
   | exact spec_Retire.mono _ _ _ _ _
   | exact LeO.none _
   | refine LeO.ite ?_ ?_
   | refine LeO.bind ?_ (fun _ => ?_)
  ·intro y0 y1 y2 y3 y4
   unfold laws_FnExactRetire.j2
   repeat' first
   | (with_reducible exact ih0 _ _ _ _ _ _ _ _ _ _ _ _ _ _ _ _)
   | (with_reducible exact ih1 _ _ _ _ _ _ _ _ _ _ _ _)
   | (with_reducible exact ih2 _ _ _ _ _)
   | (with_reducible exact impl_Retire.mono _ _ _ _ _)
   | (with_reducible exact laws_eqAges.mono _ _ _ _ _ _ _)
   | (with_reducible exact laws_heldAges.mono _ _ _ _ _)
   | (with_reducible exact laws_markAges.mono _ _ _ _ _)
   | (with_reducible exact laws_toAges.mono _ _ _ _)
   | (with_reducible exact spec_Retire.mono _ _ _ _ _)
   | (with_reducible exact LeO.refl _)
   | (with_reducible exact LeO.none _)
   | (with_reducible refine LeO.ite ?_ ?_)
   | (with_reducible refine LeO.bind ?_ (fun _ => ?_))
   | exact ih0 _ _ _ _ _ _ _ _ _ _ _ _ _ _ _ _
   | exact ih1 _ _ _ _ _ _ _ _ _ _ _ _
   | exact ih2 _ _ _ _ _
   | exact impl_Retire.mono _ _ _ _ _
   | exact laws_eqAges.mono _ _ _ _ _ _ _
   | exact laws_heldAges.mono _ _ _ _ _
   | exact laws_markAges.mono _ _ _ _ _
   | exact laws_toAges.mono _ _ _ _
   | exact spec_Retire.mono _ _ _ _ _
   | exact LeO.none _
   | refine LeO.ite ?_ ?_
   | refine LeO.bind ?_ (fun _ => ?_)
theorem laws_FnExactRetire.mono : ∀ a0 a1 a2 a3 k, LeO (laws_FnExactRetire.f k a0 a1 a2 a3) (laws_FnExactRetire.f (k + 1) a0 a1 a2 a3) := by
 intro a0 a1 a2 a3 k
 obtain ⟨ih0, ih1, ih2⟩ := laws_FnExactRetire.mono_l k
 unfold laws_FnExactRetire.f
 repeat' first
   | (with_reducible exact ih0 _ _ _ _ _ _ _ _ _ _ _ _ _ _ _ _)
   | (with_reducible exact ih1 _ _ _ _ _ _ _ _ _ _ _ _)
   | (with_reducible exact ih2 _ _ _ _ _)
   | (with_reducible exact impl_Retire.mono _ _ _ _ _)
   | (with_reducible exact laws_eqAges.mono _ _ _ _ _ _ _)
   | (with_reducible exact laws_heldAges.mono _ _ _ _ _)
   | (with_reducible exact laws_markAges.mono _ _ _ _ _)
   | (with_reducible exact laws_toAges.mono _ _ _ _)
   | (with_reducible exact spec_Retire.mono _ _ _ _ _)
   | (with_reducible exact LeO.refl _)
   | (with_reducible exact LeO.none _)
   | (with_reducible refine LeO.ite ?_ ?_)
   | (with_reducible refine LeO.bind ?_ (fun _ => ?_))
   | exact ih0 _ _ _ _ _ _ _ _ _ _ _ _ _ _ _ _
   | exact ih1 _ _ _ _ _ _ _ _ _ _ _ _
   | exact ih2 _ _ _ _ _
   | exact impl_Retire.mono _ _ _ _ _
   | exact laws_eqAges.mono _ _ _ _ _ _ _
   | exact laws_heldAges.mono _ _ _ _ _
   | exact laws_markAges.mono _ _ _ _ _
   | exact laws_toAges.mono _ _ _ _
   | exact spec_Retire.mono _ _ _ _ _
   | exact LeO.none _
   | refine LeO.ite ?_ ?_
   | refine LeO.bind ?_ (fun _ => ?_)
set_option maxHeartbeats 8000000 in
set_option maxRecDepth 100000 in
theorem laws_FnExactRetire.calls (k : Nat) (a0_0 : Int) (A0_1 : Option Addr) (c0_1 : Nat) (l0_1 : List Int) (A0_2 : Option Addr) (c0_2 : Nat) (l0_2 : List (S61)) (a1 : Int) (r : Bool) (w : World) (hr0_1 : Kd.C (Kd.int .i64) w A0_1 l0_1.length l0_1) (hc0_1 : l0_1.length ≤ c0_1) (hr0_2 : Kd.C k61 w A0_2 l0_2.length l0_2) (hc0_2 : l0_2.length ≤ c0_2) (h : laws_FnExactRetire.f k a0_0 l0_1 l0_2 a1 = some r) :
  Calls Try.prog 7 #[.agg #[.int .i64 a0_0, .slice A0_1 l0_1.length c0_1, .slice A0_2 l0_2.length c0_2], .int .i64 a1] w fun e w' => e = .returned (.bool r) ∧ Below w.heap.size w w' := by
 have hu25 := Try.underlying25
 have hu30 := Try.underlying30
 have HR0_1 := Aside0.mk hr0_1
 have HC0_1 := Aside0.mk hc0_1
 clear hr0_1 hc0_1
 have HR0_2 := Aside0.mk hr0_2
 have HC0_2 := Aside0.mk hc0_2
 clear hr0_2 hc0_2
 have HB := Aside0.mk (Below.refl w.heap.size w)
 have H : ((laws_szAges.f a0_0 l0_1 l0_2 1048576).bind fun t241 => (if t241 < 0 then (some true) else ((laws_toAges.f k a0_0 l0_1 l0_2).bind fun bt242 => ((spec_Retire.f k bt242.1 bt242.2.1 bt242.2.2 a1).bind fun bt249 => ((laws_toAges.f k a0_0 l0_1 l0_2).bind fun bt258 => ((impl_Retire.f k bt258.1 bt258.2.1 bt258.2.2 a1).bind fun bt266 => ((laws_eqAges.f k bt266.1 bt266.2.1 bt266.2.2.1 bt249.1 bt249.2.1 bt249.2.2.1).bind fun t275 => (if t275 = true then (laws_FnExactRetire.j0 k a1 bt249.2.2.2 bt266.2.2.2 (bt266.2.2.2 != bt249.2.2.2) a0_0 l0_1 l0_2 bt249.1 bt249.2.1 bt249.2.2.1 bt258.1 bt258.2.1 bt258.2.2 bt266.1 bt266.2.1 bt266.2.2.1) else (laws_FnExactRetire.j0 k a1 bt249.2.2.2 bt266.2.2.2 true a0_0 l0_1 l0_2 bt249.1 bt249.2.1 bt249.2.2.1 bt258.1 bt258.2.1 bt258.2.2 bt266.1 bt266.2.1 bt266.2.2.1))))))))) = some r := h
 clear h
 replace H := Option.bind_eq_some_iff.mp H
 obtain ⟨t241, A30, H⟩ := H
 replace H : (if t241 < 0 then (some true) else ((laws_toAges.f k a0_0 l0_1 l0_2).bind fun bt242 => ((spec_Retire.f k bt242.1 bt242.2.1 bt242.2.2 a1).bind fun bt249 => ((laws_toAges.f k a0_0 l0_1 l0_2).bind fun bt258 => ((impl_Retire.f k bt258.1 bt258.2.1 bt258.2.2 a1).bind fun bt266 => ((laws_eqAges.f k bt266.1 bt266.2.1 bt266.2.2.1 bt249.1 bt249.2.1 bt249.2.2.1).bind fun t275 => (if t275 = true then (laws_FnExactRetire.j0 k a1 bt249.2.2.2 bt266.2.2.2 (bt266.2.2.2 != bt249.2.2.2) a0_0 l0_1 l0_2 bt249.1 bt249.2.1 bt249.2.2.1 bt258.1 bt258.2.1 bt258.2.2 bt266.1 bt266.2.1 bt266.2.2.1) else (laws_FnExactRetire.j0 k a1 bt249.2.2.2 bt266.2.2.2 true a0_0 l0_1 l0_2 bt249.1 bt249.2.1 bt249.2.2.1 bt258.1 bt258.2.1 bt258.2.2 bt266.1 bt266.2.1 bt266.2.2.1)))))))) = some r := H
 have A3 := Aside0.mk A30
 clear A30
 by_cases c4 : t241 < 0
 ·rw [if_pos c4] at H
  have c4b0 : decide (t241 < 0) = true := decide_eq_true c4
  clear c4
  obtain rfl := Option.some.inj H
  go_enter Try.func7, Try.ntmps7
  go_wp2_with (first | ((with_reducible refine gate_dst (N := 2) rfl ?_); refine box_event ?hg (N := 2) ?hd (cs := #[.int .i64 a0_0, .slice A0_1 l0_1.length c0_1, .slice A0_2 l0_2.length c0_2]) (t := 25) ?hr ?_; (case hd => rfl); (case hg => rfl); (case hr => first | (go_simp; done) | (go_simp; rfl)); intro gb240 hg w5 hbox hb; have n0_ := Aside0.mk (below_step q8_33 hb); have n1_ := Aside0.mk (hbox); have n2_ := Aside0.mk ((by rw [hg]; exact (below_size q8_33) : w.heap.size ≤ gb240)); have n3_ := Aside0.mk ((by rw [hg]; exact (below_size q8_33) : w.heap.size ≤ gb240)); clear HB; have HB := n0_; have BK240 := n1_; have GW240 := n2_; have GE240 := n3_; clear n0_ n1_ n2_ n3_; clear hb hbox hg; have hcz6_0 : w5.cell? ⟨gb240, 0, none⟩ = some (.int .i64 a0_0) := (blk_cell BK240.out 0).trans rfl; have hcz6_1 : w5.cell? ⟨gb240, 1, none⟩ = some (.slice A0_1 l0_1.length c0_1) := (blk_cell BK240.out 1).trans rfl; have hcz6_2 : w5.cell? ⟨gb240, 2, none⟩ = some (.slice A0_2 l0_2.length c0_2) := (blk_cell BK240.out 2).trans rfl; have hfz6_0 := blk_frozen BK240.out 0; have hfz6_1 := blk_frozen BK240.out 1; have hfz6_2 := blk_frozen BK240.out 2) | ((with_reducible refine gate_callee (f := 11) rfl ?_); refine goesL_ (some 18) rfl rfl Try.func11 (by kernel_rfl) rfl #[.agg #[.int .i64 a0_0, .slice A0_1 l0_1.length c0_1, .slice A0_2 l0_2.length c0_2], .int .i64 1048576] rfl q8_4 ?_; (with_reducible refine (laws_szAges.calls a0_0 _ _ l0_1 _ _ l0_2 1048576 t241 _ ?side1 ?side2 ?side3 ?side4 A3.out).mono ?_); (case side1 => exact q8_26); (case side2 => exact HC0_1.out); (case side3 => exact q8_27); (case side4 => exact HC0_2.out); rintro e w7 ⟨rfl, hb⟩; refine ⟨_, rfl, ?_⟩; have n0_ := Aside0.mk (blk_below (g := gb240) (o := .cells #[.int .i64 a0_0, .slice A0_1 l0_1.length c0_1, .slice A0_2 l0_2.length c0_2] 25 (0, 0)) q8_1 hb); have n1_ := Aside0.mk (below_step q8_13 hb); clear BK240; clear HB; have BK240 := n0_; have HB := n1_; clear n0_ n1_; (try clear hb); (try clear hb2); (try clear hk); (try clear hi)))
  go_ret
  exact ⟨q8_30, q8_13⟩
 ·rw [if_neg c4] at H
  have c4b0 : decide (t241 < 0) = false := decide_eq_false c4
  clear c4
  replace H := Option.bind_eq_some_iff.mp H
  obtain ⟨⟨t242, t243, t246⟩, A80, H⟩ := H
  replace H : ((spec_Retire.f k t242 t243 t246 a1).bind fun bt249 => ((laws_toAges.f k a0_0 l0_1 l0_2).bind fun bt258 => ((impl_Retire.f k bt258.1 bt258.2.1 bt258.2.2 a1).bind fun bt266 => ((laws_eqAges.f k bt266.1 bt266.2.1 bt266.2.2.1 bt249.1 bt249.2.1 bt249.2.2.1).bind fun t275 => (if t275 = true then (laws_FnExactRetire.j0 k a1 bt249.2.2.2 bt266.2.2.2 (bt266.2.2.2 != bt249.2.2.2) a0_0 l0_1 l0_2 bt249.1 bt249.2.1 bt249.2.2.1 bt258.1 bt258.2.1 bt258.2.2 bt266.1 bt266.2.1 bt266.2.2.1) else (laws_FnExactRetire.j0 k a1 bt249.2.2.2 bt266.2.2.2 true a0_0 l0_1 l0_2 bt249.1 bt249.2.1 bt249.2.2.1 bt258.1 bt258.2.1 bt258.2.2 bt266.1 bt266.2.1 bt266.2.2.1)))))) = some r := H
  have A8 := Aside0.mk A80
  clear A80
  replace H := Option.bind_eq_some_iff.mp H
  obtain ⟨⟨t249, t250, t253, t256⟩, A90, H⟩ := H
  replace H : ((laws_toAges.f k a0_0 l0_1 l0_2).bind fun bt258 => ((impl_Retire.f k bt258.1 bt258.2.1 bt258.2.2 a1).bind fun bt266 => ((laws_eqAges.f k bt266.1 bt266.2.1 bt266.2.2.1 t249 t250 t253).bind fun t275 => (if t275 = true then (laws_FnExactRetire.j0 k a1 t256 bt266.2.2.2 (bt266.2.2.2 != t256) a0_0 l0_1 l0_2 t249 t250 t253 bt258.1 bt258.2.1 bt258.2.2 bt266.1 bt266.2.1 bt266.2.2.1) else (laws_FnExactRetire.j0 k a1 t256 bt266.2.2.2 true a0_0 l0_1 l0_2 t249 t250 t253 bt258.1 bt258.2.1 bt258.2.2 bt266.1 bt266.2.1 bt266.2.2.1))))) = some r := H
  have A9 := Aside0.mk A90
  clear A90
  replace H := Option.bind_eq_some_iff.mp H
  obtain ⟨⟨t258, t259, t262⟩, A100, H⟩ := H
  replace H : ((impl_Retire.f k t258 t259 t262 a1).bind fun bt266 => ((laws_eqAges.f k bt266.1 bt266.2.1 bt266.2.2.1 t249 t250 t253).bind fun t275 => (if t275 = true then (laws_FnExactRetire.j0 k a1 t256 bt266.2.2.2 (bt266.2.2.2 != t256) a0_0 l0_1 l0_2 t249 t250 t253 t258 t259 t262 bt266.1 bt266.2.1 bt266.2.2.1) else (laws_FnExactRetire.j0 k a1 t256 bt266.2.2.2 true a0_0 l0_1 l0_2 t249 t250 t253 t258 t259 t262 bt266.1 bt266.2.1 bt266.2.2.1)))) = some r := H
  have A10 := Aside0.mk A100
  clear A100
  replace H := Option.bind_eq_some_iff.mp H
  obtain ⟨⟨t266, t267, t270, t273⟩, A110, H⟩ := H
  replace H : ((laws_eqAges.f k t266 t267 t270 t249 t250 t253).bind fun t275 => (if t275 = true then (laws_FnExactRetire.j0 k a1 t256 t273 (t273 != t256) a0_0 l0_1 l0_2 t249 t250 t253 t258 t259 t262 t266 t267 t270) else (laws_FnExactRetire.j0 k a1 t256 t273 true a0_0 l0_1 l0_2 t249 t250 t253 t258 t259 t262 t266 t267 t270))) = some r := H
  have A11 := Aside0.mk A110
  clear A110
  have HC12 := Aside0.mk H
  clear H
  go_enter Try.func7, Try.ntmps7
  go_upto_region 8 with (first | ((with_reducible refine gate_dst (N := 2) rfl ?_); refine box_event ?hg (N := 2) ?hd (cs := #[.int .i64 a0_0, .slice A0_1 l0_1.length c0_1, .slice A0_2 l0_2.length c0_2]) (t := 25) ?hr ?_; (case hd => rfl); (case hg => rfl); (case hr => first | (go_simp; done) | (go_simp; rfl)); intro gb240 hg w13 hbox hb; have n0_ := Aside0.mk (below_step q8_33 hb); have n1_ := Aside0.mk (hbox); have n2_ := Aside0.mk ((by rw [hg]; exact (below_size q8_33) : w.heap.size ≤ gb240)); have n3_ := Aside0.mk ((by rw [hg]; exact (below_size q8_33) : w.heap.size ≤ gb240)); clear HB; have HB := n0_; have BK240 := n1_; have GW240 := n2_; have GE240 := n3_; clear n0_ n1_ n2_ n3_; clear hb hbox hg; have hcz14_0 : w13.cell? ⟨gb240, 0, none⟩ = some (.int .i64 a0_0) := (blk_cell BK240.out 0).trans rfl; have hcz14_1 : w13.cell? ⟨gb240, 1, none⟩ = some (.slice A0_1 l0_1.length c0_1) := (blk_cell BK240.out 1).trans rfl; have hcz14_2 : w13.cell? ⟨gb240, 2, none⟩ = some (.slice A0_2 l0_2.length c0_2) := (blk_cell BK240.out 2).trans rfl; have hfz14_0 := blk_frozen BK240.out 0; have hfz14_1 := blk_frozen BK240.out 1; have hfz14_2 := blk_frozen BK240.out 2) | ((with_reducible refine gate_callee (f := 11) rfl ?_); refine goesL_ (some 18) rfl rfl Try.func11 (by kernel_rfl) rfl #[.agg #[.int .i64 a0_0, .slice A0_1 l0_1.length c0_1, .slice A0_2 l0_2.length c0_2], .int .i64 1048576] rfl q8_4 ?_; (with_reducible refine (laws_szAges.calls a0_0 _ _ l0_1 _ _ l0_2 1048576 t241 _ ?side1 ?side2 ?side3 ?side4 A3.out).mono ?_); (case side1 => exact q8_26); (case side2 => exact HC0_1.out); (case side3 => exact q8_27); (case side4 => exact HC0_2.out); rintro e w15 ⟨rfl, hb⟩; refine ⟨_, rfl, ?_⟩; have n0_ := Aside0.mk (blk_below (g := gb240) (o := .cells #[.int .i64 a0_0, .slice A0_1 l0_1.length c0_1, .slice A0_2 l0_2.length c0_2] 25 (0, 0)) q8_1 hb); have n1_ := Aside0.mk (below_step q8_13 hb); clear BK240; clear HB; have BK240 := n0_; have HB := n1_; clear n0_ n1_; (try clear hb); (try clear hb2); (try clear hk); (try clear hi); have hcz16_0 : w15.cell? ⟨gb240, 0, none⟩ = some (.int .i64 a0_0) := (blk_cell BK240.out 0).trans rfl; have hcz16_1 : w15.cell? ⟨gb240, 1, none⟩ = some (.slice A0_1 l0_1.length c0_1) := (blk_cell BK240.out 1).trans rfl; have hcz16_2 : w15.cell? ⟨gb240, 2, none⟩ = some (.slice A0_2 l0_2.length c0_2) := (blk_cell BK240.out 2).trans rfl; have hfz16_0 := blk_frozen BK240.out 0; have hfz16_1 := blk_frozen BK240.out 1; have hfz16_2 := blk_frozen BK240.out 2) | ((with_reducible refine gate_callee (f := 13) rfl ?_); refine goesL_ (some 23) rfl rfl Try.func13 (by kernel_rfl) rfl #[.agg #[.int .i64 a0_0, .slice A0_1 l0_1.length c0_1, .slice A0_2 l0_2.length c0_2]] rfl q8_4 ?_; (with_reducible refine (laws_toAges.calls k a0_0 _ _ l0_1 _ _ l0_2 t242 t243 t246 _ ?side1 ?side2 ?side3 ?side4 A8.out).mono ?_); (case side1 => exact q8_26); (case side2 => exact HC0_1.out); (case side3 => exact q8_27); (case side4 => exact HC0_2.out); rintro e w17 ⟨v244, v247, rfl, ho0, ho1, hb⟩; refine ⟨_, rfl, ?_⟩; have n0_ := Aside0.mk (Kd.R_lower ho0 (below_size q8_13)); have n1_ := Aside0.mk (Kd.R_lower ho1 (below_size q8_13)); have n2_ := Aside0.mk (blk_below (g := gb240) (o := .cells #[.int .i64 a0_0, .slice A0_1 l0_1.length c0_1, .slice A0_2 l0_2.length c0_2] 25 (0, 0)) q8_1 hb); have n3_ := Aside0.mk (below_step q8_13 hb); clear BK240; clear HB; have HO245 := n0_; have HO248 := n1_; have BK240 := n2_; have HB := n3_; clear n0_ n1_ n2_ n3_; (try clear hb); (try clear hb2); (try clear hk); (try clear hi); (try clear ho0); (try clear ho1); obtain ⟨Ao18, co18, eo18⟩ := Kd.R_slice HO245.out; subst eo18; obtain ⟨Ao19, co19, eo19⟩ := Kd.R_slice HO248.out; subst eo19) | ((with_reducible refine gate_callee (f := 24) rfl ?_); refine goesL_ (some 25) rfl rfl Try.func24 (by kernel_rfl) rfl #[.agg #[.int .i64 t242, .slice Ao18 t243.length co18, .slice Ao19 t246.length co19], .int .i64 a1] rfl q8_4 ?_; (with_reducible refine (spec_Retire.calls k t242 _ _ t243 _ _ t246 a1 t249 t250 t253 t256 _ ?side1 ?side2 ?side3 ?side4 A9.out).mono ?_); (case side1 => repeat (first | exact (Kd.R_reads' HO245.out).2.2 | (with_reducible refine Kd.C_alloc ?_ _) | (with_reducible refine Kd.C_drewN ?_ _) | (with_reducible refine Kd.C_drew ?_))); (case side2 => exact (Kd.R_reads' HO245.out).2.1); (case side3 => repeat (first | exact (Kd.R_reads' HO248.out).2.2 | (with_reducible refine Kd.C_alloc ?_ _) | (with_reducible refine Kd.C_drewN ?_ _) | (with_reducible refine Kd.C_drew ?_))); (case side4 => exact (Kd.R_reads' HO248.out).2.1); rintro e w20 ⟨v251, v254, rfl, ho0, ho1, hb⟩; refine ⟨_, rfl, ?_⟩; have n0_ := Aside0.mk (Kd.R_elder' (by (with_reducible repeat (first | apply Kd.R_alloc | apply Kd.R_drewN | apply Kd.R_drew)); exact HO245.out) (Kd.R_base ho0) hb); have n1_ := Aside0.mk (Kd.R_elder' (by (with_reducible repeat (first | apply Kd.R_alloc | apply Kd.R_drewN | apply Kd.R_drew)); exact HO248.out) (Kd.R_base ho1) hb); have n2_ := Aside0.mk (Kd.R_lower (Kd.R_new' ho0 (Kd.R_lt (by (with_reducible repeat (first | apply Kd.R_alloc | apply Kd.R_drewN | apply Kd.R_drew)); exact HO245.out))) (below_size q8_13)); have n3_ := Aside0.mk (Kd.R_lower (Kd.R_new' ho1 (Kd.R_lt (by (with_reducible repeat (first | apply Kd.R_alloc | apply Kd.R_drewN | apply Kd.R_drew)); exact HO248.out))) (below_size q8_13)); have n4_ := Aside0.mk (blk_below (g := gb240) (o := .cells #[.int .i64 a0_0, .slice A0_1 l0_1.length c0_1, .slice A0_2 l0_2.length c0_2] 25 (0, 0)) q8_1 hb); have n5_ := Aside0.mk (below_step q8_13 hb); clear HO245; clear HO248; clear BK240; clear HB; have HO245 := n0_; have HO248 := n1_; have HO252 := n2_; have HO255 := n3_; have BK240 := n4_; have HB := n5_; clear n0_ n1_ n2_ n3_ n4_ n5_; (try clear hb); (try clear hb2); (try clear hk); (try clear hi); (try clear ho0); (try clear ho1)) | ((with_reducible refine gate_dst (N := 6) rfl ?_); refine box_event ?hg (N := 6) ?hd (cs := #[.int .i64 0, .slice none 0 0, .slice none 0 0]) (t := 30) ?hr ?_; (case hd => rfl); (case hg => rfl); (case hr => first | (go_simp; done) | (go_simp; rfl)); intro gb257 hg w21 hbox hb; have n0_ := Aside0.mk (Kd.R_below (by (with_reducible repeat (first | apply Kd.R_alloc | apply Kd.R_drewN | apply Kd.R_drew)); exact HO245.out) hb); have n1_ := Aside0.mk (Kd.R_below (by (with_reducible repeat (first | apply Kd.R_alloc | apply Kd.R_drewN | apply Kd.R_drew)); exact HO248.out) hb); have n2_ := Aside0.mk (Kd.R_below (by (with_reducible repeat (first | apply Kd.R_alloc | apply Kd.R_drewN | apply Kd.R_drew)); exact HO252.out) hb); have n3_ := Aside0.mk (Kd.R_below (by (with_reducible repeat (first | apply Kd.R_alloc | apply Kd.R_drewN | apply Kd.R_drew)); exact HO255.out) hb); have n4_ := Aside0.mk (blk_below (g := gb240) (o := .cells #[.int .i64 a0_0, .slice A0_1 l0_1.length c0_1, .slice A0_2 l0_2.length c0_2] 25 (0, 0)) q8_1 hb); have n5_ := Aside0.mk (below_step q8_13 hb); have n6_ := Aside0.mk (hbox); have n7_ := Aside0.mk ((by rw [hg]; exact (below_size q8_13) : w.heap.size ≤ gb257)); have n8_ := Aside0.mk ((by rw [hg]; exact (below_size q8_13) : w.heap.size ≤ gb257)); have n9_ := Aside0.mk ((q8_42 : gb240 ≠ gb257)); have n10_ := Aside0.mk ((q8_43 : gb257 ≠ gb240)); clear HO245; clear HO248; clear HO252; clear HO255; clear BK240; clear HB; have HO245 := n0_; have HO248 := n1_; have HO252 := n2_; have HO255 := n3_; have BK240 := n4_; have HB := n5_; have BK257 := n6_; have GW257 := n7_; have GE257 := n8_; have NB240_257 := n9_; have NB257_240 := n10_; clear n0_ n1_ n2_ n3_ n4_ n5_ n6_ n7_ n8_ n9_ n10_; clear hb hbox hg; have hnb22 := NB257_240.out; have hnc22 := NB240_257.out; have hcz23_0 : w21.cell? ⟨gb257, 0, none⟩ = some (.int .i64 0) := (blk_cell BK257.out 0).trans rfl; have hcz23_1 : w21.cell? ⟨gb257, 1, none⟩ = some (.slice none 0 0) := (blk_cell BK257.out 1).trans rfl; have hcz23_2 : w21.cell? ⟨gb257, 2, none⟩ = some (.slice none 0 0) := (blk_cell BK257.out 2).trans rfl; have hfz23_0 := blk_frozen BK257.out 0; have hfz23_1 := blk_frozen BK257.out 1; have hfz23_2 := blk_frozen BK257.out 2; obtain ⟨Ao24, co24, eo24⟩ := Kd.R_slice HO252.out; subst eo24; obtain ⟨Ao25, co25, eo25⟩ := Kd.R_slice HO255.out; subst eo25; have hcz26_0 : w21.cell? ⟨gb240, 0, none⟩ = some (.int .i64 a0_0) := (blk_cell BK240.out 0).trans rfl; have hcz26_1 : w21.cell? ⟨gb240, 1, none⟩ = some (.slice A0_1 l0_1.length c0_1) := (blk_cell BK240.out 1).trans rfl; have hcz26_2 : w21.cell? ⟨gb240, 2, none⟩ = some (.slice A0_2 l0_2.length c0_2) := (blk_cell BK240.out 2).trans rfl; have hfz26_0 := blk_frozen BK240.out 0; have hfz26_1 := blk_frozen BK240.out 1; have hfz26_2 := blk_frozen BK240.out 2) | ((with_reducible refine gate_callee (f := 13) rfl ?_); refine goesL_ (some 29) rfl rfl Try.func13 (by kernel_rfl) rfl #[.agg #[.int .i64 a0_0, .slice A0_1 l0_1.length c0_1, .slice A0_2 l0_2.length c0_2]] rfl q8_4 ?_; (with_reducible refine (laws_toAges.calls k a0_0 _ _ l0_1 _ _ l0_2 t258 t259 t262 _ ?side1 ?side2 ?side3 ?side4 A10.out).mono ?_); (case side1 => exact Kd.C_below HR0_1.out q8_14); (case side2 => exact HC0_1.out); (case side3 => exact Kd.C_below HR0_2.out q8_14); (case side4 => exact HC0_2.out); rintro e w27 ⟨v260, v263, rfl, ho0, ho1, hb⟩; refine ⟨_, rfl, ?_⟩; have n0_ := Aside0.mk (Kd.R_elder' q8_51 (Kd.R_base ho0) hb); have n1_ := Aside0.mk (Kd.R_elder' q8_52 (Kd.R_base ho1) hb); have n2_ := Aside0.mk (Kd.R_elder' q8_53 (Kd.R_base ho0) hb); have n3_ := Aside0.mk (Kd.R_elder' q8_54 (Kd.R_base ho1) hb); have n4_ := Aside0.mk (Kd.R_lower (Kd.R_new' (Kd.R_new' ho0 (Kd.R_lt q8_51)) (Kd.R_lt q8_53)) (below_size q8_14)); have n5_ := Aside0.mk (Kd.R_lower (Kd.R_new' (Kd.R_new' ho1 (Kd.R_lt q8_52)) (Kd.R_lt q8_54)) (below_size q8_14)); have n6_ := Aside0.mk (blk_below (g := gb240) (o := .cells #[.int .i64 a0_0, .slice A0_1 l0_1.length c0_1, .slice A0_2 l0_2.length c0_2] 25 (0, 0)) (by (with_reducible repeat (first | refine blk_drewN ?_ _ | refine blk_drew ?_ | refine blk_alloc ?_ _)); refine blk_far ?_ NB240_257.out _; (with_reducible repeat (first | refine blk_drewN ?_ _ | refine blk_drew ?_ | refine blk_alloc ?_ _)); refine blk_far ?_ NB240_257.out _; (with_reducible repeat (first | refine blk_drewN ?_ _ | refine blk_drew ?_ | refine blk_alloc ?_ _)); refine blk_far ?_ NB240_257.out _; (with_reducible repeat (first | refine blk_drewN ?_ _ | refine blk_drew ?_ | refine blk_alloc ?_ _)); exact BK240.out) hb); have n7_ := Aside0.mk (blk_below (g := gb257) (o := .cells #[.int .i64 t249, .slice Ao24 t250.length co24, .slice Ao25 t253.length co25] 30 (0, 0)) (by (with_reducible repeat (first | refine blk_drewN ?_ _ | refine blk_drew ?_ | refine blk_alloc ?_ _)); refine blk_put (cs := #[.int .i64 t249, .slice Ao24 t250.length co24, .slice none 0 0]) ?_ 2 _ rfl; (with_reducible repeat (first | refine blk_drewN ?_ _ | refine blk_drew ?_ | refine blk_alloc ?_ _)); refine blk_put (cs := #[.int .i64 t249, .slice none 0 0, .slice none 0 0]) ?_ 1 _ rfl; (with_reducible repeat (first | refine blk_drewN ?_ _ | refine blk_drew ?_ | refine blk_alloc ?_ _)); refine blk_put (cs := #[.int .i64 0, .slice none 0 0, .slice none 0 0]) ?_ 0 _ rfl; (with_reducible repeat (first | refine blk_drewN ?_ _ | refine blk_drew ?_ | refine blk_alloc ?_ _)); exact BK257.out) hb); have n8_ := Aside0.mk (below_step q8_14 hb); clear HO245; clear HO248; clear HO252; clear HO255; clear BK240; clear BK257; clear HB; have HO245 := n0_; have HO248 := n1_; have HO252 := n2_; have HO255 := n3_; have HO261 := n4_; have HO264 := n5_; have BK240 := n6_; have BK257 := n7_; have HB := n8_; clear n0_ n1_ n2_ n3_ n4_ n5_ n6_ n7_ n8_; (try clear hb); (try clear hb2); (try clear hk); (try clear hi); (try clear ho0); (try clear ho1)) | ((with_reducible refine gate_dst (N := 8) rfl ?_); refine box_event ?hg (N := 8) ?hd (cs := #[.int .i64 0, .slice none 0 0, .slice none 0 0]) (t := 30) ?hr ?_; (case hd => rfl); (case hg => rfl); (case hr => first | (go_simp; done) | (go_simp; rfl)); intro gb265 hg w28 hbox hb; have n0_ := Aside0.mk (Kd.R_below (by (with_reducible repeat (first | apply Kd.R_alloc | apply Kd.R_drewN | apply Kd.R_drew)); exact HO245.out) hb); have n1_ := Aside0.mk (Kd.R_below (by (with_reducible repeat (first | apply Kd.R_alloc | apply Kd.R_drewN | apply Kd.R_drew)); exact HO248.out) hb); have n2_ := Aside0.mk (Kd.R_below (by (with_reducible repeat (first | apply Kd.R_alloc | apply Kd.R_drewN | apply Kd.R_drew)); exact HO252.out) hb); have n3_ := Aside0.mk (Kd.R_below (by (with_reducible repeat (first | apply Kd.R_alloc | apply Kd.R_drewN | apply Kd.R_drew)); exact HO255.out) hb); have n4_ := Aside0.mk (Kd.R_below (by (with_reducible repeat (first | apply Kd.R_alloc | apply Kd.R_drewN | apply Kd.R_drew)); exact HO261.out) hb); have n5_ := Aside0.mk (Kd.R_below (by (with_reducible repeat (first | apply Kd.R_alloc | apply Kd.R_drewN | apply Kd.R_drew)); exact HO264.out) hb); have n6_ := Aside0.mk (blk_below (g := gb240) (o := .cells #[.int .i64 a0_0, .slice A0_1 l0_1.length c0_1, .slice A0_2 l0_2.length c0_2] 25 (0, 0)) q8_1 hb); have n7_ := Aside0.mk (blk_below (g := gb257) (o := .cells #[.int .i64 t249, .slice Ao24 t250.length co24, .slice Ao25 t253.length co25] 30 (0, 0)) q8_2 hb); have n8_ := Aside0.mk (below_step q8_14 hb); have n9_ := Aside0.mk (hbox); have n10_ := Aside0.mk ((by rw [hg]; exact (below_size q8_14) : w.heap.size ≤ gb265)); have n11_ := Aside0.mk ((by rw [hg]; exact (below_size q8_14) : w.heap.size ≤ gb265)); have n12_ := Aside0.mk ((q8_42 : gb240 ≠ gb265)); have n13_ := Aside0.mk ((q8_43 : gb265 ≠ gb240)); have n14_ := Aside0.mk ((by rw [hg]; exact Nat.ne_of_lt (blk_lt (g := gb257) (o := .cells #[.int .i64 t249, .slice Ao24 t250.length co24, .slice Ao25 t253.length co25] 30 (0, 0)) q8_2) : gb257 ≠ gb265)); have n15_ := Aside0.mk ((by rw [hg]; exact Nat.ne_of_gt (blk_lt (g := gb257) (o := .cells #[.int .i64 t249, .slice Ao24 t250.length co24, .slice Ao25 t253.length co25] 30 (0, 0)) q8_2) : gb265 ≠ gb257)); clear HO245; clear HO248; clear HO252; clear HO255; clear HO261; clear HO264; clear BK240; clear BK257; clear HB; have HO245 := n0_; have HO248 := n1_; have HO252 := n2_; have HO255 := n3_; have HO261 := n4_; have HO264 := n5_; have BK240 := n6_; have BK257 := n7_; have HB := n8_; have BK265 := n9_; have GW265 := n10_; have GE265 := n11_; have NB240_265 := n12_; have NB265_240 := n13_; have NB257_265 := n14_; have NB265_257 := n15_; clear n0_ n1_ n2_ n3_ n4_ n5_ n6_ n7_ n8_ n9_ n10_ n11_ n12_ n13_ n14_ n15_; clear hb hbox hg; have hnb29 := NB265_240.out; have hnc29 := NB240_265.out; have hnb30 := NB265_257.out; have hnc30 := NB257_265.out; have hcz31_0 : w28.cell? ⟨gb265, 0, none⟩ = some (.int .i64 0) := (blk_cell BK265.out 0).trans rfl; have hcz31_1 : w28.cell? ⟨gb265, 1, none⟩ = some (.slice none 0 0) := (blk_cell BK265.out 1).trans rfl; have hcz31_2 : w28.cell? ⟨gb265, 2, none⟩ = some (.slice none 0 0) := (blk_cell BK265.out 2).trans rfl; have hfz31_0 := blk_frozen BK265.out 0; have hfz31_1 := blk_frozen BK265.out 1; have hfz31_2 := blk_frozen BK265.out 2; obtain ⟨Ao32, co32, eo32⟩ := Kd.R_slice HO261.out; subst eo32; obtain ⟨Ao33, co33, eo33⟩ := Kd.R_slice HO264.out; subst eo33) | ((with_reducible refine gate_callee (f := 25) rfl ?_); refine goesL_ (some 33) rfl rfl Try.func25 (by kernel_rfl) rfl #[.agg #[.int .i64 t258, .slice Ao32 t259.length co32, .slice Ao33 t262.length co33], .int .i64 a1] rfl q8_4 ?_; (with_reducible refine (impl_Retire.calls k t258 _ _ t259 _ _ t262 a1 t266 t267 t270 t273 _ ?side1 ?side2 ?side3 ?side4 A11.out).mono ?_); (case side1 => refine (Kd.R_reads' (e := 3) (base := w.heap.size) (ok := fun k_ => ((True ∧ some k_ ≠ (.slice Ao18 t243.length co18 : Value).ownBlock) ∧ some k_ ≠ (.slice Ao24 t250.length co24 : Value).ownBlock)) (n := t259.length) (c := co32) ?_).2.2; exact q8_28); (case side2 => exact (Kd.R_reads' HO261.out).2.1); (case side3 => refine (Kd.R_reads' (e := 48) (base := w.heap.size) (ok := fun k_ => ((True ∧ some k_ ≠ (.slice Ao19 t246.length co19 : Value).ownBlock) ∧ some k_ ≠ (.slice Ao25 t253.length co25 : Value).ownBlock)) (n := t262.length) (c := co33) ?_).2.2; exact q8_29); (case side4 => exact (Kd.R_reads' HO264.out).2.1); rintro e w34 ⟨v268, v271, rfl, ho0, ho1, hb⟩; refine ⟨_, rfl, ?_⟩; have n0_ := Aside0.mk (Kd.R_elder' q8_55 (Kd.R_base ho0) hb); have n1_ := Aside0.mk (Kd.R_elder' q8_56 (Kd.R_base ho1) hb); have n2_ := Aside0.mk (Kd.R_elder' q8_57 (Kd.R_base ho0) hb); have n3_ := Aside0.mk (Kd.R_elder' q8_58 (Kd.R_base ho1) hb); have n4_ := Aside0.mk (Kd.R_elder' q8_28 (Kd.R_base ho0) hb); have n5_ := Aside0.mk (Kd.R_elder' q8_29 (Kd.R_base ho1) hb); have n6_ := Aside0.mk (Kd.R_lower (Kd.R_new' (Kd.R_new' (Kd.R_new' ho0 (Kd.R_lt q8_55)) (Kd.R_lt q8_57)) (Kd.R_lt q8_28)) (below_size q8_25)); have n7_ := Aside0.mk (Kd.R_lower (Kd.R_new' (Kd.R_new' (Kd.R_new' ho1 (Kd.R_lt q8_56)) (Kd.R_lt q8_58)) (Kd.R_lt q8_29)) (below_size q8_25)); have n8_ := Aside0.mk (blk_below (g := gb240) (o := .cells #[.int .i64 a0_0, .slice A0_1 l0_1.length c0_1, .slice A0_2 l0_2.length c0_2] 25 (0, 0)) (by (with_reducible repeat (first | refine blk_drewN ?_ _ | refine blk_drew ?_ | refine blk_alloc ?_ _)); refine blk_far ?_ NB240_265.out _; (with_reducible repeat (first | refine blk_drewN ?_ _ | refine blk_drew ?_ | refine blk_alloc ?_ _)); refine blk_far ?_ NB240_265.out _; (with_reducible repeat (first | refine blk_drewN ?_ _ | refine blk_drew ?_ | refine blk_alloc ?_ _)); refine blk_far ?_ NB240_265.out _; (with_reducible repeat (first | refine blk_drewN ?_ _ | refine blk_drew ?_ | refine blk_alloc ?_ _)); exact BK240.out) hb); have n9_ := Aside0.mk (blk_below (g := gb257) (o := .cells #[.int .i64 t249, .slice Ao24 t250.length co24, .slice Ao25 t253.length co25] 30 (0, 0)) (by (with_reducible repeat (first | refine blk_drewN ?_ _ | refine blk_drew ?_ | refine blk_alloc ?_ _)); refine blk_far ?_ NB257_265.out _; (with_reducible repeat (first | refine blk_drewN ?_ _ | refine blk_drew ?_ | refine blk_alloc ?_ _)); refine blk_far ?_ NB257_265.out _; (with_reducible repeat (first | refine blk_drewN ?_ _ | refine blk_drew ?_ | refine blk_alloc ?_ _)); refine blk_far ?_ NB257_265.out _; (with_reducible repeat (first | refine blk_drewN ?_ _ | refine blk_drew ?_ | refine blk_alloc ?_ _)); exact BK257.out) hb); have n10_ := Aside0.mk (blk_below (g := gb265) (o := .cells #[.int .i64 t258, .slice Ao32 t259.length co32, .slice Ao33 t262.length co33] 30 (0, 0)) (by (with_reducible repeat (first | refine blk_drewN ?_ _ | refine blk_drew ?_ | refine blk_alloc ?_ _)); refine blk_put (cs := #[.int .i64 t258, .slice Ao32 t259.length co32, .slice none 0 0]) ?_ 2 _ rfl; (with_reducible repeat (first | refine blk_drewN ?_ _ | refine blk_drew ?_ | refine blk_alloc ?_ _)); refine blk_put (cs := #[.int .i64 t258, .slice none 0 0, .slice none 0 0]) ?_ 1 _ rfl; (with_reducible repeat (first | refine blk_drewN ?_ _ | refine blk_drew ?_ | refine blk_alloc ?_ _)); refine blk_put (cs := #[.int .i64 0, .slice none 0 0, .slice none 0 0]) ?_ 0 _ rfl; (with_reducible repeat (first | refine blk_drewN ?_ _ | refine blk_drew ?_ | refine blk_alloc ?_ _)); exact BK265.out) hb); have n11_ := Aside0.mk (below_step q8_25 hb); clear HO245; clear HO248; clear HO252; clear HO255; clear HO261; clear HO264; clear BK240; clear BK257; clear BK265; clear HB; have HO245 := n0_; have HO248 := n1_; have HO252 := n2_; have HO255 := n3_; have HO261 := n4_; have HO264 := n5_; have HO269 := n6_; have HO272 := n7_; have BK240 := n8_; have BK257 := n9_; have BK265 := n10_; have HB := n11_; clear n0_ n1_ n2_ n3_ n4_ n5_ n6_ n7_ n8_ n9_ n10_ n11_; (try clear hb); (try clear hb2); (try clear hk); (try clear hi); (try clear ho0); (try clear ho1)) | ((with_reducible refine gate_dst (N := 9) rfl ?_); refine box_event ?hg (N := 9) ?hd (cs := #[.int .i64 0, .slice none 0 0, .slice none 0 0]) (t := 30) ?hr ?_; (case hd => rfl); (case hg => rfl); (case hr => first | (go_simp; done) | (go_simp; rfl)); intro gb274 hg w35 hbox hb; have n0_ := Aside0.mk (Kd.R_below (by (with_reducible repeat (first | apply Kd.R_alloc | apply Kd.R_drewN | apply Kd.R_drew)); exact HO245.out) hb); have n1_ := Aside0.mk (Kd.R_below (by (with_reducible repeat (first | apply Kd.R_alloc | apply Kd.R_drewN | apply Kd.R_drew)); exact HO248.out) hb); have n2_ := Aside0.mk (Kd.R_below (by (with_reducible repeat (first | apply Kd.R_alloc | apply Kd.R_drewN | apply Kd.R_drew)); exact HO252.out) hb); have n3_ := Aside0.mk (Kd.R_below (by (with_reducible repeat (first | apply Kd.R_alloc | apply Kd.R_drewN | apply Kd.R_drew)); exact HO255.out) hb); have n4_ := Aside0.mk (Kd.R_below (by (with_reducible repeat (first | apply Kd.R_alloc | apply Kd.R_drewN | apply Kd.R_drew)); exact HO261.out) hb); have n5_ := Aside0.mk (Kd.R_below (by (with_reducible repeat (first | apply Kd.R_alloc | apply Kd.R_drewN | apply Kd.R_drew)); exact HO264.out) hb); have n6_ := Aside0.mk (Kd.R_below (by (with_reducible repeat (first | apply Kd.R_alloc | apply Kd.R_drewN | apply Kd.R_drew)); exact HO269.out) hb); have n7_ := Aside0.mk (Kd.R_below (by (with_reducible repeat (first | apply Kd.R_alloc | apply Kd.R_drewN | apply Kd.R_drew)); exact HO272.out) hb); have n8_ := Aside0.mk (blk_below (g := gb240) (o := .cells #[.int .i64 a0_0, .slice A0_1 l0_1.length c0_1, .slice A0_2 l0_2.length c0_2] 25 (0, 0)) q8_1 hb); have n9_ := Aside0.mk (blk_below (g := gb257) (o := .cells #[.int .i64 t249, .slice Ao24 t250.length co24, .slice Ao25 t253.length co25] 30 (0, 0)) q8_2 hb); have n10_ := Aside0.mk (blk_below (g := gb265) (o := .cells #[.int .i64 t258, .slice Ao32 t259.length co32, .slice Ao33 t262.length co33] 30 (0, 0)) q8_3 hb); have n11_ := Aside0.mk (below_step q8_25 hb); have n12_ := Aside0.mk (hbox); have n13_ := Aside0.mk ((by rw [hg]; exact (below_size q8_25) : w.heap.size ≤ gb274)); have n14_ := Aside0.mk ((by rw [hg]; exact (below_size q8_25) : w.heap.size ≤ gb274)); have n15_ := Aside0.mk ((q8_42 : gb240 ≠ gb274)); have n16_ := Aside0.mk ((q8_43 : gb274 ≠ gb240)); have n17_ := Aside0.mk ((by rw [hg]; exact Nat.ne_of_lt (blk_lt (g := gb257) (o := .cells #[.int .i64 t249, .slice Ao24 t250.length co24, .slice Ao25 t253.length co25] 30 (0, 0)) q8_2) : gb257 ≠ gb274)); have n18_ := Aside0.mk ((by rw [hg]; exact Nat.ne_of_gt (blk_lt (g := gb257) (o := .cells #[.int .i64 t249, .slice Ao24 t250.length co24, .slice Ao25 t253.length co25] 30 (0, 0)) q8_2) : gb274 ≠ gb257)); have n19_ := Aside0.mk ((by rw [hg]; exact Nat.ne_of_lt (blk_lt (g := gb265) (o := .cells #[.int .i64 t258, .slice Ao32 t259.length co32, .slice Ao33 t262.length co33] 30 (0, 0)) q8_3) : gb265 ≠ gb274)); have n20_ := Aside0.mk ((by rw [hg]; exact Nat.ne_of_gt (blk_lt (g := gb265) (o := .cells #[.int .i64 t258, .slice Ao32 t259.length co32, .slice Ao33 t262.length co33] 30 (0, 0)) q8_3) : gb274 ≠ gb265)); clear HO245; clear HO248; clear HO252; clear HO255; clear HO261; clear HO264; clear HO269; clear HO272; clear BK240; clear BK257; clear BK265; clear HB; have HO245 := n0_; have HO248 := n1_; have HO252 := n2_; have HO255 := n3_; have HO261 := n4_; have HO264 := n5_; have HO269 := n6_; have HO272 := n7_; have BK240 := n8_; have BK257 := n9_; have BK265 := n10_; have HB := n11_; have BK274 := n12_; have GW274 := n13_; have GE274 := n14_; have NB240_274 := n15_; have NB274_240 := n16_; have NB257_274 := n17_; have NB274_257 := n18_; have NB265_274 := n19_; have NB274_265 := n20_; clear n0_ n1_ n2_ n3_ n4_ n5_ n6_ n7_ n8_ n9_ n10_ n11_ n12_ n13_ n14_ n15_ n16_ n17_ n18_ n19_ n20_; clear hb hbox hg; have hnb36 := NB274_240.out; have hnc36 := NB240_274.out; have hnb37 := NB274_257.out; have hnc37 := NB257_274.out; have hnb38 := NB274_265.out; have hnc38 := NB265_274.out; have hcz39_0 : w35.cell? ⟨gb274, 0, none⟩ = some (.int .i64 0) := (blk_cell BK274.out 0).trans rfl; have hcz39_1 : w35.cell? ⟨gb274, 1, none⟩ = some (.slice none 0 0) := (blk_cell BK274.out 1).trans rfl; have hcz39_2 : w35.cell? ⟨gb274, 2, none⟩ = some (.slice none 0 0) := (blk_cell BK274.out 2).trans rfl; have hfz39_0 := blk_frozen BK274.out 0; have hfz39_1 := blk_frozen BK274.out 1; have hfz39_2 := blk_frozen BK274.out 2; obtain ⟨Ao40, co40, eo40⟩ := Kd.R_slice HO269.out; subst eo40; obtain ⟨Ao41, co41, eo41⟩ := Kd.R_slice HO272.out; subst eo41))
  (try simp only [Act.put, List.setIfInBounds_toArray, List.set_cons_zero, List.set_cons_succ])
  go_cut [44] (fun v44 wc => ∃ (kq : Nat) (x44_11 : Bool), v44 = .bool x44_11 ∧ Aside0 (laws_FnExactRetire.j0 kq a1 t256 t273 x44_11 a0_0 l0_1 l0_2 t249 t250 t253 t258 t259 t262 t266 t267 t270 = some r) ∧ Aside0 (kq ≤ k) ∧ Aside0 (Kd.R (Kd.int .i64) 3 wc w.heap.size (fun k_ => some k_ ≠ ((.slice Ao32 t259.length co32) : Value).ownBlock ∧ some k_ ≠ ((.slice Ao40 t267.length co40) : Value).ownBlock) (.slice Ao24 t250.length co24) t250) ∧ Aside0 (Kd.R k48 48 wc w.heap.size (fun k_ => some k_ ≠ ((.slice Ao33 t262.length co33) : Value).ownBlock ∧ some k_ ≠ ((.slice Ao41 t270.length co41) : Value).ownBlock) (.slice Ao25 t253.length co25) t253) ∧ Aside0 (Kd.R (Kd.int .i64) 3 wc w.heap.size (fun k_ => some k_ ≠ ((.slice Ao24 t250.length co24) : Value).ownBlock ∧ some k_ ≠ ((.slice Ao40 t267.length co40) : Value).ownBlock) (.slice Ao32 t259.length co32) t259) ∧ Aside0 (Kd.R k48 48 wc w.heap.size (fun k_ => some k_ ≠ ((.slice Ao25 t253.length co25) : Value).ownBlock ∧ some k_ ≠ ((.slice Ao41 t270.length co41) : Value).ownBlock) (.slice Ao33 t262.length co33) t262) ∧ Aside0 (Kd.R (Kd.int .i64) 3 wc w.heap.size (fun k_ => some k_ ≠ ((.slice Ao24 t250.length co24) : Value).ownBlock ∧ some k_ ≠ ((.slice Ao32 t259.length co32) : Value).ownBlock) (.slice Ao40 t267.length co40) t267) ∧ Aside0 (Kd.R k48 48 wc w.heap.size (fun k_ => some k_ ≠ ((.slice Ao25 t253.length co25) : Value).ownBlock ∧ some k_ ≠ ((.slice Ao33 t262.length co33) : Value).ownBlock) (.slice Ao41 t270.length co41) t270) ∧ Aside0 (wc.heap[gb240]? = some (.cells #[.int .i64 a0_0, (.slice A0_1 l0_1.length c0_1), (.slice A0_2 l0_2.length c0_2)] 25 (0, 0))) ∧ Aside0 (wc.heap[gb257]? = some (.cells #[.int .i64 t249, (.slice Ao24 t250.length co24), (.slice Ao25 t253.length co25)] 30 (0, 0))) ∧ Aside0 (wc.heap[gb265]? = some (.cells #[.int .i64 t258, (.slice Ao32 t259.length co32), (.slice Ao33 t262.length co33)] 30 (0, 0))) ∧ Aside0 (wc.heap[gb274]? = some (.cells #[.int .i64 t266, (.slice Ao40 t267.length co40), (.slice Ao41 t270.length co41)] 30 (0, 0))) ∧ Aside0 (Below w.heap.size w wc))
  case first =>
   have H := HC12.out
   clear HC12
   replace H := Option.bind_eq_some_iff.mp H
   obtain ⟨t275, A420, H⟩ := H
   replace H : (if t275 = true then (laws_FnExactRetire.j0 k a1 t256 t273 (t273 != t256) a0_0 l0_1 l0_2 t249 t250 t253 t258 t259 t262 t266 t267 t270) else (laws_FnExactRetire.j0 k a1 t256 t273 true a0_0 l0_1 l0_2 t249 t250 t253 t258 t259 t262 t266 t267 t270)) = some r := H
   have A42 := Aside0.mk A420
   clear A420
   by_cases c43 : t275 = true
   ·subst c43
    have H1 : (laws_FnExactRetire.j0 k a1 t256 t273 (t273 != t256) a0_0 l0_1 l0_2 t249 t250 t253 t258 t259 t262 t266 t267 t270) = some r := by rw [if_pos rfl] at H; exact H
    clear H
    have H := H1
    clear H1
    have H' := Aside0.mk H
    clear H
    have hnb44 := NB274_240.out
    have hnc44 := NB240_274.out
    have hnb45 := NB274_257.out
    have hnc45 := NB257_274.out
    have hnb46 := NB274_265.out
    have hnc46 := NB265_274.out
    have hcz47_0 : w35.cell? ⟨gb274, 0, none⟩ = some (.int .i64 0) := (blk_cell BK274.out 0).trans rfl
    have hcz47_1 : w35.cell? ⟨gb274, 1, none⟩ = some (.slice none 0 0) := (blk_cell BK274.out 1).trans rfl
    have hcz47_2 : w35.cell? ⟨gb274, 2, none⟩ = some (.slice none 0 0) := (blk_cell BK274.out 2).trans rfl
    have hfz47_0 := blk_frozen BK274.out 0
    have hfz47_1 := blk_frozen BK274.out 1
    have hfz47_2 := blk_frozen BK274.out 2
    have hnb48 := NB257_240.out
    have hnc48 := NB240_257.out
    have hnb49 := NB257_265.out
    have hnc49 := NB265_257.out
    have hcz50_0 : w35.cell? ⟨gb257, 0, none⟩ = some (.int .i64 t249) := (blk_cell BK257.out 0).trans rfl
    have hcz50_1 : w35.cell? ⟨gb257, 1, none⟩ = some (.slice Ao24 t250.length co24) := (blk_cell BK257.out 1).trans rfl
    have hcz50_2 : w35.cell? ⟨gb257, 2, none⟩ = some (.slice Ao25 t253.length co25) := (blk_cell BK257.out 2).trans rfl
    have hfz50_0 := blk_frozen BK257.out 0
    have hfz50_1 := blk_frozen BK257.out 1
    have hfz50_2 := blk_frozen BK257.out 2
    go_wp2_with (first | ((with_reducible refine gate_callee (f := 15) rfl ?_); refine goesL_ (some 38) rfl rfl Try.func15 (by kernel_rfl) rfl #[.agg #[.int .i64 t266, .slice Ao40 t267.length co40, .slice Ao41 t270.length co41], .agg #[.int .i64 t249, .slice Ao24 t250.length co24, .slice Ao25 t253.length co25]] rfl q8_4 ?_; (with_reducible refine (laws_eqAges.calls k t266 _ _ t267 _ _ t270 t249 _ _ t250 _ _ t253 true _ ?side1 ?side2 ?side3 ?side4 ?side5 ?side6 ?side7 ?side8 A42.out).mono ?_); (case side1 => refine (Kd.R_reads' (e := 3) (base := w.heap.size) (ok := fun k_ => (((True ∧ some k_ ≠ (.slice Ao18 t243.length co18 : Value).ownBlock) ∧ some k_ ≠ (.slice Ao24 t250.length co24 : Value).ownBlock) ∧ some k_ ≠ (.slice Ao32 t259.length co32 : Value).ownBlock)) (n := t267.length) (c := co40) ?_).2.2; exact q8_19); (case side2 => exact (Kd.R_reads' HO269.out).2.1); (case side3 => refine (Kd.R_reads' (e := 48) (base := w.heap.size) (ok := fun k_ => (((True ∧ some k_ ≠ (.slice Ao19 t246.length co19 : Value).ownBlock) ∧ some k_ ≠ (.slice Ao25 t253.length co25 : Value).ownBlock) ∧ some k_ ≠ (.slice Ao33 t262.length co33 : Value).ownBlock)) (n := t270.length) (c := co41) ?_).2.2; exact q8_20); (case side4 => exact (Kd.R_reads' HO272.out).2.1); (case side5 => refine (Kd.R_reads' (e := 3) (base := w.heap.size) (ok := fun k_ => (((True ∧ some k_ ≠ (.slice Ao18 t243.length co18 : Value).ownBlock) ∧ some k_ ≠ (.slice Ao32 t259.length co32 : Value).ownBlock) ∧ some k_ ≠ (.slice Ao40 t267.length co40 : Value).ownBlock)) (n := t250.length) (c := co24) ?_).2.2; exact q8_21); (case side6 => exact (Kd.R_reads' HO252.out).2.1); (case side7 => refine (Kd.R_reads' (e := 48) (base := w.heap.size) (ok := fun k_ => (((True ∧ some k_ ≠ (.slice Ao19 t246.length co19 : Value).ownBlock) ∧ some k_ ≠ (.slice Ao33 t262.length co33 : Value).ownBlock) ∧ some k_ ≠ (.slice Ao41 t270.length co41 : Value).ownBlock)) (n := t253.length) (c := co25) ?_).2.2; exact q8_22); (case side8 => exact (Kd.R_reads' HO255.out).2.1); rintro e w51 ⟨rfl, hb⟩; refine ⟨_, rfl, ?_⟩; have n0_ := Aside0.mk (Kd.R_below q8_59 hb); have n1_ := Aside0.mk (Kd.R_below (by (with_reducible repeat (first | apply Kd.R_alloc | apply Kd.R_drewN | apply Kd.R_drew)); exact (Kd.R_mono (Kd.R_far (p := ⟨gb274, 2, none⟩) (Kd.R_far (p := ⟨gb274, 1, none⟩) (Kd.R_far (p := ⟨gb274, 0, none⟩) (Kd.R_types HO248.out BK274.out q8_44) (fun _ hk => hk.2) (.int .i64 t266)) (fun _ hk => hk.2) (.slice Ao40 t267.length co40)) (fun _ hk => hk.2) (.slice Ao41 t270.length co41)) (fun _ h_ => h_.1))) hb); have n2_ := Aside0.mk (Kd.R_below q8_21 hb); have n3_ := Aside0.mk (Kd.R_below q8_22 hb); have n4_ := Aside0.mk (Kd.R_below (by (with_reducible repeat (first | apply Kd.R_alloc | apply Kd.R_drewN | apply Kd.R_drew)); exact (Kd.R_mono (Kd.R_far (p := ⟨gb274, 2, none⟩) (Kd.R_far (p := ⟨gb274, 1, none⟩) (Kd.R_far (p := ⟨gb274, 0, none⟩) (Kd.R_types HO261.out BK274.out q8_44) (fun _ hk => hk.2) (.int .i64 t266)) (fun _ hk => hk.2) (.slice Ao40 t267.length co40)) (fun _ hk => hk.2) (.slice Ao41 t270.length co41)) (fun _ h_ => h_.1))) hb); have n5_ := Aside0.mk (Kd.R_below (by (with_reducible repeat (first | apply Kd.R_alloc | apply Kd.R_drewN | apply Kd.R_drew)); exact (Kd.R_mono (Kd.R_far (p := ⟨gb274, 2, none⟩) (Kd.R_far (p := ⟨gb274, 1, none⟩) (Kd.R_far (p := ⟨gb274, 0, none⟩) (Kd.R_types HO264.out BK274.out q8_44) (fun _ hk => hk.2) (.int .i64 t266)) (fun _ hk => hk.2) (.slice Ao40 t267.length co40)) (fun _ hk => hk.2) (.slice Ao41 t270.length co41)) (fun _ h_ => h_.1))) hb); have n6_ := Aside0.mk (Kd.R_below q8_19 hb); have n7_ := Aside0.mk (Kd.R_below q8_20 hb); have n8_ := Aside0.mk (blk_below (g := gb240) (o := .cells #[.int .i64 a0_0, .slice A0_1 l0_1.length c0_1, .slice A0_2 l0_2.length c0_2] 25 (0, 0)) q8_35 hb); have n9_ := Aside0.mk (blk_below (g := gb257) (o := .cells #[.int .i64 t249, .slice Ao24 t250.length co24, .slice Ao25 t253.length co25] 30 (0, 0)) q8_36 hb); have n10_ := Aside0.mk (blk_below (g := gb265) (o := .cells #[.int .i64 t258, .slice Ao32 t259.length co32, .slice Ao33 t262.length co33] 30 (0, 0)) q8_37 hb); have n11_ := Aside0.mk (blk_below (g := gb274) (o := .cells #[.int .i64 t266, .slice Ao40 t267.length co40, .slice Ao41 t270.length co41] 30 (0, 0)) q8_32 hb); have n12_ := Aside0.mk (below_step q8_0 hb); clear HO245; clear HO248; clear HO252; clear HO255; clear HO261; clear HO264; clear HO269; clear HO272; clear BK240; clear BK257; clear BK265; clear BK274; clear HB; have HO245 := n0_; have HO248 := n1_; have HO252 := n2_; have HO255 := n3_; have HO261 := n4_; have HO264 := n5_; have HO269 := n6_; have HO272 := n7_; have BK240 := n8_; have BK257 := n9_; have BK265 := n10_; have BK274 := n11_; have HB := n12_; clear n0_ n1_ n2_ n3_ n4_ n5_ n6_ n7_ n8_ n9_ n10_ n11_ n12_; (try clear hb); (try clear hb2); (try clear hk); (try clear hi)))
    go_meet
    case rel => exact ⟨_, ((t273 != t256)), (by first | rfl | (simp; done) | (simp [*]; done)), H', ⟨by first | omega | exact Nat.le_refl _⟩, ⟨by (with_reducible repeat (first | apply Kd.R_alloc | apply Kd.R_drewN | apply Kd.R_drew)); exact Kd.R_mono HO252.out (fun _ hk => ⟨hk.1.2, hk.2⟩)⟩, ⟨by (with_reducible repeat (first | apply Kd.R_alloc | apply Kd.R_drewN | apply Kd.R_drew)); exact Kd.R_mono HO255.out (fun _ hk => ⟨hk.1.2, hk.2⟩)⟩, ⟨by (with_reducible repeat (first | apply Kd.R_alloc | apply Kd.R_drewN | apply Kd.R_drew)); exact Kd.R_mono HO261.out (fun _ hk => ⟨hk.1.2, hk.2⟩)⟩, ⟨by (with_reducible repeat (first | apply Kd.R_alloc | apply Kd.R_drewN | apply Kd.R_drew)); exact Kd.R_mono HO264.out (fun _ hk => ⟨hk.1.2, hk.2⟩)⟩, ⟨by (with_reducible repeat (first | apply Kd.R_alloc | apply Kd.R_drewN | apply Kd.R_drew)); exact Kd.R_mono HO269.out (fun _ hk => ⟨hk.1.2, hk.2⟩)⟩, ⟨by (with_reducible repeat (first | apply Kd.R_alloc | apply Kd.R_drewN | apply Kd.R_drew)); exact Kd.R_mono HO272.out (fun _ hk => ⟨hk.1.2, hk.2⟩)⟩, ⟨q8_1⟩, ⟨q8_2⟩, ⟨q8_3⟩, ⟨q8_5⟩, ⟨q8_0⟩⟩
   ·replace c43 := Bool.eq_false_iff.mpr c43
    subst c43
    have H1 : (laws_FnExactRetire.j0 k a1 t256 t273 true a0_0 l0_1 l0_2 t249 t250 t253 t258 t259 t262 t266 t267 t270) = some r := by rw [if_neg (show ¬ (false = true) by decide)] at H; exact H
    clear H
    have H := H1
    clear H1
    have H' := Aside0.mk H
    clear H
    have hnb52 := NB274_240.out
    have hnc52 := NB240_274.out
    have hnb53 := NB274_257.out
    have hnc53 := NB257_274.out
    have hnb54 := NB274_265.out
    have hnc54 := NB265_274.out
    have hcz55_0 : w35.cell? ⟨gb274, 0, none⟩ = some (.int .i64 0) := (blk_cell BK274.out 0).trans rfl
    have hcz55_1 : w35.cell? ⟨gb274, 1, none⟩ = some (.slice none 0 0) := (blk_cell BK274.out 1).trans rfl
    have hcz55_2 : w35.cell? ⟨gb274, 2, none⟩ = some (.slice none 0 0) := (blk_cell BK274.out 2).trans rfl
    have hfz55_0 := blk_frozen BK274.out 0
    have hfz55_1 := blk_frozen BK274.out 1
    have hfz55_2 := blk_frozen BK274.out 2
    have hnb56 := NB257_240.out
    have hnc56 := NB240_257.out
    have hnb57 := NB257_265.out
    have hnc57 := NB265_257.out
    have hcz58_0 : w35.cell? ⟨gb257, 0, none⟩ = some (.int .i64 t249) := (blk_cell BK257.out 0).trans rfl
    have hcz58_1 : w35.cell? ⟨gb257, 1, none⟩ = some (.slice Ao24 t250.length co24) := (blk_cell BK257.out 1).trans rfl
    have hcz58_2 : w35.cell? ⟨gb257, 2, none⟩ = some (.slice Ao25 t253.length co25) := (blk_cell BK257.out 2).trans rfl
    have hfz58_0 := blk_frozen BK257.out 0
    have hfz58_1 := blk_frozen BK257.out 1
    have hfz58_2 := blk_frozen BK257.out 2
    go_wp2_with (first | ((with_reducible refine gate_callee (f := 15) rfl ?_); refine goesL_ (some 38) rfl rfl Try.func15 (by kernel_rfl) rfl #[.agg #[.int .i64 t266, .slice Ao40 t267.length co40, .slice Ao41 t270.length co41], .agg #[.int .i64 t249, .slice Ao24 t250.length co24, .slice Ao25 t253.length co25]] rfl q8_4 ?_; (with_reducible refine (laws_eqAges.calls k t266 _ _ t267 _ _ t270 t249 _ _ t250 _ _ t253 false _ ?side1 ?side2 ?side3 ?side4 ?side5 ?side6 ?side7 ?side8 A42.out).mono ?_); (case side1 => refine (Kd.R_reads' (e := 3) (base := w.heap.size) (ok := fun k_ => (((True ∧ some k_ ≠ (.slice Ao18 t243.length co18 : Value).ownBlock) ∧ some k_ ≠ (.slice Ao24 t250.length co24 : Value).ownBlock) ∧ some k_ ≠ (.slice Ao32 t259.length co32 : Value).ownBlock)) (n := t267.length) (c := co40) ?_).2.2; exact q8_19); (case side2 => exact (Kd.R_reads' HO269.out).2.1); (case side3 => refine (Kd.R_reads' (e := 48) (base := w.heap.size) (ok := fun k_ => (((True ∧ some k_ ≠ (.slice Ao19 t246.length co19 : Value).ownBlock) ∧ some k_ ≠ (.slice Ao25 t253.length co25 : Value).ownBlock) ∧ some k_ ≠ (.slice Ao33 t262.length co33 : Value).ownBlock)) (n := t270.length) (c := co41) ?_).2.2; exact q8_20); (case side4 => exact (Kd.R_reads' HO272.out).2.1); (case side5 => refine (Kd.R_reads' (e := 3) (base := w.heap.size) (ok := fun k_ => (((True ∧ some k_ ≠ (.slice Ao18 t243.length co18 : Value).ownBlock) ∧ some k_ ≠ (.slice Ao32 t259.length co32 : Value).ownBlock) ∧ some k_ ≠ (.slice Ao40 t267.length co40 : Value).ownBlock)) (n := t250.length) (c := co24) ?_).2.2; exact q8_21); (case side6 => exact (Kd.R_reads' HO252.out).2.1); (case side7 => refine (Kd.R_reads' (e := 48) (base := w.heap.size) (ok := fun k_ => (((True ∧ some k_ ≠ (.slice Ao19 t246.length co19 : Value).ownBlock) ∧ some k_ ≠ (.slice Ao33 t262.length co33 : Value).ownBlock) ∧ some k_ ≠ (.slice Ao41 t270.length co41 : Value).ownBlock)) (n := t253.length) (c := co25) ?_).2.2; exact q8_22); (case side8 => exact (Kd.R_reads' HO255.out).2.1); rintro e w59 ⟨rfl, hb⟩; refine ⟨_, rfl, ?_⟩; have n0_ := Aside0.mk (Kd.R_below q8_59 hb); have n1_ := Aside0.mk (Kd.R_below (by (with_reducible repeat (first | apply Kd.R_alloc | apply Kd.R_drewN | apply Kd.R_drew)); exact (Kd.R_mono (Kd.R_far (p := ⟨gb274, 2, none⟩) (Kd.R_far (p := ⟨gb274, 1, none⟩) (Kd.R_far (p := ⟨gb274, 0, none⟩) (Kd.R_types HO248.out BK274.out q8_44) (fun _ hk => hk.2) (.int .i64 t266)) (fun _ hk => hk.2) (.slice Ao40 t267.length co40)) (fun _ hk => hk.2) (.slice Ao41 t270.length co41)) (fun _ h_ => h_.1))) hb); have n2_ := Aside0.mk (Kd.R_below q8_21 hb); have n3_ := Aside0.mk (Kd.R_below q8_22 hb); have n4_ := Aside0.mk (Kd.R_below (by (with_reducible repeat (first | apply Kd.R_alloc | apply Kd.R_drewN | apply Kd.R_drew)); exact (Kd.R_mono (Kd.R_far (p := ⟨gb274, 2, none⟩) (Kd.R_far (p := ⟨gb274, 1, none⟩) (Kd.R_far (p := ⟨gb274, 0, none⟩) (Kd.R_types HO261.out BK274.out q8_44) (fun _ hk => hk.2) (.int .i64 t266)) (fun _ hk => hk.2) (.slice Ao40 t267.length co40)) (fun _ hk => hk.2) (.slice Ao41 t270.length co41)) (fun _ h_ => h_.1))) hb); have n5_ := Aside0.mk (Kd.R_below (by (with_reducible repeat (first | apply Kd.R_alloc | apply Kd.R_drewN | apply Kd.R_drew)); exact (Kd.R_mono (Kd.R_far (p := ⟨gb274, 2, none⟩) (Kd.R_far (p := ⟨gb274, 1, none⟩) (Kd.R_far (p := ⟨gb274, 0, none⟩) (Kd.R_types HO264.out BK274.out q8_44) (fun _ hk => hk.2) (.int .i64 t266)) (fun _ hk => hk.2) (.slice Ao40 t267.length co40)) (fun _ hk => hk.2) (.slice Ao41 t270.length co41)) (fun _ h_ => h_.1))) hb); have n6_ := Aside0.mk (Kd.R_below q8_19 hb); have n7_ := Aside0.mk (Kd.R_below q8_20 hb); have n8_ := Aside0.mk (blk_below (g := gb240) (o := .cells #[.int .i64 a0_0, .slice A0_1 l0_1.length c0_1, .slice A0_2 l0_2.length c0_2] 25 (0, 0)) q8_35 hb); have n9_ := Aside0.mk (blk_below (g := gb257) (o := .cells #[.int .i64 t249, .slice Ao24 t250.length co24, .slice Ao25 t253.length co25] 30 (0, 0)) q8_36 hb); have n10_ := Aside0.mk (blk_below (g := gb265) (o := .cells #[.int .i64 t258, .slice Ao32 t259.length co32, .slice Ao33 t262.length co33] 30 (0, 0)) q8_37 hb); have n11_ := Aside0.mk (blk_below (g := gb274) (o := .cells #[.int .i64 t266, .slice Ao40 t267.length co40, .slice Ao41 t270.length co41] 30 (0, 0)) q8_32 hb); have n12_ := Aside0.mk (below_step q8_0 hb); clear HO245; clear HO248; clear HO252; clear HO255; clear HO261; clear HO264; clear HO269; clear HO272; clear BK240; clear BK257; clear BK265; clear BK274; clear HB; have HO245 := n0_; have HO248 := n1_; have HO252 := n2_; have HO255 := n3_; have HO261 := n4_; have HO264 := n5_; have HO269 := n6_; have HO272 := n7_; have BK240 := n8_; have BK257 := n9_; have BK265 := n10_; have BK274 := n11_; have HB := n12_; clear n0_ n1_ n2_ n3_ n4_ n5_ n6_ n7_ n8_ n9_ n10_ n11_ n12_; (try clear hb); (try clear hb2); (try clear hk); (try clear hi)))
    go_meet
    case rel => exact ⟨_, (true), (by first | rfl | (simp; done) | (simp [*]; done)), H', ⟨by first | omega | exact Nat.le_refl _⟩, ⟨by (with_reducible repeat (first | apply Kd.R_alloc | apply Kd.R_drewN | apply Kd.R_drew)); exact Kd.R_mono HO252.out (fun _ hk => ⟨hk.1.2, hk.2⟩)⟩, ⟨by (with_reducible repeat (first | apply Kd.R_alloc | apply Kd.R_drewN | apply Kd.R_drew)); exact Kd.R_mono HO255.out (fun _ hk => ⟨hk.1.2, hk.2⟩)⟩, ⟨by (with_reducible repeat (first | apply Kd.R_alloc | apply Kd.R_drewN | apply Kd.R_drew)); exact Kd.R_mono HO261.out (fun _ hk => ⟨hk.1.2, hk.2⟩)⟩, ⟨by (with_reducible repeat (first | apply Kd.R_alloc | apply Kd.R_drewN | apply Kd.R_drew)); exact Kd.R_mono HO264.out (fun _ hk => ⟨hk.1.2, hk.2⟩)⟩, ⟨by (with_reducible repeat (first | apply Kd.R_alloc | apply Kd.R_drewN | apply Kd.R_drew)); exact Kd.R_mono HO269.out (fun _ hk => ⟨hk.1.2, hk.2⟩)⟩, ⟨by (with_reducible repeat (first | apply Kd.R_alloc | apply Kd.R_drewN | apply Kd.R_drew)); exact Kd.R_mono HO272.out (fun _ hk => ⟨hk.1.2, hk.2⟩)⟩, ⟨q8_1⟩, ⟨q8_2⟩, ⟨q8_3⟩, ⟨q8_5⟩, ⟨q8_0⟩⟩
  case rest =>
   clear HC12
   (try clear c1); (try clear c2); (try clear p2); (try clear c3); (try clear c4); (try clear c4b0); (try clear c5); (try clear c7); (try clear c11); (try clear c13); (try clear c15); (try clear c22); (try clear c24); (try clear c25); (try clear c29); (try clear c30); (try clear c36); (try clear c37); (try clear c38); (try clear c43); (try clear c44); (try clear c45); (try clear c46); (try clear c48); (try clear c49); (try clear c52); (try clear c53); (try clear c54); (try clear c56); (try clear c57); (try clear hcz14_0); (try clear hcz14_1); (try clear hcz14_2); (try clear hcz16_0); (try clear hcz16_1); (try clear hcz16_2); (try clear hcz23_0); (try clear hcz23_1); (try clear hcz23_2); (try clear hcz26_0); (try clear hcz26_1); (try clear hcz26_2); (try clear hcz31_0); (try clear hcz31_1); (try clear hcz31_2); (try clear hcz39_0); (try clear hcz39_1); (try clear hcz39_2); (try clear hcz47_0); (try clear hcz47_1); (try clear hcz47_2); (try clear hcz50_0); (try clear hcz50_1); (try clear hcz50_2); (try clear hcz55_0); (try clear hcz55_1); (try clear hcz55_2); (try clear hcz58_0); (try clear hcz58_1); (try clear hcz58_2); (try clear hcz6_0); (try clear hcz6_1); (try clear hcz6_2); (try clear hfz14_0); (try clear hfz14_1); (try clear hfz14_2); (try clear hfz16_0); (try clear hfz16_1); (try clear hfz16_2); (try clear hfz23_0); (try clear hfz23_1); (try clear hfz23_2); (try clear hfz26_0); (try clear hfz26_1); (try clear hfz26_2); (try clear hfz31_0); (try clear hfz31_1); (try clear hfz31_2); (try clear hfz39_0); (try clear hfz39_1); (try clear hfz39_2); (try clear hfz47_0); (try clear hfz47_1); (try clear hfz47_2); (try clear hfz50_0); (try clear hfz50_1); (try clear hfz50_2); (try clear hfz55_0); (try clear hfz55_1); (try clear hfz55_2); (try clear hfz58_0); (try clear hfz58_1); (try clear hfz58_2); (try clear hfz6_0); (try clear hfz6_1); (try clear hfz6_2)
   obtain ⟨kq, x44_11, rfl, HA, HJ11, HO_258001, HO_258002, HO_266001, HO_266002, HO_275001, HO_275002, BK240, BK257, BK265, BK274, HB⟩ := hcut
   cases kq with
   | zero => exact absurd HA.out (by simp [laws_FnExactRetire.j0])
   | succ kj11 =>
    have H := HA.out
    clear HA
    simp only [laws_FnExactRetire.j0] at H
    by_cases c60 : x44_11 = true
    ·subst c60
     have H1 : (some false) = some r := by rw [if_pos rfl] at H; exact H
     clear H
     have H := H1
     clear H1
     obtain rfl := Option.some.inj H
     go_wp2
     go_ret
     exact ⟨q8_30, q8_0⟩
    ·replace c60 := Bool.eq_false_iff.mpr c60
     subst c60
     have H1 : ((laws_toAges.f kj11 a0_0 l0_1 l0_2).bind fun bt276 => ((laws_eqAges.f kj11 t258 t259 t262 bt276.1 bt276.2.1 bt276.2.2).bind fun t283 => (if t283 = true then ((laws_markAges.f kj11 t258 t259 t262 1).bind fun bt284 => (if bt284.1 < 0 then (laws_FnExactRetire.j1 kj11 a1 t256 true a0_0 l0_1 l0_2 t249 t250 t253 t266 t267 t270) else ((laws_eqAges.f kj11 t266 t267 t270 t249 t250 t253).bind fun t287 => (if t287 = true then (laws_FnExactRetire.j1 kj11 a1 t256 (t273 != t256) a0_0 l0_1 l0_2 t249 t250 t253 t266 t267 t270) else (laws_FnExactRetire.j1 kj11 a1 t256 true a0_0 l0_1 l0_2 t249 t250 t253 t266 t267 t270))))) else (some false)))) = some r := by rw [if_neg (show ¬ (false = true) by decide)] at H; exact H
     clear H
     have H := H1
     clear H1
     replace H := Option.bind_eq_some_iff.mp H
     obtain ⟨⟨t276, t277, t280⟩, A610, H⟩ := H
     replace H : ((laws_eqAges.f kj11 t258 t259 t262 t276 t277 t280).bind fun t283 => (if t283 = true then ((laws_markAges.f kj11 t258 t259 t262 1).bind fun bt284 => (if bt284.1 < 0 then (laws_FnExactRetire.j1 kj11 a1 t256 true a0_0 l0_1 l0_2 t249 t250 t253 t266 t267 t270) else ((laws_eqAges.f kj11 t266 t267 t270 t249 t250 t253).bind fun t287 => (if t287 = true then (laws_FnExactRetire.j1 kj11 a1 t256 (t273 != t256) a0_0 l0_1 l0_2 t249 t250 t253 t266 t267 t270) else (laws_FnExactRetire.j1 kj11 a1 t256 true a0_0 l0_1 l0_2 t249 t250 t253 t266 t267 t270))))) else (some false))) = some r := H
     have A61 := Aside0.mk A610
     clear A610
     replace H := Option.bind_eq_some_iff.mp H
     obtain ⟨t283, A620, H⟩ := H
     replace H : (if t283 = true then ((laws_markAges.f kj11 t258 t259 t262 1).bind fun bt284 => (if bt284.1 < 0 then (laws_FnExactRetire.j1 kj11 a1 t256 true a0_0 l0_1 l0_2 t249 t250 t253 t266 t267 t270) else ((laws_eqAges.f kj11 t266 t267 t270 t249 t250 t253).bind fun t287 => (if t287 = true then (laws_FnExactRetire.j1 kj11 a1 t256 (t273 != t256) a0_0 l0_1 l0_2 t249 t250 t253 t266 t267 t270) else (laws_FnExactRetire.j1 kj11 a1 t256 true a0_0 l0_1 l0_2 t249 t250 t253 t266 t267 t270))))) else (some false)) = some r := H
     have A62 := Aside0.mk A620
     clear A620
     by_cases c63 : t283 = true
     ·subst c63
      have H1 : ((laws_markAges.f kj11 t258 t259 t262 1).bind fun bt284 => (if bt284.1 < 0 then (laws_FnExactRetire.j1 kj11 a1 t256 true a0_0 l0_1 l0_2 t249 t250 t253 t266 t267 t270) else ((laws_eqAges.f kj11 t266 t267 t270 t249 t250 t253).bind fun t287 => (if t287 = true then (laws_FnExactRetire.j1 kj11 a1 t256 (t273 != t256) a0_0 l0_1 l0_2 t249 t250 t253 t266 t267 t270) else (laws_FnExactRetire.j1 kj11 a1 t256 true a0_0 l0_1 l0_2 t249 t250 t253 t266 t267 t270))))) = some r := by rw [if_pos rfl] at H; exact H
      clear H
      have H := H1
      clear H1
      replace H := Option.bind_eq_some_iff.mp H
      obtain ⟨⟨t284, t285, t286⟩, A640, H⟩ := H
      replace H : (if t284 < 0 then (laws_FnExactRetire.j1 kj11 a1 t256 true a0_0 l0_1 l0_2 t249 t250 t253 t266 t267 t270) else ((laws_eqAges.f kj11 t266 t267 t270 t249 t250 t253).bind fun t287 => (if t287 = true then (laws_FnExactRetire.j1 kj11 a1 t256 (t273 != t256) a0_0 l0_1 l0_2 t249 t250 t253 t266 t267 t270) else (laws_FnExactRetire.j1 kj11 a1 t256 true a0_0 l0_1 l0_2 t249 t250 t253 t266 t267 t270)))) = some r := H
      have A64 := Aside0.mk A640
      clear A640
      have HC65 := Aside0.mk H
      clear H
      try go_wp2
      have n0_ := Aside0.mk (Kd.R_drew HO_258001.out)
      have n1_ := Aside0.mk (Kd.R_drew HO_258002.out)
      have n2_ := Aside0.mk (Kd.R_drew HO_266001.out)
      have n3_ := Aside0.mk (Kd.R_drew HO_266002.out)
      have n4_ := Aside0.mk (Kd.R_drew HO_275001.out)
      have n5_ := Aside0.mk (Kd.R_drew HO_275002.out)
      have n6_ := Aside0.mk (blk_drew BK240.out)
      have n7_ := Aside0.mk (blk_drew BK257.out)
      have n8_ := Aside0.mk (blk_drew BK265.out)
      have n9_ := Aside0.mk (blk_drew BK274.out)
      have n10_ := Aside0.mk (below_drew1 HB.out)
      clear HO_258001
      clear HO_258002
      clear HO_266001
      clear HO_266002
      clear HO_275001
      clear HO_275002
      clear BK240
      clear BK257
      clear BK265
      clear BK274
      clear HB
      have HO_258001 := n0_
      have HO_258002 := n1_
      have HO_266001 := n2_
      have HO_266002 := n3_
      have HO_275001 := n4_
      have HO_275002 := n5_
      have BK240 := n6_
      have BK257 := n7_
      have BK265 := n8_
      have BK274 := n9_
      have HB := n10_
      clear n0_ n1_ n2_ n3_ n4_ n5_ n6_ n7_ n8_ n9_ n10_
      refine start_ (n := 5) (S := fun w' => w'.cell? ⟨gb265, 0, none⟩ = some (.int .i64 t258) ∧ w'.cell? ⟨gb265, 1, none⟩ = some (.slice Ao32 t259.length co32) ∧ w'.cell? ⟨gb265, 2, none⟩ = some (.slice Ao33 t262.length co33) ∧ w'.cell? ⟨gb240, 0, none⟩ = some (.int .i64 a0_0) ∧ w'.cell? ⟨gb240, 1, none⟩ = some (.slice A0_1 l0_1.length c0_1) ∧ w'.cell? ⟨gb240, 2, none⟩ = some (.slice A0_2 l0_2.length c0_2)) (ds := []) #[F,F,F,F,F] (by kernel_rfl) rfl rfl ⟨(blk_cell BK265.out 0).trans rfl, (blk_cell BK265.out 1).trans rfl, (blk_cell BK265.out 2).trans rfl, (blk_cell BK240.out 0).trans rfl, (blk_cell BK240.out 1).trans rfl, (blk_cell BK240.out 2).trans rfl⟩ (fun hHeld => ?_)
      generalize wc.drew = w66 at HO_258001 HO_258002 HO_266001 HO_266002 HO_275001 HO_275002 BK240 BK257 BK265 BK274 HB hHeld ⊢
      refine take_ (i := 0) (N := some 45) (v := ?_) (a' := ?_) #[T,F,F,F,F] rfl rfl (by kernel_rfl) (fun _ _ _ h => h) (Or.inl ⟨by rfl, ?_⟩) hHeld ?_ ?_
      rotate_left
      ·rintro w' ⟨s0, s1, s2, s3, s4, s5⟩
       go_simp
       with_reducible rfl
      rotate_left
      ·simp only [Act.put, List.setIfInBounds_toArray, List.set_cons_zero, List.set_cons_succ, i64_w, i32_w]
       rfl
      refine take_ (i := 1) (N := some 46) (v := ?_) (a' := ?_) #[T,T,F,F,F] rfl rfl (by kernel_rfl) (fun _ _ _ h => h) (Or.inl ⟨by rfl, ?_⟩) hHeld ?_ ?_
      rotate_left
      ·rintro w' ⟨s0, s1, s2, s3, s4, s5⟩
       go_simp
       with_reducible rfl
      rotate_left
      ·simp only [Act.put, List.setIfInBounds_toArray, List.set_cons_zero, List.set_cons_succ, i64_w, i32_w]
       rfl
      refine one_ (i := 2) (N := some 47) #[T,T,T,F,F] rfl rfl (by kernel_rfl) q8_44 (fun K hK => ?_)
      refine goes_ Try.func13 (by kernel_rfl) rfl #[.agg #[.int .i64 a0_0, .slice A0_1 l0_1.length c0_1, .slice A0_2 l0_2.length c0_2]] (by rfl) rfl rfl q8_4 ?_
      with_reducible refine (laws_toAges.calls kj11 a0_0 _ _ l0_1 _ _ l0_2 t276 t277 t280 _ ?side1 ?side2 ?side3 ?side4 A61.out).mono ?_
      (case side1 => exact q8_26)
      (case side2 => exact HC0_1.out)
      (case side3 => exact q8_27)
      (case side4 => exact HC0_2.out)
      rintro e w67 ⟨v278, v281, rfl, ho0, ho1, hb⟩
      refine ⟨_, rfl, ?_⟩
      have n0_ := Aside0.mk (Kd.R_elder' q8_7 (Kd.R_base ho0) hb)
      have n1_ := Aside0.mk (Kd.R_elder' q8_8 (Kd.R_base ho1) hb)
      have n2_ := Aside0.mk (Kd.R_elder' q8_9 (Kd.R_base ho0) hb)
      have n3_ := Aside0.mk (Kd.R_elder' q8_10 (Kd.R_base ho1) hb)
      have n4_ := Aside0.mk (Kd.R_elder' q8_11 (Kd.R_base ho0) hb)
      have n5_ := Aside0.mk (Kd.R_elder' q8_12 (Kd.R_base ho1) hb)
      have n6_ := Aside0.mk (Kd.R_lower (Kd.R_new' (Kd.R_new' (Kd.R_new' ho0 (Kd.R_lt q8_7)) (Kd.R_lt q8_9)) (Kd.R_lt q8_11)) (below_size q8_0))
      have n7_ := Aside0.mk (Kd.R_lower (Kd.R_new' (Kd.R_new' (Kd.R_new' ho1 (Kd.R_lt q8_8)) (Kd.R_lt q8_10)) (Kd.R_lt q8_12)) (below_size q8_0))
      have n8_ := Aside0.mk (blk_below (g := gb240) (o := .cells #[.int .i64 a0_0, .slice A0_1 l0_1.length c0_1, .slice A0_2 l0_2.length c0_2] 25 (0, 0)) q8_1 hb)
      have n9_ := Aside0.mk (blk_below (g := gb257) (o := .cells #[.int .i64 t249, .slice Ao24 t250.length co24, .slice Ao25 t253.length co25] 30 (0, 0)) q8_2 hb)
      have n10_ := Aside0.mk (blk_below (g := gb265) (o := .cells #[.int .i64 t258, .slice Ao32 t259.length co32, .slice Ao33 t262.length co33] 30 (0, 0)) q8_3 hb)
      have n11_ := Aside0.mk (blk_below (g := gb274) (o := .cells #[.int .i64 t266, .slice Ao40 t267.length co40, .slice Ao41 t270.length co41] 30 (0, 0)) q8_5 hb)
      have n12_ := Aside0.mk (below_step q8_0 hb)
      clear HO_258001
      clear HO_258002
      clear HO_266001
      clear HO_266002
      clear HO_275001
      clear HO_275002
      clear BK240
      clear BK257
      clear BK265
      clear BK274
      clear HB
      have HO_258001 := n0_
      have HO_258002 := n1_
      have HO_266001 := n2_
      have HO_266002 := n3_
      have HO_275001 := n4_
      have HO_275002 := n5_
      have HO279 := n6_
      have HO282 := n7_
      have BK240 := n8_
      have BK257 := n9_
      have BK265 := n10_
      have BK274 := n11_
      have HB := n12_
      clear n0_ n1_ n2_ n3_ n4_ n5_ n6_ n7_ n8_ n9_ n10_ n11_ n12_
      (try clear hb)
      (try clear hb2)
      (try clear hk)
      (try clear hi)
      (try clear ho0)
      (try clear ho1)
      obtain ⟨Ao68, co68, eo68⟩ := Kd.R_slice HO279.out
      (first | subst eo68 | (injection eo68 with f1_ f2_ f3_; have f4_ := f1_.symm; have f5_ := f3_.symm; clear f1_ f2_ f3_; subst f4_; subst f5_))
      obtain ⟨Ao69, co69, eo69⟩ := Kd.R_slice HO282.out
      (first | subst eo69 | (injection eo69 with f1_ f2_ f3_; have f4_ := f1_.symm; have f5_ := f3_.symm; clear f1_ f2_ f3_; subst f4_; subst f5_))
      refine hK.out _ _ ⟨(blk_cell BK265.out 0).trans rfl, (blk_cell BK265.out 1).trans rfl, (blk_cell BK265.out 2).trans rfl, (blk_cell BK240.out 0).trans rfl, (blk_cell BK240.out 1).trans rfl, (blk_cell BK240.out 2).trans rfl⟩ (fun hHeld => ?_)
      clear hK K
      refine norm_ (a' := ?_) ?_ ?_
      rotate_left
      ·show Act.put _ (some 47) _ = _
       simp only [Act.put, List.setIfInBounds_toArray, List.set_cons_zero, List.set_cons_succ, i64_w, i32_w]
       rfl
      refine one_ (i := 3) (N := some 48) #[T,T,T,T,F] rfl rfl (by kernel_rfl) q8_44 (fun K hK => ?_)
      refine goes_ Try.func15 (by kernel_rfl) rfl #[.agg #[.int .i64 t258, .slice Ao32 t259.length co32, .slice Ao33 t262.length co33], .agg #[.int .i64 t276, .slice Ao68 t277.length co68, .slice Ao69 t280.length co69]] (by rfl) rfl rfl q8_4 ?_
      with_reducible refine (laws_eqAges.calls kj11 t258 _ _ t259 _ _ t262 t276 _ _ t277 _ _ t280 true _ ?side1 ?side2 ?side3 ?side4 ?side5 ?side6 ?side7 ?side8 A62.out).mono ?_
      (case side1 => repeat (first | exact (Kd.R_reads' HO_266001.out).2.2 | (with_reducible refine Kd.C_alloc ?_ _) | (with_reducible refine Kd.C_drewN ?_ _) | (with_reducible refine Kd.C_drew ?_)))
      (case side2 => exact (Kd.R_reads' HO_266001.out).2.1)
      (case side3 => repeat (first | exact (Kd.R_reads' HO_266002.out).2.2 | (with_reducible refine Kd.C_alloc ?_ _) | (with_reducible refine Kd.C_drewN ?_ _) | (with_reducible refine Kd.C_drew ?_)))
      (case side4 => exact (Kd.R_reads' HO_266002.out).2.1)
      (case side5 => repeat (first | exact (Kd.R_reads' HO279.out).2.2 | (with_reducible refine Kd.C_alloc ?_ _) | (with_reducible refine Kd.C_drewN ?_ _) | (with_reducible refine Kd.C_drew ?_)))
      (case side6 => exact (Kd.R_reads' HO279.out).2.1)
      (case side7 => repeat (first | exact (Kd.R_reads' HO282.out).2.2 | (with_reducible refine Kd.C_alloc ?_ _) | (with_reducible refine Kd.C_drewN ?_ _) | (with_reducible refine Kd.C_drew ?_)))
      (case side8 => exact (Kd.R_reads' HO282.out).2.1)
      rintro e w70 ⟨rfl, hb⟩
      refine ⟨_, rfl, ?_⟩
      have n0_ := Aside0.mk (Kd.R_below q8_7 hb)
      have n1_ := Aside0.mk (Kd.R_below q8_8 hb)
      have n2_ := Aside0.mk (Kd.R_below q8_9 hb)
      have n3_ := Aside0.mk (Kd.R_below q8_10 hb)
      have n4_ := Aside0.mk (Kd.R_below q8_11 hb)
      have n5_ := Aside0.mk (Kd.R_below q8_12 hb)
      have n6_ := Aside0.mk (Kd.R_below (by (with_reducible repeat (first | apply Kd.R_alloc | apply Kd.R_drewN | apply Kd.R_drew)); exact HO279.out) hb)
      have n7_ := Aside0.mk (Kd.R_below (by (with_reducible repeat (first | apply Kd.R_alloc | apply Kd.R_drewN | apply Kd.R_drew)); exact HO282.out) hb)
      have n8_ := Aside0.mk (blk_below (g := gb240) (o := .cells #[.int .i64 a0_0, .slice A0_1 l0_1.length c0_1, .slice A0_2 l0_2.length c0_2] 25 (0, 0)) q8_1 hb)
      have n9_ := Aside0.mk (blk_below (g := gb257) (o := .cells #[.int .i64 t249, .slice Ao24 t250.length co24, .slice Ao25 t253.length co25] 30 (0, 0)) q8_2 hb)
      have n10_ := Aside0.mk (blk_below (g := gb265) (o := .cells #[.int .i64 t258, .slice Ao32 t259.length co32, .slice Ao33 t262.length co33] 30 (0, 0)) q8_3 hb)
      have n11_ := Aside0.mk (blk_below (g := gb274) (o := .cells #[.int .i64 t266, .slice Ao40 t267.length co40, .slice Ao41 t270.length co41] 30 (0, 0)) q8_5 hb)
      have n12_ := Aside0.mk (below_step q8_0 hb)
      clear HO_258001
      clear HO_258002
      clear HO_266001
      clear HO_266002
      clear HO_275001
      clear HO_275002
      clear HO279
      clear HO282
      clear BK240
      clear BK257
      clear BK265
      clear BK274
      clear HB
      have HO_258001 := n0_
      have HO_258002 := n1_
      have HO_266001 := n2_
      have HO_266002 := n3_
      have HO_275001 := n4_
      have HO_275002 := n5_
      have HO279 := n6_
      have HO282 := n7_
      have BK240 := n8_
      have BK257 := n9_
      have BK265 := n10_
      have BK274 := n11_
      have HB := n12_
      clear n0_ n1_ n2_ n3_ n4_ n5_ n6_ n7_ n8_ n9_ n10_ n11_ n12_
      (try clear hb)
      (try clear hb2)
      (try clear hk)
      (try clear hi)
      refine hK.out _ _ ⟨(blk_cell BK265.out 0).trans rfl, (blk_cell BK265.out 1).trans rfl, (blk_cell BK265.out 2).trans rfl, (blk_cell BK240.out 0).trans rfl, (blk_cell BK240.out 1).trans rfl, (blk_cell BK240.out 2).trans rfl⟩ (fun hHeld => ?_)
      clear hK K
      refine norm_ (a' := ?_) ?_ ?_
      rotate_left
      ·show Act.put _ (some 48) _ = _
       simp only [Act.put, List.setIfInBounds_toArray, List.set_cons_zero, List.set_cons_succ, i64_w, i32_w]
       rfl
      refine pure_ (i := 4) (N := some 49) (v := ?_) (a' := ?_) #[T,T,T,T,T] rfl rfl (by kernel_rfl) (fun _ _ _ h => h) (Or.inl ⟨by rfl, ?_⟩) ?_ ?_
      rotate_left
      ·intro w'
       go_simp
       with_reducible rfl
      rotate_left
      ·simp only [Act.put, List.setIfInBounds_toArray, List.set_cons_zero, List.set_cons_succ, i64_w, i32_w]
       rfl
      refine done_ (by kernel_rfl) ?_
      have hnb71 := NB265_240.out
      have hnc71 := NB240_265.out
      have hnb72 := NB265_257.out
      have hnc72 := NB257_265.out
      have hnb73 := NB265_274.out
      have hnc73 := NB274_265.out
      have hcz74_0 : w70.cell? ⟨gb265, 0, none⟩ = some (.int .i64 t258) := (blk_cell BK265.out 0).trans rfl
      have hcz74_1 : w70.cell? ⟨gb265, 1, none⟩ = some (.slice Ao32 t259.length co32) := (blk_cell BK265.out 1).trans rfl
      have hcz74_2 : w70.cell? ⟨gb265, 2, none⟩ = some (.slice Ao33 t262.length co33) := (blk_cell BK265.out 2).trans rfl
      have hfz74_0 := blk_frozen BK265.out 0
      have hfz74_1 := blk_frozen BK265.out 1
      have hfz74_2 := blk_frozen BK265.out 2
      go_upto_region 14 with (first | ((with_reducible refine gate_callee (f := 18) rfl ?_); refine goesL_ (some 52) rfl rfl Try.func18 (by kernel_rfl) rfl #[.agg #[.int .i64 t258, .slice Ao32 t259.length co32, .slice Ao33 t262.length co33], .int .i64 1] rfl q8_4 ?_; (with_reducible refine (laws_markAges.calls kj11 t258 (fun k_ => some k_ = (.slice Ao32 t259.length co32 : Value).ownBlock) (.slice Ao32 t259.length co32) t259 (fun k_ => some k_ = (.slice Ao33 t262.length co33 : Value).ownBlock) (.slice Ao33 t262.length co33) t262 1 t284 t285 t286 w _ ?side1 ?side2 ?side3 A64.out).mono ?_); (case side1 => exact q8_0); (case side2 => exact Kd.R_tight rfl HO_266001.out); (case side3 => exact Kd.R_tight rfl HO_266002.out); rintro e w75 ⟨rfl, hy0, hy1, hb, hkp⟩; refine ⟨_, rfl, ?_⟩; have n0_ := Aside0.mk (Kd.R_mono (ok' := fun k_ => some k_ ≠ (.slice Ao32 t259.length co32 : Value).ownBlock ∧ some k_ ≠ (.slice Ao40 t267.length co40 : Value).ownBlock ∧ some k_ ≠ (.slice Ao68 t277.length co68 : Value).ownBlock) (Kd.R_keptB ((Kd.R_apart' HO_258001.out (Kd.R_typed HO_266002.out) q8_44)) hkp (fun k_ hk_ hs_ => Or.elim hs_ (fun e_ => (hk_.1.1.1) e_) (fun e_ => (hk_.2) e_))) (fun k_ hk_ => ⟨hk_.1.1.1.1, hk_.1.1.1.2, hk_.1.1.2⟩)); have n1_ := Aside0.mk (Kd.R_mono (ok' := fun k_ => some k_ ≠ (.slice Ao33 t262.length co33 : Value).ownBlock ∧ some k_ ≠ (.slice Ao41 t270.length co41 : Value).ownBlock ∧ some k_ ≠ (.slice Ao69 t280.length co69 : Value).ownBlock) (Kd.R_keptB ((Kd.R_apart' HO_258002.out (Kd.R_typed HO_266001.out) q8_44)) hkp (fun k_ hk_ hs_ => Or.elim hs_ (fun e_ => (hk_.2) e_) (fun e_ => (hk_.1.1.1) e_))) (fun k_ hk_ => ⟨hk_.1.1.1.1, hk_.1.1.1.2, hk_.1.1.2⟩)); have n2_ := Aside0.mk (Kd.R_reok rfl hy0 (fun k_ e_ => HO_266001.out.1 k_ e_)); have n3_ := Aside0.mk (Kd.R_reok rfl hy1 (fun k_ e_ => HO_266002.out.1 k_ e_)); have n4_ := Aside0.mk (Kd.R_mono (ok' := fun k_ => some k_ ≠ (.slice Ao24 t250.length co24 : Value).ownBlock ∧ some k_ ≠ (.slice Ao32 t259.length co32 : Value).ownBlock ∧ some k_ ≠ (.slice Ao68 t277.length co68 : Value).ownBlock) (Kd.R_keptB ((Kd.R_apart' HO_275001.out (Kd.R_typed HO_266002.out) q8_44)) hkp (fun k_ hk_ hs_ => Or.elim hs_ (fun e_ => (hk_.1.1.2) e_) (fun e_ => (hk_.2) e_))) (fun k_ hk_ => ⟨hk_.1.1.1.1, hk_.1.1.1.2, hk_.1.1.2⟩)); have n5_ := Aside0.mk (Kd.R_mono (ok' := fun k_ => some k_ ≠ (.slice Ao25 t253.length co25 : Value).ownBlock ∧ some k_ ≠ (.slice Ao33 t262.length co33 : Value).ownBlock ∧ some k_ ≠ (.slice Ao69 t280.length co69 : Value).ownBlock) (Kd.R_keptB ((Kd.R_apart' HO_275002.out (Kd.R_typed HO_266001.out) q8_44)) hkp (fun k_ hk_ hs_ => Or.elim hs_ (fun e_ => (hk_.2) e_) (fun e_ => (hk_.1.1.2) e_))) (fun k_ hk_ => ⟨hk_.1.1.1.1, hk_.1.1.1.2, hk_.1.1.2⟩)); have n6_ := Aside0.mk (blk_kept q8_1 hkp (fun hs_ => Or.elim hs_ (fun e_ => (fun e_ => (Kd.R_ne HO_266001.out BK240.out q8_44) e_) e_) (fun e_ => (fun e_ => (Kd.R_ne HO_266002.out BK240.out q8_44) e_) e_))); have n7_ := Aside0.mk (blk_kept q8_2 hkp (fun hs_ => Or.elim hs_ (fun e_ => (fun e_ => (Kd.R_ne HO_266001.out BK257.out q8_44) e_) e_) (fun e_ => (fun e_ => (Kd.R_ne HO_266002.out BK257.out q8_44) e_) e_))); have n8_ := Aside0.mk (blk_kept q8_3 hkp (fun hs_ => Or.elim hs_ (fun e_ => (fun e_ => (Kd.R_ne HO_266001.out BK265.out q8_44) e_) e_) (fun e_ => (fun e_ => (Kd.R_ne HO_266002.out BK265.out q8_44) e_) e_))); have n9_ := Aside0.mk (blk_kept q8_5 hkp (fun hs_ => Or.elim hs_ (fun e_ => (fun e_ => (Kd.R_ne HO_266001.out BK274.out q8_44) e_) e_) (fun e_ => (fun e_ => (Kd.R_ne HO_266002.out BK274.out q8_44) e_) e_))); have n10_ := Aside0.mk (Kd.R_mono (ok' := fun k_ => some k_ ≠ (.slice Ao24 t250.length co24 : Value).ownBlock ∧ some k_ ≠ (.slice Ao32 t259.length co32 : Value).ownBlock ∧ some k_ ≠ (.slice Ao40 t267.length co40 : Value).ownBlock) (Kd.R_keptB ((Kd.R_apart' HO279.out (Kd.R_typed HO_266002.out) q8_44)) hkp (fun k_ hk_ hs_ => Or.elim hs_ (fun e_ => (hk_.1.1.2) e_) (fun e_ => (hk_.2) e_))) (fun k_ hk_ => ⟨hk_.1.1.1.1.2, hk_.1.1.1.2, hk_.1.1.2⟩)); have n11_ := Aside0.mk (Kd.R_mono (ok' := fun k_ => some k_ ≠ (.slice Ao25 t253.length co25 : Value).ownBlock ∧ some k_ ≠ (.slice Ao33 t262.length co33 : Value).ownBlock ∧ some k_ ≠ (.slice Ao41 t270.length co41 : Value).ownBlock) (Kd.R_keptB ((Kd.R_apart' HO282.out (Kd.R_typed HO_266001.out) q8_44)) hkp (fun k_ hk_ hs_ => Or.elim hs_ (fun e_ => (hk_.2) e_) (fun e_ => (hk_.1.1.2) e_))) (fun k_ hk_ => ⟨hk_.1.1.1.1.2, hk_.1.1.1.2, hk_.1.1.2⟩)); have n12_ := Aside0.mk (hb); clear HO_258001; clear HO_258002; clear HO_266001; clear HO_266002; clear HO_275001; clear HO_275002; clear BK240; clear BK257; clear BK265; clear BK274; clear HO279; clear HO282; clear HB; have HO_258001 := n0_; have HO_258002 := n1_; have HO_266001 := n2_; have HO_266002 := n3_; have HO_275001 := n4_; have HO_275002 := n5_; have BK240 := n6_; have BK257 := n7_; have BK265 := n8_; have BK274 := n9_; have HO279 := n10_; have HO282 := n11_; have HB := n12_; clear n0_ n1_ n2_ n3_ n4_ n5_ n6_ n7_ n8_ n9_ n10_ n11_ n12_; (try clear hb); (try clear hkp); (try clear hy0); (try clear hy1)))
      (try simp only [Act.put, List.setIfInBounds_toArray, List.set_cons_zero, List.set_cons_succ])
      go_cut [65] (fun v65 wc => ∃ (kq : Nat) (x65_64 : Bool), v65 = .bool x65_64 ∧ Aside0 (laws_FnExactRetire.j1 kq a1 t256 x65_64 a0_0 l0_1 l0_2 t249 t250 t253 t266 t267 t270 = some r) ∧ Aside0 (kq ≤ kj11) ∧ Aside0 (Kd.R (Kd.int .i64) 3 wc w.heap.size (fun k_ => some k_ ≠ ((.slice Ao32 t259.length co32) : Value).ownBlock ∧ some k_ ≠ ((.slice Ao40 t267.length co40) : Value).ownBlock) (.slice Ao24 t250.length co24) t250) ∧ Aside0 (Kd.R k48 48 wc w.heap.size (fun k_ => some k_ ≠ ((.slice Ao33 t262.length co33) : Value).ownBlock ∧ some k_ ≠ ((.slice Ao41 t270.length co41) : Value).ownBlock) (.slice Ao25 t253.length co25) t253) ∧ Aside0 (Kd.R (Kd.int .i64) 3 wc w.heap.size (fun k_ => some k_ ≠ ((.slice Ao24 t250.length co24) : Value).ownBlock ∧ some k_ ≠ ((.slice Ao40 t267.length co40) : Value).ownBlock) (.slice Ao32 t259.length co32) t285) ∧ Aside0 (Kd.R k48 48 wc w.heap.size (fun k_ => some k_ ≠ ((.slice Ao25 t253.length co25) : Value).ownBlock ∧ some k_ ≠ ((.slice Ao41 t270.length co41) : Value).ownBlock) (.slice Ao33 t262.length co33) t286) ∧ Aside0 (Kd.R (Kd.int .i64) 3 wc w.heap.size (fun k_ => some k_ ≠ ((.slice Ao24 t250.length co24) : Value).ownBlock ∧ some k_ ≠ ((.slice Ao32 t259.length co32) : Value).ownBlock) (.slice Ao40 t267.length co40) t267) ∧ Aside0 (Kd.R k48 48 wc w.heap.size (fun k_ => some k_ ≠ ((.slice Ao25 t253.length co25) : Value).ownBlock ∧ some k_ ≠ ((.slice Ao33 t262.length co33) : Value).ownBlock) (.slice Ao41 t270.length co41) t270) ∧ Aside0 (wc.heap[gb240]? = some (.cells #[.int .i64 a0_0, (.slice A0_1 l0_1.length c0_1), (.slice A0_2 l0_2.length c0_2)] 25 (0, 0))) ∧ Aside0 (wc.heap[gb257]? = some (.cells #[.int .i64 t249, (.slice Ao24 t250.length co24), (.slice Ao25 t253.length co25)] 30 (0, 0))) ∧ Aside0 (wc.heap[gb265]? = some (.cells #[.int .i64 t258, (.slice Ao32 t259.length co32), (.slice Ao33 t262.length co33)] 30 (0, 0))) ∧ Aside0 (wc.heap[gb274]? = some (.cells #[.int .i64 t266, (.slice Ao40 t267.length co40), (.slice Ao41 t270.length co41)] 30 (0, 0))) ∧ Aside0 (Below w.heap.size w wc))
      case first =>
       have H := HC65.out
       clear HC65
       by_cases c76 : t284 < 0
       ·rw [if_pos c76] at H
        have c76b0 : decide (t284 < 0) = true := decide_eq_true c76
        clear c76
        (first | rw [c76b0] | (simp only [i64_w, i32_w]; rw [c76b0]) | skip)
        have H' := Aside0.mk H
        clear H
        go_wp2
        go_meet
        case rel => exact ⟨_, (true), (by first | rfl | (simp; done) | (simp [*]; done)), H', ⟨by have := HJ11.out; first | omega | exact Nat.le_refl _⟩, ⟨by (with_reducible repeat (first | apply Kd.R_alloc | apply Kd.R_drewN | apply Kd.R_drew)); exact Kd.R_mono HO_258001.out (fun _ hk => ⟨hk.1, hk.2.1⟩)⟩, ⟨by (with_reducible repeat (first | apply Kd.R_alloc | apply Kd.R_drewN | apply Kd.R_drew)); exact Kd.R_mono HO_258002.out (fun _ hk => ⟨hk.1, hk.2.1⟩)⟩, ⟨by (with_reducible repeat (first | apply Kd.R_alloc | apply Kd.R_drewN | apply Kd.R_drew)); exact Kd.R_mono HO_266001.out (fun _ hk => ⟨hk.1.1, hk.1.2⟩)⟩, ⟨by (with_reducible repeat (first | apply Kd.R_alloc | apply Kd.R_drewN | apply Kd.R_drew)); exact Kd.R_mono HO_266002.out (fun _ hk => ⟨hk.1.1, hk.1.2⟩)⟩, ⟨by (with_reducible repeat (first | apply Kd.R_alloc | apply Kd.R_drewN | apply Kd.R_drew)); exact Kd.R_mono HO_275001.out (fun _ hk => ⟨hk.1, hk.2.1⟩)⟩, ⟨by (with_reducible repeat (first | apply Kd.R_alloc | apply Kd.R_drewN | apply Kd.R_drew)); exact Kd.R_mono HO_275002.out (fun _ hk => ⟨hk.1, hk.2.1⟩)⟩, ⟨q8_1⟩, ⟨q8_2⟩, ⟨q8_3⟩, ⟨q8_5⟩, ⟨q8_0⟩⟩
       ·rw [if_neg c76] at H
        have c76b0 : decide (t284 < 0) = false := decide_eq_false c76
        clear c76
        (first | rw [c76b0] | (simp only [i64_w, i32_w]; rw [c76b0]) | skip)
        replace H := Option.bind_eq_some_iff.mp H
        obtain ⟨t287, A770, H⟩ := H
        replace H : (if t287 = true then (laws_FnExactRetire.j1 kj11 a1 t256 (t273 != t256) a0_0 l0_1 l0_2 t249 t250 t253 t266 t267 t270) else (laws_FnExactRetire.j1 kj11 a1 t256 true a0_0 l0_1 l0_2 t249 t250 t253 t266 t267 t270)) = some r := H
        have A77 := Aside0.mk A770
        clear A770
        by_cases c78 : t287 = true
        ·subst c78
         have H1 : (laws_FnExactRetire.j1 kj11 a1 t256 (t273 != t256) a0_0 l0_1 l0_2 t249 t250 t253 t266 t267 t270) = some r := by rw [if_pos rfl] at H; exact H
         clear H
         have H := H1
         clear H1
         have H' := Aside0.mk H
         clear H
         have hnb79 := NB274_240.out
         have hnc79 := NB240_274.out
         have hnb80 := NB274_257.out
         have hnc80 := NB257_274.out
         have hnb81 := NB274_265.out
         have hnc81 := NB265_274.out
         have hcz82_0 : w75.cell? ⟨gb274, 0, none⟩ = some (.int .i64 t266) := (blk_cell BK274.out 0).trans rfl
         have hcz82_1 : w75.cell? ⟨gb274, 1, none⟩ = some (.slice Ao40 t267.length co40) := (blk_cell BK274.out 1).trans rfl
         have hcz82_2 : w75.cell? ⟨gb274, 2, none⟩ = some (.slice Ao41 t270.length co41) := (blk_cell BK274.out 2).trans rfl
         have hfz82_0 := blk_frozen BK274.out 0
         have hfz82_1 := blk_frozen BK274.out 1
         have hfz82_2 := blk_frozen BK274.out 2
         have hnb83 := NB257_240.out
         have hnc83 := NB240_257.out
         have hnb84 := NB257_265.out
         have hnc84 := NB265_257.out
         have hcz85_0 : w75.cell? ⟨gb257, 0, none⟩ = some (.int .i64 t249) := (blk_cell BK257.out 0).trans rfl
         have hcz85_1 : w75.cell? ⟨gb257, 1, none⟩ = some (.slice Ao24 t250.length co24) := (blk_cell BK257.out 1).trans rfl
         have hcz85_2 : w75.cell? ⟨gb257, 2, none⟩ = some (.slice Ao25 t253.length co25) := (blk_cell BK257.out 2).trans rfl
         have hfz85_0 := blk_frozen BK257.out 0
         have hfz85_1 := blk_frozen BK257.out 1
         have hfz85_2 := blk_frozen BK257.out 2
         go_wp2_with (first | (go_at_call 15; (with_reducible refine (laws_eqAges.calls kj11 t266 _ _ t267 _ _ t270 t249 _ _ t250 _ _ t253 true _ ?side1 ?side2 ?side3 ?side4 ?side5 ?side6 ?side7 ?side8 A77.out).mono ?_); (case side1 => exact q8_23); (case side2 => exact (Kd.R_reads' HO_275001.out).2.1); (case side3 => exact q8_24); (case side4 => exact (Kd.R_reads' HO_275002.out).2.1); (case side5 => repeat (first | exact (Kd.R_reads' HO_258001.out).2.2 | (with_reducible refine Kd.C_alloc ?_ _) | (with_reducible refine Kd.C_drewN ?_ _) | (with_reducible refine Kd.C_drew ?_))); (case side6 => exact (Kd.R_reads' HO_258001.out).2.1); (case side7 => repeat (first | exact (Kd.R_reads' HO_258002.out).2.2 | (with_reducible refine Kd.C_alloc ?_ _) | (with_reducible refine Kd.C_drewN ?_ _) | (with_reducible refine Kd.C_drew ?_))); (case side8 => exact (Kd.R_reads' HO_258002.out).2.1); rintro e w86 ⟨rfl, hb⟩; have n0_ := Aside0.mk (Kd.R_below q8_7 hb); have n1_ := Aside0.mk (Kd.R_below q8_8 hb); have n2_ := Aside0.mk (Kd.R_below q8_9 hb); have n3_ := Aside0.mk (Kd.R_below q8_10 hb); have n4_ := Aside0.mk (Kd.R_below q8_11 hb); have n5_ := Aside0.mk (Kd.R_below q8_12 hb); have n6_ := Aside0.mk (Kd.R_below (by (with_reducible repeat (first | apply Kd.R_alloc | apply Kd.R_drewN | apply Kd.R_drew)); exact HO279.out) hb); have n7_ := Aside0.mk (Kd.R_below (by (with_reducible repeat (first | apply Kd.R_alloc | apply Kd.R_drewN | apply Kd.R_drew)); exact HO282.out) hb); have n8_ := Aside0.mk (blk_below (g := gb240) (o := .cells #[.int .i64 a0_0, .slice A0_1 l0_1.length c0_1, .slice A0_2 l0_2.length c0_2] 25 (0, 0)) q8_1 hb); have n9_ := Aside0.mk (blk_below (g := gb257) (o := .cells #[.int .i64 t249, .slice Ao24 t250.length co24, .slice Ao25 t253.length co25] 30 (0, 0)) q8_2 hb); have n10_ := Aside0.mk (blk_below (g := gb265) (o := .cells #[.int .i64 t258, .slice Ao32 t259.length co32, .slice Ao33 t262.length co33] 30 (0, 0)) q8_3 hb); have n11_ := Aside0.mk (blk_below (g := gb274) (o := .cells #[.int .i64 t266, .slice Ao40 t267.length co40, .slice Ao41 t270.length co41] 30 (0, 0)) q8_5 hb); have n12_ := Aside0.mk (below_step q8_0 hb); clear HO_258001; clear HO_258002; clear HO_266001; clear HO_266002; clear HO_275001; clear HO_275002; clear HO279; clear HO282; clear BK240; clear BK257; clear BK265; clear BK274; clear HB; have HO_258001 := n0_; have HO_258002 := n1_; have HO_266001 := n2_; have HO_266002 := n3_; have HO_275001 := n4_; have HO_275002 := n5_; have HO279 := n6_; have HO282 := n7_; have BK240 := n8_; have BK257 := n9_; have BK265 := n10_; have BK274 := n11_; have HB := n12_; clear n0_ n1_ n2_ n3_ n4_ n5_ n6_ n7_ n8_ n9_ n10_ n11_ n12_; (try clear hb); (try clear hb2); (try clear hk); (try clear hi)))
         go_meet
         case rel => exact ⟨_, ((t273 != t256)), (by first | rfl | (simp; done) | (simp [*]; done)), H', ⟨by have := HJ11.out; first | omega | exact Nat.le_refl _⟩, ⟨by (with_reducible repeat (first | apply Kd.R_alloc | apply Kd.R_drewN | apply Kd.R_drew)); exact Kd.R_mono HO_258001.out (fun _ hk => ⟨hk.1, hk.2.1⟩)⟩, ⟨by (with_reducible repeat (first | apply Kd.R_alloc | apply Kd.R_drewN | apply Kd.R_drew)); exact Kd.R_mono HO_258002.out (fun _ hk => ⟨hk.1, hk.2.1⟩)⟩, ⟨by (with_reducible repeat (first | apply Kd.R_alloc | apply Kd.R_drewN | apply Kd.R_drew)); exact Kd.R_mono HO_266001.out (fun _ hk => ⟨hk.1.1, hk.1.2⟩)⟩, ⟨by (with_reducible repeat (first | apply Kd.R_alloc | apply Kd.R_drewN | apply Kd.R_drew)); exact Kd.R_mono HO_266002.out (fun _ hk => ⟨hk.1.1, hk.1.2⟩)⟩, ⟨by (with_reducible repeat (first | apply Kd.R_alloc | apply Kd.R_drewN | apply Kd.R_drew)); exact Kd.R_mono HO_275001.out (fun _ hk => ⟨hk.1, hk.2.1⟩)⟩, ⟨by (with_reducible repeat (first | apply Kd.R_alloc | apply Kd.R_drewN | apply Kd.R_drew)); exact Kd.R_mono HO_275002.out (fun _ hk => ⟨hk.1, hk.2.1⟩)⟩, ⟨q8_1⟩, ⟨q8_2⟩, ⟨q8_3⟩, ⟨q8_5⟩, ⟨q8_0⟩⟩
        ·replace c78 := Bool.eq_false_iff.mpr c78
         subst c78
         have H1 : (laws_FnExactRetire.j1 kj11 a1 t256 true a0_0 l0_1 l0_2 t249 t250 t253 t266 t267 t270) = some r := by rw [if_neg (show ¬ (false = true) by decide)] at H; exact H
         clear H
         have H := H1
         clear H1
         have H' := Aside0.mk H
         clear H
         have hnb87 := NB274_240.out
         have hnc87 := NB240_274.out
         have hnb88 := NB274_257.out
         have hnc88 := NB257_274.out
         have hnb89 := NB274_265.out
         have hnc89 := NB265_274.out
         have hcz90_0 : w75.cell? ⟨gb274, 0, none⟩ = some (.int .i64 t266) := (blk_cell BK274.out 0).trans rfl
         have hcz90_1 : w75.cell? ⟨gb274, 1, none⟩ = some (.slice Ao40 t267.length co40) := (blk_cell BK274.out 1).trans rfl
         have hcz90_2 : w75.cell? ⟨gb274, 2, none⟩ = some (.slice Ao41 t270.length co41) := (blk_cell BK274.out 2).trans rfl
         have hfz90_0 := blk_frozen BK274.out 0
         have hfz90_1 := blk_frozen BK274.out 1
         have hfz90_2 := blk_frozen BK274.out 2
         have hnb91 := NB257_240.out
         have hnc91 := NB240_257.out
         have hnb92 := NB257_265.out
         have hnc92 := NB265_257.out
         have hcz93_0 : w75.cell? ⟨gb257, 0, none⟩ = some (.int .i64 t249) := (blk_cell BK257.out 0).trans rfl
         have hcz93_1 : w75.cell? ⟨gb257, 1, none⟩ = some (.slice Ao24 t250.length co24) := (blk_cell BK257.out 1).trans rfl
         have hcz93_2 : w75.cell? ⟨gb257, 2, none⟩ = some (.slice Ao25 t253.length co25) := (blk_cell BK257.out 2).trans rfl
         have hfz93_0 := blk_frozen BK257.out 0
         have hfz93_1 := blk_frozen BK257.out 1
         have hfz93_2 := blk_frozen BK257.out 2
         go_wp2_with (first | (go_at_call 15; (with_reducible refine (laws_eqAges.calls kj11 t266 _ _ t267 _ _ t270 t249 _ _ t250 _ _ t253 false _ ?side1 ?side2 ?side3 ?side4 ?side5 ?side6 ?side7 ?side8 A77.out).mono ?_); (case side1 => exact q8_23); (case side2 => exact (Kd.R_reads' HO_275001.out).2.1); (case side3 => exact q8_24); (case side4 => exact (Kd.R_reads' HO_275002.out).2.1); (case side5 => repeat (first | exact (Kd.R_reads' HO_258001.out).2.2 | (with_reducible refine Kd.C_alloc ?_ _) | (with_reducible refine Kd.C_drewN ?_ _) | (with_reducible refine Kd.C_drew ?_))); (case side6 => exact (Kd.R_reads' HO_258001.out).2.1); (case side7 => repeat (first | exact (Kd.R_reads' HO_258002.out).2.2 | (with_reducible refine Kd.C_alloc ?_ _) | (with_reducible refine Kd.C_drewN ?_ _) | (with_reducible refine Kd.C_drew ?_))); (case side8 => exact (Kd.R_reads' HO_258002.out).2.1); rintro e w94 ⟨rfl, hb⟩; have n0_ := Aside0.mk (Kd.R_below q8_7 hb); have n1_ := Aside0.mk (Kd.R_below q8_8 hb); have n2_ := Aside0.mk (Kd.R_below q8_9 hb); have n3_ := Aside0.mk (Kd.R_below q8_10 hb); have n4_ := Aside0.mk (Kd.R_below q8_11 hb); have n5_ := Aside0.mk (Kd.R_below q8_12 hb); have n6_ := Aside0.mk (Kd.R_below (by (with_reducible repeat (first | apply Kd.R_alloc | apply Kd.R_drewN | apply Kd.R_drew)); exact HO279.out) hb); have n7_ := Aside0.mk (Kd.R_below (by (with_reducible repeat (first | apply Kd.R_alloc | apply Kd.R_drewN | apply Kd.R_drew)); exact HO282.out) hb); have n8_ := Aside0.mk (blk_below (g := gb240) (o := .cells #[.int .i64 a0_0, .slice A0_1 l0_1.length c0_1, .slice A0_2 l0_2.length c0_2] 25 (0, 0)) q8_1 hb); have n9_ := Aside0.mk (blk_below (g := gb257) (o := .cells #[.int .i64 t249, .slice Ao24 t250.length co24, .slice Ao25 t253.length co25] 30 (0, 0)) q8_2 hb); have n10_ := Aside0.mk (blk_below (g := gb265) (o := .cells #[.int .i64 t258, .slice Ao32 t259.length co32, .slice Ao33 t262.length co33] 30 (0, 0)) q8_3 hb); have n11_ := Aside0.mk (blk_below (g := gb274) (o := .cells #[.int .i64 t266, .slice Ao40 t267.length co40, .slice Ao41 t270.length co41] 30 (0, 0)) q8_5 hb); have n12_ := Aside0.mk (below_step q8_0 hb); clear HO_258001; clear HO_258002; clear HO_266001; clear HO_266002; clear HO_275001; clear HO_275002; clear HO279; clear HO282; clear BK240; clear BK257; clear BK265; clear BK274; clear HB; have HO_258001 := n0_; have HO_258002 := n1_; have HO_266001 := n2_; have HO_266002 := n3_; have HO_275001 := n4_; have HO_275002 := n5_; have HO279 := n6_; have HO282 := n7_; have BK240 := n8_; have BK257 := n9_; have BK265 := n10_; have BK274 := n11_; have HB := n12_; clear n0_ n1_ n2_ n3_ n4_ n5_ n6_ n7_ n8_ n9_ n10_ n11_ n12_; (try clear hb); (try clear hb2); (try clear hk); (try clear hi)))
         go_meet
         case rel => exact ⟨_, (true), (by first | rfl | (simp; done) | (simp [*]; done)), H', ⟨by have := HJ11.out; first | omega | exact Nat.le_refl _⟩, ⟨by (with_reducible repeat (first | apply Kd.R_alloc | apply Kd.R_drewN | apply Kd.R_drew)); exact Kd.R_mono HO_258001.out (fun _ hk => ⟨hk.1, hk.2.1⟩)⟩, ⟨by (with_reducible repeat (first | apply Kd.R_alloc | apply Kd.R_drewN | apply Kd.R_drew)); exact Kd.R_mono HO_258002.out (fun _ hk => ⟨hk.1, hk.2.1⟩)⟩, ⟨by (with_reducible repeat (first | apply Kd.R_alloc | apply Kd.R_drewN | apply Kd.R_drew)); exact Kd.R_mono HO_266001.out (fun _ hk => ⟨hk.1.1, hk.1.2⟩)⟩, ⟨by (with_reducible repeat (first | apply Kd.R_alloc | apply Kd.R_drewN | apply Kd.R_drew)); exact Kd.R_mono HO_266002.out (fun _ hk => ⟨hk.1.1, hk.1.2⟩)⟩, ⟨by (with_reducible repeat (first | apply Kd.R_alloc | apply Kd.R_drewN | apply Kd.R_drew)); exact Kd.R_mono HO_275001.out (fun _ hk => ⟨hk.1, hk.2.1⟩)⟩, ⟨by (with_reducible repeat (first | apply Kd.R_alloc | apply Kd.R_drewN | apply Kd.R_drew)); exact Kd.R_mono HO_275002.out (fun _ hk => ⟨hk.1, hk.2.1⟩)⟩, ⟨q8_1⟩, ⟨q8_2⟩, ⟨q8_3⟩, ⟨q8_5⟩, ⟨q8_0⟩⟩
      case rest =>
       clear HC65
       (try clear c1); (try clear c2); (try clear p2); (try clear c3); (try clear c4); (try clear c4b0); (try clear c5); (try clear c6); (try clear c7); (try clear c8); (try clear c9); (try clear c11); (try clear c13); (try clear c15); (try clear c18); (try clear c22); (try clear c24); (try clear c25); (try clear c29); (try clear c30); (try clear c36); (try clear c37); (try clear c38); (try clear c43); (try clear c44); (try clear c45); (try clear c46); (try clear c48); (try clear c49); (try clear c52); (try clear c53); (try clear c54); (try clear c56); (try clear c57); (try clear c60); (try clear c63); (try clear c71); (try clear c72); (try clear c73); (try clear c76); (try clear c76b0); (try clear c78); (try clear c79); (try clear c80); (try clear c81); (try clear c83); (try clear c84); (try clear c87); (try clear c88); (try clear c89); (try clear c91); (try clear c92); (try clear hcz14_0); (try clear hcz14_1); (try clear hcz14_2); (try clear hcz16_0); (try clear hcz16_1); (try clear hcz16_2); (try clear hcz23_0); (try clear hcz23_1); (try clear hcz23_2); (try clear hcz26_0); (try clear hcz26_1); (try clear hcz26_2); (try clear hcz31_0); (try clear hcz31_1); (try clear hcz31_2); (try clear hcz39_0); (try clear hcz39_1); (try clear hcz39_2); (try clear hcz47_0); (try clear hcz47_1); (try clear hcz47_2); (try clear hcz50_0); (try clear hcz50_1); (try clear hcz50_2); (try clear hcz55_0); (try clear hcz55_1); (try clear hcz55_2); (try clear hcz58_0); (try clear hcz58_1); (try clear hcz58_2); (try clear hcz6_0); (try clear hcz6_1); (try clear hcz6_2); (try clear hcz74_0); (try clear hcz74_1); (try clear hcz74_2); (try clear hcz82_0); (try clear hcz82_1); (try clear hcz82_2); (try clear hcz85_0); (try clear hcz85_1); (try clear hcz85_2); (try clear hcz90_0); (try clear hcz90_1); (try clear hcz90_2); (try clear hcz93_0); (try clear hcz93_1); (try clear hcz93_2); (try clear hfz14_0); (try clear hfz14_1); (try clear hfz14_2); (try clear hfz16_0); (try clear hfz16_1); (try clear hfz16_2); (try clear hfz23_0); (try clear hfz23_1); (try clear hfz23_2); (try clear hfz26_0); (try clear hfz26_1); (try clear hfz26_2); (try clear hfz31_0); (try clear hfz31_1); (try clear hfz31_2); (try clear hfz39_0); (try clear hfz39_1); (try clear hfz39_2); (try clear hfz47_0); (try clear hfz47_1); (try clear hfz47_2); (try clear hfz50_0); (try clear hfz50_1); (try clear hfz50_2); (try clear hfz55_0); (try clear hfz55_1); (try clear hfz55_2); (try clear hfz58_0); (try clear hfz58_1); (try clear hfz58_2); (try clear hfz6_0); (try clear hfz6_1); (try clear hfz6_2); (try clear hfz74_0); (try clear hfz74_1); (try clear hfz74_2); (try clear hfz82_0); (try clear hfz82_1); (try clear hfz82_2); (try clear hfz85_0); (try clear hfz85_1); (try clear hfz85_2); (try clear hfz90_0); (try clear hfz90_1); (try clear hfz90_2); (try clear hfz93_0); (try clear hfz93_1); (try clear hfz93_2); (try clear p2)
       obtain ⟨kq, x65_64, rfl, HA, HJ64, HO_258001, HO_258002, HO_266001, HO_266002, HO_275001, HO_275002, BK240, BK257, BK265, BK274, HB⟩ := hcut
       have hl266001_64 := (Kd.R_reads' HO_266001.out).1
       rw [hl266001_64] at HO_266001
       (try simp only [hl266001_64])
       (try simp only [hl266001_64] at BK240)
       (try simp only [hl266001_64] at BK257)
       (try simp only [hl266001_64] at BK265)
       (try simp only [hl266001_64] at BK274)
       (try simp only [hl266001_64] at HO_258001)
       (try simp only [hl266001_64] at HO_258002)
       (try simp only [hl266001_64] at HO_266002)
       (try simp only [hl266001_64] at HO_275001)
       (try simp only [hl266001_64] at HO_275002)
       have hl266002_64 := (Kd.R_reads' HO_266002.out).1
       rw [hl266002_64] at HO_266002
       (try simp only [hl266002_64])
       (try simp only [hl266002_64] at BK240)
       (try simp only [hl266002_64] at BK257)
       (try simp only [hl266002_64] at BK265)
       (try simp only [hl266002_64] at BK274)
       (try simp only [hl266002_64] at HO_258001)
       (try simp only [hl266002_64] at HO_258002)
       (try simp only [hl266002_64] at HO_266001)
       (try simp only [hl266002_64] at HO_275001)
       (try simp only [hl266002_64] at HO_275002)
       cases kq with
       | zero => exact absurd HA.out (by simp [laws_FnExactRetire.j1])
       | succ kj64 =>
        have H := HA.out
        clear HA
        simp only [laws_FnExactRetire.j1] at H
        by_cases c95 : x65_64 = true
        ·subst c95
         have H1 : (some false) = some r := by rw [if_pos rfl] at H; exact H
         clear H
         have H := H1
         clear H1
         obtain rfl := Option.some.inj H
         go_wp2
         go_ret
         exact ⟨q8_30, q8_0⟩
        ·replace c95 := Bool.eq_false_iff.mpr c95
         subst c95
         have H1 : ((laws_markAges.f kj64 t266 t267 t270 1).bind fun bt288 => ((laws_heldAges.f kj64 t266 bt288.2.1 bt288.2.2 1).bind fun t291 => (if t291 < 0 then (some false) else (if t291 = bt288.1 then ((laws_toAges.f kj64 a0_0 l0_1 l0_2).bind fun bt292 => ((impl_Retire.f kj64 bt292.1 bt292.2.1 bt292.2.2 a1).bind fun bt299 => ((laws_eqAges.f kj64 bt299.1 bt299.2.1 bt299.2.2.1 t249 t250 t253).bind fun t308 => (if t308 = true then (laws_FnExactRetire.j2 kj64 bt288.1 (bt299.2.2.2 != t256) t266 bt288.2.1 bt288.2.2) else (laws_FnExactRetire.j2 kj64 bt288.1 true t266 bt288.2.1 bt288.2.2))))) else (some false))))) = some r := by rw [if_neg (show ¬ (false = true) by decide)] at H; exact H
         clear H
         have H := H1
         clear H1
         replace H := Option.bind_eq_some_iff.mp H
         obtain ⟨⟨t288, t289, t290⟩, A960, H⟩ := H
         replace H : ((laws_heldAges.f kj64 t266 t289 t290 1).bind fun t291 => (if t291 < 0 then (some false) else (if t291 = t288 then ((laws_toAges.f kj64 a0_0 l0_1 l0_2).bind fun bt292 => ((impl_Retire.f kj64 bt292.1 bt292.2.1 bt292.2.2 a1).bind fun bt299 => ((laws_eqAges.f kj64 bt299.1 bt299.2.1 bt299.2.2.1 t249 t250 t253).bind fun t308 => (if t308 = true then (laws_FnExactRetire.j2 kj64 t288 (bt299.2.2.2 != t256) t266 t289 t290) else (laws_FnExactRetire.j2 kj64 t288 true t266 t289 t290))))) else (some false)))) = some r := H
         have A96 := Aside0.mk A960
         clear A960
         replace H := Option.bind_eq_some_iff.mp H
         obtain ⟨t291, A970, H⟩ := H
         replace H : (if t291 < 0 then (some false) else (if t291 = t288 then ((laws_toAges.f kj64 a0_0 l0_1 l0_2).bind fun bt292 => ((impl_Retire.f kj64 bt292.1 bt292.2.1 bt292.2.2 a1).bind fun bt299 => ((laws_eqAges.f kj64 bt299.1 bt299.2.1 bt299.2.2.1 t249 t250 t253).bind fun t308 => (if t308 = true then (laws_FnExactRetire.j2 kj64 t288 (bt299.2.2.2 != t256) t266 t289 t290) else (laws_FnExactRetire.j2 kj64 t288 true t266 t289 t290))))) else (some false))) = some r := H
         have A97 := Aside0.mk A970
         clear A970
         by_cases c98 : t291 < 0
         ·rw [if_pos c98] at H
          have c98b0 : decide (t291 < 0) = true := decide_eq_true c98
          clear c98
          obtain rfl := Option.some.inj H
          have hnb99 := NB274_240.out
          have hnc99 := NB240_274.out
          have hnb100 := NB274_257.out
          have hnc100 := NB257_274.out
          have hnb101 := NB274_265.out
          have hnc101 := NB265_274.out
          have hcz102_0 : wc.cell? ⟨gb274, 0, none⟩ = some (.int .i64 t266) := (blk_cell BK274.out 0).trans rfl
          have hcz102_1 : wc.cell? ⟨gb274, 1, none⟩ = some (.slice Ao40 t267.length co40) := (blk_cell BK274.out 1).trans rfl
          have hcz102_2 : wc.cell? ⟨gb274, 2, none⟩ = some (.slice Ao41 t270.length co41) := (blk_cell BK274.out 2).trans rfl
          have hfz102_0 := blk_frozen BK274.out 0
          have hfz102_1 := blk_frozen BK274.out 1
          have hfz102_2 := blk_frozen BK274.out 2
          go_wp2_with (first | ((with_reducible refine gate_callee (f := 18) rfl ?_); refine goesL_ (some 68) rfl rfl Try.func18 (by kernel_rfl) rfl #[.agg #[.int .i64 t266, .slice Ao40 t267.length co40, .slice Ao41 t270.length co41], .int .i64 1] rfl q8_4 ?_; (with_reducible refine (laws_markAges.calls kj64 t266 (fun k_ => some k_ = (.slice Ao40 t267.length co40 : Value).ownBlock) (.slice Ao40 t267.length co40) t267 (fun k_ => some k_ = (.slice Ao41 t270.length co41 : Value).ownBlock) (.slice Ao41 t270.length co41) t270 1 t288 t289 t290 w _ ?side1 ?side2 ?side3 A96.out).mono ?_); (case side1 => exact q8_0); (case side2 => exact Kd.R_tight rfl HO_275001.out); (case side3 => exact Kd.R_tight rfl HO_275002.out); rintro e w103 ⟨rfl, hy0, hy1, hb, hkp⟩; refine ⟨_, rfl, ?_⟩; have n0_ := Aside0.mk (Kd.R_mono (ok' := fun k_ => some k_ ≠ (.slice Ao32 t285.length co32 : Value).ownBlock ∧ some k_ ≠ (.slice Ao40 t267.length co40 : Value).ownBlock) (Kd.R_keptB ((Kd.R_apart' HO_258001.out (Kd.R_typed HO_275002.out) q8_44)) hkp (fun k_ hk_ hs_ => Or.elim hs_ (fun e_ => (hk_.1.2) e_) (fun e_ => (hk_.2) e_))) (fun k_ hk_ => ⟨hk_.1.1.1, hk_.1.1.2⟩)); have n1_ := Aside0.mk (Kd.R_mono (ok' := fun k_ => some k_ ≠ (.slice Ao33 t286.length co33 : Value).ownBlock ∧ some k_ ≠ (.slice Ao41 t270.length co41 : Value).ownBlock) (Kd.R_keptB ((Kd.R_apart' HO_258002.out (Kd.R_typed HO_275001.out) q8_44)) hkp (fun k_ hk_ hs_ => Or.elim hs_ (fun e_ => (hk_.2) e_) (fun e_ => (hk_.1.2) e_))) (fun k_ hk_ => ⟨hk_.1.1.1, hk_.1.1.2⟩)); have n2_ := Aside0.mk (Kd.R_mono (ok' := fun k_ => some k_ ≠ (.slice Ao24 t250.length co24 : Value).ownBlock ∧ some k_ ≠ (.slice Ao40 t267.length co40 : Value).ownBlock) (Kd.R_keptB ((Kd.R_apart' HO_266001.out (Kd.R_typed HO_275002.out) q8_44)) hkp (fun k_ hk_ hs_ => Or.elim hs_ (fun e_ => (hk_.1.2) e_) (fun e_ => (hk_.2) e_))) (fun k_ hk_ => ⟨hk_.1.1.1, hk_.1.1.2⟩)); have n3_ := Aside0.mk (Kd.R_mono (ok' := fun k_ => some k_ ≠ (.slice Ao25 t253.length co25 : Value).ownBlock ∧ some k_ ≠ (.slice Ao41 t270.length co41 : Value).ownBlock) (Kd.R_keptB ((Kd.R_apart' HO_266002.out (Kd.R_typed HO_275001.out) q8_44)) hkp (fun k_ hk_ hs_ => Or.elim hs_ (fun e_ => (hk_.2) e_) (fun e_ => (hk_.1.2) e_))) (fun k_ hk_ => ⟨hk_.1.1.1, hk_.1.1.2⟩)); have n4_ := Aside0.mk (Kd.R_reok rfl hy0 (fun k_ e_ => HO_275001.out.1 k_ e_)); have n5_ := Aside0.mk (Kd.R_reok rfl hy1 (fun k_ e_ => HO_275002.out.1 k_ e_)); have n6_ := Aside0.mk (blk_kept q8_1 hkp (fun hs_ => Or.elim hs_ (fun e_ => (fun e_ => (Kd.R_ne HO_275001.out BK240.out q8_44) e_) e_) (fun e_ => (fun e_ => (Kd.R_ne HO_275002.out BK240.out q8_44) e_) e_))); have n7_ := Aside0.mk (blk_kept q8_2 hkp (fun hs_ => Or.elim hs_ (fun e_ => (fun e_ => (Kd.R_ne HO_275001.out BK257.out q8_44) e_) e_) (fun e_ => (fun e_ => (Kd.R_ne HO_275002.out BK257.out q8_44) e_) e_))); have n8_ := Aside0.mk (blk_kept q8_3 hkp (fun hs_ => Or.elim hs_ (fun e_ => (fun e_ => (Kd.R_ne HO_275001.out BK265.out q8_44) e_) e_) (fun e_ => (fun e_ => (Kd.R_ne HO_275002.out BK265.out q8_44) e_) e_))); have n9_ := Aside0.mk (blk_kept q8_5 hkp (fun hs_ => Or.elim hs_ (fun e_ => (fun e_ => (Kd.R_ne HO_275001.out BK274.out q8_44) e_) e_) (fun e_ => (fun e_ => (Kd.R_ne HO_275002.out BK274.out q8_44) e_) e_))); have n10_ := Aside0.mk (hb); clear HO_258001; clear HO_258002; clear HO_266001; clear HO_266002; clear HO_275001; clear HO_275002; clear BK240; clear BK257; clear BK265; clear BK274; clear HB; have HO_258001 := n0_; have HO_258002 := n1_; have HO_266001 := n2_; have HO_266002 := n3_; have HO_275001 := n4_; have HO_275002 := n5_; have BK240 := n6_; have BK257 := n7_; have BK265 := n8_; have BK274 := n9_; have HB := n10_; clear n0_ n1_ n2_ n3_ n4_ n5_ n6_ n7_ n8_ n9_ n10_; (try clear hb); (try clear hkp); (try clear hy0); (try clear hy1); have hcz104_0 : w103.cell? ⟨gb274, 0, none⟩ = some (.int .i64 t266) := (blk_cell BK274.out 0).trans rfl; have hcz104_1 : w103.cell? ⟨gb274, 1, none⟩ = some (.slice Ao40 t267.length co40) := (blk_cell BK274.out 1).trans rfl; have hcz104_2 : w103.cell? ⟨gb274, 2, none⟩ = some (.slice Ao41 t270.length co41) := (blk_cell BK274.out 2).trans rfl; have hfz104_0 := blk_frozen BK274.out 0; have hfz104_1 := blk_frozen BK274.out 1; have hfz104_2 := blk_frozen BK274.out 2) | ((with_reducible refine gate_callee (f := 19) rfl ?_); refine goesL_ (some 71) rfl rfl Try.func19 (by kernel_rfl) rfl #[.agg #[.int .i64 t266, .slice Ao40 t289.length co40, .slice Ao41 t290.length co41], .int .i64 1] rfl q8_34 ?_; (with_reducible refine (laws_heldAges.calls kj64 t266 _ _ t289 _ _ t290 1 t291 _ ?side1 ?side2 ?side3 ?side4 A97.out).mono ?_); (case side1 => exact q8_23); (case side2 => rw [show t289.length = t267.length from (Kd.R_reads' HO_275001.out).1.symm]; exact (Kd.R_reads' HO_275001.out).2.1); (case side3 => exact q8_24); (case side4 => rw [show t290.length = t270.length from (Kd.R_reads' HO_275002.out).1.symm]; exact (Kd.R_reads' HO_275002.out).2.1); rintro e w105 ⟨rfl, hb⟩; refine ⟨_, rfl, ?_⟩; have n0_ := Aside0.mk (Kd.R_below q8_7 hb); have n1_ := Aside0.mk (Kd.R_below q8_8 hb); have n2_ := Aside0.mk (Kd.R_below q8_9 hb); have n3_ := Aside0.mk (Kd.R_below q8_10 hb); have n4_ := Aside0.mk (Kd.R_below q8_11 hb); have n5_ := Aside0.mk (Kd.R_below q8_12 hb); have n6_ := Aside0.mk (blk_below (g := gb240) (o := .cells #[.int .i64 a0_0, .slice A0_1 l0_1.length c0_1, .slice A0_2 l0_2.length c0_2] 25 (0, 0)) q8_1 hb); have n7_ := Aside0.mk (blk_below (g := gb257) (o := .cells #[.int .i64 t249, .slice Ao24 t250.length co24, .slice Ao25 t253.length co25] 30 (0, 0)) q8_2 hb); have n8_ := Aside0.mk (blk_below (g := gb265) (o := .cells #[.int .i64 t258, .slice Ao32 t285.length co32, .slice Ao33 t286.length co33] 30 (0, 0)) q8_3 hb); have n9_ := Aside0.mk (blk_below (g := gb274) (o := .cells #[.int .i64 t266, .slice Ao40 t267.length co40, .slice Ao41 t270.length co41] 30 (0, 0)) q8_5 hb); have n10_ := Aside0.mk (below_step q8_0 hb); clear HO_258001; clear HO_258002; clear HO_266001; clear HO_266002; clear HO_275001; clear HO_275002; clear BK240; clear BK257; clear BK265; clear BK274; clear HB; have HO_258001 := n0_; have HO_258002 := n1_; have HO_266001 := n2_; have HO_266002 := n3_; have HO_275001 := n4_; have HO_275002 := n5_; have BK240 := n6_; have BK257 := n7_; have BK265 := n8_; have BK274 := n9_; have HB := n10_; clear n0_ n1_ n2_ n3_ n4_ n5_ n6_ n7_ n8_ n9_ n10_; (try clear hb); (try clear hb2); (try clear hk); (try clear hi)))
          go_ret
          exact ⟨q8_30, q8_0⟩
         ·rw [if_neg c98] at H
          have c98b0 : decide (t291 < 0) = false := decide_eq_false c98
          clear c98
          by_cases c106 : t291 = t288
          ·rw [if_pos c106] at H
           have c106b0 : (t291 == t288) = true := beq_iff_eq.mpr c106
           have c106b1 : (t291 != t288) = false := bne_eq_false_iff_eq.mpr c106
           clear c106
           replace H := Option.bind_eq_some_iff.mp H
           obtain ⟨⟨t292, t293, t296⟩, A1070, H⟩ := H
           replace H : ((impl_Retire.f kj64 t292 t293 t296 a1).bind fun bt299 => ((laws_eqAges.f kj64 bt299.1 bt299.2.1 bt299.2.2.1 t249 t250 t253).bind fun t308 => (if t308 = true then (laws_FnExactRetire.j2 kj64 t288 (bt299.2.2.2 != t256) t266 t289 t290) else (laws_FnExactRetire.j2 kj64 t288 true t266 t289 t290)))) = some r := H
           have A107 := Aside0.mk A1070
           clear A1070
           replace H := Option.bind_eq_some_iff.mp H
           obtain ⟨⟨t299, t300, t303, t306⟩, A1080, H⟩ := H
           replace H : ((laws_eqAges.f kj64 t299 t300 t303 t249 t250 t253).bind fun t308 => (if t308 = true then (laws_FnExactRetire.j2 kj64 t288 (t306 != t256) t266 t289 t290) else (laws_FnExactRetire.j2 kj64 t288 true t266 t289 t290))) = some r := H
           have A108 := Aside0.mk A1080
           clear A1080
           have HC109 := Aside0.mk H
           clear H
           have hnb110 := NB274_240.out
           have hnc110 := NB240_274.out
           have hnb111 := NB274_257.out
           have hnc111 := NB257_274.out
           have hnb112 := NB274_265.out
           have hnc112 := NB265_274.out
           have hcz113_0 : wc.cell? ⟨gb274, 0, none⟩ = some (.int .i64 t266) := (blk_cell BK274.out 0).trans rfl
           have hcz113_1 : wc.cell? ⟨gb274, 1, none⟩ = some (.slice Ao40 t267.length co40) := (blk_cell BK274.out 1).trans rfl
           have hcz113_2 : wc.cell? ⟨gb274, 2, none⟩ = some (.slice Ao41 t270.length co41) := (blk_cell BK274.out 2).trans rfl
           have hfz113_0 := blk_frozen BK274.out 0
           have hfz113_1 := blk_frozen BK274.out 1
           have hfz113_2 := blk_frozen BK274.out 2
           go_upto_region 25 with (first | ((with_reducible refine gate_callee (f := 18) rfl ?_); refine goesL_ (some 68) rfl rfl Try.func18 (by kernel_rfl) rfl #[.agg #[.int .i64 t266, .slice Ao40 t267.length co40, .slice Ao41 t270.length co41], .int .i64 1] rfl q8_4 ?_; (with_reducible refine (laws_markAges.calls kj64 t266 (fun k_ => some k_ = (.slice Ao40 t267.length co40 : Value).ownBlock) (.slice Ao40 t267.length co40) t267 (fun k_ => some k_ = (.slice Ao41 t270.length co41 : Value).ownBlock) (.slice Ao41 t270.length co41) t270 1 t288 t289 t290 w _ ?side1 ?side2 ?side3 A96.out).mono ?_); (case side1 => exact q8_0); (case side2 => exact Kd.R_tight rfl HO_275001.out); (case side3 => exact Kd.R_tight rfl HO_275002.out); rintro e w114 ⟨rfl, hy0, hy1, hb, hkp⟩; refine ⟨_, rfl, ?_⟩; have n0_ := Aside0.mk (Kd.R_mono (ok' := fun k_ => some k_ ≠ (.slice Ao32 t285.length co32 : Value).ownBlock ∧ some k_ ≠ (.slice Ao40 t267.length co40 : Value).ownBlock) (Kd.R_keptB ((Kd.R_apart' HO_258001.out (Kd.R_typed HO_275002.out) q8_44)) hkp (fun k_ hk_ hs_ => Or.elim hs_ (fun e_ => (hk_.1.2) e_) (fun e_ => (hk_.2) e_))) (fun k_ hk_ => ⟨hk_.1.1.1, hk_.1.1.2⟩)); have n1_ := Aside0.mk (Kd.R_mono (ok' := fun k_ => some k_ ≠ (.slice Ao33 t286.length co33 : Value).ownBlock ∧ some k_ ≠ (.slice Ao41 t270.length co41 : Value).ownBlock) (Kd.R_keptB ((Kd.R_apart' HO_258002.out (Kd.R_typed HO_275001.out) q8_44)) hkp (fun k_ hk_ hs_ => Or.elim hs_ (fun e_ => (hk_.2) e_) (fun e_ => (hk_.1.2) e_))) (fun k_ hk_ => ⟨hk_.1.1.1, hk_.1.1.2⟩)); have n2_ := Aside0.mk (Kd.R_mono (ok' := fun k_ => some k_ ≠ (.slice Ao24 t250.length co24 : Value).ownBlock ∧ some k_ ≠ (.slice Ao40 t267.length co40 : Value).ownBlock) (Kd.R_keptB ((Kd.R_apart' HO_266001.out (Kd.R_typed HO_275002.out) q8_44)) hkp (fun k_ hk_ hs_ => Or.elim hs_ (fun e_ => (hk_.1.2) e_) (fun e_ => (hk_.2) e_))) (fun k_ hk_ => ⟨hk_.1.1.1, hk_.1.1.2⟩)); have n3_ := Aside0.mk (Kd.R_mono (ok' := fun k_ => some k_ ≠ (.slice Ao25 t253.length co25 : Value).ownBlock ∧ some k_ ≠ (.slice Ao41 t270.length co41 : Value).ownBlock) (Kd.R_keptB ((Kd.R_apart' HO_266002.out (Kd.R_typed HO_275001.out) q8_44)) hkp (fun k_ hk_ hs_ => Or.elim hs_ (fun e_ => (hk_.2) e_) (fun e_ => (hk_.1.2) e_))) (fun k_ hk_ => ⟨hk_.1.1.1, hk_.1.1.2⟩)); have n4_ := Aside0.mk (Kd.R_reok rfl hy0 (fun k_ e_ => HO_275001.out.1 k_ e_)); have n5_ := Aside0.mk (Kd.R_reok rfl hy1 (fun k_ e_ => HO_275002.out.1 k_ e_)); have n6_ := Aside0.mk (blk_kept q8_1 hkp (fun hs_ => Or.elim hs_ (fun e_ => (fun e_ => (Kd.R_ne HO_275001.out BK240.out q8_44) e_) e_) (fun e_ => (fun e_ => (Kd.R_ne HO_275002.out BK240.out q8_44) e_) e_))); have n7_ := Aside0.mk (blk_kept q8_2 hkp (fun hs_ => Or.elim hs_ (fun e_ => (fun e_ => (Kd.R_ne HO_275001.out BK257.out q8_44) e_) e_) (fun e_ => (fun e_ => (Kd.R_ne HO_275002.out BK257.out q8_44) e_) e_))); have n8_ := Aside0.mk (blk_kept q8_3 hkp (fun hs_ => Or.elim hs_ (fun e_ => (fun e_ => (Kd.R_ne HO_275001.out BK265.out q8_44) e_) e_) (fun e_ => (fun e_ => (Kd.R_ne HO_275002.out BK265.out q8_44) e_) e_))); have n9_ := Aside0.mk (blk_kept q8_5 hkp (fun hs_ => Or.elim hs_ (fun e_ => (fun e_ => (Kd.R_ne HO_275001.out BK274.out q8_44) e_) e_) (fun e_ => (fun e_ => (Kd.R_ne HO_275002.out BK274.out q8_44) e_) e_))); have n10_ := Aside0.mk (hb); clear HO_258001; clear HO_258002; clear HO_266001; clear HO_266002; clear HO_275001; clear HO_275002; clear BK240; clear BK257; clear BK265; clear BK274; clear HB; have HO_258001 := n0_; have HO_258002 := n1_; have HO_266001 := n2_; have HO_266002 := n3_; have HO_275001 := n4_; have HO_275002 := n5_; have BK240 := n6_; have BK257 := n7_; have BK265 := n8_; have BK274 := n9_; have HB := n10_; clear n0_ n1_ n2_ n3_ n4_ n5_ n6_ n7_ n8_ n9_ n10_; (try clear hb); (try clear hkp); (try clear hy0); (try clear hy1); have hcz115_0 : w114.cell? ⟨gb274, 0, none⟩ = some (.int .i64 t266) := (blk_cell BK274.out 0).trans rfl; have hcz115_1 : w114.cell? ⟨gb274, 1, none⟩ = some (.slice Ao40 t267.length co40) := (blk_cell BK274.out 1).trans rfl; have hcz115_2 : w114.cell? ⟨gb274, 2, none⟩ = some (.slice Ao41 t270.length co41) := (blk_cell BK274.out 2).trans rfl; have hfz115_0 := blk_frozen BK274.out 0; have hfz115_1 := blk_frozen BK274.out 1; have hfz115_2 := blk_frozen BK274.out 2) | ((with_reducible refine gate_callee (f := 19) rfl ?_); refine goesL_ (some 71) rfl rfl Try.func19 (by kernel_rfl) rfl #[.agg #[.int .i64 t266, .slice Ao40 t289.length co40, .slice Ao41 t290.length co41], .int .i64 1] rfl q8_34 ?_; (with_reducible refine (laws_heldAges.calls kj64 t266 _ _ t289 _ _ t290 1 t291 _ ?side1 ?side2 ?side3 ?side4 A97.out).mono ?_); (case side1 => exact q8_23); (case side2 => rw [show t289.length = t267.length from (Kd.R_reads' HO_275001.out).1.symm]; exact (Kd.R_reads' HO_275001.out).2.1); (case side3 => exact q8_24); (case side4 => rw [show t290.length = t270.length from (Kd.R_reads' HO_275002.out).1.symm]; exact (Kd.R_reads' HO_275002.out).2.1); rintro e w116 ⟨rfl, hb⟩; refine ⟨_, rfl, ?_⟩; have n0_ := Aside0.mk (Kd.R_below q8_7 hb); have n1_ := Aside0.mk (Kd.R_below q8_8 hb); have n2_ := Aside0.mk (Kd.R_below q8_9 hb); have n3_ := Aside0.mk (Kd.R_below q8_10 hb); have n4_ := Aside0.mk (Kd.R_below q8_11 hb); have n5_ := Aside0.mk (Kd.R_below q8_12 hb); have n6_ := Aside0.mk (blk_below (g := gb240) (o := .cells #[.int .i64 a0_0, .slice A0_1 l0_1.length c0_1, .slice A0_2 l0_2.length c0_2] 25 (0, 0)) q8_1 hb); have n7_ := Aside0.mk (blk_below (g := gb257) (o := .cells #[.int .i64 t249, .slice Ao24 t250.length co24, .slice Ao25 t253.length co25] 30 (0, 0)) q8_2 hb); have n8_ := Aside0.mk (blk_below (g := gb265) (o := .cells #[.int .i64 t258, .slice Ao32 t285.length co32, .slice Ao33 t286.length co33] 30 (0, 0)) q8_3 hb); have n9_ := Aside0.mk (blk_below (g := gb274) (o := .cells #[.int .i64 t266, .slice Ao40 t267.length co40, .slice Ao41 t270.length co41] 30 (0, 0)) q8_5 hb); have n10_ := Aside0.mk (below_step q8_0 hb); clear HO_258001; clear HO_258002; clear HO_266001; clear HO_266002; clear HO_275001; clear HO_275002; clear BK240; clear BK257; clear BK265; clear BK274; clear HB; have HO_258001 := n0_; have HO_258002 := n1_; have HO_266001 := n2_; have HO_266002 := n3_; have HO_275001 := n4_; have HO_275002 := n5_; have BK240 := n6_; have BK257 := n7_; have BK265 := n8_; have BK274 := n9_; have HB := n10_; clear n0_ n1_ n2_ n3_ n4_ n5_ n6_ n7_ n8_ n9_ n10_; (try clear hb); (try clear hb2); (try clear hk); (try clear hi); have hnb117 := NB240_257.out; have hnc117 := NB257_240.out; have hnb118 := NB240_265.out; have hnc118 := NB265_240.out; have hcz119_0 : w116.cell? ⟨gb240, 0, none⟩ = some (.int .i64 a0_0) := (blk_cell BK240.out 0).trans rfl; have hcz119_1 : w116.cell? ⟨gb240, 1, none⟩ = some (.slice A0_1 l0_1.length c0_1) := (blk_cell BK240.out 1).trans rfl; have hcz119_2 : w116.cell? ⟨gb240, 2, none⟩ = some (.slice A0_2 l0_2.length c0_2) := (blk_cell BK240.out 2).trans rfl; have hfz119_0 := blk_frozen BK240.out 0; have hfz119_1 := blk_frozen BK240.out 1; have hfz119_2 := blk_frozen BK240.out 2) | ((with_reducible refine gate_callee (f := 13) rfl ?_); refine goesL_ (some 79) rfl rfl Try.func13 (by kernel_rfl) rfl #[.agg #[.int .i64 a0_0, .slice A0_1 l0_1.length c0_1, .slice A0_2 l0_2.length c0_2]] rfl q8_4 ?_; (with_reducible refine (laws_toAges.calls kj64 a0_0 _ _ l0_1 _ _ l0_2 t292 t293 t296 _ ?side1 ?side2 ?side3 ?side4 A107.out).mono ?_); (case side1 => exact q8_26); (case side2 => exact HC0_1.out); (case side3 => exact q8_27); (case side4 => exact HC0_2.out); rintro e w120 ⟨v294, v297, rfl, ho0, ho1, hb⟩; refine ⟨_, rfl, ?_⟩; have n0_ := Aside0.mk (Kd.R_elder' q8_7 (Kd.R_base ho0) hb); have n1_ := Aside0.mk (Kd.R_elder' q8_8 (Kd.R_base ho1) hb); have n2_ := Aside0.mk (Kd.R_elder' q8_9 (Kd.R_base ho0) hb); have n3_ := Aside0.mk (Kd.R_elder' q8_10 (Kd.R_base ho1) hb); have n4_ := Aside0.mk (Kd.R_elder' q8_11 (Kd.R_base ho0) hb); have n5_ := Aside0.mk (Kd.R_elder' q8_12 (Kd.R_base ho1) hb); have n6_ := Aside0.mk (Kd.R_lower (Kd.R_new' (Kd.R_new' (Kd.R_new' ho0 (Kd.R_lt q8_7)) (Kd.R_lt q8_9)) (Kd.R_lt q8_11)) (below_size q8_0)); have n7_ := Aside0.mk (Kd.R_lower (Kd.R_new' (Kd.R_new' (Kd.R_new' ho1 (Kd.R_lt q8_8)) (Kd.R_lt q8_10)) (Kd.R_lt q8_12)) (below_size q8_0)); have n8_ := Aside0.mk (blk_below (g := gb240) (o := .cells #[.int .i64 a0_0, .slice A0_1 l0_1.length c0_1, .slice A0_2 l0_2.length c0_2] 25 (0, 0)) q8_1 hb); have n9_ := Aside0.mk (blk_below (g := gb257) (o := .cells #[.int .i64 t249, .slice Ao24 t250.length co24, .slice Ao25 t253.length co25] 30 (0, 0)) q8_2 hb); have n10_ := Aside0.mk (blk_below (g := gb265) (o := .cells #[.int .i64 t258, .slice Ao32 t285.length co32, .slice Ao33 t286.length co33] 30 (0, 0)) q8_3 hb); have n11_ := Aside0.mk (blk_below (g := gb274) (o := .cells #[.int .i64 t266, .slice Ao40 t267.length co40, .slice Ao41 t270.length co41] 30 (0, 0)) q8_5 hb); have n12_ := Aside0.mk (below_step q8_0 hb); clear HO_258001; clear HO_258002; clear HO_266001; clear HO_266002; clear HO_275001; clear HO_275002; clear BK240; clear BK257; clear BK265; clear BK274; clear HB; have HO_258001 := n0_; have HO_258002 := n1_; have HO_266001 := n2_; have HO_266002 := n3_; have HO_275001 := n4_; have HO_275002 := n5_; have HO295 := n6_; have HO298 := n7_; have BK240 := n8_; have BK257 := n9_; have BK265 := n10_; have BK274 := n11_; have HB := n12_; clear n0_ n1_ n2_ n3_ n4_ n5_ n6_ n7_ n8_ n9_ n10_ n11_ n12_; (try clear hb); (try clear hb2); (try clear hk); (try clear hi); (try clear ho0); (try clear ho1); obtain ⟨Ao121, co121, eo121⟩ := Kd.R_slice HO295.out; subst eo121; obtain ⟨Ao122, co122, eo122⟩ := Kd.R_slice HO298.out; subst eo122) | ((with_reducible refine gate_callee (f := 25) rfl ?_); refine goesL_ (some 81) rfl rfl Try.func25 (by kernel_rfl) rfl #[.agg #[.int .i64 t292, .slice Ao121 t293.length co121, .slice Ao122 t296.length co122], .int .i64 a1] rfl q8_4 ?_; (with_reducible refine (impl_Retire.calls kj64 t292 _ _ t293 _ _ t296 a1 t299 t300 t303 t306 _ ?side1 ?side2 ?side3 ?side4 A108.out).mono ?_); (case side1 => repeat (first | exact (Kd.R_reads' HO295.out).2.2 | (with_reducible refine Kd.C_alloc ?_ _) | (with_reducible refine Kd.C_drewN ?_ _) | (with_reducible refine Kd.C_drew ?_))); (case side2 => exact (Kd.R_reads' HO295.out).2.1); (case side3 => repeat (first | exact (Kd.R_reads' HO298.out).2.2 | (with_reducible refine Kd.C_alloc ?_ _) | (with_reducible refine Kd.C_drewN ?_ _) | (with_reducible refine Kd.C_drew ?_))); (case side4 => exact (Kd.R_reads' HO298.out).2.1); rintro e w123 ⟨v301, v304, rfl, ho0, ho1, hb⟩; refine ⟨_, rfl, ?_⟩; have n0_ := Aside0.mk (Kd.R_elder' q8_7 (Kd.R_base ho0) hb); have n1_ := Aside0.mk (Kd.R_elder' q8_8 (Kd.R_base ho1) hb); have n2_ := Aside0.mk (Kd.R_elder' q8_9 (Kd.R_base ho0) hb); have n3_ := Aside0.mk (Kd.R_elder' q8_10 (Kd.R_base ho1) hb); have n4_ := Aside0.mk (Kd.R_elder' q8_11 (Kd.R_base ho0) hb); have n5_ := Aside0.mk (Kd.R_elder' q8_12 (Kd.R_base ho1) hb); have n6_ := Aside0.mk (Kd.R_elder' (by (with_reducible repeat (first | apply Kd.R_alloc | apply Kd.R_drewN | apply Kd.R_drew)); exact HO295.out) (Kd.R_base ho0) hb); have n7_ := Aside0.mk (Kd.R_elder' (by (with_reducible repeat (first | apply Kd.R_alloc | apply Kd.R_drewN | apply Kd.R_drew)); exact HO298.out) (Kd.R_base ho1) hb); have n8_ := Aside0.mk (Kd.R_lower (Kd.R_new' (Kd.R_new' (Kd.R_new' (Kd.R_new' ho0 (Kd.R_lt q8_7)) (Kd.R_lt q8_9)) (Kd.R_lt q8_11)) (Kd.R_lt (by (with_reducible repeat (first | apply Kd.R_alloc | apply Kd.R_drewN | apply Kd.R_drew)); exact HO295.out))) (below_size q8_0)); have n9_ := Aside0.mk (Kd.R_lower (Kd.R_new' (Kd.R_new' (Kd.R_new' (Kd.R_new' ho1 (Kd.R_lt q8_8)) (Kd.R_lt q8_10)) (Kd.R_lt q8_12)) (Kd.R_lt (by (with_reducible repeat (first | apply Kd.R_alloc | apply Kd.R_drewN | apply Kd.R_drew)); exact HO298.out))) (below_size q8_0)); have n10_ := Aside0.mk (blk_below (g := gb240) (o := .cells #[.int .i64 a0_0, .slice A0_1 l0_1.length c0_1, .slice A0_2 l0_2.length c0_2] 25 (0, 0)) q8_1 hb); have n11_ := Aside0.mk (blk_below (g := gb257) (o := .cells #[.int .i64 t249, .slice Ao24 t250.length co24, .slice Ao25 t253.length co25] 30 (0, 0)) q8_2 hb); have n12_ := Aside0.mk (blk_below (g := gb265) (o := .cells #[.int .i64 t258, .slice Ao32 t285.length co32, .slice Ao33 t286.length co33] 30 (0, 0)) q8_3 hb); have n13_ := Aside0.mk (blk_below (g := gb274) (o := .cells #[.int .i64 t266, .slice Ao40 t267.length co40, .slice Ao41 t270.length co41] 30 (0, 0)) q8_5 hb); have n14_ := Aside0.mk (below_step q8_0 hb); clear HO_258001; clear HO_258002; clear HO_266001; clear HO_266002; clear HO_275001; clear HO_275002; clear HO295; clear HO298; clear BK240; clear BK257; clear BK265; clear BK274; clear HB; have HO_258001 := n0_; have HO_258002 := n1_; have HO_266001 := n2_; have HO_266002 := n3_; have HO_275001 := n4_; have HO_275002 := n5_; have HO295 := n6_; have HO298 := n7_; have HO302 := n8_; have HO305 := n9_; have BK240 := n10_; have BK257 := n11_; have BK265 := n12_; have BK274 := n13_; have HB := n14_; clear n0_ n1_ n2_ n3_ n4_ n5_ n6_ n7_ n8_ n9_ n10_ n11_ n12_ n13_ n14_; (try clear hb); (try clear hb2); (try clear hk); (try clear hi); (try clear ho0); (try clear ho1)) | ((with_reducible refine gate_dst (N := 14) rfl ?_); refine box_event ?hg (N := 14) ?hd (cs := #[.int .i64 0, .slice none 0 0, .slice none 0 0]) (t := 30) ?hr ?_; (case hd => rfl); (case hg => rfl); (case hr => first | (go_simp; done) | (go_simp; rfl)); intro gb307 hg w124 hbox hb; have n0_ := Aside0.mk (Kd.R_below q8_7 hb); have n1_ := Aside0.mk (Kd.R_below q8_8 hb); have n2_ := Aside0.mk (Kd.R_below q8_9 hb); have n3_ := Aside0.mk (Kd.R_below q8_10 hb); have n4_ := Aside0.mk (Kd.R_below q8_11 hb); have n5_ := Aside0.mk (Kd.R_below q8_12 hb); have n6_ := Aside0.mk (Kd.R_below (by (with_reducible repeat (first | apply Kd.R_alloc | apply Kd.R_drewN | apply Kd.R_drew)); exact HO295.out) hb); have n7_ := Aside0.mk (Kd.R_below (by (with_reducible repeat (first | apply Kd.R_alloc | apply Kd.R_drewN | apply Kd.R_drew)); exact HO298.out) hb); have n8_ := Aside0.mk (Kd.R_below (by (with_reducible repeat (first | apply Kd.R_alloc | apply Kd.R_drewN | apply Kd.R_drew)); exact HO302.out) hb); have n9_ := Aside0.mk (Kd.R_below (by (with_reducible repeat (first | apply Kd.R_alloc | apply Kd.R_drewN | apply Kd.R_drew)); exact HO305.out) hb); have n10_ := Aside0.mk (blk_below (g := gb240) (o := .cells #[.int .i64 a0_0, .slice A0_1 l0_1.length c0_1, .slice A0_2 l0_2.length c0_2] 25 (0, 0)) q8_1 hb); have n11_ := Aside0.mk (blk_below (g := gb257) (o := .cells #[.int .i64 t249, .slice Ao24 t250.length co24, .slice Ao25 t253.length co25] 30 (0, 0)) q8_2 hb); have n12_ := Aside0.mk (blk_below (g := gb265) (o := .cells #[.int .i64 t258, .slice Ao32 t285.length co32, .slice Ao33 t286.length co33] 30 (0, 0)) q8_3 hb); have n13_ := Aside0.mk (blk_below (g := gb274) (o := .cells #[.int .i64 t266, .slice Ao40 t267.length co40, .slice Ao41 t270.length co41] 30 (0, 0)) q8_5 hb); have n14_ := Aside0.mk (below_step q8_0 hb); have n15_ := Aside0.mk (hbox); have n16_ := Aside0.mk ((by rw [hg]; exact (below_size q8_0) : w.heap.size ≤ gb307)); have n17_ := Aside0.mk ((by rw [hg]; exact (below_size q8_0) : w.heap.size ≤ gb307)); have n18_ := Aside0.mk ((q8_42 : gb240 ≠ gb307)); have n19_ := Aside0.mk ((q8_43 : gb307 ≠ gb240)); have n20_ := Aside0.mk ((by rw [hg]; exact Nat.ne_of_lt (blk_lt (g := gb257) (o := .cells #[.int .i64 t249, .slice Ao24 t250.length co24, .slice Ao25 t253.length co25] 30 (0, 0)) q8_2) : gb257 ≠ gb307)); have n21_ := Aside0.mk ((by rw [hg]; exact Nat.ne_of_gt (blk_lt (g := gb257) (o := .cells #[.int .i64 t249, .slice Ao24 t250.length co24, .slice Ao25 t253.length co25] 30 (0, 0)) q8_2) : gb307 ≠ gb257)); have n22_ := Aside0.mk ((by rw [hg]; exact Nat.ne_of_lt (blk_lt (g := gb265) (o := .cells #[.int .i64 t258, .slice Ao32 t285.length co32, .slice Ao33 t286.length co33] 30 (0, 0)) q8_3) : gb265 ≠ gb307)); have n23_ := Aside0.mk ((by rw [hg]; exact Nat.ne_of_gt (blk_lt (g := gb265) (o := .cells #[.int .i64 t258, .slice Ao32 t285.length co32, .slice Ao33 t286.length co33] 30 (0, 0)) q8_3) : gb307 ≠ gb265)); have n24_ := Aside0.mk ((by rw [hg]; exact Nat.ne_of_lt (blk_lt (g := gb274) (o := .cells #[.int .i64 t266, .slice Ao40 t267.length co40, .slice Ao41 t270.length co41] 30 (0, 0)) q8_5) : gb274 ≠ gb307)); have n25_ := Aside0.mk ((by rw [hg]; exact Nat.ne_of_gt (blk_lt (g := gb274) (o := .cells #[.int .i64 t266, .slice Ao40 t267.length co40, .slice Ao41 t270.length co41] 30 (0, 0)) q8_5) : gb307 ≠ gb274)); clear HO_258001; clear HO_258002; clear HO_266001; clear HO_266002; clear HO_275001; clear HO_275002; clear HO295; clear HO298; clear HO302; clear HO305; clear BK240; clear BK257; clear BK265; clear BK274; clear HB; have HO_258001 := n0_; have HO_258002 := n1_; have HO_266001 := n2_; have HO_266002 := n3_; have HO_275001 := n4_; have HO_275002 := n5_; have HO295 := n6_; have HO298 := n7_; have HO302 := n8_; have HO305 := n9_; have BK240 := n10_; have BK257 := n11_; have BK265 := n12_; have BK274 := n13_; have HB := n14_; have BK307 := n15_; have GW307 := n16_; have GE307 := n17_; have NB240_307 := n18_; have NB307_240 := n19_; have NB257_307 := n20_; have NB307_257 := n21_; have NB265_307 := n22_; have NB307_265 := n23_; have NB274_307 := n24_; have NB307_274 := n25_; clear n0_ n1_ n2_ n3_ n4_ n5_ n6_ n7_ n8_ n9_ n10_ n11_ n12_ n13_ n14_ n15_ n16_ n17_ n18_ n19_ n20_ n21_ n22_ n23_ n24_ n25_; clear hb hbox hg; have hnb125 := NB307_240.out; have hnc125 := NB240_307.out; have hnb126 := NB307_257.out; have hnc126 := NB257_307.out; have hnb127 := NB307_265.out; have hnc127 := NB265_307.out; have hnb128 := NB307_274.out; have hnc128 := NB274_307.out; have hcz129_0 : w124.cell? ⟨gb307, 0, none⟩ = some (.int .i64 0) := (blk_cell BK307.out 0).trans rfl; have hcz129_1 : w124.cell? ⟨gb307, 1, none⟩ = some (.slice none 0 0) := (blk_cell BK307.out 1).trans rfl; have hcz129_2 : w124.cell? ⟨gb307, 2, none⟩ = some (.slice none 0 0) := (blk_cell BK307.out 2).trans rfl; have hfz129_0 := blk_frozen BK307.out 0; have hfz129_1 := blk_frozen BK307.out 1; have hfz129_2 := blk_frozen BK307.out 2; obtain ⟨Ao130, co130, eo130⟩ := Kd.R_slice HO302.out; subst eo130; obtain ⟨Ao131, co131, eo131⟩ := Kd.R_slice HO305.out; subst eo131))
           (try simp only [Act.put, List.setIfInBounds_toArray, List.set_cons_zero, List.set_cons_succ])
           go_cut [92] (fun v92 wc => ∃ (kq : Nat) (x92_108 : Bool), v92 = .bool x92_108 ∧ Aside0 (laws_FnExactRetire.j2 kq t288 x92_108 t266 t289 t290 = some r) ∧ Aside0 (kq ≤ kj64) ∧ Aside0 (Kd.R (Kd.int .i64) 3 wc w.heap.size (fun k_ => some k_ ≠ ((.slice Ao32 t285.length co32) : Value).ownBlock ∧ some k_ ≠ ((.slice Ao40 t267.length co40) : Value).ownBlock ∧ some k_ ≠ ((.slice Ao130 t300.length co130) : Value).ownBlock) (.slice Ao24 t250.length co24) t250) ∧ Aside0 (Kd.R k48 48 wc w.heap.size (fun k_ => some k_ ≠ ((.slice Ao33 t286.length co33) : Value).ownBlock ∧ some k_ ≠ ((.slice Ao41 t270.length co41) : Value).ownBlock ∧ some k_ ≠ ((.slice Ao131 t303.length co131) : Value).ownBlock) (.slice Ao25 t253.length co25) t253) ∧ Aside0 (Kd.R (Kd.int .i64) 3 wc w.heap.size (fun k_ => some k_ ≠ ((.slice Ao24 t250.length co24) : Value).ownBlock ∧ some k_ ≠ ((.slice Ao40 t267.length co40) : Value).ownBlock ∧ some k_ ≠ ((.slice Ao130 t300.length co130) : Value).ownBlock) (.slice Ao32 t285.length co32) t285) ∧ Aside0 (Kd.R k48 48 wc w.heap.size (fun k_ => some k_ ≠ ((.slice Ao25 t253.length co25) : Value).ownBlock ∧ some k_ ≠ ((.slice Ao41 t270.length co41) : Value).ownBlock ∧ some k_ ≠ ((.slice Ao131 t303.length co131) : Value).ownBlock) (.slice Ao33 t286.length co33) t286) ∧ Aside0 (Kd.R (Kd.int .i64) 3 wc w.heap.size (fun k_ => some k_ ≠ ((.slice Ao24 t250.length co24) : Value).ownBlock ∧ some k_ ≠ ((.slice Ao32 t285.length co32) : Value).ownBlock ∧ some k_ ≠ ((.slice Ao130 t300.length co130) : Value).ownBlock) (.slice Ao40 t267.length co40) t289) ∧ Aside0 (Kd.R k48 48 wc w.heap.size (fun k_ => some k_ ≠ ((.slice Ao25 t253.length co25) : Value).ownBlock ∧ some k_ ≠ ((.slice Ao33 t286.length co33) : Value).ownBlock ∧ some k_ ≠ ((.slice Ao131 t303.length co131) : Value).ownBlock) (.slice Ao41 t270.length co41) t290) ∧ Aside0 (Kd.R (Kd.int .i64) 3 wc w.heap.size (fun k_ => some k_ ≠ ((.slice Ao24 t250.length co24) : Value).ownBlock ∧ some k_ ≠ ((.slice Ao32 t285.length co32) : Value).ownBlock ∧ some k_ ≠ ((.slice Ao40 t267.length co40) : Value).ownBlock) (.slice Ao130 t300.length co130) t300) ∧ Aside0 (Kd.R k48 48 wc w.heap.size (fun k_ => some k_ ≠ ((.slice Ao25 t253.length co25) : Value).ownBlock ∧ some k_ ≠ ((.slice Ao33 t286.length co33) : Value).ownBlock ∧ some k_ ≠ ((.slice Ao41 t270.length co41) : Value).ownBlock) (.slice Ao131 t303.length co131) t303) ∧ Aside0 (wc.heap[gb240]? = some (.cells #[.int .i64 a0_0, (.slice A0_1 l0_1.length c0_1), (.slice A0_2 l0_2.length c0_2)] 25 (0, 0))) ∧ Aside0 (wc.heap[gb257]? = some (.cells #[.int .i64 t249, (.slice Ao24 t250.length co24), (.slice Ao25 t253.length co25)] 30 (0, 0))) ∧ Aside0 (wc.heap[gb265]? = some (.cells #[.int .i64 t258, (.slice Ao32 t285.length co32), (.slice Ao33 t286.length co33)] 30 (0, 0))) ∧ Aside0 (wc.heap[gb274]? = some (.cells #[.int .i64 t266, (.slice Ao40 t267.length co40), (.slice Ao41 t270.length co41)] 30 (0, 0))) ∧ Aside0 (wc.heap[gb307]? = some (.cells #[.int .i64 t299, (.slice Ao130 t300.length co130), (.slice Ao131 t303.length co131)] 30 (0, 0))) ∧ Aside0 (Below w.heap.size w wc))
           case first =>
            have H := HC109.out
            clear HC109
            replace H := Option.bind_eq_some_iff.mp H
            obtain ⟨t308, A1320, H⟩ := H
            replace H : (if t308 = true then (laws_FnExactRetire.j2 kj64 t288 (t306 != t256) t266 t289 t290) else (laws_FnExactRetire.j2 kj64 t288 true t266 t289 t290)) = some r := H
            have A132 := Aside0.mk A1320
            clear A1320
            by_cases c133 : t308 = true
            ·subst c133
             have H1 : (laws_FnExactRetire.j2 kj64 t288 (t306 != t256) t266 t289 t290) = some r := by rw [if_pos rfl] at H; exact H
             clear H
             have H := H1
             clear H1
             have H' := Aside0.mk H
             clear H
             have hnb134 := NB307_240.out
             have hnc134 := NB240_307.out
             have hnb135 := NB307_257.out
             have hnc135 := NB257_307.out
             have hnb136 := NB307_265.out
             have hnc136 := NB265_307.out
             have hnb137 := NB307_274.out
             have hnc137 := NB274_307.out
             have hcz138_0 : w124.cell? ⟨gb307, 0, none⟩ = some (.int .i64 0) := (blk_cell BK307.out 0).trans rfl
             have hcz138_1 : w124.cell? ⟨gb307, 1, none⟩ = some (.slice none 0 0) := (blk_cell BK307.out 1).trans rfl
             have hcz138_2 : w124.cell? ⟨gb307, 2, none⟩ = some (.slice none 0 0) := (blk_cell BK307.out 2).trans rfl
             have hfz138_0 := blk_frozen BK307.out 0
             have hfz138_1 := blk_frozen BK307.out 1
             have hfz138_2 := blk_frozen BK307.out 2
             have hnb139 := NB257_240.out
             have hnc139 := NB240_257.out
             have hnb140 := NB257_265.out
             have hnc140 := NB265_257.out
             have hnb141 := NB257_274.out
             have hnc141 := NB274_257.out
             have hcz142_0 : w124.cell? ⟨gb257, 0, none⟩ = some (.int .i64 t249) := (blk_cell BK257.out 0).trans rfl
             have hcz142_1 : w124.cell? ⟨gb257, 1, none⟩ = some (.slice Ao24 t250.length co24) := (blk_cell BK257.out 1).trans rfl
             have hcz142_2 : w124.cell? ⟨gb257, 2, none⟩ = some (.slice Ao25 t253.length co25) := (blk_cell BK257.out 2).trans rfl
             have hfz142_0 := blk_frozen BK257.out 0
             have hfz142_1 := blk_frozen BK257.out 1
             have hfz142_2 := blk_frozen BK257.out 2
             go_wp2_with (first | ((with_reducible refine gate_callee (f := 15) rfl ?_); refine goesL_ (some 86) rfl rfl Try.func15 (by kernel_rfl) rfl #[.agg #[.int .i64 t299, .slice Ao130 t300.length co130, .slice Ao131 t303.length co131], .agg #[.int .i64 t249, .slice Ao24 t250.length co24, .slice Ao25 t253.length co25]] rfl q8_4 ?_; (with_reducible refine (laws_eqAges.calls kj64 t299 _ _ t300 _ _ t303 t249 _ _ t250 _ _ t253 true _ ?side1 ?side2 ?side3 ?side4 ?side5 ?side6 ?side7 ?side8 A132.out).mono ?_); (case side1 => refine (Kd.R_reads' (e := 3) (base := w.heap.size) (ok := fun k_ => ((((True ∧ some k_ ≠ (.slice Ao24 t250.length co24 : Value).ownBlock) ∧ some k_ ≠ (.slice Ao32 t285.length co32 : Value).ownBlock) ∧ some k_ ≠ (.slice Ao40 t267.length co40 : Value).ownBlock) ∧ some k_ ≠ (.slice Ao121 t293.length co121 : Value).ownBlock)) (n := t300.length) (c := co130) ?_).2.2; exact q8_17); (case side2 => exact (Kd.R_reads' HO302.out).2.1); (case side3 => refine (Kd.R_reads' (e := 48) (base := w.heap.size) (ok := fun k_ => ((((True ∧ some k_ ≠ (.slice Ao25 t253.length co25 : Value).ownBlock) ∧ some k_ ≠ (.slice Ao33 t286.length co33 : Value).ownBlock) ∧ some k_ ≠ (.slice Ao41 t270.length co41 : Value).ownBlock) ∧ some k_ ≠ (.slice Ao122 t296.length co122 : Value).ownBlock)) (n := t303.length) (c := co131) ?_).2.2; exact q8_18); (case side4 => exact (Kd.R_reads' HO305.out).2.1); (case side5 => refine (Kd.R_reads' (e := 3) (base := w.heap.size) (ok := fun k_ => (((some k_ ≠ (.slice Ao32 t285.length co32 : Value).ownBlock ∧ some k_ ≠ (.slice Ao40 t267.length co40 : Value).ownBlock) ∧ some k_ ≠ (.slice Ao121 t293.length co121 : Value).ownBlock) ∧ some k_ ≠ (.slice Ao130 t300.length co130 : Value).ownBlock)) (n := t250.length) (c := co24) ?_).2.2; exact q8_15); (case side6 => exact (Kd.R_reads' HO_258001.out).2.1); (case side7 => refine (Kd.R_reads' (e := 48) (base := w.heap.size) (ok := fun k_ => (((some k_ ≠ (.slice Ao33 t286.length co33 : Value).ownBlock ∧ some k_ ≠ (.slice Ao41 t270.length co41 : Value).ownBlock) ∧ some k_ ≠ (.slice Ao122 t296.length co122 : Value).ownBlock) ∧ some k_ ≠ (.slice Ao131 t303.length co131 : Value).ownBlock)) (n := t253.length) (c := co25) ?_).2.2; exact q8_16); (case side8 => exact (Kd.R_reads' HO_258002.out).2.1); rintro e w143 ⟨rfl, hb⟩; refine ⟨_, rfl, ?_⟩; have n0_ := Aside0.mk (Kd.R_below q8_15 hb); have n1_ := Aside0.mk (Kd.R_below q8_16 hb); have n2_ := Aside0.mk (Kd.R_below q8_45 hb); have n3_ := Aside0.mk (Kd.R_below q8_46 hb); have n4_ := Aside0.mk (Kd.R_below q8_47 hb); have n5_ := Aside0.mk (Kd.R_below q8_48 hb); have n6_ := Aside0.mk (Kd.R_below q8_49 hb); have n7_ := Aside0.mk (Kd.R_below q8_50 hb); have n8_ := Aside0.mk (Kd.R_below q8_17 hb); have n9_ := Aside0.mk (Kd.R_below q8_18 hb); have n10_ := Aside0.mk (blk_below (g := gb240) (o := .cells #[.int .i64 a0_0, .slice A0_1 l0_1.length c0_1, .slice A0_2 l0_2.length c0_2] 25 (0, 0)) q8_38 hb); have n11_ := Aside0.mk (blk_below (g := gb257) (o := .cells #[.int .i64 t249, .slice Ao24 t250.length co24, .slice Ao25 t253.length co25] 30 (0, 0)) q8_39 hb); have n12_ := Aside0.mk (blk_below (g := gb265) (o := .cells #[.int .i64 t258, .slice Ao32 t285.length co32, .slice Ao33 t286.length co33] 30 (0, 0)) q8_40 hb); have n13_ := Aside0.mk (blk_below (g := gb274) (o := .cells #[.int .i64 t266, .slice Ao40 t267.length co40, .slice Ao41 t270.length co41] 30 (0, 0)) q8_41 hb); have n14_ := Aside0.mk (blk_below (g := gb307) (o := .cells #[.int .i64 t299, .slice Ao130 t300.length co130, .slice Ao131 t303.length co131] 30 (0, 0)) q8_31 hb); have n15_ := Aside0.mk (below_step q8_6 hb); clear HO_258001; clear HO_258002; clear HO_266001; clear HO_266002; clear HO_275001; clear HO_275002; clear HO295; clear HO298; clear HO302; clear HO305; clear BK240; clear BK257; clear BK265; clear BK274; clear BK307; clear HB; have HO_258001 := n0_; have HO_258002 := n1_; have HO_266001 := n2_; have HO_266002 := n3_; have HO_275001 := n4_; have HO_275002 := n5_; have HO295 := n6_; have HO298 := n7_; have HO302 := n8_; have HO305 := n9_; have BK240 := n10_; have BK257 := n11_; have BK265 := n12_; have BK274 := n13_; have BK307 := n14_; have HB := n15_; clear n0_ n1_ n2_ n3_ n4_ n5_ n6_ n7_ n8_ n9_ n10_ n11_ n12_ n13_ n14_ n15_; (try clear hb); (try clear hb2); (try clear hk); (try clear hi)))
             go_meet
             case rel => exact ⟨_, ((t306 != t256)), (by first | rfl | (simp; done) | (simp [*]; done)), H', ⟨by have := HJ11.out; have := HJ64.out; first | omega | exact Nat.le_refl _⟩, ⟨by (try simp only [hl266001_64]); (try simp only [hl266002_64]); (with_reducible repeat (first | apply Kd.R_alloc | apply Kd.R_drewN | apply Kd.R_drew)); exact Kd.R_mono HO_258001.out (fun _ hk => ⟨hk.1.1.1, ⟨hk.1.1.2, hk.2⟩⟩)⟩, ⟨by (try simp only [hl266001_64]); (try simp only [hl266002_64]); (with_reducible repeat (first | apply Kd.R_alloc | apply Kd.R_drewN | apply Kd.R_drew)); exact Kd.R_mono HO_258002.out (fun _ hk => ⟨hk.1.1.1, ⟨hk.1.1.2, hk.2⟩⟩)⟩, ⟨by (try simp only [hl266001_64]); (try simp only [hl266002_64]); (with_reducible repeat (first | apply Kd.R_alloc | apply Kd.R_drewN | apply Kd.R_drew)); exact Kd.R_mono HO_266001.out (fun _ hk => ⟨hk.1.1.1, ⟨hk.1.1.2, hk.2⟩⟩)⟩, ⟨by (try simp only [hl266001_64]); (try simp only [hl266002_64]); (with_reducible repeat (first | apply Kd.R_alloc | apply Kd.R_drewN | apply Kd.R_drew)); exact Kd.R_mono HO_266002.out (fun _ hk => ⟨hk.1.1.1, ⟨hk.1.1.2, hk.2⟩⟩)⟩, ⟨by (try simp only [hl266001_64]); (try simp only [hl266002_64]); (with_reducible repeat (first | apply Kd.R_alloc | apply Kd.R_drewN | apply Kd.R_drew)); exact Kd.R_mono HO_275001.out (fun _ hk => ⟨hk.1.1.1, ⟨hk.1.1.2, hk.2⟩⟩)⟩, ⟨by (try simp only [hl266001_64]); (try simp only [hl266002_64]); (with_reducible repeat (first | apply Kd.R_alloc | apply Kd.R_drewN | apply Kd.R_drew)); exact Kd.R_mono HO_275002.out (fun _ hk => ⟨hk.1.1.1, ⟨hk.1.1.2, hk.2⟩⟩)⟩, ⟨by (try simp only [hl266001_64]); (try simp only [hl266002_64]); (with_reducible repeat (first | apply Kd.R_alloc | apply Kd.R_drewN | apply Kd.R_drew)); exact Kd.R_mono HO302.out (fun _ hk => ⟨hk.1.1.1.2, ⟨hk.1.1.2, hk.1.2⟩⟩)⟩, ⟨by (try simp only [hl266001_64]); (try simp only [hl266002_64]); (with_reducible repeat (first | apply Kd.R_alloc | apply Kd.R_drewN | apply Kd.R_drew)); exact Kd.R_mono HO305.out (fun _ hk => ⟨hk.1.1.1.2, ⟨hk.1.1.2, hk.1.2⟩⟩)⟩, ⟨by (try simp only [hl266001_64]); (try simp only [hl266002_64]); (with_reducible repeat (first | refine blk_drewN ?_ _ | refine blk_drew ?_ | refine blk_alloc ?_ _)); exact BK240.out⟩, ⟨by (try simp only [hl266001_64]); (try simp only [hl266002_64]); (with_reducible repeat (first | refine blk_drewN ?_ _ | refine blk_drew ?_ | refine blk_alloc ?_ _)); exact BK257.out⟩, ⟨by (try simp only [hl266001_64]); (try simp only [hl266002_64]); (with_reducible repeat (first | refine blk_drewN ?_ _ | refine blk_drew ?_ | refine blk_alloc ?_ _)); exact BK265.out⟩, ⟨by (try simp only [hl266001_64]); (try simp only [hl266002_64]); (with_reducible repeat (first | refine blk_drewN ?_ _ | refine blk_drew ?_ | refine blk_alloc ?_ _)); exact BK274.out⟩, ⟨by (try simp only [hl266001_64]); (try simp only [hl266002_64]); (with_reducible repeat (first | refine blk_drewN ?_ _ | refine blk_drew ?_ | refine blk_alloc ?_ _)); exact BK307.out⟩, ⟨q8_6⟩⟩
            ·replace c133 := Bool.eq_false_iff.mpr c133
             subst c133
             have H1 : (laws_FnExactRetire.j2 kj64 t288 true t266 t289 t290) = some r := by rw [if_neg (show ¬ (false = true) by decide)] at H; exact H
             clear H
             have H := H1
             clear H1
             have H' := Aside0.mk H
             clear H
             have hnb144 := NB307_240.out
             have hnc144 := NB240_307.out
             have hnb145 := NB307_257.out
             have hnc145 := NB257_307.out
             have hnb146 := NB307_265.out
             have hnc146 := NB265_307.out
             have hnb147 := NB307_274.out
             have hnc147 := NB274_307.out
             have hcz148_0 : w124.cell? ⟨gb307, 0, none⟩ = some (.int .i64 0) := (blk_cell BK307.out 0).trans rfl
             have hcz148_1 : w124.cell? ⟨gb307, 1, none⟩ = some (.slice none 0 0) := (blk_cell BK307.out 1).trans rfl
             have hcz148_2 : w124.cell? ⟨gb307, 2, none⟩ = some (.slice none 0 0) := (blk_cell BK307.out 2).trans rfl
             have hfz148_0 := blk_frozen BK307.out 0
             have hfz148_1 := blk_frozen BK307.out 1
             have hfz148_2 := blk_frozen BK307.out 2
             have hnb149 := NB257_240.out
             have hnc149 := NB240_257.out
             have hnb150 := NB257_265.out
             have hnc150 := NB265_257.out
             have hnb151 := NB257_274.out
             have hnc151 := NB274_257.out
             have hcz152_0 : w124.cell? ⟨gb257, 0, none⟩ = some (.int .i64 t249) := (blk_cell BK257.out 0).trans rfl
             have hcz152_1 : w124.cell? ⟨gb257, 1, none⟩ = some (.slice Ao24 t250.length co24) := (blk_cell BK257.out 1).trans rfl
             have hcz152_2 : w124.cell? ⟨gb257, 2, none⟩ = some (.slice Ao25 t253.length co25) := (blk_cell BK257.out 2).trans rfl
             have hfz152_0 := blk_frozen BK257.out 0
             have hfz152_1 := blk_frozen BK257.out 1
             have hfz152_2 := blk_frozen BK257.out 2
             go_wp2_with (first | ((with_reducible refine gate_callee (f := 15) rfl ?_); refine goesL_ (some 86) rfl rfl Try.func15 (by kernel_rfl) rfl #[.agg #[.int .i64 t299, .slice Ao130 t300.length co130, .slice Ao131 t303.length co131], .agg #[.int .i64 t249, .slice Ao24 t250.length co24, .slice Ao25 t253.length co25]] rfl q8_4 ?_; (with_reducible refine (laws_eqAges.calls kj64 t299 _ _ t300 _ _ t303 t249 _ _ t250 _ _ t253 false _ ?side1 ?side2 ?side3 ?side4 ?side5 ?side6 ?side7 ?side8 A132.out).mono ?_); (case side1 => refine (Kd.R_reads' (e := 3) (base := w.heap.size) (ok := fun k_ => ((((True ∧ some k_ ≠ (.slice Ao24 t250.length co24 : Value).ownBlock) ∧ some k_ ≠ (.slice Ao32 t285.length co32 : Value).ownBlock) ∧ some k_ ≠ (.slice Ao40 t267.length co40 : Value).ownBlock) ∧ some k_ ≠ (.slice Ao121 t293.length co121 : Value).ownBlock)) (n := t300.length) (c := co130) ?_).2.2; exact q8_17); (case side2 => exact (Kd.R_reads' HO302.out).2.1); (case side3 => refine (Kd.R_reads' (e := 48) (base := w.heap.size) (ok := fun k_ => ((((True ∧ some k_ ≠ (.slice Ao25 t253.length co25 : Value).ownBlock) ∧ some k_ ≠ (.slice Ao33 t286.length co33 : Value).ownBlock) ∧ some k_ ≠ (.slice Ao41 t270.length co41 : Value).ownBlock) ∧ some k_ ≠ (.slice Ao122 t296.length co122 : Value).ownBlock)) (n := t303.length) (c := co131) ?_).2.2; exact q8_18); (case side4 => exact (Kd.R_reads' HO305.out).2.1); (case side5 => refine (Kd.R_reads' (e := 3) (base := w.heap.size) (ok := fun k_ => (((some k_ ≠ (.slice Ao32 t285.length co32 : Value).ownBlock ∧ some k_ ≠ (.slice Ao40 t267.length co40 : Value).ownBlock) ∧ some k_ ≠ (.slice Ao121 t293.length co121 : Value).ownBlock) ∧ some k_ ≠ (.slice Ao130 t300.length co130 : Value).ownBlock)) (n := t250.length) (c := co24) ?_).2.2; exact q8_15); (case side6 => exact (Kd.R_reads' HO_258001.out).2.1); (case side7 => refine (Kd.R_reads' (e := 48) (base := w.heap.size) (ok := fun k_ => (((some k_ ≠ (.slice Ao33 t286.length co33 : Value).ownBlock ∧ some k_ ≠ (.slice Ao41 t270.length co41 : Value).ownBlock) ∧ some k_ ≠ (.slice Ao122 t296.length co122 : Value).ownBlock) ∧ some k_ ≠ (.slice Ao131 t303.length co131 : Value).ownBlock)) (n := t253.length) (c := co25) ?_).2.2; exact q8_16); (case side8 => exact (Kd.R_reads' HO_258002.out).2.1); rintro e w153 ⟨rfl, hb⟩; refine ⟨_, rfl, ?_⟩; have n0_ := Aside0.mk (Kd.R_below q8_15 hb); have n1_ := Aside0.mk (Kd.R_below q8_16 hb); have n2_ := Aside0.mk (Kd.R_below q8_45 hb); have n3_ := Aside0.mk (Kd.R_below q8_46 hb); have n4_ := Aside0.mk (Kd.R_below q8_47 hb); have n5_ := Aside0.mk (Kd.R_below q8_48 hb); have n6_ := Aside0.mk (Kd.R_below q8_49 hb); have n7_ := Aside0.mk (Kd.R_below q8_50 hb); have n8_ := Aside0.mk (Kd.R_below q8_17 hb); have n9_ := Aside0.mk (Kd.R_below q8_18 hb); have n10_ := Aside0.mk (blk_below (g := gb240) (o := .cells #[.int .i64 a0_0, .slice A0_1 l0_1.length c0_1, .slice A0_2 l0_2.length c0_2] 25 (0, 0)) q8_38 hb); have n11_ := Aside0.mk (blk_below (g := gb257) (o := .cells #[.int .i64 t249, .slice Ao24 t250.length co24, .slice Ao25 t253.length co25] 30 (0, 0)) q8_39 hb); have n12_ := Aside0.mk (blk_below (g := gb265) (o := .cells #[.int .i64 t258, .slice Ao32 t285.length co32, .slice Ao33 t286.length co33] 30 (0, 0)) q8_40 hb); have n13_ := Aside0.mk (blk_below (g := gb274) (o := .cells #[.int .i64 t266, .slice Ao40 t267.length co40, .slice Ao41 t270.length co41] 30 (0, 0)) q8_41 hb); have n14_ := Aside0.mk (blk_below (g := gb307) (o := .cells #[.int .i64 t299, .slice Ao130 t300.length co130, .slice Ao131 t303.length co131] 30 (0, 0)) q8_31 hb); have n15_ := Aside0.mk (below_step q8_6 hb); clear HO_258001; clear HO_258002; clear HO_266001; clear HO_266002; clear HO_275001; clear HO_275002; clear HO295; clear HO298; clear HO302; clear HO305; clear BK240; clear BK257; clear BK265; clear BK274; clear BK307; clear HB; have HO_258001 := n0_; have HO_258002 := n1_; have HO_266001 := n2_; have HO_266002 := n3_; have HO_275001 := n4_; have HO_275002 := n5_; have HO295 := n6_; have HO298 := n7_; have HO302 := n8_; have HO305 := n9_; have BK240 := n10_; have BK257 := n11_; have BK265 := n12_; have BK274 := n13_; have BK307 := n14_; have HB := n15_; clear n0_ n1_ n2_ n3_ n4_ n5_ n6_ n7_ n8_ n9_ n10_ n11_ n12_ n13_ n14_ n15_; (try clear hb); (try clear hb2); (try clear hk); (try clear hi)))
             go_meet
             case rel => exact ⟨_, (true), (by first | rfl | (simp; done) | (simp [*]; done)), H', ⟨by have := HJ11.out; have := HJ64.out; first | omega | exact Nat.le_refl _⟩, ⟨by (try simp only [hl266001_64]); (try simp only [hl266002_64]); (with_reducible repeat (first | apply Kd.R_alloc | apply Kd.R_drewN | apply Kd.R_drew)); exact Kd.R_mono HO_258001.out (fun _ hk => ⟨hk.1.1.1, ⟨hk.1.1.2, hk.2⟩⟩)⟩, ⟨by (try simp only [hl266001_64]); (try simp only [hl266002_64]); (with_reducible repeat (first | apply Kd.R_alloc | apply Kd.R_drewN | apply Kd.R_drew)); exact Kd.R_mono HO_258002.out (fun _ hk => ⟨hk.1.1.1, ⟨hk.1.1.2, hk.2⟩⟩)⟩, ⟨by (try simp only [hl266001_64]); (try simp only [hl266002_64]); (with_reducible repeat (first | apply Kd.R_alloc | apply Kd.R_drewN | apply Kd.R_drew)); exact Kd.R_mono HO_266001.out (fun _ hk => ⟨hk.1.1.1, ⟨hk.1.1.2, hk.2⟩⟩)⟩, ⟨by (try simp only [hl266001_64]); (try simp only [hl266002_64]); (with_reducible repeat (first | apply Kd.R_alloc | apply Kd.R_drewN | apply Kd.R_drew)); exact Kd.R_mono HO_266002.out (fun _ hk => ⟨hk.1.1.1, ⟨hk.1.1.2, hk.2⟩⟩)⟩, ⟨by (try simp only [hl266001_64]); (try simp only [hl266002_64]); (with_reducible repeat (first | apply Kd.R_alloc | apply Kd.R_drewN | apply Kd.R_drew)); exact Kd.R_mono HO_275001.out (fun _ hk => ⟨hk.1.1.1, ⟨hk.1.1.2, hk.2⟩⟩)⟩, ⟨by (try simp only [hl266001_64]); (try simp only [hl266002_64]); (with_reducible repeat (first | apply Kd.R_alloc | apply Kd.R_drewN | apply Kd.R_drew)); exact Kd.R_mono HO_275002.out (fun _ hk => ⟨hk.1.1.1, ⟨hk.1.1.2, hk.2⟩⟩)⟩, ⟨by (try simp only [hl266001_64]); (try simp only [hl266002_64]); (with_reducible repeat (first | apply Kd.R_alloc | apply Kd.R_drewN | apply Kd.R_drew)); exact Kd.R_mono HO302.out (fun _ hk => ⟨hk.1.1.1.2, ⟨hk.1.1.2, hk.1.2⟩⟩)⟩, ⟨by (try simp only [hl266001_64]); (try simp only [hl266002_64]); (with_reducible repeat (first | apply Kd.R_alloc | apply Kd.R_drewN | apply Kd.R_drew)); exact Kd.R_mono HO305.out (fun _ hk => ⟨hk.1.1.1.2, ⟨hk.1.1.2, hk.1.2⟩⟩)⟩, ⟨by (try simp only [hl266001_64]); (try simp only [hl266002_64]); (with_reducible repeat (first | refine blk_drewN ?_ _ | refine blk_drew ?_ | refine blk_alloc ?_ _)); exact BK240.out⟩, ⟨by (try simp only [hl266001_64]); (try simp only [hl266002_64]); (with_reducible repeat (first | refine blk_drewN ?_ _ | refine blk_drew ?_ | refine blk_alloc ?_ _)); exact BK257.out⟩, ⟨by (try simp only [hl266001_64]); (try simp only [hl266002_64]); (with_reducible repeat (first | refine blk_drewN ?_ _ | refine blk_drew ?_ | refine blk_alloc ?_ _)); exact BK265.out⟩, ⟨by (try simp only [hl266001_64]); (try simp only [hl266002_64]); (with_reducible repeat (first | refine blk_drewN ?_ _ | refine blk_drew ?_ | refine blk_alloc ?_ _)); exact BK274.out⟩, ⟨by (try simp only [hl266001_64]); (try simp only [hl266002_64]); (with_reducible repeat (first | refine blk_drewN ?_ _ | refine blk_drew ?_ | refine blk_alloc ?_ _)); exact BK307.out⟩, ⟨q8_6⟩⟩
           case rest =>
            clear HC109
            (try clear c1); (try clear c2); (try clear p2); (try clear c3); (try clear c4); (try clear c4b0); (try clear c5); (try clear c6); (try clear c7); (try clear c8); (try clear c9); (try clear c10); (try clear c11); (try clear c12); (try clear c13); (try clear c14); (try clear c15); (try clear c18); (try clear c19); (try clear c22); (try clear c24); (try clear c25); (try clear c29); (try clear c30); (try clear c36); (try clear c37); (try clear c38); (try clear c43); (try clear c44); (try clear c45); (try clear c46); (try clear c48); (try clear c49); (try clear c52); (try clear c53); (try clear c54); (try clear c56); (try clear c57); (try clear c60); (try clear c63); (try clear c71); (try clear c72); (try clear c73); (try clear c76); (try clear c76b0); (try clear c78); (try clear c79); (try clear c80); (try clear c81); (try clear c83); (try clear c84); (try clear c87); (try clear c88); (try clear c89); (try clear c91); (try clear c92); (try clear c95); (try clear c98); (try clear c98b0); (try clear c99); (try clear c100); (try clear c101); (try clear c106); (try clear c106b0); (try clear c106b1); (try clear c110); (try clear c111); (try clear c112); (try clear c117); (try clear c118); (try clear c125); (try clear c126); (try clear c127); (try clear c128); (try clear c133); (try clear c134); (try clear c135); (try clear c136); (try clear c137); (try clear c139); (try clear c140); (try clear c141); (try clear c144); (try clear c145); (try clear c146); (try clear c147); (try clear c149); (try clear c150); (try clear c151); (try clear hcz102_0); (try clear hcz102_1); (try clear hcz102_2); (try clear hcz104_0); (try clear hcz104_1); (try clear hcz104_2); (try clear hcz113_0); (try clear hcz113_1); (try clear hcz113_2); (try clear hcz115_0); (try clear hcz115_1); (try clear hcz115_2); (try clear hcz119_0); (try clear hcz119_1); (try clear hcz119_2); (try clear hcz129_0); (try clear hcz129_1); (try clear hcz129_2); (try clear hcz138_0); (try clear hcz138_1); (try clear hcz138_2); (try clear hcz142_0); (try clear hcz142_1); (try clear hcz142_2); (try clear hcz148_0); (try clear hcz148_1); (try clear hcz148_2); (try clear hcz14_0); (try clear hcz14_1); (try clear hcz14_2); (try clear hcz152_0); (try clear hcz152_1); (try clear hcz152_2); (try clear hcz16_0); (try clear hcz16_1); (try clear hcz16_2); (try clear hcz23_0); (try clear hcz23_1); (try clear hcz23_2); (try clear hcz26_0); (try clear hcz26_1); (try clear hcz26_2); (try clear hcz31_0); (try clear hcz31_1); (try clear hcz31_2); (try clear hcz39_0); (try clear hcz39_1); (try clear hcz39_2); (try clear hcz47_0); (try clear hcz47_1); (try clear hcz47_2); (try clear hcz50_0); (try clear hcz50_1); (try clear hcz50_2); (try clear hcz55_0); (try clear hcz55_1); (try clear hcz55_2); (try clear hcz58_0); (try clear hcz58_1); (try clear hcz58_2); (try clear hcz6_0); (try clear hcz6_1); (try clear hcz6_2); (try clear hcz74_0); (try clear hcz74_1); (try clear hcz74_2); (try clear hcz82_0); (try clear hcz82_1); (try clear hcz82_2); (try clear hcz85_0); (try clear hcz85_1); (try clear hcz85_2); (try clear hcz90_0); (try clear hcz90_1); (try clear hcz90_2); (try clear hcz93_0); (try clear hcz93_1); (try clear hcz93_2); (try clear hfz102_0); (try clear hfz102_1); (try clear hfz102_2); (try clear hfz104_0); (try clear hfz104_1); (try clear hfz104_2); (try clear hfz113_0); (try clear hfz113_1); (try clear hfz113_2); (try clear hfz115_0); (try clear hfz115_1); (try clear hfz115_2); (try clear hfz119_0); (try clear hfz119_1); (try clear hfz119_2); (try clear hfz129_0); (try clear hfz129_1); (try clear hfz129_2); (try clear hfz138_0); (try clear hfz138_1); (try clear hfz138_2); (try clear hfz142_0); (try clear hfz142_1); (try clear hfz142_2); (try clear hfz148_0); (try clear hfz148_1); (try clear hfz148_2); (try clear hfz14_0); (try clear hfz14_1); (try clear hfz14_2); (try clear hfz152_0); (try clear hfz152_1); (try clear hfz152_2); (try clear hfz16_0); (try clear hfz16_1); (try clear hfz16_2); (try clear hfz23_0); (try clear hfz23_1); (try clear hfz23_2); (try clear hfz26_0); (try clear hfz26_1); (try clear hfz26_2); (try clear hfz31_0); (try clear hfz31_1); (try clear hfz31_2); (try clear hfz39_0); (try clear hfz39_1); (try clear hfz39_2); (try clear hfz47_0); (try clear hfz47_1); (try clear hfz47_2); (try clear hfz50_0); (try clear hfz50_1); (try clear hfz50_2); (try clear hfz55_0); (try clear hfz55_1); (try clear hfz55_2); (try clear hfz58_0); (try clear hfz58_1); (try clear hfz58_2); (try clear hfz6_0); (try clear hfz6_1); (try clear hfz6_2); (try clear hfz74_0); (try clear hfz74_1); (try clear hfz74_2); (try clear hfz82_0); (try clear hfz82_1); (try clear hfz82_2); (try clear hfz85_0); (try clear hfz85_1); (try clear hfz85_2); (try clear hfz90_0); (try clear hfz90_1); (try clear hfz90_2); (try clear hfz93_0); (try clear hfz93_1); (try clear hfz93_2); (try clear p2)
            obtain ⟨kq, x92_108, rfl, HA, HJ108, HO_258001, HO_258002, HO_266001, HO_266002, HO_275001, HO_275002, HO_308001, HO_308002, BK240, BK257, BK265, BK274, BK307, HB⟩ := hcut
            have hl275001_108 := (Kd.R_reads' HO_275001.out).1
            rw [hl275001_108] at HO_275001
            (try simp only [hl275001_108])
            (try simp only [hl275001_108] at BK240)
            (try simp only [hl275001_108] at BK257)
            (try simp only [hl275001_108] at BK265)
            (try simp only [hl275001_108] at BK274)
            (try simp only [hl275001_108] at BK307)
            (try simp only [hl275001_108] at HO_258001)
            (try simp only [hl275001_108] at HO_258002)
            (try simp only [hl275001_108] at HO_266001)
            (try simp only [hl275001_108] at HO_266002)
            (try simp only [hl275001_108] at HO_275002)
            (try simp only [hl275001_108] at HO_308001)
            (try simp only [hl275001_108] at HO_308002)
            have hl275002_108 := (Kd.R_reads' HO_275002.out).1
            rw [hl275002_108] at HO_275002
            (try simp only [hl275002_108])
            (try simp only [hl275002_108] at BK240)
            (try simp only [hl275002_108] at BK257)
            (try simp only [hl275002_108] at BK265)
            (try simp only [hl275002_108] at BK274)
            (try simp only [hl275002_108] at BK307)
            (try simp only [hl275002_108] at HO_258001)
            (try simp only [hl275002_108] at HO_258002)
            (try simp only [hl275002_108] at HO_266001)
            (try simp only [hl275002_108] at HO_266002)
            (try simp only [hl275002_108] at HO_275001)
            (try simp only [hl275002_108] at HO_308001)
            (try simp only [hl275002_108] at HO_308002)
            cases kq with
            | zero => exact absurd HA.out (by simp [laws_FnExactRetire.j2])
            | succ kj108 =>
             have H := HA.out
             clear HA
             simp only [laws_FnExactRetire.j2] at H
             by_cases c154 : x92_108 = true
             ·subst c154
              have H1 : (some false) = some r := by rw [if_pos rfl] at H; exact H
              clear H
              have H := H1
              clear H1
              obtain rfl := Option.some.inj H
              go_wp2
              go_ret
              exact ⟨q8_30, q8_6⟩
             ·replace c154 := Bool.eq_false_iff.mpr c154
              subst c154
              have H1 : ((laws_heldAges.f kj108 t266 t289 t290 1).bind fun t309 => (if t309 < 0 then (some false) else (if t309 = t288 then (some true) else (some false)))) = some r := by rw [if_neg (show ¬ (false = true) by decide)] at H; exact H
              clear H
              have H := H1
              clear H1
              replace H := Option.bind_eq_some_iff.mp H
              obtain ⟨t309, A1550, H⟩ := H
              replace H : (if t309 < 0 then (some false) else (if t309 = t288 then (some true) else (some false))) = some r := H
              have A155 := Aside0.mk A1550
              clear A1550
              by_cases c156 : t309 < 0
              ·rw [if_pos c156] at H
               have c156b0 : decide (t309 < 0) = true := decide_eq_true c156
               clear c156
               obtain rfl := Option.some.inj H
               have hnb157 := NB274_240.out
               have hnc157 := NB240_274.out
               have hnb158 := NB274_257.out
               have hnc158 := NB257_274.out
               have hnb159 := NB274_265.out
               have hnc159 := NB265_274.out
               have hnb160 := NB274_307.out
               have hnc160 := NB307_274.out
               have hcz161_0 : wc.cell? ⟨gb274, 0, none⟩ = some (.int .i64 t266) := (blk_cell BK274.out 0).trans rfl
               have hcz161_1 : wc.cell? ⟨gb274, 1, none⟩ = some (.slice Ao40 t289.length co40) := (blk_cell BK274.out 1).trans rfl
               have hcz161_2 : wc.cell? ⟨gb274, 2, none⟩ = some (.slice Ao41 t290.length co41) := (blk_cell BK274.out 2).trans rfl
               have hfz161_0 := blk_frozen BK274.out 0
               have hfz161_1 := blk_frozen BK274.out 1
               have hfz161_2 := blk_frozen BK274.out 2
               go_wp2_with (first | ((with_reducible refine gate_callee (f := 19) rfl ?_); refine goesL_ (some 95) rfl rfl Try.func19 (by kernel_rfl) rfl #[.agg #[.int .i64 t266, .slice Ao40 t289.length co40, .slice Ao41 t290.length co41], .int .i64 1] rfl q8_4 ?_; (with_reducible refine (laws_heldAges.calls kj108 t266 _ _ t289 _ _ t290 1 t309 _ ?side1 ?side2 ?side3 ?side4 A155.out).mono ?_); (case side1 => exact q8_23); (case side2 => exact (Kd.R_reads' HO_275001.out).2.1); (case side3 => exact q8_24); (case side4 => exact (Kd.R_reads' HO_275002.out).2.1); rintro e w162 ⟨rfl, hb⟩; refine ⟨_, rfl, ?_⟩; have n0_ := Aside0.mk (Kd.R_below q8_7 hb); have n1_ := Aside0.mk (Kd.R_below q8_8 hb); have n2_ := Aside0.mk (Kd.R_below q8_9 hb); have n3_ := Aside0.mk (Kd.R_below q8_10 hb); have n4_ := Aside0.mk (Kd.R_below q8_11 hb); have n5_ := Aside0.mk (Kd.R_below q8_12 hb); have n6_ := Aside0.mk (Kd.R_below (by (with_reducible repeat (first | apply Kd.R_alloc | apply Kd.R_drewN | apply Kd.R_drew)); exact HO_308001.out) hb); have n7_ := Aside0.mk (Kd.R_below (by (with_reducible repeat (first | apply Kd.R_alloc | apply Kd.R_drewN | apply Kd.R_drew)); exact HO_308002.out) hb); have n8_ := Aside0.mk (blk_below (g := gb240) (o := .cells #[.int .i64 a0_0, .slice A0_1 l0_1.length c0_1, .slice A0_2 l0_2.length c0_2] 25 (0, 0)) q8_1 hb); have n9_ := Aside0.mk (blk_below (g := gb257) (o := .cells #[.int .i64 t249, .slice Ao24 t250.length co24, .slice Ao25 t253.length co25] 30 (0, 0)) q8_2 hb); have n10_ := Aside0.mk (blk_below (g := gb265) (o := .cells #[.int .i64 t258, .slice Ao32 t285.length co32, .slice Ao33 t286.length co33] 30 (0, 0)) q8_3 hb); have n11_ := Aside0.mk (blk_below (g := gb274) (o := .cells #[.int .i64 t266, .slice Ao40 t289.length co40, .slice Ao41 t290.length co41] 30 (0, 0)) q8_5 hb); have n12_ := Aside0.mk (blk_below (g := gb307) (o := .cells #[.int .i64 t299, .slice Ao130 t300.length co130, .slice Ao131 t303.length co131] 30 (0, 0)) (by (with_reducible repeat (first | refine blk_drewN ?_ _ | refine blk_drew ?_ | refine blk_alloc ?_ _)); exact BK307.out) hb); have n13_ := Aside0.mk (below_step q8_6 hb); clear HO_258001; clear HO_258002; clear HO_266001; clear HO_266002; clear HO_275001; clear HO_275002; clear HO_308001; clear HO_308002; clear BK240; clear BK257; clear BK265; clear BK274; clear BK307; clear HB; have HO_258001 := n0_; have HO_258002 := n1_; have HO_266001 := n2_; have HO_266002 := n3_; have HO_275001 := n4_; have HO_275002 := n5_; have HO_308001 := n6_; have HO_308002 := n7_; have BK240 := n8_; have BK257 := n9_; have BK265 := n10_; have BK274 := n11_; have BK307 := n12_; have HB := n13_; clear n0_ n1_ n2_ n3_ n4_ n5_ n6_ n7_ n8_ n9_ n10_ n11_ n12_ n13_; (try clear hb); (try clear hb2); (try clear hk); (try clear hi)))
               go_ret
               exact ⟨q8_30, q8_6⟩
              ·rw [if_neg c156] at H
               have c156b0 : decide (t309 < 0) = false := decide_eq_false c156
               clear c156
               by_cases c163 : t309 = t288
               ·rw [if_pos c163] at H
                have c163b0 : (t309 == t288) = true := beq_iff_eq.mpr c163
                have c163b1 : (t309 != t288) = false := bne_eq_false_iff_eq.mpr c163
                clear c163
                obtain rfl := Option.some.inj H
                have hnb164 := NB274_240.out
                have hnc164 := NB240_274.out
                have hnb165 := NB274_257.out
                have hnc165 := NB257_274.out
                have hnb166 := NB274_265.out
                have hnc166 := NB265_274.out
                have hnb167 := NB274_307.out
                have hnc167 := NB307_274.out
                have hcz168_0 : wc.cell? ⟨gb274, 0, none⟩ = some (.int .i64 t266) := (blk_cell BK274.out 0).trans rfl
                have hcz168_1 : wc.cell? ⟨gb274, 1, none⟩ = some (.slice Ao40 t289.length co40) := (blk_cell BK274.out 1).trans rfl
                have hcz168_2 : wc.cell? ⟨gb274, 2, none⟩ = some (.slice Ao41 t290.length co41) := (blk_cell BK274.out 2).trans rfl
                have hfz168_0 := blk_frozen BK274.out 0
                have hfz168_1 := blk_frozen BK274.out 1
                have hfz168_2 := blk_frozen BK274.out 2
                go_wp2_with (first | ((with_reducible refine gate_callee (f := 19) rfl ?_); refine goesL_ (some 95) rfl rfl Try.func19 (by kernel_rfl) rfl #[.agg #[.int .i64 t266, .slice Ao40 t289.length co40, .slice Ao41 t290.length co41], .int .i64 1] rfl q8_4 ?_; (with_reducible refine (laws_heldAges.calls kj108 t266 _ _ t289 _ _ t290 1 t309 _ ?side1 ?side2 ?side3 ?side4 A155.out).mono ?_); (case side1 => exact q8_23); (case side2 => exact (Kd.R_reads' HO_275001.out).2.1); (case side3 => exact q8_24); (case side4 => exact (Kd.R_reads' HO_275002.out).2.1); rintro e w169 ⟨rfl, hb⟩; refine ⟨_, rfl, ?_⟩; have n0_ := Aside0.mk (Kd.R_below q8_7 hb); have n1_ := Aside0.mk (Kd.R_below q8_8 hb); have n2_ := Aside0.mk (Kd.R_below q8_9 hb); have n3_ := Aside0.mk (Kd.R_below q8_10 hb); have n4_ := Aside0.mk (Kd.R_below q8_11 hb); have n5_ := Aside0.mk (Kd.R_below q8_12 hb); have n6_ := Aside0.mk (Kd.R_below (by (with_reducible repeat (first | apply Kd.R_alloc | apply Kd.R_drewN | apply Kd.R_drew)); exact HO_308001.out) hb); have n7_ := Aside0.mk (Kd.R_below (by (with_reducible repeat (first | apply Kd.R_alloc | apply Kd.R_drewN | apply Kd.R_drew)); exact HO_308002.out) hb); have n8_ := Aside0.mk (blk_below (g := gb240) (o := .cells #[.int .i64 a0_0, .slice A0_1 l0_1.length c0_1, .slice A0_2 l0_2.length c0_2] 25 (0, 0)) q8_1 hb); have n9_ := Aside0.mk (blk_below (g := gb257) (o := .cells #[.int .i64 t249, .slice Ao24 t250.length co24, .slice Ao25 t253.length co25] 30 (0, 0)) q8_2 hb); have n10_ := Aside0.mk (blk_below (g := gb265) (o := .cells #[.int .i64 t258, .slice Ao32 t285.length co32, .slice Ao33 t286.length co33] 30 (0, 0)) q8_3 hb); have n11_ := Aside0.mk (blk_below (g := gb274) (o := .cells #[.int .i64 t266, .slice Ao40 t289.length co40, .slice Ao41 t290.length co41] 30 (0, 0)) q8_5 hb); have n12_ := Aside0.mk (blk_below (g := gb307) (o := .cells #[.int .i64 t299, .slice Ao130 t300.length co130, .slice Ao131 t303.length co131] 30 (0, 0)) (by (with_reducible repeat (first | refine blk_drewN ?_ _ | refine blk_drew ?_ | refine blk_alloc ?_ _)); exact BK307.out) hb); have n13_ := Aside0.mk (below_step q8_6 hb); clear HO_258001; clear HO_258002; clear HO_266001; clear HO_266002; clear HO_275001; clear HO_275002; clear HO_308001; clear HO_308002; clear BK240; clear BK257; clear BK265; clear BK274; clear BK307; clear HB; have HO_258001 := n0_; have HO_258002 := n1_; have HO_266001 := n2_; have HO_266002 := n3_; have HO_275001 := n4_; have HO_275002 := n5_; have HO_308001 := n6_; have HO_308002 := n7_; have BK240 := n8_; have BK257 := n9_; have BK265 := n10_; have BK274 := n11_; have BK307 := n12_; have HB := n13_; clear n0_ n1_ n2_ n3_ n4_ n5_ n6_ n7_ n8_ n9_ n10_ n11_ n12_ n13_; (try clear hb); (try clear hb2); (try clear hk); (try clear hi)))
                go_ret
                exact ⟨q8_30, q8_6⟩
               ·rw [if_neg c163] at H
                have c163b0 : (t309 == t288) = false := beq_eq_false_iff_ne.mpr c163
                have c163b1 : (t309 != t288) = true := bne_iff_ne.mpr c163
                obtain rfl := Option.some.inj H
                have hnb170 := NB274_240.out
                have hnc170 := NB240_274.out
                have hnb171 := NB274_257.out
                have hnc171 := NB257_274.out
                have hnb172 := NB274_265.out
                have hnc172 := NB265_274.out
                have hnb173 := NB274_307.out
                have hnc173 := NB307_274.out
                have hcz174_0 : wc.cell? ⟨gb274, 0, none⟩ = some (.int .i64 t266) := (blk_cell BK274.out 0).trans rfl
                have hcz174_1 : wc.cell? ⟨gb274, 1, none⟩ = some (.slice Ao40 t289.length co40) := (blk_cell BK274.out 1).trans rfl
                have hcz174_2 : wc.cell? ⟨gb274, 2, none⟩ = some (.slice Ao41 t290.length co41) := (blk_cell BK274.out 2).trans rfl
                have hfz174_0 := blk_frozen BK274.out 0
                have hfz174_1 := blk_frozen BK274.out 1
                have hfz174_2 := blk_frozen BK274.out 2
                go_wp2_with (first | ((with_reducible refine gate_callee (f := 19) rfl ?_); refine goesL_ (some 95) rfl rfl Try.func19 (by kernel_rfl) rfl #[.agg #[.int .i64 t266, .slice Ao40 t289.length co40, .slice Ao41 t290.length co41], .int .i64 1] rfl q8_4 ?_; (with_reducible refine (laws_heldAges.calls kj108 t266 _ _ t289 _ _ t290 1 t309 _ ?side1 ?side2 ?side3 ?side4 A155.out).mono ?_); (case side1 => exact q8_23); (case side2 => exact (Kd.R_reads' HO_275001.out).2.1); (case side3 => exact q8_24); (case side4 => exact (Kd.R_reads' HO_275002.out).2.1); rintro e w175 ⟨rfl, hb⟩; refine ⟨_, rfl, ?_⟩; have n0_ := Aside0.mk (Kd.R_below q8_7 hb); have n1_ := Aside0.mk (Kd.R_below q8_8 hb); have n2_ := Aside0.mk (Kd.R_below q8_9 hb); have n3_ := Aside0.mk (Kd.R_below q8_10 hb); have n4_ := Aside0.mk (Kd.R_below q8_11 hb); have n5_ := Aside0.mk (Kd.R_below q8_12 hb); have n6_ := Aside0.mk (Kd.R_below (by (with_reducible repeat (first | apply Kd.R_alloc | apply Kd.R_drewN | apply Kd.R_drew)); exact HO_308001.out) hb); have n7_ := Aside0.mk (Kd.R_below (by (with_reducible repeat (first | apply Kd.R_alloc | apply Kd.R_drewN | apply Kd.R_drew)); exact HO_308002.out) hb); have n8_ := Aside0.mk (blk_below (g := gb240) (o := .cells #[.int .i64 a0_0, .slice A0_1 l0_1.length c0_1, .slice A0_2 l0_2.length c0_2] 25 (0, 0)) q8_1 hb); have n9_ := Aside0.mk (blk_below (g := gb257) (o := .cells #[.int .i64 t249, .slice Ao24 t250.length co24, .slice Ao25 t253.length co25] 30 (0, 0)) q8_2 hb); have n10_ := Aside0.mk (blk_below (g := gb265) (o := .cells #[.int .i64 t258, .slice Ao32 t285.length co32, .slice Ao33 t286.length co33] 30 (0, 0)) q8_3 hb); have n11_ := Aside0.mk (blk_below (g := gb274) (o := .cells #[.int .i64 t266, .slice Ao40 t289.length co40, .slice Ao41 t290.length co41] 30 (0, 0)) q8_5 hb); have n12_ := Aside0.mk (blk_below (g := gb307) (o := .cells #[.int .i64 t299, .slice Ao130 t300.length co130, .slice Ao131 t303.length co131] 30 (0, 0)) (by (with_reducible repeat (first | refine blk_drewN ?_ _ | refine blk_drew ?_ | refine blk_alloc ?_ _)); exact BK307.out) hb); have n13_ := Aside0.mk (below_step q8_6 hb); clear HO_258001; clear HO_258002; clear HO_266001; clear HO_266002; clear HO_275001; clear HO_275002; clear HO_308001; clear HO_308002; clear BK240; clear BK257; clear BK265; clear BK274; clear BK307; clear HB; have HO_258001 := n0_; have HO_258002 := n1_; have HO_266001 := n2_; have HO_266002 := n3_; have HO_275001 := n4_; have HO_275002 := n5_; have HO_308001 := n6_; have HO_308002 := n7_; have BK240 := n8_; have BK257 := n9_; have BK265 := n10_; have BK274 := n11_; have BK307 := n12_; have HB := n13_; clear n0_ n1_ n2_ n3_ n4_ n5_ n6_ n7_ n8_ n9_ n10_ n11_ n12_ n13_; (try clear hb); (try clear hb2); (try clear hk); (try clear hi)))
                go_ret
                exact ⟨q8_30, q8_6⟩
          ·rw [if_neg c106] at H
           have c106b0 : (t291 == t288) = false := beq_eq_false_iff_ne.mpr c106
           have c106b1 : (t291 != t288) = true := bne_iff_ne.mpr c106
           obtain rfl := Option.some.inj H
           have hnb176 := NB274_240.out
           have hnc176 := NB240_274.out
           have hnb177 := NB274_257.out
           have hnc177 := NB257_274.out
           have hnb178 := NB274_265.out
           have hnc178 := NB265_274.out
           have hcz179_0 : wc.cell? ⟨gb274, 0, none⟩ = some (.int .i64 t266) := (blk_cell BK274.out 0).trans rfl
           have hcz179_1 : wc.cell? ⟨gb274, 1, none⟩ = some (.slice Ao40 t267.length co40) := (blk_cell BK274.out 1).trans rfl
           have hcz179_2 : wc.cell? ⟨gb274, 2, none⟩ = some (.slice Ao41 t270.length co41) := (blk_cell BK274.out 2).trans rfl
           have hfz179_0 := blk_frozen BK274.out 0
           have hfz179_1 := blk_frozen BK274.out 1
           have hfz179_2 := blk_frozen BK274.out 2
           go_wp2_with (first | ((with_reducible refine gate_callee (f := 18) rfl ?_); refine goesL_ (some 68) rfl rfl Try.func18 (by kernel_rfl) rfl #[.agg #[.int .i64 t266, .slice Ao40 t267.length co40, .slice Ao41 t270.length co41], .int .i64 1] rfl q8_4 ?_; (with_reducible refine (laws_markAges.calls kj64 t266 (fun k_ => some k_ = (.slice Ao40 t267.length co40 : Value).ownBlock) (.slice Ao40 t267.length co40) t267 (fun k_ => some k_ = (.slice Ao41 t270.length co41 : Value).ownBlock) (.slice Ao41 t270.length co41) t270 1 t288 t289 t290 w _ ?side1 ?side2 ?side3 A96.out).mono ?_); (case side1 => exact q8_0); (case side2 => exact Kd.R_tight rfl HO_275001.out); (case side3 => exact Kd.R_tight rfl HO_275002.out); rintro e w180 ⟨rfl, hy0, hy1, hb, hkp⟩; refine ⟨_, rfl, ?_⟩; have n0_ := Aside0.mk (Kd.R_mono (ok' := fun k_ => some k_ ≠ (.slice Ao32 t285.length co32 : Value).ownBlock ∧ some k_ ≠ (.slice Ao40 t267.length co40 : Value).ownBlock) (Kd.R_keptB ((Kd.R_apart' HO_258001.out (Kd.R_typed HO_275002.out) q8_44)) hkp (fun k_ hk_ hs_ => Or.elim hs_ (fun e_ => (hk_.1.2) e_) (fun e_ => (hk_.2) e_))) (fun k_ hk_ => ⟨hk_.1.1.1, hk_.1.1.2⟩)); have n1_ := Aside0.mk (Kd.R_mono (ok' := fun k_ => some k_ ≠ (.slice Ao33 t286.length co33 : Value).ownBlock ∧ some k_ ≠ (.slice Ao41 t270.length co41 : Value).ownBlock) (Kd.R_keptB ((Kd.R_apart' HO_258002.out (Kd.R_typed HO_275001.out) q8_44)) hkp (fun k_ hk_ hs_ => Or.elim hs_ (fun e_ => (hk_.2) e_) (fun e_ => (hk_.1.2) e_))) (fun k_ hk_ => ⟨hk_.1.1.1, hk_.1.1.2⟩)); have n2_ := Aside0.mk (Kd.R_mono (ok' := fun k_ => some k_ ≠ (.slice Ao24 t250.length co24 : Value).ownBlock ∧ some k_ ≠ (.slice Ao40 t267.length co40 : Value).ownBlock) (Kd.R_keptB ((Kd.R_apart' HO_266001.out (Kd.R_typed HO_275002.out) q8_44)) hkp (fun k_ hk_ hs_ => Or.elim hs_ (fun e_ => (hk_.1.2) e_) (fun e_ => (hk_.2) e_))) (fun k_ hk_ => ⟨hk_.1.1.1, hk_.1.1.2⟩)); have n3_ := Aside0.mk (Kd.R_mono (ok' := fun k_ => some k_ ≠ (.slice Ao25 t253.length co25 : Value).ownBlock ∧ some k_ ≠ (.slice Ao41 t270.length co41 : Value).ownBlock) (Kd.R_keptB ((Kd.R_apart' HO_266002.out (Kd.R_typed HO_275001.out) q8_44)) hkp (fun k_ hk_ hs_ => Or.elim hs_ (fun e_ => (hk_.2) e_) (fun e_ => (hk_.1.2) e_))) (fun k_ hk_ => ⟨hk_.1.1.1, hk_.1.1.2⟩)); have n4_ := Aside0.mk (Kd.R_reok rfl hy0 (fun k_ e_ => HO_275001.out.1 k_ e_)); have n5_ := Aside0.mk (Kd.R_reok rfl hy1 (fun k_ e_ => HO_275002.out.1 k_ e_)); have n6_ := Aside0.mk (blk_kept q8_1 hkp (fun hs_ => Or.elim hs_ (fun e_ => (fun e_ => (Kd.R_ne HO_275001.out BK240.out q8_44) e_) e_) (fun e_ => (fun e_ => (Kd.R_ne HO_275002.out BK240.out q8_44) e_) e_))); have n7_ := Aside0.mk (blk_kept q8_2 hkp (fun hs_ => Or.elim hs_ (fun e_ => (fun e_ => (Kd.R_ne HO_275001.out BK257.out q8_44) e_) e_) (fun e_ => (fun e_ => (Kd.R_ne HO_275002.out BK257.out q8_44) e_) e_))); have n8_ := Aside0.mk (blk_kept q8_3 hkp (fun hs_ => Or.elim hs_ (fun e_ => (fun e_ => (Kd.R_ne HO_275001.out BK265.out q8_44) e_) e_) (fun e_ => (fun e_ => (Kd.R_ne HO_275002.out BK265.out q8_44) e_) e_))); have n9_ := Aside0.mk (blk_kept q8_5 hkp (fun hs_ => Or.elim hs_ (fun e_ => (fun e_ => (Kd.R_ne HO_275001.out BK274.out q8_44) e_) e_) (fun e_ => (fun e_ => (Kd.R_ne HO_275002.out BK274.out q8_44) e_) e_))); have n10_ := Aside0.mk (hb); clear HO_258001; clear HO_258002; clear HO_266001; clear HO_266002; clear HO_275001; clear HO_275002; clear BK240; clear BK257; clear BK265; clear BK274; clear HB; have HO_258001 := n0_; have HO_258002 := n1_; have HO_266001 := n2_; have HO_266002 := n3_; have HO_275001 := n4_; have HO_275002 := n5_; have BK240 := n6_; have BK257 := n7_; have BK265 := n8_; have BK274 := n9_; have HB := n10_; clear n0_ n1_ n2_ n3_ n4_ n5_ n6_ n7_ n8_ n9_ n10_; (try clear hb); (try clear hkp); (try clear hy0); (try clear hy1); have hcz181_0 : w180.cell? ⟨gb274, 0, none⟩ = some (.int .i64 t266) := (blk_cell BK274.out 0).trans rfl; have hcz181_1 : w180.cell? ⟨gb274, 1, none⟩ = some (.slice Ao40 t267.length co40) := (blk_cell BK274.out 1).trans rfl; have hcz181_2 : w180.cell? ⟨gb274, 2, none⟩ = some (.slice Ao41 t270.length co41) := (blk_cell BK274.out 2).trans rfl; have hfz181_0 := blk_frozen BK274.out 0; have hfz181_1 := blk_frozen BK274.out 1; have hfz181_2 := blk_frozen BK274.out 2) | ((with_reducible refine gate_callee (f := 19) rfl ?_); refine goesL_ (some 71) rfl rfl Try.func19 (by kernel_rfl) rfl #[.agg #[.int .i64 t266, .slice Ao40 t289.length co40, .slice Ao41 t290.length co41], .int .i64 1] rfl q8_34 ?_; (with_reducible refine (laws_heldAges.calls kj64 t266 _ _ t289 _ _ t290 1 t291 _ ?side1 ?side2 ?side3 ?side4 A97.out).mono ?_); (case side1 => exact q8_23); (case side2 => rw [show t289.length = t267.length from (Kd.R_reads' HO_275001.out).1.symm]; exact (Kd.R_reads' HO_275001.out).2.1); (case side3 => exact q8_24); (case side4 => rw [show t290.length = t270.length from (Kd.R_reads' HO_275002.out).1.symm]; exact (Kd.R_reads' HO_275002.out).2.1); rintro e w182 ⟨rfl, hb⟩; refine ⟨_, rfl, ?_⟩; have n0_ := Aside0.mk (Kd.R_below q8_7 hb); have n1_ := Aside0.mk (Kd.R_below q8_8 hb); have n2_ := Aside0.mk (Kd.R_below q8_9 hb); have n3_ := Aside0.mk (Kd.R_below q8_10 hb); have n4_ := Aside0.mk (Kd.R_below q8_11 hb); have n5_ := Aside0.mk (Kd.R_below q8_12 hb); have n6_ := Aside0.mk (blk_below (g := gb240) (o := .cells #[.int .i64 a0_0, .slice A0_1 l0_1.length c0_1, .slice A0_2 l0_2.length c0_2] 25 (0, 0)) q8_1 hb); have n7_ := Aside0.mk (blk_below (g := gb257) (o := .cells #[.int .i64 t249, .slice Ao24 t250.length co24, .slice Ao25 t253.length co25] 30 (0, 0)) q8_2 hb); have n8_ := Aside0.mk (blk_below (g := gb265) (o := .cells #[.int .i64 t258, .slice Ao32 t285.length co32, .slice Ao33 t286.length co33] 30 (0, 0)) q8_3 hb); have n9_ := Aside0.mk (blk_below (g := gb274) (o := .cells #[.int .i64 t266, .slice Ao40 t267.length co40, .slice Ao41 t270.length co41] 30 (0, 0)) q8_5 hb); have n10_ := Aside0.mk (below_step q8_0 hb); clear HO_258001; clear HO_258002; clear HO_266001; clear HO_266002; clear HO_275001; clear HO_275002; clear BK240; clear BK257; clear BK265; clear BK274; clear HB; have HO_258001 := n0_; have HO_258002 := n1_; have HO_266001 := n2_; have HO_266002 := n3_; have HO_275001 := n4_; have HO_275002 := n5_; have BK240 := n6_; have BK257 := n7_; have BK265 := n8_; have BK274 := n9_; have HB := n10_; clear n0_ n1_ n2_ n3_ n4_ n5_ n6_ n7_ n8_ n9_ n10_; (try clear hb); (try clear hb2); (try clear hk); (try clear hi)))
           go_ret
           exact ⟨q8_30, q8_0⟩
     ·replace c63 := Bool.eq_false_iff.mpr c63
      subst c63
      have H1 : (some false) = some r := by rw [if_neg (show ¬ (false = true) by decide)] at H; exact H
      clear H
      have H := H1
      clear H1
      obtain rfl := Option.some.inj H
      try go_wp2
      have n0_ := Aside0.mk (Kd.R_drew HO_258001.out)
      have n1_ := Aside0.mk (Kd.R_drew HO_258002.out)
      have n2_ := Aside0.mk (Kd.R_drew HO_266001.out)
      have n3_ := Aside0.mk (Kd.R_drew HO_266002.out)
      have n4_ := Aside0.mk (Kd.R_drew HO_275001.out)
      have n5_ := Aside0.mk (Kd.R_drew HO_275002.out)
      have n6_ := Aside0.mk (blk_drew BK240.out)
      have n7_ := Aside0.mk (blk_drew BK257.out)
      have n8_ := Aside0.mk (blk_drew BK265.out)
      have n9_ := Aside0.mk (blk_drew BK274.out)
      have n10_ := Aside0.mk (below_drew1 HB.out)
      clear HO_258001
      clear HO_258002
      clear HO_266001
      clear HO_266002
      clear HO_275001
      clear HO_275002
      clear BK240
      clear BK257
      clear BK265
      clear BK274
      clear HB
      have HO_258001 := n0_
      have HO_258002 := n1_
      have HO_266001 := n2_
      have HO_266002 := n3_
      have HO_275001 := n4_
      have HO_275002 := n5_
      have BK240 := n6_
      have BK257 := n7_
      have BK265 := n8_
      have BK274 := n9_
      have HB := n10_
      clear n0_ n1_ n2_ n3_ n4_ n5_ n6_ n7_ n8_ n9_ n10_
      refine start_ (n := 5) (S := fun w' => w'.cell? ⟨gb265, 0, none⟩ = some (.int .i64 t258) ∧ w'.cell? ⟨gb265, 1, none⟩ = some (.slice Ao32 t259.length co32) ∧ w'.cell? ⟨gb265, 2, none⟩ = some (.slice Ao33 t262.length co33) ∧ w'.cell? ⟨gb240, 0, none⟩ = some (.int .i64 a0_0) ∧ w'.cell? ⟨gb240, 1, none⟩ = some (.slice A0_1 l0_1.length c0_1) ∧ w'.cell? ⟨gb240, 2, none⟩ = some (.slice A0_2 l0_2.length c0_2)) (ds := []) #[F,F,F,F,F] (by kernel_rfl) rfl rfl ⟨(blk_cell BK265.out 0).trans rfl, (blk_cell BK265.out 1).trans rfl, (blk_cell BK265.out 2).trans rfl, (blk_cell BK240.out 0).trans rfl, (blk_cell BK240.out 1).trans rfl, (blk_cell BK240.out 2).trans rfl⟩ (fun hHeld => ?_)
      generalize wc.drew = w183 at HO_258001 HO_258002 HO_266001 HO_266002 HO_275001 HO_275002 BK240 BK257 BK265 BK274 HB hHeld ⊢
      refine take_ (i := 0) (N := some 45) (v := ?_) (a' := ?_) #[T,F,F,F,F] rfl rfl (by kernel_rfl) (fun _ _ _ h => h) (Or.inl ⟨by rfl, ?_⟩) hHeld ?_ ?_
      rotate_left
      ·rintro w' ⟨s0, s1, s2, s3, s4, s5⟩
       go_simp
       with_reducible rfl
      rotate_left
      ·simp only [Act.put, List.setIfInBounds_toArray, List.set_cons_zero, List.set_cons_succ, i64_w, i32_w]
       rfl
      refine take_ (i := 1) (N := some 46) (v := ?_) (a' := ?_) #[T,T,F,F,F] rfl rfl (by kernel_rfl) (fun _ _ _ h => h) (Or.inl ⟨by rfl, ?_⟩) hHeld ?_ ?_
      rotate_left
      ·rintro w' ⟨s0, s1, s2, s3, s4, s5⟩
       go_simp
       with_reducible rfl
      rotate_left
      ·simp only [Act.put, List.setIfInBounds_toArray, List.set_cons_zero, List.set_cons_succ, i64_w, i32_w]
       rfl
      refine one_ (i := 2) (N := some 47) #[T,T,T,F,F] rfl rfl (by kernel_rfl) q8_44 (fun K hK => ?_)
      refine goes_ Try.func13 (by kernel_rfl) rfl #[.agg #[.int .i64 a0_0, .slice A0_1 l0_1.length c0_1, .slice A0_2 l0_2.length c0_2]] (by rfl) rfl rfl q8_4 ?_
      with_reducible refine (laws_toAges.calls kj11 a0_0 _ _ l0_1 _ _ l0_2 t276 t277 t280 _ ?side1 ?side2 ?side3 ?side4 A61.out).mono ?_
      (case side1 => exact q8_26)
      (case side2 => exact HC0_1.out)
      (case side3 => exact q8_27)
      (case side4 => exact HC0_2.out)
      rintro e w184 ⟨v278, v281, rfl, ho0, ho1, hb⟩
      refine ⟨_, rfl, ?_⟩
      have n0_ := Aside0.mk (Kd.R_elder' q8_7 (Kd.R_base ho0) hb)
      have n1_ := Aside0.mk (Kd.R_elder' q8_8 (Kd.R_base ho1) hb)
      have n2_ := Aside0.mk (Kd.R_elder' q8_9 (Kd.R_base ho0) hb)
      have n3_ := Aside0.mk (Kd.R_elder' q8_10 (Kd.R_base ho1) hb)
      have n4_ := Aside0.mk (Kd.R_elder' q8_11 (Kd.R_base ho0) hb)
      have n5_ := Aside0.mk (Kd.R_elder' q8_12 (Kd.R_base ho1) hb)
      have n6_ := Aside0.mk (Kd.R_lower (Kd.R_new' (Kd.R_new' (Kd.R_new' ho0 (Kd.R_lt q8_7)) (Kd.R_lt q8_9)) (Kd.R_lt q8_11)) (below_size q8_0))
      have n7_ := Aside0.mk (Kd.R_lower (Kd.R_new' (Kd.R_new' (Kd.R_new' ho1 (Kd.R_lt q8_8)) (Kd.R_lt q8_10)) (Kd.R_lt q8_12)) (below_size q8_0))
      have n8_ := Aside0.mk (blk_below (g := gb240) (o := .cells #[.int .i64 a0_0, .slice A0_1 l0_1.length c0_1, .slice A0_2 l0_2.length c0_2] 25 (0, 0)) q8_1 hb)
      have n9_ := Aside0.mk (blk_below (g := gb257) (o := .cells #[.int .i64 t249, .slice Ao24 t250.length co24, .slice Ao25 t253.length co25] 30 (0, 0)) q8_2 hb)
      have n10_ := Aside0.mk (blk_below (g := gb265) (o := .cells #[.int .i64 t258, .slice Ao32 t259.length co32, .slice Ao33 t262.length co33] 30 (0, 0)) q8_3 hb)
      have n11_ := Aside0.mk (blk_below (g := gb274) (o := .cells #[.int .i64 t266, .slice Ao40 t267.length co40, .slice Ao41 t270.length co41] 30 (0, 0)) q8_5 hb)
      have n12_ := Aside0.mk (below_step q8_0 hb)
      clear HO_258001
      clear HO_258002
      clear HO_266001
      clear HO_266002
      clear HO_275001
      clear HO_275002
      clear BK240
      clear BK257
      clear BK265
      clear BK274
      clear HB
      have HO_258001 := n0_
      have HO_258002 := n1_
      have HO_266001 := n2_
      have HO_266002 := n3_
      have HO_275001 := n4_
      have HO_275002 := n5_
      have HO279 := n6_
      have HO282 := n7_
      have BK240 := n8_
      have BK257 := n9_
      have BK265 := n10_
      have BK274 := n11_
      have HB := n12_
      clear n0_ n1_ n2_ n3_ n4_ n5_ n6_ n7_ n8_ n9_ n10_ n11_ n12_
      (try clear hb)
      (try clear hb2)
      (try clear hk)
      (try clear hi)
      (try clear ho0)
      (try clear ho1)
      obtain ⟨Ao185, co185, eo185⟩ := Kd.R_slice HO279.out
      (first | subst eo185 | (injection eo185 with f1_ f2_ f3_; have f4_ := f1_.symm; have f5_ := f3_.symm; clear f1_ f2_ f3_; subst f4_; subst f5_))
      obtain ⟨Ao186, co186, eo186⟩ := Kd.R_slice HO282.out
      (first | subst eo186 | (injection eo186 with f1_ f2_ f3_; have f4_ := f1_.symm; have f5_ := f3_.symm; clear f1_ f2_ f3_; subst f4_; subst f5_))
      refine hK.out _ _ ⟨(blk_cell BK265.out 0).trans rfl, (blk_cell BK265.out 1).trans rfl, (blk_cell BK265.out 2).trans rfl, (blk_cell BK240.out 0).trans rfl, (blk_cell BK240.out 1).trans rfl, (blk_cell BK240.out 2).trans rfl⟩ (fun hHeld => ?_)
      clear hK K
      refine norm_ (a' := ?_) ?_ ?_
      rotate_left
      ·show Act.put _ (some 47) _ = _
       simp only [Act.put, List.setIfInBounds_toArray, List.set_cons_zero, List.set_cons_succ, i64_w, i32_w]
       rfl
      refine one_ (i := 3) (N := some 48) #[T,T,T,T,F] rfl rfl (by kernel_rfl) q8_44 (fun K hK => ?_)
      refine goes_ Try.func15 (by kernel_rfl) rfl #[.agg #[.int .i64 t258, .slice Ao32 t259.length co32, .slice Ao33 t262.length co33], .agg #[.int .i64 t276, .slice Ao185 t277.length co185, .slice Ao186 t280.length co186]] (by rfl) rfl rfl q8_4 ?_
      with_reducible refine (laws_eqAges.calls kj11 t258 _ _ t259 _ _ t262 t276 _ _ t277 _ _ t280 false _ ?side1 ?side2 ?side3 ?side4 ?side5 ?side6 ?side7 ?side8 A62.out).mono ?_
      (case side1 => repeat (first | exact (Kd.R_reads' HO_266001.out).2.2 | (with_reducible refine Kd.C_alloc ?_ _) | (with_reducible refine Kd.C_drewN ?_ _) | (with_reducible refine Kd.C_drew ?_)))
      (case side2 => exact (Kd.R_reads' HO_266001.out).2.1)
      (case side3 => repeat (first | exact (Kd.R_reads' HO_266002.out).2.2 | (with_reducible refine Kd.C_alloc ?_ _) | (with_reducible refine Kd.C_drewN ?_ _) | (with_reducible refine Kd.C_drew ?_)))
      (case side4 => exact (Kd.R_reads' HO_266002.out).2.1)
      (case side5 => repeat (first | exact (Kd.R_reads' HO279.out).2.2 | (with_reducible refine Kd.C_alloc ?_ _) | (with_reducible refine Kd.C_drewN ?_ _) | (with_reducible refine Kd.C_drew ?_)))
      (case side6 => exact (Kd.R_reads' HO279.out).2.1)
      (case side7 => repeat (first | exact (Kd.R_reads' HO282.out).2.2 | (with_reducible refine Kd.C_alloc ?_ _) | (with_reducible refine Kd.C_drewN ?_ _) | (with_reducible refine Kd.C_drew ?_)))
      (case side8 => exact (Kd.R_reads' HO282.out).2.1)
      rintro e w187 ⟨rfl, hb⟩
      refine ⟨_, rfl, ?_⟩
      have n0_ := Aside0.mk (Kd.R_below q8_7 hb)
      have n1_ := Aside0.mk (Kd.R_below q8_8 hb)
      have n2_ := Aside0.mk (Kd.R_below q8_9 hb)
      have n3_ := Aside0.mk (Kd.R_below q8_10 hb)
      have n4_ := Aside0.mk (Kd.R_below q8_11 hb)
      have n5_ := Aside0.mk (Kd.R_below q8_12 hb)
      have n6_ := Aside0.mk (Kd.R_below (by (with_reducible repeat (first | apply Kd.R_alloc | apply Kd.R_drewN | apply Kd.R_drew)); exact HO279.out) hb)
      have n7_ := Aside0.mk (Kd.R_below (by (with_reducible repeat (first | apply Kd.R_alloc | apply Kd.R_drewN | apply Kd.R_drew)); exact HO282.out) hb)
      have n8_ := Aside0.mk (blk_below (g := gb240) (o := .cells #[.int .i64 a0_0, .slice A0_1 l0_1.length c0_1, .slice A0_2 l0_2.length c0_2] 25 (0, 0)) q8_1 hb)
      have n9_ := Aside0.mk (blk_below (g := gb257) (o := .cells #[.int .i64 t249, .slice Ao24 t250.length co24, .slice Ao25 t253.length co25] 30 (0, 0)) q8_2 hb)
      have n10_ := Aside0.mk (blk_below (g := gb265) (o := .cells #[.int .i64 t258, .slice Ao32 t259.length co32, .slice Ao33 t262.length co33] 30 (0, 0)) q8_3 hb)
      have n11_ := Aside0.mk (blk_below (g := gb274) (o := .cells #[.int .i64 t266, .slice Ao40 t267.length co40, .slice Ao41 t270.length co41] 30 (0, 0)) q8_5 hb)
      have n12_ := Aside0.mk (below_step q8_0 hb)
      clear HO_258001
      clear HO_258002
      clear HO_266001
      clear HO_266002
      clear HO_275001
      clear HO_275002
      clear HO279
      clear HO282
      clear BK240
      clear BK257
      clear BK265
      clear BK274
      clear HB
      have HO_258001 := n0_
      have HO_258002 := n1_
      have HO_266001 := n2_
      have HO_266002 := n3_
      have HO_275001 := n4_
      have HO_275002 := n5_
      have HO279 := n6_
      have HO282 := n7_
      have BK240 := n8_
      have BK257 := n9_
      have BK265 := n10_
      have BK274 := n11_
      have HB := n12_
      clear n0_ n1_ n2_ n3_ n4_ n5_ n6_ n7_ n8_ n9_ n10_ n11_ n12_
      (try clear hb)
      (try clear hb2)
      (try clear hk)
      (try clear hi)
      refine hK.out _ _ ⟨(blk_cell BK265.out 0).trans rfl, (blk_cell BK265.out 1).trans rfl, (blk_cell BK265.out 2).trans rfl, (blk_cell BK240.out 0).trans rfl, (blk_cell BK240.out 1).trans rfl, (blk_cell BK240.out 2).trans rfl⟩ (fun hHeld => ?_)
      clear hK K
      refine norm_ (a' := ?_) ?_ ?_
      rotate_left
      ·show Act.put _ (some 48) _ = _
       simp only [Act.put, List.setIfInBounds_toArray, List.set_cons_zero, List.set_cons_succ, i64_w, i32_w]
       rfl
      refine pure_ (i := 4) (N := some 49) (v := ?_) (a' := ?_) #[T,T,T,T,T] rfl rfl (by kernel_rfl) (fun _ _ _ h => h) (Or.inl ⟨by rfl, ?_⟩) ?_ ?_
      rotate_left
      ·intro w'
       go_simp
       with_reducible rfl
      rotate_left
      ·simp only [Act.put, List.setIfInBounds_toArray, List.set_cons_zero, List.set_cons_succ, i64_w, i32_w]
       rfl
      refine done_ (by kernel_rfl) ?_
      try go_wp2
      go_ret
      exact ⟨q8_30, q8_0⟩

/-! What the arguments hold: each number fits, each length is one. -/
def wfT61 (x : S61) : Prop := (Lit.int .i64 x.f0).wf = true ∧ (Lit.int .i64 x.f1).wf = true
/-- THE ONE PURE STATEMENT of laws_FnExactRetire. -/
def laws_FnExactRetire.Pure : Prop := ∀ (a0_0 : Int) (l0_1 : List Int) (l0_2 : List (S61)) (a1 : Int), ((Lit.int .i64 a0_0).wf = true ∧ (l0_1.length ≤ maxLen ∧ ∀ x ∈ l0_1, (Lit.int .i64 x).wf = true) ∧ (l0_2.length ≤ maxLen ∧ ∀ x ∈ l0_2, wfT61 x)) → (Lit.int .i64 a1).wf = true → ∃ k, laws_FnExactRetire.f k a0_0 l0_1 l0_2 a1 = some true

end Go.Proofs.Ytlnjhgjjfplodaa.PFnExactRetire
