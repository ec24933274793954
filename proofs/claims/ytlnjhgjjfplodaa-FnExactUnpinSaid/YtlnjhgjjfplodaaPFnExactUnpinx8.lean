-- Written by the session's own patched copy of the printer (wip/patch_print.py).
import Derived.Test.YtlnjhgjjfplodaaPFnExactUnpinx0
import Derived.Test.YtlnjhgjjfplodaaPFnExactUnpinx1
import Derived.Test.YtlnjhgjjfplodaaPFnExactUnpinx2
import Derived.Test.YtlnjhgjjfplodaaPFnExactUnpinx3
import Derived.Test.YtlnjhgjjfplodaaPFnExactUnpinx5
import Derived.Test.YtlnjhgjjfplodaaPFnExactUnpinx7
namespace Go.Proofs.Ytlnjhgjjfplodaa.PFnExactUnpin
open Go.RowKit Go.Proofs.YtlnjhgjjfplodaaW.PrintWords Go.Proofs.YtlnjhgjjfplodaaW.PrintLast Go.Proofs.YtlnjhgjjfplodaaW.PrintMore
attribute [local go_sem] max2_int min2_int max_two min_two max_three min_three max_four min_four   -- for this text's walks alone
set_option linter.unusedVariables false
set_option linter.unusedSimpArgs false

open Bool renaming true → T, false → F
theorem q8_0 {p : Prop} (h : p := by repeat (first | (with_reducible first | exact HB.out | apply below_alloc | apply pw_below_drewN | apply below_drew1 | refine below_set ?_ GE250.out | refine below_set ?_ GE267.out | refine below_set ?_ GE275.out | refine below_set ?_ GE284.out) | exact HB.out)) : p := h
theorem q8_1 {p : Prop} (h : p := by (with_reducible repeat (first | refine blk_drewN ?_ _ | refine blk_drew ?_ | refine blk_alloc ?_ _)); exact BK250.out) : p := h
theorem q8_2 {p : Prop} (h : p := by (with_reducible repeat (first | refine blk_drewN ?_ _ | refine blk_drew ?_ | refine blk_alloc ?_ _)); exact BK267.out) : p := h
theorem q8_3 {p : Prop} (h : p := by (with_reducible repeat (first | refine blk_drewN ?_ _ | refine blk_drew ?_ | refine blk_alloc ?_ _)); exact BK275.out) : p := h
theorem q8_4 {p : Prop} (h : p := by (try simp only [List.map_toArray, List.map_cons, List.map_nil]); first | done | rfl | (simp only [List.length_drop, List.length_take]; rfl)) : p := h
theorem q8_5 {p : Prop} (h : p := by (with_reducible repeat (first | refine blk_drewN ?_ _ | refine blk_drew ?_ | refine blk_alloc ?_ _)); exact BK284.out) : p := h
theorem q8_6 {p : Prop} (h : p := by repeat (first | (with_reducible first | exact HB.out | apply below_alloc | apply pw_below_drewN | apply below_drew1 | refine below_set ?_ GE250.out | refine below_set ?_ GE267.out | refine below_set ?_ GE275.out | refine below_set ?_ GE284.out | refine below_set ?_ GE317.out) | exact HB.out)) : p := h
theorem q8_7 {p : Prop} (h : p := by (with_reducible repeat (first | apply Kd.R_alloc | apply Kd.R_drewN | apply Kd.R_drew)); exact HO_268001.out) : p := h
theorem q8_8 {p : Prop} (h : p := by (with_reducible repeat (first | apply Kd.R_alloc | apply Kd.R_drewN | apply Kd.R_drew)); exact HO_268002.out) : p := h
theorem q8_9 {p : Prop} (h : p := by (with_reducible repeat (first | apply Kd.R_alloc | apply Kd.R_drewN | apply Kd.R_drew)); exact HO_276001.out) : p := h
theorem q8_10 {p : Prop} (h : p := by (with_reducible repeat (first | apply Kd.R_alloc | apply Kd.R_drewN | apply Kd.R_drew)); exact HO_276002.out) : p := h
theorem q8_11 {p : Prop} (h : p := by (with_reducible repeat (first | apply Kd.R_alloc | apply Kd.R_drewN | apply Kd.R_drew)); exact HO_285001.out) : p := h
theorem q8_12 {p : Prop} (h : p := by (with_reducible repeat (first | apply Kd.R_alloc | apply Kd.R_drewN | apply Kd.R_drew)); exact HO_285002.out) : p := h
theorem q8_13 {p : Prop} (h : p := by repeat (first | (with_reducible first | exact HB.out | apply below_alloc | apply pw_below_drewN | apply below_drew1 | refine below_set ?_ GE250.out) | exact HB.out)) : p := h
theorem q8_14 {p : Prop} (h : p := by repeat (first | (with_reducible first | exact HB.out | apply below_alloc | apply pw_below_drewN | apply below_drew1 | refine below_set ?_ GE250.out | refine below_set ?_ GE267.out) | exact HB.out)) : p := h
theorem q8_15 {p : Prop} (h : p := by (with_reducible repeat (first | apply Kd.R_alloc | apply Kd.R_drewN | apply Kd.R_drew)); exact (Kd.R_mono (Kd.R_far (p := ⟨gb317, 2, none⟩) (Kd.R_far (p := ⟨gb317, 1, none⟩) (Kd.R_far (p := ⟨gb317, 0, none⟩) (Kd.R_types HO_268001.out BK317.out (by decide)) (fun _ hk => hk.2) (.int .i64 t309)) (fun _ hk => hk.2) (.slice Ao130 t310.length co130)) (fun _ hk => hk.2) (.slice Ao131 t313.length co131)) (fun _ h_ => h_.1))) : p := h
theorem q8_16 {p : Prop} (h : p := by (with_reducible repeat (first | apply Kd.R_alloc | apply Kd.R_drewN | apply Kd.R_drew)); exact (Kd.R_mono (Kd.R_far (p := ⟨gb317, 2, none⟩) (Kd.R_far (p := ⟨gb317, 1, none⟩) (Kd.R_far (p := ⟨gb317, 0, none⟩) (Kd.R_types HO_268002.out BK317.out (by decide)) (fun _ hk => hk.2) (.int .i64 t309)) (fun _ hk => hk.2) (.slice Ao130 t310.length co130)) (fun _ hk => hk.2) (.slice Ao131 t313.length co131)) (fun _ h_ => h_.1))) : p := h
theorem q8_17 {p : Prop} (h : p := by (with_reducible repeat (first | apply Kd.R_alloc | apply Kd.R_drewN | apply Kd.R_drew)); exact (Kd.R_mono (Kd.R_far (p := ⟨gb317, 2, none⟩) (Kd.R_far (p := ⟨gb317, 1, none⟩) (Kd.R_far (p := ⟨gb317, 0, none⟩) (Kd.R_types HO312.out BK317.out (by decide)) (fun _ hk => hk.2) (.int .i64 t309)) (fun _ hk => hk.2) (.slice Ao130 t310.length co130)) (fun _ hk => hk.2) (.slice Ao131 t313.length co131)) (fun _ h_ => h_.1))) : p := h
theorem q8_18 {p : Prop} (h : p := by (with_reducible repeat (first | apply Kd.R_alloc | apply Kd.R_drewN | apply Kd.R_drew)); exact (Kd.R_mono (Kd.R_far (p := ⟨gb317, 2, none⟩) (Kd.R_far (p := ⟨gb317, 1, none⟩) (Kd.R_far (p := ⟨gb317, 0, none⟩) (Kd.R_types HO315.out BK317.out (by decide)) (fun _ hk => hk.2) (.int .i64 t309)) (fun _ hk => hk.2) (.slice Ao130 t310.length co130)) (fun _ hk => hk.2) (.slice Ao131 t313.length co131)) (fun _ h_ => h_.1))) : p := h
theorem q8_19 {p : Prop} (h : p := by (with_reducible repeat (first | apply Kd.R_alloc | apply Kd.R_drewN | apply Kd.R_drew)); exact (Kd.R_mono (Kd.R_far (p := ⟨gb284, 2, none⟩) (Kd.R_far (p := ⟨gb284, 1, none⟩) (Kd.R_far (p := ⟨gb284, 0, none⟩) (Kd.R_types HO279.out BK284.out (by decide)) (fun _ hk => hk.2) (.int .i64 t276)) (fun _ hk => hk.2) (.slice Ao40 t277.length co40)) (fun _ hk => hk.2) (.slice Ao41 t280.length co41)) (fun _ h_ => h_.1))) : p := h
theorem q8_20 {p : Prop} (h : p := by (with_reducible repeat (first | apply Kd.R_alloc | apply Kd.R_drewN | apply Kd.R_drew)); exact (Kd.R_mono (Kd.R_far (p := ⟨gb284, 2, none⟩) (Kd.R_far (p := ⟨gb284, 1, none⟩) (Kd.R_far (p := ⟨gb284, 0, none⟩) (Kd.R_types HO282.out BK284.out (by decide)) (fun _ hk => hk.2) (.int .i64 t276)) (fun _ hk => hk.2) (.slice Ao40 t277.length co40)) (fun _ hk => hk.2) (.slice Ao41 t280.length co41)) (fun _ h_ => h_.1))) : p := h
theorem q8_21 {p : Prop} (h : p := by (with_reducible repeat (first | apply Kd.R_alloc | apply Kd.R_drewN | apply Kd.R_drew)); exact (Kd.R_mono (Kd.R_far (p := ⟨gb284, 2, none⟩) (Kd.R_far (p := ⟨gb284, 1, none⟩) (Kd.R_far (p := ⟨gb284, 0, none⟩) (Kd.R_types HO262.out BK284.out (by decide)) (fun _ hk => hk.2) (.int .i64 t276)) (fun _ hk => hk.2) (.slice Ao40 t277.length co40)) (fun _ hk => hk.2) (.slice Ao41 t280.length co41)) (fun _ h_ => h_.1))) : p := h
theorem q8_22 {p : Prop} (h : p := by (with_reducible repeat (first | apply Kd.R_alloc | apply Kd.R_drewN | apply Kd.R_drew)); exact (Kd.R_mono (Kd.R_far (p := ⟨gb284, 2, none⟩) (Kd.R_far (p := ⟨gb284, 1, none⟩) (Kd.R_far (p := ⟨gb284, 0, none⟩) (Kd.R_types HO265.out BK284.out (by decide)) (fun _ hk => hk.2) (.int .i64 t276)) (fun _ hk => hk.2) (.slice Ao40 t277.length co40)) (fun _ hk => hk.2) (.slice Ao41 t280.length co41)) (fun _ h_ => h_.1))) : p := h
theorem q8_23 {p : Prop} (h : p := by repeat (first | exact (Kd.R_reads' HO_285001.out).2.2 | (with_reducible refine Kd.C_alloc ?_ _) | (with_reducible refine Kd.C_drewN ?_ _) | (with_reducible refine Kd.C_drew ?_))) : p := h
theorem q8_24 {p : Prop} (h : p := by repeat (first | exact (Kd.R_reads' HO_285002.out).2.2 | (with_reducible refine Kd.C_alloc ?_ _) | (with_reducible refine Kd.C_drewN ?_ _) | (with_reducible refine Kd.C_drew ?_))) : p := h
theorem q8_25 {p : Prop} (h : p := by repeat (first | (with_reducible first | exact HB.out | apply below_alloc | apply pw_below_drewN | apply below_drew1 | refine below_set ?_ GE250.out | refine below_set ?_ GE267.out | refine below_set ?_ GE275.out) | exact HB.out)) : p := h
theorem q8_26 {p : Prop} (h : p := by repeat (first | exact (Kd.C_below HR0_1.out HB.out) | (with_reducible refine Kd.C_alloc ?_ _) | (with_reducible refine Kd.C_drewN ?_ _) | (with_reducible refine Kd.C_drew ?_))) : p := h
theorem q8_27 {p : Prop} (h : p := by repeat (first | exact (Kd.C_below HR0_2.out HB.out) | (with_reducible refine Kd.C_alloc ?_ _) | (with_reducible refine Kd.C_drewN ?_ _) | (with_reducible refine Kd.C_drew ?_))) : p := h
theorem q8_28 {p : Prop} (h : p := by (with_reducible repeat (first | apply Kd.R_alloc | apply Kd.R_drewN | apply Kd.R_drew)); exact (Kd.R_mono (Kd.R_far (p := ⟨gb275, 2, none⟩) (Kd.R_far (p := ⟨gb275, 1, none⟩) (Kd.R_far (p := ⟨gb275, 0, none⟩) (Kd.R_types HO271.out BK275.out (by decide)) (fun _ hk => hk.2) (.int .i64 t268)) (fun _ hk => hk.2) (.slice Ao32 t269.length co32)) (fun _ hk => hk.2) (.slice Ao33 t272.length co33)) (fun _ h_ => h_.1))) : p := h
theorem q8_29 {p : Prop} (h : p := by (with_reducible repeat (first | apply Kd.R_alloc | apply Kd.R_drewN | apply Kd.R_drew)); exact (Kd.R_mono (Kd.R_far (p := ⟨gb275, 2, none⟩) (Kd.R_far (p := ⟨gb275, 1, none⟩) (Kd.R_far (p := ⟨gb275, 0, none⟩) (Kd.R_types HO274.out BK275.out (by decide)) (fun _ hk => hk.2) (.int .i64 t268)) (fun _ hk => hk.2) (.slice Ao32 t269.length co32)) (fun _ hk => hk.2) (.slice Ao33 t272.length co33)) (fun _ h_ => h_.1))) : p := h
theorem q8_30 {p : Prop} (h : p := by first | rfl | (simp [errW_none, errW_some] <;> rfl) | (simp [*, errW_none, errW_some] <;> rfl)) : p := h
theorem q8_31 {p : Prop} (h : p := by (with_reducible repeat (first | refine blk_drewN ?_ _ | refine blk_drew ?_ | refine blk_alloc ?_ _)); refine blk_put (cs := #[.int .i64 t309, .slice Ao130 t310.length co130, .slice none 0 0]) ?_ 2 _ rfl; (with_reducible repeat (first | refine blk_drewN ?_ _ | refine blk_drew ?_ | refine blk_alloc ?_ _)); refine blk_put (cs := #[.int .i64 t309, .slice none 0 0, .slice none 0 0]) ?_ 1 _ rfl; (with_reducible repeat (first | refine blk_drewN ?_ _ | refine blk_drew ?_ | refine blk_alloc ?_ _)); refine blk_put (cs := #[.int .i64 0, .slice none 0 0, .slice none 0 0]) ?_ 0 _ rfl; (with_reducible repeat (first | refine blk_drewN ?_ _ | refine blk_drew ?_ | refine blk_alloc ?_ _)); exact BK317.out) : p := h
theorem q8_32 {p : Prop} (h : p := by (with_reducible repeat (first | refine blk_drewN ?_ _ | refine blk_drew ?_ | refine blk_alloc ?_ _)); refine blk_put (cs := #[.int .i64 t276, .slice Ao40 t277.length co40, .slice none 0 0]) ?_ 2 _ rfl; (with_reducible repeat (first | refine blk_drewN ?_ _ | refine blk_drew ?_ | refine blk_alloc ?_ _)); refine blk_put (cs := #[.int .i64 t276, .slice none 0 0, .slice none 0 0]) ?_ 1 _ rfl; (with_reducible repeat (first | refine blk_drewN ?_ _ | refine blk_drew ?_ | refine blk_alloc ?_ _)); refine blk_put (cs := #[.int .i64 0, .slice none 0 0, .slice none 0 0]) ?_ 0 _ rfl; (with_reducible repeat (first | refine blk_drewN ?_ _ | refine blk_drew ?_ | refine blk_alloc ?_ _)); exact BK284.out) : p := h
theorem q8_33 {p : Prop} (h : p := by repeat (first | (with_reducible first | exact HB.out | apply below_alloc | apply pw_below_drewN | apply below_drew1) | exact HB.out)) : p := h
theorem q8_34 {p : Prop} (h : p := by (try simp only [List.map_toArray, List.map_cons, List.map_nil]); first | done | (rw [show t299.length = t277.length from (Kd.R_reads' HO_285001.out).1.symm, show t300.length = t280.length from (Kd.R_reads' HO_285002.out).1.symm] <;> rfl) | rfl | (simp only [List.length_drop, List.length_take]; rfl)) : p := h
theorem q8_35 {p : Prop} (h : p := by (with_reducible repeat (first | refine blk_drewN ?_ _ | refine blk_drew ?_ | refine blk_alloc ?_ _)); refine blk_far ?_ NB250_284.out _; (with_reducible repeat (first | refine blk_drewN ?_ _ | refine blk_drew ?_ | refine blk_alloc ?_ _)); refine blk_far ?_ NB250_284.out _; (with_reducible repeat (first | refine blk_drewN ?_ _ | refine blk_drew ?_ | refine blk_alloc ?_ _)); refine blk_far ?_ NB250_284.out _; (with_reducible repeat (first | refine blk_drewN ?_ _ | refine blk_drew ?_ | refine blk_alloc ?_ _)); exact BK250.out) : p := h
theorem q8_36 {p : Prop} (h : p := by (with_reducible repeat (first | refine blk_drewN ?_ _ | refine blk_drew ?_ | refine blk_alloc ?_ _)); refine blk_far ?_ NB267_284.out _; (with_reducible repeat (first | refine blk_drewN ?_ _ | refine blk_drew ?_ | refine blk_alloc ?_ _)); refine blk_far ?_ NB267_284.out _; (with_reducible repeat (first | refine blk_drewN ?_ _ | refine blk_drew ?_ | refine blk_alloc ?_ _)); refine blk_far ?_ NB267_284.out _; (with_reducible repeat (first | refine blk_drewN ?_ _ | refine blk_drew ?_ | refine blk_alloc ?_ _)); exact BK267.out) : p := h
theorem q8_37 {p : Prop} (h : p := by (with_reducible repeat (first | refine blk_drewN ?_ _ | refine blk_drew ?_ | refine blk_alloc ?_ _)); refine blk_far ?_ NB275_284.out _; (with_reducible repeat (first | refine blk_drewN ?_ _ | refine blk_drew ?_ | refine blk_alloc ?_ _)); refine blk_far ?_ NB275_284.out _; (with_reducible repeat (first | refine blk_drewN ?_ _ | refine blk_drew ?_ | refine blk_alloc ?_ _)); refine blk_far ?_ NB275_284.out _; (with_reducible repeat (first | refine blk_drewN ?_ _ | refine blk_drew ?_ | refine blk_alloc ?_ _)); exact BK275.out) : p := h
theorem q8_38 {p : Prop} (h : p := by (with_reducible repeat (first | refine blk_drewN ?_ _ | refine blk_drew ?_ | refine blk_alloc ?_ _)); refine blk_far ?_ NB250_317.out _; (with_reducible repeat (first | refine blk_drewN ?_ _ | refine blk_drew ?_ | refine blk_alloc ?_ _)); refine blk_far ?_ NB250_317.out _; (with_reducible repeat (first | refine blk_drewN ?_ _ | refine blk_drew ?_ | refine blk_alloc ?_ _)); refine blk_far ?_ NB250_317.out _; (with_reducible repeat (first | refine blk_drewN ?_ _ | refine blk_drew ?_ | refine blk_alloc ?_ _)); exact BK250.out) : p := h
theorem q8_39 {p : Prop} (h : p := by (with_reducible repeat (first | refine blk_drewN ?_ _ | refine blk_drew ?_ | refine blk_alloc ?_ _)); refine blk_far ?_ NB267_317.out _; (with_reducible repeat (first | refine blk_drewN ?_ _ | refine blk_drew ?_ | refine blk_alloc ?_ _)); refine blk_far ?_ NB267_317.out _; (with_reducible repeat (first | refine blk_drewN ?_ _ | refine blk_drew ?_ | refine blk_alloc ?_ _)); refine blk_far ?_ NB267_317.out _; (with_reducible repeat (first | refine blk_drewN ?_ _ | refine blk_drew ?_ | refine blk_alloc ?_ _)); exact BK267.out) : p := h
theorem q8_40 {p : Prop} (h : p := by (with_reducible repeat (first | refine blk_drewN ?_ _ | refine blk_drew ?_ | refine blk_alloc ?_ _)); refine blk_far ?_ NB275_317.out _; (with_reducible repeat (first | refine blk_drewN ?_ _ | refine blk_drew ?_ | refine blk_alloc ?_ _)); refine blk_far ?_ NB275_317.out _; (with_reducible repeat (first | refine blk_drewN ?_ _ | refine blk_drew ?_ | refine blk_alloc ?_ _)); refine blk_far ?_ NB275_317.out _; (with_reducible repeat (first | refine blk_drewN ?_ _ | refine blk_drew ?_ | refine blk_alloc ?_ _)); exact BK275.out) : p := h
theorem q8_41 {p : Prop} (h : p := by (with_reducible repeat (first | refine blk_drewN ?_ _ | refine blk_drew ?_ | refine blk_alloc ?_ _)); refine blk_far ?_ NB284_317.out _; (with_reducible repeat (first | refine blk_drewN ?_ _ | refine blk_drew ?_ | refine blk_alloc ?_ _)); refine blk_far ?_ NB284_317.out _; (with_reducible repeat (first | refine blk_drewN ?_ _ | refine blk_drew ?_ | refine blk_alloc ?_ _)); refine blk_far ?_ NB284_317.out _; (with_reducible repeat (first | refine blk_drewN ?_ _ | refine blk_drew ?_ | refine blk_alloc ?_ _)); exact BK284.out) : p := h
theorem q8_42 {p : Prop} (h : p := by rw [hg]; exact Nat.ne_of_lt (blk_lt (g := gb250) (o := .cells #[.int .i64 a0_0, .slice A0_1 l0_1.length c0_1, .slice A0_2 l0_2.length c0_2] 25 (0, 0)) q8_1)) : p := h
theorem q8_43 {p : Prop} (h : p := by rw [hg]; exact Nat.ne_of_gt (blk_lt (g := gb250) (o := .cells #[.int .i64 a0_0, .slice A0_1 l0_1.length c0_1, .slice A0_2 l0_2.length c0_2] 25 (0, 0)) q8_1)) : p := h
theorem q8_44 {p : Prop} (h : p := by decide) : p := h
theorem q8_45 {p : Prop} (h : p := by (with_reducible repeat (first | apply Kd.R_alloc | apply Kd.R_drewN | apply Kd.R_drew)); exact (Kd.R_mono (Kd.R_far (p := ⟨gb317, 2, none⟩) (Kd.R_far (p := ⟨gb317, 1, none⟩) (Kd.R_far (p := ⟨gb317, 0, none⟩) (Kd.R_types HO_276001.out BK317.out q8_44) (fun _ hk => hk.2) (.int .i64 t309)) (fun _ hk => hk.2) (.slice Ao130 t310.length co130)) (fun _ hk => hk.2) (.slice Ao131 t313.length co131)) (fun _ h_ => h_.1))) : p := h
theorem q8_46 {p : Prop} (h : p := by (with_reducible repeat (first | apply Kd.R_alloc | apply Kd.R_drewN | apply Kd.R_drew)); exact (Kd.R_mono (Kd.R_far (p := ⟨gb317, 2, none⟩) (Kd.R_far (p := ⟨gb317, 1, none⟩) (Kd.R_far (p := ⟨gb317, 0, none⟩) (Kd.R_types HO_276002.out BK317.out q8_44) (fun _ hk => hk.2) (.int .i64 t309)) (fun _ hk => hk.2) (.slice Ao130 t310.length co130)) (fun _ hk => hk.2) (.slice Ao131 t313.length co131)) (fun _ h_ => h_.1))) : p := h
theorem q8_47 {p : Prop} (h : p := by (with_reducible repeat (first | apply Kd.R_alloc | apply Kd.R_drewN | apply Kd.R_drew)); exact (Kd.R_mono (Kd.R_far (p := ⟨gb317, 2, none⟩) (Kd.R_far (p := ⟨gb317, 1, none⟩) (Kd.R_far (p := ⟨gb317, 0, none⟩) (Kd.R_types HO_285001.out BK317.out q8_44) (fun _ hk => hk.2) (.int .i64 t309)) (fun _ hk => hk.2) (.slice Ao130 t310.length co130)) (fun _ hk => hk.2) (.slice Ao131 t313.length co131)) (fun _ h_ => h_.1))) : p := h
theorem q8_48 {p : Prop} (h : p := by (with_reducible repeat (first | apply Kd.R_alloc | apply Kd.R_drewN | apply Kd.R_drew)); exact (Kd.R_mono (Kd.R_far (p := ⟨gb317, 2, none⟩) (Kd.R_far (p := ⟨gb317, 1, none⟩) (Kd.R_far (p := ⟨gb317, 0, none⟩) (Kd.R_types HO_285002.out BK317.out q8_44) (fun _ hk => hk.2) (.int .i64 t309)) (fun _ hk => hk.2) (.slice Ao130 t310.length co130)) (fun _ hk => hk.2) (.slice Ao131 t313.length co131)) (fun _ h_ => h_.1))) : p := h
theorem q8_49 {p : Prop} (h : p := by (with_reducible repeat (first | apply Kd.R_alloc | apply Kd.R_drewN | apply Kd.R_drew)); exact (Kd.R_mono (Kd.R_far (p := ⟨gb317, 2, none⟩) (Kd.R_far (p := ⟨gb317, 1, none⟩) (Kd.R_far (p := ⟨gb317, 0, none⟩) (Kd.R_types HO305.out BK317.out q8_44) (fun _ hk => hk.2) (.int .i64 t309)) (fun _ hk => hk.2) (.slice Ao130 t310.length co130)) (fun _ hk => hk.2) (.slice Ao131 t313.length co131)) (fun _ h_ => h_.1))) : p := h
theorem q8_50 {p : Prop} (h : p := by (with_reducible repeat (first | apply Kd.R_alloc | apply Kd.R_drewN | apply Kd.R_drew)); exact (Kd.R_mono (Kd.R_far (p := ⟨gb317, 2, none⟩) (Kd.R_far (p := ⟨gb317, 1, none⟩) (Kd.R_far (p := ⟨gb317, 0, none⟩) (Kd.R_types HO308.out BK317.out q8_44) (fun _ hk => hk.2) (.int .i64 t309)) (fun _ hk => hk.2) (.slice Ao130 t310.length co130)) (fun _ hk => hk.2) (.slice Ao131 t313.length co131)) (fun _ h_ => h_.1))) : p := h
theorem q8_51 {p : Prop} (h : p := by (with_reducible repeat (first | apply Kd.R_alloc | apply Kd.R_drewN | apply Kd.R_drew)); exact (Kd.R_mono (Kd.R_far (p := ⟨gb267, 2, none⟩) (Kd.R_far (p := ⟨gb267, 1, none⟩) (Kd.R_far (p := ⟨gb267, 0, none⟩) (Kd.R_types HO255.out BK267.out q8_44) (fun _ hk => hk.2) (.int .i64 t259)) (fun _ hk => hk.2) (.slice Ao24 t260.length co24)) (fun _ hk => hk.2) (.slice Ao25 t263.length co25)) (fun _ h_ => h_.1))) : p := h
theorem q8_52 {p : Prop} (h : p := by (with_reducible repeat (first | apply Kd.R_alloc | apply Kd.R_drewN | apply Kd.R_drew)); exact (Kd.R_mono (Kd.R_far (p := ⟨gb267, 2, none⟩) (Kd.R_far (p := ⟨gb267, 1, none⟩) (Kd.R_far (p := ⟨gb267, 0, none⟩) (Kd.R_types HO258.out BK267.out q8_44) (fun _ hk => hk.2) (.int .i64 t259)) (fun _ hk => hk.2) (.slice Ao24 t260.length co24)) (fun _ hk => hk.2) (.slice Ao25 t263.length co25)) (fun _ h_ => h_.1))) : p := h
theorem q8_53 {p : Prop} (h : p := by (with_reducible repeat (first | apply Kd.R_alloc | apply Kd.R_drewN | apply Kd.R_drew)); exact (Kd.R_mono (Kd.R_far (p := ⟨gb267, 2, none⟩) (Kd.R_far (p := ⟨gb267, 1, none⟩) (Kd.R_far (p := ⟨gb267, 0, none⟩) (Kd.R_types HO262.out BK267.out q8_44) (fun _ hk => hk.2) (.int .i64 t259)) (fun _ hk => hk.2) (.slice Ao24 t260.length co24)) (fun _ hk => hk.2) (.slice Ao25 t263.length co25)) (fun _ h_ => h_.1))) : p := h
theorem q8_54 {p : Prop} (h : p := by (with_reducible repeat (first | apply Kd.R_alloc | apply Kd.R_drewN | apply Kd.R_drew)); exact (Kd.R_mono (Kd.R_far (p := ⟨gb267, 2, none⟩) (Kd.R_far (p := ⟨gb267, 1, none⟩) (Kd.R_far (p := ⟨gb267, 0, none⟩) (Kd.R_types HO265.out BK267.out q8_44) (fun _ hk => hk.2) (.int .i64 t259)) (fun _ hk => hk.2) (.slice Ao24 t260.length co24)) (fun _ hk => hk.2) (.slice Ao25 t263.length co25)) (fun _ h_ => h_.1))) : p := h
theorem q8_55 {p : Prop} (h : p := by (with_reducible repeat (first | apply Kd.R_alloc | apply Kd.R_drewN | apply Kd.R_drew)); exact (Kd.R_mono (Kd.R_far (p := ⟨gb275, 2, none⟩) (Kd.R_far (p := ⟨gb275, 1, none⟩) (Kd.R_far (p := ⟨gb275, 0, none⟩) (Kd.R_types HO255.out BK275.out q8_44) (fun _ hk => hk.2) (.int .i64 t268)) (fun _ hk => hk.2) (.slice Ao32 t269.length co32)) (fun _ hk => hk.2) (.slice Ao33 t272.length co33)) (fun _ h_ => h_.1))) : p := h
theorem q8_56 {p : Prop} (h : p := by (with_reducible repeat (first | apply Kd.R_alloc | apply Kd.R_drewN | apply Kd.R_drew)); exact (Kd.R_mono (Kd.R_far (p := ⟨gb275, 2, none⟩) (Kd.R_far (p := ⟨gb275, 1, none⟩) (Kd.R_far (p := ⟨gb275, 0, none⟩) (Kd.R_types HO258.out BK275.out q8_44) (fun _ hk => hk.2) (.int .i64 t268)) (fun _ hk => hk.2) (.slice Ao32 t269.length co32)) (fun _ hk => hk.2) (.slice Ao33 t272.length co33)) (fun _ h_ => h_.1))) : p := h
theorem q8_57 {p : Prop} (h : p := by (with_reducible repeat (first | apply Kd.R_alloc | apply Kd.R_drewN | apply Kd.R_drew)); exact (Kd.R_mono (Kd.R_far (p := ⟨gb275, 2, none⟩) (Kd.R_far (p := ⟨gb275, 1, none⟩) (Kd.R_far (p := ⟨gb275, 0, none⟩) (Kd.R_types HO262.out BK275.out q8_44) (fun _ hk => hk.2) (.int .i64 t268)) (fun _ hk => hk.2) (.slice Ao32 t269.length co32)) (fun _ hk => hk.2) (.slice Ao33 t272.length co33)) (fun _ h_ => h_.1))) : p := h
theorem q8_58 {p : Prop} (h : p := by (with_reducible repeat (first | apply Kd.R_alloc | apply Kd.R_drewN | apply Kd.R_drew)); exact (Kd.R_mono (Kd.R_far (p := ⟨gb275, 2, none⟩) (Kd.R_far (p := ⟨gb275, 1, none⟩) (Kd.R_far (p := ⟨gb275, 0, none⟩) (Kd.R_types HO265.out BK275.out q8_44) (fun _ hk => hk.2) (.int .i64 t268)) (fun _ hk => hk.2) (.slice Ao32 t269.length co32)) (fun _ hk => hk.2) (.slice Ao33 t272.length co33)) (fun _ h_ => h_.1))) : p := h
theorem q8_59 {p : Prop} (h : p := by (with_reducible repeat (first | apply Kd.R_alloc | apply Kd.R_drewN | apply Kd.R_drew)); exact (Kd.R_mono (Kd.R_far (p := ⟨gb284, 2, none⟩) (Kd.R_far (p := ⟨gb284, 1, none⟩) (Kd.R_far (p := ⟨gb284, 0, none⟩) (Kd.R_types HO255.out BK284.out q8_44) (fun _ hk => hk.2) (.int .i64 t276)) (fun _ hk => hk.2) (.slice Ao40 t277.length co40)) (fun _ hk => hk.2) (.slice Ao41 t280.length co41)) (fun _ h_ => h_.1))) : p := h
/-! ### laws_FnExactUnpin: function 6 -/
mutual
def laws_FnExactUnpin.j0 : Nat → Int → Bool → Bool → Bool → Int → List Int → List (S61) → Int → List Int → List (S48) → Int → List Int → List (S48) → Int → List Int → List (S48) → Option (Bool)
 | 0, _, _, _, _, _, _, _, _, _, _, _, _, _, _, _, _ => none
 | k + 1, x1, x7, x10, x44, x251000, x251001, x251002, x268000, x268001, x268002, x276000, x276001, x276002, x285000, x285001, x285002 => if x44 = true then (some false) else ((laws_toAges.f k x251000 x251001 x251002).bind fun bt286 => ((laws_eqAges.f k x276000 x276001 x276002 bt286.1 bt286.2.1 bt286.2.2).bind fun t293 => (if t293 = true then ((laws_markAges.f k x276000 x276001 x276002 1).bind fun bt294 => (if bt294.1 < 0 then (laws_FnExactUnpin.j1 k x1 x7 true x251000 x251001 x251002 x268000 x268001 x268002 x285000 x285001 x285002) else ((laws_eqAges.f k x285000 x285001 x285002 x268000 x268001 x268002).bind fun t297 => (if t297 = true then (laws_FnExactUnpin.j1 k x1 x7 (x10 != x7) x251000 x251001 x251002 x268000 x268001 x268002 x285000 x285001 x285002) else (laws_FnExactUnpin.j1 k x1 x7 true x251000 x251001 x251002 x268000 x268001 x268002 x285000 x285001 x285002))))) else (some false))))
def laws_FnExactUnpin.j1 : Nat → Int → Bool → Bool → Int → List Int → List (S61) → Int → List Int → List (S48) → Int → List Int → List (S48) → Option (Bool)
 | 0, _, _, _, _, _, _, _, _, _, _, _, _ => none
 | k + 1, x1, x7, x65, x251000, x251001, x251002, x268000, x268001, x268002, x285000, x285001, x285002 => if x65 = true then (some false) else ((laws_markAges.f k x285000 x285001 x285002 1).bind fun bt298 => ((laws_heldAges.f k x285000 bt298.2.1 bt298.2.2 1).bind fun t301 => (if t301 < 0 then (some false) else (if t301 = bt298.1 then ((laws_toAges.f k x251000 x251001 x251002).bind fun bt302 => ((impl_Unpin.f k bt302.1 bt302.2.1 bt302.2.2 x1).bind fun bt309 => ((laws_eqAges.f k bt309.1 bt309.2.1 bt309.2.2.1 x268000 x268001 x268002).bind fun t318 => (if t318 = true then (laws_FnExactUnpin.j2 k bt298.1 (bt309.2.2.2 != x7) x285000 bt298.2.1 bt298.2.2) else (laws_FnExactUnpin.j2 k bt298.1 true x285000 bt298.2.1 bt298.2.2))))) else (some false)))))
def laws_FnExactUnpin.j2 : Nat → Int → Bool → Int → List Int → List (S48) → Option (Bool)
 | 0, _, _, _, _, _ => none
 | k + 1, x12, x92, x285000, x285001, x285002 => if x92 = true then (some false) else ((laws_heldAges.f k x285000 x285001 x285002 1).bind fun t319 => (if t319 < 0 then (some false) else (if t319 = x12 then (some true) else (some false))))
end
def laws_FnExactUnpin.f (k : Nat) (a0_0 : Int) (l0_1 : List Int) (l0_2 : List (S61)) (a1 : Int) : Option (Bool) := (laws_szAges.f a0_0 l0_1 l0_2 1048576).bind fun t251 => (if t251 < 0 then (some true) else ((laws_toAges.f k a0_0 l0_1 l0_2).bind fun bt252 => ((spec_Unpin.f k bt252.1 bt252.2.1 bt252.2.2 a1).bind fun bt259 => ((laws_toAges.f k a0_0 l0_1 l0_2).bind fun bt268 => ((impl_Unpin.f k bt268.1 bt268.2.1 bt268.2.2 a1).bind fun bt276 => ((laws_eqAges.f k bt276.1 bt276.2.1 bt276.2.2.1 bt259.1 bt259.2.1 bt259.2.2.1).bind fun t285 => (if t285 = true then (laws_FnExactUnpin.j0 k a1 bt259.2.2.2 bt276.2.2.2 (bt276.2.2.2 != bt259.2.2.2) a0_0 l0_1 l0_2 bt259.1 bt259.2.1 bt259.2.2.1 bt268.1 bt268.2.1 bt268.2.2 bt276.1 bt276.2.1 bt276.2.2.1) else (laws_FnExactUnpin.j0 k a1 bt259.2.2.2 bt276.2.2.2 true a0_0 l0_1 l0_2 bt259.1 bt259.2.1 bt259.2.2.1 bt268.1 bt268.2.1 bt268.2.2 bt276.1 bt276.2.1 bt276.2.2.1))))))))
theorem laws_FnExactUnpin.mono_l : ∀ k, (∀ y0 y1 y2 y3 y4 y5 y6 y7 y8 y9 y10 y11 y12 y13 y14 y15, LeO (laws_FnExactUnpin.j0 k y0 y1 y2 y3 y4 y5 y6 y7 y8 y9 y10 y11 y12 y13 y14 y15) (laws_FnExactUnpin.j0 (k + 1) y0 y1 y2 y3 y4 y5 y6 y7 y8 y9 y10 y11 y12 y13 y14 y15)) ∧ (∀ y0 y1 y2 y3 y4 y5 y6 y7 y8 y9 y10 y11, LeO (laws_FnExactUnpin.j1 k y0 y1 y2 y3 y4 y5 y6 y7 y8 y9 y10 y11) (laws_FnExactUnpin.j1 (k + 1) y0 y1 y2 y3 y4 y5 y6 y7 y8 y9 y10 y11)) ∧ (∀ y0 y1 y2 y3 y4, LeO (laws_FnExactUnpin.j2 k y0 y1 y2 y3 y4) (laws_FnExactUnpin.j2 (k + 1) y0 y1 y2 y3 y4))
 | 0 => ⟨fun _ _ _ _ _ _ _ _ _ _ _ _ _ _ _ _ r h => by simp [laws_FnExactUnpin.j0] at h, fun _ _ _ _ _ _ _ _ _ _ _ _ r h => by simp [laws_FnExactUnpin.j1] at h, fun _ _ _ _ _ r h => by simp [laws_FnExactUnpin.j2] at h⟩
 | k + 1 => by
  obtain ⟨ih0, ih1, ih2⟩ := laws_FnExactUnpin.mono_l k
  refine ⟨?_, ?_, ?_⟩
  ·intro y0 y1 y2 y3 y4 y5 y6 y7 y8 y9 y10 y11 y12 y13 y14 y15
   unfold laws_FnExactUnpin.j0
   repeat' first
   | (with_reducible exact ih0 _ _ _ _ _ _ _ _ _ _ _ _ _ _ _ _)
   | (with_reducible exact ih1 _ _ _ _ _ _ _ _ _ _ _ _)
   | (with_reducible exact ih2 _ _ _ _ _)
   | (with_reducible exact impl_Unpin.mono _ _ _ _ _)
   | (with_reducible exact laws_eqAges.mono _ _ _ _ _ _ _)
   | (with_reducible exact laws_heldAges.mono _ _ _ _ _)
   | (with_reducible exact laws_markAges.mono _ _ _ _ _)
   | (with_reducible exact laws_toAges.mono _ _ _ _)
   | (with_reducible exact spec_Unpin.mono _ _ _ _ _)
   | (with_reducible exact LeO.refl _)
   | (with_reducible exact LeO.none _)
   | (with_reducible refine LeO.ite ?_ ?_)
   | (with_reducible refine LeO.bind ?_ (fun _ => ?_))
   | exact ih0 _ _ _ _ _ _ _ _ _ _ _ _ _ _ _ _
   | exact ih1 _ _ _ _ _ _ _ _ _ _ _ _
   | exact ih2 _ _ _ _ _
   | exact impl_Unpin.mono _ _ _ _ _
   | exact laws_eqAges.mono _ _ _ _ _ _ _
   | exact laws_heldAges.mono _ _ _ _ _
   | exact laws_markAges.mono _ _ _ _ _
   | exact laws_toAges.mono _ _ _ _
   | exact spec_Unpin.mono _ _ _ _ _
   | exact LeO.none _
   | refine LeO.ite ?_ ?_
   | refine LeO.bind ?_ (fun _ => ?_)
  ·intro y0 y1 y2 y3 y4 y5 y6 y7 y8 y9 y10 y11
   unfold laws_FnExactUnpin.j1
   repeat' first
   | (with_reducible exact ih0 _ _ _ _ _ _ _ _ _ _ _ _ _ _ _ _)
   | (with_reducible exact ih1 _ _ _ _ _ _ _ _ _ _ _ _)
   | (with_reducible exact ih2 _ _ _ _ _)
   | (with_reducible exact impl_Unpin.mono _ _ _ _ _)
   | (with_reducible exact laws_eqAges.mono _ _ _ _ _ _ _)
   | (with_reducible exact laws_heldAges.mono _ _ _ _ _)
   | (with_reducible exact laws_markAges.mono _ _ _ _ _)
   | (with_reducible exact laws_toAges.mono _ _ _ _)
   | (with_reducible exact spec_Unpin.mono _ _ _ _ _)
   | (with_reducible exact LeO.refl _)
   | (with_reducible exact LeO.none _)
   | (with_reducible refine LeO.ite ?_ ?_)
   | (with_reducible refine LeO.bind ?_ (fun _ => ?_))
   | exact ih0 _ _ _ _ _ _ _ _ _ _ _ _ _ _ _ _
   | exact ih1 _ _ _ _ _ _ _ _ _ _ _ _
   | exact ih2 _ _ _ _ _
   | exact impl_Unpin.mono _ _ _ _ _
   | exact laws_eqAges.mono _ _ _ _ _ _ _
   | exact laws_heldAges.mono _ _ _ _ _
   | exact laws_markAges.mono _ _ _ _ _
   | exact laws_toAges.mono _ _ _ _
   | exact spec_Unpin.mono _ _ _ _ _
   | exact LeO.none _
   | refine LeO.ite ?_ ?_
   | refine LeO.bind ?_ (fun _ => ?_)
  ·intro y0 y1 y2 y3 y4
   unfold laws_FnExactUnpin.j2
   repeat' first
   | (with_reducible exact ih0 _ _ _ _ _ _ _ _ _ _ _ _ _ _ _ _)
   | (with_reducible exact ih1 _ _ _ _ _ _ _ _ _ _ _ _)
   | (with_reducible exact ih2 _ _ _ _ _)
   | (with_reducible exact impl_Unpin.mono _ _ _ _ _)
   | (with_reducible exact laws_eqAges.mono _ _ _ _ _ _ _)
   | (with_reducible exact laws_heldAges.mono _ _ _ _ _)
   | (with_reducible exact laws_markAges.mono _ _ _ _ _)
   | (with_reducible exact laws_toAges.mono _ _ _ _)
   | (with_reducible exact spec_Unpin.mono _ _ _ _ _)
   | (with_reducible exact LeO.refl _)
   | (with_reducible exact LeO.none _)
   | (with_reducible refine LeO.ite ?_ ?_)
   | (with_reducible refine LeO.bind ?_ (fun _ => ?_))
   | exact ih0 _ _ _ _ _ _ _ _ _ _ _ _ _ _ _ _
   | exact ih1 _ _ _ _ _ _ _ _ _ _ _ _
   | exact ih2 _ _ _ _ _
   | exact impl_Unpin.mono _ _ _ _ _
   | exact laws_eqAges.mono _ _ _ _ _ _ _
   | exact laws_heldAges.mono _ _ _ _ _
   | exact laws_markAges.mono _ _ _ _ _
   | exact laws_toAges.mono _ _ _ _
   | exact spec_Unpin.mono _ _ _ _ _
   | exact LeO.none _
   | refine LeO.ite ?_ ?_
   | refine LeO.bind ?_ (fun _ => ?_)
theorem laws_FnExactUnpin.mono : ∀ a0 a1 a2 a3 k, LeO (laws_FnExactUnpin.f k a0 a1 a2 a3) (laws_FnExactUnpin.f (k + 1) a0 a1 a2 a3) := by
 intro a0 a1 a2 a3 k
 obtain ⟨ih0, ih1, ih2⟩ := laws_FnExactUnpin.mono_l k
 unfold laws_FnExactUnpin.f
 repeat' first
   | (with_reducible exact ih0 _ _ _ _ _ _ _ _ _ _ _ _ _ _ _ _)
   | (with_reducible exact ih1 _ _ _ _ _ _ _ _ _ _ _ _)
   | (with_reducible exact ih2 _ _ _ _ _)
   | (with_reducible exact impl_Unpin.mono _ _ _ _ _)
   | (with_reducible exact laws_eqAges.mono _ _ _ _ _ _ _)
   | (with_reducible exact laws_heldAges.mono _ _ _ _ _)
   | (with_reducible exact laws_markAges.mono _ _ _ _ _)
   | (with_reducible exact laws_toAges.mono _ _ _ _)
   | (with_reducible exact spec_Unpin.mono _ _ _ _ _)
   | (with_reducible exact LeO.refl _)
   | (with_reducible exact LeO.none _)
   | (with_reducible refine LeO.ite ?_ ?_)
   | (with_reducible refine LeO.bind ?_ (fun _ => ?_))
   | exact ih0 _ _ _ _ _ _ _ _ _ _ _ _ _ _ _ _
   | exact ih1 _ _ _ _ _ _ _ _ _ _ _ _
   | exact ih2 _ _ _ _ _
   | exact impl_Unpin.mono _ _ _ _ _
   | exact laws_eqAges.mono _ _ _ _ _ _ _
   | exact laws_heldAges.mono _ _ _ _ _
   | exact laws_markAges.mono _ _ _ _ _
   | exact laws_toAges.mono _ _ _ _
   | exact spec_Unpin.mono _ _ _ _ _
   | exact LeO.none _
   | refine LeO.ite ?_ ?_
   | refine LeO.bind ?_ (fun _ => ?_)
set_option maxHeartbeats 8000000 in
set_option maxRecDepth 100000 in
theorem laws_FnExactUnpin.calls (k : Nat) (a0_0 : Int) (A0_1 : Option Addr) (c0_1 : Nat) (l0_1 : List Int) (A0_2 : Option Addr) (c0_2 : Nat) (l0_2 : List (S61)) (a1 : Int) (r : Bool) (w : World) (hr0_1 : Kd.C (Kd.int .i64) w A0_1 l0_1.length l0_1) (hc0_1 : l0_1.length ≤ c0_1) (hr0_2 : Kd.C k61 w A0_2 l0_2.length l0_2) (hc0_2 : l0_2.length ≤ c0_2) (h : laws_FnExactUnpin.f k a0_0 l0_1 l0_2 a1 = some r) :
  Calls Try.prog 6 #[.agg #[.int .i64 a0_0, .slice A0_1 l0_1.length c0_1, .slice A0_2 l0_2.length c0_2], .int .i64 a1] w fun e w' => e = .returned (.bool r) ∧ Below w.heap.size w w' := by
 have hu25 := Try.underlying25
 have hu30 := Try.underlying30
 have HR0_1 := Aside0.mk hr0_1
 have HC0_1 := Aside0.mk hc0_1
 clear hr0_1 hc0_1
 have HR0_2 := Aside0.mk hr0_2
 have HC0_2 := Aside0.mk hc0_2
 clear hr0_2 hc0_2
 have HB := Aside0.mk (Below.refl w.heap.size w)
 have H : ((laws_szAges.f a0_0 l0_1 l0_2 1048576).bind fun t251 => (if t251 < 0 then (some true) else ((laws_toAges.f k a0_0 l0_1 l0_2).bind fun bt252 => ((spec_Unpin.f k bt252.1 bt252.2.1 bt252.2.2 a1).bind fun bt259 => ((laws_toAges.f k a0_0 l0_1 l0_2).bind fun bt268 => ((impl_Unpin.f k bt268.1 bt268.2.1 bt268.2.2 a1).bind fun bt276 => ((laws_eqAges.f k bt276.1 bt276.2.1 bt276.2.2.1 bt259.1 bt259.2.1 bt259.2.2.1).bind fun t285 => (if t285 = true then (laws_FnExactUnpin.j0 k a1 bt259.2.2.2 bt276.2.2.2 (bt276.2.2.2 != bt259.2.2.2) a0_0 l0_1 l0_2 bt259.1 bt259.2.1 bt259.2.2.1 bt268.1 bt268.2.1 bt268.2.2 bt276.1 bt276.2.1 bt276.2.2.1) else (laws_FnExactUnpin.j0 k a1 bt259.2.2.2 bt276.2.2.2 true a0_0 l0_1 l0_2 bt259.1 bt259.2.1 bt259.2.2.1 bt268.1 bt268.2.1 bt268.2.2 bt276.1 bt276.2.1 bt276.2.2.1))))))))) = some r := h
 clear h
 replace H := Option.bind_eq_some_iff.mp H
 obtain ⟨t251, A30, H⟩ := H
 replace H : (if t251 < 0 then (some true) else ((laws_toAges.f k a0_0 l0_1 l0_2).bind fun bt252 => ((spec_Unpin.f k bt252.1 bt252.2.1 bt252.2.2 a1).bind fun bt259 => ((laws_toAges.f k a0_0 l0_1 l0_2).bind fun bt268 => ((impl_Unpin.f k bt268.1 bt268.2.1 bt268.2.2 a1).bind fun bt276 => ((laws_eqAges.f k bt276.1 bt276.2.1 bt276.2.2.1 bt259.1 bt259.2.1 bt259.2.2.1).bind fun t285 => (if t285 = true then (laws_FnExactUnpin.j0 k a1 bt259.2.2.2 bt276.2.2.2 (bt276.2.2.2 != bt259.2.2.2) a0_0 l0_1 l0_2 bt259.1 bt259.2.1 bt259.2.2.1 bt268.1 bt268.2.1 bt268.2.2 bt276.1 bt276.2.1 bt276.2.2.1) else (laws_FnExactUnpin.j0 k a1 bt259.2.2.2 bt276.2.2.2 true a0_0 l0_1 l0_2 bt259.1 bt259.2.1 bt259.2.2.1 bt268.1 bt268.2.1 bt268.2.2 bt276.1 bt276.2.1 bt276.2.2.1)))))))) = some r := H
 have A3 := Aside0.mk A30
 clear A30
 by_cases c4 : t251 < 0
 ·rw [if_pos c4] at H
  have c4b0 : decide (t251 < 0) = true := decide_eq_true c4
  clear c4
  obtain rfl := Option.some.inj H
  go_enter Try.func6, Try.ntmps6
  go_wp2_with (first | ((with_reducible refine gate_dst (N := 2) rfl ?_); refine box_event ?hg (N := 2) ?hd (cs := #[.int .i64 a0_0, .slice A0_1 l0_1.length c0_1, .slice A0_2 l0_2.length c0_2]) (t := 25) ?hr ?_; (case hd => rfl); (case hg => rfl); (case hr => first | (go_simp; done) | (go_simp; rfl)); intro gb250 hg w5 hbox hb; have n0_ := Aside0.mk (below_step q8_33 hb); have n1_ := Aside0.mk (hbox); have n2_ := Aside0.mk ((by rw [hg]; exact (below_size q8_33) : w.heap.size ≤ gb250)); have n3_ := Aside0.mk ((by rw [hg]; exact (below_size q8_33) : w.heap.size ≤ gb250)); clear HB; have HB := n0_; have BK250 := n1_; have GW250 := n2_; have GE250 := n3_; clear n0_ n1_ n2_ n3_; clear hb hbox hg; have hcz6_0 : w5.cell? ⟨gb250, 0, none⟩ = some (.int .i64 a0_0) := (blk_cell BK250.out 0).trans rfl; have hcz6_1 : w5.cell? ⟨gb250, 1, none⟩ = some (.slice A0_1 l0_1.length c0_1) := (blk_cell BK250.out 1).trans rfl; have hcz6_2 : w5.cell? ⟨gb250, 2, none⟩ = some (.slice A0_2 l0_2.length c0_2) := (blk_cell BK250.out 2).trans rfl; have hfz6_0 := blk_frozen BK250.out 0; have hfz6_1 := blk_frozen BK250.out 1; have hfz6_2 := blk_frozen BK250.out 2) | ((with_reducible refine gate_callee (f := 11) rfl ?_); refine goesL_ (some 18) rfl rfl Try.func11 (by kernel_rfl) rfl #[.agg #[.int .i64 a0_0, .slice A0_1 l0_1.length c0_1, .slice A0_2 l0_2.length c0_2], .int .i64 1048576] rfl q8_4 ?_; (with_reducible refine (laws_szAges.calls a0_0 _ _ l0_1 _ _ l0_2 1048576 t251 _ ?side1 ?side2 ?side3 ?side4 A3.out).mono ?_); (case side1 => exact q8_26); (case side2 => exact HC0_1.out); (case side3 => exact q8_27); (case side4 => exact HC0_2.out); rintro e w7 ⟨rfl, hb⟩; refine ⟨_, rfl, ?_⟩; have n0_ := Aside0.mk (blk_below (g := gb250) (o := .cells #[.int .i64 a0_0, .slice A0_1 l0_1.length c0_1, .slice A0_2 l0_2.length c0_2] 25 (0, 0)) q8_1 hb); have n1_ := Aside0.mk (below_step q8_13 hb); clear BK250; clear HB; have BK250 := n0_; have HB := n1_; clear n0_ n1_; (try clear hb); (try clear hb2); (try clear hk); (try clear hi)))
  go_ret
  exact ⟨q8_30, q8_13⟩
 ·rw [if_neg c4] at H
  have c4b0 : decide (t251 < 0) = false := decide_eq_false c4
  clear c4
  replace H := Option.bind_eq_some_iff.mp H
  obtain ⟨⟨t252, t253, t256⟩, A80, H⟩ := H
  replace H : ((spec_Unpin.f k t252 t253 t256 a1).bind fun bt259 => ((laws_toAges.f k a0_0 l0_1 l0_2).bind fun bt268 => ((impl_Unpin.f k bt268.1 bt268.2.1 bt268.2.2 a1).bind fun bt276 => ((laws_eqAges.f k bt276.1 bt276.2.1 bt276.2.2.1 bt259.1 bt259.2.1 bt259.2.2.1).bind fun t285 => (if t285 = true then (laws_FnExactUnpin.j0 k a1 bt259.2.2.2 bt276.2.2.2 (bt276.2.2.2 != bt259.2.2.2) a0_0 l0_1 l0_2 bt259.1 bt259.2.1 bt259.2.2.1 bt268.1 bt268.2.1 bt268.2.2 bt276.1 bt276.2.1 bt276.2.2.1) else (laws_FnExactUnpin.j0 k a1 bt259.2.2.2 bt276.2.2.2 true a0_0 l0_1 l0_2 bt259.1 bt259.2.1 bt259.2.2.1 bt268.1 bt268.2.1 bt268.2.2 bt276.1 bt276.2.1 bt276.2.2.1)))))) = some r := H
  have A8 := Aside0.mk A80
  clear A80
  replace H := Option.bind_eq_some_iff.mp H
  obtain ⟨⟨t259, t260, t263, t266⟩, A90, H⟩ := H
  replace H : ((laws_toAges.f k a0_0 l0_1 l0_2).bind fun bt268 => ((impl_Unpin.f k bt268.1 bt268.2.1 bt268.2.2 a1).bind fun bt276 => ((laws_eqAges.f k bt276.1 bt276.2.1 bt276.2.2.1 t259 t260 t263).bind fun t285 => (if t285 = true then (laws_FnExactUnpin.j0 k a1 t266 bt276.2.2.2 (bt276.2.2.2 != t266) a0_0 l0_1 l0_2 t259 t260 t263 bt268.1 bt268.2.1 bt268.2.2 bt276.1 bt276.2.1 bt276.2.2.1) else (laws_FnExactUnpin.j0 k a1 t266 bt276.2.2.2 true a0_0 l0_1 l0_2 t259 t260 t263 bt268.1 bt268.2.1 bt268.2.2 bt276.1 bt276.2.1 bt276.2.2.1))))) = some r := H
  have A9 := Aside0.mk A90
  clear A90
  replace H := Option.bind_eq_some_iff.mp H
  obtain ⟨⟨t268, t269, t272⟩, A100, H⟩ := H
  replace H : ((impl_Unpin.f k t268 t269 t272 a1).bind fun bt276 => ((laws_eqAges.f k bt276.1 bt276.2.1 bt276.2.2.1 t259 t260 t263).bind fun t285 => (if t285 = true then (laws_FnExactUnpin.j0 k a1 t266 bt276.2.2.2 (bt276.2.2.2 != t266) a0_0 l0_1 l0_2 t259 t260 t263 t268 t269 t272 bt276.1 bt276.2.1 bt276.2.2.1) else (laws_FnExactUnpin.j0 k a1 t266 bt276.2.2.2 true a0_0 l0_1 l0_2 t259 t260 t263 t268 t269 t272 bt276.1 bt276.2.1 bt276.2.2.1)))) = some r := H
  have A10 := Aside0.mk A100
  clear A100
  replace H := Option.bind_eq_some_iff.mp H
  obtain ⟨⟨t276, t277, t280, t283⟩, A110, H⟩ := H
  replace H : ((laws_eqAges.f k t276 t277 t280 t259 t260 t263).bind fun t285 => (if t285 = true then (laws_FnExactUnpin.j0 k a1 t266 t283 (t283 != t266) a0_0 l0_1 l0_2 t259 t260 t263 t268 t269 t272 t276 t277 t280) else (laws_FnExactUnpin.j0 k a1 t266 t283 true a0_0 l0_1 l0_2 t259 t260 t263 t268 t269 t272 t276 t277 t280))) = some r := H
  have A11 := Aside0.mk A110
  clear A110
  have HC12 := Aside0.mk H
  clear H
  go_enter Try.func6, Try.ntmps6
  go_upto_region 8 with (first | ((with_reducible refine gate_dst (N := 2) rfl ?_); refine box_event ?hg (N := 2) ?hd (cs := #[.int .i64 a0_0, .slice A0_1 l0_1.length c0_1, .slice A0_2 l0_2.length c0_2]) (t := 25) ?hr ?_; (case hd => rfl); (case hg => rfl); (case hr => first | (go_simp; done) | (go_simp; rfl)); intro gb250 hg w13 hbox hb; have n0_ := Aside0.mk (below_step q8_33 hb); have n1_ := Aside0.mk (hbox); have n2_ := Aside0.mk ((by rw [hg]; exact (below_size q8_33) : w.heap.size ≤ gb250)); have n3_ := Aside0.mk ((by rw [hg]; exact (below_size q8_33) : w.heap.size ≤ gb250)); clear HB; have HB := n0_; have BK250 := n1_; have GW250 := n2_; have GE250 := n3_; clear n0_ n1_ n2_ n3_; clear hb hbox hg; have hcz14_0 : w13.cell? ⟨gb250, 0, none⟩ = some (.int .i64 a0_0) := (blk_cell BK250.out 0).trans rfl; have hcz14_1 : w13.cell? ⟨gb250, 1, none⟩ = some (.slice A0_1 l0_1.length c0_1) := (blk_cell BK250.out 1).trans rfl; have hcz14_2 : w13.cell? ⟨gb250, 2, none⟩ = some (.slice A0_2 l0_2.length c0_2) := (blk_cell BK250.out 2).trans rfl; have hfz14_0 := blk_frozen BK250.out 0; have hfz14_1 := blk_frozen BK250.out 1; have hfz14_2 := blk_frozen BK250.out 2) | ((with_reducible refine gate_callee (f := 11) rfl ?_); refine goesL_ (some 18) rfl rfl Try.func11 (by kernel_rfl) rfl #[.agg #[.int .i64 a0_0, .slice A0_1 l0_1.length c0_1, .slice A0_2 l0_2.length c0_2], .int .i64 1048576] rfl q8_4 ?_; (with_reducible refine (laws_szAges.calls a0_0 _ _ l0_1 _ _ l0_2 1048576 t251 _ ?side1 ?side2 ?side3 ?side4 A3.out).mono ?_); (case side1 => exact q8_26); (case side2 => exact HC0_1.out); (case side3 => exact q8_27); (case side4 => exact HC0_2.out); rintro e w15 ⟨rfl, hb⟩; refine ⟨_, rfl, ?_⟩; have n0_ := Aside0.mk (blk_below (g := gb250) (o := .cells #[.int .i64 a0_0, .slice A0_1 l0_1.length c0_1, .slice A0_2 l0_2.length c0_2] 25 (0, 0)) q8_1 hb); have n1_ := Aside0.mk (below_step q8_13 hb); clear BK250; clear HB; have BK250 := n0_; have HB := n1_; clear n0_ n1_; (try clear hb); (try clear hb2); (try clear hk); (try clear hi); have hcz16_0 : w15.cell? ⟨gb250, 0, none⟩ = some (.int .i64 a0_0) := (blk_cell BK250.out 0).trans rfl; have hcz16_1 : w15.cell? ⟨gb250, 1, none⟩ = some (.slice A0_1 l0_1.length c0_1) := (blk_cell BK250.out 1).trans rfl; have hcz16_2 : w15.cell? ⟨gb250, 2, none⟩ = some (.slice A0_2 l0_2.length c0_2) := (blk_cell BK250.out 2).trans rfl; have hfz16_0 := blk_frozen BK250.out 0; have hfz16_1 := blk_frozen BK250.out 1; have hfz16_2 := blk_frozen BK250.out 2) | ((with_reducible refine gate_callee (f := 13) rfl ?_); refine goesL_ (some 23) rfl rfl Try.func13 (by kernel_rfl) rfl #[.agg #[.int .i64 a0_0, .slice A0_1 l0_1.length c0_1, .slice A0_2 l0_2.length c0_2]] rfl q8_4 ?_; (with_reducible refine (laws_toAges.calls k a0_0 _ _ l0_1 _ _ l0_2 t252 t253 t256 _ ?side1 ?side2 ?side3 ?side4 A8.out).mono ?_); (case side1 => exact q8_26); (case side2 => exact HC0_1.out); (case side3 => exact q8_27); (case side4 => exact HC0_2.out); rintro e w17 ⟨v254, v257, rfl, ho0, ho1, hb⟩; refine ⟨_, rfl, ?_⟩; have n0_ := Aside0.mk (Kd.R_lower ho0 (below_size q8_13)); have n1_ := Aside0.mk (Kd.R_lower ho1 (below_size q8_13)); have n2_ := Aside0.mk (blk_below (g := gb250) (o := .cells #[.int .i64 a0_0, .slice A0_1 l0_1.length c0_1, .slice A0_2 l0_2.length c0_2] 25 (0, 0)) q8_1 hb); have n3_ := Aside0.mk (below_step q8_13 hb); clear BK250; clear HB; have HO255 := n0_; have HO258 := n1_; have BK250 := n2_; have HB := n3_; clear n0_ n1_ n2_ n3_; (try clear hb); (try clear hb2); (try clear hk); (try clear hi); (try clear ho0); (try clear ho1); obtain ⟨Ao18, co18, eo18⟩ := Kd.R_slice HO255.out; subst eo18; obtain ⟨Ao19, co19, eo19⟩ := Kd.R_slice HO258.out; subst eo19) | ((with_reducible refine gate_callee (f := 22) rfl ?_); refine goesL_ (some 25) rfl rfl Try.func22 (by kernel_rfl) rfl #[.agg #[.int .i64 t252, .slice Ao18 t253.length co18, .slice Ao19 t256.length co19], .int .i64 a1] rfl q8_4 ?_; (with_reducible refine (spec_Unpin.calls k t252 _ _ t253 _ _ t256 a1 t259 t260 t263 t266 _ ?side1 ?side2 ?side3 ?side4 A9.out).mono ?_); (case side1 => repeat (first | exact (Kd.R_reads' HO255.out).2.2 | (with_reducible refine Kd.C_alloc ?_ _) | (with_reducible refine Kd.C_drewN ?_ _) | (with_reducible refine Kd.C_drew ?_))); (case side2 => exact (Kd.R_reads' HO255.out).2.1); (case side3 => repeat (first | exact (Kd.R_reads' HO258.out).2.2 | (with_reducible refine Kd.C_alloc ?_ _) | (with_reducible refine Kd.C_drewN ?_ _) | (with_reducible refine Kd.C_drew ?_))); (case side4 => exact (Kd.R_reads' HO258.out).2.1); rintro e w20 ⟨v261, v264, rfl, ho0, ho1, hb⟩; refine ⟨_, rfl, ?_⟩; have n0_ := Aside0.mk (Kd.R_elder' (by (with_reducible repeat (first | apply Kd.R_alloc | apply Kd.R_drewN | apply Kd.R_drew)); exact HO255.out) (Kd.R_base ho0) hb); have n1_ := Aside0.mk (Kd.R_elder' (by (with_reducible repeat (first | apply Kd.R_alloc | apply Kd.R_drewN | apply Kd.R_drew)); exact HO258.out) (Kd.R_base ho1) hb); have n2_ := Aside0.mk (Kd.R_lower (Kd.R_new' ho0 (Kd.R_lt (by (with_reducible repeat (first | apply Kd.R_alloc | apply Kd.R_drewN | apply Kd.R_drew)); exact HO255.out))) (below_size q8_13)); have n3_ := Aside0.mk (Kd.R_lower (Kd.R_new' ho1 (Kd.R_lt (by (with_reducible repeat (first | apply Kd.R_alloc | apply Kd.R_drewN | apply Kd.R_drew)); exact HO258.out))) (below_size q8_13)); have n4_ := Aside0.mk (blk_below (g := gb250) (o := .cells #[.int .i64 a0_0, .slice A0_1 l0_1.length c0_1, .slice A0_2 l0_2.length c0_2] 25 (0, 0)) q8_1 hb); have n5_ := Aside0.mk (below_step q8_13 hb); clear HO255; clear HO258; clear BK250; clear HB; have HO255 := n0_; have HO258 := n1_; have HO262 := n2_; have HO265 := n3_; have BK250 := n4_; have HB := n5_; clear n0_ n1_ n2_ n3_ n4_ n5_; (try clear hb); (try clear hb2); (try clear hk); (try clear hi); (try clear ho0); (try clear ho1)) | ((with_reducible refine gate_dst (N := 6) rfl ?_); refine box_event ?hg (N := 6) ?hd (cs := #[.int .i64 0, .slice none 0 0, .slice none 0 0]) (t := 30) ?hr ?_; (case hd => rfl); (case hg => rfl); (case hr => first | (go_simp; done) | (go_simp; rfl)); intro gb267 hg w21 hbox hb; have n0_ := Aside0.mk (Kd.R_below (by (with_reducible repeat (first | apply Kd.R_alloc | apply Kd.R_drewN | apply Kd.R_drew)); exact HO255.out) hb); have n1_ := Aside0.mk (Kd.R_below (by (with_reducible repeat (first | apply Kd.R_alloc | apply Kd.R_drewN | apply Kd.R_drew)); exact HO258.out) hb); have n2_ := Aside0.mk (Kd.R_below (by (with_reducible repeat (first | apply Kd.R_alloc | apply Kd.R_drewN | apply Kd.R_drew)); exact HO262.out) hb); have n3_ := Aside0.mk (Kd.R_below (by (with_reducible repeat (first | apply Kd.R_alloc | apply Kd.R_drewN | apply Kd.R_drew)); exact HO265.out) hb); have n4_ := Aside0.mk (blk_below (g := gb250) (o := .cells #[.int .i64 a0_0, .slice A0_1 l0_1.length c0_1, .slice A0_2 l0_2.length c0_2] 25 (0, 0)) q8_1 hb); have n5_ := Aside0.mk (below_step q8_13 hb); have n6_ := Aside0.mk (hbox); have n7_ := Aside0.mk ((by rw [hg]; exact (below_size q8_13) : w.heap.size ≤ gb267)); have n8_ := Aside0.mk ((by rw [hg]; exact (below_size q8_13) : w.heap.size ≤ gb267)); have n9_ := Aside0.mk ((q8_42 : gb250 ≠ gb267)); have n10_ := Aside0.mk ((q8_43 : gb267 ≠ gb250)); clear HO255; clear HO258; clear HO262; clear HO265; clear BK250; clear HB; have HO255 := n0_; have HO258 := n1_; have HO262 := n2_; have HO265 := n3_; have BK250 := n4_; have HB := n5_; have BK267 := n6_; have GW267 := n7_; have GE267 := n8_; have NB250_267 := n9_; have NB267_250 := n10_; clear n0_ n1_ n2_ n3_ n4_ n5_ n6_ n7_ n8_ n9_ n10_; clear hb hbox hg; have hnb22 := NB267_250.out; have hnc22 := NB250_267.out; have hcz23_0 : w21.cell? ⟨gb267, 0, none⟩ = some (.int .i64 0) := (blk_cell BK267.out 0).trans rfl; have hcz23_1 : w21.cell? ⟨gb267, 1, none⟩ = some (.slice none 0 0) := (blk_cell BK267.out 1).trans rfl; have hcz23_2 : w21.cell? ⟨gb267, 2, none⟩ = some (.slice none 0 0) := (blk_cell BK267.out 2).trans rfl; have hfz23_0 := blk_frozen BK267.out 0; have hfz23_1 := blk_frozen BK267.out 1; have hfz23_2 := blk_frozen BK267.out 2; obtain ⟨Ao24, co24, eo24⟩ := Kd.R_slice HO262.out; subst eo24; obtain ⟨Ao25, co25, eo25⟩ := Kd.R_slice HO265.out; subst eo25; have hcz26_0 : w21.cell? ⟨gb250, 0, none⟩ = some (.int .i64 a0_0) := (blk_cell BK250.out 0).trans rfl; have hcz26_1 : w21.cell? ⟨gb250, 1, none⟩ = some (.slice A0_1 l0_1.length c0_1) := (blk_cell BK250.out 1).trans rfl; have hcz26_2 : w21.cell? ⟨gb250, 2, none⟩ = some (.slice A0_2 l0_2.length c0_2) := (blk_cell BK250.out 2).trans rfl; have hfz26_0 := blk_frozen BK250.out 0; have hfz26_1 := blk_frozen BK250.out 1; have hfz26_2 := blk_frozen BK250.out 2) | ((with_reducible refine gate_callee (f := 13) rfl ?_); refine goesL_ (some 29) rfl rfl Try.func13 (by kernel_rfl) rfl #[.agg #[.int .i64 a0_0, .slice A0_1 l0_1.length c0_1, .slice A0_2 l0_2.length c0_2]] rfl q8_4 ?_; (with_reducible refine (laws_toAges.calls k a0_0 _ _ l0_1 _ _ l0_2 t268 t269 t272 _ ?side1 ?side2 ?side3 ?side4 A10.out).mono ?_); (case side1 => exact Kd.C_below HR0_1.out q8_14); (case side2 => exact HC0_1.out); (case side3 => exact Kd.C_below HR0_2.out q8_14); (case side4 => exact HC0_2.out); rintro e w27 ⟨v270, v273, rfl, ho0, ho1, hb⟩; refine ⟨_, rfl, ?_⟩; have n0_ := Aside0.mk (Kd.R_elder' q8_51 (Kd.R_base ho0) hb); have n1_ := Aside0.mk (Kd.R_elder' q8_52 (Kd.R_base ho1) hb); have n2_ := Aside0.mk (Kd.R_elder' q8_53 (Kd.R_base ho0) hb); have n3_ := Aside0.mk (Kd.R_elder' q8_54 (Kd.R_base ho1) hb); have n4_ := Aside0.mk (Kd.R_lower (Kd.R_new' (Kd.R_new' ho0 (Kd.R_lt q8_51)) (Kd.R_lt q8_53)) (below_size q8_14)); have n5_ := Aside0.mk (Kd.R_lower (Kd.R_new' (Kd.R_new' ho1 (Kd.R_lt q8_52)) (Kd.R_lt q8_54)) (below_size q8_14)); have n6_ := Aside0.mk (blk_below (g := gb250) (o := .cells #[.int .i64 a0_0, .slice A0_1 l0_1.length c0_1, .slice A0_2 l0_2.length c0_2] 25 (0, 0)) (by (with_reducible repeat (first | refine blk_drewN ?_ _ | refine blk_drew ?_ | refine blk_alloc ?_ _)); refine blk_far ?_ NB250_267.out _; (with_reducible repeat (first | refine blk_drewN ?_ _ | refine blk_drew ?_ | refine blk_alloc ?_ _)); refine blk_far ?_ NB250_267.out _; (with_reducible repeat (first | refine blk_drewN ?_ _ | refine blk_drew ?_ | refine blk_alloc ?_ _)); refine blk_far ?_ NB250_267.out _; (with_reducible repeat (first | refine blk_drewN ?_ _ | refine blk_drew ?_ | refine blk_alloc ?_ _)); exact BK250.out) hb); have n7_ := Aside0.mk (blk_below (g := gb267) (o := .cells #[.int .i64 t259, .slice Ao24 t260.length co24, .slice Ao25 t263.length co25] 30 (0, 0)) (by (with_reducible repeat (first | refine blk_drewN ?_ _ | refine blk_drew ?_ | refine blk_alloc ?_ _)); refine blk_put (cs := #[.int .i64 t259, .slice Ao24 t260.length co24, .slice none 0 0]) ?_ 2 _ rfl; (with_reducible repeat (first | refine blk_drewN ?_ _ | refine blk_drew ?_ | refine blk_alloc ?_ _)); refine blk_put (cs := #[.int .i64 t259, .slice none 0 0, .slice none 0 0]) ?_ 1 _ rfl; (with_reducible repeat (first | refine blk_drewN ?_ _ | refine blk_drew ?_ | refine blk_alloc ?_ _)); refine blk_put (cs := #[.int .i64 0, .slice none 0 0, .slice none 0 0]) ?_ 0 _ rfl; (with_reducible repeat (first | refine blk_drewN ?_ _ | refine blk_drew ?_ | refine blk_alloc ?_ _)); exact BK267.out) hb); have n8_ := Aside0.mk (below_step q8_14 hb); clear HO255; clear HO258; clear HO262; clear HO265; clear BK250; clear BK267; clear HB; have HO255 := n0_; have HO258 := n1_; have HO262 := n2_; have HO265 := n3_; have HO271 := n4_; have HO274 := n5_; have BK250 := n6_; have BK267 := n7_; have HB := n8_; clear n0_ n1_ n2_ n3_ n4_ n5_ n6_ n7_ n8_; (try clear hb); (try clear hb2); (try clear hk); (try clear hi); (try clear ho0); (try clear ho1)) | ((with_reducible refine gate_dst (N := 8) rfl ?_); refine box_event ?hg (N := 8) ?hd (cs := #[.int .i64 0, .slice none 0 0, .slice none 0 0]) (t := 30) ?hr ?_; (case hd => rfl); (case hg => rfl); (case hr => first | (go_simp; done) | (go_simp; rfl)); intro gb275 hg w28 hbox hb; have n0_ := Aside0.mk (Kd.R_below (by (with_reducible repeat (first | apply Kd.R_alloc | apply Kd.R_drewN | apply Kd.R_drew)); exact HO255.out) hb); have n1_ := Aside0.mk (Kd.R_below (by (with_reducible repeat (first | apply Kd.R_alloc | apply Kd.R_drewN | apply Kd.R_drew)); exact HO258.out) hb); have n2_ := Aside0.mk (Kd.R_below (by (with_reducible repeat (first | apply Kd.R_alloc | apply Kd.R_drewN | apply Kd.R_drew)); exact HO262.out) hb); have n3_ := Aside0.mk (Kd.R_below (by (with_reducible repeat (first | apply Kd.R_alloc | apply Kd.R_drewN | apply Kd.R_drew)); exact HO265.out) hb); have n4_ := Aside0.mk (Kd.R_below (by (with_reducible repeat (first | apply Kd.R_alloc | apply Kd.R_drewN | apply Kd.R_drew)); exact HO271.out) hb); have n5_ := Aside0.mk (Kd.R_below (by (with_reducible repeat (first | apply Kd.R_alloc | apply Kd.R_drewN | apply Kd.R_drew)); exact HO274.out) hb); have n6_ := Aside0.mk (blk_below (g := gb250) (o := .cells #[.int .i64 a0_0, .slice A0_1 l0_1.length c0_1, .slice A0_2 l0_2.length c0_2] 25 (0, 0)) q8_1 hb); have n7_ := Aside0.mk (blk_below (g := gb267) (o := .cells #[.int .i64 t259, .slice Ao24 t260.length co24, .slice Ao25 t263.length co25] 30 (0, 0)) q8_2 hb); have n8_ := Aside0.mk (below_step q8_14 hb); have n9_ := Aside0.mk (hbox); have n10_ := Aside0.mk ((by rw [hg]; exact (below_size q8_14) : w.heap.size ≤ gb275)); have n11_ := Aside0.mk ((by rw [hg]; exact (below_size q8_14) : w.heap.size ≤ gb275)); have n12_ := Aside0.mk ((q8_42 : gb250 ≠ gb275)); have n13_ := Aside0.mk ((q8_43 : gb275 ≠ gb250)); have n14_ := Aside0.mk ((by rw [hg]; exact Nat.ne_of_lt (blk_lt (g := gb267) (o := .cells #[.int .i64 t259, .slice Ao24 t260.length co24, .slice Ao25 t263.length co25] 30 (0, 0)) q8_2) : gb267 ≠ gb275)); have n15_ := Aside0.mk ((by rw [hg]; exact Nat.ne_of_gt (blk_lt (g := gb267) (o := .cells #[.int .i64 t259, .slice Ao24 t260.length co24, .slice Ao25 t263.length co25] 30 (0, 0)) q8_2) : gb275 ≠ gb267)); clear HO255; clear HO258; clear HO262; clear HO265; clear HO271; clear HO274; clear BK250; clear BK267; clear HB; have HO255 := n0_; have HO258 := n1_; have HO262 := n2_; have HO265 := n3_; have HO271 := n4_; have HO274 := n5_; have BK250 := n6_; have BK267 := n7_; have HB := n8_; have BK275 := n9_; have GW275 := n10_; have GE275 := n11_; have NB250_275 := n12_; have NB275_250 := n13_; have NB267_275 := n14_; have NB275_267 := n15_; clear n0_ n1_ n2_ n3_ n4_ n5_ n6_ n7_ n8_ n9_ n10_ n11_ n12_ n13_ n14_ n15_; clear hb hbox hg; have hnb29 := NB275_250.out; have hnc29 := NB250_275.out; have hnb30 := NB275_267.out; have hnc30 := NB267_275.out; have hcz31_0 : w28.cell? ⟨gb275, 0, none⟩ = some (.int .i64 0) := (blk_cell BK275.out 0).trans rfl; have hcz31_1 : w28.cell? ⟨gb275, 1, none⟩ = some (.slice none 0 0) := (blk_cell BK275.out 1).trans rfl; have hcz31_2 : w28.cell? ⟨gb275, 2, none⟩ = some (.slice none 0 0) := (blk_cell BK275.out 2).trans rfl; have hfz31_0 := blk_frozen BK275.out 0; have hfz31_1 := blk_frozen BK275.out 1; have hfz31_2 := blk_frozen BK275.out 2; obtain ⟨Ao32, co32, eo32⟩ := Kd.R_slice HO271.out; subst eo32; obtain ⟨Ao33, co33, eo33⟩ := Kd.R_slice HO274.out; subst eo33) | ((with_reducible refine gate_callee (f := 23) rfl ?_); refine goesL_ (some 33) rfl rfl Try.func23 (by kernel_rfl) rfl #[.agg #[.int .i64 t268, .slice Ao32 t269.length co32, .slice Ao33 t272.length co33], .int .i64 a1] rfl q8_4 ?_; (with_reducible refine (impl_Unpin.calls k t268 _ _ t269 _ _ t272 a1 t276 t277 t280 t283 _ ?side1 ?side2 ?side3 ?side4 A11.out).mono ?_); (case side1 => refine (Kd.R_reads' (e := 3) (base := w.heap.size) (ok := fun k_ => ((True ∧ some k_ ≠ (.slice Ao18 t253.length co18 : Value).ownBlock) ∧ some k_ ≠ (.slice Ao24 t260.length co24 : Value).ownBlock)) (n := t269.length) (c := co32) ?_).2.2; exact q8_28); (case side2 => exact (Kd.R_reads' HO271.out).2.1); (case side3 => refine (Kd.R_reads' (e := 48) (base := w.heap.size) (ok := fun k_ => ((True ∧ some k_ ≠ (.slice Ao19 t256.length co19 : Value).ownBlock) ∧ some k_ ≠ (.slice Ao25 t263.length co25 : Value).ownBlock)) (n := t272.length) (c := co33) ?_).2.2; exact q8_29); (case side4 => exact (Kd.R_reads' HO274.out).2.1); rintro e w34 ⟨v278, v281, rfl, ho0, ho1, hb⟩; refine ⟨_, rfl, ?_⟩; have n0_ := Aside0.mk (Kd.R_elder' q8_55 (Kd.R_base ho0) hb); have n1_ := Aside0.mk (Kd.R_elder' q8_56 (Kd.R_base ho1) hb); have n2_ := Aside0.mk (Kd.R_elder' q8_57 (Kd.R_base ho0) hb); have n3_ := Aside0.mk (Kd.R_elder' q8_58 (Kd.R_base ho1) hb); have n4_ := Aside0.mk (Kd.R_elder' q8_28 (Kd.R_base ho0) hb); have n5_ := Aside0.mk (Kd.R_elder' q8_29 (Kd.R_base ho1) hb); have n6_ := Aside0.mk (Kd.R_lower (Kd.R_new' (Kd.R_new' (Kd.R_new' ho0 (Kd.R_lt q8_55)) (Kd.R_lt q8_57)) (Kd.R_lt q8_28)) (below_size q8_25)); have n7_ := Aside0.mk (Kd.R_lower (Kd.R_new' (Kd.R_new' (Kd.R_new' ho1 (Kd.R_lt q8_56)) (Kd.R_lt q8_58)) (Kd.R_lt q8_29)) (below_size q8_25)); have n8_ := Aside0.mk (blk_below (g := gb250) (o := .cells #[.int .i64 a0_0, .slice A0_1 l0_1.length c0_1, .slice A0_2 l0_2.length c0_2] 25 (0, 0)) (by (with_reducible repeat (first | refine blk_drewN ?_ _ | refine blk_drew ?_ | refine blk_alloc ?_ _)); refine blk_far ?_ NB250_275.out _; (with_reducible repeat (first | refine blk_drewN ?_ _ | refine blk_drew ?_ | refine blk_alloc ?_ _)); refine blk_far ?_ NB250_275.out _; (with_reducible repeat (first | refine blk_drewN ?_ _ | refine blk_drew ?_ | refine blk_alloc ?_ _)); refine blk_far ?_ NB250_275.out _; (with_reducible repeat (first | refine blk_drewN ?_ _ | refine blk_drew ?_ | refine blk_alloc ?_ _)); exact BK250.out) hb); have n9_ := Aside0.mk (blk_below (g := gb267) (o := .cells #[.int .i64 t259, .slice Ao24 t260.length co24, .slice Ao25 t263.length co25] 30 (0, 0)) (by (with_reducible repeat (first | refine blk_drewN ?_ _ | refine blk_drew ?_ | refine blk_alloc ?_ _)); refine blk_far ?_ NB267_275.out _; (with_reducible repeat (first | refine blk_drewN ?_ _ | refine blk_drew ?_ | refine blk_alloc ?_ _)); refine blk_far ?_ NB267_275.out _; (with_reducible repeat (first | refine blk_drewN ?_ _ | refine blk_drew ?_ | refine blk_alloc ?_ _)); refine blk_far ?_ NB267_275.out _; (with_reducible repeat (first | refine blk_drewN ?_ _ | refine blk_drew ?_ | refine blk_alloc ?_ _)); exact BK267.out) hb); have n10_ := Aside0.mk (blk_below (g := gb275) (o := .cells #[.int .i64 t268, .slice Ao32 t269.length co32, .slice Ao33 t272.length co33] 30 (0, 0)) (by (with_reducible repeat (first | refine blk_drewN ?_ _ | refine blk_drew ?_ | refine blk_alloc ?_ _)); refine blk_put (cs := #[.int .i64 t268, .slice Ao32 t269.length co32, .slice none 0 0]) ?_ 2 _ rfl; (with_reducible repeat (first | refine blk_drewN ?_ _ | refine blk_drew ?_ | refine blk_alloc ?_ _)); refine blk_put (cs := #[.int .i64 t268, .slice none 0 0, .slice none 0 0]) ?_ 1 _ rfl; (with_reducible repeat (first | refine blk_drewN ?_ _ | refine blk_drew ?_ | refine blk_alloc ?_ _)); refine blk_put (cs := #[.int .i64 0, .slice none 0 0, .slice none 0 0]) ?_ 0 _ rfl; (with_reducible repeat (first | refine blk_drewN ?_ _ | refine blk_drew ?_ | refine blk_alloc ?_ _)); exact BK275.out) hb); have n11_ := Aside0.mk (below_step q8_25 hb); clear HO255; clear HO258; clear HO262; clear HO265; clear HO271; clear HO274; clear BK250; clear BK267; clear BK275; clear HB; have HO255 := n0_; have HO258 := n1_; have HO262 := n2_; have HO265 := n3_; have HO271 := n4_; have HO274 := n5_; have HO279 := n6_; have HO282 := n7_; have BK250 := n8_; have BK267 := n9_; have BK275 := n10_; have HB := n11_; clear n0_ n1_ n2_ n3_ n4_ n5_ n6_ n7_ n8_ n9_ n10_ n11_; (try clear hb); (try clear hb2); (try clear hk); (try clear hi); (try clear ho0); (try clear ho1)) | ((with_reducible refine gate_dst (N := 9) rfl ?_); refine box_event ?hg (N := 9) ?hd (cs := #[.int .i64 0, .slice none 0 0, .slice none 0 0]) (t := 30) ?hr ?_; (case hd => rfl); (case hg => rfl); (case hr => first | (go_simp; done) | (go_simp; rfl)); intro gb284 hg w35 hbox hb; have n0_ := Aside0.mk (Kd.R_below (by (with_reducible repeat (first | apply Kd.R_alloc | apply Kd.R_drewN | apply Kd.R_drew)); exact HO255.out) hb); have n1_ := Aside0.mk (Kd.R_below (by (with_reducible repeat (first | apply Kd.R_alloc | apply Kd.R_drewN | apply Kd.R_drew)); exact HO258.out) hb); have n2_ := Aside0.mk (Kd.R_below (by (with_reducible repeat (first | apply Kd.R_alloc | apply Kd.R_drewN | apply Kd.R_drew)); exact HO262.out) hb); have n3_ := Aside0.mk (Kd.R_below (by (with_reducible repeat (first | apply Kd.R_alloc | apply Kd.R_drewN | apply Kd.R_drew)); exact HO265.out) hb); have n4_ := Aside0.mk (Kd.R_below (by (with_reducible repeat (first | apply Kd.R_alloc | apply Kd.R_drewN | apply Kd.R_drew)); exact HO271.out) hb); have n5_ := Aside0.mk (Kd.R_below (by (with_reducible repeat (first | apply Kd.R_alloc | apply Kd.R_drewN | apply Kd.R_drew)); exact HO274.out) hb); have n6_ := Aside0.mk (Kd.R_below (by (with_reducible repeat (first | apply Kd.R_alloc | apply Kd.R_drewN | apply Kd.R_drew)); exact HO279.out) hb); have n7_ := Aside0.mk (Kd.R_below (by (with_reducible repeat (first | apply Kd.R_alloc | apply Kd.R_drewN | apply Kd.R_drew)); exact HO282.out) hb); have n8_ := Aside0.mk (blk_below (g := gb250) (o := .cells #[.int .i64 a0_0, .slice A0_1 l0_1.length c0_1, .slice A0_2 l0_2.length c0_2] 25 (0, 0)) q8_1 hb); have n9_ := Aside0.mk (blk_below (g := gb267) (o := .cells #[.int .i64 t259, .slice Ao24 t260.length co24, .slice Ao25 t263.length co25] 30 (0, 0)) q8_2 hb); have n10_ := Aside0.mk (blk_below (g := gb275) (o := .cells #[.int .i64 t268, .slice Ao32 t269.length co32, .slice Ao33 t272.length co33] 30 (0, 0)) q8_3 hb); have n11_ := Aside0.mk (below_step q8_25 hb); have n12_ := Aside0.mk (hbox); have n13_ := Aside0.mk ((by rw [hg]; exact (below_size q8_25) : w.heap.size ≤ gb284)); have n14_ := Aside0.mk ((by rw [hg]; exact (below_size q8_25) : w.heap.size ≤ gb284)); have n15_ := Aside0.mk ((q8_42 : gb250 ≠ gb284)); have n16_ := Aside0.mk ((q8_43 : gb284 ≠ gb250)); have n17_ := Aside0.mk ((by rw [hg]; exact Nat.ne_of_lt (blk_lt (g := gb267) (o := .cells #[.int .i64 t259, .slice Ao24 t260.length co24, .slice Ao25 t263.length co25] 30 (0, 0)) q8_2) : gb267 ≠ gb284)); have n18_ := Aside0.mk ((by rw [hg]; exact Nat.ne_of_gt (blk_lt (g := gb267) (o := .cells #[.int .i64 t259, .slice Ao24 t260.length co24, .slice Ao25 t263.length co25] 30 (0, 0)) q8_2) : gb284 ≠ gb267)); have n19_ := Aside0.mk ((by rw [hg]; exact Nat.ne_of_lt (blk_lt (g := gb275) (o := .cells #[.int .i64 t268, .slice Ao32 t269.length co32, .slice Ao33 t272.length co33] 30 (0, 0)) q8_3) : gb275 ≠ gb284)); have n20_ := Aside0.mk ((by rw [hg]; exact Nat.ne_of_gt (blk_lt (g := gb275) (o := .cells #[.int .i64 t268, .slice Ao32 t269.length co32, .slice Ao33 t272.length co33] 30 (0, 0)) q8_3) : gb284 ≠ gb275)); clear HO255; clear HO258; clear HO262; clear HO265; clear HO271; clear HO274; clear HO279; clear HO282; clear BK250; clear BK267; clear BK275; clear HB; have HO255 := n0_; have HO258 := n1_; have HO262 := n2_; have HO265 := n3_; have HO271 := n4_; have HO274 := n5_; have HO279 := n6_; have HO282 := n7_; have BK250 := n8_; have BK267 := n9_; have BK275 := n10_; have HB := n11_; have BK284 := n12_; have GW284 := n13_; have GE284 := n14_; have NB250_284 := n15_; have NB284_250 := n16_; have NB267_284 := n17_; have NB284_267 := n18_; have NB275_284 := n19_; have NB284_275 := n20_; clear n0_ n1_ n2_ n3_ n4_ n5_ n6_ n7_ n8_ n9_ n10_ n11_ n12_ n13_ n14_ n15_ n16_ n17_ n18_ n19_ n20_; clear hb hbox hg; have hnb36 := NB284_250.out; have hnc36 := NB250_284.out; have hnb37 := NB284_267.out; have hnc37 := NB267_284.out; have hnb38 := NB284_275.out; have hnc38 := NB275_284.out; have hcz39_0 : w35.cell? ⟨gb284, 0, none⟩ = some (.int .i64 0) := (blk_cell BK284.out 0).trans rfl; have hcz39_1 : w35.cell? ⟨gb284, 1, none⟩ = some (.slice none 0 0) := (blk_cell BK284.out 1).trans rfl; have hcz39_2 : w35.cell? ⟨gb284, 2, none⟩ = some (.slice none 0 0) := (blk_cell BK284.out 2).trans rfl; have hfz39_0 := blk_frozen BK284.out 0; have hfz39_1 := blk_frozen BK284.out 1; have hfz39_2 := blk_frozen BK284.out 2; obtain ⟨Ao40, co40, eo40⟩ := Kd.R_slice HO279.out; subst eo40; obtain ⟨Ao41, co41, eo41⟩ := Kd.R_slice HO282.out; subst eo41))
  (try simp only [Act.put, List.setIfInBounds_toArray, List.set_cons_zero, List.set_cons_succ])
  go_cut [44] (fun v44 wc => ∃ (kq : Nat) (x44_11 : Bool), v44 = .bool x44_11 ∧ Aside0 (laws_FnExactUnpin.j0 kq a1 t266 t283 x44_11 a0_0 l0_1 l0_2 t259 t260 t263 t268 t269 t272 t276 t277 t280 = some r) ∧ Aside0 (kq ≤ k) ∧ Aside0 (Kd.R (Kd.int .i64) 3 wc w.heap.size (fun k_ => some k_ ≠ ((.slice Ao32 t269.length co32) : Value).ownBlock ∧ some k_ ≠ ((.slice Ao40 t277.length co40) : Value).ownBlock) (.slice Ao24 t260.length co24) t260) ∧ Aside0 (Kd.R k48 48 wc w.heap.size (fun k_ => some k_ ≠ ((.slice Ao33 t272.length co33) : Value).ownBlock ∧ some k_ ≠ ((.slice Ao41 t280.length co41) : Value).ownBlock) (.slice Ao25 t263.length co25) t263) ∧ Aside0 (Kd.R (Kd.int .i64) 3 wc w.heap.size (fun k_ => some k_ ≠ ((.slice Ao24 t260.length co24) : Value).ownBlock ∧ some k_ ≠ ((.slice Ao40 t277.length co40) : Value).ownBlock) (.slice Ao32 t269.length co32) t269) ∧ Aside0 (Kd.R k48 48 wc w.heap.size (fun k_ => some k_ ≠ ((.slice Ao25 t263.length co25) : Value).ownBlock ∧ some k_ ≠ ((.slice Ao41 t280.length co41) : Value).ownBlock) (.slice Ao33 t272.length co33) t272) ∧ Aside0 (Kd.R (Kd.int .i64) 3 wc w.heap.size (fun k_ => some k_ ≠ ((.slice Ao24 t260.length co24) : Value).ownBlock ∧ some k_ ≠ ((.slice Ao32 t269.length co32) : Value).ownBlock) (.slice Ao40 t277.length co40) t277) ∧ Aside0 (Kd.R k48 48 wc w.heap.size (fun k_ => some k_ ≠ ((.slice Ao25 t263.length co25) : Value).ownBlock ∧ some k_ ≠ ((.slice Ao33 t272.length co33) : Value).ownBlock) (.slice Ao41 t280.length co41) t280) ∧ Aside0 (wc.heap[gb250]? = some (.cells #[.int .i64 a0_0, (.slice A0_1 l0_1.length c0_1), (.slice A0_2 l0_2.length c0_2)] 25 (0, 0))) ∧ Aside0 (wc.heap[gb267]? = some (.cells #[.int .i64 t259, (.slice Ao24 t260.length co24), (.slice Ao25 t263.length co25)] 30 (0, 0))) ∧ Aside0 (wc.heap[gb275]? = some (.cells #[.int .i64 t268, (.slice Ao32 t269.length co32), (.slice Ao33 t272.length co33)] 30 (0, 0))) ∧ Aside0 (wc.heap[gb284]? = some (.cells #[.int .i64 t276, (.slice Ao40 t277.length co40), (.slice Ao41 t280.length co41)] 30 (0, 0))) ∧ Aside0 (Below w.heap.size w wc))
  case first =>
   have H := HC12.out
   clear HC12
   replace H := Option.bind_eq_some_iff.mp H
   obtain ⟨t285, A420, H⟩ := H
   replace H : (if t285 = true then (laws_FnExactUnpin.j0 k a1 t266 t283 (t283 != t266) a0_0 l0_1 l0_2 t259 t260 t263 t268 t269 t272 t276 t277 t280) else (laws_FnExactUnpin.j0 k a1 t266 t283 true a0_0 l0_1 l0_2 t259 t260 t263 t268 t269 t272 t276 t277 t280)) = some r := H
   have A42 := Aside0.mk A420
   clear A420
   by_cases c43 : t285 = true
   ·subst c43
    have H1 : (laws_FnExactUnpin.j0 k a1 t266 t283 (t283 != t266) a0_0 l0_1 l0_2 t259 t260 t263 t268 t269 t272 t276 t277 t280) = some r := by rw [if_pos rfl] at H; exact H
    clear H
    have H := H1
    clear H1
    have H' := Aside0.mk H
    clear H
    have hnb44 := NB284_250.out
    have hnc44 := NB250_284.out
    have hnb45 := NB284_267.out
    have hnc45 := NB267_284.out
    have hnb46 := NB284_275.out
    have hnc46 := NB275_284.out
    have hcz47_0 : w35.cell? ⟨gb284, 0, none⟩ = some (.int .i64 0) := (blk_cell BK284.out 0).trans rfl
    have hcz47_1 : w35.cell? ⟨gb284, 1, none⟩ = some (.slice none 0 0) := (blk_cell BK284.out 1).trans rfl
    have hcz47_2 : w35.cell? ⟨gb284, 2, none⟩ = some (.slice none 0 0) := (blk_cell BK284.out 2).trans rfl
    have hfz47_0 := blk_frozen BK284.out 0
    have hfz47_1 := blk_frozen BK284.out 1
    have hfz47_2 := blk_frozen BK284.out 2
    have hnb48 := NB267_250.out
    have hnc48 := NB250_267.out
    have hnb49 := NB267_275.out
    have hnc49 := NB275_267.out
    have hcz50_0 : w35.cell? ⟨gb267, 0, none⟩ = some (.int .i64 t259) := (blk_cell BK267.out 0).trans rfl
    have hcz50_1 : w35.cell? ⟨gb267, 1, none⟩ = some (.slice Ao24 t260.length co24) := (blk_cell BK267.out 1).trans rfl
    have hcz50_2 : w35.cell? ⟨gb267, 2, none⟩ = some (.slice Ao25 t263.length co25) := (blk_cell BK267.out 2).trans rfl
    have hfz50_0 := blk_frozen BK267.out 0
    have hfz50_1 := blk_frozen BK267.out 1
    have hfz50_2 := blk_frozen BK267.out 2
    go_wp2_with (first | ((with_reducible refine gate_callee (f := 15) rfl ?_); refine goesL_ (some 38) rfl rfl Try.func15 (by kernel_rfl) rfl #[.agg #[.int .i64 t276, .slice Ao40 t277.length co40, .slice Ao41 t280.length co41], .agg #[.int .i64 t259, .slice Ao24 t260.length co24, .slice Ao25 t263.length co25]] rfl q8_4 ?_; (with_reducible refine (laws_eqAges.calls k t276 _ _ t277 _ _ t280 t259 _ _ t260 _ _ t263 true _ ?side1 ?side2 ?side3 ?side4 ?side5 ?side6 ?side7 ?side8 A42.out).mono ?_); (case side1 => refine (Kd.R_reads' (e := 3) (base := w.heap.size) (ok := fun k_ => (((True ∧ some k_ ≠ (.slice Ao18 t253.length co18 : Value).ownBlock) ∧ some k_ ≠ (.slice Ao24 t260.length co24 : Value).ownBlock) ∧ some k_ ≠ (.slice Ao32 t269.length co32 : Value).ownBlock)) (n := t277.length) (c := co40) ?_).2.2; exact q8_19); (case side2 => exact (Kd.R_reads' HO279.out).2.1); (case side3 => refine (Kd.R_reads' (e := 48) (base := w.heap.size) (ok := fun k_ => (((True ∧ some k_ ≠ (.slice Ao19 t256.length co19 : Value).ownBlock) ∧ some k_ ≠ (.slice Ao25 t263.length co25 : Value).ownBlock) ∧ some k_ ≠ (.slice Ao33 t272.length co33 : Value).ownBlock)) (n := t280.length) (c := co41) ?_).2.2; exact q8_20); (case side4 => exact (Kd.R_reads' HO282.out).2.1); (case side5 => refine (Kd.R_reads' (e := 3) (base := w.heap.size) (ok := fun k_ => (((True ∧ some k_ ≠ (.slice Ao18 t253.length co18 : Value).ownBlock) ∧ some k_ ≠ (.slice Ao32 t269.length co32 : Value).ownBlock) ∧ some k_ ≠ (.slice Ao40 t277.length co40 : Value).ownBlock)) (n := t260.length) (c := co24) ?_).2.2; exact q8_21); (case side6 => exact (Kd.R_reads' HO262.out).2.1); (case side7 => refine (Kd.R_reads' (e := 48) (base := w.heap.size) (ok := fun k_ => (((True ∧ some k_ ≠ (.slice Ao19 t256.length co19 : Value).ownBlock) ∧ some k_ ≠ (.slice Ao33 t272.length co33 : Value).ownBlock) ∧ some k_ ≠ (.slice Ao41 t280.length co41 : Value).ownBlock)) (n := t263.length) (c := co25) ?_).2.2; exact q8_22); (case side8 => exact (Kd.R_reads' HO265.out).2.1); rintro e w51 ⟨rfl, hb⟩; refine ⟨_, rfl, ?_⟩; have n0_ := Aside0.mk (Kd.R_below q8_59 hb); have n1_ := Aside0.mk (Kd.R_below (by (with_reducible repeat (first | apply Kd.R_alloc | apply Kd.R_drewN | apply Kd.R_drew)); exact (Kd.R_mono (Kd.R_far (p := ⟨gb284, 2, none⟩) (Kd.R_far (p := ⟨gb284, 1, none⟩) (Kd.R_far (p := ⟨gb284, 0, none⟩) (Kd.R_types HO258.out BK284.out q8_44) (fun _ hk => hk.2) (.int .i64 t276)) (fun _ hk => hk.2) (.slice Ao40 t277.length co40)) (fun _ hk => hk.2) (.slice Ao41 t280.length co41)) (fun _ h_ => h_.1))) hb); have n2_ := Aside0.mk (Kd.R_below q8_21 hb); have n3_ := Aside0.mk (Kd.R_below q8_22 hb); have n4_ := Aside0.mk (Kd.R_below (by (with_reducible repeat (first | apply Kd.R_alloc | apply Kd.R_drewN | apply Kd.R_drew)); exact (Kd.R_mono (Kd.R_far (p := ⟨gb284, 2, none⟩) (Kd.R_far (p := ⟨gb284, 1, none⟩) (Kd.R_far (p := ⟨gb284, 0, none⟩) (Kd.R_types HO271.out BK284.out q8_44) (fun _ hk => hk.2) (.int .i64 t276)) (fun _ hk => hk.2) (.slice Ao40 t277.length co40)) (fun _ hk => hk.2) (.slice Ao41 t280.length co41)) (fun _ h_ => h_.1))) hb); have n5_ := Aside0.mk (Kd.R_below (by (with_reducible repeat (first | apply Kd.R_alloc | apply Kd.R_drewN | apply Kd.R_drew)); exact (Kd.R_mono (Kd.R_far (p := ⟨gb284, 2, none⟩) (Kd.R_far (p := ⟨gb284, 1, none⟩) (Kd.R_far (p := ⟨gb284, 0, none⟩) (Kd.R_types HO274.out BK284.out q8_44) (fun _ hk => hk.2) (.int .i64 t276)) (fun _ hk => hk.2) (.slice Ao40 t277.length co40)) (fun _ hk => hk.2) (.slice Ao41 t280.length co41)) (fun _ h_ => h_.1))) hb); have n6_ := Aside0.mk (Kd.R_below q8_19 hb); have n7_ := Aside0.mk (Kd.R_below q8_20 hb); have n8_ := Aside0.mk (blk_below (g := gb250) (o := .cells #[.int .i64 a0_0, .slice A0_1 l0_1.length c0_1, .slice A0_2 l0_2.length c0_2] 25 (0, 0)) q8_35 hb); have n9_ := Aside0.mk (blk_below (g := gb267) (o := .cells #[.int .i64 t259, .slice Ao24 t260.length co24, .slice Ao25 t263.length co25] 30 (0, 0)) q8_36 hb); have n10_ := Aside0.mk (blk_below (g := gb275) (o := .cells #[.int .i64 t268, .slice Ao32 t269.length co32, .slice Ao33 t272.length co33] 30 (0, 0)) q8_37 hb); have n11_ := Aside0.mk (blk_below (g := gb284) (o := .cells #[.int .i64 t276, .slice Ao40 t277.length co40, .slice Ao41 t280.length co41] 30 (0, 0)) q8_32 hb); have n12_ := Aside0.mk (below_step q8_0 hb); clear HO255; clear HO258; clear HO262; clear HO265; clear HO271; clear HO274; clear HO279; clear HO282; clear BK250; clear BK267; clear BK275; clear BK284; clear HB; have HO255 := n0_; have HO258 := n1_; have HO262 := n2_; have HO265 := n3_; have HO271 := n4_; have HO274 := n5_; have HO279 := n6_; have HO282 := n7_; have BK250 := n8_; have BK267 := n9_; have BK275 := n10_; have BK284 := n11_; have HB := n12_; clear n0_ n1_ n2_ n3_ n4_ n5_ n6_ n7_ n8_ n9_ n10_ n11_ n12_; (try clear hb); (try clear hb2); (try clear hk); (try clear hi)))
    go_meet
    case rel => exact ⟨_, ((t283 != t266)), (by first | rfl | (simp; done) | (simp [*]; done)), H', ⟨by first | omega | exact Nat.le_refl _⟩, ⟨by (with_reducible repeat (first | apply Kd.R_alloc | apply Kd.R_drewN | apply Kd.R_drew)); exact Kd.R_mono HO262.out (fun _ hk => ⟨hk.1.2, hk.2⟩)⟩, ⟨by (with_reducible repeat (first | apply Kd.R_alloc | apply Kd.R_drewN | apply Kd.R_drew)); exact Kd.R_mono HO265.out (fun _ hk => ⟨hk.1.2, hk.2⟩)⟩, ⟨by (with_reducible repeat (first | apply Kd.R_alloc | apply Kd.R_drewN | apply Kd.R_drew)); exact Kd.R_mono HO271.out (fun _ hk => ⟨hk.1.2, hk.2⟩)⟩, ⟨by (with_reducible repeat (first | apply Kd.R_alloc | apply Kd.R_drewN | apply Kd.R_drew)); exact Kd.R_mono HO274.out (fun _ hk => ⟨hk.1.2, hk.2⟩)⟩, ⟨by (with_reducible repeat (first | apply Kd.R_alloc | apply Kd.R_drewN | apply Kd.R_drew)); exact Kd.R_mono HO279.out (fun _ hk => ⟨hk.1.2, hk.2⟩)⟩, ⟨by (with_reducible repeat (first | apply Kd.R_alloc | apply Kd.R_drewN | apply Kd.R_drew)); exact Kd.R_mono HO282.out (fun _ hk => ⟨hk.1.2, hk.2⟩)⟩, ⟨q8_1⟩, ⟨q8_2⟩, ⟨q8_3⟩, ⟨q8_5⟩, ⟨q8_0⟩⟩
   ·replace c43 := Bool.eq_false_iff.mpr c43
    subst c43
    have H1 : (laws_FnExactUnpin.j0 k a1 t266 t283 true a0_0 l0_1 l0_2 t259 t260 t263 t268 t269 t272 t276 t277 t280) = some r := by rw [if_neg (show ¬ (false = true) by decide)] at H; exact H
    clear H
    have H := H1
    clear H1
    have H' := Aside0.mk H
    clear H
    have hnb52 := NB284_250.out
    have hnc52 := NB250_284.out
    have hnb53 := NB284_267.out
    have hnc53 := NB267_284.out
    have hnb54 := NB284_275.out
    have hnc54 := NB275_284.out
    have hcz55_0 : w35.cell? ⟨gb284, 0, none⟩ = some (.int .i64 0) := (blk_cell BK284.out 0).trans rfl
    have hcz55_1 : w35.cell? ⟨gb284, 1, none⟩ = some (.slice none 0 0) := (blk_cell BK284.out 1).trans rfl
    have hcz55_2 : w35.cell? ⟨gb284, 2, none⟩ = some (.slice none 0 0) := (blk_cell BK284.out 2).trans rfl
    have hfz55_0 := blk_frozen BK284.out 0
    have hfz55_1 := blk_frozen BK284.out 1
    have hfz55_2 := blk_frozen BK284.out 2
    have hnb56 := NB267_250.out
    have hnc56 := NB250_267.out
    have hnb57 := NB267_275.out
    have hnc57 := NB275_267.out
    have hcz58_0 : w35.cell? ⟨gb267, 0, none⟩ = some (.int .i64 t259) := (blk_cell BK267.out 0).trans rfl
    have hcz58_1 : w35.cell? ⟨gb267, 1, none⟩ = some (.slice Ao24 t260.length co24) := (blk_cell BK267.out 1).trans rfl
    have hcz58_2 : w35.cell? ⟨gb267, 2, none⟩ = some (.slice Ao25 t263.length co25) := (blk_cell BK267.out 2).trans rfl
    have hfz58_0 := blk_frozen BK267.out 0
    have hfz58_1 := blk_frozen BK267.out 1
    have hfz58_2 := blk_frozen BK267.out 2
    go_wp2_with (first | ((with_reducible refine gate_callee (f := 15) rfl ?_); refine goesL_ (some 38) rfl rfl Try.func15 (by kernel_rfl) rfl #[.agg #[.int .i64 t276, .slice Ao40 t277.length co40, .slice Ao41 t280.length co41], .agg #[.int .i64 t259, .slice Ao24 t260.length co24, .slice Ao25 t263.length co25]] rfl q8_4 ?_; (with_reducible refine (laws_eqAges.calls k t276 _ _ t277 _ _ t280 t259 _ _ t260 _ _ t263 false _ ?side1 ?side2 ?side3 ?side4 ?side5 ?side6 ?side7 ?side8 A42.out).mono ?_); (case side1 => refine (Kd.R_reads' (e := 3) (base := w.heap.size) (ok := fun k_ => (((True ∧ some k_ ≠ (.slice Ao18 t253.length co18 : Value).ownBlock) ∧ some k_ ≠ (.slice Ao24 t260.length co24 : Value).ownBlock) ∧ some k_ ≠ (.slice Ao32 t269.length co32 : Value).ownBlock)) (n := t277.length) (c := co40) ?_).2.2; exact q8_19); (case side2 => exact (Kd.R_reads' HO279.out).2.1); (case side3 => refine (Kd.R_reads' (e := 48) (base := w.heap.size) (ok := fun k_ => (((True ∧ some k_ ≠ (.slice Ao19 t256.length co19 : Value).ownBlock) ∧ some k_ ≠ (.slice Ao25 t263.length co25 : Value).ownBlock) ∧ some k_ ≠ (.slice Ao33 t272.length co33 : Value).ownBlock)) (n := t280.length) (c := co41) ?_).2.2; exact q8_20); (case side4 => exact (Kd.R_reads' HO282.out).2.1); (case side5 => refine (Kd.R_reads' (e := 3) (base := w.heap.size) (ok := fun k_ => (((True ∧ some k_ ≠ (.slice Ao18 t253.length co18 : Value).ownBlock) ∧ some k_ ≠ (.slice Ao32 t269.length co32 : Value).ownBlock) ∧ some k_ ≠ (.slice Ao40 t277.length co40 : Value).ownBlock)) (n := t260.length) (c := co24) ?_).2.2; exact q8_21); (case side6 => exact (Kd.R_reads' HO262.out).2.1); (case side7 => refine (Kd.R_reads' (e := 48) (base := w.heap.size) (ok := fun k_ => (((True ∧ some k_ ≠ (.slice Ao19 t256.length co19 : Value).ownBlock) ∧ some k_ ≠ (.slice Ao33 t272.length co33 : Value).ownBlock) ∧ some k_ ≠ (.slice Ao41 t280.length co41 : Value).ownBlock)) (n := t263.length) (c := co25) ?_).2.2; exact q8_22); (case side8 => exact (Kd.R_reads' HO265.out).2.1); rintro e w59 ⟨rfl, hb⟩; refine ⟨_, rfl, ?_⟩; have n0_ := Aside0.mk (Kd.R_below q8_59 hb); have n1_ := Aside0.mk (Kd.R_below (by (with_reducible repeat (first | apply Kd.R_alloc | apply Kd.R_drewN | apply Kd.R_drew)); exact (Kd.R_mono (Kd.R_far (p := ⟨gb284, 2, none⟩) (Kd.R_far (p := ⟨gb284, 1, none⟩) (Kd.R_far (p := ⟨gb284, 0, none⟩) (Kd.R_types HO258.out BK284.out q8_44) (fun _ hk => hk.2) (.int .i64 t276)) (fun _ hk => hk.2) (.slice Ao40 t277.length co40)) (fun _ hk => hk.2) (.slice Ao41 t280.length co41)) (fun _ h_ => h_.1))) hb); have n2_ := Aside0.mk (Kd.R_below q8_21 hb); have n3_ := Aside0.mk (Kd.R_below q8_22 hb); have n4_ := Aside0.mk (Kd.R_below (by (with_reducible repeat (first | apply Kd.R_alloc | apply Kd.R_drewN | apply Kd.R_drew)); exact (Kd.R_mono (Kd.R_far (p := ⟨gb284, 2, none⟩) (Kd.R_far (p := ⟨gb284, 1, none⟩) (Kd.R_far (p := ⟨gb284, 0, none⟩) (Kd.R_types HO271.out BK284.out q8_44) (fun _ hk => hk.2) (.int .i64 t276)) (fun _ hk => hk.2) (.slice Ao40 t277.length co40)) (fun _ hk => hk.2) (.slice Ao41 t280.length co41)) (fun _ h_ => h_.1))) hb); have n5_ := Aside0.mk (Kd.R_below (by (with_reducible repeat (first | apply Kd.R_alloc | apply Kd.R_drewN | apply Kd.R_drew)); exact (Kd.R_mono (Kd.R_far (p := ⟨gb284, 2, none⟩) (Kd.R_far (p := ⟨gb284, 1, none⟩) (Kd.R_far (p := ⟨gb284, 0, none⟩) (Kd.R_types HO274.out BK284.out q8_44) (fun _ hk => hk.2) (.int .i64 t276)) (fun _ hk => hk.2) (.slice Ao40 t277.length co40)) (fun _ hk => hk.2) (.slice Ao41 t280.length co41)) (fun _ h_ => h_.1))) hb); have n6_ := Aside0.mk (Kd.R_below q8_19 hb); have n7_ := Aside0.mk (Kd.R_below q8_20 hb); have n8_ := Aside0.mk (blk_below (g := gb250) (o := .cells #[.int .i64 a0_0, .slice A0_1 l0_1.length c0_1, .slice A0_2 l0_2.length c0_2] 25 (0, 0)) q8_35 hb); have n9_ := Aside0.mk (blk_below (g := gb267) (o := .cells #[.int .i64 t259, .slice Ao24 t260.length co24, .slice Ao25 t263.length co25] 30 (0, 0)) q8_36 hb); have n10_ := Aside0.mk (blk_below (g := gb275) (o := .cells #[.int .i64 t268, .slice Ao32 t269.length co32, .slice Ao33 t272.length co33] 30 (0, 0)) q8_37 hb); have n11_ := Aside0.mk (blk_below (g := gb284) (o := .cells #[.int .i64 t276, .slice Ao40 t277.length co40, .slice Ao41 t280.length co41] 30 (0, 0)) q8_32 hb); have n12_ := Aside0.mk (below_step q8_0 hb); clear HO255; clear HO258; clear HO262; clear HO265; clear HO271; clear HO274; clear HO279; clear HO282; clear BK250; clear BK267; clear BK275; clear BK284; clear HB; have HO255 := n0_; have HO258 := n1_; have HO262 := n2_; have HO265 := n3_; have HO271 := n4_; have HO274 := n5_; have HO279 := n6_; have HO282 := n7_; have BK250 := n8_; have BK267 := n9_; have BK275 := n10_; have BK284 := n11_; have HB := n12_; clear n0_ n1_ n2_ n3_ n4_ n5_ n6_ n7_ n8_ n9_ n10_ n11_ n12_; (try clear hb); (try clear hb2); (try clear hk); (try clear hi)))
    go_meet
    case rel => exact ⟨_, (true), (by first | rfl | (simp; done) | (simp [*]; done)), H', ⟨by first | omega | exact Nat.le_refl _⟩, ⟨by (with_reducible repeat (first | apply Kd.R_alloc | apply Kd.R_drewN | apply Kd.R_drew)); exact Kd.R_mono HO262.out (fun _ hk => ⟨hk.1.2, hk.2⟩)⟩, ⟨by (with_reducible repeat (first | apply Kd.R_alloc | apply Kd.R_drewN | apply Kd.R_drew)); exact Kd.R_mono HO265.out (fun _ hk => ⟨hk.1.2, hk.2⟩)⟩, ⟨by (with_reducible repeat (first | apply Kd.R_alloc | apply Kd.R_drewN | apply Kd.R_drew)); exact Kd.R_mono HO271.out (fun _ hk => ⟨hk.1.2, hk.2⟩)⟩, ⟨by (with_reducible repeat (first | apply Kd.R_alloc | apply Kd.R_drewN | apply Kd.R_drew)); exact Kd.R_mono HO274.out (fun _ hk => ⟨hk.1.2, hk.2⟩)⟩, ⟨by (with_reducible repeat (first | apply Kd.R_alloc | apply Kd.R_drewN | apply Kd.R_drew)); exact Kd.R_mono HO279.out (fun _ hk => ⟨hk.1.2, hk.2⟩)⟩, ⟨by (with_reducible repeat (first | apply Kd.R_alloc | apply Kd.R_drewN | apply Kd.R_drew)); exact Kd.R_mono HO282.out (fun _ hk => ⟨hk.1.2, hk.2⟩)⟩, ⟨q8_1⟩, ⟨q8_2⟩, ⟨q8_3⟩, ⟨q8_5⟩, ⟨q8_0⟩⟩
  case rest =>
   clear HC12
   (try clear c1); (try clear c2); (try clear p2); (try clear c3); (try clear c4); (try clear c4b0); (try clear c5); (try clear c6); (try clear c11); (try clear c13); (try clear c15); (try clear c22); (try clear c23); (try clear c29); (try clear c30); (try clear c36); (try clear c37); (try clear c38); (try clear c43); (try clear c44); (try clear c45); (try clear c46); (try clear c48); (try clear c49); (try clear c52); (try clear c53); (try clear c54); (try clear c56); (try clear c57); (try clear hcz14_0); (try clear hcz14_1); (try clear hcz14_2); (try clear hcz16_0); (try clear hcz16_1); (try clear hcz16_2); (try clear hcz23_0); (try clear hcz23_1); (try clear hcz23_2); (try clear hcz26_0); (try clear hcz26_1); (try clear hcz26_2); (try clear hcz31_0); (try clear hcz31_1); (try clear hcz31_2); (try clear hcz39_0); (try clear hcz39_1); (try clear hcz39_2); (try clear hcz47_0); (try clear hcz47_1); (try clear hcz47_2); (try clear hcz50_0); (try clear hcz50_1); (try clear hcz50_2); (try clear hcz55_0); (try clear hcz55_1); (try clear hcz55_2); (try clear hcz58_0); (try clear hcz58_1); (try clear hcz58_2); (try clear hcz6_0); (try clear hcz6_1); (try clear hcz6_2); (try clear hfz14_0); (try clear hfz14_1); (try clear hfz14_2); (try clear hfz16_0); (try clear hfz16_1); (try clear hfz16_2); (try clear hfz23_0); (try clear hfz23_1); (try clear hfz23_2); (try clear hfz26_0); (try clear hfz26_1); (try clear hfz26_2); (try clear hfz31_0); (try clear hfz31_1); (try clear hfz31_2); (try clear hfz39_0); (try clear hfz39_1); (try clear hfz39_2); (try clear hfz47_0); (try clear hfz47_1); (try clear hfz47_2); (try clear hfz50_0); (try clear hfz50_1); (try clear hfz50_2); (try clear hfz55_0); (try clear hfz55_1); (try clear hfz55_2); (try clear hfz58_0); (try clear hfz58_1); (try clear hfz58_2); (try clear hfz6_0); (try clear hfz6_1); (try clear hfz6_2)
   obtain ⟨kq, x44_11, rfl, HA, HJ11, HO_268001, HO_268002, HO_276001, HO_276002, HO_285001, HO_285002, BK250, BK267, BK275, BK284, HB⟩ := hcut
   cases kq with
   | zero => exact absurd HA.out (by simp [laws_FnExactUnpin.j0])
   | succ kj11 =>
    have H := HA.out
    clear HA
    simp only [laws_FnExactUnpin.j0] at H
    by_cases c60 : x44_11 = true
    ·subst c60
     have H1 : (some false) = some r := by rw [if_pos rfl] at H; exact H
     clear H
     have H := H1
     clear H1
     obtain rfl := Option.some.inj H
     go_wp2
     go_ret
     exact ⟨q8_30, q8_0⟩
    ·replace c60 := Bool.eq_false_iff.mpr c60
     subst c60
     have H1 : ((laws_toAges.f kj11 a0_0 l0_1 l0_2).bind fun bt286 => ((laws_eqAges.f kj11 t268 t269 t272 bt286.1 bt286.2.1 bt286.2.2).bind fun t293 => (if t293 = true then ((laws_markAges.f kj11 t268 t269 t272 1).bind fun bt294 => (if bt294.1 < 0 then (laws_FnExactUnpin.j1 kj11 a1 t266 true a0_0 l0_1 l0_2 t259 t260 t263 t276 t277 t280) else ((laws_eqAges.f kj11 t276 t277 t280 t259 t260 t263).bind fun t297 => (if t297 = true then (laws_FnExactUnpin.j1 kj11 a1 t266 (t283 != t266) a0_0 l0_1 l0_2 t259 t260 t263 t276 t277 t280) else (laws_FnExactUnpin.j1 kj11 a1 t266 true a0_0 l0_1 l0_2 t259 t260 t263 t276 t277 t280))))) else (some false)))) = some r := by rw [if_neg (show ¬ (false = true) by decide)] at H; exact H
     clear H
     have H := H1
     clear H1
     replace H := Option.bind_eq_some_iff.mp H
     obtain ⟨⟨t286, t287, t290⟩, A610, H⟩ := H
     replace H : ((laws_eqAges.f kj11 t268 t269 t272 t286 t287 t290).bind fun t293 => (if t293 = true then ((laws_markAges.f kj11 t268 t269 t272 1).bind fun bt294 => (if bt294.1 < 0 then (laws_FnExactUnpin.j1 kj11 a1 t266 true a0_0 l0_1 l0_2 t259 t260 t263 t276 t277 t280) else ((laws_eqAges.f kj11 t276 t277 t280 t259 t260 t263).bind fun t297 => (if t297 = true then (laws_FnExactUnpin.j1 kj11 a1 t266 (t283 != t266) a0_0 l0_1 l0_2 t259 t260 t263 t276 t277 t280) else (laws_FnExactUnpin.j1 kj11 a1 t266 true a0_0 l0_1 l0_2 t259 t260 t263 t276 t277 t280))))) else (some false))) = some r := H
     have A61 := Aside0.mk A610
     clear A610
     replace H := Option.bind_eq_some_iff.mp H
     obtain ⟨t293, A620, H⟩ := H
     replace H : (if t293 = true then ((laws_markAges.f kj11 t268 t269 t272 1).bind fun bt294 => (if bt294.1 < 0 then (laws_FnExactUnpin.j1 kj11 a1 t266 true a0_0 l0_1 l0_2 t259 t260 t263 t276 t277 t280) else ((laws_eqAges.f kj11 t276 t277 t280 t259 t260 t263).bind fun t297 => (if t297 = true then (laws_FnExactUnpin.j1 kj11 a1 t266 (t283 != t266) a0_0 l0_1 l0_2 t259 t260 t263 t276 t277 t280) else (laws_FnExactUnpin.j1 kj11 a1 t266 true a0_0 l0_1 l0_2 t259 t260 t263 t276 t277 t280))))) else (some false)) = some r := H
     have A62 := Aside0.mk A620
     clear A620
     by_cases c63 : t293 = true
     ·subst c63
      have H1 : ((laws_markAges.f kj11 t268 t269 t272 1).bind fun bt294 => (if bt294.1 < 0 then (laws_FnExactUnpin.j1 kj11 a1 t266 true a0_0 l0_1 l0_2 t259 t260 t263 t276 t277 t280) else ((laws_eqAges.f kj11 t276 t277 t280 t259 t260 t263).bind fun t297 => (if t297 = true then (laws_FnExactUnpin.j1 kj11 a1 t266 (t283 != t266) a0_0 l0_1 l0_2 t259 t260 t263 t276 t277 t280) else (laws_FnExactUnpin.j1 kj11 a1 t266 true a0_0 l0_1 l0_2 t259 t260 t263 t276 t277 t280))))) = some r := by rw [if_pos rfl] at H; exact H
      clear H
      have H := H1
      clear H1
      replace H := Option.bind_eq_some_iff.mp H
      obtain ⟨⟨t294, t295, t296⟩, A640, H⟩ := H
      replace H : (if t294 < 0 then (laws_FnExactUnpin.j1 kj11 a1 t266 true a0_0 l0_1 l0_2 t259 t260 t263 t276 t277 t280) else ((laws_eqAges.f kj11 t276 t277 t280 t259 t260 t263).bind fun t297 => (if t297 = true then (laws_FnExactUnpin.j1 kj11 a1 t266 (t283 != t266) a0_0 l0_1 l0_2 t259 t260 t263 t276 t277 t280) else (laws_FnExactUnpin.j1 kj11 a1 t266 true a0_0 l0_1 l0_2 t259 t260 t263 t276 t277 t280)))) = some r := H
      have A64 := Aside0.mk A640
      clear A640
      have HC65 := Aside0.mk H
      clear H
      try go_wp2
      have n0_ := Aside0.mk (Kd.R_drew HO_268001.out)
      have n1_ := Aside0.mk (Kd.R_drew HO_268002.out)
      have n2_ := Aside0.mk (Kd.R_drew HO_276001.out)
      have n3_ := Aside0.mk (Kd.R_drew HO_276002.out)
      have n4_ := Aside0.mk (Kd.R_drew HO_285001.out)
      have n5_ := Aside0.mk (Kd.R_drew HO_285002.out)
      have n6_ := Aside0.mk (blk_drew BK250.out)
      have n7_ := Aside0.mk (blk_drew BK267.out)
      have n8_ := Aside0.mk (blk_drew BK275.out)
      have n9_ := Aside0.mk (blk_drew BK284.out)
      have n10_ := Aside0.mk (below_drew1 HB.out)
      clear HO_268001
      clear HO_268002
      clear HO_276001
      clear HO_276002
      clear HO_285001
      clear HO_285002
      clear BK250
      clear BK267
      clear BK275
      clear BK284
      clear HB
      have HO_268001 := n0_
      have HO_268002 := n1_
      have HO_276001 := n2_
      have HO_276002 := n3_
      have HO_285001 := n4_
      have HO_285002 := n5_
      have BK250 := n6_
      have BK267 := n7_
      have BK275 := n8_
      have BK284 := n9_
      have HB := n10_
      clear n0_ n1_ n2_ n3_ n4_ n5_ n6_ n7_ n8_ n9_ n10_
      refine start_ (n := 5) (S := fun w' => w'.cell? ⟨gb275, 0, none⟩ = some (.int .i64 t268) ∧ w'.cell? ⟨gb275, 1, none⟩ = some (.slice Ao32 t269.length co32) ∧ w'.cell? ⟨gb275, 2, none⟩ = some (.slice Ao33 t272.length co33) ∧ w'.cell? ⟨gb250, 0, none⟩ = some (.int .i64 a0_0) ∧ w'.cell? ⟨gb250, 1, none⟩ = some (.slice A0_1 l0_1.length c0_1) ∧ w'.cell? ⟨gb250, 2, none⟩ = some (.slice A0_2 l0_2.length c0_2)) (ds := []) #[F,F,F,F,F] (by kernel_rfl) rfl rfl ⟨(blk_cell BK275.out 0).trans rfl, (blk_cell BK275.out 1).trans rfl, (blk_cell BK275.out 2).trans rfl, (blk_cell BK250.out 0).trans rfl, (blk_cell BK250.out 1).trans rfl, (blk_cell BK250.out 2).trans rfl⟩ (fun hHeld => ?_)
      generalize wc.drew = w66 at HO_268001 HO_268002 HO_276001 HO_276002 HO_285001 HO_285002 BK250 BK267 BK275 BK284 HB hHeld ⊢
      refine take_ (i := 0) (N := some 45) (v := ?_) (a' := ?_) #[T,F,F,F,F] rfl rfl (by kernel_rfl) (fun _ _ _ h => h) (Or.inl ⟨by rfl, ?_⟩) hHeld ?_ ?_
      rotate_left
      ·rintro w' ⟨s0, s1, s2, s3, s4, s5⟩
       go_simp
       with_reducible rfl
      rotate_left
      ·simp only [Act.put, List.setIfInBounds_toArray, List.set_cons_zero, List.set_cons_succ, i64_w, i32_w]
       rfl
      refine take_ (i := 1) (N := some 46) (v := ?_) (a' := ?_) #[T,T,F,F,F] rfl rfl (by kernel_rfl) (fun _ _ _ h => h) (Or.inl ⟨by rfl, ?_⟩) hHeld ?_ ?_
      rotate_left
      ·rintro w' ⟨s0, s1, s2, s3, s4, s5⟩
       go_simp
       with_reducible rfl
      rotate_left
      ·simp only [Act.put, List.setIfInBounds_toArray, List.set_cons_zero, List.set_cons_succ, i64_w, i32_w]
       rfl
      refine one_ (i := 2) (N := some 47) #[T,T,T,F,F] rfl rfl (by kernel_rfl) q8_44 (fun K hK => ?_)
      refine goes_ Try.func13 (by kernel_rfl) rfl #[.agg #[.int .i64 a0_0, .slice A0_1 l0_1.length c0_1, .slice A0_2 l0_2.length c0_2]] (by rfl) rfl rfl q8_4 ?_
      with_reducible refine (laws_toAges.calls kj11 a0_0 _ _ l0_1 _ _ l0_2 t286 t287 t290 _ ?side1 ?side2 ?side3 ?side4 A61.out).mono ?_
      (case side1 => exact q8_26)
      (case side2 => exact HC0_1.out)
      (case side3 => exact q8_27)
      (case side4 => exact HC0_2.out)
      rintro e w67 ⟨v288, v291, rfl, ho0, ho1, hb⟩
      refine ⟨_, rfl, ?_⟩
      have n0_ := Aside0.mk (Kd.R_elder' q8_7 (Kd.R_base ho0) hb)
      have n1_ := Aside0.mk (Kd.R_elder' q8_8 (Kd.R_base ho1) hb)
      have n2_ := Aside0.mk (Kd.R_elder' q8_9 (Kd.R_base ho0) hb)
      have n3_ := Aside0.mk (Kd.R_elder' q8_10 (Kd.R_base ho1) hb)
      have n4_ := Aside0.mk (Kd.R_elder' q8_11 (Kd.R_base ho0) hb)
      have n5_ := Aside0.mk (Kd.R_elder' q8_12 (Kd.R_base ho1) hb)
      have n6_ := Aside0.mk (Kd.R_lower (Kd.R_new' (Kd.R_new' (Kd.R_new' ho0 (Kd.R_lt q8_7)) (Kd.R_lt q8_9)) (Kd.R_lt q8_11)) (below_size q8_0))
      have n7_ := Aside0.mk (Kd.R_lower (Kd.R_new' (Kd.R_new' (Kd.R_new' ho1 (Kd.R_lt q8_8)) (Kd.R_lt q8_10)) (Kd.R_lt q8_12)) (below_size q8_0))
      have n8_ := Aside0.mk (blk_below (g := gb250) (o := .cells #[.int .i64 a0_0, .slice A0_1 l0_1.length c0_1, .slice A0_2 l0_2.length c0_2] 25 (0, 0)) q8_1 hb)
      have n9_ := Aside0.mk (blk_below (g := gb267) (o := .cells #[.int .i64 t259, .slice Ao24 t260.length co24, .slice Ao25 t263.length co25] 30 (0, 0)) q8_2 hb)
      have n10_ := Aside0.mk (blk_below (g := gb275) (o := .cells #[.int .i64 t268, .slice Ao32 t269.length co32, .slice Ao33 t272.length co33] 30 (0, 0)) q8_3 hb)
      have n11_ := Aside0.mk (blk_below (g := gb284) (o := .cells #[.int .i64 t276, .slice Ao40 t277.length co40, .slice Ao41 t280.length co41] 30 (0, 0)) q8_5 hb)
      have n12_ := Aside0.mk (below_step q8_0 hb)
      clear HO_268001
      clear HO_268002
      clear HO_276001
      clear HO_276002
      clear HO_285001
      clear HO_285002
      clear BK250
      clear BK267
      clear BK275
      clear BK284
      clear HB
      have HO_268001 := n0_
      have HO_268002 := n1_
      have HO_276001 := n2_
      have HO_276002 := n3_
      have HO_285001 := n4_
      have HO_285002 := n5_
      have HO289 := n6_
      have HO292 := n7_
      have BK250 := n8_
      have BK267 := n9_
      have BK275 := n10_
      have BK284 := n11_
      have HB := n12_
      clear n0_ n1_ n2_ n3_ n4_ n5_ n6_ n7_ n8_ n9_ n10_ n11_ n12_
      (try clear hb)
      (try clear hb2)
      (try clear hk)
      (try clear hi)
      (try clear ho0)
      (try clear ho1)
      obtain ⟨Ao68, co68, eo68⟩ := Kd.R_slice HO289.out
      (first | subst eo68 | (injection eo68 with f1_ f2_ f3_; have f4_ := f1_.symm; have f5_ := f3_.symm; clear f1_ f2_ f3_; subst f4_; subst f5_))
      obtain ⟨Ao69, co69, eo69⟩ := Kd.R_slice HO292.out
      (first | subst eo69 | (injection eo69 with f1_ f2_ f3_; have f4_ := f1_.symm; have f5_ := f3_.symm; clear f1_ f2_ f3_; subst f4_; subst f5_))
      refine hK.out _ _ ⟨(blk_cell BK275.out 0).trans rfl, (blk_cell BK275.out 1).trans rfl, (blk_cell BK275.out 2).trans rfl, (blk_cell BK250.out 0).trans rfl, (blk_cell BK250.out 1).trans rfl, (blk_cell BK250.out 2).trans rfl⟩ (fun hHeld => ?_)
      clear hK K
      refine norm_ (a' := ?_) ?_ ?_
      rotate_left
      ·show Act.put _ (some 47) _ = _
       simp only [Act.put, List.setIfInBounds_toArray, List.set_cons_zero, List.set_cons_succ, i64_w, i32_w]
       rfl
      refine one_ (i := 3) (N := some 48) #[T,T,T,T,F] rfl rfl (by kernel_rfl) q8_44 (fun K hK => ?_)
      refine goes_ Try.func15 (by kernel_rfl) rfl #[.agg #[.int .i64 t268, .slice Ao32 t269.length co32, .slice Ao33 t272.length co33], .agg #[.int .i64 t286, .slice Ao68 t287.length co68, .slice Ao69 t290.length co69]] (by rfl) rfl rfl q8_4 ?_
      with_reducible refine (laws_eqAges.calls kj11 t268 _ _ t269 _ _ t272 t286 _ _ t287 _ _ t290 true _ ?side1 ?side2 ?side3 ?side4 ?side5 ?side6 ?side7 ?side8 A62.out).mono ?_
      (case side1 => repeat (first | exact (Kd.R_reads' HO_276001.out).2.2 | (with_reducible refine Kd.C_alloc ?_ _) | (with_reducible refine Kd.C_drewN ?_ _) | (with_reducible refine Kd.C_drew ?_)))
      (case side2 => exact (Kd.R_reads' HO_276001.out).2.1)
      (case side3 => repeat (first | exact (Kd.R_reads' HO_276002.out).2.2 | (with_reducible refine Kd.C_alloc ?_ _) | (with_reducible refine Kd.C_drewN ?_ _) | (with_reducible refine Kd.C_drew ?_)))
      (case side4 => exact (Kd.R_reads' HO_276002.out).2.1)
      (case side5 => repeat (first | exact (Kd.R_reads' HO289.out).2.2 | (with_reducible refine Kd.C_alloc ?_ _) | (with_reducible refine Kd.C_drewN ?_ _) | (with_reducible refine Kd.C_drew ?_)))
      (case side6 => exact (Kd.R_reads' HO289.out).2.1)
      (case side7 => repeat (first | exact (Kd.R_reads' HO292.out).2.2 | (with_reducible refine Kd.C_alloc ?_ _) | (with_reducible refine Kd.C_drewN ?_ _) | (with_reducible refine Kd.C_drew ?_)))
      (case side8 => exact (Kd.R_reads' HO292.out).2.1)
      rintro e w70 ⟨rfl, hb⟩
      refine ⟨_, rfl, ?_⟩
      have n0_ := Aside0.mk (Kd.R_below q8_7 hb)
      have n1_ := Aside0.mk (Kd.R_below q8_8 hb)
      have n2_ := Aside0.mk (Kd.R_below q8_9 hb)
      have n3_ := Aside0.mk (Kd.R_below q8_10 hb)
      have n4_ := Aside0.mk (Kd.R_below q8_11 hb)
      have n5_ := Aside0.mk (Kd.R_below q8_12 hb)
      have n6_ := Aside0.mk (Kd.R_below (by (with_reducible repeat (first | apply Kd.R_alloc | apply Kd.R_drewN | apply Kd.R_drew)); exact HO289.out) hb)
      have n7_ := Aside0.mk (Kd.R_below (by (with_reducible repeat (first | apply Kd.R_alloc | apply Kd.R_drewN | apply Kd.R_drew)); exact HO292.out) hb)
      have n8_ := Aside0.mk (blk_below (g := gb250) (o := .cells #[.int .i64 a0_0, .slice A0_1 l0_1.length c0_1, .slice A0_2 l0_2.length c0_2] 25 (0, 0)) q8_1 hb)
      have n9_ := Aside0.mk (blk_below (g := gb267) (o := .cells #[.int .i64 t259, .slice Ao24 t260.length co24, .slice Ao25 t263.length co25] 30 (0, 0)) q8_2 hb)
      have n10_ := Aside0.mk (blk_below (g := gb275) (o := .cells #[.int .i64 t268, .slice Ao32 t269.length co32, .slice Ao33 t272.length co33] 30 (0, 0)) q8_3 hb)
      have n11_ := Aside0.mk (blk_below (g := gb284) (o := .cells #[.int .i64 t276, .slice Ao40 t277.length co40, .slice Ao41 t280.length co41] 30 (0, 0)) q8_5 hb)
      have n12_ := Aside0.mk (below_step q8_0 hb)
      clear HO_268001
      clear HO_268002
      clear HO_276001
      clear HO_276002
      clear HO_285001
      clear HO_285002
      clear HO289
      clear HO292
      clear BK250
      clear BK267
      clear BK275
      clear BK284
      clear HB
      have HO_268001 := n0_
      have HO_268002 := n1_
      have HO_276001 := n2_
      have HO_276002 := n3_
      have HO_285001 := n4_
      have HO_285002 := n5_
      have HO289 := n6_
      have HO292 := n7_
      have BK250 := n8_
      have BK267 := n9_
      have BK275 := n10_
      have BK284 := n11_
      have HB := n12_
      clear n0_ n1_ n2_ n3_ n4_ n5_ n6_ n7_ n8_ n9_ n10_ n11_ n12_
      (try clear hb)
      (try clear hb2)
      (try clear hk)
      (try clear hi)
      refine hK.out _ _ ⟨(blk_cell BK275.out 0).trans rfl, (blk_cell BK275.out 1).trans rfl, (blk_cell BK275.out 2).trans rfl, (blk_cell BK250.out 0).trans rfl, (blk_cell BK250.out 1).trans rfl, (blk_cell BK250.out 2).trans rfl⟩ (fun hHeld => ?_)
      clear hK K
      refine norm_ (a' := ?_) ?_ ?_
      rotate_left
      ·show Act.put _ (some 48) _ = _
       simp only [Act.put, List.setIfInBounds_toArray, List.set_cons_zero, List.set_cons_succ, i64_w, i32_w]
       rfl
      refine pure_ (i := 4) (N := some 49) (v := ?_) (a' := ?_) #[T,T,T,T,T] rfl rfl (by kernel_rfl) (fun _ _ _ h => h) (Or.inl ⟨by rfl, ?_⟩) ?_ ?_
      rotate_left
      ·intro w'
       go_simp
       with_reducible rfl
      rotate_left
      ·simp only [Act.put, List.setIfInBounds_toArray, List.set_cons_zero, List.set_cons_succ, i64_w, i32_w]
       rfl
      refine done_ (by kernel_rfl) ?_
      have hnb71 := NB275_250.out
      have hnc71 := NB250_275.out
      have hnb72 := NB275_267.out
      have hnc72 := NB267_275.out
      have hnb73 := NB275_284.out
      have hnc73 := NB284_275.out
      have hcz74_0 : w70.cell? ⟨gb275, 0, none⟩ = some (.int .i64 t268) := (blk_cell BK275.out 0).trans rfl
      have hcz74_1 : w70.cell? ⟨gb275, 1, none⟩ = some (.slice Ao32 t269.length co32) := (blk_cell BK275.out 1).trans rfl
      have hcz74_2 : w70.cell? ⟨gb275, 2, none⟩ = some (.slice Ao33 t272.length co33) := (blk_cell BK275.out 2).trans rfl
      have hfz74_0 := blk_frozen BK275.out 0
      have hfz74_1 := blk_frozen BK275.out 1
      have hfz74_2 := blk_frozen BK275.out 2
      go_upto_region 14 with (first | ((with_reducible refine gate_callee (f := 18) rfl ?_); refine goesL_ (some 52) rfl rfl Try.func18 (by kernel_rfl) rfl #[.agg #[.int .i64 t268, .slice Ao32 t269.length co32, .slice Ao33 t272.length co33], .int .i64 1] rfl q8_4 ?_; (with_reducible refine (laws_markAges.calls kj11 t268 (fun k_ => some k_ = (.slice Ao32 t269.length co32 : Value).ownBlock) (.slice Ao32 t269.length co32) t269 (fun k_ => some k_ = (.slice Ao33 t272.length co33 : Value).ownBlock) (.slice Ao33 t272.length co33) t272 1 t294 t295 t296 w _ ?side1 ?side2 ?side3 A64.out).mono ?_); (case side1 => exact q8_0); (case side2 => exact Kd.R_tight rfl HO_276001.out); (case side3 => exact Kd.R_tight rfl HO_276002.out); rintro e w75 ⟨rfl, hy0, hy1, hb, hkp⟩; refine ⟨_, rfl, ?_⟩; have n0_ := Aside0.mk (Kd.R_mono (ok' := fun k_ => some k_ ≠ (.slice Ao32 t269.length co32 : Value).ownBlock ∧ some k_ ≠ (.slice Ao40 t277.length co40 : Value).ownBlock ∧ some k_ ≠ (.slice Ao68 t287.length co68 : Value).ownBlock) (Kd.R_keptB ((Kd.R_apart' HO_268001.out (Kd.R_typed HO_276002.out) q8_44)) hkp (fun k_ hk_ hs_ => Or.elim hs_ (fun e_ => (hk_.1.1.1) e_) (fun e_ => (hk_.2) e_))) (fun k_ hk_ => ⟨hk_.1.1.1.1, hk_.1.1.1.2, hk_.1.1.2⟩)); have n1_ := Aside0.mk (Kd.R_mono (ok' := fun k_ => some k_ ≠ (.slice Ao33 t272.length co33 : Value).ownBlock ∧ some k_ ≠ (.slice Ao41 t280.length co41 : Value).ownBlock ∧ some k_ ≠ (.slice Ao69 t290.length co69 : Value).ownBlock) (Kd.R_keptB ((Kd.R_apart' HO_268002.out (Kd.R_typed HO_276001.out) q8_44)) hkp (fun k_ hk_ hs_ => Or.elim hs_ (fun e_ => (hk_.2) e_) (fun e_ => (hk_.1.1.1) e_))) (fun k_ hk_ => ⟨hk_.1.1.1.1, hk_.1.1.1.2, hk_.1.1.2⟩)); have n2_ := Aside0.mk (Kd.R_reok rfl hy0 (fun k_ e_ => HO_276001.out.1 k_ e_)); have n3_ := Aside0.mk (Kd.R_reok rfl hy1 (fun k_ e_ => HO_276002.out.1 k_ e_)); have n4_ := Aside0.mk (Kd.R_mono (ok' := fun k_ => some k_ ≠ (.slice Ao24 t260.length co24 : Value).ownBlock ∧ some k_ ≠ (.slice Ao32 t269.length co32 : Value).ownBlock ∧ some k_ ≠ (.slice Ao68 t287.length co68 : Value).ownBlock) (Kd.R_keptB ((Kd.R_apart' HO_285001.out (Kd.R_typed HO_276002.out) q8_44)) hkp (fun k_ hk_ hs_ => Or.elim hs_ (fun e_ => (hk_.1.1.2) e_) (fun e_ => (hk_.2) e_))) (fun k_ hk_ => ⟨hk_.1.1.1.1, hk_.1.1.1.2, hk_.1.1.2⟩)); have n5_ := Aside0.mk (Kd.R_mono (ok' := fun k_ => some k_ ≠ (.slice Ao25 t263.length co25 : Value).ownBlock ∧ some k_ ≠ (.slice Ao33 t272.length co33 : Value).ownBlock ∧ some k_ ≠ (.slice Ao69 t290.length co69 : Value).ownBlock) (Kd.R_keptB ((Kd.R_apart' HO_285002.out (Kd.R_typed HO_276001.out) q8_44)) hkp (fun k_ hk_ hs_ => Or.elim hs_ (fun e_ => (hk_.2) e_) (fun e_ => (hk_.1.1.2) e_))) (fun k_ hk_ => ⟨hk_.1.1.1.1, hk_.1.1.1.2, hk_.1.1.2⟩)); have n6_ := Aside0.mk (blk_kept q8_1 hkp (fun hs_ => Or.elim hs_ (fun e_ => (fun e_ => (Kd.R_ne HO_276001.out BK250.out q8_44) e_) e_) (fun e_ => (fun e_ => (Kd.R_ne HO_276002.out BK250.out q8_44) e_) e_))); have n7_ := Aside0.mk (blk_kept q8_2 hkp (fun hs_ => Or.elim hs_ (fun e_ => (fun e_ => (Kd.R_ne HO_276001.out BK267.out q8_44) e_) e_) (fun e_ => (fun e_ => (Kd.R_ne HO_276002.out BK267.out q8_44) e_) e_))); have n8_ := Aside0.mk (blk_kept q8_3 hkp (fun hs_ => Or.elim hs_ (fun e_ => (fun e_ => (Kd.R_ne HO_276001.out BK275.out q8_44) e_) e_) (fun e_ => (fun e_ => (Kd.R_ne HO_276002.out BK275.out q8_44) e_) e_))); have n9_ := Aside0.mk (blk_kept q8_5 hkp (fun hs_ => Or.elim hs_ (fun e_ => (fun e_ => (Kd.R_ne HO_276001.out BK284.out q8_44) e_) e_) (fun e_ => (fun e_ => (Kd.R_ne HO_276002.out BK284.out q8_44) e_) e_))); have n10_ := Aside0.mk (Kd.R_mono (ok' := fun k_ => some k_ ≠ (.slice Ao24 t260.length co24 : Value).ownBlock ∧ some k_ ≠ (.slice Ao32 t269.length co32 : Value).ownBlock ∧ some k_ ≠ (.slice Ao40 t277.length co40 : Value).ownBlock) (Kd.R_keptB ((Kd.R_apart' HO289.out (Kd.R_typed HO_276002.out) q8_44)) hkp (fun k_ hk_ hs_ => Or.elim hs_ (fun e_ => (hk_.1.1.2) e_) (fun e_ => (hk_.2) e_))) (fun k_ hk_ => ⟨hk_.1.1.1.1.2, hk_.1.1.1.2, hk_.1.1.2⟩)); have n11_ := Aside0.mk (Kd.R_mono (ok' := fun k_ => some k_ ≠ (.slice Ao25 t263.length co25 : Value).ownBlock ∧ some k_ ≠ (.slice Ao33 t272.length co33 : Value).ownBlock ∧ some k_ ≠ (.slice Ao41 t280.length co41 : Value).ownBlock) (Kd.R_keptB ((Kd.R_apart' HO292.out (Kd.R_typed HO_276001.out) q8_44)) hkp (fun k_ hk_ hs_ => Or.elim hs_ (fun e_ => (hk_.2) e_) (fun e_ => (hk_.1.1.2) e_))) (fun k_ hk_ => ⟨hk_.1.1.1.1.2, hk_.1.1.1.2, hk_.1.1.2⟩)); have n12_ := Aside0.mk (hb); clear HO_268001; clear HO_268002; clear HO_276001; clear HO_276002; clear HO_285001; clear HO_285002; clear BK250; clear BK267; clear BK275; clear BK284; clear HO289; clear HO292; clear HB; have HO_268001 := n0_; have HO_268002 := n1_; have HO_276001 := n2_; have HO_276002 := n3_; have HO_285001 := n4_; have HO_285002 := n5_; have BK250 := n6_; have BK267 := n7_; have BK275 := n8_; have BK284 := n9_; have HO289 := n10_; have HO292 := n11_; have HB := n12_; clear n0_ n1_ n2_ n3_ n4_ n5_ n6_ n7_ n8_ n9_ n10_ n11_ n12_; (try clear hb); (try clear hkp); (try clear hy0); (try clear hy1)))
      (try simp only [Act.put, List.setIfInBounds_toArray, List.set_cons_zero, List.set_cons_succ])
      go_cut [65] (fun v65 wc => ∃ (kq : Nat) (x65_64 : Bool), v65 = .bool x65_64 ∧ Aside0 (laws_FnExactUnpin.j1 kq a1 t266 x65_64 a0_0 l0_1 l0_2 t259 t260 t263 t276 t277 t280 = some r) ∧ Aside0 (kq ≤ kj11) ∧ Aside0 (Kd.R (Kd.int .i64) 3 wc w.heap.size (fun k_ => some k_ ≠ ((.slice Ao32 t269.length co32) : Value).ownBlock ∧ some k_ ≠ ((.slice Ao40 t277.length co40) : Value).ownBlock) (.slice Ao24 t260.length co24) t260) ∧ Aside0 (Kd.R k48 48 wc w.heap.size (fun k_ => some k_ ≠ ((.slice Ao33 t272.length co33) : Value).ownBlock ∧ some k_ ≠ ((.slice Ao41 t280.length co41) : Value).ownBlock) (.slice Ao25 t263.length co25) t263) ∧ Aside0 (Kd.R (Kd.int .i64) 3 wc w.heap.size (fun k_ => some k_ ≠ ((.slice Ao24 t260.length co24) : Value).ownBlock ∧ some k_ ≠ ((.slice Ao40 t277.length co40) : Value).ownBlock) (.slice Ao32 t269.length co32) t295) ∧ Aside0 (Kd.R k48 48 wc w.heap.size (fun k_ => some k_ ≠ ((.slice Ao25 t263.length co25) : Value).ownBlock ∧ some k_ ≠ ((.slice Ao41 t280.length co41) : Value).ownBlock) (.slice Ao33 t272.length co33) t296) ∧ Aside0 (Kd.R (Kd.int .i64) 3 wc w.heap.size (fun k_ => some k_ ≠ ((.slice Ao24 t260.length co24) : Value).ownBlock ∧ some k_ ≠ ((.slice Ao32 t269.length co32) : Value).ownBlock) (.slice Ao40 t277.length co40) t277) ∧ Aside0 (Kd.R k48 48 wc w.heap.size (fun k_ => some k_ ≠ ((.slice Ao25 t263.length co25) : Value).ownBlock ∧ some k_ ≠ ((.slice Ao33 t272.length co33) : Value).ownBlock) (.slice Ao41 t280.length co41) t280) ∧ Aside0 (wc.heap[gb250]? = some (.cells #[.int .i64 a0_0, (.slice A0_1 l0_1.length c0_1), (.slice A0_2 l0_2.length c0_2)] 25 (0, 0))) ∧ Aside0 (wc.heap[gb267]? = some (.cells #[.int .i64 t259, (.slice Ao24 t260.length co24), (.slice Ao25 t263.length co25)] 30 (0, 0))) ∧ Aside0 (wc.heap[gb275]? = some (.cells #[.int .i64 t268, (.slice Ao32 t269.length co32), (.slice Ao33 t272.length co33)] 30 (0, 0))) ∧ Aside0 (wc.heap[gb284]? = some (.cells #[.int .i64 t276, (.slice Ao40 t277.length co40), (.slice Ao41 t280.length co41)] 30 (0, 0))) ∧ Aside0 (Below w.heap.size w wc))
      case first =>
       have H := HC65.out
       clear HC65
       by_cases c76 : t294 < 0
       ·rw [if_pos c76] at H
        have c76b0 : decide (t294 < 0) = true := decide_eq_true c76
        clear c76
        (first | rw [c76b0] | (simp only [i64_w, i32_w]; rw [c76b0]) | skip)
        have H' := Aside0.mk H
        clear H
        go_wp2
        go_meet
        case rel => exact ⟨_, (true), (by first | rfl | (simp; done) | (simp [*]; done)), H', ⟨by have := HJ11.out; first | omega | exact Nat.le_refl _⟩, ⟨by (with_reducible repeat (first | apply Kd.R_alloc | apply Kd.R_drewN | apply Kd.R_drew)); exact Kd.R_mono HO_268001.out (fun _ hk => ⟨hk.1, hk.2.1⟩)⟩, ⟨by (with_reducible repeat (first | apply Kd.R_alloc | apply Kd.R_drewN | apply Kd.R_drew)); exact Kd.R_mono HO_268002.out (fun _ hk => ⟨hk.1, hk.2.1⟩)⟩, ⟨by (with_reducible repeat (first | apply Kd.R_alloc | apply Kd.R_drewN | apply Kd.R_drew)); exact Kd.R_mono HO_276001.out (fun _ hk => ⟨hk.1.1, hk.1.2⟩)⟩, ⟨by (with_reducible repeat (first | apply Kd.R_alloc | apply Kd.R_drewN | apply Kd.R_drew)); exact Kd.R_mono HO_276002.out (fun _ hk => ⟨hk.1.1, hk.1.2⟩)⟩, ⟨by (with_reducible repeat (first | apply Kd.R_alloc | apply Kd.R_drewN | apply Kd.R_drew)); exact Kd.R_mono HO_285001.out (fun _ hk => ⟨hk.1, hk.2.1⟩)⟩, ⟨by (with_reducible repeat (first | apply Kd.R_alloc | apply Kd.R_drewN | apply Kd.R_drew)); exact Kd.R_mono HO_285002.out (fun _ hk => ⟨hk.1, hk.2.1⟩)⟩, ⟨q8_1⟩, ⟨q8_2⟩, ⟨q8_3⟩, ⟨q8_5⟩, ⟨q8_0⟩⟩
       ·rw [if_neg c76] at H
        have c76b0 : decide (t294 < 0) = false := decide_eq_false c76
        clear c76
        (first | rw [c76b0] | (simp only [i64_w, i32_w]; rw [c76b0]) | skip)
        replace H := Option.bind_eq_some_iff.mp H
        obtain ⟨t297, A770, H⟩ := H
        replace H : (if t297 = true then (laws_FnExactUnpin.j1 kj11 a1 t266 (t283 != t266) a0_0 l0_1 l0_2 t259 t260 t263 t276 t277 t280) else (laws_FnExactUnpin.j1 kj11 a1 t266 true a0_0 l0_1 l0_2 t259 t260 t263 t276 t277 t280)) = some r := H
        have A77 := Aside0.mk A770
        clear A770
        by_cases c78 : t297 = true
        ·subst c78
         have H1 : (laws_FnExactUnpin.j1 kj11 a1 t266 (t283 != t266) a0_0 l0_1 l0_2 t259 t260 t263 t276 t277 t280) = some r := by rw [if_pos rfl] at H; exact H
         clear H
         have H := H1
         clear H1
         have H' := Aside0.mk H
         clear H
         have hnb79 := NB284_250.out
         have hnc79 := NB250_284.out
         have hnb80 := NB284_267.out
         have hnc80 := NB267_284.out
         have hnb81 := NB284_275.out
         have hnc81 := NB275_284.out
         have hcz82_0 : w75.cell? ⟨gb284, 0, none⟩ = some (.int .i64 t276) := (blk_cell BK284.out 0).trans rfl
         have hcz82_1 : w75.cell? ⟨gb284, 1, none⟩ = some (.slice Ao40 t277.length co40) := (blk_cell BK284.out 1).trans rfl
         have hcz82_2 : w75.cell? ⟨gb284, 2, none⟩ = some (.slice Ao41 t280.length co41) := (blk_cell BK284.out 2).trans rfl
         have hfz82_0 := blk_frozen BK284.out 0
         have hfz82_1 := blk_frozen BK284.out 1
         have hfz82_2 := blk_frozen BK284.out 2
         have hnb83 := NB267_250.out
         have hnc83 := NB250_267.out
         have hnb84 := NB267_275.out
         have hnc84 := NB275_267.out
         have hcz85_0 : w75.cell? ⟨gb267, 0, none⟩ = some (.int .i64 t259) := (blk_cell BK267.out 0).trans rfl
         have hcz85_1 : w75.cell? ⟨gb267, 1, none⟩ = some (.slice Ao24 t260.length co24) := (blk_cell BK267.out 1).trans rfl
         have hcz85_2 : w75.cell? ⟨gb267, 2, none⟩ = some (.slice Ao25 t263.length co25) := (blk_cell BK267.out 2).trans rfl
         have hfz85_0 := blk_frozen BK267.out 0
         have hfz85_1 := blk_frozen BK267.out 1
         have hfz85_2 := blk_frozen BK267.out 2
         go_wp2_with (first | (go_at_call 15; (with_reducible refine (laws_eqAges.calls kj11 t276 _ _ t277 _ _ t280 t259 _ _ t260 _ _ t263 true _ ?side1 ?side2 ?side3 ?side4 ?side5 ?side6 ?side7 ?side8 A77.out).mono ?_); (case side1 => exact q8_23); (case side2 => exact (Kd.R_reads' HO_285001.out).2.1); (case side3 => exact q8_24); (case side4 => exact (Kd.R_reads' HO_285002.out).2.1); (case side5 => repeat (first | exact (Kd.R_reads' HO_268001.out).2.2 | (with_reducible refine Kd.C_alloc ?_ _) | (with_reducible refine Kd.C_drewN ?_ _) | (with_reducible refine Kd.C_drew ?_))); (case side6 => exact (Kd.R_reads' HO_268001.out).2.1); (case side7 => repeat (first | exact (Kd.R_reads' HO_268002.out).2.2 | (with_reducible refine Kd.C_alloc ?_ _) | (with_reducible refine Kd.C_drewN ?_ _) | (with_reducible refine Kd.C_drew ?_))); (case side8 => exact (Kd.R_reads' HO_268002.out).2.1); rintro e w86 ⟨rfl, hb⟩; have n0_ := Aside0.mk (Kd.R_below q8_7 hb); have n1_ := Aside0.mk (Kd.R_below q8_8 hb); have n2_ := Aside0.mk (Kd.R_below q8_9 hb); have n3_ := Aside0.mk (Kd.R_below q8_10 hb); have n4_ := Aside0.mk (Kd.R_below q8_11 hb); have n5_ := Aside0.mk (Kd.R_below q8_12 hb); have n6_ := Aside0.mk (Kd.R_below (by (with_reducible repeat (first | apply Kd.R_alloc | apply Kd.R_drewN | apply Kd.R_drew)); exact HO289.out) hb); have n7_ := Aside0.mk (Kd.R_below (by (with_reducible repeat (first | apply Kd.R_alloc | apply Kd.R_drewN | apply Kd.R_drew)); exact HO292.out) hb); have n8_ := Aside0.mk (blk_below (g := gb250) (o := .cells #[.int .i64 a0_0, .slice A0_1 l0_1.length c0_1, .slice A0_2 l0_2.length c0_2] 25 (0, 0)) q8_1 hb); have n9_ := Aside0.mk (blk_below (g := gb267) (o := .cells #[.int .i64 t259, .slice Ao24 t260.length co24, .slice Ao25 t263.length co25] 30 (0, 0)) q8_2 hb); have n10_ := Aside0.mk (blk_below (g := gb275) (o := .cells #[.int .i64 t268, .slice Ao32 t269.length co32, .slice Ao33 t272.length co33] 30 (0, 0)) q8_3 hb); have n11_ := Aside0.mk (blk_below (g := gb284) (o := .cells #[.int .i64 t276, .slice Ao40 t277.length co40, .slice Ao41 t280.length co41] 30 (0, 0)) q8_5 hb); have n12_ := Aside0.mk (below_step q8_0 hb); clear HO_268001; clear HO_268002; clear HO_276001; clear HO_276002; clear HO_285001; clear HO_285002; clear HO289; clear HO292; clear BK250; clear BK267; clear BK275; clear BK284; clear HB; have HO_268001 := n0_; have HO_268002 := n1_; have HO_276001 := n2_; have HO_276002 := n3_; have HO_285001 := n4_; have HO_285002 := n5_; have HO289 := n6_; have HO292 := n7_; have BK250 := n8_; have BK267 := n9_; have BK275 := n10_; have BK284 := n11_; have HB := n12_; clear n0_ n1_ n2_ n3_ n4_ n5_ n6_ n7_ n8_ n9_ n10_ n11_ n12_; (try clear hb); (try clear hb2); (try clear hk); (try clear hi)))
         go_meet
         case rel => exact ⟨_, ((t283 != t266)), (by first | rfl | (simp; done) | (simp [*]; done)), H', ⟨by have := HJ11.out; first | omega | exact Nat.le_refl _⟩, ⟨by (with_reducible repeat (first | apply Kd.R_alloc | apply Kd.R_drewN | apply Kd.R_drew)); exact Kd.R_mono HO_268001.out (fun _ hk => ⟨hk.1, hk.2.1⟩)⟩, ⟨by (with_reducible repeat (first | apply Kd.R_alloc | apply Kd.R_drewN | apply Kd.R_drew)); exact Kd.R_mono HO_268002.out (fun _ hk => ⟨hk.1, hk.2.1⟩)⟩, ⟨by (with_reducible repeat (first | apply Kd.R_alloc | apply Kd.R_drewN | apply Kd.R_drew)); exact Kd.R_mono HO_276001.out (fun _ hk => ⟨hk.1.1, hk.1.2⟩)⟩, ⟨by (with_reducible repeat (first | apply Kd.R_alloc | apply Kd.R_drewN | apply Kd.R_drew)); exact Kd.R_mono HO_276002.out (fun _ hk => ⟨hk.1.1, hk.1.2⟩)⟩, ⟨by (with_reducible repeat (first | apply Kd.R_alloc | apply Kd.R_drewN | apply Kd.R_drew)); exact Kd.R_mono HO_285001.out (fun _ hk => ⟨hk.1, hk.2.1⟩)⟩, ⟨by (with_reducible repeat (first | apply Kd.R_alloc | apply Kd.R_drewN | apply Kd.R_drew)); exact Kd.R_mono HO_285002.out (fun _ hk => ⟨hk.1, hk.2.1⟩)⟩, ⟨q8_1⟩, ⟨q8_2⟩, ⟨q8_3⟩, ⟨q8_5⟩, ⟨q8_0⟩⟩
        ·replace c78 := Bool.eq_false_iff.mpr c78
         subst c78
         have H1 : (laws_FnExactUnpin.j1 kj11 a1 t266 true a0_0 l0_1 l0_2 t259 t260 t263 t276 t277 t280) = some r := by rw [if_neg (show ¬ (false = true) by decide)] at H; exact H
         clear H
         have H := H1
         clear H1
         have H' := Aside0.mk H
         clear H
         have hnb87 := NB284_250.out
         have hnc87 := NB250_284.out
         have hnb88 := NB284_267.out
         have hnc88 := NB267_284.out
         have hnb89 := NB284_275.out
         have hnc89 := NB275_284.out
         have hcz90_0 : w75.cell? ⟨gb284, 0, none⟩ = some (.int .i64 t276) := (blk_cell BK284.out 0).trans rfl
         have hcz90_1 : w75.cell? ⟨gb284, 1, none⟩ = some (.slice Ao40 t277.length co40) := (blk_cell BK284.out 1).trans rfl
         have hcz90_2 : w75.cell? ⟨gb284, 2, none⟩ = some (.slice Ao41 t280.length co41) := (blk_cell BK284.out 2).trans rfl
         have hfz90_0 := blk_frozen BK284.out 0
         have hfz90_1 := blk_frozen BK284.out 1
         have hfz90_2 := blk_frozen BK284.out 2
         have hnb91 := NB267_250.out
         have hnc91 := NB250_267.out
         have hnb92 := NB267_275.out
         have hnc92 := NB275_267.out
         have hcz93_0 : w75.cell? ⟨gb267, 0, none⟩ = some (.int .i64 t259) := (blk_cell BK267.out 0).trans rfl
         have hcz93_1 : w75.cell? ⟨gb267, 1, none⟩ = some (.slice Ao24 t260.length co24) := (blk_cell BK267.out 1).trans rfl
         have hcz93_2 : w75.cell? ⟨gb267, 2, none⟩ = some (.slice Ao25 t263.length co25) := (blk_cell BK267.out 2).trans rfl
         have hfz93_0 := blk_frozen BK267.out 0
         have hfz93_1 := blk_frozen BK267.out 1
         have hfz93_2 := blk_frozen BK267.out 2
         go_wp2_with (first | (go_at_call 15; (with_reducible refine (laws_eqAges.calls kj11 t276 _ _ t277 _ _ t280 t259 _ _ t260 _ _ t263 false _ ?side1 ?side2 ?side3 ?side4 ?side5 ?side6 ?side7 ?side8 A77.out).mono ?_); (case side1 => exact q8_23); (case side2 => exact (Kd.R_reads' HO_285001.out).2.1); (case side3 => exact q8_24); (case side4 => exact (Kd.R_reads' HO_285002.out).2.1); (case side5 => repeat (first | exact (Kd.R_reads' HO_268001.out).2.2 | (with_reducible refine Kd.C_alloc ?_ _) | (with_reducible refine Kd.C_drewN ?_ _) | (with_reducible refine Kd.C_drew ?_))); (case side6 => exact (Kd.R_reads' HO_268001.out).2.1); (case side7 => repeat (first | exact (Kd.R_reads' HO_268002.out).2.2 | (with_reducible refine Kd.C_alloc ?_ _) | (with_reducible refine Kd.C_drewN ?_ _) | (with_reducible refine Kd.C_drew ?_))); (case side8 => exact (Kd.R_reads' HO_268002.out).2.1); rintro e w94 ⟨rfl, hb⟩; have n0_ := Aside0.mk (Kd.R_below q8_7 hb); have n1_ := Aside0.mk (Kd.R_below q8_8 hb); have n2_ := Aside0.mk (Kd.R_below q8_9 hb); have n3_ := Aside0.mk (Kd.R_below q8_10 hb); have n4_ := Aside0.mk (Kd.R_below q8_11 hb); have n5_ := Aside0.mk (Kd.R_below q8_12 hb); have n6_ := Aside0.mk (Kd.R_below (by (with_reducible repeat (first | apply Kd.R_alloc | apply Kd.R_drewN | apply Kd.R_drew)); exact HO289.out) hb); have n7_ := Aside0.mk (Kd.R_below (by (with_reducible repeat (first | apply Kd.R_alloc | apply Kd.R_drewN | apply Kd.R_drew)); exact HO292.out) hb); have n8_ := Aside0.mk (blk_below (g := gb250) (o := .cells #[.int .i64 a0_0, .slice A0_1 l0_1.length c0_1, .slice A0_2 l0_2.length c0_2] 25 (0, 0)) q8_1 hb); have n9_ := Aside0.mk (blk_below (g := gb267) (o := .cells #[.int .i64 t259, .slice Ao24 t260.length co24, .slice Ao25 t263.length co25] 30 (0, 0)) q8_2 hb); have n10_ := Aside0.mk (blk_below (g := gb275) (o := .cells #[.int .i64 t268, .slice Ao32 t269.length co32, .slice Ao33 t272.length co33] 30 (0, 0)) q8_3 hb); have n11_ := Aside0.mk (blk_below (g := gb284) (o := .cells #[.int .i64 t276, .slice Ao40 t277.length co40, .slice Ao41 t280.length co41] 30 (0, 0)) q8_5 hb); have n12_ := Aside0.mk (below_step q8_0 hb); clear HO_268001; clear HO_268002; clear HO_276001; clear HO_276002; clear HO_285001; clear HO_285002; clear HO289; clear HO292; clear BK250; clear BK267; clear BK275; clear BK284; clear HB; have HO_268001 := n0_; have HO_268002 := n1_; have HO_276001 := n2_; have HO_276002 := n3_; have HO_285001 := n4_; have HO_285002 := n5_; have HO289 := n6_; have HO292 := n7_; have BK250 := n8_; have BK267 := n9_; have BK275 := n10_; have BK284 := n11_; have HB := n12_; clear n0_ n1_ n2_ n3_ n4_ n5_ n6_ n7_ n8_ n9_ n10_ n11_ n12_; (try clear hb); (try clear hb2); (try clear hk); (try clear hi)))
         go_meet
         case rel => exact ⟨_, (true), (by first | rfl | (simp; done) | (simp [*]; done)), H', ⟨by have := HJ11.out; first | omega | exact Nat.le_refl _⟩, ⟨by (with_reducible repeat (first | apply Kd.R_alloc | apply Kd.R_drewN | apply Kd.R_drew)); exact Kd.R_mono HO_268001.out (fun _ hk => ⟨hk.1, hk.2.1⟩)⟩, ⟨by (with_reducible repeat (first | apply Kd.R_alloc | apply Kd.R_drewN | apply Kd.R_drew)); exact Kd.R_mono HO_268002.out (fun _ hk => ⟨hk.1, hk.2.1⟩)⟩, ⟨by (with_reducible repeat (first | apply Kd.R_alloc | apply Kd.R_drewN | apply Kd.R_drew)); exact Kd.R_mono HO_276001.out (fun _ hk => ⟨hk.1.1, hk.1.2⟩)⟩, ⟨by (with_reducible repeat (first | apply Kd.R_alloc | apply Kd.R_drewN | apply Kd.R_drew)); exact Kd.R_mono HO_276002.out (fun _ hk => ⟨hk.1.1, hk.1.2⟩)⟩, ⟨by (with_reducible repeat (first | apply Kd.R_alloc | apply Kd.R_drewN | apply Kd.R_drew)); exact Kd.R_mono HO_285001.out (fun _ hk => ⟨hk.1, hk.2.1⟩)⟩, ⟨by (with_reducible repeat (first | apply Kd.R_alloc | apply Kd.R_drewN | apply Kd.R_drew)); exact Kd.R_mono HO_285002.out (fun _ hk => ⟨hk.1, hk.2.1⟩)⟩, ⟨q8_1⟩, ⟨q8_2⟩, ⟨q8_3⟩, ⟨q8_5⟩, ⟨q8_0⟩⟩
      case rest =>
       clear HC65
       (try clear c1); (try clear c2); (try clear p2); (try clear c3); (try clear c4); (try clear c4b0); (try clear c5); (try clear c6); (try clear c7); (try clear c8); (try clear c9); (try clear c11); (try clear c13); (try clear c15); (try clear c18); (try clear c22); (try clear c23); (try clear c29); (try clear c30); (try clear c36); (try clear c37); (try clear c38); (try clear c43); (try clear c44); (try clear c45); (try clear c46); (try clear c48); (try clear c49); (try clear c52); (try clear c53); (try clear c54); (try clear c56); (try clear c57); (try clear c60); (try clear c63); (try clear c71); (try clear c72); (try clear c73); (try clear c76); (try clear c76b0); (try clear c78); (try clear c79); (try clear c80); (try clear c81); (try clear c83); (try clear c84); (try clear c87); (try clear c88); (try clear c89); (try clear c91); (try clear c92); (try clear hcz14_0); (try clear hcz14_1); (try clear hcz14_2); (try clear hcz16_0); (try clear hcz16_1); (try clear hcz16_2); (try clear hcz23_0); (try clear hcz23_1); (try clear hcz23_2); (try clear hcz26_0); (try clear hcz26_1); (try clear hcz26_2); (try clear hcz31_0); (try clear hcz31_1); (try clear hcz31_2); (try clear hcz39_0); (try clear hcz39_1); (try clear hcz39_2); (try clear hcz47_0); (try clear hcz47_1); (try clear hcz47_2); (try clear hcz50_0); (try clear hcz50_1); (try clear hcz50_2); (try clear hcz55_0); (try clear hcz55_1); (try clear hcz55_2); (try clear hcz58_0); (try clear hcz58_1); (try clear hcz58_2); (try clear hcz6_0); (try clear hcz6_1); (try clear hcz6_2); (try clear hcz74_0); (try clear hcz74_1); (try clear hcz74_2); (try clear hcz82_0); (try clear hcz82_1); (try clear hcz82_2); (try clear hcz85_0); (try clear hcz85_1); (try clear hcz85_2); (try clear hcz90_0); (try clear hcz90_1); (try clear hcz90_2); (try clear hcz93_0); (try clear hcz93_1); (try clear hcz93_2); (try clear hfz14_0); (try clear hfz14_1); (try clear hfz14_2); (try clear hfz16_0); (try clear hfz16_1); (try clear hfz16_2); (try clear hfz23_0); (try clear hfz23_1); (try clear hfz23_2); (try clear hfz26_0); (try clear hfz26_1); (try clear hfz26_2); (try clear hfz31_0); (try clear hfz31_1); (try clear hfz31_2); (try clear hfz39_0); (try clear hfz39_1); (try clear hfz39_2); (try clear hfz47_0); (try clear hfz47_1); (try clear hfz47_2); (try clear hfz50_0); (try clear hfz50_1); (try clear hfz50_2); (try clear hfz55_0); (try clear hfz55_1); (try clear hfz55_2); (try clear hfz58_0); (try clear hfz58_1); (try clear hfz58_2); (try clear hfz6_0); (try clear hfz6_1); (try clear hfz6_2); (try clear hfz74_0); (try clear hfz74_1); (try clear hfz74_2); (try clear hfz82_0); (try clear hfz82_1); (try clear hfz82_2); (try clear hfz85_0); (try clear hfz85_1); (try clear hfz85_2); (try clear hfz90_0); (try clear hfz90_1); (try clear hfz90_2); (try clear hfz93_0); (try clear hfz93_1); (try clear hfz93_2); (try clear p2)
       obtain ⟨kq, x65_64, rfl, HA, HJ64, HO_268001, HO_268002, HO_276001, HO_276002, HO_285001, HO_285002, BK250, BK267, BK275, BK284, HB⟩ := hcut
       have hl276001_64 := (Kd.R_reads' HO_276001.out).1
       rw [hl276001_64] at HO_276001
       (try simp only [hl276001_64])
       (try simp only [hl276001_64] at BK250)
       (try simp only [hl276001_64] at BK267)
       (try simp only [hl276001_64] at BK275)
       (try simp only [hl276001_64] at BK284)
       (try simp only [hl276001_64] at HO_268001)
       (try simp only [hl276001_64] at HO_268002)
       (try simp only [hl276001_64] at HO_276002)
       (try simp only [hl276001_64] at HO_285001)
       (try simp only [hl276001_64] at HO_285002)
       have hl276002_64 := (Kd.R_reads' HO_276002.out).1
       rw [hl276002_64] at HO_276002
       (try simp only [hl276002_64])
       (try simp only [hl276002_64] at BK250)
       (try simp only [hl276002_64] at BK267)
       (try simp only [hl276002_64] at BK275)
       (try simp only [hl276002_64] at BK284)
       (try simp only [hl276002_64] at HO_268001)
       (try simp only [hl276002_64] at HO_268002)
       (try simp only [hl276002_64] at HO_276001)
       (try simp only [hl276002_64] at HO_285001)
       (try simp only [hl276002_64] at HO_285002)
       cases kq with
       | zero => exact absurd HA.out (by simp [laws_FnExactUnpin.j1])
       | succ kj64 =>
        have H := HA.out
        clear HA
        simp only [laws_FnExactUnpin.j1] at H
        by_cases c95 : x65_64 = true
        ·subst c95
         have H1 : (some false) = some r := by rw [if_pos rfl] at H; exact H
         clear H
         have H := H1
         clear H1
         obtain rfl := Option.some.inj H
         go_wp2
         go_ret
         exact ⟨q8_30, q8_0⟩
        ·replace c95 := Bool.eq_false_iff.mpr c95
         subst c95
         have H1 : ((laws_markAges.f kj64 t276 t277 t280 1).bind fun bt298 => ((laws_heldAges.f kj64 t276 bt298.2.1 bt298.2.2 1).bind fun t301 => (if t301 < 0 then (some false) else (if t301 = bt298.1 then ((laws_toAges.f kj64 a0_0 l0_1 l0_2).bind fun bt302 => ((impl_Unpin.f kj64 bt302.1 bt302.2.1 bt302.2.2 a1).bind fun bt309 => ((laws_eqAges.f kj64 bt309.1 bt309.2.1 bt309.2.2.1 t259 t260 t263).bind fun t318 => (if t318 = true then (laws_FnExactUnpin.j2 kj64 bt298.1 (bt309.2.2.2 != t266) t276 bt298.2.1 bt298.2.2) else (laws_FnExactUnpin.j2 kj64 bt298.1 true t276 bt298.2.1 bt298.2.2))))) else (some false))))) = some r := by rw [if_neg (show ¬ (false = true) by decide)] at H; exact H
         clear H
         have H := H1
         clear H1
         replace H := Option.bind_eq_some_iff.mp H
         obtain ⟨⟨t298, t299, t300⟩, A960, H⟩ := H
         replace H : ((laws_heldAges.f kj64 t276 t299 t300 1).bind fun t301 => (if t301 < 0 then (some false) else (if t301 = t298 then ((laws_toAges.f kj64 a0_0 l0_1 l0_2).bind fun bt302 => ((impl_Unpin.f kj64 bt302.1 bt302.2.1 bt302.2.2 a1).bind fun bt309 => ((laws_eqAges.f kj64 bt309.1 bt309.2.1 bt309.2.2.1 t259 t260 t263).bind fun t318 => (if t318 = true then (laws_FnExactUnpin.j2 kj64 t298 (bt309.2.2.2 != t266) t276 t299 t300) else (laws_FnExactUnpin.j2 kj64 t298 true t276 t299 t300))))) else (some false)))) = some r := H
         have A96 := Aside0.mk A960
         clear A960
         replace H := Option.bind_eq_some_iff.mp H
         obtain ⟨t301, A970, H⟩ := H
         replace H : (if t301 < 0 then (some false) else (if t301 = t298 then ((laws_toAges.f kj64 a0_0 l0_1 l0_2).bind fun bt302 => ((impl_Unpin.f kj64 bt302.1 bt302.2.1 bt302.2.2 a1).bind fun bt309 => ((laws_eqAges.f kj64 bt309.1 bt309.2.1 bt309.2.2.1 t259 t260 t263).bind fun t318 => (if t318 = true then (laws_FnExactUnpin.j2 kj64 t298 (bt309.2.2.2 != t266) t276 t299 t300) else (laws_FnExactUnpin.j2 kj64 t298 true t276 t299 t300))))) else (some false))) = some r := H
         have A97 := Aside0.mk A970
         clear A970
         by_cases c98 : t301 < 0
         ·rw [if_pos c98] at H
          have c98b0 : decide (t301 < 0) = true := decide_eq_true c98
          clear c98
          obtain rfl := Option.some.inj H
          have hnb99 := NB284_250.out
          have hnc99 := NB250_284.out
          have hnb100 := NB284_267.out
          have hnc100 := NB267_284.out
          have hnb101 := NB284_275.out
          have hnc101 := NB275_284.out
          have hcz102_0 : wc.cell? ⟨gb284, 0, none⟩ = some (.int .i64 t276) := (blk_cell BK284.out 0).trans rfl
          have hcz102_1 : wc.cell? ⟨gb284, 1, none⟩ = some (.slice Ao40 t277.length co40) := (blk_cell BK284.out 1).trans rfl
          have hcz102_2 : wc.cell? ⟨gb284, 2, none⟩ = some (.slice Ao41 t280.length co41) := (blk_cell BK284.out 2).trans rfl
          have hfz102_0 := blk_frozen BK284.out 0
          have hfz102_1 := blk_frozen BK284.out 1
          have hfz102_2 := blk_frozen BK284.out 2
          go_wp2_with (first | ((with_reducible refine gate_callee (f := 18) rfl ?_); refine goesL_ (some 68) rfl rfl Try.func18 (by kernel_rfl) rfl #[.agg #[.int .i64 t276, .slice Ao40 t277.length co40, .slice Ao41 t280.length co41], .int .i64 1] rfl q8_4 ?_; (with_reducible refine (laws_markAges.calls kj64 t276 (fun k_ => some k_ = (.slice Ao40 t277.length co40 : Value).ownBlock) (.slice Ao40 t277.length co40) t277 (fun k_ => some k_ = (.slice Ao41 t280.length co41 : Value).ownBlock) (.slice Ao41 t280.length co41) t280 1 t298 t299 t300 w _ ?side1 ?side2 ?side3 A96.out).mono ?_); (case side1 => exact q8_0); (case side2 => exact Kd.R_tight rfl HO_285001.out); (case side3 => exact Kd.R_tight rfl HO_285002.out); rintro e w103 ⟨rfl, hy0, hy1, hb, hkp⟩; refine ⟨_, rfl, ?_⟩; have n0_ := Aside0.mk (Kd.R_mono (ok' := fun k_ => some k_ ≠ (.slice Ao32 t295.length co32 : Value).ownBlock ∧ some k_ ≠ (.slice Ao40 t277.length co40 : Value).ownBlock) (Kd.R_keptB ((Kd.R_apart' HO_268001.out (Kd.R_typed HO_285002.out) q8_44)) hkp (fun k_ hk_ hs_ => Or.elim hs_ (fun e_ => (hk_.1.2) e_) (fun e_ => (hk_.2) e_))) (fun k_ hk_ => ⟨hk_.1.1.1, hk_.1.1.2⟩)); have n1_ := Aside0.mk (Kd.R_mono (ok' := fun k_ => some k_ ≠ (.slice Ao33 t296.length co33 : Value).ownBlock ∧ some k_ ≠ (.slice Ao41 t280.length co41 : Value).ownBlock) (Kd.R_keptB ((Kd.R_apart' HO_268002.out (Kd.R_typed HO_285001.out) q8_44)) hkp (fun k_ hk_ hs_ => Or.elim hs_ (fun e_ => (hk_.2) e_) (fun e_ => (hk_.1.2) e_))) (fun k_ hk_ => ⟨hk_.1.1.1, hk_.1.1.2⟩)); have n2_ := Aside0.mk (Kd.R_mono (ok' := fun k_ => some k_ ≠ (.slice Ao24 t260.length co24 : Value).ownBlock ∧ some k_ ≠ (.slice Ao40 t277.length co40 : Value).ownBlock) (Kd.R_keptB ((Kd.R_apart' HO_276001.out (Kd.R_typed HO_285002.out) q8_44)) hkp (fun k_ hk_ hs_ => Or.elim hs_ (fun e_ => (hk_.1.2) e_) (fun e_ => (hk_.2) e_))) (fun k_ hk_ => ⟨hk_.1.1.1, hk_.1.1.2⟩)); have n3_ := Aside0.mk (Kd.R_mono (ok' := fun k_ => some k_ ≠ (.slice Ao25 t263.length co25 : Value).ownBlock ∧ some k_ ≠ (.slice Ao41 t280.length co41 : Value).ownBlock) (Kd.R_keptB ((Kd.R_apart' HO_276002.out (Kd.R_typed HO_285001.out) q8_44)) hkp (fun k_ hk_ hs_ => Or.elim hs_ (fun e_ => (hk_.2) e_) (fun e_ => (hk_.1.2) e_))) (fun k_ hk_ => ⟨hk_.1.1.1, hk_.1.1.2⟩)); have n4_ := Aside0.mk (Kd.R_reok rfl hy0 (fun k_ e_ => HO_285001.out.1 k_ e_)); have n5_ := Aside0.mk (Kd.R_reok rfl hy1 (fun k_ e_ => HO_285002.out.1 k_ e_)); have n6_ := Aside0.mk (blk_kept q8_1 hkp (fun hs_ => Or.elim hs_ (fun e_ => (fun e_ => (Kd.R_ne HO_285001.out BK250.out q8_44) e_) e_) (fun e_ => (fun e_ => (Kd.R_ne HO_285002.out BK250.out q8_44) e_) e_))); have n7_ := Aside0.mk (blk_kept q8_2 hkp (fun hs_ => Or.elim hs_ (fun e_ => (fun e_ => (Kd.R_ne HO_285001.out BK267.out q8_44) e_) e_) (fun e_ => (fun e_ => (Kd.R_ne HO_285002.out BK267.out q8_44) e_) e_))); have n8_ := Aside0.mk (blk_kept q8_3 hkp (fun hs_ => Or.elim hs_ (fun e_ => (fun e_ => (Kd.R_ne HO_285001.out BK275.out q8_44) e_) e_) (fun e_ => (fun e_ => (Kd.R_ne HO_285002.out BK275.out q8_44) e_) e_))); have n9_ := Aside0.mk (blk_kept q8_5 hkp (fun hs_ => Or.elim hs_ (fun e_ => (fun e_ => (Kd.R_ne HO_285001.out BK284.out q8_44) e_) e_) (fun e_ => (fun e_ => (Kd.R_ne HO_285002.out BK284.out q8_44) e_) e_))); have n10_ := Aside0.mk (hb); clear HO_268001; clear HO_268002; clear HO_276001; clear HO_276002; clear HO_285001; clear HO_285002; clear BK250; clear BK267; clear BK275; clear BK284; clear HB; have HO_268001 := n0_; have HO_268002 := n1_; have HO_276001 := n2_; have HO_276002 := n3_; have HO_285001 := n4_; have HO_285002 := n5_; have BK250 := n6_; have BK267 := n7_; have BK275 := n8_; have BK284 := n9_; have HB := n10_; clear n0_ n1_ n2_ n3_ n4_ n5_ n6_ n7_ n8_ n9_ n10_; (try clear hb); (try clear hkp); (try clear hy0); (try clear hy1); have hcz104_0 : w103.cell? ⟨gb284, 0, none⟩ = some (.int .i64 t276) := (blk_cell BK284.out 0).trans rfl; have hcz104_1 : w103.cell? ⟨gb284, 1, none⟩ = some (.slice Ao40 t277.length co40) := (blk_cell BK284.out 1).trans rfl; have hcz104_2 : w103.cell? ⟨gb284, 2, none⟩ = some (.slice Ao41 t280.length co41) := (blk_cell BK284.out 2).trans rfl; have hfz104_0 := blk_frozen BK284.out 0; have hfz104_1 := blk_frozen BK284.out 1; have hfz104_2 := blk_frozen BK284.out 2) | ((with_reducible refine gate_callee (f := 19) rfl ?_); refine goesL_ (some 71) rfl rfl Try.func19 (by kernel_rfl) rfl #[.agg #[.int .i64 t276, .slice Ao40 t299.length co40, .slice Ao41 t300.length co41], .int .i64 1] rfl q8_34 ?_; (with_reducible refine (laws_heldAges.calls kj64 t276 _ _ t299 _ _ t300 1 t301 _ ?side1 ?side2 ?side3 ?side4 A97.out).mono ?_); (case side1 => exact q8_23); (case side2 => rw [show t299.length = t277.length from (Kd.R_reads' HO_285001.out).1.symm]; exact (Kd.R_reads' HO_285001.out).2.1); (case side3 => exact q8_24); (case side4 => rw [show t300.length = t280.length from (Kd.R_reads' HO_285002.out).1.symm]; exact (Kd.R_reads' HO_285002.out).2.1); rintro e w105 ⟨rfl, hb⟩; refine ⟨_, rfl, ?_⟩; have n0_ := Aside0.mk (Kd.R_below q8_7 hb); have n1_ := Aside0.mk (Kd.R_below q8_8 hb); have n2_ := Aside0.mk (Kd.R_below q8_9 hb); have n3_ := Aside0.mk (Kd.R_below q8_10 hb); have n4_ := Aside0.mk (Kd.R_below q8_11 hb); have n5_ := Aside0.mk (Kd.R_below q8_12 hb); have n6_ := Aside0.mk (blk_below (g := gb250) (o := .cells #[.int .i64 a0_0, .slice A0_1 l0_1.length c0_1, .slice A0_2 l0_2.length c0_2] 25 (0, 0)) q8_1 hb); have n7_ := Aside0.mk (blk_below (g := gb267) (o := .cells #[.int .i64 t259, .slice Ao24 t260.length co24, .slice Ao25 t263.length co25] 30 (0, 0)) q8_2 hb); have n8_ := Aside0.mk (blk_below (g := gb275) (o := .cells #[.int .i64 t268, .slice Ao32 t295.length co32, .slice Ao33 t296.length co33] 30 (0, 0)) q8_3 hb); have n9_ := Aside0.mk (blk_below (g := gb284) (o := .cells #[.int .i64 t276, .slice Ao40 t277.length co40, .slice Ao41 t280.length co41] 30 (0, 0)) q8_5 hb); have n10_ := Aside0.mk (below_step q8_0 hb); clear HO_268001; clear HO_268002; clear HO_276001; clear HO_276002; clear HO_285001; clear HO_285002; clear BK250; clear BK267; clear BK275; clear BK284; clear HB; have HO_268001 := n0_; have HO_268002 := n1_; have HO_276001 := n2_; have HO_276002 := n3_; have HO_285001 := n4_; have HO_285002 := n5_; have BK250 := n6_; have BK267 := n7_; have BK275 := n8_; have BK284 := n9_; have HB := n10_; clear n0_ n1_ n2_ n3_ n4_ n5_ n6_ n7_ n8_ n9_ n10_; (try clear hb); (try clear hb2); (try clear hk); (try clear hi)))
          go_ret
          exact ⟨q8_30, q8_0⟩
         ·rw [if_neg c98] at H
          have c98b0 : decide (t301 < 0) = false := decide_eq_false c98
          clear c98
          by_cases c106 : t301 = t298
          ·rw [if_pos c106] at H
           have c106b0 : (t301 == t298) = true := beq_iff_eq.mpr c106
           have c106b1 : (t301 != t298) = false := bne_eq_false_iff_eq.mpr c106
           clear c106
           replace H := Option.bind_eq_some_iff.mp H
           obtain ⟨⟨t302, t303, t306⟩, A1070, H⟩ := H
           replace H : ((impl_Unpin.f kj64 t302 t303 t306 a1).bind fun bt309 => ((laws_eqAges.f kj64 bt309.1 bt309.2.1 bt309.2.2.1 t259 t260 t263).bind fun t318 => (if t318 = true then (laws_FnExactUnpin.j2 kj64 t298 (bt309.2.2.2 != t266) t276 t299 t300) else (laws_FnExactUnpin.j2 kj64 t298 true t276 t299 t300)))) = some r := H
           have A107 := Aside0.mk A1070
           clear A1070
           replace H := Option.bind_eq_some_iff.mp H
           obtain ⟨⟨t309, t310, t313, t316⟩, A1080, H⟩ := H
           replace H : ((laws_eqAges.f kj64 t309 t310 t313 t259 t260 t263).bind fun t318 => (if t318 = true then (laws_FnExactUnpin.j2 kj64 t298 (t316 != t266) t276 t299 t300) else (laws_FnExactUnpin.j2 kj64 t298 true t276 t299 t300))) = some r := H
           have A108 := Aside0.mk A1080
           clear A1080
           have HC109 := Aside0.mk H
           clear H
           have hnb110 := NB284_250.out
           have hnc110 := NB250_284.out
           have hnb111 := NB284_267.out
           have hnc111 := NB267_284.out
           have hnb112 := NB284_275.out
           have hnc112 := NB275_284.out
           have hcz113_0 : wc.cell? ⟨gb284, 0, none⟩ = some (.int .i64 t276) := (blk_cell BK284.out 0).trans rfl
           have hcz113_1 : wc.cell? ⟨gb284, 1, none⟩ = some (.slice Ao40 t277.length co40) := (blk_cell BK284.out 1).trans rfl
           have hcz113_2 : wc.cell? ⟨gb284, 2, none⟩ = some (.slice Ao41 t280.length co41) := (blk_cell BK284.out 2).trans rfl
           have hfz113_0 := blk_frozen BK284.out 0
           have hfz113_1 := blk_frozen BK284.out 1
           have hfz113_2 := blk_frozen BK284.out 2
           go_upto_region 25 with (first | ((with_reducible refine gate_callee (f := 18) rfl ?_); refine goesL_ (some 68) rfl rfl Try.func18 (by kernel_rfl) rfl #[.agg #[.int .i64 t276, .slice Ao40 t277.length co40, .slice Ao41 t280.length co41], .int .i64 1] rfl q8_4 ?_; (with_reducible refine (laws_markAges.calls kj64 t276 (fun k_ => some k_ = (.slice Ao40 t277.length co40 : Value).ownBlock) (.slice Ao40 t277.length co40) t277 (fun k_ => some k_ = (.slice Ao41 t280.length co41 : Value).ownBlock) (.slice Ao41 t280.length co41) t280 1 t298 t299 t300 w _ ?side1 ?side2 ?side3 A96.out).mono ?_); (case side1 => exact q8_0); (case side2 => exact Kd.R_tight rfl HO_285001.out); (case side3 => exact Kd.R_tight rfl HO_285002.out); rintro e w114 ⟨rfl, hy0, hy1, hb, hkp⟩; refine ⟨_, rfl, ?_⟩; have n0_ := Aside0.mk (Kd.R_mono (ok' := fun k_ => some k_ ≠ (.slice Ao32 t295.length co32 : Value).ownBlock ∧ some k_ ≠ (.slice Ao40 t277.length co40 : Value).ownBlock) (Kd.R_keptB ((Kd.R_apart' HO_268001.out (Kd.R_typed HO_285002.out) q8_44)) hkp (fun k_ hk_ hs_ => Or.elim hs_ (fun e_ => (hk_.1.2) e_) (fun e_ => (hk_.2) e_))) (fun k_ hk_ => ⟨hk_.1.1.1, hk_.1.1.2⟩)); have n1_ := Aside0.mk (Kd.R_mono (ok' := fun k_ => some k_ ≠ (.slice Ao33 t296.length co33 : Value).ownBlock ∧ some k_ ≠ (.slice Ao41 t280.length co41 : Value).ownBlock) (Kd.R_keptB ((Kd.R_apart' HO_268002.out (Kd.R_typed HO_285001.out) q8_44)) hkp (fun k_ hk_ hs_ => Or.elim hs_ (fun e_ => (hk_.2) e_) (fun e_ => (hk_.1.2) e_))) (fun k_ hk_ => ⟨hk_.1.1.1, hk_.1.1.2⟩)); have n2_ := Aside0.mk (Kd.R_mono (ok' := fun k_ => some k_ ≠ (.slice Ao24 t260.length co24 : Value).ownBlock ∧ some k_ ≠ (.slice Ao40 t277.length co40 : Value).ownBlock) (Kd.R_keptB ((Kd.R_apart' HO_276001.out (Kd.R_typed HO_285002.out) q8_44)) hkp (fun k_ hk_ hs_ => Or.elim hs_ (fun e_ => (hk_.1.2) e_) (fun e_ => (hk_.2) e_))) (fun k_ hk_ => ⟨hk_.1.1.1, hk_.1.1.2⟩)); have n3_ := Aside0.mk (Kd.R_mono (ok' := fun k_ => some k_ ≠ (.slice Ao25 t263.length co25 : Value).ownBlock ∧ some k_ ≠ (.slice Ao41 t280.length co41 : Value).ownBlock) (Kd.R_keptB ((Kd.R_apart' HO_276002.out (Kd.R_typed HO_285001.out) q8_44)) hkp (fun k_ hk_ hs_ => Or.elim hs_ (fun e_ => (hk_.2) e_) (fun e_ => (hk_.1.2) e_))) (fun k_ hk_ => ⟨hk_.1.1.1, hk_.1.1.2⟩)); have n4_ := Aside0.mk (Kd.R_reok rfl hy0 (fun k_ e_ => HO_285001.out.1 k_ e_)); have n5_ := Aside0.mk (Kd.R_reok rfl hy1 (fun k_ e_ => HO_285002.out.1 k_ e_)); have n6_ := Aside0.mk (blk_kept q8_1 hkp (fun hs_ => Or.elim hs_ (fun e_ => (fun e_ => (Kd.R_ne HO_285001.out BK250.out q8_44) e_) e_) (fun e_ => (fun e_ => (Kd.R_ne HO_285002.out BK250.out q8_44) e_) e_))); have n7_ := Aside0.mk (blk_kept q8_2 hkp (fun hs_ => Or.elim hs_ (fun e_ => (fun e_ => (Kd.R_ne HO_285001.out BK267.out q8_44) e_) e_) (fun e_ => (fun e_ => (Kd.R_ne HO_285002.out BK267.out q8_44) e_) e_))); have n8_ := Aside0.mk (blk_kept q8_3 hkp (fun hs_ => Or.elim hs_ (fun e_ => (fun e_ => (Kd.R_ne HO_285001.out BK275.out q8_44) e_) e_) (fun e_ => (fun e_ => (Kd.R_ne HO_285002.out BK275.out q8_44) e_) e_))); have n9_ := Aside0.mk (blk_kept q8_5 hkp (fun hs_ => Or.elim hs_ (fun e_ => (fun e_ => (Kd.R_ne HO_285001.out BK284.out q8_44) e_) e_) (fun e_ => (fun e_ => (Kd.R_ne HO_285002.out BK284.out q8_44) e_) e_))); have n10_ := Aside0.mk (hb); clear HO_268001; clear HO_268002; clear HO_276001; clear HO_276002; clear HO_285001; clear HO_285002; clear BK250; clear BK267; clear BK275; clear BK284; clear HB; have HO_268001 := n0_; have HO_268002 := n1_; have HO_276001 := n2_; have HO_276002 := n3_; have HO_285001 := n4_; have HO_285002 := n5_; have BK250 := n6_; have BK267 := n7_; have BK275 := n8_; have BK284 := n9_; have HB := n10_; clear n0_ n1_ n2_ n3_ n4_ n5_ n6_ n7_ n8_ n9_ n10_; (try clear hb); (try clear hkp); (try clear hy0); (try clear hy1); have hcz115_0 : w114.cell? ⟨gb284, 0, none⟩ = some (.int .i64 t276) := (blk_cell BK284.out 0).trans rfl; have hcz115_1 : w114.cell? ⟨gb284, 1, none⟩ = some (.slice Ao40 t277.length co40) := (blk_cell BK284.out 1).trans rfl; have hcz115_2 : w114.cell? ⟨gb284, 2, none⟩ = some (.slice Ao41 t280.length co41) := (blk_cell BK284.out 2).trans rfl; have hfz115_0 := blk_frozen BK284.out 0; have hfz115_1 := blk_frozen BK284.out 1; have hfz115_2 := blk_frozen BK284.out 2) | ((with_reducible refine gate_callee (f := 19) rfl ?_); refine goesL_ (some 71) rfl rfl Try.func19 (by kernel_rfl) rfl #[.agg #[.int .i64 t276, .slice Ao40 t299.length co40, .slice Ao41 t300.length co41], .int .i64 1] rfl q8_34 ?_; (with_reducible refine (laws_heldAges.calls kj64 t276 _ _ t299 _ _ t300 1 t301 _ ?side1 ?side2 ?side3 ?side4 A97.out).mono ?_); (case side1 => exact q8_23); (case side2 => rw [show t299.length = t277.length from (Kd.R_reads' HO_285001.out).1.symm]; exact (Kd.R_reads' HO_285001.out).2.1); (case side3 => exact q8_24); (case side4 => rw [show t300.length = t280.length from (Kd.R_reads' HO_285002.out).1.symm]; exact (Kd.R_reads' HO_285002.out).2.1); rintro e w116 ⟨rfl, hb⟩; refine ⟨_, rfl, ?_⟩; have n0_ := Aside0.mk (Kd.R_below q8_7 hb); have n1_ := Aside0.mk (Kd.R_below q8_8 hb); have n2_ := Aside0.mk (Kd.R_below q8_9 hb); have n3_ := Aside0.mk (Kd.R_below q8_10 hb); have n4_ := Aside0.mk (Kd.R_below q8_11 hb); have n5_ := Aside0.mk (Kd.R_below q8_12 hb); have n6_ := Aside0.mk (blk_below (g := gb250) (o := .cells #[.int .i64 a0_0, .slice A0_1 l0_1.length c0_1, .slice A0_2 l0_2.length c0_2] 25 (0, 0)) q8_1 hb); have n7_ := Aside0.mk (blk_below (g := gb267) (o := .cells #[.int .i64 t259, .slice Ao24 t260.length co24, .slice Ao25 t263.length co25] 30 (0, 0)) q8_2 hb); have n8_ := Aside0.mk (blk_below (g := gb275) (o := .cells #[.int .i64 t268, .slice Ao32 t295.length co32, .slice Ao33 t296.length co33] 30 (0, 0)) q8_3 hb); have n9_ := Aside0.mk (blk_below (g := gb284) (o := .cells #[.int .i64 t276, .slice Ao40 t277.length co40, .slice Ao41 t280.length co41] 30 (0, 0)) q8_5 hb); have n10_ := Aside0.mk (below_step q8_0 hb); clear HO_268001; clear HO_268002; clear HO_276001; clear HO_276002; clear HO_285001; clear HO_285002; clear BK250; clear BK267; clear BK275; clear BK284; clear HB; have HO_268001 := n0_; have HO_268002 := n1_; have HO_276001 := n2_; have HO_276002 := n3_; have HO_285001 := n4_; have HO_285002 := n5_; have BK250 := n6_; have BK267 := n7_; have BK275 := n8_; have BK284 := n9_; have HB := n10_; clear n0_ n1_ n2_ n3_ n4_ n5_ n6_ n7_ n8_ n9_ n10_; (try clear hb); (try clear hb2); (try clear hk); (try clear hi); have hnb117 := NB250_267.out; have hnc117 := NB267_250.out; have hnb118 := NB250_275.out; have hnc118 := NB275_250.out; have hcz119_0 : w116.cell? ⟨gb250, 0, none⟩ = some (.int .i64 a0_0) := (blk_cell BK250.out 0).trans rfl; have hcz119_1 : w116.cell? ⟨gb250, 1, none⟩ = some (.slice A0_1 l0_1.length c0_1) := (blk_cell BK250.out 1).trans rfl; have hcz119_2 : w116.cell? ⟨gb250, 2, none⟩ = some (.slice A0_2 l0_2.length c0_2) := (blk_cell BK250.out 2).trans rfl; have hfz119_0 := blk_frozen BK250.out 0; have hfz119_1 := blk_frozen BK250.out 1; have hfz119_2 := blk_frozen BK250.out 2) | ((with_reducible refine gate_callee (f := 13) rfl ?_); refine goesL_ (some 79) rfl rfl Try.func13 (by kernel_rfl) rfl #[.agg #[.int .i64 a0_0, .slice A0_1 l0_1.length c0_1, .slice A0_2 l0_2.length c0_2]] rfl q8_4 ?_; (with_reducible refine (laws_toAges.calls kj64 a0_0 _ _ l0_1 _ _ l0_2 t302 t303 t306 _ ?side1 ?side2 ?side3 ?side4 A107.out).mono ?_); (case side1 => exact q8_26); (case side2 => exact HC0_1.out); (case side3 => exact q8_27); (case side4 => exact HC0_2.out); rintro e w120 ⟨v304, v307, rfl, ho0, ho1, hb⟩; refine ⟨_, rfl, ?_⟩; have n0_ := Aside0.mk (Kd.R_elder' q8_7 (Kd.R_base ho0) hb); have n1_ := Aside0.mk (Kd.R_elder' q8_8 (Kd.R_base ho1) hb); have n2_ := Aside0.mk (Kd.R_elder' q8_9 (Kd.R_base ho0) hb); have n3_ := Aside0.mk (Kd.R_elder' q8_10 (Kd.R_base ho1) hb); have n4_ := Aside0.mk (Kd.R_elder' q8_11 (Kd.R_base ho0) hb); have n5_ := Aside0.mk (Kd.R_elder' q8_12 (Kd.R_base ho1) hb); have n6_ := Aside0.mk (Kd.R_lower (Kd.R_new' (Kd.R_new' (Kd.R_new' ho0 (Kd.R_lt q8_7)) (Kd.R_lt q8_9)) (Kd.R_lt q8_11)) (below_size q8_0)); have n7_ := Aside0.mk (Kd.R_lower (Kd.R_new' (Kd.R_new' (Kd.R_new' ho1 (Kd.R_lt q8_8)) (Kd.R_lt q8_10)) (Kd.R_lt q8_12)) (below_size q8_0)); have n8_ := Aside0.mk (blk_below (g := gb250) (o := .cells #[.int .i64 a0_0, .slice A0_1 l0_1.length c0_1, .slice A0_2 l0_2.length c0_2] 25 (0, 0)) q8_1 hb); have n9_ := Aside0.mk (blk_below (g := gb267) (o := .cells #[.int .i64 t259, .slice Ao24 t260.length co24, .slice Ao25 t263.length co25] 30 (0, 0)) q8_2 hb); have n10_ := Aside0.mk (blk_below (g := gb275) (o := .cells #[.int .i64 t268, .slice Ao32 t295.length co32, .slice Ao33 t296.length co33] 30 (0, 0)) q8_3 hb); have n11_ := Aside0.mk (blk_below (g := gb284) (o := .cells #[.int .i64 t276, .slice Ao40 t277.length co40, .slice Ao41 t280.length co41] 30 (0, 0)) q8_5 hb); have n12_ := Aside0.mk (below_step q8_0 hb); clear HO_268001; clear HO_268002; clear HO_276001; clear HO_276002; clear HO_285001; clear HO_285002; clear BK250; clear BK267; clear BK275; clear BK284; clear HB; have HO_268001 := n0_; have HO_268002 := n1_; have HO_276001 := n2_; have HO_276002 := n3_; have HO_285001 := n4_; have HO_285002 := n5_; have HO305 := n6_; have HO308 := n7_; have BK250 := n8_; have BK267 := n9_; have BK275 := n10_; have BK284 := n11_; have HB := n12_; clear n0_ n1_ n2_ n3_ n4_ n5_ n6_ n7_ n8_ n9_ n10_ n11_ n12_; (try clear hb); (try clear hb2); (try clear hk); (try clear hi); (try clear ho0); (try clear ho1); obtain ⟨Ao121, co121, eo121⟩ := Kd.R_slice HO305.out; subst eo121; obtain ⟨Ao122, co122, eo122⟩ := Kd.R_slice HO308.out; subst eo122) | ((with_reducible refine gate_callee (f := 23) rfl ?_); refine goesL_ (some 81) rfl rfl Try.func23 (by kernel_rfl) rfl #[.agg #[.int .i64 t302, .slice Ao121 t303.length co121, .slice Ao122 t306.length co122], .int .i64 a1] rfl q8_4 ?_; (with_reducible refine (impl_Unpin.calls kj64 t302 _ _ t303 _ _ t306 a1 t309 t310 t313 t316 _ ?side1 ?side2 ?side3 ?side4 A108.out).mono ?_); (case side1 => repeat (first | exact (Kd.R_reads' HO305.out).2.2 | (with_reducible refine Kd.C_alloc ?_ _) | (with_reducible refine Kd.C_drewN ?_ _) | (with_reducible refine Kd.C_drew ?_))); (case side2 => exact (Kd.R_reads' HO305.out).2.1); (case side3 => repeat (first | exact (Kd.R_reads' HO308.out).2.2 | (with_reducible refine Kd.C_alloc ?_ _) | (with_reducible refine Kd.C_drewN ?_ _) | (with_reducible refine Kd.C_drew ?_))); (case side4 => exact (Kd.R_reads' HO308.out).2.1); rintro e w123 ⟨v311, v314, rfl, ho0, ho1, hb⟩; refine ⟨_, rfl, ?_⟩; have n0_ := Aside0.mk (Kd.R_elder' q8_7 (Kd.R_base ho0) hb); have n1_ := Aside0.mk (Kd.R_elder' q8_8 (Kd.R_base ho1) hb); have n2_ := Aside0.mk (Kd.R_elder' q8_9 (Kd.R_base ho0) hb); have n3_ := Aside0.mk (Kd.R_elder' q8_10 (Kd.R_base ho1) hb); have n4_ := Aside0.mk (Kd.R_elder' q8_11 (Kd.R_base ho0) hb); have n5_ := Aside0.mk (Kd.R_elder' q8_12 (Kd.R_base ho1) hb); have n6_ := Aside0.mk (Kd.R_elder' (by (with_reducible repeat (first | apply Kd.R_alloc | apply Kd.R_drewN | apply Kd.R_drew)); exact HO305.out) (Kd.R_base ho0) hb); have n7_ := Aside0.mk (Kd.R_elder' (by (with_reducible repeat (first | apply Kd.R_alloc | apply Kd.R_drewN | apply Kd.R_drew)); exact HO308.out) (Kd.R_base ho1) hb); have n8_ := Aside0.mk (Kd.R_lower (Kd.R_new' (Kd.R_new' (Kd.R_new' (Kd.R_new' ho0 (Kd.R_lt q8_7)) (Kd.R_lt q8_9)) (Kd.R_lt q8_11)) (Kd.R_lt (by (with_reducible repeat (first | apply Kd.R_alloc | apply Kd.R_drewN | apply Kd.R_drew)); exact HO305.out))) (below_size q8_0)); have n9_ := Aside0.mk (Kd.R_lower (Kd.R_new' (Kd.R_new' (Kd.R_new' (Kd.R_new' ho1 (Kd.R_lt q8_8)) (Kd.R_lt q8_10)) (Kd.R_lt q8_12)) (Kd.R_lt (by (with_reducible repeat (first | apply Kd.R_alloc | apply Kd.R_drewN | apply Kd.R_drew)); exact HO308.out))) (below_size q8_0)); have n10_ := Aside0.mk (blk_below (g := gb250) (o := .cells #[.int .i64 a0_0, .slice A0_1 l0_1.length c0_1, .slice A0_2 l0_2.length c0_2] 25 (0, 0)) q8_1 hb); have n11_ := Aside0.mk (blk_below (g := gb267) (o := .cells #[.int .i64 t259, .slice Ao24 t260.length co24, .slice Ao25 t263.length co25] 30 (0, 0)) q8_2 hb); have n12_ := Aside0.mk (blk_below (g := gb275) (o := .cells #[.int .i64 t268, .slice Ao32 t295.length co32, .slice Ao33 t296.length co33] 30 (0, 0)) q8_3 hb); have n13_ := Aside0.mk (blk_below (g := gb284) (o := .cells #[.int .i64 t276, .slice Ao40 t277.length co40, .slice Ao41 t280.length co41] 30 (0, 0)) q8_5 hb); have n14_ := Aside0.mk (below_step q8_0 hb); clear HO_268001; clear HO_268002; clear HO_276001; clear HO_276002; clear HO_285001; clear HO_285002; clear HO305; clear HO308; clear BK250; clear BK267; clear BK275; clear BK284; clear HB; have HO_268001 := n0_; have HO_268002 := n1_; have HO_276001 := n2_; have HO_276002 := n3_; have HO_285001 := n4_; have HO_285002 := n5_; have HO305 := n6_; have HO308 := n7_; have HO312 := n8_; have HO315 := n9_; have BK250 := n10_; have BK267 := n11_; have BK275 := n12_; have BK284 := n13_; have HB := n14_; clear n0_ n1_ n2_ n3_ n4_ n5_ n6_ n7_ n8_ n9_ n10_ n11_ n12_ n13_ n14_; (try clear hb); (try clear hb2); (try clear hk); (try clear hi); (try clear ho0); (try clear ho1)) | ((with_reducible refine gate_dst (N := 14) rfl ?_); refine box_event ?hg (N := 14) ?hd (cs := #[.int .i64 0, .slice none 0 0, .slice none 0 0]) (t := 30) ?hr ?_; (case hd => rfl); (case hg => rfl); (case hr => first | (go_simp; done) | (go_simp; rfl)); intro gb317 hg w124 hbox hb; have n0_ := Aside0.mk (Kd.R_below q8_7 hb); have n1_ := Aside0.mk (Kd.R_below q8_8 hb); have n2_ := Aside0.mk (Kd.R_below q8_9 hb); have n3_ := Aside0.mk (Kd.R_below q8_10 hb); have n4_ := Aside0.mk (Kd.R_below q8_11 hb); have n5_ := Aside0.mk (Kd.R_below q8_12 hb); have n6_ := Aside0.mk (Kd.R_below (by (with_reducible repeat (first | apply Kd.R_alloc | apply Kd.R_drewN | apply Kd.R_drew)); exact HO305.out) hb); have n7_ := Aside0.mk (Kd.R_below (by (with_reducible repeat (first | apply Kd.R_alloc | apply Kd.R_drewN | apply Kd.R_drew)); exact HO308.out) hb); have n8_ := Aside0.mk (Kd.R_below (by (with_reducible repeat (first | apply Kd.R_alloc | apply Kd.R_drewN | apply Kd.R_drew)); exact HO312.out) hb); have n9_ := Aside0.mk (Kd.R_below (by (with_reducible repeat (first | apply Kd.R_alloc | apply Kd.R_drewN | apply Kd.R_drew)); exact HO315.out) hb); have n10_ := Aside0.mk (blk_below (g := gb250) (o := .cells #[.int .i64 a0_0, .slice A0_1 l0_1.length c0_1, .slice A0_2 l0_2.length c0_2] 25 (0, 0)) q8_1 hb); have n11_ := Aside0.mk (blk_below (g := gb267) (o := .cells #[.int .i64 t259, .slice Ao24 t260.length co24, .slice Ao25 t263.length co25] 30 (0, 0)) q8_2 hb); have n12_ := Aside0.mk (blk_below (g := gb275) (o := .cells #[.int .i64 t268, .slice Ao32 t295.length co32, .slice Ao33 t296.length co33] 30 (0, 0)) q8_3 hb); have n13_ := Aside0.mk (blk_below (g := gb284) (o := .cells #[.int .i64 t276, .slice Ao40 t277.length co40, .slice Ao41 t280.length co41] 30 (0, 0)) q8_5 hb); have n14_ := Aside0.mk (below_step q8_0 hb); have n15_ := Aside0.mk (hbox); have n16_ := Aside0.mk ((by rw [hg]; exact (below_size q8_0) : w.heap.size ≤ gb317)); have n17_ := Aside0.mk ((by rw [hg]; exact (below_size q8_0) : w.heap.size ≤ gb317)); have n18_ := Aside0.mk ((q8_42 : gb250 ≠ gb317)); have n19_ := Aside0.mk ((q8_43 : gb317 ≠ gb250)); have n20_ := Aside0.mk ((by rw [hg]; exact Nat.ne_of_lt (blk_lt (g := gb267) (o := .cells #[.int .i64 t259, .slice Ao24 t260.length co24, .slice Ao25 t263.length co25] 30 (0, 0)) q8_2) : gb267 ≠ gb317)); have n21_ := Aside0.mk ((by rw [hg]; exact Nat.ne_of_gt (blk_lt (g := gb267) (o := .cells #[.int .i64 t259, .slice Ao24 t260.length co24, .slice Ao25 t263.length co25] 30 (0, 0)) q8_2) : gb317 ≠ gb267)); have n22_ := Aside0.mk ((by rw [hg]; exact Nat.ne_of_lt (blk_lt (g := gb275) (o := .cells #[.int .i64 t268, .slice Ao32 t295.length co32, .slice Ao33 t296.length co33] 30 (0, 0)) q8_3) : gb275 ≠ gb317)); have n23_ := Aside0.mk ((by rw [hg]; exact Nat.ne_of_gt (blk_lt (g := gb275) (o := .cells #[.int .i64 t268, .slice Ao32 t295.length co32, .slice Ao33 t296.length co33] 30 (0, 0)) q8_3) : gb317 ≠ gb275)); have n24_ := Aside0.mk ((by rw [hg]; exact Nat.ne_of_lt (blk_lt (g := gb284) (o := .cells #[.int .i64 t276, .slice Ao40 t277.length co40, .slice Ao41 t280.length co41] 30 (0, 0)) q8_5) : gb284 ≠ gb317)); have n25_ := Aside0.mk ((by rw [hg]; exact Nat.ne_of_gt (blk_lt (g := gb284) (o := .cells #[.int .i64 t276, .slice Ao40 t277.length co40, .slice Ao41 t280.length co41] 30 (0, 0)) q8_5) : gb317 ≠ gb284)); clear HO_268001; clear HO_268002; clear HO_276001; clear HO_276002; clear HO_285001; clear HO_285002; clear HO305; clear HO308; clear HO312; clear HO315; clear BK250; clear BK267; clear BK275; clear BK284; clear HB; have HO_268001 := n0_; have HO_268002 := n1_; have HO_276001 := n2_; have HO_276002 := n3_; have HO_285001 := n4_; have HO_285002 := n5_; have HO305 := n6_; have HO308 := n7_; have HO312 := n8_; have HO315 := n9_; have BK250 := n10_; have BK267 := n11_; have BK275 := n12_; have BK284 := n13_; have HB := n14_; have BK317 := n15_; have GW317 := n16_; have GE317 := n17_; have NB250_317 := n18_; have NB317_250 := n19_; have NB267_317 := n20_; have NB317_267 := n21_; have NB275_317 := n22_; have NB317_275 := n23_; have NB284_317 := n24_; have NB317_284 := n25_; clear n0_ n1_ n2_ n3_ n4_ n5_ n6_ n7_ n8_ n9_ n10_ n11_ n12_ n13_ n14_ n15_ n16_ n17_ n18_ n19_ n20_ n21_ n22_ n23_ n24_ n25_; clear hb hbox hg; have hnb125 := NB317_250.out; have hnc125 := NB250_317.out; have hnb126 := NB317_267.out; have hnc126 := NB267_317.out; have hnb127 := NB317_275.out; have hnc127 := NB275_317.out; have hnb128 := NB317_284.out; have hnc128 := NB284_317.out; have hcz129_0 : w124.cell? ⟨gb317, 0, none⟩ = some (.int .i64 0) := (blk_cell BK317.out 0).trans rfl; have hcz129_1 : w124.cell? ⟨gb317, 1, none⟩ = some (.slice none 0 0) := (blk_cell BK317.out 1).trans rfl; have hcz129_2 : w124.cell? ⟨gb317, 2, none⟩ = some (.slice none 0 0) := (blk_cell BK317.out 2).trans rfl; have hfz129_0 := blk_frozen BK317.out 0; have hfz129_1 := blk_frozen BK317.out 1; have hfz129_2 := blk_frozen BK317.out 2; obtain ⟨Ao130, co130, eo130⟩ := Kd.R_slice HO312.out; subst eo130; obtain ⟨Ao131, co131, eo131⟩ := Kd.R_slice HO315.out; subst eo131))
           (try simp only [Act.put, List.setIfInBounds_toArray, List.set_cons_zero, List.set_cons_succ])
           go_cut [92] (fun v92 wc => ∃ (kq : Nat) (x92_108 : Bool), v92 = .bool x92_108 ∧ Aside0 (laws_FnExactUnpin.j2 kq t298 x92_108 t276 t299 t300 = some r) ∧ Aside0 (kq ≤ kj64) ∧ Aside0 (Kd.R (Kd.int .i64) 3 wc w.heap.size (fun k_ => some k_ ≠ ((.slice Ao32 t295.length co32) : Value).ownBlock ∧ some k_ ≠ ((.slice Ao40 t277.length co40) : Value).ownBlock ∧ some k_ ≠ ((.slice Ao130 t310.length co130) : Value).ownBlock) (.slice Ao24 t260.length co24) t260) ∧ Aside0 (Kd.R k48 48 wc w.heap.size (fun k_ => some k_ ≠ ((.slice Ao33 t296.length co33) : Value).ownBlock ∧ some k_ ≠ ((.slice Ao41 t280.length co41) : Value).ownBlock ∧ some k_ ≠ ((.slice Ao131 t313.length co131) : Value).ownBlock) (.slice Ao25 t263.length co25) t263) ∧ Aside0 (Kd.R (Kd.int .i64) 3 wc w.heap.size (fun k_ => some k_ ≠ ((.slice Ao24 t260.length co24) : Value).ownBlock ∧ some k_ ≠ ((.slice Ao40 t277.length co40) : Value).ownBlock ∧ some k_ ≠ ((.slice Ao130 t310.length co130) : Value).ownBlock) (.slice Ao32 t295.length co32) t295) ∧ Aside0 (Kd.R k48 48 wc w.heap.size (fun k_ => some k_ ≠ ((.slice Ao25 t263.length co25) : Value).ownBlock ∧ some k_ ≠ ((.slice Ao41 t280.length co41) : Value).ownBlock ∧ some k_ ≠ ((.slice Ao131 t313.length co131) : Value).ownBlock) (.slice Ao33 t296.length co33) t296) ∧ Aside0 (Kd.R (Kd.int .i64) 3 wc w.heap.size (fun k_ => some k_ ≠ ((.slice Ao24 t260.length co24) : Value).ownBlock ∧ some k_ ≠ ((.slice Ao32 t295.length co32) : Value).ownBlock ∧ some k_ ≠ ((.slice Ao130 t310.length co130) : Value).ownBlock) (.slice Ao40 t277.length co40) t299) ∧ Aside0 (Kd.R k48 48 wc w.heap.size (fun k_ => some k_ ≠ ((.slice Ao25 t263.length co25) : Value).ownBlock ∧ some k_ ≠ ((.slice Ao33 t296.length co33) : Value).ownBlock ∧ some k_ ≠ ((.slice Ao131 t313.length co131) : Value).ownBlock) (.slice Ao41 t280.length co41) t300) ∧ Aside0 (Kd.R (Kd.int .i64) 3 wc w.heap.size (fun k_ => some k_ ≠ ((.slice Ao24 t260.length co24) : Value).ownBlock ∧ some k_ ≠ ((.slice Ao32 t295.length co32) : Value).ownBlock ∧ some k_ ≠ ((.slice Ao40 t277.length co40) : Value).ownBlock) (.slice Ao130 t310.length co130) t310) ∧ Aside0 (Kd.R k48 48 wc w.heap.size (fun k_ => some k_ ≠ ((.slice Ao25 t263.length co25) : Value).ownBlock ∧ some k_ ≠ ((.slice Ao33 t296.length co33) : Value).ownBlock ∧ some k_ ≠ ((.slice Ao41 t280.length co41) : Value).ownBlock) (.slice Ao131 t313.length co131) t313) ∧ Aside0 (wc.heap[gb250]? = some (.cells #[.int .i64 a0_0, (.slice A0_1 l0_1.length c0_1), (.slice A0_2 l0_2.length c0_2)] 25 (0, 0))) ∧ Aside0 (wc.heap[gb267]? = some (.cells #[.int .i64 t259, (.slice Ao24 t260.length co24), (.slice Ao25 t263.length co25)] 30 (0, 0))) ∧ Aside0 (wc.heap[gb275]? = some (.cells #[.int .i64 t268, (.slice Ao32 t295.length co32), (.slice Ao33 t296.length co33)] 30 (0, 0))) ∧ Aside0 (wc.heap[gb284]? = some (.cells #[.int .i64 t276, (.slice Ao40 t277.length co40), (.slice Ao41 t280.length co41)] 30 (0, 0))) ∧ Aside0 (wc.heap[gb317]? = some (.cells #[.int .i64 t309, (.slice Ao130 t310.length co130), (.slice Ao131 t313.length co131)] 30 (0, 0))) ∧ Aside0 (Below w.heap.size w wc))
           case first =>
            have H := HC109.out
            clear HC109
            replace H := Option.bind_eq_some_iff.mp H
            obtain ⟨t318, A1320, H⟩ := H
            replace H : (if t318 = true then (laws_FnExactUnpin.j2 kj64 t298 (t316 != t266) t276 t299 t300) else (laws_FnExactUnpin.j2 kj64 t298 true t276 t299 t300)) = some r := H
            have A132 := Aside0.mk A1320
            clear A1320
            by_cases c133 : t318 = true
            ·subst c133
             have H1 : (laws_FnExactUnpin.j2 kj64 t298 (t316 != t266) t276 t299 t300) = some r := by rw [if_pos rfl] at H; exact H
             clear H
             have H := H1
             clear H1
             have H' := Aside0.mk H
             clear H
             have hnb134 := NB317_250.out
             have hnc134 := NB250_317.out
             have hnb135 := NB317_267.out
             have hnc135 := NB267_317.out
             have hnb136 := NB317_275.out
             have hnc136 := NB275_317.out
             have hnb137 := NB317_284.out
             have hnc137 := NB284_317.out
             have hcz138_0 : w124.cell? ⟨gb317, 0, none⟩ = some (.int .i64 0) := (blk_cell BK317.out 0).trans rfl
             have hcz138_1 : w124.cell? ⟨gb317, 1, none⟩ = some (.slice none 0 0) := (blk_cell BK317.out 1).trans rfl
             have hcz138_2 : w124.cell? ⟨gb317, 2, none⟩ = some (.slice none 0 0) := (blk_cell BK317.out 2).trans rfl
             have hfz138_0 := blk_frozen BK317.out 0
             have hfz138_1 := blk_frozen BK317.out 1
             have hfz138_2 := blk_frozen BK317.out 2
             have hnb139 := NB267_250.out
             have hnc139 := NB250_267.out
             have hnb140 := NB267_275.out
             have hnc140 := NB275_267.out
             have hnb141 := NB267_284.out
             have hnc141 := NB284_267.out
             have hcz142_0 : w124.cell? ⟨gb267, 0, none⟩ = some (.int .i64 t259) := (blk_cell BK267.out 0).trans rfl
             have hcz142_1 : w124.cell? ⟨gb267, 1, none⟩ = some (.slice Ao24 t260.length co24) := (blk_cell BK267.out 1).trans rfl
             have hcz142_2 : w124.cell? ⟨gb267, 2, none⟩ = some (.slice Ao25 t263.length co25) := (blk_cell BK267.out 2).trans rfl
             have hfz142_0 := blk_frozen BK267.out 0
             have hfz142_1 := blk_frozen BK267.out 1
             have hfz142_2 := blk_frozen BK267.out 2
             go_wp2_with (first | ((with_reducible refine gate_callee (f := 15) rfl ?_); refine goesL_ (some 86) rfl rfl Try.func15 (by kernel_rfl) rfl #[.agg #[.int .i64 t309, .slice Ao130 t310.length co130, .slice Ao131 t313.length co131], .agg #[.int .i64 t259, .slice Ao24 t260.length co24, .slice Ao25 t263.length co25]] rfl q8_4 ?_; (with_reducible refine (laws_eqAges.calls kj64 t309 _ _ t310 _ _ t313 t259 _ _ t260 _ _ t263 true _ ?side1 ?side2 ?side3 ?side4 ?side5 ?side6 ?side7 ?side8 A132.out).mono ?_); (case side1 => refine (Kd.R_reads' (e := 3) (base := w.heap.size) (ok := fun k_ => ((((True ∧ some k_ ≠ (.slice Ao24 t260.length co24 : Value).ownBlock) ∧ some k_ ≠ (.slice Ao32 t295.length co32 : Value).ownBlock) ∧ some k_ ≠ (.slice Ao40 t277.length co40 : Value).ownBlock) ∧ some k_ ≠ (.slice Ao121 t303.length co121 : Value).ownBlock)) (n := t310.length) (c := co130) ?_).2.2; exact q8_17); (case side2 => exact (Kd.R_reads' HO312.out).2.1); (case side3 => refine (Kd.R_reads' (e := 48) (base := w.heap.size) (ok := fun k_ => ((((True ∧ some k_ ≠ (.slice Ao25 t263.length co25 : Value).ownBlock) ∧ some k_ ≠ (.slice Ao33 t296.length co33 : Value).ownBlock) ∧ some k_ ≠ (.slice Ao41 t280.length co41 : Value).ownBlock) ∧ some k_ ≠ (.slice Ao122 t306.length co122 : Value).ownBlock)) (n := t313.length) (c := co131) ?_).2.2; exact q8_18); (case side4 => exact (Kd.R_reads' HO315.out).2.1); (case side5 => refine (Kd.R_reads' (e := 3) (base := w.heap.size) (ok := fun k_ => (((some k_ ≠ (.slice Ao32 t295.length co32 : Value).ownBlock ∧ some k_ ≠ (.slice Ao40 t277.length co40 : Value).ownBlock) ∧ some k_ ≠ (.slice Ao121 t303.length co121 : Value).ownBlock) ∧ some k_ ≠ (.slice Ao130 t310.length co130 : Value).ownBlock)) (n := t260.length) (c := co24) ?_).2.2; exact q8_15); (case side6 => exact (Kd.R_reads' HO_268001.out).2.1); (case side7 => refine (Kd.R_reads' (e := 48) (base := w.heap.size) (ok := fun k_ => (((some k_ ≠ (.slice Ao33 t296.length co33 : Value).ownBlock ∧ some k_ ≠ (.slice Ao41 t280.length co41 : Value).ownBlock) ∧ some k_ ≠ (.slice Ao122 t306.length co122 : Value).ownBlock) ∧ some k_ ≠ (.slice Ao131 t313.length co131 : Value).ownBlock)) (n := t263.length) (c := co25) ?_).2.2; exact q8_16); (case side8 => exact (Kd.R_reads' HO_268002.out).2.1); rintro e w143 ⟨rfl, hb⟩; refine ⟨_, rfl, ?_⟩; have n0_ := Aside0.mk (Kd.R_below q8_15 hb); have n1_ := Aside0.mk (Kd.R_below q8_16 hb); have n2_ := Aside0.mk (Kd.R_below q8_45 hb); have n3_ := Aside0.mk (Kd.R_below q8_46 hb); have n4_ := Aside0.mk (Kd.R_below q8_47 hb); have n5_ := Aside0.mk (Kd.R_below q8_48 hb); have n6_ := Aside0.mk (Kd.R_below q8_49 hb); have n7_ := Aside0.mk (Kd.R_below q8_50 hb); have n8_ := Aside0.mk (Kd.R_below q8_17 hb); have n9_ := Aside0.mk (Kd.R_below q8_18 hb); have n10_ := Aside0.mk (blk_below (g := gb250) (o := .cells #[.int .i64 a0_0, .slice A0_1 l0_1.length c0_1, .slice A0_2 l0_2.length c0_2] 25 (0, 0)) q8_38 hb); have n11_ := Aside0.mk (blk_below (g := gb267) (o := .cells #[.int .i64 t259, .slice Ao24 t260.length co24, .slice Ao25 t263.length co25] 30 (0, 0)) q8_39 hb); have n12_ := Aside0.mk (blk_below (g := gb275) (o := .cells #[.int .i64 t268, .slice Ao32 t295.length co32, .slice Ao33 t296.length co33] 30 (0, 0)) q8_40 hb); have n13_ := Aside0.mk (blk_below (g := gb284) (o := .cells #[.int .i64 t276, .slice Ao40 t277.length co40, .slice Ao41 t280.length co41] 30 (0, 0)) q8_41 hb); have n14_ := Aside0.mk (blk_below (g := gb317) (o := .cells #[.int .i64 t309, .slice Ao130 t310.length co130, .slice Ao131 t313.length co131] 30 (0, 0)) q8_31 hb); have n15_ := Aside0.mk (below_step q8_6 hb); clear HO_268001; clear HO_268002; clear HO_276001; clear HO_276002; clear HO_285001; clear HO_285002; clear HO305; clear HO308; clear HO312; clear HO315; clear BK250; clear BK267; clear BK275; clear BK284; clear BK317; clear HB; have HO_268001 := n0_; have HO_268002 := n1_; have HO_276001 := n2_; have HO_276002 := n3_; have HO_285001 := n4_; have HO_285002 := n5_; have HO305 := n6_; have HO308 := n7_; have HO312 := n8_; have HO315 := n9_; have BK250 := n10_; have BK267 := n11_; have BK275 := n12_; have BK284 := n13_; have BK317 := n14_; have HB := n15_; clear n0_ n1_ n2_ n3_ n4_ n5_ n6_ n7_ n8_ n9_ n10_ n11_ n12_ n13_ n14_ n15_; (try clear hb); (try clear hb2); (try clear hk); (try clear hi)))
             go_meet
             case rel => exact ⟨_, ((t316 != t266)), (by first | rfl | (simp; done) | (simp [*]; done)), H', ⟨by have := HJ11.out; have := HJ64.out; first | omega | exact Nat.le_refl _⟩, ⟨by (try simp only [hl276001_64]); (try simp only [hl276002_64]); (with_reducible repeat (first | apply Kd.R_alloc | apply Kd.R_drewN | apply Kd.R_drew)); exact Kd.R_mono HO_268001.out (fun _ hk => ⟨hk.1.1.1, ⟨hk.1.1.2, hk.2⟩⟩)⟩, ⟨by (try simp only [hl276001_64]); (try simp only [hl276002_64]); (with_reducible repeat (first | apply Kd.R_alloc | apply Kd.R_drewN | apply Kd.R_drew)); exact Kd.R_mono HO_268002.out (fun _ hk => ⟨hk.1.1.1, ⟨hk.1.1.2, hk.2⟩⟩)⟩, ⟨by (try simp only [hl276001_64]); (try simp only [hl276002_64]); (with_reducible repeat (first | apply Kd.R_alloc | apply Kd.R_drewN | apply Kd.R_drew)); exact Kd.R_mono HO_276001.out (fun _ hk => ⟨hk.1.1.1, ⟨hk.1.1.2, hk.2⟩⟩)⟩, ⟨by (try simp only [hl276001_64]); (try simp only [hl276002_64]); (with_reducible repeat (first | apply Kd.R_alloc | apply Kd.R_drewN | apply Kd.R_drew)); exact Kd.R_mono HO_276002.out (fun _ hk => ⟨hk.1.1.1, ⟨hk.1.1.2, hk.2⟩⟩)⟩, ⟨by (try simp only [hl276001_64]); (try simp only [hl276002_64]); (with_reducible repeat (first | apply Kd.R_alloc | apply Kd.R_drewN | apply Kd.R_drew)); exact Kd.R_mono HO_285001.out (fun _ hk => ⟨hk.1.1.1, ⟨hk.1.1.2, hk.2⟩⟩)⟩, ⟨by (try simp only [hl276001_64]); (try simp only [hl276002_64]); (with_reducible repeat (first | apply Kd.R_alloc | apply Kd.R_drewN | apply Kd.R_drew)); exact Kd.R_mono HO_285002.out (fun _ hk => ⟨hk.1.1.1, ⟨hk.1.1.2, hk.2⟩⟩)⟩, ⟨by (try simp only [hl276001_64]); (try simp only [hl276002_64]); (with_reducible repeat (first | apply Kd.R_alloc | apply Kd.R_drewN | apply Kd.R_drew)); exact Kd.R_mono HO312.out (fun _ hk => ⟨hk.1.1.1.2, ⟨hk.1.1.2, hk.1.2⟩⟩)⟩, ⟨by (try simp only [hl276001_64]); (try simp only [hl276002_64]); (with_reducible repeat (first | apply Kd.R_alloc | apply Kd.R_drewN | apply Kd.R_drew)); exact Kd.R_mono HO315.out (fun _ hk => ⟨hk.1.1.1.2, ⟨hk.1.1.2, hk.1.2⟩⟩)⟩, ⟨by (try simp only [hl276001_64]); (try simp only [hl276002_64]); (with_reducible repeat (first | refine blk_drewN ?_ _ | refine blk_drew ?_ | refine blk_alloc ?_ _)); exact BK250.out⟩, ⟨by (try simp only [hl276001_64]); (try simp only [hl276002_64]); (with_reducible repeat (first | refine blk_drewN ?_ _ | refine blk_drew ?_ | refine blk_alloc ?_ _)); exact BK267.out⟩, ⟨by (try simp only [hl276001_64]); (try simp only [hl276002_64]); (with_reducible repeat (first | refine blk_drewN ?_ _ | refine blk_drew ?_ | refine blk_alloc ?_ _)); exact BK275.out⟩, ⟨by (try simp only [hl276001_64]); (try simp only [hl276002_64]); (with_reducible repeat (first | refine blk_drewN ?_ _ | refine blk_drew ?_ | refine blk_alloc ?_ _)); exact BK284.out⟩, ⟨by (try simp only [hl276001_64]); (try simp only [hl276002_64]); (with_reducible repeat (first | refine blk_drewN ?_ _ | refine blk_drew ?_ | refine blk_alloc ?_ _)); exact BK317.out⟩, ⟨q8_6⟩⟩
            ·replace c133 := Bool.eq_false_iff.mpr c133
             subst c133
             have H1 : (laws_FnExactUnpin.j2 kj64 t298 true t276 t299 t300) = some r := by rw [if_neg (show ¬ (false = true) by decide)] at H; exact H
             clear H
             have H := H1
             clear H1
             have H' := Aside0.mk H
             clear H
             have hnb144 := NB317_250.out
             have hnc144 := NB250_317.out
             have hnb145 := NB317_267.out
             have hnc145 := NB267_317.out
             have hnb146 := NB317_275.out
             have hnc146 := NB275_317.out
             have hnb147 := NB317_284.out
             have hnc147 := NB284_317.out
             have hcz148_0 : w124.cell? ⟨gb317, 0, none⟩ = some (.int .i64 0) := (blk_cell BK317.out 0).trans rfl
             have hcz148_1 : w124.cell? ⟨gb317, 1, none⟩ = some (.slice none 0 0) := (blk_cell BK317.out 1).trans rfl
             have hcz148_2 : w124.cell? ⟨gb317, 2, none⟩ = some (.slice none 0 0) := (blk_cell BK317.out 2).trans rfl
             have hfz148_0 := blk_frozen BK317.out 0
             have hfz148_1 := blk_frozen BK317.out 1
             have hfz148_2 := blk_frozen BK317.out 2
             have hnb149 := NB267_250.out
             have hnc149 := NB250_267.out
             have hnb150 := NB267_275.out
             have hnc150 := NB275_267.out
             have hnb151 := NB267_284.out
             have hnc151 := NB284_267.out
             have hcz152_0 : w124.cell? ⟨gb267, 0, none⟩ = some (.int .i64 t259) := (blk_cell BK267.out 0).trans rfl
             have hcz152_1 : w124.cell? ⟨gb267, 1, none⟩ = some (.slice Ao24 t260.length co24) := (blk_cell BK267.out 1).trans rfl
             have hcz152_2 : w124.cell? ⟨gb267, 2, none⟩ = some (.slice Ao25 t263.length co25) := (blk_cell BK267.out 2).trans rfl
             have hfz152_0 := blk_frozen BK267.out 0
             have hfz152_1 := blk_frozen BK267.out 1
             have hfz152_2 := blk_frozen BK267.out 2
             go_wp2_with (first | ((with_reducible refine gate_callee (f := 15) rfl ?_); refine goesL_ (some 86) rfl rfl Try.func15 (by kernel_rfl) rfl #[.agg #[.int .i64 t309, .slice Ao130 t310.length co130, .slice Ao131 t313.length co131], .agg #[.int .i64 t259, .slice Ao24 t260.length co24, .slice Ao25 t263.length co25]] rfl q8_4 ?_; (with_reducible refine (laws_eqAges.calls kj64 t309 _ _ t310 _ _ t313 t259 _ _ t260 _ _ t263 false _ ?side1 ?side2 ?side3 ?side4 ?side5 ?side6 ?side7 ?side8 A132.out).mono ?_); (case side1 => refine (Kd.R_reads' (e := 3) (base := w.heap.size) (ok := fun k_ => ((((True ∧ some k_ ≠ (.slice Ao24 t260.length co24 : Value).ownBlock) ∧ some k_ ≠ (.slice Ao32 t295.length co32 : Value).ownBlock) ∧ some k_ ≠ (.slice Ao40 t277.length co40 : Value).ownBlock) ∧ some k_ ≠ (.slice Ao121 t303.length co121 : Value).ownBlock)) (n := t310.length) (c := co130) ?_).2.2; exact q8_17); (case side2 => exact (Kd.R_reads' HO312.out).2.1); (case side3 => refine (Kd.R_reads' (e := 48) (base := w.heap.size) (ok := fun k_ => ((((True ∧ some k_ ≠ (.slice Ao25 t263.length co25 : Value).ownBlock) ∧ some k_ ≠ (.slice Ao33 t296.length co33 : Value).ownBlock) ∧ some k_ ≠ (.slice Ao41 t280.length co41 : Value).ownBlock) ∧ some k_ ≠ (.slice Ao122 t306.length co122 : Value).ownBlock)) (n := t313.length) (c := co131) ?_).2.2; exact q8_18); (case side4 => exact (Kd.R_reads' HO315.out).2.1); (case side5 => refine (Kd.R_reads' (e := 3) (base := w.heap.size) (ok := fun k_ => (((some k_ ≠ (.slice Ao32 t295.length co32 : Value).ownBlock ∧ some k_ ≠ (.slice Ao40 t277.length co40 : Value).ownBlock) ∧ some k_ ≠ (.slice Ao121 t303.length co121 : Value).ownBlock) ∧ some k_ ≠ (.slice Ao130 t310.length co130 : Value).ownBlock)) (n := t260.length) (c := co24) ?_).2.2; exact q8_15); (case side6 => exact (Kd.R_reads' HO_268001.out).2.1); (case side7 => refine (Kd.R_reads' (e := 48) (base := w.heap.size) (ok := fun k_ => (((some k_ ≠ (.slice Ao33 t296.length co33 : Value).ownBlock ∧ some k_ ≠ (.slice Ao41 t280.length co41 : Value).ownBlock) ∧ some k_ ≠ (.slice Ao122 t306.length co122 : Value).ownBlock) ∧ some k_ ≠ (.slice Ao131 t313.length co131 : Value).ownBlock)) (n := t263.length) (c := co25) ?_).2.2; exact q8_16); (case side8 => exact (Kd.R_reads' HO_268002.out).2.1); rintro e w153 ⟨rfl, hb⟩; refine ⟨_, rfl, ?_⟩; have n0_ := Aside0.mk (Kd.R_below q8_15 hb); have n1_ := Aside0.mk (Kd.R_below q8_16 hb); have n2_ := Aside0.mk (Kd.R_below q8_45 hb); have n3_ := Aside0.mk (Kd.R_below q8_46 hb); have n4_ := Aside0.mk (Kd.R_below q8_47 hb); have n5_ := Aside0.mk (Kd.R_below q8_48 hb); have n6_ := Aside0.mk (Kd.R_below q8_49 hb); have n7_ := Aside0.mk (Kd.R_below q8_50 hb); have n8_ := Aside0.mk (Kd.R_below q8_17 hb); have n9_ := Aside0.mk (Kd.R_below q8_18 hb); have n10_ := Aside0.mk (blk_below (g := gb250) (o := .cells #[.int .i64 a0_0, .slice A0_1 l0_1.length c0_1, .slice A0_2 l0_2.length c0_2] 25 (0, 0)) q8_38 hb); have n11_ := Aside0.mk (blk_below (g := gb267) (o := .cells #[.int .i64 t259, .slice Ao24 t260.length co24, .slice Ao25 t263.length co25] 30 (0, 0)) q8_39 hb); have n12_ := Aside0.mk (blk_below (g := gb275) (o := .cells #[.int .i64 t268, .slice Ao32 t295.length co32, .slice Ao33 t296.length co33] 30 (0, 0)) q8_40 hb); have n13_ := Aside0.mk (blk_below (g := gb284) (o := .cells #[.int .i64 t276, .slice Ao40 t277.length co40, .slice Ao41 t280.length co41] 30 (0, 0)) q8_41 hb); have n14_ := Aside0.mk (blk_below (g := gb317) (o := .cells #[.int .i64 t309, .slice Ao130 t310.length co130, .slice Ao131 t313.length co131] 30 (0, 0)) q8_31 hb); have n15_ := Aside0.mk (below_step q8_6 hb); clear HO_268001; clear HO_268002; clear HO_276001; clear HO_276002; clear HO_285001; clear HO_285002; clear HO305; clear HO308; clear HO312; clear HO315; clear BK250; clear BK267; clear BK275; clear BK284; clear BK317; clear HB; have HO_268001 := n0_; have HO_268002 := n1_; have HO_276001 := n2_; have HO_276002 := n3_; have HO_285001 := n4_; have HO_285002 := n5_; have HO305 := n6_; have HO308 := n7_; have HO312 := n8_; have HO315 := n9_; have BK250 := n10_; have BK267 := n11_; have BK275 := n12_; have BK284 := n13_; have BK317 := n14_; have HB := n15_; clear n0_ n1_ n2_ n3_ n4_ n5_ n6_ n7_ n8_ n9_ n10_ n11_ n12_ n13_ n14_ n15_; (try clear hb); (try clear hb2); (try clear hk); (try clear hi)))
             go_meet
             case rel => exact ⟨_, (true), (by first | rfl | (simp; done) | (simp [*]; done)), H', ⟨by have := HJ11.out; have := HJ64.out; first | omega | exact Nat.le_refl _⟩, ⟨by (try simp only [hl276001_64]); (try simp only [hl276002_64]); (with_reducible repeat (first | apply Kd.R_alloc | apply Kd.R_drewN | apply Kd.R_drew)); exact Kd.R_mono HO_268001.out (fun _ hk => ⟨hk.1.1.1, ⟨hk.1.1.2, hk.2⟩⟩)⟩, ⟨by (try simp only [hl276001_64]); (try simp only [hl276002_64]); (with_reducible repeat (first | apply Kd.R_alloc | apply Kd.R_drewN | apply Kd.R_drew)); exact Kd.R_mono HO_268002.out (fun _ hk => ⟨hk.1.1.1, ⟨hk.1.1.2, hk.2⟩⟩)⟩, ⟨by (try simp only [hl276001_64]); (try simp only [hl276002_64]); (with_reducible repeat (first | apply Kd.R_alloc | apply Kd.R_drewN | apply Kd.R_drew)); exact Kd.R_mono HO_276001.out (fun _ hk => ⟨hk.1.1.1, ⟨hk.1.1.2, hk.2⟩⟩)⟩, ⟨by (try simp only [hl276001_64]); (try simp only [hl276002_64]); (with_reducible repeat (first | apply Kd.R_alloc | apply Kd.R_drewN | apply Kd.R_drew)); exact Kd.R_mono HO_276002.out (fun _ hk => ⟨hk.1.1.1, ⟨hk.1.1.2, hk.2⟩⟩)⟩, ⟨by (try simp only [hl276001_64]); (try simp only [hl276002_64]); (with_reducible repeat (first | apply Kd.R_alloc | apply Kd.R_drewN | apply Kd.R_drew)); exact Kd.R_mono HO_285001.out (fun _ hk => ⟨hk.1.1.1, ⟨hk.1.1.2, hk.2⟩⟩)⟩, ⟨by (try simp only [hl276001_64]); (try simp only [hl276002_64]); (with_reducible repeat (first | apply Kd.R_alloc | apply Kd.R_drewN | apply Kd.R_drew)); exact Kd.R_mono HO_285002.out (fun _ hk => ⟨hk.1.1.1, ⟨hk.1.1.2, hk.2⟩⟩)⟩, ⟨by (try simp only [hl276001_64]); (try simp only [hl276002_64]); (with_reducible repeat (first | apply Kd.R_alloc | apply Kd.R_drewN | apply Kd.R_drew)); exact Kd.R_mono HO312.out (fun _ hk => ⟨hk.1.1.1.2, ⟨hk.1.1.2, hk.1.2⟩⟩)⟩, ⟨by (try simp only [hl276001_64]); (try simp only [hl276002_64]); (with_reducible repeat (first | apply Kd.R_alloc | apply Kd.R_drewN | apply Kd.R_drew)); exact Kd.R_mono HO315.out (fun _ hk => ⟨hk.1.1.1.2, ⟨hk.1.1.2, hk.1.2⟩⟩)⟩, ⟨by (try simp only [hl276001_64]); (try simp only [hl276002_64]); (with_reducible repeat (first | refine blk_drewN ?_ _ | refine blk_drew ?_ | refine blk_alloc ?_ _)); exact BK250.out⟩, ⟨by (try simp only [hl276001_64]); (try simp only [hl276002_64]); (with_reducible repeat (first | refine blk_drewN ?_ _ | refine blk_drew ?_ | refine blk_alloc ?_ _)); exact BK267.out⟩, ⟨by (try simp only [hl276001_64]); (try simp only [hl276002_64]); (with_reducible repeat (first | refine blk_drewN ?_ _ | refine blk_drew ?_ | refine blk_alloc ?_ _)); exact BK275.out⟩, ⟨by (try simp only [hl276001_64]); (try simp only [hl276002_64]); (with_reducible repeat (first | refine blk_drewN ?_ _ | refine blk_drew ?_ | refine blk_alloc ?_ _)); exact BK284.out⟩, ⟨by (try simp only [hl276001_64]); (try simp only [hl276002_64]); (with_reducible repeat (first | refine blk_drewN ?_ _ | refine blk_drew ?_ | refine blk_alloc ?_ _)); exact BK317.out⟩, ⟨q8_6⟩⟩
           case rest =>
            clear HC109
            (try clear c1); (try clear c2); (try clear p2); (try clear c3); (try clear c4); (try clear c4b0); (try clear c5); (try clear c6); (try clear c7); (try clear c8); (try clear c9); (try clear c10); (try clear c11); (try clear c12); (try clear c13); (try clear c14); (try clear c15); (try clear c18); (try clear c19); (try clear c22); (try clear c23); (try clear c29); (try clear c30); (try clear c36); (try clear c37); (try clear c38); (try clear c43); (try clear c44); (try clear c45); (try clear c46); (try clear c48); (try clear c49); (try clear c52); (try clear c53); (try clear c54); (try clear c56); (try clear c57); (try clear c60); (try clear c63); (try clear c71); (try clear c72); (try clear c73); (try clear c76); (try clear c76b0); (try clear c78); (try clear c79); (try clear c80); (try clear c81); (try clear c83); (try clear c84); (try clear c87); (try clear c88); (try clear c89); (try clear c91); (try clear c92); (try clear c95); (try clear c98); (try clear c98b0); (try clear c99); (try clear c100); (try clear c101); (try clear c106); (try clear c106b0); (try clear c106b1); (try clear c110); (try clear c111); (try clear c112); (try clear c117); (try clear c118); (try clear c125); (try clear c126); (try clear c127); (try clear c128); (try clear c133); (try clear c134); (try clear c135); (try clear c136); (try clear c137); (try clear c139); (try clear c140); (try clear c141); (try clear c144); (try clear c145); (try clear c146); (try clear c147); (try clear c149); (try clear c150); (try clear c151); (try clear hcz102_0); (try clear hcz102_1); (try clear hcz102_2); (try clear hcz104_0); (try clear hcz104_1); (try clear hcz104_2); (try clear hcz113_0); (try clear hcz113_1); (try clear hcz113_2); (try clear hcz115_0); (try clear hcz115_1); (try clear hcz115_2); (try clear hcz119_0); (try clear hcz119_1); (try clear hcz119_2); (try clear hcz129_0); (try clear hcz129_1); (try clear hcz129_2); (try clear hcz138_0); (try clear hcz138_1); (try clear hcz138_2); (try clear hcz142_0); (try clear hcz142_1); (try clear hcz142_2); (try clear hcz148_0); (try clear hcz148_1); (try clear hcz148_2); (try clear hcz14_0); (try clear hcz14_1); (try clear hcz14_2); (try clear hcz152_0); (try clear hcz152_1); (try clear hcz152_2); (try clear hcz16_0); (try clear hcz16_1); (try clear hcz16_2); (try clear hcz23_0); (try clear hcz23_1); (try clear hcz23_2); (try clear hcz26_0); (try clear hcz26_1); (try clear hcz26_2); (try clear hcz31_0); (try clear hcz31_1); (try clear hcz31_2); (try clear hcz39_0); (try clear hcz39_1); (try clear hcz39_2); (try clear hcz47_0); (try clear hcz47_1); (try clear hcz47_2); (try clear hcz50_0); (try clear hcz50_1); (try clear hcz50_2); (try clear hcz55_0); (try clear hcz55_1); (try clear hcz55_2); (try clear hcz58_0); (try clear hcz58_1); (try clear hcz58_2); (try clear hcz6_0); (try clear hcz6_1); (try clear hcz6_2); (try clear hcz74_0); (try clear hcz74_1); (try clear hcz74_2); (try clear hcz82_0); (try clear hcz82_1); (try clear hcz82_2); (try clear hcz85_0); (try clear hcz85_1); (try clear hcz85_2); (try clear hcz90_0); (try clear hcz90_1); (try clear hcz90_2); (try clear hcz93_0); (try clear hcz93_1); (try clear hcz93_2); (try clear hfz102_0); (try clear hfz102_1); (try clear hfz102_2); (try clear hfz104_0); (try clear hfz104_1); (try clear hfz104_2); (try clear hfz113_0); (try clear hfz113_1); (try clear hfz113_2); (try clear hfz115_0); (try clear hfz115_1); (try clear hfz115_2); (try clear hfz119_0); (try clear hfz119_1); (try clear hfz119_2); (try clear hfz129_0); (try clear hfz129_1); (try clear hfz129_2); (try clear hfz138_0); (try clear hfz138_1); (try clear hfz138_2); (try clear hfz142_0); (try clear hfz142_1); (try clear hfz142_2); (try clear hfz148_0); (try clear hfz148_1); (try clear hfz148_2); (try clear hfz14_0); (try clear hfz14_1); (try clear hfz14_2); (try clear hfz152_0); (try clear hfz152_1); (try clear hfz152_2); (try clear hfz16_0); (try clear hfz16_1); (try clear hfz16_2); (try clear hfz23_0); (try clear hfz23_1); (try clear hfz23_2); (try clear hfz26_0); (try clear hfz26_1); (try clear hfz26_2); (try clear hfz31_0); (try clear hfz31_1); (try clear hfz31_2); (try clear hfz39_0); (try clear hfz39_1); (try clear hfz39_2); (try clear hfz47_0); (try clear hfz47_1); (try clear hfz47_2); (try clear hfz50_0); (try clear hfz50_1); (try clear hfz50_2); (try clear hfz55_0); (try clear hfz55_1); (try clear hfz55_2); (try clear hfz58_0); (try clear hfz58_1); (try clear hfz58_2); (try clear hfz6_0); (try clear hfz6_1); (try clear hfz6_2); (try clear hfz74_0); (try clear hfz74_1); (try clear hfz74_2); (try clear hfz82_0); (try clear hfz82_1); (try clear hfz82_2); (try clear hfz85_0); (try clear hfz85_1); (try clear hfz85_2); (try clear hfz90_0); (try clear hfz90_1); (try clear hfz90_2); (try clear hfz93_0); (try clear hfz93_1); (try clear hfz93_2); (try clear p2)
            obtain ⟨kq, x92_108, rfl, HA, HJ108, HO_268001, HO_268002, HO_276001, HO_276002, HO_285001, HO_285002, HO_318001, HO_318002, BK250, BK267, BK275, BK284, BK317, HB⟩ := hcut
            have hl285001_108 := (Kd.R_reads' HO_285001.out).1
            rw [hl285001_108] at HO_285001
            (try simp only [hl285001_108])
            (try simp only [hl285001_108] at BK250)
            (try simp only [hl285001_108] at BK267)
            (try simp only [hl285001_108] at BK275)
            (try simp only [hl285001_108] at BK284)
            (try simp only [hl285001_108] at BK317)
            (try simp only [hl285001_108] at HO_268001)
            (try simp only [hl285001_108] at HO_268002)
            (try simp only [hl285001_108] at HO_276001)
            (try simp only [hl285001_108] at HO_276002)
            (try simp only [hl285001_108] at HO_285002)
            (try simp only [hl285001_108] at HO_318001)
            (try simp only [hl285001_108] at HO_318002)
            have hl285002_108 := (Kd.R_reads' HO_285002.out).1
            rw [hl285002_108] at HO_285002
            (try simp only [hl285002_108])
            (try simp only [hl285002_108] at BK250)
            (try simp only [hl285002_108] at BK267)
            (try simp only [hl285002_108] at BK275)
            (try simp only [hl285002_108] at BK284)
            (try simp only [hl285002_108] at BK317)
            (try simp only [hl285002_108] at HO_268001)
            (try simp only [hl285002_108] at HO_268002)
            (try simp only [hl285002_108] at HO_276001)
            (try simp only [hl285002_108] at HO_276002)
            (try simp only [hl285002_108] at HO_285001)
            (try simp only [hl285002_108] at HO_318001)
            (try simp only [hl285002_108] at HO_318002)
            cases kq with
            | zero => exact absurd HA.out (by simp [laws_FnExactUnpin.j2])
            | succ kj108 =>
             have H := HA.out
             clear HA
             simp only [laws_FnExactUnpin.j2] at H
             by_cases c154 : x92_108 = true
             ·subst c154
              have H1 : (some false) = some r := by rw [if_pos rfl] at H; exact H
              clear H
              have H := H1
              clear H1
              obtain rfl := Option.some.inj H
              go_wp2
              go_ret
              exact ⟨q8_30, q8_6⟩
             ·replace c154 := Bool.eq_false_iff.mpr c154
              subst c154
              have H1 : ((laws_heldAges.f kj108 t276 t299 t300 1).bind fun t319 => (if t319 < 0 then (some false) else (if t319 = t298 then (some true) else (some false)))) = some r := by rw [if_neg (show ¬ (false = true) by decide)] at H; exact H
              clear H
              have H := H1
              clear H1
              replace H := Option.bind_eq_some_iff.mp H
              obtain ⟨t319, A1550, H⟩ := H
              replace H : (if t319 < 0 then (some false) else (if t319 = t298 then (some true) else (some false))) = some r := H
              have A155 := Aside0.mk A1550
              clear A1550
              by_cases c156 : t319 < 0
              ·rw [if_pos c156] at H
               have c156b0 : decide (t319 < 0) = true := decide_eq_true c156
               clear c156
               obtain rfl := Option.some.inj H
               have hnb157 := NB284_250.out
               have hnc157 := NB250_284.out
               have hnb158 := NB284_267.out
               have hnc158 := NB267_284.out
               have hnb159 := NB284_275.out
               have hnc159 := NB275_284.out
               have hnb160 := NB284_317.out
               have hnc160 := NB317_284.out
               have hcz161_0 : wc.cell? ⟨gb284, 0, none⟩ = some (.int .i64 t276) := (blk_cell BK284.out 0).trans rfl
               have hcz161_1 : wc.cell? ⟨gb284, 1, none⟩ = some (.slice Ao40 t299.length co40) := (blk_cell BK284.out 1).trans rfl
               have hcz161_2 : wc.cell? ⟨gb284, 2, none⟩ = some (.slice Ao41 t300.length co41) := (blk_cell BK284.out 2).trans rfl
               have hfz161_0 := blk_frozen BK284.out 0
               have hfz161_1 := blk_frozen BK284.out 1
               have hfz161_2 := blk_frozen BK284.out 2
               go_wp2_with (first | ((with_reducible refine gate_callee (f := 19) rfl ?_); refine goesL_ (some 95) rfl rfl Try.func19 (by kernel_rfl) rfl #[.agg #[.int .i64 t276, .slice Ao40 t299.length co40, .slice Ao41 t300.length co41], .int .i64 1] rfl q8_4 ?_; (with_reducible refine (laws_heldAges.calls kj108 t276 _ _ t299 _ _ t300 1 t319 _ ?side1 ?side2 ?side3 ?side4 A155.out).mono ?_); (case side1 => exact q8_23); (case side2 => exact (Kd.R_reads' HO_285001.out).2.1); (case side3 => exact q8_24); (case side4 => exact (Kd.R_reads' HO_285002.out).2.1); rintro e w162 ⟨rfl, hb⟩; refine ⟨_, rfl, ?_⟩; have n0_ := Aside0.mk (Kd.R_below q8_7 hb); have n1_ := Aside0.mk (Kd.R_below q8_8 hb); have n2_ := Aside0.mk (Kd.R_below q8_9 hb); have n3_ := Aside0.mk (Kd.R_below q8_10 hb); have n4_ := Aside0.mk (Kd.R_below q8_11 hb); have n5_ := Aside0.mk (Kd.R_below q8_12 hb); have n6_ := Aside0.mk (Kd.R_below (by (with_reducible repeat (first | apply Kd.R_alloc | apply Kd.R_drewN | apply Kd.R_drew)); exact HO_318001.out) hb); have n7_ := Aside0.mk (Kd.R_below (by (with_reducible repeat (first | apply Kd.R_alloc | apply Kd.R_drewN | apply Kd.R_drew)); exact HO_318002.out) hb); have n8_ := Aside0.mk (blk_below (g := gb250) (o := .cells #[.int .i64 a0_0, .slice A0_1 l0_1.length c0_1, .slice A0_2 l0_2.length c0_2] 25 (0, 0)) q8_1 hb); have n9_ := Aside0.mk (blk_below (g := gb267) (o := .cells #[.int .i64 t259, .slice Ao24 t260.length co24, .slice Ao25 t263.length co25] 30 (0, 0)) q8_2 hb); have n10_ := Aside0.mk (blk_below (g := gb275) (o := .cells #[.int .i64 t268, .slice Ao32 t295.length co32, .slice Ao33 t296.length co33] 30 (0, 0)) q8_3 hb); have n11_ := Aside0.mk (blk_below (g := gb284) (o := .cells #[.int .i64 t276, .slice Ao40 t299.length co40, .slice Ao41 t300.length co41] 30 (0, 0)) q8_5 hb); have n12_ := Aside0.mk (blk_below (g := gb317) (o := .cells #[.int .i64 t309, .slice Ao130 t310.length co130, .slice Ao131 t313.length co131] 30 (0, 0)) (by (with_reducible repeat (first | refine blk_drewN ?_ _ | refine blk_drew ?_ | refine blk_alloc ?_ _)); exact BK317.out) hb); have n13_ := Aside0.mk (below_step q8_6 hb); clear HO_268001; clear HO_268002; clear HO_276001; clear HO_276002; clear HO_285001; clear HO_285002; clear HO_318001; clear HO_318002; clear BK250; clear BK267; clear BK275; clear BK284; clear BK317; clear HB; have HO_268001 := n0_; have HO_268002 := n1_; have HO_276001 := n2_; have HO_276002 := n3_; have HO_285001 := n4_; have HO_285002 := n5_; have HO_318001 := n6_; have HO_318002 := n7_; have BK250 := n8_; have BK267 := n9_; have BK275 := n10_; have BK284 := n11_; have BK317 := n12_; have HB := n13_; clear n0_ n1_ n2_ n3_ n4_ n5_ n6_ n7_ n8_ n9_ n10_ n11_ n12_ n13_; (try clear hb); (try clear hb2); (try clear hk); (try clear hi)))
               go_ret
               exact ⟨q8_30, q8_6⟩
              ·rw [if_neg c156] at H
               have c156b0 : decide (t319 < 0) = false := decide_eq_false c156
               clear c156
               by_cases c163 : t319 = t298
               ·rw [if_pos c163] at H
                have c163b0 : (t319 == t298) = true := beq_iff_eq.mpr c163
                have c163b1 : (t319 != t298) = false := bne_eq_false_iff_eq.mpr c163
                clear c163
                obtain rfl := Option.some.inj H
                have hnb164 := NB284_250.out
                have hnc164 := NB250_284.out
                have hnb165 := NB284_267.out
                have hnc165 := NB267_284.out
                have hnb166 := NB284_275.out
                have hnc166 := NB275_284.out
                have hnb167 := NB284_317.out
                have hnc167 := NB317_284.out
                have hcz168_0 : wc.cell? ⟨gb284, 0, none⟩ = some (.int .i64 t276) := (blk_cell BK284.out 0).trans rfl
                have hcz168_1 : wc.cell? ⟨gb284, 1, none⟩ = some (.slice Ao40 t299.length co40) := (blk_cell BK284.out 1).trans rfl
                have hcz168_2 : wc.cell? ⟨gb284, 2, none⟩ = some (.slice Ao41 t300.length co41) := (blk_cell BK284.out 2).trans rfl
                have hfz168_0 := blk_frozen BK284.out 0
                have hfz168_1 := blk_frozen BK284.out 1
                have hfz168_2 := blk_frozen BK284.out 2
                go_wp2_with (first | ((with_reducible refine gate_callee (f := 19) rfl ?_); refine goesL_ (some 95) rfl rfl Try.func19 (by kernel_rfl) rfl #[.agg #[.int .i64 t276, .slice Ao40 t299.length co40, .slice Ao41 t300.length co41], .int .i64 1] rfl q8_4 ?_; (with_reducible refine (laws_heldAges.calls kj108 t276 _ _ t299 _ _ t300 1 t319 _ ?side1 ?side2 ?side3 ?side4 A155.out).mono ?_); (case side1 => exact q8_23); (case side2 => exact (Kd.R_reads' HO_285001.out).2.1); (case side3 => exact q8_24); (case side4 => exact (Kd.R_reads' HO_285002.out).2.1); rintro e w169 ⟨rfl, hb⟩; refine ⟨_, rfl, ?_⟩; have n0_ := Aside0.mk (Kd.R_below q8_7 hb); have n1_ := Aside0.mk (Kd.R_below q8_8 hb); have n2_ := Aside0.mk (Kd.R_below q8_9 hb); have n3_ := Aside0.mk (Kd.R_below q8_10 hb); have n4_ := Aside0.mk (Kd.R_below q8_11 hb); have n5_ := Aside0.mk (Kd.R_below q8_12 hb); have n6_ := Aside0.mk (Kd.R_below (by (with_reducible repeat (first | apply Kd.R_alloc | apply Kd.R_drewN | apply Kd.R_drew)); exact HO_318001.out) hb); have n7_ := Aside0.mk (Kd.R_below (by (with_reducible repeat (first | apply Kd.R_alloc | apply Kd.R_drewN | apply Kd.R_drew)); exact HO_318002.out) hb); have n8_ := Aside0.mk (blk_below (g := gb250) (o := .cells #[.int .i64 a0_0, .slice A0_1 l0_1.length c0_1, .slice A0_2 l0_2.length c0_2] 25 (0, 0)) q8_1 hb); have n9_ := Aside0.mk (blk_below (g := gb267) (o := .cells #[.int .i64 t259, .slice Ao24 t260.length co24, .slice Ao25 t263.length co25] 30 (0, 0)) q8_2 hb); have n10_ := Aside0.mk (blk_below (g := gb275) (o := .cells #[.int .i64 t268, .slice Ao32 t295.length co32, .slice Ao33 t296.length co33] 30 (0, 0)) q8_3 hb); have n11_ := Aside0.mk (blk_below (g := gb284) (o := .cells #[.int .i64 t276, .slice Ao40 t299.length co40, .slice Ao41 t300.length co41] 30 (0, 0)) q8_5 hb); have n12_ := Aside0.mk (blk_below (g := gb317) (o := .cells #[.int .i64 t309, .slice Ao130 t310.length co130, .slice Ao131 t313.length co131] 30 (0, 0)) (by (with_reducible repeat (first | refine blk_drewN ?_ _ | refine blk_drew ?_ | refine blk_alloc ?_ _)); exact BK317.out) hb); have n13_ := Aside0.mk (below_step q8_6 hb); clear HO_268001; clear HO_268002; clear HO_276001; clear HO_276002; clear HO_285001; clear HO_285002; clear HO_318001; clear HO_318002; clear BK250; clear BK267; clear BK275; clear BK284; clear BK317; clear HB; have HO_268001 := n0_; have HO_268002 := n1_; have HO_276001 := n2_; have HO_276002 := n3_; have HO_285001 := n4_; have HO_285002 := n5_; have HO_318001 := n6_; have HO_318002 := n7_; have BK250 := n8_; have BK267 := n9_; have BK275 := n10_; have BK284 := n11_; have BK317 := n12_; have HB := n13_; clear n0_ n1_ n2_ n3_ n4_ n5_ n6_ n7_ n8_ n9_ n10_ n11_ n12_ n13_; (try clear hb); (try clear hb2); (try clear hk); (try clear hi)))
                go_ret
                exact ⟨q8_30, q8_6⟩
               ·rw [if_neg c163] at H
                have c163b0 : (t319 == t298) = false := beq_eq_false_iff_ne.mpr c163
                have c163b1 : (t319 != t298) = true := bne_iff_ne.mpr c163
                obtain rfl := Option.some.inj H
                have hnb170 := NB284_250.out
                have hnc170 := NB250_284.out
                have hnb171 := NB284_267.out
                have hnc171 := NB267_284.out
                have hnb172 := NB284_275.out
                have hnc172 := NB275_284.out
                have hnb173 := NB284_317.out
                have hnc173 := NB317_284.out
                have hcz174_0 : wc.cell? ⟨gb284, 0, none⟩ = some (.int .i64 t276) := (blk_cell BK284.out 0).trans rfl
                have hcz174_1 : wc.cell? ⟨gb284, 1, none⟩ = some (.slice Ao40 t299.length co40) := (blk_cell BK284.out 1).trans rfl
                have hcz174_2 : wc.cell? ⟨gb284, 2, none⟩ = some (.slice Ao41 t300.length co41) := (blk_cell BK284.out 2).trans rfl
                have hfz174_0 := blk_frozen BK284.out 0
                have hfz174_1 := blk_frozen BK284.out 1
                have hfz174_2 := blk_frozen BK284.out 2
                go_wp2_with (first | ((with_reducible refine gate_callee (f := 19) rfl ?_); refine goesL_ (some 95) rfl rfl Try.func19 (by kernel_rfl) rfl #[.agg #[.int .i64 t276, .slice Ao40 t299.length co40, .slice Ao41 t300.length co41], .int .i64 1] rfl q8_4 ?_; (with_reducible refine (laws_heldAges.calls kj108 t276 _ _ t299 _ _ t300 1 t319 _ ?side1 ?side2 ?side3 ?side4 A155.out).mono ?_); (case side1 => exact q8_23); (case side2 => exact (Kd.R_reads' HO_285001.out).2.1); (case side3 => exact q8_24); (case side4 => exact (Kd.R_reads' HO_285002.out).2.1); rintro e w175 ⟨rfl, hb⟩; refine ⟨_, rfl, ?_⟩; have n0_ := Aside0.mk (Kd.R_below q8_7 hb); have n1_ := Aside0.mk (Kd.R_below q8_8 hb); have n2_ := Aside0.mk (Kd.R_below q8_9 hb); have n3_ := Aside0.mk (Kd.R_below q8_10 hb); have n4_ := Aside0.mk (Kd.R_below q8_11 hb); have n5_ := Aside0.mk (Kd.R_below q8_12 hb); have n6_ := Aside0.mk (Kd.R_below (by (with_reducible repeat (first | apply Kd.R_alloc | apply Kd.R_drewN | apply Kd.R_drew)); exact HO_318001.out) hb); have n7_ := Aside0.mk (Kd.R_below (by (with_reducible repeat (first | apply Kd.R_alloc | apply Kd.R_drewN | apply Kd.R_drew)); exact HO_318002.out) hb); have n8_ := Aside0.mk (blk_below (g := gb250) (o := .cells #[.int .i64 a0_0, .slice A0_1 l0_1.length c0_1, .slice A0_2 l0_2.length c0_2] 25 (0, 0)) q8_1 hb); have n9_ := Aside0.mk (blk_below (g := gb267) (o := .cells #[.int .i64 t259, .slice Ao24 t260.length co24, .slice Ao25 t263.length co25] 30 (0, 0)) q8_2 hb); have n10_ := Aside0.mk (blk_below (g := gb275) (o := .cells #[.int .i64 t268, .slice Ao32 t295.length co32, .slice Ao33 t296.length co33] 30 (0, 0)) q8_3 hb); have n11_ := Aside0.mk (blk_below (g := gb284) (o := .cells #[.int .i64 t276, .slice Ao40 t299.length co40, .slice Ao41 t300.length co41] 30 (0, 0)) q8_5 hb); have n12_ := Aside0.mk (blk_below (g := gb317) (o := .cells #[.int .i64 t309, .slice Ao130 t310.length co130, .slice Ao131 t313.length co131] 30 (0, 0)) (by (with_reducible repeat (first | refine blk_drewN ?_ _ | refine blk_drew ?_ | refine blk_alloc ?_ _)); exact BK317.out) hb); have n13_ := Aside0.mk (below_step q8_6 hb); clear HO_268001; clear HO_268002; clear HO_276001; clear HO_276002; clear HO_285001; clear HO_285002; clear HO_318001; clear HO_318002; clear BK250; clear BK267; clear BK275; clear BK284; clear BK317; clear HB; have HO_268001 := n0_; have HO_268002 := n1_; have HO_276001 := n2_; have HO_276002 := n3_; have HO_285001 := n4_; have HO_285002 := n5_; have HO_318001 := n6_; have HO_318002 := n7_; have BK250 := n8_; have BK267 := n9_; have BK275 := n10_; have BK284 := n11_; have BK317 := n12_; have HB := n13_; clear n0_ n1_ n2_ n3_ n4_ n5_ n6_ n7_ n8_ n9_ n10_ n11_ n12_ n13_; (try clear hb); (try clear hb2); (try clear hk); (try clear hi)))
                go_ret
                exact ⟨q8_30, q8_6⟩
          ·rw [if_neg c106] at H
           have c106b0 : (t301 == t298) = false := beq_eq_false_iff_ne.mpr c106
           have c106b1 : (t301 != t298) = true := bne_iff_ne.mpr c106
           obtain rfl := Option.some.inj H
           have hnb176 := NB284_250.out
           have hnc176 := NB250_284.out
           have hnb177 := NB284_267.out
           have hnc177 := NB267_284.out
           have hnb178 := NB284_275.out
           have hnc178 := NB275_284.out
           have hcz179_0 : wc.cell? ⟨gb284, 0, none⟩ = some (.int .i64 t276) := (blk_cell BK284.out 0).trans rfl
           have hcz179_1 : wc.cell? ⟨gb284, 1, none⟩ = some (.slice Ao40 t277.length co40) := (blk_cell BK284.out 1).trans rfl
           have hcz179_2 : wc.cell? ⟨gb284, 2, none⟩ = some (.slice Ao41 t280.length co41) := (blk_cell BK284.out 2).trans rfl
           have hfz179_0 := blk_frozen BK284.out 0
           have hfz179_1 := blk_frozen BK284.out 1
           have hfz179_2 := blk_frozen BK284.out 2
           go_wp2_with (first | ((with_reducible refine gate_callee (f := 18) rfl ?_); refine goesL_ (some 68) rfl rfl Try.func18 (by kernel_rfl) rfl #[.agg #[.int .i64 t276, .slice Ao40 t277.length co40, .slice Ao41 t280.length co41], .int .i64 1] rfl q8_4 ?_; (with_reducible refine (laws_markAges.calls kj64 t276 (fun k_ => some k_ = (.slice Ao40 t277.length co40 : Value).ownBlock) (.slice Ao40 t277.length co40) t277 (fun k_ => some k_ = (.slice Ao41 t280.length co41 : Value).ownBlock) (.slice Ao41 t280.length co41) t280 1 t298 t299 t300 w _ ?side1 ?side2 ?side3 A96.out).mono ?_); (case side1 => exact q8_0); (case side2 => exact Kd.R_tight rfl HO_285001.out); (case side3 => exact Kd.R_tight rfl HO_285002.out); rintro e w180 ⟨rfl, hy0, hy1, hb, hkp⟩; refine ⟨_, rfl, ?_⟩; have n0_ := Aside0.mk (Kd.R_mono (ok' := fun k_ => some k_ ≠ (.slice Ao32 t295.length co32 : Value).ownBlock ∧ some k_ ≠ (.slice Ao40 t277.length co40 : Value).ownBlock) (Kd.R_keptB ((Kd.R_apart' HO_268001.out (Kd.R_typed HO_285002.out) q8_44)) hkp (fun k_ hk_ hs_ => Or.elim hs_ (fun e_ => (hk_.1.2) e_) (fun e_ => (hk_.2) e_))) (fun k_ hk_ => ⟨hk_.1.1.1, hk_.1.1.2⟩)); have n1_ := Aside0.mk (Kd.R_mono (ok' := fun k_ => some k_ ≠ (.slice Ao33 t296.length co33 : Value).ownBlock ∧ some k_ ≠ (.slice Ao41 t280.length co41 : Value).ownBlock) (Kd.R_keptB ((Kd.R_apart' HO_268002.out (Kd.R_typed HO_285001.out) q8_44)) hkp (fun k_ hk_ hs_ => Or.elim hs_ (fun e_ => (hk_.2) e_) (fun e_ => (hk_.1.2) e_))) (fun k_ hk_ => ⟨hk_.1.1.1, hk_.1.1.2⟩)); have n2_ := Aside0.mk (Kd.R_mono (ok' := fun k_ => some k_ ≠ (.slice Ao24 t260.length co24 : Value).ownBlock ∧ some k_ ≠ (.slice Ao40 t277.length co40 : Value).ownBlock) (Kd.R_keptB ((Kd.R_apart' HO_276001.out (Kd.R_typed HO_285002.out) q8_44)) hkp (fun k_ hk_ hs_ => Or.elim hs_ (fun e_ => (hk_.1.2) e_) (fun e_ => (hk_.2) e_))) (fun k_ hk_ => ⟨hk_.1.1.1, hk_.1.1.2⟩)); have n3_ := Aside0.mk (Kd.R_mono (ok' := fun k_ => some k_ ≠ (.slice Ao25 t263.length co25 : Value).ownBlock ∧ some k_ ≠ (.slice Ao41 t280.length co41 : Value).ownBlock) (Kd.R_keptB ((Kd.R_apart' HO_276002.out (Kd.R_typed HO_285001.out) q8_44)) hkp (fun k_ hk_ hs_ => Or.elim hs_ (fun e_ => (hk_.2) e_) (fun e_ => (hk_.1.2) e_))) (fun k_ hk_ => ⟨hk_.1.1.1, hk_.1.1.2⟩)); have n4_ := Aside0.mk (Kd.R_reok rfl hy0 (fun k_ e_ => HO_285001.out.1 k_ e_)); have n5_ := Aside0.mk (Kd.R_reok rfl hy1 (fun k_ e_ => HO_285002.out.1 k_ e_)); have n6_ := Aside0.mk (blk_kept q8_1 hkp (fun hs_ => Or.elim hs_ (fun e_ => (fun e_ => (Kd.R_ne HO_285001.out BK250.out q8_44) e_) e_) (fun e_ => (fun e_ => (Kd.R_ne HO_285002.out BK250.out q8_44) e_) e_))); have n7_ := Aside0.mk (blk_kept q8_2 hkp (fun hs_ => Or.elim hs_ (fun e_ => (fun e_ => (Kd.R_ne HO_285001.out BK267.out q8_44) e_) e_) (fun e_ => (fun e_ => (Kd.R_ne HO_285002.out BK267.out q8_44) e_) e_))); have n8_ := Aside0.mk (blk_kept q8_3 hkp (fun hs_ => Or.elim hs_ (fun e_ => (fun e_ => (Kd.R_ne HO_285001.out BK275.out q8_44) e_) e_) (fun e_ => (fun e_ => (Kd.R_ne HO_285002.out BK275.out q8_44) e_) e_))); have n9_ := Aside0.mk (blk_kept q8_5 hkp (fun hs_ => Or.elim hs_ (fun e_ => (fun e_ => (Kd.R_ne HO_285001.out BK284.out q8_44) e_) e_) (fun e_ => (fun e_ => (Kd.R_ne HO_285002.out BK284.out q8_44) e_) e_))); have n10_ := Aside0.mk (hb); clear HO_268001; clear HO_268002; clear HO_276001; clear HO_276002; clear HO_285001; clear HO_285002; clear BK250; clear BK267; clear BK275; clear BK284; clear HB; have HO_268001 := n0_; have HO_268002 := n1_; have HO_276001 := n2_; have HO_276002 := n3_; have HO_285001 := n4_; have HO_285002 := n5_; have BK250 := n6_; have BK267 := n7_; have BK275 := n8_; have BK284 := n9_; have HB := n10_; clear n0_ n1_ n2_ n3_ n4_ n5_ n6_ n7_ n8_ n9_ n10_; (try clear hb); (try clear hkp); (try clear hy0); (try clear hy1); have hcz181_0 : w180.cell? ⟨gb284, 0, none⟩ = some (.int .i64 t276) := (blk_cell BK284.out 0).trans rfl; have hcz181_1 : w180.cell? ⟨gb284, 1, none⟩ = some (.slice Ao40 t277.length co40) := (blk_cell BK284.out 1).trans rfl; have hcz181_2 : w180.cell? ⟨gb284, 2, none⟩ = some (.slice Ao41 t280.length co41) := (blk_cell BK284.out 2).trans rfl; have hfz181_0 := blk_frozen BK284.out 0; have hfz181_1 := blk_frozen BK284.out 1; have hfz181_2 := blk_frozen BK284.out 2) | ((with_reducible refine gate_callee (f := 19) rfl ?_); refine goesL_ (some 71) rfl rfl Try.func19 (by kernel_rfl) rfl #[.agg #[.int .i64 t276, .slice Ao40 t299.length co40, .slice Ao41 t300.length co41], .int .i64 1] rfl q8_34 ?_; (with_reducible refine (laws_heldAges.calls kj64 t276 _ _ t299 _ _ t300 1 t301 _ ?side1 ?side2 ?side3 ?side4 A97.out).mono ?_); (case side1 => exact q8_23); (case side2 => rw [show t299.length = t277.length from (Kd.R_reads' HO_285001.out).1.symm]; exact (Kd.R_reads' HO_285001.out).2.1); (case side3 => exact q8_24); (case side4 => rw [show t300.length = t280.length from (Kd.R_reads' HO_285002.out).1.symm]; exact (Kd.R_reads' HO_285002.out).2.1); rintro e w182 ⟨rfl, hb⟩; refine ⟨_, rfl, ?_⟩; have n0_ := Aside0.mk (Kd.R_below q8_7 hb); have n1_ := Aside0.mk (Kd.R_below q8_8 hb); have n2_ := Aside0.mk (Kd.R_below q8_9 hb); have n3_ := Aside0.mk (Kd.R_below q8_10 hb); have n4_ := Aside0.mk (Kd.R_below q8_11 hb); have n5_ := Aside0.mk (Kd.R_below q8_12 hb); have n6_ := Aside0.mk (blk_below (g := gb250) (o := .cells #[.int .i64 a0_0, .slice A0_1 l0_1.length c0_1, .slice A0_2 l0_2.length c0_2] 25 (0, 0)) q8_1 hb); have n7_ := Aside0.mk (blk_below (g := gb267) (o := .cells #[.int .i64 t259, .slice Ao24 t260.length co24, .slice Ao25 t263.length co25] 30 (0, 0)) q8_2 hb); have n8_ := Aside0.mk (blk_below (g := gb275) (o := .cells #[.int .i64 t268, .slice Ao32 t295.length co32, .slice Ao33 t296.length co33] 30 (0, 0)) q8_3 hb); have n9_ := Aside0.mk (blk_below (g := gb284) (o := .cells #[.int .i64 t276, .slice Ao40 t277.length co40, .slice Ao41 t280.length co41] 30 (0, 0)) q8_5 hb); have n10_ := Aside0.mk (below_step q8_0 hb); clear HO_268001; clear HO_268002; clear HO_276001; clear HO_276002; clear HO_285001; clear HO_285002; clear BK250; clear BK267; clear BK275; clear BK284; clear HB; have HO_268001 := n0_; have HO_268002 := n1_; have HO_276001 := n2_; have HO_276002 := n3_; have HO_285001 := n4_; have HO_285002 := n5_; have BK250 := n6_; have BK267 := n7_; have BK275 := n8_; have BK284 := n9_; have HB := n10_; clear n0_ n1_ n2_ n3_ n4_ n5_ n6_ n7_ n8_ n9_ n10_; (try clear hb); (try clear hb2); (try clear hk); (try clear hi)))
           go_ret
           exact ⟨q8_30, q8_0⟩
     ·replace c63 := Bool.eq_false_iff.mpr c63
      subst c63
      have H1 : (some false) = some r := by rw [if_neg (show ¬ (false = true) by decide)] at H; exact H
      clear H
      have H := H1
      clear H1
      obtain rfl := Option.some.inj H
      try go_wp2
      have n0_ := Aside0.mk (Kd.R_drew HO_268001.out)
      have n1_ := Aside0.mk (Kd.R_drew HO_268002.out)
      have n2_ := Aside0.mk (Kd.R_drew HO_276001.out)
      have n3_ := Aside0.mk (Kd.R_drew HO_276002.out)
      have n4_ := Aside0.mk (Kd.R_drew HO_285001.out)
      have n5_ := Aside0.mk (Kd.R_drew HO_285002.out)
      have n6_ := Aside0.mk (blk_drew BK250.out)
      have n7_ := Aside0.mk (blk_drew BK267.out)
      have n8_ := Aside0.mk (blk_drew BK275.out)
      have n9_ := Aside0.mk (blk_drew BK284.out)
      have n10_ := Aside0.mk (below_drew1 HB.out)
      clear HO_268001
      clear HO_268002
      clear HO_276001
      clear HO_276002
      clear HO_285001
      clear HO_285002
      clear BK250
      clear BK267
      clear BK275
      clear BK284
      clear HB
      have HO_268001 := n0_
      have HO_268002 := n1_
      have HO_276001 := n2_
      have HO_276002 := n3_
      have HO_285001 := n4_
      have HO_285002 := n5_
      have BK250 := n6_
      have BK267 := n7_
      have BK275 := n8_
      have BK284 := n9_
      have HB := n10_
      clear n0_ n1_ n2_ n3_ n4_ n5_ n6_ n7_ n8_ n9_ n10_
      refine start_ (n := 5) (S := fun w' => w'.cell? ⟨gb275, 0, none⟩ = some (.int .i64 t268) ∧ w'.cell? ⟨gb275, 1, none⟩ = some (.slice Ao32 t269.length co32) ∧ w'.cell? ⟨gb275, 2, none⟩ = some (.slice Ao33 t272.length co33) ∧ w'.cell? ⟨gb250, 0, none⟩ = some (.int .i64 a0_0) ∧ w'.cell? ⟨gb250, 1, none⟩ = some (.slice A0_1 l0_1.length c0_1) ∧ w'.cell? ⟨gb250, 2, none⟩ = some (.slice A0_2 l0_2.length c0_2)) (ds := []) #[F,F,F,F,F] (by kernel_rfl) rfl rfl ⟨(blk_cell BK275.out 0).trans rfl, (blk_cell BK275.out 1).trans rfl, (blk_cell BK275.out 2).trans rfl, (blk_cell BK250.out 0).trans rfl, (blk_cell BK250.out 1).trans rfl, (blk_cell BK250.out 2).trans rfl⟩ (fun hHeld => ?_)
      generalize wc.drew = w183 at HO_268001 HO_268002 HO_276001 HO_276002 HO_285001 HO_285002 BK250 BK267 BK275 BK284 HB hHeld ⊢
      refine take_ (i := 0) (N := some 45) (v := ?_) (a' := ?_) #[T,F,F,F,F] rfl rfl (by kernel_rfl) (fun _ _ _ h => h) (Or.inl ⟨by rfl, ?_⟩) hHeld ?_ ?_
      rotate_left
      ·rintro w' ⟨s0, s1, s2, s3, s4, s5⟩
       go_simp
       with_reducible rfl
      rotate_left
      ·simp only [Act.put, List.setIfInBounds_toArray, List.set_cons_zero, List.set_cons_succ, i64_w, i32_w]
       rfl
      refine take_ (i := 1) (N := some 46) (v := ?_) (a' := ?_) #[T,T,F,F,F] rfl rfl (by kernel_rfl) (fun _ _ _ h => h) (Or.inl ⟨by rfl, ?_⟩) hHeld ?_ ?_
      rotate_left
      ·rintro w' ⟨s0, s1, s2, s3, s4, s5⟩
       go_simp
       with_reducible rfl
      rotate_left
      ·simp only [Act.put, List.setIfInBounds_toArray, List.set_cons_zero, List.set_cons_succ, i64_w, i32_w]
       rfl
      refine one_ (i := 2) (N := some 47) #[T,T,T,F,F] rfl rfl (by kernel_rfl) q8_44 (fun K hK => ?_)
      refine goes_ Try.func13 (by kernel_rfl) rfl #[.agg #[.int .i64 a0_0, .slice A0_1 l0_1.length c0_1, .slice A0_2 l0_2.length c0_2]] (by rfl) rfl rfl q8_4 ?_
      with_reducible refine (laws_toAges.calls kj11 a0_0 _ _ l0_1 _ _ l0_2 t286 t287 t290 _ ?side1 ?side2 ?side3 ?side4 A61.out).mono ?_
      (case side1 => exact q8_26)
      (case side2 => exact HC0_1.out)
      (case side3 => exact q8_27)
      (case side4 => exact HC0_2.out)
      rintro e w184 ⟨v288, v291, rfl, ho0, ho1, hb⟩
      refine ⟨_, rfl, ?_⟩
      have n0_ := Aside0.mk (Kd.R_elder' q8_7 (Kd.R_base ho0) hb)
      have n1_ := Aside0.mk (Kd.R_elder' q8_8 (Kd.R_base ho1) hb)
      have n2_ := Aside0.mk (Kd.R_elder' q8_9 (Kd.R_base ho0) hb)
      have n3_ := Aside0.mk (Kd.R_elder' q8_10 (Kd.R_base ho1) hb)
      have n4_ := Aside0.mk (Kd.R_elder' q8_11 (Kd.R_base ho0) hb)
      have n5_ := Aside0.mk (Kd.R_elder' q8_12 (Kd.R_base ho1) hb)
      have n6_ := Aside0.mk (Kd.R_lower (Kd.R_new' (Kd.R_new' (Kd.R_new' ho0 (Kd.R_lt q8_7)) (Kd.R_lt q8_9)) (Kd.R_lt q8_11)) (below_size q8_0))
      have n7_ := Aside0.mk (Kd.R_lower (Kd.R_new' (Kd.R_new' (Kd.R_new' ho1 (Kd.R_lt q8_8)) (Kd.R_lt q8_10)) (Kd.R_lt q8_12)) (below_size q8_0))
      have n8_ := Aside0.mk (blk_below (g := gb250) (o := .cells #[.int .i64 a0_0, .slice A0_1 l0_1.length c0_1, .slice A0_2 l0_2.length c0_2] 25 (0, 0)) q8_1 hb)
      have n9_ := Aside0.mk (blk_below (g := gb267) (o := .cells #[.int .i64 t259, .slice Ao24 t260.length co24, .slice Ao25 t263.length co25] 30 (0, 0)) q8_2 hb)
      have n10_ := Aside0.mk (blk_below (g := gb275) (o := .cells #[.int .i64 t268, .slice Ao32 t269.length co32, .slice Ao33 t272.length co33] 30 (0, 0)) q8_3 hb)
      have n11_ := Aside0.mk (blk_below (g := gb284) (o := .cells #[.int .i64 t276, .slice Ao40 t277.length co40, .slice Ao41 t280.length co41] 30 (0, 0)) q8_5 hb)
      have n12_ := Aside0.mk (below_step q8_0 hb)
      clear HO_268001
      clear HO_268002
      clear HO_276001
      clear HO_276002
      clear HO_285001
      clear HO_285002
      clear BK250
      clear BK267
      clear BK275
      clear BK284
      clear HB
      have HO_268001 := n0_
      have HO_268002 := n1_
      have HO_276001 := n2_
      have HO_276002 := n3_
      have HO_285001 := n4_
      have HO_285002 := n5_
      have HO289 := n6_
      have HO292 := n7_
      have BK250 := n8_
      have BK267 := n9_
      have BK275 := n10_
      have BK284 := n11_
      have HB := n12_
      clear n0_ n1_ n2_ n3_ n4_ n5_ n6_ n7_ n8_ n9_ n10_ n11_ n12_
      (try clear hb)
      (try clear hb2)
      (try clear hk)
      (try clear hi)
      (try clear ho0)
      (try clear ho1)
      obtain ⟨Ao185, co185, eo185⟩ := Kd.R_slice HO289.out
      (first | subst eo185 | (injection eo185 with f1_ f2_ f3_; have f4_ := f1_.symm; have f5_ := f3_.symm; clear f1_ f2_ f3_; subst f4_; subst f5_))
      obtain ⟨Ao186, co186, eo186⟩ := Kd.R_slice HO292.out
      (first | subst eo186 | (injection eo186 with f1_ f2_ f3_; have f4_ := f1_.symm; have f5_ := f3_.symm; clear f1_ f2_ f3_; subst f4_; subst f5_))
      refine hK.out _ _ ⟨(blk_cell BK275.out 0).trans rfl, (blk_cell BK275.out 1).trans rfl, (blk_cell BK275.out 2).trans rfl, (blk_cell BK250.out 0).trans rfl, (blk_cell BK250.out 1).trans rfl, (blk_cell BK250.out 2).trans rfl⟩ (fun hHeld => ?_)
      clear hK K
      refine norm_ (a' := ?_) ?_ ?_
      rotate_left
      ·show Act.put _ (some 47) _ = _
       simp only [Act.put, List.setIfInBounds_toArray, List.set_cons_zero, List.set_cons_succ, i64_w, i32_w]
       rfl
      refine one_ (i := 3) (N := some 48) #[T,T,T,T,F] rfl rfl (by kernel_rfl) q8_44 (fun K hK => ?_)
      refine goes_ Try.func15 (by kernel_rfl) rfl #[.agg #[.int .i64 t268, .slice Ao32 t269.length co32, .slice Ao33 t272.length co33], .agg #[.int .i64 t286, .slice Ao185 t287.length co185, .slice Ao186 t290.length co186]] (by rfl) rfl rfl q8_4 ?_
      with_reducible refine (laws_eqAges.calls kj11 t268 _ _ t269 _ _ t272 t286 _ _ t287 _ _ t290 false _ ?side1 ?side2 ?side3 ?side4 ?side5 ?side6 ?side7 ?side8 A62.out).mono ?_
      (case side1 => repeat (first | exact (Kd.R_reads' HO_276001.out).2.2 | (with_reducible refine Kd.C_alloc ?_ _) | (with_reducible refine Kd.C_drewN ?_ _) | (with_reducible refine Kd.C_drew ?_)))
      (case side2 => exact (Kd.R_reads' HO_276001.out).2.1)
      (case side3 => repeat (first | exact (Kd.R_reads' HO_276002.out).2.2 | (with_reducible refine Kd.C_alloc ?_ _) | (with_reducible refine Kd.C_drewN ?_ _) | (with_reducible refine Kd.C_drew ?_)))
      (case side4 => exact (Kd.R_reads' HO_276002.out).2.1)
      (case side5 => repeat (first | exact (Kd.R_reads' HO289.out).2.2 | (with_reducible refine Kd.C_alloc ?_ _) | (with_reducible refine Kd.C_drewN ?_ _) | (with_reducible refine Kd.C_drew ?_)))
      (case side6 => exact (Kd.R_reads' HO289.out).2.1)
      (case side7 => repeat (first | exact (Kd.R_reads' HO292.out).2.2 | (with_reducible refine Kd.C_alloc ?_ _) | (with_reducible refine Kd.C_drewN ?_ _) | (with_reducible refine Kd.C_drew ?_)))
      (case side8 => exact (Kd.R_reads' HO292.out).2.1)
      rintro e w187 ⟨rfl, hb⟩
      refine ⟨_, rfl, ?_⟩
      have n0_ := Aside0.mk (Kd.R_below q8_7 hb)
      have n1_ := Aside0.mk (Kd.R_below q8_8 hb)
      have n2_ := Aside0.mk (Kd.R_below q8_9 hb)
      have n3_ := Aside0.mk (Kd.R_below q8_10 hb)
      have n4_ := Aside0.mk (Kd.R_below q8_11 hb)
      have n5_ := Aside0.mk (Kd.R_below q8_12 hb)
      have n6_ := Aside0.mk (Kd.R_below (by (with_reducible repeat (first | apply Kd.R_alloc | apply Kd.R_drewN | apply Kd.R_drew)); exact HO289.out) hb)
      have n7_ := Aside0.mk (Kd.R_below (by (with_reducible repeat (first | apply Kd.R_alloc | apply Kd.R_drewN | apply Kd.R_drew)); exact HO292.out) hb)
      have n8_ := Aside0.mk (blk_below (g := gb250) (o := .cells #[.int .i64 a0_0, .slice A0_1 l0_1.length c0_1, .slice A0_2 l0_2.length c0_2] 25 (0, 0)) q8_1 hb)
      have n9_ := Aside0.mk (blk_below (g := gb267) (o := .cells #[.int .i64 t259, .slice Ao24 t260.length co24, .slice Ao25 t263.length co25] 30 (0, 0)) q8_2 hb)
      have n10_ := Aside0.mk (blk_below (g := gb275) (o := .cells #[.int .i64 t268, .slice Ao32 t269.length co32, .slice Ao33 t272.length co33] 30 (0, 0)) q8_3 hb)
      have n11_ := Aside0.mk (blk_below (g := gb284) (o := .cells #[.int .i64 t276, .slice Ao40 t277.length co40, .slice Ao41 t280.length co41] 30 (0, 0)) q8_5 hb)
      have n12_ := Aside0.mk (below_step q8_0 hb)
      clear HO_268001
      clear HO_268002
      clear HO_276001
      clear HO_276002
      clear HO_285001
      clear HO_285002
      clear HO289
      clear HO292
      clear BK250
      clear BK267
      clear BK275
      clear BK284
      clear HB
      have HO_268001 := n0_
      have HO_268002 := n1_
      have HO_276001 := n2_
      have HO_276002 := n3_
      have HO_285001 := n4_
      have HO_285002 := n5_
      have HO289 := n6_
      have HO292 := n7_
      have BK250 := n8_
      have BK267 := n9_
      have BK275 := n10_
      have BK284 := n11_
      have HB := n12_
      clear n0_ n1_ n2_ n3_ n4_ n5_ n6_ n7_ n8_ n9_ n10_ n11_ n12_
      (try clear hb)
      (try clear hb2)
      (try clear hk)
      (try clear hi)
      refine hK.out _ _ ⟨(blk_cell BK275.out 0).trans rfl, (blk_cell BK275.out 1).trans rfl, (blk_cell BK275.out 2).trans rfl, (blk_cell BK250.out 0).trans rfl, (blk_cell BK250.out 1).trans rfl, (blk_cell BK250.out 2).trans rfl⟩ (fun hHeld => ?_)
      clear hK K
      refine norm_ (a' := ?_) ?_ ?_
      rotate_left
      ·show Act.put _ (some 48) _ = _
       simp only [Act.put, List.setIfInBounds_toArray, List.set_cons_zero, List.set_cons_succ, i64_w, i32_w]
       rfl
      refine pure_ (i := 4) (N := some 49) (v := ?_) (a' := ?_) #[T,T,T,T,T] rfl rfl (by kernel_rfl) (fun _ _ _ h => h) (Or.inl ⟨by rfl, ?_⟩) ?_ ?_
      rotate_left
      ·intro w'
       go_simp
       with_reducible rfl
      rotate_left
      ·simp only [Act.put, List.setIfInBounds_toArray, List.set_cons_zero, List.set_cons_succ, i64_w, i32_w]
       rfl
      refine done_ (by kernel_rfl) ?_
      try go_wp2
      go_ret
      exact ⟨q8_30, q8_0⟩

/-! What the arguments hold: each number fits, each length is one. -/
def wfT61 (x : S61) : Prop := (Lit.int .i64 x.f0).wf = true ∧ (Lit.int .i64 x.f1).wf = true
/-- THE ONE PURE STATEMENT of laws_FnExactUnpin. -/
def laws_FnExactUnpin.Pure : Prop := ∀ (a0_0 : Int) (l0_1 : List Int) (l0_2 : List (S61)) (a1 : Int), ((Lit.int .i64 a0_0).wf = true ∧ (l0_1.length ≤ maxLen ∧ ∀ x ∈ l0_1, (Lit.int .i64 x).wf = true) ∧ (l0_2.length ≤ maxLen ∧ ∀ x ∈ l0_2, wfT61 x)) → (Lit.int .i64 a1).wf = true → ∃ k, laws_FnExactUnpin.f k a0_0 l0_1 l0_2 a1 = some true

end Go.Proofs.Ytlnjhgjjfplodaa.PFnExactUnpin
