-- Written by the session's own patched copy of the printer (wip/patch_print.py).
import Derived.Test.YtfahmmlkcmadeaaPFnStackOnex0
import Derived.Test.YtfahmmlkcmadeaaPFnStackOnex1
import Derived.Test.YtfahmmlkcmadeaaPFnStackOnex2
import Derived.Test.YtfahmmlkcmadeaaPFnStackOnex3
namespace Go.Proofs.Ytfahmmlkcmadeaa.PFnStackOne
open Go.RowKit Go.Proofs.YtfahmmlkcmadeaaW.PrintWords Go.Proofs.YtfahmmlkcmadeaaW.PrintLast Go.Proofs.YtfahmmlkcmadeaaW.PrintMore
attribute [local go_sem] max2_int min2_int max_two min_two max_three min_three max_four min_four   -- for this text's walks alone
set_option linter.unusedVariables false
set_option linter.unusedSimpArgs false

theorem hl4_step {g : Nat} {w w1 : World} {i : Nat} {u : Value} (h : ∀ k, k ≠ g → w1.heap[k]? = w.heap[k]?) : ∀ k, k ≠ g → (w1.setCell ⟨g, i, none⟩ u).heap[k]? = w.heap[k]? := fun k hk => (Below.heap_setCell w1 ⟨g, i, none⟩ u k hk).trans (h k hk)
theorem hl4_drewN {g : Nat} {w w1 : World} {m : Nat} (h : ∀ k, k ≠ g → w1.heap[k]? = w.heap[k]?) : ∀ k, k ≠ g → (w1.drewN m).heap[k]? = w.heap[k]? := h
theorem hl4_drew {g : Nat} {w w1 : World} (h : ∀ k, k ≠ g → w1.heap[k]? = w.heap[k]?) : ∀ k, k ≠ g → w1.drew.heap[k]? = w.heap[k]? := h
theorem hl4_sets {α : Type} {d : Kd α} {e g : Nat} {w w1 : World} {base : Nat} {ok : Nat → Prop} {v : Value} {xs : List α} (h : d.R e w base (fun k => ok k ∧ k ≠ g) v xs) (hs : ∀ k, k ≠ g → w1.heap[k]? = w.heap[k]? := by repeat (first | (with_reducible exact fun _ _ => rfl) | (with_reducible apply hl4_step) | (with_reducible apply hl4_drewN) | (with_reducible apply hl4_drew))) : d.R e w1 base (fun k => ok k ∧ k ≠ g) v xs := Kd.R_step h (fun k hk _ => hs k hk.2)
open Bool renaming true → T, false → F
theorem q4_0 {p : Prop} (h : p := by repeat (first | (with_reducible first | exact HB.out | apply below_alloc | apply pw_below_drewN | apply below_drew1 | refine below_set ?_ LC.out | refine below_set ?_ cC.out | refine below_set ?_ EF.out | refine below_set ?_ yG.out | refine below_set ?_ IG.out | refine below_set ?_ JG.out) | exact HB.out)) : p := h
theorem q4_1 {p : Prop} (h : p := by repeat (first | (with_reducible first | exact HB.out | apply below_alloc | apply pw_below_drewN | apply below_drew1 | refine below_set ?_ LC.out | refine below_set ?_ cC.out | refine below_set ?_ EF.out | refine below_set ?_ yG.out | refine below_set ?_ IG.out) | exact HB.out)) : p := h
theorem q4_2 {p : Prop} (h : p := by (with_reducible repeat (first | refine blk_drewN ?_ _ | refine blk_drew ?_ | refine blk_alloc ?_ _)); exact mA.out) : p := h
theorem q4_3 {p : Prop} (h : p := by (with_reducible repeat (first | refine blk_drewN ?_ _ | refine blk_drew ?_ | refine blk_alloc ?_ _)); exact aA.out) : p := h
theorem q4_4 {p : Prop} (h : p := by (with_reducible repeat (first | refine blk_drewN ?_ _ | refine blk_drew ?_ | refine blk_alloc ?_ _)); exact pA.out) : p := h
theorem q4_5 {p : Prop} (h : p := by (with_reducible repeat (first | refine blk_drewN ?_ _ | refine blk_drew ?_ | refine blk_alloc ?_ _)); exact eA.out) : p := h
theorem q4_6 {p : Prop} (h : p := by (try simp only [List.map_toArray, List.map_cons, List.map_nil]); first | done | rfl | (simp only [List.length_drop, List.length_take]; rfl)) : p := h
theorem q4_7 {p : Prop} (h : p := by (with_reducible repeat (first | refine blk_drewN ?_ _ | refine blk_drew ?_ | refine blk_alloc ?_ _)); exact gA.out) : p := h
theorem q4_8 {p : Prop} (h : p := by repeat (first | (with_reducible first | exact ZA.out | apply IsS23.alloc | apply IsS23.drewN | apply IsS23.drew | apply IsS23.set_0 | apply IsS23.set_1 | apply IsS23.set_2 | apply IsS23.set_3 | apply IsS23.set_4 | apply IsS23.set_5 | apply IsS23.set_6 | apply IsS23.set_7 | apply IsS23.set_8 | apply IsS23.set_9 | apply IsS23.far_ uA.out | apply IsS23.far_ fA.out | apply IsS23.far_ bA.out | apply IsS23.far_ vA.out | apply IsS23.far_ qA.out) | exact ZA.out)) : p := h
theorem q4_9 {p : Prop} (h : p := by rw [hg]; exact Nat.ne_of_lt (blk_lt (g := dA) (o := .cells #[.int .i64 wA, .int .i64 zA, .int .i64 AA, .int .i64 hA, .int .i64 BA, .int .i64 IA, .int .i64 JA, .int .i64 CA, .int .i64 DA, .bool EA] 23 (0, 0)) q4_3)) : p := h
theorem q4_10 {p : Prop} (h : p := by rw [hg]; exact Nat.ne_of_gt (blk_lt (g := dA) (o := .cells #[.int .i64 wA, .int .i64 zA, .int .i64 AA, .int .i64 hA, .int .i64 BA, .int .i64 IA, .int .i64 JA, .int .i64 CA, .int .i64 DA, .bool EA] 23 (0, 0)) q4_3)) : p := h
theorem q4_11 {p : Prop} (h : p := by (with_reducible repeat (first | refine blk_drewN ?_ _ | refine blk_drew ?_ | refine blk_alloc ?_ _)); refine blk_put (cs := #[.int .i64 iB, .int .i64 oB, .int .i64 rB, .int .i64 0]) ?_ 3 _ rfl; (with_reducible repeat (first | refine blk_drewN ?_ _ | refine blk_drew ?_ | refine blk_alloc ?_ _)); refine blk_put (cs := #[.int .i64 iB, .int .i64 oB, .int .i64 0, .int .i64 0]) ?_ 2 _ rfl; (with_reducible repeat (first | refine blk_drewN ?_ _ | refine blk_drew ?_ | refine blk_alloc ?_ _)); refine blk_put (cs := #[.int .i64 iB, .int .i64 0, .int .i64 0, .int .i64 0]) ?_ 1 _ rfl; (with_reducible repeat (first | refine blk_drewN ?_ _ | refine blk_drew ?_ | refine blk_alloc ?_ _)); refine blk_put (cs := #[.int .i64 0, .int .i64 0, .int .i64 0, .int .i64 0]) ?_ 0 _ rfl; (with_reducible repeat (first | refine blk_drewN ?_ _ | refine blk_drew ?_ | refine blk_alloc ?_ _)); exact gA.out) : p := h
theorem q4_12 {p : Prop} (h : p := by (with_reducible repeat (first | refine blk_drewN ?_ _ | refine blk_drew ?_ | refine blk_alloc ?_ _)); refine blk_put (cs := #[.int .i64 wA, .int .i64 zA, .int .i64 AA, .int .i64 (wrap64 (hA + 1)), .int .i64 BA, .int .i64 IA, .int .i64 JA, .int .i64 CA, .int .i64 DA, .bool EA]) ?_ 6 _ rfl; (with_reducible repeat (first | refine blk_drewN ?_ _ | refine blk_drew ?_ | refine blk_alloc ?_ _)); refine blk_put (cs := #[.int .i64 wA, .int .i64 zA, .int .i64 AA, .int .i64 hA, .int .i64 BA, .int .i64 IA, .int .i64 JA, .int .i64 CA, .int .i64 DA, .bool EA]) ?_ 3 _ rfl; (with_reducible repeat (first | refine blk_drewN ?_ _ | refine blk_drew ?_ | refine blk_alloc ?_ _)); refine blk_far ?_ qA.out _; (with_reducible repeat (first | refine blk_drewN ?_ _ | refine blk_drew ?_ | refine blk_alloc ?_ _)); exact aA.out) : p := h
theorem q4_13 {p : Prop} (h : p := by (iterate 2 ((with_reducible repeat (first | refine blk_drewN ?_ _ | refine blk_drew ?_ | refine blk_alloc ?_ _)); refine blk_far ?_ nA.out _)); (with_reducible repeat (first | refine blk_drewN ?_ _ | refine blk_drew ?_ | refine blk_alloc ?_ _)); refine blk_put (cs := #[.slice none 0 0]) ?_ 0 _ rfl; (with_reducible repeat (first | refine blk_drewN ?_ _ | refine blk_drew ?_ | refine blk_alloc ?_ _)); exact PA.out) : p := h
theorem q4_14 {p : Prop} (h : p := by (with_reducible repeat (first | refine blk_drewN ?_ _ | refine blk_drew ?_ | refine blk_alloc ?_ _)); exact PA.out) : p := h
theorem q4_15 {p : Prop} (h : p := by (iterate 2 ((with_reducible repeat (first | refine blk_drewN ?_ _ | refine blk_drew ?_ | refine blk_alloc ?_ _)); refine blk_far ?_ lA.out _)); (with_reducible repeat (first | refine blk_drewN ?_ _ | refine blk_drew ?_ | refine blk_alloc ?_ _)); refine blk_far ?_ AB.out _; (with_reducible repeat (first | refine blk_drewN ?_ _ | refine blk_drew ?_ | refine blk_alloc ?_ _)); exact mA.out) : p := h
theorem q4_16 {p : Prop} (h : p := by (iterate 2 ((with_reducible repeat (first | refine blk_drewN ?_ _ | refine blk_drew ?_ | refine blk_alloc ?_ _)); refine blk_far ?_ iA.out _)); (with_reducible repeat (first | refine blk_drewN ?_ _ | refine blk_drew ?_ | refine blk_alloc ?_ _)); refine blk_far ?_ jB.out _; (with_reducible repeat (first | refine blk_drewN ?_ _ | refine blk_drew ?_ | refine blk_alloc ?_ _)); exact pA.out) : p := h
theorem q4_17 {p : Prop} (h : p := by (iterate 2 ((with_reducible repeat (first | refine blk_drewN ?_ _ | refine blk_drew ?_ | refine blk_alloc ?_ _)); refine blk_far ?_ jA.out _)); (with_reducible repeat (first | refine blk_drewN ?_ _ | refine blk_drew ?_ | refine blk_alloc ?_ _)); refine blk_far ?_ kB.out _; (with_reducible repeat (first | refine blk_drewN ?_ _ | refine blk_drew ?_ | refine blk_alloc ?_ _)); exact eA.out) : p := h
theorem q4_18 {p : Prop} (h : p := by (iterate 2 ((with_reducible repeat (first | refine blk_drewN ?_ _ | refine blk_drew ?_ | refine blk_alloc ?_ _)); refine blk_far ?_ oA.out _)); (with_reducible repeat (first | refine blk_drewN ?_ _ | refine blk_drew ?_ | refine blk_alloc ?_ _)); refine blk_far ?_ BB.out _; (with_reducible repeat (first | refine blk_drewN ?_ _ | refine blk_drew ?_ | refine blk_alloc ?_ _)); exact gA.out) : p := h
theorem q4_19 {p : Prop} (h : p := by repeat (first | (with_reducible first | exact HB.out | apply below_alloc | apply pw_below_drewN | apply below_drew1 | refine below_set ?_ LC.out | refine below_set ?_ cC.out | refine below_set ?_ EF.out | refine below_set ?_ yG.out) | exact HB.out)) : p := h
theorem q4_20 {p : Prop} (h : p := by repeat (first | (with_reducible first | exact HB.out | apply below_alloc | apply pw_below_drewN | apply below_drew1 | refine below_set ?_ (IsS23.ge ZA.out) | refine below_set ?_ LC.out | refine below_set ?_ EF.out | refine below_set ?_ yG.out | refine below_set ?_ IG.out | refine below_set ?_ JG.out) | exact HB.out)) : p := h
theorem q4_21 {p : Prop} (h : p := by (with_reducible repeat (first | apply Kd.R_alloc | apply Kd.R_drewN | apply Kd.R_drew)); exact rA.out) : p := h
theorem q4_22 {p : Prop} (h : p := by (with_reducible repeat (first | refine blk_drewN ?_ _ | refine blk_drew ?_ | refine blk_alloc ?_ _)); refine blk_put (cs := #[.int .i64 wA, .int .i64 zA, .int .i64 AA, .int .i64 hA, .int .i64 BA, .int .i64 IA, .int .i64 JA, .int .i64 CA, .int .i64 DA, .bool EA]) ?_ 3 _ rfl; (with_reducible repeat (first | refine blk_drewN ?_ _ | refine blk_drew ?_ | refine blk_alloc ?_ _)); refine blk_far ?_ qA.out _; (with_reducible repeat (first | refine blk_drewN ?_ _ | refine blk_drew ?_ | refine blk_alloc ?_ _)); exact aA.out) : p := h
theorem q4_23 {p : Prop} (h : p := by rw [hg]; exact Nat.ne_of_lt (blk_lt (g := GA) (o := .cells #[.slice lB XA.length mB] 29 (0, 0)) q4_2)) : p := h
theorem q4_24 {p : Prop} (h : p := by rw [hg]; exact Nat.ne_of_gt (blk_lt (g := GA) (o := .cells #[.slice lB XA.length mB] 29 (0, 0)) q4_2)) : p := h
theorem q4_25 {p : Prop} (h : p := by (with_reducible repeat (first | refine blk_drewN ?_ _ | refine blk_drew ?_ | refine blk_alloc ?_ _)); refine blk_far ?_ lA.out _; (with_reducible repeat (first | refine blk_drewN ?_ _ | refine blk_drew ?_ | refine blk_alloc ?_ _)); exact mA.out) : p := h
theorem q4_26 {p : Prop} (h : p := by (with_reducible repeat (first | refine blk_drewN ?_ _ | refine blk_drew ?_ | refine blk_alloc ?_ _)); refine blk_far ?_ iA.out _; (with_reducible repeat (first | refine blk_drewN ?_ _ | refine blk_drew ?_ | refine blk_alloc ?_ _)); exact pA.out) : p := h
theorem q4_27 {p : Prop} (h : p := by (with_reducible repeat (first | refine blk_drewN ?_ _ | refine blk_drew ?_ | refine blk_alloc ?_ _)); refine blk_far ?_ jA.out _; (with_reducible repeat (first | refine blk_drewN ?_ _ | refine blk_drew ?_ | refine blk_alloc ?_ _)); exact eA.out) : p := h
theorem q4_28 {p : Prop} (h : p := by (with_reducible repeat (first | refine blk_drewN ?_ _ | refine blk_drew ?_ | refine blk_alloc ?_ _)); refine blk_far ?_ oA.out _; (with_reducible repeat (first | refine blk_drewN ?_ _ | refine blk_drew ?_ | refine blk_alloc ?_ _)); exact gA.out) : p := h
theorem q4_29 {p : Prop} (h : p := by (with_reducible repeat (first | refine blk_drewN ?_ _ | refine blk_drew ?_ | refine blk_alloc ?_ _)); refine blk_far ?_ nA.out _; (with_reducible repeat (first | refine blk_drewN ?_ _ | refine blk_drew ?_ | refine blk_alloc ?_ _)); exact PA.out) : p := h
theorem q4_30 {p : Prop} (h : p := by (with_reducible repeat (first | apply Kd.R_alloc | apply Kd.R_drewN | apply Kd.R_drew)); exact Kd.R_mono (Kd.R_far (p := ⟨dA, 6, none⟩) (Kd.R_far (p := ⟨dA, 3, none⟩) (Kd.R_far (p := ⟨yA, 0, none⟩) (Kd.R_types (Kd.R_types CB.out PA.out (by decide)) aA.out (by decide)) (fun _ hk => hk.1.2) (.slice RB pB.length SB)) (fun _ hk => hk.2) (.int .i64 (wrap64 (hA + 1)))) (fun _ hk => hk.2) (.int .i64 DB)) (fun _ hk => trivial)) : p := h
theorem q4_31 {p : Prop} (h : p := by repeat (first | (with_reducible first | exact HB.out | apply below_alloc | apply pw_below_drewN | apply below_drew1 | refine below_set ?_ LC.out | refine below_set ?_ cC.out | refine below_set ?_ EF.out) | exact HB.out)) : p := h
theorem q4_32 {p : Prop} (h : p := by (iterate 10 ((with_reducible repeat (first | refine blk_drewN ?_ _ | refine blk_drew ?_ | refine blk_alloc ?_ _)); refine blk_far ?_ EB.out _)); (with_reducible repeat (first | refine blk_drewN ?_ _ | refine blk_drew ?_ | refine blk_alloc ?_ _)); refine blk_put (cs := #[.slice none 0 0]) ?_ 0 _ rfl; (with_reducible repeat (first | refine blk_drewN ?_ _ | refine blk_drew ?_ | refine blk_alloc ?_ _)); exact pA.out) : p := h
theorem q4_33 {p : Prop} (h : p := by rw [hg]; exact Nat.ne_of_lt (blk_lt (g := cA) (o := .cells #[.int .i64 0, .int .i64 0, .int .i64 0, .int .i64 0, .int .i64 0, .int .i64 0, .int .i64 0, .int .i64 0, .int .i64 0, .bool false] 23 (0, 0)) q4_5)) : p := h
theorem q4_34 {p : Prop} (h : p := by rw [hg]; exact Nat.ne_of_gt (blk_lt (g := cA) (o := .cells #[.int .i64 0, .int .i64 0, .int .i64 0, .int .i64 0, .int .i64 0, .int .i64 0, .int .i64 0, .int .i64 0, .int .i64 0, .bool false] 23 (0, 0)) q4_5)) : p := h
theorem q4_35 {p : Prop} (h : p := by (with_reducible repeat (first | refine blk_drewN ?_ _ | refine blk_drew ?_ | refine blk_alloc ?_ _)); refine blk_far ?_ nA.out _; (with_reducible repeat (first | refine blk_drewN ?_ _ | refine blk_drew ?_ | refine blk_alloc ?_ _)); refine blk_put (cs := #[.slice none 0 0]) ?_ 0 _ rfl; (with_reducible repeat (first | refine blk_drewN ?_ _ | refine blk_drew ?_ | refine blk_alloc ?_ _)); exact PA.out) : p := h
theorem q4_36 {p : Prop} (h : p := by repeat (first | (with_reducible first | exact HB.out | apply below_alloc | apply pw_below_drewN | apply below_drew1 | refine below_set ?_ LC.out | refine below_set ?_ cC.out) | exact HB.out)) : p := h
theorem q4_37 {p : Prop} (h : p := by (with_reducible repeat (first | refine blk_drewN ?_ _ | refine blk_drew ?_ | refine blk_alloc ?_ _)); refine blk_far ?_ lA.out _; (with_reducible repeat (first | refine blk_drewN ?_ _ | refine blk_drew ?_ | refine blk_alloc ?_ _)); refine blk_far ?_ AB.out _; (with_reducible repeat (first | refine blk_drewN ?_ _ | refine blk_drew ?_ | refine blk_alloc ?_ _)); exact mA.out) : p := h
theorem q4_38 {p : Prop} (h : p := by (with_reducible repeat (first | refine blk_drewN ?_ _ | refine blk_drew ?_ | refine blk_alloc ?_ _)); refine blk_far ?_ iA.out _; (with_reducible repeat (first | refine blk_drewN ?_ _ | refine blk_drew ?_ | refine blk_alloc ?_ _)); refine blk_far ?_ jB.out _; (with_reducible repeat (first | refine blk_drewN ?_ _ | refine blk_drew ?_ | refine blk_alloc ?_ _)); exact pA.out) : p := h
theorem q4_39 {p : Prop} (h : p := by (with_reducible repeat (first | refine blk_drewN ?_ _ | refine blk_drew ?_ | refine blk_alloc ?_ _)); refine blk_far ?_ jA.out _; (with_reducible repeat (first | refine blk_drewN ?_ _ | refine blk_drew ?_ | refine blk_alloc ?_ _)); refine blk_far ?_ kB.out _; (with_reducible repeat (first | refine blk_drewN ?_ _ | refine blk_drew ?_ | refine blk_alloc ?_ _)); exact eA.out) : p := h
theorem q4_40 {p : Prop} (h : p := by (with_reducible repeat (first | refine blk_drewN ?_ _ | refine blk_drew ?_ | refine blk_alloc ?_ _)); refine blk_far ?_ oA.out _; (with_reducible repeat (first | refine blk_drewN ?_ _ | refine blk_drew ?_ | refine blk_alloc ?_ _)); refine blk_far ?_ BB.out _; (with_reducible repeat (first | refine blk_drewN ?_ _ | refine blk_drew ?_ | refine blk_alloc ?_ _)); exact gA.out) : p := h
theorem q4_41 {p : Prop} (h : p := by (with_reducible repeat (first | apply Kd.R_alloc | apply Kd.R_drewN | apply Kd.R_drew)); exact Kd.R_mono (Kd.R_far (p := ⟨dA, 3, none⟩) (Kd.R_far (p := ⟨yA, 0, none⟩) (Kd.R_types (Kd.R_types CB.out PA.out (by decide)) aA.out (by decide)) (fun _ hk => hk.1.2) (.slice RB pB.length SB)) (fun _ hk => hk.2) (.int .i64 (wrap64 (hA + 1)))) (fun _ hk => trivial)) : p := h
theorem q4_42 {p : Prop} (h : p := by repeat (first | (with_reducible first | exact HB.out | apply below_alloc | apply pw_below_drewN | apply below_drew1 | refine below_set ?_ LC.out) | exact HB.out)) : p := h
theorem q4_43 {p : Prop} (h : p := by rw [hg]; exact Nat.ne_of_lt (blk_lt (g := kA) (o := .cells #[.slice none 0 0] 29 (0, 0)) q4_4)) : p := h
theorem q4_44 {p : Prop} (h : p := by rw [hg]; exact Nat.ne_of_gt (blk_lt (g := kA) (o := .cells #[.slice none 0 0] 29 (0, 0)) q4_4)) : p := h
theorem q4_45 {p : Prop} (h : p := by (iterate 4 ((with_reducible repeat (first | refine blk_drewN ?_ _ | refine blk_drew ?_ | refine blk_alloc ?_ _)); refine blk_far ?_ FB.out _)); (with_reducible repeat (first | refine blk_drewN ?_ _ | refine blk_drew ?_ | refine blk_alloc ?_ _)); exact mA.out) : p := h
theorem q4_46 {p : Prop} (h : p := by (iterate 4 ((with_reducible repeat (first | refine blk_drewN ?_ _ | refine blk_drew ?_ | refine blk_alloc ?_ _)); refine blk_far ?_ vA.out _)); (with_reducible repeat (first | refine blk_drewN ?_ _ | refine blk_drew ?_ | refine blk_alloc ?_ _)); exact aA.out) : p := h
theorem q4_47 {p : Prop} (h : p := by (iterate 4 ((with_reducible repeat (first | refine blk_drewN ?_ _ | refine blk_drew ?_ | refine blk_alloc ?_ _)); refine blk_far ?_ tB.out _)); (with_reducible repeat (first | refine blk_drewN ?_ _ | refine blk_drew ?_ | refine blk_alloc ?_ _)); exact pA.out) : p := h
theorem q4_48 {p : Prop} (h : p := by (iterate 4 ((with_reducible repeat (first | refine blk_drewN ?_ _ | refine blk_drew ?_ | refine blk_alloc ?_ _)); refine blk_far ?_ uB.out _)); (with_reducible repeat (first | refine blk_drewN ?_ _ | refine blk_drew ?_ | refine blk_alloc ?_ _)); exact eA.out) : p := h
theorem q4_49 {p : Prop} (h : p := by have := HJ4.out; have := HJ85.out; have := HJ108.out; first | omega | exact Nat.le_refl _) : p := h
theorem q4_50 {p : Prop} (h : p := by repeat (first | (with_reducible first | exact HB.out | apply below_alloc | apply pw_below_drewN | apply below_drew1) | exact HB.out)) : p := h
theorem q4_51 {p : Prop} (h : p := by kernel_rfl) : p := h
theorem q4_52 {p : Prop} (h : p := by first | rfl | (simp; done) | (simp [*]; done)) : p := h
theorem q4_53 {p : Prop} (h : p := by have := HJ4.out; have := HJ85.out; first | omega | exact Nat.le_refl _) : p := h
theorem q4_54 {p : Prop} (h : p := by (with_reducible repeat (first | apply Kd.R_alloc | apply Kd.R_drewN | apply Kd.R_drew)); exact CB.out) : p := h
theorem q4_55 {p : Prop} (h : p := by have := HJ4.out; first | omega | exact Nat.le_refl _) : p := h
/-! ### impl_StStep: function 30 -/
mutual
def impl_StStep.j0 : Nat → Bool → List Int → Int → Int → Int → Int → Int → Int → Int → Int → Int → Bool → Int → Int → Int → Int → Option (List Int × Int × Int × Int × Int × Int × Int × Int × Int × Int × Bool × Bool)
 | 0, _, _, _, _, _, _, _, _, _, _, _, _, _, _, _, _ => none
 | k + 1, x32, uI, OA, RA, SA, MA, TA, aB, cB, UA, VA, WA, vI, wI, xI, yI => if x32 = true then (some (([] : List Int), 0, 0, 0, 0, 0, 0, 0, 0, 0, false, false)) else ((impl_Do.f uI vI wI xI yI).bind fun XB => (if XB.2.2 = true then (if MA = 0 then ((impl_stRead.f XB.2.1).bind fun DB => ((impl_top.f DB).bind fun GI => (if OA = 2 then (if GI.1 < 0 then ((impl_Call_end.f OA RA SA (wrap64 (MA + 1)) TA aB DB UA VA WA 2).bind fun UB => (impl_StStep.j3 k UB.1 UB.2.1 UB.2.2.1 UB.2.2.2.1 UB.2.2.2.2.1 UB.2.2.2.2.2.1 UB.2.2.2.2.2.2.1 UB.2.2.2.2.2.2.2.1 UB.2.2.2.2.2.2.2.2.1 UB.2.2.2.2.2.2.2.2.2 XB.1)) else (impl_StStep.j3 k OA RA SA (wrap64 (MA + 1)) TA aB DB UA VA WA XB.1)) else (impl_StStep.j3 k OA RA SA (wrap64 (MA + 1)) TA aB DB UA VA WA XB.1)))) else (if MA = 1 then (impl_StStep.j1 k XB.2.1 MA (OA == 2) OA RA SA (wrap64 (MA + 1)) TA aB cB UA VA WA XB.1) else (impl_StStep.j1 k XB.2.1 MA false OA RA SA (wrap64 (MA + 1)) TA aB cB UA VA WA XB.1))) else (some (([] : List Int), 0, 0, 0, 0, 0, 0, 0, 0, 0, false, false))))
def impl_StStep.j3 : Nat → Int → Int → Int → Int → Int → Int → Int → Int → Int → Bool → List Int → Option (List Int × Int × Int × Int × Int × Int × Int × Int × Int × Int × Bool × Bool)
 | 0, _, _, _, _, _, _, _, _, _, _, _ => none
 | k + 1, OA, RA, SA, MA, TA, aB, cB, UA, VA, WA, gB => some (gB, OA, RA, SA, MA, TA, aB, cB, UA, VA, WA, true)
def impl_StStep.j1 : Nat → Int → Int → Bool → Int → Int → Int → Int → Int → Int → Int → Int → Int → Bool → List Int → Option (List Int × Int × Int × Int × Int × Int × Int × Int × Int × Int × Bool × Bool)
 | 0, _, _, _, _, _, _, _, _, _, _, _, _, _, _ => none
 | k + 1, x12, x14, x72, OA, RA, SA, MA, TA, aB, cB, UA, VA, WA, gB => if x72 = true then ((impl_within.f x12 0 1048575).bind fun DI => (if DI = true then (impl_StStep.j3 k OA RA SA MA TA x12 cB UA VA WA gB) else (impl_StStep.j3 k OA RA SA MA TA 0 cB UA VA WA gB))) else (if x14 = 2 then (impl_StStep.j2 k x14 (x12 == 1) OA RA SA MA TA aB cB UA VA WA gB) else (impl_StStep.j2 k x14 false OA RA SA MA TA aB cB UA VA WA gB))
def impl_StStep.j2 : Nat → Int → Bool → Int → Int → Int → Int → Int → Int → Int → Int → Int → Bool → List Int → Option (List Int × Int × Int × Int × Int × Int × Int × Int × Int × Int × Bool × Bool)
 | 0, _, _, _, _, _, _, _, _, _, _, _, _, _ => none
 | k + 1, x14, x85, OA, RA, SA, MA, TA, aB, cB, UA, VA, WA, gB => if x85 = true then ((impl_Call_end.f OA RA SA MA TA aB cB UA VA WA 1).bind fun dB => (if dB.1 = 2 then ((impl_top.f dB.2.2.2.2.2.2.1).bind fun HI => (impl_StStep.j3 k dB.1 dB.2.1 dB.2.2.1 dB.2.2.2.1 dB.2.2.2.2.1 dB.2.2.2.2.2.1 dB.2.2.2.2.2.2.1 dB.2.2.2.2.2.2.2.1 HI.1 dB.2.2.2.2.2.2.2.2.2 gB)) else (impl_StStep.j3 k dB.1 dB.2.1 dB.2.2.1 dB.2.2.2.1 dB.2.2.2.2.1 dB.2.2.2.2.2.1 dB.2.2.2.2.2.2.1 dB.2.2.2.2.2.2.2.1 dB.2.2.2.2.2.2.2.2.1 dB.2.2.2.2.2.2.2.2.2 gB))) else (if x14 = 2 then (impl_StStep.j3 k OA RA SA 0 TA aB cB UA VA WA gB) else (impl_StStep.j3 k OA RA SA MA TA aB cB UA VA WA gB))
end
def impl_StStep.f (k : Nat) (a0 : Int) (XA : List Int) (wA : Int) (zA : Int) (AA : Int) (hA : Int) (BA : Int) (IA : Int) (JA : Int) (CA : Int) (DA : Int) (EA : Bool) : Option (List Int × Int × Int × Int × Int × Int × Int × Int × Int × Int × Bool × Bool) := (impl_StAct.f k a0 wA zA AA hA BA IA JA CA DA EA).bind fun hB => (if hB.2.2.2.2 = true then (impl_StStep.j0 k ((XA.length : Int) != (wrap64 (1 + a0))) XA wA zA AA hA BA IA JA CA DA EA hB.1 hB.2.1 hB.2.2.1 hB.2.2.2.1) else (impl_StStep.j0 k true XA wA zA AA hA BA IA JA CA DA EA hB.1 hB.2.1 hB.2.2.1 hB.2.2.2.1))
theorem impl_StStep.mono_l : ∀ k, (∀ y0 y1 y2 y3 y4 y5 y6 y7 y8 y9 y10 y11 y12 y13 y14 y15, LeO (impl_StStep.j0 k y0 y1 y2 y3 y4 y5 y6 y7 y8 y9 y10 y11 y12 y13 y14 y15) (impl_StStep.j0 (k + 1) y0 y1 y2 y3 y4 y5 y6 y7 y8 y9 y10 y11 y12 y13 y14 y15)) ∧ (∀ y0 y1 y2 y3 y4 y5 y6 y7 y8 y9 y10, LeO (impl_StStep.j3 k y0 y1 y2 y3 y4 y5 y6 y7 y8 y9 y10) (impl_StStep.j3 (k + 1) y0 y1 y2 y3 y4 y5 y6 y7 y8 y9 y10)) ∧ (∀ y0 y1 y2 y3 y4 y5 y6 y7 y8 y9 y10 y11 y12 y13, LeO (impl_StStep.j1 k y0 y1 y2 y3 y4 y5 y6 y7 y8 y9 y10 y11 y12 y13) (impl_StStep.j1 (k + 1) y0 y1 y2 y3 y4 y5 y6 y7 y8 y9 y10 y11 y12 y13)) ∧ (∀ y0 y1 y2 y3 y4 y5 y6 y7 y8 y9 y10 y11 y12, LeO (impl_StStep.j2 k y0 y1 y2 y3 y4 y5 y6 y7 y8 y9 y10 y11 y12) (impl_StStep.j2 (k + 1) y0 y1 y2 y3 y4 y5 y6 y7 y8 y9 y10 y11 y12))
 | 0 => ⟨fun _ _ _ _ _ _ _ _ _ _ _ _ _ _ _ _ r h => by simp [impl_StStep.j0] at h, fun _ _ _ _ _ _ _ _ _ _ _ r h => by simp [impl_StStep.j3] at h, fun _ _ _ _ _ _ _ _ _ _ _ _ _ _ r h => by simp [impl_StStep.j1] at h, fun _ _ _ _ _ _ _ _ _ _ _ _ _ r h => by simp [impl_StStep.j2] at h⟩
 | k + 1 => by
  obtain ⟨ih0, ih1, ih2, ih3⟩ := impl_StStep.mono_l k
  refine ⟨?_, ?_, ?_, ?_⟩
  ·intro y0 y1 y2 y3 y4 y5 y6 y7 y8 y9 y10 y11 y12 y13 y14 y15
   unfold impl_StStep.j0
   repeat' first
   | (with_reducible exact ih0 _ _ _ _ _ _ _ _ _ _ _ _ _ _ _ _)
   | (with_reducible exact ih1 _ _ _ _ _ _ _ _ _ _ _)
   | (with_reducible exact ih2 _ _ _ _ _ _ _ _ _ _ _ _ _ _)
   | (with_reducible exact ih3 _ _ _ _ _ _ _ _ _ _ _ _ _)
   | (with_reducible exact impl_StAct.mono _ _ _ _ _ _ _ _ _ _ _ _)
   | (with_reducible exact LeO.refl _)
   | (with_reducible exact LeO.none _)
   | (with_reducible refine LeO.ite ?_ ?_)
   | (with_reducible refine LeO.bind ?_ (fun _ => ?_))
   | exact ih0 _ _ _ _ _ _ _ _ _ _ _ _ _ _ _ _
   | exact ih1 _ _ _ _ _ _ _ _ _ _ _
   | exact ih2 _ _ _ _ _ _ _ _ _ _ _ _ _ _
   | exact ih3 _ _ _ _ _ _ _ _ _ _ _ _ _
   | exact impl_StAct.mono _ _ _ _ _ _ _ _ _ _ _ _
   | exact LeO.none _
   | refine LeO.ite ?_ ?_
   | refine LeO.bind ?_ (fun _ => ?_)
  ·intro y0 y1 y2 y3 y4 y5 y6 y7 y8 y9 y10
   unfold impl_StStep.j3
   repeat' first
   | (with_reducible exact ih0 _ _ _ _ _ _ _ _ _ _ _ _ _ _ _ _)
   | (with_reducible exact ih1 _ _ _ _ _ _ _ _ _ _ _)
   | (with_reducible exact ih2 _ _ _ _ _ _ _ _ _ _ _ _ _ _)
   | (with_reducible exact ih3 _ _ _ _ _ _ _ _ _ _ _ _ _)
   | (with_reducible exact impl_StAct.mono _ _ _ _ _ _ _ _ _ _ _ _)
   | (with_reducible exact LeO.refl _)
   | (with_reducible exact LeO.none _)
   | (with_reducible refine LeO.ite ?_ ?_)
   | (with_reducible refine LeO.bind ?_ (fun _ => ?_))
   | exact ih0 _ _ _ _ _ _ _ _ _ _ _ _ _ _ _ _
   | exact ih1 _ _ _ _ _ _ _ _ _ _ _
   | exact ih2 _ _ _ _ _ _ _ _ _ _ _ _ _ _
   | exact ih3 _ _ _ _ _ _ _ _ _ _ _ _ _
   | exact impl_StAct.mono _ _ _ _ _ _ _ _ _ _ _ _
   | exact LeO.none _
   | refine LeO.ite ?_ ?_
   | refine LeO.bind ?_ (fun _ => ?_)
  ·intro y0 y1 y2 y3 y4 y5 y6 y7 y8 y9 y10 y11 y12 y13
   unfold impl_StStep.j1
   repeat' first
   | (with_reducible exact ih0 _ _ _ _ _ _ _ _ _ _ _ _ _ _ _ _)
   | (with_reducible exact ih1 _ _ _ _ _ _ _ _ _ _ _)
   | (with_reducible exact ih2 _ _ _ _ _ _ _ _ _ _ _ _ _ _)
   | (with_reducible exact ih3 _ _ _ _ _ _ _ _ _ _ _ _ _)
   | (with_reducible exact impl_StAct.mono _ _ _ _ _ _ _ _ _ _ _ _)
   | (with_reducible exact LeO.refl _)
   | (with_reducible exact LeO.none _)
   | (with_reducible refine LeO.ite ?_ ?_)
   | (with_reducible refine LeO.bind ?_ (fun _ => ?_))
   | exact ih0 _ _ _ _ _ _ _ _ _ _ _ _ _ _ _ _
   | exact ih1 _ _ _ _ _ _ _ _ _ _ _
   | exact ih2 _ _ _ _ _ _ _ _ _ _ _ _ _ _
   | exact ih3 _ _ _ _ _ _ _ _ _ _ _ _ _
   | exact impl_StAct.mono _ _ _ _ _ _ _ _ _ _ _ _
   | exact LeO.none _
   | refine LeO.ite ?_ ?_
   | refine LeO.bind ?_ (fun _ => ?_)
  ·intro y0 y1 y2 y3 y4 y5 y6 y7 y8 y9 y10 y11 y12
   unfold impl_StStep.j2
   repeat' first
   | (with_reducible exact ih0 _ _ _ _ _ _ _ _ _ _ _ _ _ _ _ _)
   | (with_reducible exact ih1 _ _ _ _ _ _ _ _ _ _ _)
   | (with_reducible exact ih2 _ _ _ _ _ _ _ _ _ _ _ _ _ _)
   | (with_reducible exact ih3 _ _ _ _ _ _ _ _ _ _ _ _ _)
   | (with_reducible exact impl_StAct.mono _ _ _ _ _ _ _ _ _ _ _ _)
   | (with_reducible exact LeO.refl _)
   | (with_reducible exact LeO.none _)
   | (with_reducible refine LeO.ite ?_ ?_)
   | (with_reducible refine LeO.bind ?_ (fun _ => ?_))
   | exact ih0 _ _ _ _ _ _ _ _ _ _ _ _ _ _ _ _
   | exact ih1 _ _ _ _ _ _ _ _ _ _ _
   | exact ih2 _ _ _ _ _ _ _ _ _ _ _ _ _ _
   | exact ih3 _ _ _ _ _ _ _ _ _ _ _ _ _
   | exact impl_StAct.mono _ _ _ _ _ _ _ _ _ _ _ _
   | exact LeO.none _
   | refine LeO.ite ?_ ?_
   | refine LeO.bind ?_ (fun _ => ?_)
theorem impl_StStep.mono : ∀ a0 a1 a2 a3 a4 a5 a6 a7 a8 a9 a10 a11 k, LeO (impl_StStep.f k a0 a1 a2 a3 a4 a5 a6 a7 a8 a9 a10 a11) (impl_StStep.f (k + 1) a0 a1 a2 a3 a4 a5 a6 a7 a8 a9 a10 a11) := by
 intro a0 a1 a2 a3 a4 a5 a6 a7 a8 a9 a10 a11 k
 obtain ⟨ih0, ih1, ih2, ih3⟩ := impl_StStep.mono_l k
 unfold impl_StStep.f
 repeat' first
   | (with_reducible exact ih0 _ _ _ _ _ _ _ _ _ _ _ _ _ _ _ _)
   | (with_reducible exact ih1 _ _ _ _ _ _ _ _ _ _ _)
   | (with_reducible exact ih2 _ _ _ _ _ _ _ _ _ _ _ _ _ _)
   | (with_reducible exact ih3 _ _ _ _ _ _ _ _ _ _ _ _ _)
   | (with_reducible exact impl_StAct.mono _ _ _ _ _ _ _ _ _ _ _ _)
   | (with_reducible exact LeO.refl _)
   | (with_reducible exact LeO.none _)
   | (with_reducible refine LeO.ite ?_ ?_)
   | (with_reducible refine LeO.bind ?_ (fun _ => ?_))
   | exact ih0 _ _ _ _ _ _ _ _ _ _ _ _ _ _ _ _
   | exact ih1 _ _ _ _ _ _ _ _ _ _ _
   | exact ih2 _ _ _ _ _ _ _ _ _ _ _ _ _ _
   | exact ih3 _ _ _ _ _ _ _ _ _ _ _ _ _
   | exact impl_StAct.mono _ _ _ _ _ _ _ _ _ _ _ _
   | exact LeO.none _
   | refine LeO.ite ?_ ?_
   | refine LeO.bind ?_ (fun _ => ?_)
set_option maxHeartbeats 8000000 in
set_option maxRecDepth 100000 in
theorem impl_StStep.calls (k : Nat) (a0 : Int) (lB : Option Addr) (mB : Nat) (XA : List Int) (wA : Int) (zA : Int) (AA : Int) (hA : Int) (BA : Int) (IA : Int) (JA : Int) (CA : Int) (DA : Int) (EA : Bool) (r1 : List Int) (r2 : Int) (r3 : Int) (r4 : Int) (r5 : Int) (r6 : Int) (r7 : Int) (r8 : Int) (r9 : Int) (r10 : Int) (r11 : Bool) (r12 : Bool) (w : World) (zI : Kd.C (Kd.int .i64) w lB XA.length XA) (AI : XA.length ≤ mB) (h : impl_StStep.f k a0 XA wA zA AA hA BA IA JA CA DA EA = some (r1, r2, r3, r4, r5, r6, r7, r8, r9, r10, r11, r12)) :
  Calls Try.prog 30 #[.int .i64 a0, .agg #[.slice lB XA.length mB], .agg #[.int .i64 wA, .int .i64 zA, .int .i64 AA, .int .i64 hA, .int .i64 BA, .int .i64 IA, .int .i64 JA, .int .i64 CA, .int .i64 DA, .bool EA]] w fun e w' => ∃ v0_ : Value, e = .returned (.tuple #[.agg #[v0_], .agg #[.int .i64 r2, .int .i64 r3, .int .i64 r4, .int .i64 r5, .int .i64 r6, .int .i64 r7, .int .i64 r8, .int .i64 r9, .int .i64 r10, .bool r11], .bool r12]) ∧ Kd.R (Kd.int .i64) 3 w' w.heap.size (fun _ => True) v0_ r1 ∧ Below w.heap.size w w' := by
 have hu29 := Try.underlying29
 have hu23 := Try.underlying23
 have hu37 := Try.underlying37
 have BI := Aside0.mk zI
 have CI := Aside0.mk AI
 clear zI AI
 have HB := Aside0.mk (Below.refl w.heap.size w)
 have H : ((impl_StAct.f k a0 wA zA AA hA BA IA JA CA DA EA).bind fun hB => (if hB.2.2.2.2 = true then (impl_StStep.j0 k ((XA.length : Int) != (wrap64 (1 + a0))) XA wA zA AA hA BA IA JA CA DA EA hB.1 hB.2.1 hB.2.2.1 hB.2.2.2.1) else (impl_StStep.j0 k true XA wA zA AA hA BA IA JA CA DA EA hB.1 hB.2.1 hB.2.2.1 hB.2.2.2.1))) = some (r1, r2, r3, r4, r5, r6, r7, r8, r9, r10, r11, r12) := h
 clear h
 replace H := Option.bind_eq_some_iff.mp H
 obtain ⟨⟨iB, oB, rB, sB, II⟩, A40, H⟩ := H
 (try dsimp only at H)
 have A4 := Aside0.mk A40
 clear A40
 have HC5 := Aside0.mk H
 clear H
 go_enter Try.func30, Try.ntmps30
 go_upto_region 2 with (first | ((with_reducible refine gate_dst (N := 4) rfl ?_); (try (refine gate_guard (by rfl) ?_; dsimp only)); refine box_event ?hg (N := 4) ?hd (cs := #[.slice lB XA.length mB]) (t := 29) ?hr ?_; (case hd => rfl); (case hg => rfl); (case hr => first | (go_simp; done) | (go_simp; rfl)); intro GA hg w6 hbox hb; have wB := Aside0.mk (below_step q4_50 hb); have xB := Aside0.mk (hbox); have yB := Aside0.mk ((by rw [hg]; exact (below_size q4_50) : w.heap.size ≤ GA)); have zB := Aside0.mk ((by rw [hg]; exact (below_size q4_50) : w.heap.size ≤ GA)); clear HB; have HB := wB; have mA := xB; have IL := yB; have LC := zB; clear wB xB yB zB; clear hb hbox hg) | ((with_reducible refine gate_dst (N := 5) rfl ?_); (try (refine gate_guard (by rfl) ?_; dsimp only)); refine box_event ?hg (N := 5) ?hd (cs := #[.int .i64 wA, .int .i64 zA, .int .i64 AA, .int .i64 hA, .int .i64 BA, .int .i64 IA, .int .i64 JA, .int .i64 CA, .int .i64 DA, .bool EA]) (t := 23) ?hr ?_; (case hd => rfl); (case hg => rfl); (case hr => first | (go_simp; done) | (go_simp; rfl)); intro dA hg w7 hbox hb; have wB := Aside0.mk (blk_below (g := GA) (o := .cells #[.slice lB XA.length mB] 29 (0, 0)) q4_2 hb); have xB := Aside0.mk (below_step q4_42 hb); have yB := Aside0.mk (hbox); have zB := Aside0.mk ((by rw [hg]; exact (below_size q4_42) : w.heap.size ≤ dA)); have GB := Aside0.mk ((by rw [hg]; exact (below_size q4_42) : w.heap.size ≤ dA)); have PB := Aside0.mk ((q4_23 : GA ≠ dA)); have QB := Aside0.mk ((q4_24 : dA ≠ GA)); clear mA HB; have mA := wB; have HB := xB; have aA := yB; have JL := zB; have cC := GB; have lA := PB; have uA := QB; clear wB xB yB zB GB PB QB; clear hb hbox hg) | ((with_reducible refine gate_dst (N := 6) rfl ?_); (try (refine gate_guard (by rfl) ?_; dsimp only)); refine box_event ?hg (N := 6) ?hd (cs := #[.slice none 0 0]) (t := 29) ?hr ?_; (case hd => rfl); (case hg => rfl); (case hr => first | (go_simp; done) | (go_simp; rfl)); intro kA hg w8 hbox hb; have wB := Aside0.mk (blk_below (g := GA) (o := .cells #[.slice lB XA.length mB] 29 (0, 0)) q4_2 hb); have xB := Aside0.mk (blk_below (g := dA) (o := .cells #[.int .i64 wA, .int .i64 zA, .int .i64 AA, .int .i64 hA, .int .i64 BA, .int .i64 IA, .int .i64 JA, .int .i64 CA, .int .i64 DA, .bool EA] 23 (0, 0)) q4_3 hb); have yB := Aside0.mk (below_step q4_36 hb); have zB := Aside0.mk (hbox); have GB := Aside0.mk ((by rw [hg]; exact (below_size q4_36) : w.heap.size ≤ kA)); have PB := Aside0.mk ((by rw [hg]; exact (below_size q4_36) : w.heap.size ≤ kA)); have QB := Aside0.mk ((q4_23 : GA ≠ kA)); have YB := Aside0.mk ((q4_24 : kA ≠ GA)); have zG := Aside0.mk ((q4_9 : dA ≠ kA)); have AG := Aside0.mk ((q4_10 : kA ≠ dA)); clear mA aA HB; have mA := wB; have aA := xB; have HB := yB; have pA := zB; have KL := GB; have EF := PB; have IB := QB; have JB := YB; have fA := zG; have iA := AG; clear wB xB yB zB GB PB QB YB zG AG; clear hb hbox hg) | ((with_reducible refine gate_dst (N := 7) rfl ?_); (try (refine gate_guard (by rfl) ?_; dsimp only)); refine box_event ?hg (N := 7) ?hd (cs := #[.int .i64 0, .int .i64 0, .int .i64 0, .int .i64 0, .int .i64 0, .int .i64 0, .int .i64 0, .int .i64 0, .int .i64 0, .bool false]) (t := 23) ?hr ?_; (case hd => rfl); (case hg => rfl); (case hr => first | (go_simp; done) | (go_simp; rfl)); intro cA hg w9 hbox hb; have wB := Aside0.mk (blk_below (g := GA) (o := .cells #[.slice lB XA.length mB] 29 (0, 0)) q4_2 hb); have xB := Aside0.mk (blk_below (g := dA) (o := .cells #[.int .i64 wA, .int .i64 zA, .int .i64 AA, .int .i64 hA, .int .i64 BA, .int .i64 IA, .int .i64 JA, .int .i64 CA, .int .i64 DA, .bool EA] 23 (0, 0)) q4_3 hb); have yB := Aside0.mk (blk_below (g := kA) (o := .cells #[.slice none 0 0] 29 (0, 0)) q4_4 hb); have zB := Aside0.mk (below_step q4_31 hb); have GB := Aside0.mk (hbox); have PB := Aside0.mk ((by rw [hg]; exact (below_size q4_31) : w.heap.size ≤ cA)); have QB := Aside0.mk ((by rw [hg]; exact (below_size q4_31) : w.heap.size ≤ cA)); have YB := Aside0.mk ((q4_23 : GA ≠ cA)); have zG := Aside0.mk ((q4_24 : cA ≠ GA)); have AG := Aside0.mk ((q4_9 : dA ≠ cA)); have MC := Aside0.mk ((q4_10 : cA ≠ dA)); have NC := Aside0.mk ((q4_43 : kA ≠ cA)); have OC := Aside0.mk ((q4_44 : cA ≠ kA)); clear mA aA pA HB; have mA := wB; have aA := xB; have pA := yB; have HB := zB; have eA := GB; have LL := PB; have yG := QB; have KB := YB; have LB := zG; have bA := AG; have jA := MC; have EB := NC; have vB := OC; clear wB xB yB zB GB PB QB YB zG AG MC NC OC; clear hb hbox hg; have ML := uA.out; have NL := lA.out; have OL := fA.out; have PL := iA.out; have QL := bA.out; have RL := jA.out; have gC : w9.cell? ⟨dA, 0, none⟩ = some (.int .i64 wA) := (blk_cell aA.out 0).trans rfl; have hC : w9.cell? ⟨dA, 1, none⟩ = some (.int .i64 zA) := (blk_cell aA.out 1).trans rfl; have iC : w9.cell? ⟨dA, 2, none⟩ = some (.int .i64 AA) := (blk_cell aA.out 2).trans rfl; have jC : w9.cell? ⟨dA, 3, none⟩ = some (.int .i64 hA) := (blk_cell aA.out 3).trans rfl; have kC : w9.cell? ⟨dA, 4, none⟩ = some (.int .i64 BA) := (blk_cell aA.out 4).trans rfl; have lC : w9.cell? ⟨dA, 5, none⟩ = some (.int .i64 IA) := (blk_cell aA.out 5).trans rfl; have mC : w9.cell? ⟨dA, 6, none⟩ = some (.int .i64 JA) := (blk_cell aA.out 6).trans rfl; have nC : w9.cell? ⟨dA, 7, none⟩ = some (.int .i64 CA) := (blk_cell aA.out 7).trans rfl; have oC : w9.cell? ⟨dA, 8, none⟩ = some (.int .i64 DA) := (blk_cell aA.out 8).trans rfl; have pC : w9.cell? ⟨dA, 9, none⟩ = some (.bool EA) := (blk_cell aA.out 9).trans rfl; have qC := blk_frozen aA.out 0; have rC := blk_frozen aA.out 1; have sC := blk_frozen aA.out 2; have tC := blk_frozen aA.out 3; have uC := blk_frozen aA.out 4; have vC := blk_frozen aA.out 5; have wC := blk_frozen aA.out 6; have xC := blk_frozen aA.out 7; have yC := blk_frozen aA.out 8; have zC := blk_frozen aA.out 9) | ((with_reducible refine gate_callee (f := 25) rfl ?_); refine goesL_ (some 20) rfl rfl Try.func25 q4_51 rfl #[.int .i64 a0, .agg #[.int .i64 wA, .int .i64 zA, .int .i64 AA, .int .i64 hA, .int .i64 BA, .int .i64 IA, .int .i64 JA, .int .i64 CA, .int .i64 DA, .bool EA]] rfl q4_6 ?_; (with_reducible refine (impl_StAct.calls k a0 wA zA AA hA BA IA JA CA DA EA iB oB rB sB II _ A4.out).mono ?_); rintro e iO ⟨rfl, hb⟩; refine ⟨_, rfl, ?_⟩; have wB := Aside0.mk (blk_below (g := GA) (o := .cells #[.slice lB XA.length mB] 29 (0, 0)) q4_2 hb); have xB := Aside0.mk (blk_below (g := dA) (o := .cells #[.int .i64 wA, .int .i64 zA, .int .i64 AA, .int .i64 hA, .int .i64 BA, .int .i64 IA, .int .i64 JA, .int .i64 CA, .int .i64 DA, .bool EA] 23 (0, 0)) q4_3 hb); have yB := Aside0.mk (blk_below (g := kA) (o := .cells #[.slice none 0 0] 29 (0, 0)) q4_4 hb); have zB := Aside0.mk (blk_below (g := cA) (o := .cells #[.int .i64 0, .int .i64 0, .int .i64 0, .int .i64 0, .int .i64 0, .int .i64 0, .int .i64 0, .int .i64 0, .int .i64 0, .bool false] 23 (0, 0)) q4_5 hb); have GB := Aside0.mk (below_step q4_19 hb); clear mA aA pA eA HB; have mA := wB; have aA := xB; have pA := yB; have eA := zB; have HB := GB; clear wB xB yB zB GB; (try clear hb); (try clear hb2); (try clear hk); (try clear hi)) | ((with_reducible refine gate_dst (N := 9) rfl ?_); (try (refine gate_guard (by rfl) ?_; dsimp only)); refine box_event ?hg (N := 9) ?hd (cs := #[.int .i64 0, .int .i64 0, .int .i64 0, .int .i64 0]) (t := 37) ?hr ?_; (case hd => rfl); (case hg => rfl); (case hr => first | (go_simp; done) | (go_simp; rfl)); intro sA hg JI hbox hb; have wB := Aside0.mk (blk_below (g := GA) (o := .cells #[.slice lB XA.length mB] 29 (0, 0)) q4_2 hb); have xB := Aside0.mk (blk_below (g := dA) (o := .cells #[.int .i64 wA, .int .i64 zA, .int .i64 AA, .int .i64 hA, .int .i64 BA, .int .i64 IA, .int .i64 JA, .int .i64 CA, .int .i64 DA, .bool EA] 23 (0, 0)) q4_3 hb); have yB := Aside0.mk (blk_below (g := kA) (o := .cells #[.slice none 0 0] 29 (0, 0)) q4_4 hb); have zB := Aside0.mk (blk_below (g := cA) (o := .cells #[.int .i64 0, .int .i64 0, .int .i64 0, .int .i64 0, .int .i64 0, .int .i64 0, .int .i64 0, .int .i64 0, .int .i64 0, .bool false] 23 (0, 0)) q4_5 hb); have GB := Aside0.mk (below_step q4_19 hb); have PB := Aside0.mk (hbox); have QB := Aside0.mk ((by rw [hg]; exact (below_size q4_19) : w.heap.size ≤ sA)); have YB := Aside0.mk ((by rw [hg]; exact (below_size q4_19) : w.heap.size ≤ sA)); have zG := Aside0.mk ((q4_23 : GA ≠ sA)); have AG := Aside0.mk ((q4_24 : sA ≠ GA)); have MC := Aside0.mk ((q4_9 : dA ≠ sA)); have NC := Aside0.mk ((q4_10 : sA ≠ dA)); have OC := Aside0.mk ((q4_43 : kA ≠ sA)); have FF := Aside0.mk ((q4_44 : sA ≠ kA)); have GF := Aside0.mk ((q4_33 : cA ≠ sA)); have HF := Aside0.mk ((q4_34 : sA ≠ cA)); clear mA aA pA eA HB; have mA := wB; have aA := xB; have pA := yB; have eA := zB; have HB := GB; have gA := PB; have SL := QB; have IG := YB; have FB := zG; have TB := AG; have vA := MC; have oA := NC; have tB := OC; have MB := FF; have uB := GF; have NB := HF; clear wB xB yB zB GB PB QB YB zG AG MC NC OC FF GF HF; clear hb hbox hg; have TL := TB.out; have UL := FB.out; have VL := oA.out; have WL := vA.out; have XL := MB.out; have YL := tB.out; have ZL := NB.out; have aM := uB.out; have AC : JI.cell? ⟨sA, 0, none⟩ = some (.int .i64 0) := (blk_cell gA.out 0).trans rfl; have BC : JI.cell? ⟨sA, 1, none⟩ = some (.int .i64 0) := (blk_cell gA.out 1).trans rfl; have CC : JI.cell? ⟨sA, 2, none⟩ = some (.int .i64 0) := (blk_cell gA.out 2).trans rfl; have DC : JI.cell? ⟨sA, 3, none⟩ = some (.int .i64 0) := (blk_cell gA.out 3).trans rfl; have EC := blk_frozen gA.out 0; have FC := blk_frozen gA.out 1; have GC := blk_frozen gA.out 2; have HC := blk_frozen gA.out 3))
 (try simp only [Act.put, List.setIfInBounds_toArray, List.set_cons_zero, List.set_cons_succ])
 go_cut [32] (fun v32 wc => ∃ (kq : Nat) (BG : Bool), v32 = .bool BG ∧ Aside0 (impl_StStep.j0 kq BG XA wA zA AA hA BA IA JA CA DA EA iB oB rB sB = some (r1, r2, r3, r4, r5, r6, r7, r8, r9, r10, r11, r12)) ∧ Aside0 (kq ≤ k) ∧ Aside0 (wc.heap[GA]? = some (.cells #[(.slice lB XA.length mB)] 29 (0, 0))) ∧ Aside0 (wc.heap[dA]? = some (.cells #[.int .i64 wA, .int .i64 zA, .int .i64 AA, .int .i64 hA, .int .i64 BA, .int .i64 IA, .int .i64 JA, .int .i64 CA, .int .i64 DA, .bool EA] 23 (0, 0))) ∧ Aside0 (wc.heap[kA]? = some (.cells #[(.slice none 0 0)] 29 (0, 0))) ∧ Aside0 (wc.heap[cA]? = some (.cells #[.int .i64 0, .int .i64 0, .int .i64 0, .int .i64 0, .int .i64 0, .int .i64 0, .int .i64 0, .int .i64 0, .int .i64 0, .bool false] 23 (0, 0))) ∧ Aside0 (wc.heap[sA]? = some (.cells #[.int .i64 iB, .int .i64 oB, .int .i64 rB, .int .i64 sB] 37 (0, 0))) ∧ Aside0 (Below w.heap.size w wc))
 case first =>
  have H := HC5.out
  clear HC5
  by_cases c21 : II = true
  ·subst c21
   rw [if_pos rfl] at H
   have H' := Aside0.mk H
   clear H
   have bM := lA.out
   have cM := uA.out
   have dM := IB.out
   have eM := JB.out
   have fM := KB.out
   have gM := LB.out
   have hM := FB.out
   have iM := TB.out
   have IC : JI.cell? ⟨GA, 0, none⟩ = some (.slice lB XA.length mB) := (blk_cell mA.out 0).trans rfl
   have JC := blk_frozen mA.out 0
   go_wp2
   go_meet
   case rel => exact ⟨_, (((XA.length : Int) != (wrap64 (1 + a0)))), q4_52, H', ⟨by first | omega | exact Nat.le_refl _⟩, ⟨q4_45⟩, ⟨q4_46⟩, ⟨q4_47⟩, ⟨q4_48⟩, ⟨q4_11⟩, ⟨q4_1⟩⟩
  ·replace c21 := Bool.eq_false_iff.mpr c21
   subst c21
   rw [if_neg (show ¬ (false = true) by decide)] at H
   have H' := Aside0.mk H
   clear H
   go_wp2
   go_meet
   case rel => exact ⟨_, (true), q4_52, H', ⟨by first | omega | exact Nat.le_refl _⟩, ⟨q4_45⟩, ⟨q4_46⟩, ⟨q4_47⟩, ⟨q4_48⟩, ⟨q4_11⟩, ⟨q4_1⟩⟩
 case rest =>
  clear HC5
  (try clear c1); (try clear c2); (try clear p2); (try clear c3); (try clear p6); (try clear c10); (try clear c11); (try clear c12); (try clear c16); (try clear c17); (try clear c18); (try clear c19); (try clear c21); (try clear c22); (try clear c23); (try clear c24); (try clear c25); (try clear gC); (try clear hC); (try clear iC); (try clear jC); (try clear kC); (try clear lC); (try clear mC); (try clear nC); (try clear oC); (try clear pC); (try clear AC); (try clear BC); (try clear CC); (try clear DC); (try clear IC); (try clear qC); (try clear rC); (try clear sC); (try clear tC); (try clear uC); (try clear vC); (try clear wC); (try clear xC); (try clear yC); (try clear zC); (try clear EC); (try clear FC); (try clear GC); (try clear HC); (try clear JC)
  obtain ⟨kq, BG, rfl, HA, HJ4, mA, aA, pA, eA, gA, HB⟩ := hcut
  cases kq with
  | zero => exact absurd HA.out (by simp [impl_StStep.j0])
  | succ kj4 =>
   have H := HA.out
   clear HA
   simp only [impl_StStep.j0] at H
   by_cases c27 : BG = true
   ·subst c27
    rw [if_pos rfl] at H
    simp only [Option.some.injEq, Prod.mk.injEq] at H
    obtain ⟨rfl, rfl, rfl, rfl, rfl, rfl, rfl, rfl, rfl, rfl, rfl, rfl⟩ := H
    have jM := JB.out
    have kM := IB.out
    have lM := iA.out
    have mM := fA.out
    have nM := EB.out
    have oM := vB.out
    have pM := tB.out
    have qM := MB.out
    have SC : wc.cell? ⟨kA, 0, none⟩ = some (.slice none 0 0) := (blk_cell pA.out 0).trans rfl
    have TC := blk_frozen pA.out 0
    have rM := LB.out
    have sM := KB.out
    have tM := jA.out
    have uM := bA.out
    have vM := uB.out
    have wM := NB.out
    have UC : wc.cell? ⟨cA, 0, none⟩ = some (.int .i64 0) := (blk_cell eA.out 0).trans rfl
    have VC : wc.cell? ⟨cA, 1, none⟩ = some (.int .i64 0) := (blk_cell eA.out 1).trans rfl
    have WC : wc.cell? ⟨cA, 2, none⟩ = some (.int .i64 0) := (blk_cell eA.out 2).trans rfl
    have XC : wc.cell? ⟨cA, 3, none⟩ = some (.int .i64 0) := (blk_cell eA.out 3).trans rfl
    have YC : wc.cell? ⟨cA, 4, none⟩ = some (.int .i64 0) := (blk_cell eA.out 4).trans rfl
    have ZC : wc.cell? ⟨cA, 5, none⟩ = some (.int .i64 0) := (blk_cell eA.out 5).trans rfl
    have aD : wc.cell? ⟨cA, 6, none⟩ = some (.int .i64 0) := (blk_cell eA.out 6).trans rfl
    have bD : wc.cell? ⟨cA, 7, none⟩ = some (.int .i64 0) := (blk_cell eA.out 7).trans rfl
    have cD : wc.cell? ⟨cA, 8, none⟩ = some (.int .i64 0) := (blk_cell eA.out 8).trans rfl
    have dD : wc.cell? ⟨cA, 9, none⟩ = some (.bool false) := (blk_cell eA.out 9).trans rfl
    have eD := blk_frozen eA.out 0
    have fD := blk_frozen eA.out 1
    have gD := blk_frozen eA.out 2
    have hD := blk_frozen eA.out 3
    have iD := blk_frozen eA.out 4
    have jD := blk_frozen eA.out 5
    have kD := blk_frozen eA.out 6
    have lD := blk_frozen eA.out 7
    have mD := blk_frozen eA.out 8
    have nD := blk_frozen eA.out 9
    go_wp2
    refine bodyPost_ret (results_list (rs := [.cell 6 29, .cell 7 23, .tmp 8]) rfl (by simp) (.cell kA 29 #[.slice none 0 0] (0, 0) _ rfl q4_32 Try.underlying29 rfl q4_51 (.cell cA 23 #[.int .i64 0, .int .i64 0, .int .i64 0, .int .i64 0, .int .i64 0, .int .i64 0, .int .i64 0, .int .i64 0, .int .i64 0, .bool false] (0, 0) _ rfl (by (with_reducible repeat (first | refine blk_drewN ?_ _ | refine blk_drew ?_ | refine blk_alloc ?_ _)); refine blk_put (cs := #[.int .i64 0, .int .i64 0, .int .i64 0, .int .i64 0, .int .i64 0, .int .i64 0, .int .i64 0, .int .i64 0, .int .i64 0, .bool false]) ?_ 9 _ rfl; (with_reducible repeat (first | refine blk_drewN ?_ _ | refine blk_drew ?_ | refine blk_alloc ?_ _)); refine blk_put (cs := #[.int .i64 0, .int .i64 0, .int .i64 0, .int .i64 0, .int .i64 0, .int .i64 0, .int .i64 0, .int .i64 0, .int .i64 0, .bool false]) ?_ 8 _ rfl; (with_reducible repeat (first | refine blk_drewN ?_ _ | refine blk_drew ?_ | refine blk_alloc ?_ _)); refine blk_put (cs := #[.int .i64 0, .int .i64 0, .int .i64 0, .int .i64 0, .int .i64 0, .int .i64 0, .int .i64 0, .int .i64 0, .int .i64 0, .bool false]) ?_ 7 _ rfl; (with_reducible repeat (first | refine blk_drewN ?_ _ | refine blk_drew ?_ | refine blk_alloc ?_ _)); refine blk_put (cs := #[.int .i64 0, .int .i64 0, .int .i64 0, .int .i64 0, .int .i64 0, .int .i64 0, .int .i64 0, .int .i64 0, .int .i64 0, .bool false]) ?_ 6 _ rfl; (with_reducible repeat (first | refine blk_drewN ?_ _ | refine blk_drew ?_ | refine blk_alloc ?_ _)); refine blk_put (cs := #[.int .i64 0, .int .i64 0, .int .i64 0, .int .i64 0, .int .i64 0, .int .i64 0, .int .i64 0, .int .i64 0, .int .i64 0, .bool false]) ?_ 5 _ rfl; (with_reducible repeat (first | refine blk_drewN ?_ _ | refine blk_drew ?_ | refine blk_alloc ?_ _)); refine blk_put (cs := #[.int .i64 0, .int .i64 0, .int .i64 0, .int .i64 0, .int .i64 0, .int .i64 0, .int .i64 0, .int .i64 0, .int .i64 0, .bool false]) ?_ 4 _ rfl; (with_reducible repeat (first | refine blk_drewN ?_ _ | refine blk_drew ?_ | refine blk_alloc ?_ _)); refine blk_put (cs := #[.int .i64 0, .int .i64 0, .int .i64 0, .int .i64 0, .int .i64 0, .int .i64 0, .int .i64 0, .int .i64 0, .int .i64 0, .bool false]) ?_ 3 _ rfl; (with_reducible repeat (first | refine blk_drewN ?_ _ | refine blk_drew ?_ | refine blk_alloc ?_ _)); refine blk_put (cs := #[.int .i64 0, .int .i64 0, .int .i64 0, .int .i64 0, .int .i64 0, .int .i64 0, .int .i64 0, .int .i64 0, .int .i64 0, .bool false]) ?_ 2 _ rfl; (with_reducible repeat (first | refine blk_drewN ?_ _ | refine blk_drew ?_ | refine blk_alloc ?_ _)); refine blk_put (cs := #[.int .i64 0, .int .i64 0, .int .i64 0, .int .i64 0, .int .i64 0, .int .i64 0, .int .i64 0, .int .i64 0, .int .i64 0, .bool false]) ?_ 1 _ rfl; (with_reducible repeat (first | refine blk_drewN ?_ _ | refine blk_drew ?_ | refine blk_alloc ?_ _)); refine blk_put (cs := #[.int .i64 0, .int .i64 0, .int .i64 0, .int .i64 0, .int .i64 0, .int .i64 0, .int .i64 0, .int .i64 0, .int .i64 0, .bool false]) ?_ 0 _ rfl; (with_reducible repeat (first | refine blk_drewN ?_ _ | refine blk_drew ?_ | refine blk_alloc ?_ _)); refine blk_far ?_ vB.out _; (with_reducible repeat (first | refine blk_drewN ?_ _ | refine blk_drew ?_ | refine blk_alloc ?_ _)); exact eA.out) Try.underlying23 rfl q4_51 (.tmp .nil)))) rfl ?_
    exact ⟨_, by first | rfl | (simp [errW_none, errW_some] <;> rfl) | (simp [*, errW_none, errW_some] <;> rfl), by first | exact Kd.R_nil _ _ _ _ _ | exact Kd.N_nil _ _ _ _ _ | exact Kd.V_nil _ _ _ _ _ | exact Kd.Q_nil _ _ _ _ _ | exact Kd.S_nil _ _ _ _ _, q4_1⟩
   ·replace c27 := Bool.eq_false_iff.mpr c27
    subst c27
    rw [if_neg (show ¬ (false = true) by decide)] at H
    replace H := Option.bind_eq_some_iff.mp H
    obtain ⟨⟨pB, VB, WJ⟩, A370, H⟩ := H
    (try dsimp only at H)
    have A37 := Aside0.mk A370
    clear A370
    by_cases c38 : WJ = true
    ·subst c38
     rw [if_pos rfl] at H
     have HC39 := Aside0.mk H
     clear H
     have xM := lA.out
     have yM := uA.out
     have zM := IB.out
     have AM := JB.out
     have BM := KB.out
     have CM := LB.out
     have DM := FB.out
     have EM := TB.out
     have oD : wc.cell? ⟨GA, 0, none⟩ = some (.slice lB XA.length mB) := (blk_cell mA.out 0).trans rfl
     have pD := blk_frozen mA.out 0
     have FM := oA.out
     have GM := vA.out
     have HM := MB.out
     have IM := tB.out
     have JM := NB.out
     have KM := uB.out
     have qD : wc.cell? ⟨sA, 0, none⟩ = some (.int .i64 iB) := (blk_cell gA.out 0).trans rfl
     have rD : wc.cell? ⟨sA, 1, none⟩ = some (.int .i64 oB) := (blk_cell gA.out 1).trans rfl
     have sD : wc.cell? ⟨sA, 2, none⟩ = some (.int .i64 rB) := (blk_cell gA.out 2).trans rfl
     have tD : wc.cell? ⟨sA, 3, none⟩ = some (.int .i64 sB) := (blk_cell gA.out 3).trans rfl
     have uD := blk_frozen gA.out 0
     have vD := blk_frozen gA.out 1
     have wD := blk_frozen gA.out 2
     have xD := blk_frozen gA.out 3
     go_upto_block 0 with (first | ((with_reducible refine gate_callee (f := 68) rfl ?_); refine goesL_ (some 38) rfl rfl Try.func68 q4_51 rfl #[.agg #[.slice lB XA.length mB], .agg #[.int .i64 iB, .int .i64 oB, .int .i64 rB, .int .i64 sB]] rfl q4_6 ?_; (with_reducible refine (impl_Do.calls _ _ XA iB oB rB sB pB VB true _ ?side1 ?side2 A37.out).mono ?_); (case side1 => repeat (first | exact (Kd.C_below BI.out HB.out) | (with_reducible refine Kd.C_alloc ?_ _) | (with_reducible refine Kd.C_drewN ?_ _) | (with_reducible refine Kd.C_drew ?_))); (case side2 => exact CI.out); rintro e jO ⟨XJ, rfl, ho0, hb⟩; refine ⟨_, rfl, ?_⟩; have wB := Aside0.mk (Kd.R_lower ho0 (below_size q4_1)); have xB := Aside0.mk (blk_below (g := GA) (o := .cells #[.slice lB XA.length mB] 29 (0, 0)) q4_2 hb); have yB := Aside0.mk (blk_below (g := dA) (o := .cells #[.int .i64 wA, .int .i64 zA, .int .i64 AA, .int .i64 hA, .int .i64 BA, .int .i64 IA, .int .i64 JA, .int .i64 CA, .int .i64 DA, .bool EA] 23 (0, 0)) q4_3 hb); have zB := Aside0.mk (blk_below (g := kA) (o := .cells #[.slice none 0 0] 29 (0, 0)) q4_4 hb); have GB := Aside0.mk (blk_below (g := cA) (o := .cells #[.int .i64 0, .int .i64 0, .int .i64 0, .int .i64 0, .int .i64 0, .int .i64 0, .int .i64 0, .int .i64 0, .int .i64 0, .bool false] 23 (0, 0)) q4_5 hb); have PB := Aside0.mk (blk_below (g := sA) (o := .cells #[.int .i64 iB, .int .i64 oB, .int .i64 rB, .int .i64 sB] 37 (0, 0)) q4_7 hb); have QB := Aside0.mk (below_step q4_1 hb); clear mA aA pA eA gA HB; have CB := wB; have mA := xB; have aA := yB; have pA := zB; have eA := GB; have gA := PB; have HB := QB; clear wB xB yB zB GB PB QB; (try clear hb); (try clear hb2); (try clear hk); (try clear hi); (try clear ho0)) | ((with_reducible refine gate_dst (N := 11) rfl ?_); (try (refine gate_guard (by rfl) ?_; dsimp only)); refine box_event ?hg (N := 11) ?hd (cs := #[.slice none 0 0]) (t := 29) ?hr ?_; (case hd => rfl); (case hg => rfl); (case hr => first | (go_simp; done) | (go_simp; rfl)); intro yA hg qB hbox hb; have wB := Aside0.mk (Kd.R_below q4_54 hb); have xB := Aside0.mk (blk_below (g := GA) (o := .cells #[.slice lB XA.length mB] 29 (0, 0)) q4_2 hb); have yB := Aside0.mk (blk_below (g := dA) (o := .cells #[.int .i64 wA, .int .i64 zA, .int .i64 AA, .int .i64 hA, .int .i64 BA, .int .i64 IA, .int .i64 JA, .int .i64 CA, .int .i64 DA, .bool EA] 23 (0, 0)) q4_3 hb); have zB := Aside0.mk (blk_below (g := kA) (o := .cells #[.slice none 0 0] 29 (0, 0)) q4_4 hb); have GB := Aside0.mk (blk_below (g := cA) (o := .cells #[.int .i64 0, .int .i64 0, .int .i64 0, .int .i64 0, .int .i64 0, .int .i64 0, .int .i64 0, .int .i64 0, .int .i64 0, .bool false] 23 (0, 0)) q4_5 hb); have PB := Aside0.mk (blk_below (g := sA) (o := .cells #[.int .i64 iB, .int .i64 oB, .int .i64 rB, .int .i64 sB] 37 (0, 0)) q4_7 hb); have QB := Aside0.mk (below_step q4_1 hb); have YB := Aside0.mk (hbox); have zG := Aside0.mk ((by rw [hg]; exact (below_size q4_1) : w.heap.size ≤ yA)); have AG := Aside0.mk ((by rw [hg]; exact (below_size q4_1) : w.heap.size ≤ yA)); have MC := Aside0.mk ((q4_23 : GA ≠ yA)); have NC := Aside0.mk ((q4_24 : yA ≠ GA)); have OC := Aside0.mk ((q4_9 : dA ≠ yA)); have FF := Aside0.mk ((q4_10 : yA ≠ dA)); have GF := Aside0.mk ((q4_43 : kA ≠ yA)); have HF := Aside0.mk ((q4_44 : yA ≠ kA)); have KG := Aside0.mk ((q4_33 : cA ≠ yA)); have LG := Aside0.mk ((q4_34 : yA ≠ cA)); have MG := Aside0.mk ((by rw [hg]; exact Nat.ne_of_lt (blk_lt (g := sA) (o := .cells #[.int .i64 iB, .int .i64 oB, .int .i64 rB, .int .i64 sB] 37 (0, 0)) q4_7) : sA ≠ yA)); have NG := Aside0.mk ((by rw [hg]; exact Nat.ne_of_gt (blk_lt (g := sA) (o := .cells #[.int .i64 iB, .int .i64 oB, .int .i64 rB, .int .i64 sB] 37 (0, 0)) q4_7) : yA ≠ sA)); clear CB mA aA pA eA gA HB; have CB := wB; have mA := xB; have aA := yB; have pA := zB; have eA := GB; have gA := PB; have HB := QB; have PA := YB; have KI := zG; have JG := AG; have AB := MC; have aC := NC; have qA := OC; have nA := FF; have jB := GF; have OB := HF; have kB := KG; have KA := LG; have BB := MG; have bC := NG; clear wB xB yB zB GB PB QB YB zG AG MC NC OC FF GF HF KG LG MG NG; clear hb hbox hg; obtain ⟨RB, SB, YJ⟩ := Kd.R_slice CB.out; subst YJ; have LM := aC.out; have MM := AB.out; have NM := nA.out; have OM := qA.out; have PM := OB.out; have QM := jB.out; have RM := KA.out; have SM := kB.out; have TM := bC.out; have UM := BB.out; have yD : qB.cell? ⟨yA, 0, none⟩ = some (.slice none 0 0) := (blk_cell PA.out 0).trans rfl; have zD := blk_frozen PA.out 0; have VM := fA.out; have WM := iA.out; have XM := bA.out; have YM := jA.out; have AD : qB.cell? ⟨dA, 0, none⟩ = some (.int .i64 wA) := (blk_cell aA.out 0).trans rfl; have BD : qB.cell? ⟨dA, 1, none⟩ = some (.int .i64 zA) := (blk_cell aA.out 1).trans rfl; have CD : qB.cell? ⟨dA, 2, none⟩ = some (.int .i64 AA) := (blk_cell aA.out 2).trans rfl; have DD : qB.cell? ⟨dA, 3, none⟩ = some (.int .i64 hA) := (blk_cell aA.out 3).trans rfl; have ED : qB.cell? ⟨dA, 4, none⟩ = some (.int .i64 BA) := (blk_cell aA.out 4).trans rfl; have FD : qB.cell? ⟨dA, 5, none⟩ = some (.int .i64 IA) := (blk_cell aA.out 5).trans rfl; have GD : qB.cell? ⟨dA, 6, none⟩ = some (.int .i64 JA) := (blk_cell aA.out 6).trans rfl; have HD : qB.cell? ⟨dA, 7, none⟩ = some (.int .i64 CA) := (blk_cell aA.out 7).trans rfl; have ID : qB.cell? ⟨dA, 8, none⟩ = some (.int .i64 DA) := (blk_cell aA.out 8).trans rfl; have JD : qB.cell? ⟨dA, 9, none⟩ = some (.bool EA) := (blk_cell aA.out 9).trans rfl; have KD := blk_frozen aA.out 0; have LD := blk_frozen aA.out 1; have MD := blk_frozen aA.out 2; have ND := blk_frozen aA.out 3; have OD := blk_frozen aA.out 4; have PD := blk_frozen aA.out 5; have QD := blk_frozen aA.out 6; have RD := blk_frozen aA.out 7; have SD := blk_frozen aA.out 8; have TD := blk_frozen aA.out 9))
     (try simp only [Act.put, List.setIfInBounds_toArray, List.set_cons_zero, List.set_cons_succ])
     go_cut [] (fun wc => ∃ (kq : Nat) (tA : Int) (xA : Int) (FA : Int) (LA : Int) (NA : Int) (QA : Int) (YA : Int) (bB : Int) (eB : Int) (nB : Bool), Aside0 (impl_StStep.j3 kq tA xA FA LA NA QA YA bB eB nB pB = some (r1, r2, r3, r4, r5, r6, r7, r8, r9, r10, r11, r12)) ∧ Aside0 (kq ≤ kj4) ∧ Aside0 (Kd.R (Kd.int .i64) 3 wc w.heap.size (fun _ => True) (.slice RB pB.length SB) pB) ∧ Aside0 (wc.heap[GA]? = some (.cells #[(.slice lB XA.length mB)] 29 (0, 0))) ∧ Aside0 (wc.heap[dA]? = some (.cells #[.int .i64 tA, .int .i64 xA, .int .i64 FA, .int .i64 LA, .int .i64 NA, .int .i64 QA, .int .i64 YA, .int .i64 bB, .int .i64 eB, .bool nB] 23 (0, 0))) ∧ Aside0 (wc.heap[kA]? = some (.cells #[(.slice none 0 0)] 29 (0, 0))) ∧ Aside0 (wc.heap[cA]? = some (.cells #[.int .i64 0, .int .i64 0, .int .i64 0, .int .i64 0, .int .i64 0, .int .i64 0, .int .i64 0, .int .i64 0, .int .i64 0, .bool false] 23 (0, 0))) ∧ Aside0 (wc.heap[sA]? = some (.cells #[.int .i64 iB, .int .i64 oB, .int .i64 rB, .int .i64 sB] 37 (0, 0))) ∧ Aside0 (wc.heap[yA]? = some (.cells #[(.slice RB pB.length SB)] 29 (0, 0))) ∧ Aside0 (Below w.heap.size w wc))
     case first =>
      have H := HC39.out
      clear HC39
      by_cases c61 : hA = 0
      ·rw [if_pos c61] at H
       have dC : (hA == 0) = true := beq_iff_eq.mpr c61
       have CG : (hA != 0) = false := bne_eq_false_iff_eq.mpr c61
       clear c61
       (first | rw [dC] | (simp only [i64_w, i32_w]; rw [dC]) | skip)
       replace H := Option.bind_eq_some_iff.mp H
       obtain ⟨DB, A620, H⟩ := H
       (try dsimp only at H)
       have A62 := Aside0.mk A620
       clear A620
       replace H := Option.bind_eq_some_iff.mp H
       obtain ⟨⟨HG, EI⟩, A630, H⟩ := H
       (try dsimp only at H)
       have A63 := Aside0.mk A630
       clear A630
       by_cases c64 : wA = 2
       ·rw [if_pos c64] at H
        have DG : (wA == 2) = true := beq_iff_eq.mpr c64
        have EG : (wA != 2) = false := bne_eq_false_iff_eq.mpr c64
        clear c64
        by_cases c65 : HG < 0
        ·rw [if_pos c65] at H
         have FG : decide (HG < 0) = true := decide_eq_true c65
         clear c65
         replace H := Option.bind_eq_some_iff.mp H
         obtain ⟨⟨LI, MI, NI, OI, PI, QI, RI, SI, TI, UI⟩, A660, H⟩ := H
         (try dsimp only at H)
         have A66 := Aside0.mk A660
         clear A660
         have H' := Aside0.mk H
         clear H
         go_wp2_with (first | ((with_reducible refine gate_callee (f := 69) rfl ?_); refine goesL_ (some 56) rfl rfl Try.func69 q4_51 rfl #[.int .i64 VB] rfl q4_6 ?_; (with_reducible refine (impl_stRead.calls VB DB _ A62.out).mono ?_); rintro e w' ⟨rfl, ⟨nd, rfl⟩⟩; refine ⟨_, rfl, ?_⟩; have ZM := uA.out; have aN := lA.out; have bN := fA.out; have cN := iA.out; have dN := bA.out; have eN := jA.out; have fN := vA.out; have gN := oA.out; have hN := qA.out; have iN := nA.out; have UD : qB.cell? ⟨dA, 0, none⟩ = some (.int .i64 wA) := (blk_cell aA.out 0).trans rfl; have VD : qB.cell? ⟨dA, 1, none⟩ = some (.int .i64 zA) := (blk_cell aA.out 1).trans rfl; have WD : qB.cell? ⟨dA, 2, none⟩ = some (.int .i64 AA) := (blk_cell aA.out 2).trans rfl; have XD : qB.cell? ⟨dA, 3, none⟩ = some (.int .i64 hA) := (blk_cell aA.out 3).trans rfl; have YD : qB.cell? ⟨dA, 4, none⟩ = some (.int .i64 BA) := (blk_cell aA.out 4).trans rfl; have ZD : qB.cell? ⟨dA, 5, none⟩ = some (.int .i64 IA) := (blk_cell aA.out 5).trans rfl; have aE : qB.cell? ⟨dA, 6, none⟩ = some (.int .i64 JA) := (blk_cell aA.out 6).trans rfl; have bE : qB.cell? ⟨dA, 7, none⟩ = some (.int .i64 CA) := (blk_cell aA.out 7).trans rfl; have cE : qB.cell? ⟨dA, 8, none⟩ = some (.int .i64 DA) := (blk_cell aA.out 8).trans rfl; have dE : qB.cell? ⟨dA, 9, none⟩ = some (.bool EA) := (blk_cell aA.out 9).trans rfl; have eE := blk_frozen aA.out 0; have fE := blk_frozen aA.out 1; have gE := blk_frozen aA.out 2; have hE := blk_frozen aA.out 3; have iE := blk_frozen aA.out 4; have jE := blk_frozen aA.out 5; have kE := blk_frozen aA.out 6; have lE := blk_frozen aA.out 7; have mE := blk_frozen aA.out 8; have nE := blk_frozen aA.out 9) | ((with_reducible refine gate_callee (f := 60) rfl ?_); refine goesL_ (some 61) rfl rfl Try.func60 q4_51 rfl #[.int .i64 DB] rfl q4_6 ?_; (with_reducible refine (impl_top.calls DB HG EI _ A63.out).mono ?_); rintro e w' ⟨rfl, ⟨nd, rfl⟩⟩; refine ⟨_, rfl, ?_⟩; have ZA := Aside0.mk (show IsS23 w qB dA _ _ _ _ _ _ _ _ _ _ from ⟨aA.out, cC.out⟩); clear aA) | ((with_reducible refine gate_callee (f := 70) rfl ?_); refine goesL_ (some 71) rfl rfl Try.func70 q4_51 rfl #[.pointer (some ⟨dA, 0, none⟩), .int .i64 2] rfl q4_6 ?_; (with_reducible refine (impl_Call_end.calls dA wA zA AA (wrap64 (hA + 1)) BA IA DB CA DA EA 2 LI MI NI OI PI QI RI SI TI UI w _ ?side1 ?side2 A66.out).mono ?_); (case side1 => exact q4_8); (case side2 => exact q4_20); rintro e kO ⟨rfl, hi, hb, hk⟩; refine ⟨_, rfl, ?_⟩; have wB := Aside0.mk (KeepBut.blk hk (g' := GA) (o := .cells #[.slice lB XA.length mB] 29 (0, 0)) q4_15 lA.out (by simp)); have xB := Aside0.mk (KeepBut.blk hk (g' := kA) (o := .cells #[.slice none 0 0] 29 (0, 0)) q4_16 iA.out (by simp)); have yB := Aside0.mk (KeepBut.blk hk (g' := cA) (o := .cells #[.int .i64 0, .int .i64 0, .int .i64 0, .int .i64 0, .int .i64 0, .int .i64 0, .int .i64 0, .int .i64 0, .int .i64 0, .bool false] 23 (0, 0)) q4_17 jA.out (by simp)); have zB := Aside0.mk (KeepBut.blk hk (g' := sA) (o := .cells #[.int .i64 iB, .int .i64 oB, .int .i64 rB, .int .i64 sB] 37 (0, 0)) q4_18 oA.out (by simp)); have GB := Aside0.mk (Kd.R_mono (Kd.R_keep (IsS23.apart (show IsS23 w _ dA wA zA AA (wrap64 (hA + 1)) BA IA DB CA DA EA from by repeat (first | (with_reducible first | exact ZA.out | apply IsS23.alloc | apply IsS23.drewN | apply IsS23.drew | apply IsS23.set_0 | apply IsS23.set_1 | apply IsS23.set_2 | apply IsS23.set_3 | apply IsS23.set_4 | apply IsS23.set_5 | apply IsS23.set_6 | apply IsS23.set_7 | apply IsS23.set_8 | apply IsS23.set_9 | apply IsS23.far_ uA.out | apply IsS23.far_ fA.out | apply IsS23.far_ bA.out | apply IsS23.far_ vA.out | apply IsS23.far_ qA.out) | exact ZA.out)) (by (with_reducible repeat (first | apply Kd.R_alloc | apply Kd.R_drewN | apply Kd.R_drew)); exact (Kd.R_mono (Kd.R_mono (Kd.R_far (p := ⟨dA, 6, none⟩) (Kd.R_far (p := ⟨dA, 3, none⟩) (Kd.R_far (p := ⟨yA, 0, none⟩) (IsS23.apart ZA.out (Kd.R_types CB.out PA.out (by decide)) (by decide)) (fun _ hk => hk.1.2) (.slice RB pB.length SB)) (fun _ hk => hk.2) (.int .i64 (wrap64 (hA + 1)))) (fun _ hk => hk.2) (.int .i64 DB)) (fun _ h_ => h_.1)) (fun _ h_ => h_.1))) (by decide)) hk (fun _ h => h.2)) (fun _ h => h.1)); have PB := Aside0.mk (KeepBut.blk hk (g' := yA) (o := .cells #[.slice RB pB.length SB] 29 (0, 0)) q4_13 nA.out (by simp)); have QB := Aside0.mk (hb); have YB := Aside0.mk (hi); clear mA pA eA gA CB PA HB ZA; have mA := wB; have pA := xB; have eA := yB; have gA := zB; have CB := GB; have PA := PB; have HB := QB; have ZA := YB; clear wB xB yB zB GB PB QB YB; have aA := Aside0.mk ZA.out.1; clear ZA; (try clear hb); (try clear hb2); (try clear hk); (try clear hi)))
         go_meet
         case rel => exact ⟨_, (LI), (MI), (NI), (OI), (PI), (QI), (RI), (SI), (TI), (UI), H', ⟨q4_55⟩, ⟨q4_54⟩, ⟨q4_2⟩, ⟨q4_3⟩, ⟨q4_4⟩, ⟨q4_5⟩, ⟨q4_7⟩, ⟨q4_14⟩, ⟨q4_0⟩⟩
        ·rw [if_neg c65] at H
         have FG : decide (HG < 0) = false := decide_eq_false c65
         clear c65
         have H' := Aside0.mk H
         clear H
         go_wp2_with (first | ((with_reducible refine gate_callee (f := 69) rfl ?_); refine goesL_ (some 56) rfl rfl Try.func69 q4_51 rfl #[.int .i64 VB] rfl q4_6 ?_; (with_reducible refine (impl_stRead.calls VB DB _ A62.out).mono ?_); rintro e w' ⟨rfl, ⟨nd, rfl⟩⟩; refine ⟨_, rfl, ?_⟩; have jN := uA.out; have kN := lA.out; have lN := fA.out; have mN := iA.out; have nN := bA.out; have oN := jA.out; have pN := vA.out; have qN := oA.out; have rN := qA.out; have sN := nA.out; have oE : qB.cell? ⟨dA, 0, none⟩ = some (.int .i64 wA) := (blk_cell aA.out 0).trans rfl; have pE : qB.cell? ⟨dA, 1, none⟩ = some (.int .i64 zA) := (blk_cell aA.out 1).trans rfl; have qE : qB.cell? ⟨dA, 2, none⟩ = some (.int .i64 AA) := (blk_cell aA.out 2).trans rfl; have rE : qB.cell? ⟨dA, 3, none⟩ = some (.int .i64 hA) := (blk_cell aA.out 3).trans rfl; have sE : qB.cell? ⟨dA, 4, none⟩ = some (.int .i64 BA) := (blk_cell aA.out 4).trans rfl; have tE : qB.cell? ⟨dA, 5, none⟩ = some (.int .i64 IA) := (blk_cell aA.out 5).trans rfl; have uE : qB.cell? ⟨dA, 6, none⟩ = some (.int .i64 JA) := (blk_cell aA.out 6).trans rfl; have vE : qB.cell? ⟨dA, 7, none⟩ = some (.int .i64 CA) := (blk_cell aA.out 7).trans rfl; have wE : qB.cell? ⟨dA, 8, none⟩ = some (.int .i64 DA) := (blk_cell aA.out 8).trans rfl; have xE : qB.cell? ⟨dA, 9, none⟩ = some (.bool EA) := (blk_cell aA.out 9).trans rfl; have yE := blk_frozen aA.out 0; have zE := blk_frozen aA.out 1; have AE := blk_frozen aA.out 2; have BE := blk_frozen aA.out 3; have CE := blk_frozen aA.out 4; have DE := blk_frozen aA.out 5; have EE := blk_frozen aA.out 6; have FE := blk_frozen aA.out 7; have GE := blk_frozen aA.out 8; have HE := blk_frozen aA.out 9) | ((with_reducible refine gate_callee (f := 60) rfl ?_); refine goesL_ (some 61) rfl rfl Try.func60 q4_51 rfl #[.int .i64 DB] rfl q4_6 ?_; (with_reducible refine (impl_top.calls DB HG EI _ A63.out).mono ?_); rintro e w' ⟨rfl, ⟨nd, rfl⟩⟩; refine ⟨_, rfl, ?_⟩))
         go_meet
         case rel => exact ⟨_, (wA), (zA), (AA), (wrap64 (hA + 1)), (BA), (IA), (DB), (CA), (DA), (EA), H', ⟨q4_55⟩, ⟨q4_30⟩, ⟨q4_15⟩, ⟨q4_12⟩, ⟨q4_16⟩, ⟨q4_17⟩, ⟨q4_18⟩, ⟨q4_13⟩, ⟨q4_0⟩⟩
       ·rw [if_neg c64] at H
        have DG : (wA == 2) = false := beq_eq_false_iff_ne.mpr c64
        have EG : (wA != 2) = true := bne_iff_ne.mpr c64
        have H' := Aside0.mk H
        clear H
        go_wp2_with (first | ((with_reducible refine gate_callee (f := 69) rfl ?_); refine goesL_ (some 56) rfl rfl Try.func69 q4_51 rfl #[.int .i64 VB] rfl q4_6 ?_; (with_reducible refine (impl_stRead.calls VB DB _ A62.out).mono ?_); rintro e w' ⟨rfl, ⟨nd, rfl⟩⟩; refine ⟨_, rfl, ?_⟩; have tN := uA.out; have uN := lA.out; have vN := fA.out; have wN := iA.out; have xN := bA.out; have yN := jA.out; have zN := vA.out; have AN := oA.out; have BN := qA.out; have CN := nA.out; have IE : qB.cell? ⟨dA, 0, none⟩ = some (.int .i64 wA) := (blk_cell aA.out 0).trans rfl; have JE : qB.cell? ⟨dA, 1, none⟩ = some (.int .i64 zA) := (blk_cell aA.out 1).trans rfl; have KE : qB.cell? ⟨dA, 2, none⟩ = some (.int .i64 AA) := (blk_cell aA.out 2).trans rfl; have LE : qB.cell? ⟨dA, 3, none⟩ = some (.int .i64 hA) := (blk_cell aA.out 3).trans rfl; have ME : qB.cell? ⟨dA, 4, none⟩ = some (.int .i64 BA) := (blk_cell aA.out 4).trans rfl; have NE : qB.cell? ⟨dA, 5, none⟩ = some (.int .i64 IA) := (blk_cell aA.out 5).trans rfl; have OE : qB.cell? ⟨dA, 6, none⟩ = some (.int .i64 JA) := (blk_cell aA.out 6).trans rfl; have PE : qB.cell? ⟨dA, 7, none⟩ = some (.int .i64 CA) := (blk_cell aA.out 7).trans rfl; have QE : qB.cell? ⟨dA, 8, none⟩ = some (.int .i64 DA) := (blk_cell aA.out 8).trans rfl; have RE : qB.cell? ⟨dA, 9, none⟩ = some (.bool EA) := (blk_cell aA.out 9).trans rfl; have SE := blk_frozen aA.out 0; have TE := blk_frozen aA.out 1; have UE := blk_frozen aA.out 2; have VE := blk_frozen aA.out 3; have WE := blk_frozen aA.out 4; have XE := blk_frozen aA.out 5; have YE := blk_frozen aA.out 6; have ZE := blk_frozen aA.out 7; have aF := blk_frozen aA.out 8; have bF := blk_frozen aA.out 9) | ((with_reducible refine gate_callee (f := 60) rfl ?_); refine goesL_ (some 61) rfl rfl Try.func60 q4_51 rfl #[.int .i64 DB] rfl q4_6 ?_; (with_reducible refine (impl_top.calls DB HG EI _ A63.out).mono ?_); rintro e w' ⟨rfl, ⟨nd, rfl⟩⟩; refine ⟨_, rfl, ?_⟩))
        go_meet
        case rel => exact ⟨_, (wA), (zA), (AA), (wrap64 (hA + 1)), (BA), (IA), (DB), (CA), (DA), (EA), H', ⟨q4_55⟩, ⟨q4_30⟩, ⟨q4_15⟩, ⟨q4_12⟩, ⟨q4_16⟩, ⟨q4_17⟩, ⟨q4_18⟩, ⟨q4_13⟩, ⟨q4_0⟩⟩
      ·rw [if_neg c61] at H
       have dC : (hA == 0) = false := beq_eq_false_iff_ne.mpr c61
       have CG : (hA != 0) = true := bne_iff_ne.mpr c61
       (first | rw [dC] | (simp only [i64_w, i32_w]; rw [dC]) | skip)
       have HC86 := Aside0.mk H
       clear H
       go_upto_region 14 with (fail)
       go_cut [72] (fun v72 wc => ∃ (kq : Nat) (cF : Bool), v72 = .bool cF ∧ Aside0 (impl_StStep.j1 kq VB hA cF wA zA AA (wrap64 (hA + 1)) BA IA JA CA DA EA pB = some (r1, r2, r3, r4, r5, r6, r7, r8, r9, r10, r11, r12)) ∧ Aside0 (kq ≤ kj4) ∧ Aside0 (Kd.R (Kd.int .i64) 3 wc w.heap.size (fun _ => True) (.slice RB pB.length SB) pB) ∧ Aside0 (wc.heap[GA]? = some (.cells #[(.slice lB XA.length mB)] 29 (0, 0))) ∧ Aside0 (wc.heap[dA]? = some (.cells #[.int .i64 wA, .int .i64 zA, .int .i64 AA, .int .i64 (wrap64 (hA + 1)), .int .i64 BA, .int .i64 IA, .int .i64 JA, .int .i64 CA, .int .i64 DA, .bool EA] 23 (0, 0))) ∧ Aside0 (wc.heap[kA]? = some (.cells #[(.slice none 0 0)] 29 (0, 0))) ∧ Aside0 (wc.heap[cA]? = some (.cells #[.int .i64 0, .int .i64 0, .int .i64 0, .int .i64 0, .int .i64 0, .int .i64 0, .int .i64 0, .int .i64 0, .int .i64 0, .bool false] 23 (0, 0))) ∧ Aside0 (wc.heap[sA]? = some (.cells #[.int .i64 iB, .int .i64 oB, .int .i64 rB, .int .i64 sB] 37 (0, 0))) ∧ Aside0 (wc.heap[yA]? = some (.cells #[(.slice RB pB.length SB)] 29 (0, 0))) ∧ Aside0 (Below w.heap.size w wc))
       case first =>
        have H := HC86.out
        clear HC86
        by_cases c87 : hA = 1
        ·rw [if_pos c87] at H
         have eC : (hA == 1) = true := beq_iff_eq.mpr c87
         have GG : (hA != 1) = false := bne_eq_false_iff_eq.mpr c87
         clear c87
         (first | rw [eC] | (simp only [i64_w, i32_w]; rw [eC]) | skip)
         have H' := Aside0.mk H
         clear H
         have DN := uA.out
         have EN := lA.out
         have FN := fA.out
         have GN := iA.out
         have HN := bA.out
         have IN := jA.out
         have JN := vA.out
         have KN := oA.out
         have LN := qA.out
         have MN := nA.out
         have dF : qB.cell? ⟨dA, 0, none⟩ = some (.int .i64 wA) := (blk_cell aA.out 0).trans rfl
         have eF : qB.cell? ⟨dA, 1, none⟩ = some (.int .i64 zA) := (blk_cell aA.out 1).trans rfl
         have fF : qB.cell? ⟨dA, 2, none⟩ = some (.int .i64 AA) := (blk_cell aA.out 2).trans rfl
         have gF : qB.cell? ⟨dA, 3, none⟩ = some (.int .i64 hA) := (blk_cell aA.out 3).trans rfl
         have hF : qB.cell? ⟨dA, 4, none⟩ = some (.int .i64 BA) := (blk_cell aA.out 4).trans rfl
         have iF : qB.cell? ⟨dA, 5, none⟩ = some (.int .i64 IA) := (blk_cell aA.out 5).trans rfl
         have jF : qB.cell? ⟨dA, 6, none⟩ = some (.int .i64 JA) := (blk_cell aA.out 6).trans rfl
         have kF : qB.cell? ⟨dA, 7, none⟩ = some (.int .i64 CA) := (blk_cell aA.out 7).trans rfl
         have lF : qB.cell? ⟨dA, 8, none⟩ = some (.int .i64 DA) := (blk_cell aA.out 8).trans rfl
         have mF : qB.cell? ⟨dA, 9, none⟩ = some (.bool EA) := (blk_cell aA.out 9).trans rfl
         have nF := blk_frozen aA.out 0
         have oF := blk_frozen aA.out 1
         have pF := blk_frozen aA.out 2
         have qF := blk_frozen aA.out 3
         have rF := blk_frozen aA.out 4
         have sF := blk_frozen aA.out 5
         have tF := blk_frozen aA.out 6
         have uF := blk_frozen aA.out 7
         have vF := blk_frozen aA.out 8
         have wF := blk_frozen aA.out 9
         go_wp2
         go_meet
         case rel => exact ⟨_, ((wA == 2)), q4_52, H', ⟨q4_55⟩, ⟨q4_41⟩, ⟨q4_37⟩, ⟨q4_22⟩, ⟨q4_38⟩, ⟨q4_39⟩, ⟨q4_40⟩, ⟨q4_35⟩, ⟨q4_0⟩⟩
        ·rw [if_neg c87] at H
         have eC : (hA == 1) = false := beq_eq_false_iff_ne.mpr c87
         have GG : (hA != 1) = true := bne_iff_ne.mpr c87
         (first | rw [eC] | (simp only [i64_w, i32_w]; rw [eC]) | skip)
         have H' := Aside0.mk H
         clear H
         go_wp2
         go_meet
         case rel => exact ⟨_, (false), q4_52, H', ⟨q4_55⟩, ⟨q4_41⟩, ⟨q4_37⟩, ⟨q4_22⟩, ⟨q4_38⟩, ⟨q4_39⟩, ⟨q4_40⟩, ⟨q4_35⟩, ⟨q4_0⟩⟩
       case rest =>
        clear HC86
        (try clear c1); (try clear c2); (try clear p2); (try clear c3); (try clear c4); (try clear c5); (try clear c6); (try clear p6); (try clear c7); (try clear c8); (try clear c9); (try clear c10); (try clear c11); (try clear c12); (try clear c16); (try clear c17); (try clear c18); (try clear c19); (try clear c21); (try clear c22); (try clear c23); (try clear c24); (try clear c25); (try clear c27); (try clear c28); (try clear c29); (try clear c30); (try clear c31); (try clear c33); (try clear c34); (try clear c35); (try clear c38); (try clear c40); (try clear c41); (try clear c42); (try clear c43); (try clear c45); (try clear c46); (try clear c47); (try clear c52); (try clear c53); (try clear c54); (try clear c55); (try clear c56); (try clear c58); (try clear c59); (try clear c60); (try clear c61); (try clear dC); (try clear CG); (try clear c64); (try clear DG); (try clear EG); (try clear p64); (try clear c65); (try clear FG); (try clear c67); (try clear c68); (try clear c69); (try clear c70); (try clear c71); (try clear c74); (try clear c75); (try clear c76); (try clear c77); (try clear c78); (try clear c80); (try clear c81); (try clear c82); (try clear c83); (try clear c84); (try clear c87); (try clear eC); (try clear GG); (try clear c88); (try clear c89); (try clear c90); (try clear c91); (try clear c92); (try clear gC); (try clear hC); (try clear iC); (try clear jC); (try clear kC); (try clear lC); (try clear mC); (try clear nC); (try clear oC); (try clear pC); (try clear AC); (try clear BC); (try clear CC); (try clear DC); (try clear IC); (try clear SC); (try clear UC); (try clear VC); (try clear WC); (try clear XC); (try clear YC); (try clear ZC); (try clear aD); (try clear bD); (try clear cD); (try clear dD); (try clear oD); (try clear qD); (try clear rD); (try clear sD); (try clear tD); (try clear yD); (try clear AD); (try clear BD); (try clear CD); (try clear DD); (try clear ED); (try clear FD); (try clear GD); (try clear HD); (try clear ID); (try clear JD); (try clear UD); (try clear VD); (try clear WD); (try clear XD); (try clear YD); (try clear ZD); (try clear aE); (try clear bE); (try clear cE); (try clear dE); (try clear oE); (try clear pE); (try clear qE); (try clear rE); (try clear sE); (try clear tE); (try clear uE); (try clear vE); (try clear wE); (try clear xE); (try clear IE); (try clear JE); (try clear KE); (try clear LE); (try clear ME); (try clear NE); (try clear OE); (try clear PE); (try clear QE); (try clear RE); (try clear dF); (try clear eF); (try clear fF); (try clear gF); (try clear hF); (try clear iF); (try clear jF); (try clear kF); (try clear lF); (try clear mF); (try clear qC); (try clear rC); (try clear sC); (try clear tC); (try clear uC); (try clear vC); (try clear wC); (try clear xC); (try clear yC); (try clear zC); (try clear EC); (try clear FC); (try clear GC); (try clear HC); (try clear JC); (try clear TC); (try clear eD); (try clear fD); (try clear gD); (try clear hD); (try clear iD); (try clear jD); (try clear kD); (try clear lD); (try clear mD); (try clear nD); (try clear pD); (try clear uD); (try clear vD); (try clear wD); (try clear xD); (try clear zD); (try clear KD); (try clear LD); (try clear MD); (try clear ND); (try clear OD); (try clear PD); (try clear QD); (try clear RD); (try clear SD); (try clear TD); (try clear eE); (try clear fE); (try clear gE); (try clear hE); (try clear iE); (try clear jE); (try clear kE); (try clear lE); (try clear mE); (try clear nE); (try clear yE); (try clear zE); (try clear AE); (try clear BE); (try clear CE); (try clear DE); (try clear EE); (try clear FE); (try clear GE); (try clear HE); (try clear SE); (try clear TE); (try clear UE); (try clear VE); (try clear WE); (try clear XE); (try clear YE); (try clear ZE); (try clear aF); (try clear bF); (try clear nF); (try clear oF); (try clear pF); (try clear qF); (try clear rF); (try clear sF); (try clear tF); (try clear uF); (try clear vF); (try clear wF); (try clear p2); (try clear p6)
        obtain ⟨kq, cF, rfl, HA, HJ85, rA, mA, aA, pA, eA, gA, PA, HB⟩ := hcut
        cases kq with
        | zero => exact absurd HA.out (by simp [impl_StStep.j1])
        | succ kj85 =>
         have H := HA.out
         clear HA
         simp only [impl_StStep.j1] at H
         by_cases c94 : cF = true
         ·subst c94
          rw [if_pos rfl] at H
          replace H := Option.bind_eq_some_iff.mp H
          obtain ⟨DI, A950, H⟩ := H
          (try dsimp only at H)
          have A95 := Aside0.mk A950
          clear A950
          by_cases c96 : DI = true
          ·subst c96
           rw [if_pos rfl] at H
           have H' := Aside0.mk H
           clear H
           have NN := uA.out
           have ON := lA.out
           have PN := fA.out
           have QN := iA.out
           have RN := bA.out
           have SN := jA.out
           have ZJ := vA.out
           have aK := oA.out
           have bK := qA.out
           have cK := nA.out
           have IF : wc.cell? ⟨dA, 0, none⟩ = some (.int .i64 wA) := (blk_cell aA.out 0).trans rfl
           have JF : wc.cell? ⟨dA, 1, none⟩ = some (.int .i64 zA) := (blk_cell aA.out 1).trans rfl
           have KF : wc.cell? ⟨dA, 2, none⟩ = some (.int .i64 AA) := (blk_cell aA.out 2).trans rfl
           have LF : wc.cell? ⟨dA, 3, none⟩ = some (.int .i64 (wrap64 (hA + 1))) := (blk_cell aA.out 3).trans rfl
           have MF : wc.cell? ⟨dA, 4, none⟩ = some (.int .i64 BA) := (blk_cell aA.out 4).trans rfl
           have NF : wc.cell? ⟨dA, 5, none⟩ = some (.int .i64 IA) := (blk_cell aA.out 5).trans rfl
           have OF : wc.cell? ⟨dA, 6, none⟩ = some (.int .i64 JA) := (blk_cell aA.out 6).trans rfl
           have PF : wc.cell? ⟨dA, 7, none⟩ = some (.int .i64 CA) := (blk_cell aA.out 7).trans rfl
           have QF : wc.cell? ⟨dA, 8, none⟩ = some (.int .i64 DA) := (blk_cell aA.out 8).trans rfl
           have RF : wc.cell? ⟨dA, 9, none⟩ = some (.bool EA) := (blk_cell aA.out 9).trans rfl
           have SF := blk_frozen aA.out 0
           have TF := blk_frozen aA.out 1
           have UF := blk_frozen aA.out 2
           have VF := blk_frozen aA.out 3
           have WF := blk_frozen aA.out 4
           have XF := blk_frozen aA.out 5
           have YF := blk_frozen aA.out 6
           have ZF := blk_frozen aA.out 7
           have aG := blk_frozen aA.out 8
           have bG := blk_frozen aA.out 9
           go_wp2_with (first | ((with_reducible refine gate_callee (f := 51) rfl ?_); refine goesL_ (some 82) rfl rfl Try.func51 q4_51 rfl #[.int .i64 VB, .int .i64 0, .int .i64 1048575] rfl q4_6 ?_; (with_reducible refine (impl_within.calls VB 0 1048575 true _ A95.out).mono ?_); rintro e w' ⟨rfl, ⟨nd, rfl⟩⟩; refine ⟨_, rfl, ?_⟩))
           go_meet
           case rel => exact ⟨_, (wA), (zA), (AA), ((wrap64 (hA + 1))), (BA), (VB), (JA), (CA), (DA), (EA), H', ⟨q4_53⟩, ⟨by (with_reducible repeat (first | apply Kd.R_alloc | apply Kd.R_drewN | apply Kd.R_drew)); exact Kd.R_mono (hl4_sets (Kd.R_types rA.out aA.out (by decide))) (fun _ hk => trivial)⟩, ⟨by (iterate 2 ((with_reducible repeat (first | refine blk_drewN ?_ _ | refine blk_drew ?_ | refine blk_alloc ?_ _)); refine blk_far ?_ lA.out _)); (with_reducible repeat (first | refine blk_drewN ?_ _ | refine blk_drew ?_ | refine blk_alloc ?_ _)); exact mA.out⟩, ⟨by (with_reducible repeat (first | refine blk_drewN ?_ _ | refine blk_drew ?_ | refine blk_alloc ?_ _)); refine blk_put (cs := #[.int .i64 wA, .int .i64 zA, .int .i64 AA, .int .i64 (wrap64 (hA + 1)), .int .i64 BA, .int .i64 0, .int .i64 JA, .int .i64 CA, .int .i64 DA, .bool EA]) ?_ 5 _ rfl; (with_reducible repeat (first | refine blk_drewN ?_ _ | refine blk_drew ?_ | refine blk_alloc ?_ _)); refine blk_put (cs := #[.int .i64 wA, .int .i64 zA, .int .i64 AA, .int .i64 (wrap64 (hA + 1)), .int .i64 BA, .int .i64 IA, .int .i64 JA, .int .i64 CA, .int .i64 DA, .bool EA]) ?_ 5 _ rfl; (with_reducible repeat (first | refine blk_drewN ?_ _ | refine blk_drew ?_ | refine blk_alloc ?_ _)); exact aA.out⟩, ⟨by (iterate 2 ((with_reducible repeat (first | refine blk_drewN ?_ _ | refine blk_drew ?_ | refine blk_alloc ?_ _)); refine blk_far ?_ iA.out _)); (with_reducible repeat (first | refine blk_drewN ?_ _ | refine blk_drew ?_ | refine blk_alloc ?_ _)); exact pA.out⟩, ⟨by (iterate 2 ((with_reducible repeat (first | refine blk_drewN ?_ _ | refine blk_drew ?_ | refine blk_alloc ?_ _)); refine blk_far ?_ jA.out _)); (with_reducible repeat (first | refine blk_drewN ?_ _ | refine blk_drew ?_ | refine blk_alloc ?_ _)); exact eA.out⟩, ⟨by (iterate 2 ((with_reducible repeat (first | refine blk_drewN ?_ _ | refine blk_drew ?_ | refine blk_alloc ?_ _)); refine blk_far ?_ oA.out _)); (with_reducible repeat (first | refine blk_drewN ?_ _ | refine blk_drew ?_ | refine blk_alloc ?_ _)); exact gA.out⟩, ⟨by (iterate 2 ((with_reducible repeat (first | refine blk_drewN ?_ _ | refine blk_drew ?_ | refine blk_alloc ?_ _)); refine blk_far ?_ nA.out _)); (with_reducible repeat (first | refine blk_drewN ?_ _ | refine blk_drew ?_ | refine blk_alloc ?_ _)); exact PA.out⟩, ⟨q4_0⟩⟩
          ·replace c96 := Bool.eq_false_iff.mpr c96
           subst c96
           rw [if_neg (show ¬ (false = true) by decide)] at H
           have H' := Aside0.mk H
           clear H
           have dK := uA.out
           have eK := lA.out
           have fK := fA.out
           have gK := iA.out
           have iK := bA.out
           have jK := jA.out
           have kK := vA.out
           have lK := oA.out
           have mK := qA.out
           have nK := nA.out
           have cG : wc.cell? ⟨dA, 0, none⟩ = some (.int .i64 wA) := (blk_cell aA.out 0).trans rfl
           have dG : wc.cell? ⟨dA, 1, none⟩ = some (.int .i64 zA) := (blk_cell aA.out 1).trans rfl
           have eG : wc.cell? ⟨dA, 2, none⟩ = some (.int .i64 AA) := (blk_cell aA.out 2).trans rfl
           have fG : wc.cell? ⟨dA, 3, none⟩ = some (.int .i64 (wrap64 (hA + 1))) := (blk_cell aA.out 3).trans rfl
           have gG : wc.cell? ⟨dA, 4, none⟩ = some (.int .i64 BA) := (blk_cell aA.out 4).trans rfl
           have hG : wc.cell? ⟨dA, 5, none⟩ = some (.int .i64 IA) := (blk_cell aA.out 5).trans rfl
           have iG : wc.cell? ⟨dA, 6, none⟩ = some (.int .i64 JA) := (blk_cell aA.out 6).trans rfl
           have jG : wc.cell? ⟨dA, 7, none⟩ = some (.int .i64 CA) := (blk_cell aA.out 7).trans rfl
           have kG : wc.cell? ⟨dA, 8, none⟩ = some (.int .i64 DA) := (blk_cell aA.out 8).trans rfl
           have lG : wc.cell? ⟨dA, 9, none⟩ = some (.bool EA) := (blk_cell aA.out 9).trans rfl
           have mG := blk_frozen aA.out 0
           have nG := blk_frozen aA.out 1
           have oG := blk_frozen aA.out 2
           have pG := blk_frozen aA.out 3
           have qG := blk_frozen aA.out 4
           have rG := blk_frozen aA.out 5
           have sG := blk_frozen aA.out 6
           have tG := blk_frozen aA.out 7
           have uG := blk_frozen aA.out 8
           have vG := blk_frozen aA.out 9
           go_wp2_with (first | ((with_reducible refine gate_callee (f := 51) rfl ?_); refine goesL_ (some 82) rfl rfl Try.func51 q4_51 rfl #[.int .i64 VB, .int .i64 0, .int .i64 1048575] rfl q4_6 ?_; (with_reducible refine (impl_within.calls VB 0 1048575 false _ A95.out).mono ?_); rintro e w' ⟨rfl, ⟨nd, rfl⟩⟩; refine ⟨_, rfl, ?_⟩))
           go_meet
           case rel => exact ⟨_, (wA), (zA), (AA), ((wrap64 (hA + 1))), (BA), (0), (JA), (CA), (DA), (EA), H', ⟨q4_53⟩, ⟨by (with_reducible repeat (first | apply Kd.R_alloc | apply Kd.R_drewN | apply Kd.R_drew)); exact Kd.R_mono (Kd.R_far (p := ⟨dA, 5, none⟩) (Kd.R_types rA.out aA.out (by decide)) (fun _ hk => hk.2) (.int .i64 0)) (fun _ hk => trivial)⟩, ⟨q4_25⟩, ⟨by (with_reducible repeat (first | refine blk_drewN ?_ _ | refine blk_drew ?_ | refine blk_alloc ?_ _)); refine blk_put (cs := #[.int .i64 wA, .int .i64 zA, .int .i64 AA, .int .i64 (wrap64 (hA + 1)), .int .i64 BA, .int .i64 IA, .int .i64 JA, .int .i64 CA, .int .i64 DA, .bool EA]) ?_ 5 _ rfl; (with_reducible repeat (first | refine blk_drewN ?_ _ | refine blk_drew ?_ | refine blk_alloc ?_ _)); exact aA.out⟩, ⟨q4_26⟩, ⟨q4_27⟩, ⟨q4_28⟩, ⟨q4_29⟩, ⟨q4_0⟩⟩
         ·replace c94 := Bool.eq_false_iff.mpr c94
          subst c94
          rw [if_neg (show ¬ (false = true) by decide)] at H
          have HC109 := Aside0.mk H
          clear H
          go_upto_region 18 with (fail)
          go_cut [85] (fun v85 wc => ∃ (kq : Nat) (KC : Bool), v85 = .bool KC ∧ Aside0 (impl_StStep.j2 kq hA KC wA zA AA (wrap64 (hA + 1)) BA IA JA CA DA EA pB = some (r1, r2, r3, r4, r5, r6, r7, r8, r9, r10, r11, r12)) ∧ Aside0 (kq ≤ kj85) ∧ Aside0 (Kd.R (Kd.int .i64) 3 wc w.heap.size (fun _ => True) (.slice RB pB.length SB) pB) ∧ Aside0 (wc.heap[GA]? = some (.cells #[(.slice lB XA.length mB)] 29 (0, 0))) ∧ Aside0 (wc.heap[dA]? = some (.cells #[.int .i64 wA, .int .i64 zA, .int .i64 AA, .int .i64 (wrap64 (hA + 1)), .int .i64 BA, .int .i64 IA, .int .i64 JA, .int .i64 CA, .int .i64 DA, .bool EA] 23 (0, 0))) ∧ Aside0 (wc.heap[kA]? = some (.cells #[(.slice none 0 0)] 29 (0, 0))) ∧ Aside0 (wc.heap[cA]? = some (.cells #[.int .i64 0, .int .i64 0, .int .i64 0, .int .i64 0, .int .i64 0, .int .i64 0, .int .i64 0, .int .i64 0, .int .i64 0, .bool false] 23 (0, 0))) ∧ Aside0 (wc.heap[sA]? = some (.cells #[.int .i64 iB, .int .i64 oB, .int .i64 rB, .int .i64 sB] 37 (0, 0))) ∧ Aside0 (wc.heap[yA]? = some (.cells #[(.slice RB pB.length SB)] 29 (0, 0))) ∧ Aside0 (Below w.heap.size w wc))
          case first =>
           have H := HC109.out
           clear HC109
           by_cases c110 : hA = 2
           ·rw [if_pos c110] at H
            have WB : (hA == 2) = true := beq_iff_eq.mpr c110
            have xG : (hA != 2) = false := bne_eq_false_iff_eq.mpr c110
            clear c110
            (first | rw [WB] | (simp only [i64_w, i32_w]; rw [WB]) | skip)
            have H' := Aside0.mk H
            clear H
            go_wp2
            go_meet
            case rel => exact ⟨_, ((VB == 1)), q4_52, H', ⟨q4_53⟩, ⟨q4_21⟩, ⟨q4_2⟩, ⟨q4_3⟩, ⟨q4_4⟩, ⟨q4_5⟩, ⟨q4_7⟩, ⟨q4_14⟩, ⟨q4_0⟩⟩
           ·rw [if_neg c110] at H
            have WB : (hA == 2) = false := beq_eq_false_iff_ne.mpr c110
            have xG : (hA != 2) = true := bne_iff_ne.mpr c110
            (first | rw [WB] | (simp only [i64_w, i32_w]; rw [WB]) | skip)
            have H' := Aside0.mk H
            clear H
            go_wp2
            go_meet
            case rel => exact ⟨_, (false), q4_52, H', ⟨q4_53⟩, ⟨q4_21⟩, ⟨q4_2⟩, ⟨q4_3⟩, ⟨q4_4⟩, ⟨q4_5⟩, ⟨q4_7⟩, ⟨q4_14⟩, ⟨q4_0⟩⟩
          case rest =>
           clear HC109
           (try clear c1); (try clear c2); (try clear p2); (try clear c3); (try clear c4); (try clear c5); (try clear c6); (try clear p6); (try clear c7); (try clear c8); (try clear c9); (try clear c10); (try clear c11); (try clear c12); (try clear c16); (try clear c17); (try clear c18); (try clear c19); (try clear c21); (try clear c22); (try clear c23); (try clear c24); (try clear c25); (try clear c27); (try clear c28); (try clear c29); (try clear c30); (try clear c31); (try clear c33); (try clear c34); (try clear c35); (try clear c38); (try clear c40); (try clear c41); (try clear c42); (try clear c43); (try clear c45); (try clear c46); (try clear c47); (try clear c51); (try clear c52); (try clear c53); (try clear c54); (try clear c55); (try clear c56); (try clear c58); (try clear c59); (try clear c60); (try clear c61); (try clear dC); (try clear CG); (try clear c64); (try clear DG); (try clear EG); (try clear p64); (try clear c65); (try clear FG); (try clear c67); (try clear c68); (try clear c69); (try clear c70); (try clear c71); (try clear c74); (try clear c75); (try clear c76); (try clear c77); (try clear c78); (try clear c80); (try clear c81); (try clear c82); (try clear c83); (try clear c84); (try clear c87); (try clear eC); (try clear GG); (try clear c88); (try clear c89); (try clear c90); (try clear c91); (try clear c92); (try clear c94); (try clear c96); (try clear c97); (try clear c98); (try clear c99); (try clear c100); (try clear c101); (try clear c103); (try clear c104); (try clear c105); (try clear c106); (try clear c107); (try clear c110); (try clear WB); (try clear xG); (try clear IF); (try clear JF); (try clear KF); (try clear LF); (try clear MF); (try clear NF); (try clear OF); (try clear PF); (try clear QF); (try clear RF); (try clear cG); (try clear dG); (try clear eG); (try clear fG); (try clear gG); (try clear hG); (try clear iG); (try clear jG); (try clear kG); (try clear lG); (try clear gC); (try clear hC); (try clear iC); (try clear jC); (try clear kC); (try clear lC); (try clear mC); (try clear nC); (try clear oC); (try clear pC); (try clear AC); (try clear BC); (try clear CC); (try clear DC); (try clear IC); (try clear SC); (try clear UC); (try clear VC); (try clear WC); (try clear XC); (try clear YC); (try clear ZC); (try clear aD); (try clear bD); (try clear cD); (try clear dD); (try clear oD); (try clear qD); (try clear rD); (try clear sD); (try clear tD); (try clear yD); (try clear AD); (try clear BD); (try clear CD); (try clear DD); (try clear ED); (try clear FD); (try clear GD); (try clear HD); (try clear ID); (try clear JD); (try clear UD); (try clear VD); (try clear WD); (try clear XD); (try clear YD); (try clear ZD); (try clear aE); (try clear bE); (try clear cE); (try clear dE); (try clear oE); (try clear pE); (try clear qE); (try clear rE); (try clear sE); (try clear tE); (try clear uE); (try clear vE); (try clear wE); (try clear xE); (try clear IE); (try clear JE); (try clear KE); (try clear LE); (try clear ME); (try clear NE); (try clear OE); (try clear PE); (try clear QE); (try clear RE); (try clear dF); (try clear eF); (try clear fF); (try clear gF); (try clear hF); (try clear iF); (try clear jF); (try clear kF); (try clear lF); (try clear mF); (try clear SF); (try clear TF); (try clear UF); (try clear VF); (try clear WF); (try clear XF); (try clear YF); (try clear ZF); (try clear aG); (try clear bG); (try clear mG); (try clear nG); (try clear oG); (try clear pG); (try clear qG); (try clear rG); (try clear sG); (try clear tG); (try clear uG); (try clear vG); (try clear qC); (try clear rC); (try clear sC); (try clear tC); (try clear uC); (try clear vC); (try clear wC); (try clear xC); (try clear yC); (try clear zC); (try clear EC); (try clear FC); (try clear GC); (try clear HC); (try clear JC); (try clear TC); (try clear eD); (try clear fD); (try clear gD); (try clear hD); (try clear iD); (try clear jD); (try clear kD); (try clear lD); (try clear mD); (try clear nD); (try clear pD); (try clear uD); (try clear vD); (try clear wD); (try clear xD); (try clear zD); (try clear KD); (try clear LD); (try clear MD); (try clear ND); (try clear OD); (try clear PD); (try clear QD); (try clear RD); (try clear SD); (try clear TD); (try clear eE); (try clear fE); (try clear gE); (try clear hE); (try clear iE); (try clear jE); (try clear kE); (try clear lE); (try clear mE); (try clear nE); (try clear yE); (try clear zE); (try clear AE); (try clear BE); (try clear CE); (try clear DE); (try clear EE); (try clear FE); (try clear GE); (try clear HE); (try clear SE); (try clear TE); (try clear UE); (try clear VE); (try clear WE); (try clear XE); (try clear YE); (try clear ZE); (try clear aF); (try clear bF); (try clear nF); (try clear oF); (try clear pF); (try clear qF); (try clear rF); (try clear sF); (try clear tF); (try clear uF); (try clear vF); (try clear wF); (try clear p2); (try clear p6); (try clear p64)
           obtain ⟨kq, KC, rfl, HA, HJ108, rA, mA, aA, pA, eA, gA, PA, HB⟩ := hcut
           cases kq with
           | zero => exact absurd HA.out (by simp [impl_StStep.j2])
           | succ kj108 =>
            have H := HA.out
            clear HA
            simp only [impl_StStep.j2] at H
            by_cases c111 : KC = true
            ·subst c111
             rw [if_pos rfl] at H
             replace H := Option.bind_eq_some_iff.mp H
             obtain ⟨⟨ZB, xF, yF, zF, AF, BF, PC, CF, wG, DF⟩, A1120, H⟩ := H
             (try dsimp only at H)
             have A112 := Aside0.mk A1120
             clear A1120
             by_cases c113 : ZB = 2
             ·rw [if_pos c113] at H
              have OG : (ZB == 2) = true := beq_iff_eq.mpr c113
              have PG : (ZB != 2) = false := bne_eq_false_iff_eq.mpr c113
              clear c113
              replace H := Option.bind_eq_some_iff.mp H
              obtain ⟨⟨FI, oK⟩, A1140, H⟩ := H
              (try dsimp only at H)
              have A114 := Aside0.mk A1140
              clear A1140
              have H' := Aside0.mk H
              clear H
              have ZA := Aside0.mk (show IsS23 w wc dA _ _ _ _ _ _ _ _ _ _ from ⟨aA.out, cC.out⟩)
              clear aA
              go_wp2_with (first | ((with_reducible refine gate_callee (f := 70) rfl ?_); refine goesL_ (some 92) rfl rfl Try.func70 q4_51 rfl #[.pointer (some ⟨dA, 0, none⟩), .int .i64 1] rfl q4_6 ?_; (with_reducible refine (impl_Call_end.calls dA wA zA AA (wrap64 (hA + 1)) BA IA JA CA DA EA 1 ZB xF yF zF AF BF PC CF wG DF w _ ?side1 ?side2 A112.out).mono ?_); (case side1 => exact q4_8); (case side2 => exact q4_20); rintro e fB ⟨rfl, hi, hb, hk⟩; refine ⟨_, rfl, ?_⟩; have wB := Aside0.mk (Kd.R_mono (Kd.R_keep (IsS23.apart (show IsS23 w _ dA wA zA AA (wrap64 (hA + 1)) BA IA JA CA DA EA from by repeat (first | (with_reducible first | exact ZA.out | apply IsS23.alloc | apply IsS23.drewN | apply IsS23.drew | apply IsS23.set_0 | apply IsS23.set_1 | apply IsS23.set_2 | apply IsS23.set_3 | apply IsS23.set_4 | apply IsS23.set_5 | apply IsS23.set_6 | apply IsS23.set_7 | apply IsS23.set_8 | apply IsS23.set_9 | apply IsS23.far_ uA.out | apply IsS23.far_ fA.out | apply IsS23.far_ bA.out | apply IsS23.far_ vA.out | apply IsS23.far_ qA.out) | exact ZA.out)) q4_21 (by decide)) hk (fun _ h => h.2)) (fun _ h => h.1)); have xB := Aside0.mk (KeepBut.blk hk (g' := GA) (o := .cells #[.slice lB XA.length mB] 29 (0, 0)) q4_2 lA.out (by simp)); have yB := Aside0.mk (KeepBut.blk hk (g' := kA) (o := .cells #[.slice none 0 0] 29 (0, 0)) q4_4 iA.out (by simp)); have zB := Aside0.mk (KeepBut.blk hk (g' := cA) (o := .cells #[.int .i64 0, .int .i64 0, .int .i64 0, .int .i64 0, .int .i64 0, .int .i64 0, .int .i64 0, .int .i64 0, .int .i64 0, .bool false] 23 (0, 0)) q4_5 jA.out (by simp)); have GB := Aside0.mk (KeepBut.blk hk (g' := sA) (o := .cells #[.int .i64 iB, .int .i64 oB, .int .i64 rB, .int .i64 sB] 37 (0, 0)) q4_7 oA.out (by simp)); have PB := Aside0.mk (KeepBut.blk hk (g' := yA) (o := .cells #[.slice RB pB.length SB] 29 (0, 0)) q4_14 nA.out (by simp)); have QB := Aside0.mk (hb); have YB := Aside0.mk (hi); clear rA mA pA eA gA PA HB ZA; have rA := wB; have mA := xB; have pA := yB; have eA := zB; have gA := GB; have PA := PB; have HB := QB; have ZA := YB; clear wB xB yB zB GB PB QB YB; have aA := Aside0.mk ZA.out.1; clear ZA; (try clear hb); (try clear hb2); (try clear hk); (try clear hi); have pK := uA.out; have qK := lA.out; have rK := fA.out; have sK := iA.out; have tK := bA.out; have uK := jA.out; have vK := vA.out; have wK := oA.out; have xK := qA.out; have yK := nA.out; have QG : fB.cell? ⟨dA, 0, none⟩ = some (.int .i64 ZB) := (blk_cell aA.out 0).trans rfl; have RG : fB.cell? ⟨dA, 1, none⟩ = some (.int .i64 xF) := (blk_cell aA.out 1).trans rfl; have SG : fB.cell? ⟨dA, 2, none⟩ = some (.int .i64 yF) := (blk_cell aA.out 2).trans rfl; have TG : fB.cell? ⟨dA, 3, none⟩ = some (.int .i64 zF) := (blk_cell aA.out 3).trans rfl; have UG : fB.cell? ⟨dA, 4, none⟩ = some (.int .i64 AF) := (blk_cell aA.out 4).trans rfl; have VG : fB.cell? ⟨dA, 5, none⟩ = some (.int .i64 BF) := (blk_cell aA.out 5).trans rfl; have WG : fB.cell? ⟨dA, 6, none⟩ = some (.int .i64 PC) := (blk_cell aA.out 6).trans rfl; have XG : fB.cell? ⟨dA, 7, none⟩ = some (.int .i64 CF) := (blk_cell aA.out 7).trans rfl; have YG : fB.cell? ⟨dA, 8, none⟩ = some (.int .i64 wG) := (blk_cell aA.out 8).trans rfl; have ZG : fB.cell? ⟨dA, 9, none⟩ = some (.bool DF) := (blk_cell aA.out 9).trans rfl; have aH := blk_frozen aA.out 0; have bH := blk_frozen aA.out 1; have cH := blk_frozen aA.out 2; have dH := blk_frozen aA.out 3; have eH := blk_frozen aA.out 4; have fH := blk_frozen aA.out 5; have gH := blk_frozen aA.out 6; have hH := blk_frozen aA.out 7; have iH := blk_frozen aA.out 8; have jH := blk_frozen aA.out 9) | ((with_reducible refine gate_callee (f := 60) rfl ?_); refine goesL_ (some 99) rfl rfl Try.func60 q4_51 rfl #[.int .i64 PC] rfl q4_6 ?_; (with_reducible refine (impl_top.calls PC FI oK _ A114.out).mono ?_); rintro e w' ⟨rfl, ⟨nd, rfl⟩⟩; refine ⟨_, rfl, ?_⟩; (try (rw [drewN_self fB]; generalize hq_ : World.drewN fB _ = fB; have wB : Aside0 (Kd.R (Kd.int .i64) 3 fB w.heap.size (fun k_ => True) (.slice RB pB.length SB) pB) := ⟨by rw [← hq_]; exact q4_21⟩; have xB : Aside0 (fB.heap[GA]? = some (.cells #[.slice lB XA.length mB] 29 (0, 0))) := ⟨by rw [← hq_]; exact q4_2⟩; have yB : Aside0 (fB.heap[dA]? = some (.cells #[.int .i64 ZB, .int .i64 xF, .int .i64 yF, .int .i64 zF, .int .i64 AF, .int .i64 BF, .int .i64 PC, .int .i64 CF, .int .i64 wG, .bool DF] 23 (0, 0))) := ⟨by rw [← hq_]; exact q4_3⟩; have zB : Aside0 (fB.heap[kA]? = some (.cells #[.slice none 0 0] 29 (0, 0))) := ⟨by rw [← hq_]; exact q4_4⟩; have GB : Aside0 (fB.heap[cA]? = some (.cells #[.int .i64 0, .int .i64 0, .int .i64 0, .int .i64 0, .int .i64 0, .int .i64 0, .int .i64 0, .int .i64 0, .int .i64 0, .bool false] 23 (0, 0))) := ⟨by rw [← hq_]; exact q4_5⟩; have PB : Aside0 (fB.heap[sA]? = some (.cells #[.int .i64 iB, .int .i64 oB, .int .i64 rB, .int .i64 sB] 37 (0, 0))) := ⟨by rw [← hq_]; exact q4_7⟩; have QB : Aside0 (fB.heap[yA]? = some (.cells #[.slice RB pB.length SB] 29 (0, 0))) := ⟨by rw [← hq_]; exact q4_14⟩; have YB : Aside0 (Below w.heap.size w fB) := ⟨by rw [← hq_]; exact q4_0⟩; clear rA mA aA pA eA gA PA HB hq_; have rA := wB; have mA := xB; have aA := yB; have pA := zB; have eA := GB; have gA := PB; have PA := QB; have HB := YB; clear wB xB yB zB GB PB QB YB)); have kH : fB.cell? ⟨dA, 0, none⟩ = some (.int .i64 ZB) := (blk_cell aA.out 0).trans rfl; have lH : fB.cell? ⟨dA, 1, none⟩ = some (.int .i64 xF) := (blk_cell aA.out 1).trans rfl; have mH : fB.cell? ⟨dA, 2, none⟩ = some (.int .i64 yF) := (blk_cell aA.out 2).trans rfl; have nH : fB.cell? ⟨dA, 3, none⟩ = some (.int .i64 zF) := (blk_cell aA.out 3).trans rfl; have oH : fB.cell? ⟨dA, 4, none⟩ = some (.int .i64 AF) := (blk_cell aA.out 4).trans rfl; have pH : fB.cell? ⟨dA, 5, none⟩ = some (.int .i64 BF) := (blk_cell aA.out 5).trans rfl; have qH : fB.cell? ⟨dA, 6, none⟩ = some (.int .i64 PC) := (blk_cell aA.out 6).trans rfl; have rH : fB.cell? ⟨dA, 7, none⟩ = some (.int .i64 CF) := (blk_cell aA.out 7).trans rfl; have sH : fB.cell? ⟨dA, 8, none⟩ = some (.int .i64 wG) := (blk_cell aA.out 8).trans rfl; have tH : fB.cell? ⟨dA, 9, none⟩ = some (.bool DF) := (blk_cell aA.out 9).trans rfl; have uH := blk_frozen aA.out 0; have vH := blk_frozen aA.out 1; have wH := blk_frozen aA.out 2; have xH := blk_frozen aA.out 3; have yH := blk_frozen aA.out 4; have zH := blk_frozen aA.out 5; have AH := blk_frozen aA.out 6; have BH := blk_frozen aA.out 7; have CH := blk_frozen aA.out 8; have DH := blk_frozen aA.out 9))
              go_meet
              case rel => exact ⟨_, (ZB), (xF), (yF), (zF), (AF), (BF), (PC), (CF), (FI), (DF), H', ⟨q4_49⟩, ⟨by (with_reducible repeat (first | apply Kd.R_alloc | apply Kd.R_drewN | apply Kd.R_drew)); exact Kd.R_mono (Kd.R_far (p := ⟨dA, 8, none⟩) (Kd.R_types rA.out aA.out (by decide)) (fun _ hk => hk.2) (.int .i64 FI)) (fun _ hk => trivial)⟩, ⟨q4_25⟩, ⟨by (with_reducible repeat (first | refine blk_drewN ?_ _ | refine blk_drew ?_ | refine blk_alloc ?_ _)); refine blk_put (cs := #[.int .i64 ZB, .int .i64 xF, .int .i64 yF, .int .i64 zF, .int .i64 AF, .int .i64 BF, .int .i64 PC, .int .i64 CF, .int .i64 wG, .bool DF]) ?_ 8 _ rfl; (with_reducible repeat (first | refine blk_drewN ?_ _ | refine blk_drew ?_ | refine blk_alloc ?_ _)); exact aA.out⟩, ⟨q4_26⟩, ⟨q4_27⟩, ⟨q4_28⟩, ⟨q4_29⟩, ⟨q4_0⟩⟩
             ·rw [if_neg c113] at H
              have OG : (ZB == 2) = false := beq_eq_false_iff_ne.mpr c113
              have PG : (ZB != 2) = true := bne_iff_ne.mpr c113
              have H' := Aside0.mk H
              clear H
              have ZA := Aside0.mk (show IsS23 w wc dA _ _ _ _ _ _ _ _ _ _ from ⟨aA.out, cC.out⟩)
              clear aA
              go_wp2_with (first | ((with_reducible refine gate_callee (f := 70) rfl ?_); refine goesL_ (some 92) rfl rfl Try.func70 q4_51 rfl #[.pointer (some ⟨dA, 0, none⟩), .int .i64 1] rfl q4_6 ?_; (with_reducible refine (impl_Call_end.calls dA wA zA AA (wrap64 (hA + 1)) BA IA JA CA DA EA 1 ZB xF yF zF AF BF PC CF wG DF w _ ?side1 ?side2 A112.out).mono ?_); (case side1 => exact q4_8); (case side2 => exact q4_20); rintro e RC ⟨rfl, hi, hb, hk⟩; refine ⟨_, rfl, ?_⟩; have wB := Aside0.mk (Kd.R_mono (Kd.R_keep (IsS23.apart (show IsS23 w _ dA wA zA AA (wrap64 (hA + 1)) BA IA JA CA DA EA from by repeat (first | (with_reducible first | exact ZA.out | apply IsS23.alloc | apply IsS23.drewN | apply IsS23.drew | apply IsS23.set_0 | apply IsS23.set_1 | apply IsS23.set_2 | apply IsS23.set_3 | apply IsS23.set_4 | apply IsS23.set_5 | apply IsS23.set_6 | apply IsS23.set_7 | apply IsS23.set_8 | apply IsS23.set_9 | apply IsS23.far_ uA.out | apply IsS23.far_ fA.out | apply IsS23.far_ bA.out | apply IsS23.far_ vA.out | apply IsS23.far_ qA.out) | exact ZA.out)) q4_21 (by decide)) hk (fun _ h => h.2)) (fun _ h => h.1)); have xB := Aside0.mk (KeepBut.blk hk (g' := GA) (o := .cells #[.slice lB XA.length mB] 29 (0, 0)) q4_2 lA.out (by simp)); have yB := Aside0.mk (KeepBut.blk hk (g' := kA) (o := .cells #[.slice none 0 0] 29 (0, 0)) q4_4 iA.out (by simp)); have zB := Aside0.mk (KeepBut.blk hk (g' := cA) (o := .cells #[.int .i64 0, .int .i64 0, .int .i64 0, .int .i64 0, .int .i64 0, .int .i64 0, .int .i64 0, .int .i64 0, .int .i64 0, .bool false] 23 (0, 0)) q4_5 jA.out (by simp)); have GB := Aside0.mk (KeepBut.blk hk (g' := sA) (o := .cells #[.int .i64 iB, .int .i64 oB, .int .i64 rB, .int .i64 sB] 37 (0, 0)) q4_7 oA.out (by simp)); have PB := Aside0.mk (KeepBut.blk hk (g' := yA) (o := .cells #[.slice RB pB.length SB] 29 (0, 0)) q4_14 nA.out (by simp)); have QB := Aside0.mk (hb); have YB := Aside0.mk (hi); clear rA mA pA eA gA PA HB ZA; have rA := wB; have mA := xB; have pA := yB; have eA := zB; have gA := GB; have PA := PB; have HB := QB; have ZA := YB; clear wB xB yB zB GB PB QB YB; have aA := Aside0.mk ZA.out.1; clear ZA; (try clear hb); (try clear hb2); (try clear hk); (try clear hi); have zK := uA.out; have AK := lA.out; have BK := fA.out; have CK := iA.out; have DK := bA.out; have EK := jA.out; have FK := vA.out; have GK := oA.out; have HK := qA.out; have IK := nA.out; have EH : RC.cell? ⟨dA, 0, none⟩ = some (.int .i64 ZB) := (blk_cell aA.out 0).trans rfl; have FH : RC.cell? ⟨dA, 1, none⟩ = some (.int .i64 xF) := (blk_cell aA.out 1).trans rfl; have GH : RC.cell? ⟨dA, 2, none⟩ = some (.int .i64 yF) := (blk_cell aA.out 2).trans rfl; have HH : RC.cell? ⟨dA, 3, none⟩ = some (.int .i64 zF) := (blk_cell aA.out 3).trans rfl; have IH : RC.cell? ⟨dA, 4, none⟩ = some (.int .i64 AF) := (blk_cell aA.out 4).trans rfl; have JH : RC.cell? ⟨dA, 5, none⟩ = some (.int .i64 BF) := (blk_cell aA.out 5).trans rfl; have KH : RC.cell? ⟨dA, 6, none⟩ = some (.int .i64 PC) := (blk_cell aA.out 6).trans rfl; have LH : RC.cell? ⟨dA, 7, none⟩ = some (.int .i64 CF) := (blk_cell aA.out 7).trans rfl; have MH : RC.cell? ⟨dA, 8, none⟩ = some (.int .i64 wG) := (blk_cell aA.out 8).trans rfl; have NH : RC.cell? ⟨dA, 9, none⟩ = some (.bool DF) := (blk_cell aA.out 9).trans rfl; have OH := blk_frozen aA.out 0; have PH := blk_frozen aA.out 1; have QH := blk_frozen aA.out 2; have RH := blk_frozen aA.out 3; have SH := blk_frozen aA.out 4; have TH := blk_frozen aA.out 5; have UH := blk_frozen aA.out 6; have VH := blk_frozen aA.out 7; have WH := blk_frozen aA.out 8; have XH := blk_frozen aA.out 9))
              go_meet
              case rel => exact ⟨_, (ZB), (xF), (yF), (zF), (AF), (BF), (PC), (CF), (wG), (DF), H', ⟨q4_49⟩, ⟨q4_21⟩, ⟨q4_2⟩, ⟨q4_3⟩, ⟨q4_4⟩, ⟨q4_5⟩, ⟨q4_7⟩, ⟨q4_14⟩, ⟨q4_0⟩⟩
            ·replace c111 := Bool.eq_false_iff.mpr c111
             subst c111
             rw [if_neg (show ¬ (false = true) by decide)] at H
             by_cases c130 : hA = 2
             ·rw [if_pos c130] at H
              have YH : (hA == 2) = true := beq_iff_eq.mpr c130
              have ZH : (hA != 2) = false := bne_eq_false_iff_eq.mpr c130
              clear c130
              have H' := Aside0.mk H
              clear H
              have JK := uA.out
              have KK := lA.out
              have LK := fA.out
              have MK := iA.out
              have NK := bA.out
              have OK := jA.out
              have PK := vA.out
              have QK := oA.out
              have RK := qA.out
              have SK := nA.out
              have aI : wc.cell? ⟨dA, 0, none⟩ = some (.int .i64 wA) := (blk_cell aA.out 0).trans rfl
              have bI : wc.cell? ⟨dA, 1, none⟩ = some (.int .i64 zA) := (blk_cell aA.out 1).trans rfl
              have cI : wc.cell? ⟨dA, 2, none⟩ = some (.int .i64 AA) := (blk_cell aA.out 2).trans rfl
              have dI : wc.cell? ⟨dA, 3, none⟩ = some (.int .i64 (wrap64 (hA + 1))) := (blk_cell aA.out 3).trans rfl
              have eI : wc.cell? ⟨dA, 4, none⟩ = some (.int .i64 BA) := (blk_cell aA.out 4).trans rfl
              have fI : wc.cell? ⟨dA, 5, none⟩ = some (.int .i64 IA) := (blk_cell aA.out 5).trans rfl
              have gI : wc.cell? ⟨dA, 6, none⟩ = some (.int .i64 JA) := (blk_cell aA.out 6).trans rfl
              have hI : wc.cell? ⟨dA, 7, none⟩ = some (.int .i64 CA) := (blk_cell aA.out 7).trans rfl
              have iI : wc.cell? ⟨dA, 8, none⟩ = some (.int .i64 DA) := (blk_cell aA.out 8).trans rfl
              have jI : wc.cell? ⟨dA, 9, none⟩ = some (.bool EA) := (blk_cell aA.out 9).trans rfl
              have kI := blk_frozen aA.out 0
              have lI := blk_frozen aA.out 1
              have mI := blk_frozen aA.out 2
              have nI := blk_frozen aA.out 3
              have oI := blk_frozen aA.out 4
              have pI := blk_frozen aA.out 5
              have qI := blk_frozen aA.out 6
              have rI := blk_frozen aA.out 7
              have sI := blk_frozen aA.out 8
              have tI := blk_frozen aA.out 9
              go_wp2
              go_meet
              case rel => exact ⟨_, (wA), (zA), (AA), (0), (BA), (IA), (JA), (CA), (DA), (EA), H', ⟨q4_49⟩, ⟨by (with_reducible repeat (first | apply Kd.R_alloc | apply Kd.R_drewN | apply Kd.R_drew)); exact Kd.R_mono (Kd.R_far (p := ⟨dA, 3, none⟩) (Kd.R_types rA.out aA.out (by decide)) (fun _ hk => hk.2) (.int .i64 0)) (fun _ hk => trivial)⟩, ⟨q4_25⟩, ⟨by (with_reducible repeat (first | refine blk_drewN ?_ _ | refine blk_drew ?_ | refine blk_alloc ?_ _)); refine blk_put (cs := #[.int .i64 wA, .int .i64 zA, .int .i64 AA, .int .i64 (wrap64 (hA + 1)), .int .i64 BA, .int .i64 IA, .int .i64 JA, .int .i64 CA, .int .i64 DA, .bool EA]) ?_ 3 _ rfl; (with_reducible repeat (first | refine blk_drewN ?_ _ | refine blk_drew ?_ | refine blk_alloc ?_ _)); exact aA.out⟩, ⟨q4_26⟩, ⟨q4_27⟩, ⟨q4_28⟩, ⟨q4_29⟩, ⟨q4_0⟩⟩
             ·rw [if_neg c130] at H
              have YH : (hA == 2) = false := beq_eq_false_iff_ne.mpr c130
              have ZH : (hA != 2) = true := bne_iff_ne.mpr c130
              have H' := Aside0.mk H
              clear H
              go_wp2
              go_meet
              case rel => exact ⟨_, (wA), (zA), (AA), ((wrap64 (hA + 1))), (BA), (IA), (JA), (CA), (DA), (EA), H', ⟨q4_49⟩, ⟨q4_21⟩, ⟨q4_2⟩, ⟨q4_3⟩, ⟨q4_4⟩, ⟨q4_5⟩, ⟨q4_7⟩, ⟨q4_14⟩, ⟨q4_0⟩⟩
     case rest =>
      clear HC39
      (try clear c1); (try clear c2); (try clear p2); (try clear c3); (try clear c4); (try clear c5); (try clear c6); (try clear p6); (try clear c7); (try clear c8); (try clear c9); (try clear c10); (try clear c11); (try clear c12); (try clear c13); (try clear c16); (try clear c17); (try clear c18); (try clear c19); (try clear c21); (try clear c22); (try clear c23); (try clear c24); (try clear c25); (try clear c27); (try clear c28); (try clear c29); (try clear c30); (try clear c31); (try clear c33); (try clear c34); (try clear c35); (try clear c38); (try clear c40); (try clear c41); (try clear c42); (try clear c43); (try clear c45); (try clear c46); (try clear c47); (try clear c51); (try clear c52); (try clear c53); (try clear c54); (try clear c55); (try clear c56); (try clear c58); (try clear c59); (try clear c60); (try clear c61); (try clear dC); (try clear CG); (try clear c64); (try clear DG); (try clear EG); (try clear p64); (try clear c65); (try clear FG); (try clear c67); (try clear c68); (try clear c69); (try clear c70); (try clear c71); (try clear c74); (try clear c75); (try clear c76); (try clear c77); (try clear c78); (try clear c80); (try clear c81); (try clear c82); (try clear c83); (try clear c84); (try clear c87); (try clear eC); (try clear GG); (try clear c88); (try clear c89); (try clear c90); (try clear c91); (try clear c92); (try clear c94); (try clear c96); (try clear c97); (try clear c98); (try clear c99); (try clear c100); (try clear c101); (try clear c103); (try clear c104); (try clear c105); (try clear c106); (try clear c107); (try clear c110); (try clear WB); (try clear xG); (try clear c111); (try clear c113); (try clear OG); (try clear PG); (try clear c116); (try clear c117); (try clear c118); (try clear c119); (try clear c120); (try clear c124); (try clear c125); (try clear c126); (try clear c127); (try clear c128); (try clear c130); (try clear YH); (try clear ZH); (try clear c131); (try clear c132); (try clear c133); (try clear c134); (try clear c135); (try clear IF); (try clear JF); (try clear KF); (try clear LF); (try clear MF); (try clear NF); (try clear OF); (try clear PF); (try clear QF); (try clear RF); (try clear cG); (try clear dG); (try clear eG); (try clear fG); (try clear gG); (try clear hG); (try clear iG); (try clear jG); (try clear kG); (try clear lG); (try clear QG); (try clear RG); (try clear SG); (try clear TG); (try clear UG); (try clear VG); (try clear WG); (try clear XG); (try clear YG); (try clear ZG); (try clear kH); (try clear lH); (try clear mH); (try clear nH); (try clear oH); (try clear pH); (try clear qH); (try clear rH); (try clear sH); (try clear tH); (try clear EH); (try clear FH); (try clear GH); (try clear HH); (try clear IH); (try clear JH); (try clear KH); (try clear LH); (try clear MH); (try clear NH); (try clear aI); (try clear bI); (try clear cI); (try clear dI); (try clear eI); (try clear fI); (try clear gI); (try clear hI); (try clear iI); (try clear jI); (try clear gC); (try clear hC); (try clear iC); (try clear jC); (try clear kC); (try clear lC); (try clear mC); (try clear nC); (try clear oC); (try clear pC); (try clear AC); (try clear BC); (try clear CC); (try clear DC); (try clear IC); (try clear SC); (try clear UC); (try clear VC); (try clear WC); (try clear XC); (try clear YC); (try clear ZC); (try clear aD); (try clear bD); (try clear cD); (try clear dD); (try clear oD); (try clear qD); (try clear rD); (try clear sD); (try clear tD); (try clear yD); (try clear AD); (try clear BD); (try clear CD); (try clear DD); (try clear ED); (try clear FD); (try clear GD); (try clear HD); (try clear ID); (try clear JD); (try clear UD); (try clear VD); (try clear WD); (try clear XD); (try clear YD); (try clear ZD); (try clear aE); (try clear bE); (try clear cE); (try clear dE); (try clear oE); (try clear pE); (try clear qE); (try clear rE); (try clear sE); (try clear tE); (try clear uE); (try clear vE); (try clear wE); (try clear xE); (try clear IE); (try clear JE); (try clear KE); (try clear LE); (try clear ME); (try clear NE); (try clear OE); (try clear PE); (try clear QE); (try clear RE); (try clear dF); (try clear eF); (try clear fF); (try clear gF); (try clear hF); (try clear iF); (try clear jF); (try clear kF); (try clear lF); (try clear mF); (try clear SF); (try clear TF); (try clear UF); (try clear VF); (try clear WF); (try clear XF); (try clear YF); (try clear ZF); (try clear aG); (try clear bG); (try clear mG); (try clear nG); (try clear oG); (try clear pG); (try clear qG); (try clear rG); (try clear sG); (try clear tG); (try clear uG); (try clear vG); (try clear aH); (try clear bH); (try clear cH); (try clear dH); (try clear eH); (try clear fH); (try clear gH); (try clear hH); (try clear iH); (try clear jH); (try clear uH); (try clear vH); (try clear wH); (try clear xH); (try clear yH); (try clear zH); (try clear AH); (try clear BH); (try clear CH); (try clear DH); (try clear OH); (try clear PH); (try clear QH); (try clear RH); (try clear SH); (try clear TH); (try clear UH); (try clear VH); (try clear WH); (try clear XH); (try clear kI); (try clear lI); (try clear mI); (try clear nI); (try clear oI); (try clear pI); (try clear qI); (try clear rI); (try clear sI); (try clear tI); (try clear qC); (try clear rC); (try clear sC); (try clear tC); (try clear uC); (try clear vC); (try clear wC); (try clear xC); (try clear yC); (try clear zC); (try clear EC); (try clear FC); (try clear GC); (try clear HC); (try clear JC); (try clear TC); (try clear eD); (try clear fD); (try clear gD); (try clear hD); (try clear iD); (try clear jD); (try clear kD); (try clear lD); (try clear mD); (try clear nD); (try clear pD); (try clear uD); (try clear vD); (try clear wD); (try clear xD); (try clear zD); (try clear KD); (try clear LD); (try clear MD); (try clear ND); (try clear OD); (try clear PD); (try clear QD); (try clear RD); (try clear SD); (try clear TD); (try clear eE); (try clear fE); (try clear gE); (try clear hE); (try clear iE); (try clear jE); (try clear kE); (try clear lE); (try clear mE); (try clear nE); (try clear yE); (try clear zE); (try clear AE); (try clear BE); (try clear CE); (try clear DE); (try clear EE); (try clear FE); (try clear GE); (try clear HE); (try clear SE); (try clear TE); (try clear UE); (try clear VE); (try clear WE); (try clear XE); (try clear YE); (try clear ZE); (try clear aF); (try clear bF); (try clear nF); (try clear oF); (try clear pF); (try clear qF); (try clear rF); (try clear sF); (try clear tF); (try clear uF); (try clear vF); (try clear wF); (try clear p2); (try clear p6); (try clear p64)
      obtain ⟨kq, tA, xA, FA, LA, NA, QA, YA, bB, eB, nB, HA, HJ38, rA, mA, aA, pA, eA, gA, PA, HB⟩ := hcut
      cases kq with
      | zero => exact absurd HA.out (by simp [impl_StStep.j3])
      | succ kj38 =>
       have H := HA.out
       clear HA
       simp only [impl_StStep.j3] at H
       simp only [Option.some.injEq, Prod.mk.injEq] at H
       obtain ⟨rfl, rfl, rfl, rfl, rfl, rfl, rfl, rfl, rfl, rfl, rfl, rfl⟩ := H
       try go_wp2
       have wB := Aside0.mk (Kd.R_drew rA.out)
       have xB := Aside0.mk (blk_drew mA.out)
       have yB := Aside0.mk (blk_drew aA.out)
       have zB := Aside0.mk (blk_drew pA.out)
       have GB := Aside0.mk (blk_drew eA.out)
       have PB := Aside0.mk (blk_drew gA.out)
       have QB := Aside0.mk (blk_drew PA.out)
       have YB := Aside0.mk (below_drew1 HB.out)
       clear rA mA aA pA eA gA PA HB
       have rA := wB
       have mA := xB
       have aA := yB
       have pA := zB
       have eA := GB
       have gA := PB
       have PA := QB
       have HB := YB
       clear wB xB yB zB GB PB QB YB
       refine start_ (n := 5) (S := fun w' => w'.cell? ⟨yA, 0, none⟩ = some (.slice RB pB.length SB) ∧ w'.cell? ⟨dA, 0, none⟩ = some (.int .i64 tA) ∧ w'.cell? ⟨dA, 1, none⟩ = some (.int .i64 xA) ∧ w'.cell? ⟨dA, 2, none⟩ = some (.int .i64 FA) ∧ w'.cell? ⟨dA, 3, none⟩ = some (.int .i64 LA) ∧ w'.cell? ⟨dA, 4, none⟩ = some (.int .i64 NA) ∧ w'.cell? ⟨dA, 5, none⟩ = some (.int .i64 QA) ∧ w'.cell? ⟨dA, 6, none⟩ = some (.int .i64 YA) ∧ w'.cell? ⟨dA, 7, none⟩ = some (.int .i64 bB) ∧ w'.cell? ⟨dA, 8, none⟩ = some (.int .i64 eB) ∧ w'.cell? ⟨dA, 9, none⟩ = some (.bool nB)) (ds := []) #[F,F,F,F,F] q4_51 rfl rfl ⟨(blk_cell PA.out 0).trans rfl, (blk_cell aA.out 0).trans rfl, (blk_cell aA.out 1).trans rfl, (blk_cell aA.out 2).trans rfl, (blk_cell aA.out 3).trans rfl, (blk_cell aA.out 4).trans rfl, (blk_cell aA.out 5).trans rfl, (blk_cell aA.out 6).trans rfl, (blk_cell aA.out 7).trans rfl, (blk_cell aA.out 8).trans rfl, (blk_cell aA.out 9).trans rfl⟩ (fun hHeld => ?_)
       generalize wc.drew = QC at rA mA aA pA eA gA PA HB hHeld ⊢
       refine take_ (i := 0) (N := some 107) (v := ?_) (a' := ?_) #[T,F,F,F,F] rfl rfl q4_51 (fun _ _ _ h => h) (Or.inl ⟨by rfl, ?_⟩) hHeld ?_ ?_
       rotate_left
       ·rintro w' ⟨s0, s1, s2, s3, s4, s5, s6, s7, s8, s9, gO⟩
        go_simp
        with_reducible rfl
       rotate_left
       ·simp only [Act.put, List.setIfInBounds_toArray, List.set_cons_zero, List.set_cons_succ, i64_w, i32_w]
        rfl
       refine take_ (i := 1) (N := some 108) (v := ?_) (a' := ?_) #[T,T,F,F,F] rfl rfl q4_51 (fun _ _ _ h => h) (Or.inl ⟨by rfl, ?_⟩) hHeld ?_ ?_
       rotate_left
       ·rintro w' ⟨s0, s1, s2, s3, s4, s5, s6, s7, s8, s9, gO⟩
        go_simp
        with_reducible rfl
       rotate_left
       ·simp only [Act.put, List.setIfInBounds_toArray, List.set_cons_zero, List.set_cons_succ, i64_w, i32_w]
        rfl
       refine one_ (i := 2) (N := none) #[T,T,T,F,F] rfl rfl q4_51 (by decide) (fun K hK => ?_)
       have TN : QC.cell? ⟨kA, 0, none⟩ = some (.slice none 0 0) := (blk_cell pA.out 0).trans rfl
       have TK := blk_frozen pA.out 0
       have VI := IB.out
       have WI := fA.out
       have XI := vB.out
       have YI := MB.out
       have ZI := OB.out
       have aJ := JB.out
       have bJ := iA.out
       have cJ := EB.out
       have dJ := tB.out
       have eJ := jB.out
       refine skip_ (w1 := ?_) (by rfl) rfl ?_ ?_
       rotate_left
       ·go_simp
        rfl
       refine hK.out _ _ ⟨((cell_far (p := ⟨kA, _, none⟩) OB.out _).trans (hHeld.1)), ((cell_far (p := ⟨kA, _, none⟩) fA.out _).trans (hHeld.2.1)), ((cell_far (p := ⟨kA, _, none⟩) fA.out _).trans (hHeld.2.2.1)), ((cell_far (p := ⟨kA, _, none⟩) fA.out _).trans (hHeld.2.2.2.1)), ((cell_far (p := ⟨kA, _, none⟩) fA.out _).trans (hHeld.2.2.2.2.1)), ((cell_far (p := ⟨kA, _, none⟩) fA.out _).trans (hHeld.2.2.2.2.2.1)), ((cell_far (p := ⟨kA, _, none⟩) fA.out _).trans (hHeld.2.2.2.2.2.2.1)), ((cell_far (p := ⟨kA, _, none⟩) fA.out _).trans (hHeld.2.2.2.2.2.2.2.1)), ((cell_far (p := ⟨kA, _, none⟩) fA.out _).trans (hHeld.2.2.2.2.2.2.2.2.1)), ((cell_far (p := ⟨kA, _, none⟩) fA.out _).trans (hHeld.2.2.2.2.2.2.2.2.2.1)), ((cell_far (p := ⟨kA, _, none⟩) fA.out _).trans (hHeld.2.2.2.2.2.2.2.2.2.2))⟩ (fun hHeld => ?_)
       clear hK K
       refine one_ (i := 3) (N := none) #[T,T,T,T,F] rfl rfl q4_51 (by decide) (fun K hK => ?_)
       have UN : QC.cell? ⟨cA, 0, none⟩ = some (.int .i64 0) := (blk_cell eA.out 0).trans rfl
       have UK := blk_frozen eA.out 0
       have fJ := KB.out
       have gJ := bA.out
       have hJ := NB.out
       have iJ := KA.out
       have jJ := LB.out
       have kJ := jA.out
       have lJ := uB.out
       have mJ := kB.out
       have VN : QC.cell? ⟨cA, 1, none⟩ = some (.int .i64 0) := (blk_cell eA.out 1).trans rfl
       have VK := blk_frozen eA.out 1
       have WN : QC.cell? ⟨cA, 2, none⟩ = some (.int .i64 0) := (blk_cell eA.out 2).trans rfl
       have WK := blk_frozen eA.out 2
       have XN : QC.cell? ⟨cA, 3, none⟩ = some (.int .i64 0) := (blk_cell eA.out 3).trans rfl
       have XK := blk_frozen eA.out 3
       have YN : QC.cell? ⟨cA, 4, none⟩ = some (.int .i64 0) := (blk_cell eA.out 4).trans rfl
       have YK := blk_frozen eA.out 4
       have ZN : QC.cell? ⟨cA, 5, none⟩ = some (.int .i64 0) := (blk_cell eA.out 5).trans rfl
       have ZK := blk_frozen eA.out 5
       have aO : QC.cell? ⟨cA, 6, none⟩ = some (.int .i64 0) := (blk_cell eA.out 6).trans rfl
       have aL := blk_frozen eA.out 6
       have bO : QC.cell? ⟨cA, 7, none⟩ = some (.int .i64 0) := (blk_cell eA.out 7).trans rfl
       have bL := blk_frozen eA.out 7
       have cO : QC.cell? ⟨cA, 8, none⟩ = some (.int .i64 0) := (blk_cell eA.out 8).trans rfl
       have cL := blk_frozen eA.out 8
       have dO : QC.cell? ⟨cA, 9, none⟩ = some (.bool false) := (blk_cell eA.out 9).trans rfl
       have dL := blk_frozen eA.out 9
       refine skip_ (w1 := ?_) (by rfl) rfl ?_ ?_
       rotate_left
       ·go_simp
        rfl
       refine hK.out _ _ ⟨((cell_far (p := ⟨cA, _, none⟩) KA.out _).trans (((cell_far (p := ⟨cA, _, none⟩) KA.out _).trans (((cell_far (p := ⟨cA, _, none⟩) KA.out _).trans (((cell_far (p := ⟨cA, _, none⟩) KA.out _).trans (((cell_far (p := ⟨cA, _, none⟩) KA.out _).trans (((cell_far (p := ⟨cA, _, none⟩) KA.out _).trans (((cell_far (p := ⟨cA, _, none⟩) KA.out _).trans (((cell_far (p := ⟨cA, _, none⟩) KA.out _).trans (((cell_far (p := ⟨cA, _, none⟩) KA.out _).trans (((cell_far (p := ⟨cA, _, none⟩) KA.out _).trans (hHeld.1)))))))))))))))))))), ((cell_far (p := ⟨cA, _, none⟩) bA.out _).trans (((cell_far (p := ⟨cA, _, none⟩) bA.out _).trans (((cell_far (p := ⟨cA, _, none⟩) bA.out _).trans (((cell_far (p := ⟨cA, _, none⟩) bA.out _).trans (((cell_far (p := ⟨cA, _, none⟩) bA.out _).trans (((cell_far (p := ⟨cA, _, none⟩) bA.out _).trans (((cell_far (p := ⟨cA, _, none⟩) bA.out _).trans (((cell_far (p := ⟨cA, _, none⟩) bA.out _).trans (((cell_far (p := ⟨cA, _, none⟩) bA.out _).trans (((cell_far (p := ⟨cA, _, none⟩) bA.out _).trans (hHeld.2.1)))))))))))))))))))), ((cell_far (p := ⟨cA, _, none⟩) bA.out _).trans (((cell_far (p := ⟨cA, _, none⟩) bA.out _).trans (((cell_far (p := ⟨cA, _, none⟩) bA.out _).trans (((cell_far (p := ⟨cA, _, none⟩) bA.out _).trans (((cell_far (p := ⟨cA, _, none⟩) bA.out _).trans (((cell_far (p := ⟨cA, _, none⟩) bA.out _).trans (((cell_far (p := ⟨cA, _, none⟩) bA.out _).trans (((cell_far (p := ⟨cA, _, none⟩) bA.out _).trans (((cell_far (p := ⟨cA, _, none⟩) bA.out _).trans (((cell_far (p := ⟨cA, _, none⟩) bA.out _).trans (hHeld.2.2.1)))))))))))))))))))), ((cell_far (p := ⟨cA, _, none⟩) bA.out _).trans (((cell_far (p := ⟨cA, _, none⟩) bA.out _).trans (((cell_far (p := ⟨cA, _, none⟩) bA.out _).trans (((cell_far (p := ⟨cA, _, none⟩) bA.out _).trans (((cell_far (p := ⟨cA, _, none⟩) bA.out _).trans (((cell_far (p := ⟨cA, _, none⟩) bA.out _).trans (((cell_far (p := ⟨cA, _, none⟩) bA.out _).trans (((cell_far (p := ⟨cA, _, none⟩) bA.out _).trans (((cell_far (p := ⟨cA, _, none⟩) bA.out _).trans (((cell_far (p := ⟨cA, _, none⟩) bA.out _).trans (hHeld.2.2.2.1)))))))))))))))))))), ((cell_far (p := ⟨cA, _, none⟩) bA.out _).trans (((cell_far (p := ⟨cA, _, none⟩) bA.out _).trans (((cell_far (p := ⟨cA, _, none⟩) bA.out _).trans (((cell_far (p := ⟨cA, _, none⟩) bA.out _).trans (((cell_far (p := ⟨cA, _, none⟩) bA.out _).trans (((cell_far (p := ⟨cA, _, none⟩) bA.out _).trans (((cell_far (p := ⟨cA, _, none⟩) bA.out _).trans (((cell_far (p := ⟨cA, _, none⟩) bA.out _).trans (((cell_far (p := ⟨cA, _, none⟩) bA.out _).trans (((cell_far (p := ⟨cA, _, none⟩) bA.out _).trans (hHeld.2.2.2.2.1)))))))))))))))))))), ((cell_far (p := ⟨cA, _, none⟩) bA.out _).trans (((cell_far (p := ⟨cA, _, none⟩) bA.out _).trans (((cell_far (p := ⟨cA, _, none⟩) bA.out _).trans (((cell_far (p := ⟨cA, _, none⟩) bA.out _).trans (((cell_far (p := ⟨cA, _, none⟩) bA.out _).trans (((cell_far (p := ⟨cA, _, none⟩) bA.out _).trans (((cell_far (p := ⟨cA, _, none⟩) bA.out _).trans (((cell_far (p := ⟨cA, _, none⟩) bA.out _).trans (((cell_far (p := ⟨cA, _, none⟩) bA.out _).trans (((cell_far (p := ⟨cA, _, none⟩) bA.out _).trans (hHeld.2.2.2.2.2.1)))))))))))))))))))), ((cell_far (p := ⟨cA, _, none⟩) bA.out _).trans (((cell_far (p := ⟨cA, _, none⟩) bA.out _).trans (((cell_far (p := ⟨cA, _, none⟩) bA.out _).trans (((cell_far (p := ⟨cA, _, none⟩) bA.out _).trans (((cell_far (p := ⟨cA, _, none⟩) bA.out _).trans (((cell_far (p := ⟨cA, _, none⟩) bA.out _).trans (((cell_far (p := ⟨cA, _, none⟩) bA.out _).trans (((cell_far (p := ⟨cA, _, none⟩) bA.out _).trans (((cell_far (p := ⟨cA, _, none⟩) bA.out _).trans (((cell_far (p := ⟨cA, _, none⟩) bA.out _).trans (hHeld.2.2.2.2.2.2.1)))))))))))))))))))), ((cell_far (p := ⟨cA, _, none⟩) bA.out _).trans (((cell_far (p := ⟨cA, _, none⟩) bA.out _).trans (((cell_far (p := ⟨cA, _, none⟩) bA.out _).trans (((cell_far (p := ⟨cA, _, none⟩) bA.out _).trans (((cell_far (p := ⟨cA, _, none⟩) bA.out _).trans (((cell_far (p := ⟨cA, _, none⟩) bA.out _).trans (((cell_far (p := ⟨cA, _, none⟩) bA.out _).trans (((cell_far (p := ⟨cA, _, none⟩) bA.out _).trans (((cell_far (p := ⟨cA, _, none⟩) bA.out _).trans (((cell_far (p := ⟨cA, _, none⟩) bA.out _).trans (hHeld.2.2.2.2.2.2.2.1)))))))))))))))))))), ((cell_far (p := ⟨cA, _, none⟩) bA.out _).trans (((cell_far (p := ⟨cA, _, none⟩) bA.out _).trans (((cell_far (p := ⟨cA, _, none⟩) bA.out _).trans (((cell_far (p := ⟨cA, _, none⟩) bA.out _).trans (((cell_far (p := ⟨cA, _, none⟩) bA.out _).trans (((cell_far (p := ⟨cA, _, none⟩) bA.out _).trans (((cell_far (p := ⟨cA, _, none⟩) bA.out _).trans (((cell_far (p := ⟨cA, _, none⟩) bA.out _).trans (((cell_far (p := ⟨cA, _, none⟩) bA.out _).trans (((cell_far (p := ⟨cA, _, none⟩) bA.out _).trans (hHeld.2.2.2.2.2.2.2.2.1)))))))))))))))))))), ((cell_far (p := ⟨cA, _, none⟩) bA.out _).trans (((cell_far (p := ⟨cA, _, none⟩) bA.out _).trans (((cell_far (p := ⟨cA, _, none⟩) bA.out _).trans (((cell_far (p := ⟨cA, _, none⟩) bA.out _).trans (((cell_far (p := ⟨cA, _, none⟩) bA.out _).trans (((cell_far (p := ⟨cA, _, none⟩) bA.out _).trans (((cell_far (p := ⟨cA, _, none⟩) bA.out _).trans (((cell_far (p := ⟨cA, _, none⟩) bA.out _).trans (((cell_far (p := ⟨cA, _, none⟩) bA.out _).trans (((cell_far (p := ⟨cA, _, none⟩) bA.out _).trans (hHeld.2.2.2.2.2.2.2.2.2.1)))))))))))))))))))), ((cell_far (p := ⟨cA, _, none⟩) bA.out _).trans (((cell_far (p := ⟨cA, _, none⟩) bA.out _).trans (((cell_far (p := ⟨cA, _, none⟩) bA.out _).trans (((cell_far (p := ⟨cA, _, none⟩) bA.out _).trans (((cell_far (p := ⟨cA, _, none⟩) bA.out _).trans (((cell_far (p := ⟨cA, _, none⟩) bA.out _).trans (((cell_far (p := ⟨cA, _, none⟩) bA.out _).trans (((cell_far (p := ⟨cA, _, none⟩) bA.out _).trans (((cell_far (p := ⟨cA, _, none⟩) bA.out _).trans (((cell_far (p := ⟨cA, _, none⟩) bA.out _).trans (hHeld.2.2.2.2.2.2.2.2.2.2))))))))))))))))))))⟩ (fun hHeld => ?_)
       clear hK K
       refine pure_ (i := 4) (N := some 8) (v := ?_) (a' := ?_) #[T,T,T,T,T] rfl rfl q4_51 (fun _ _ _ h => h) (Or.inl ⟨by rfl, ?_⟩) ?_ ?_
       rotate_left
       ·intro w'
        go_simp
        with_reducible rfl
       rotate_left
       ·simp only [Act.put, List.setIfInBounds_toArray, List.set_cons_zero, List.set_cons_succ, i64_w, i32_w]
        rfl
       refine done_ q4_51 ?_
       try go_wp2
       refine bodyPost_ret (results_list (rs := [.cell 6 29, .cell 7 23, .tmp 8]) rfl (by simp) (.cell kA 29 #[.slice RB pB.length SB] (0, 0) _ rfl q4_32 Try.underlying29 rfl q4_51 (.cell cA 23 #[.int .i64 tA, .int .i64 xA, .int .i64 FA, .int .i64 LA, .int .i64 NA, .int .i64 QA, .int .i64 YA, .int .i64 bB, .int .i64 eB, .bool nB] (0, 0) _ rfl (by (with_reducible repeat (first | refine blk_drewN ?_ _ | refine blk_drew ?_ | refine blk_alloc ?_ _)); refine blk_put (cs := #[.int .i64 tA, .int .i64 xA, .int .i64 FA, .int .i64 LA, .int .i64 NA, .int .i64 QA, .int .i64 YA, .int .i64 bB, .int .i64 eB, .bool false]) ?_ 9 _ rfl; (with_reducible repeat (first | refine blk_drewN ?_ _ | refine blk_drew ?_ | refine blk_alloc ?_ _)); refine blk_put (cs := #[.int .i64 tA, .int .i64 xA, .int .i64 FA, .int .i64 LA, .int .i64 NA, .int .i64 QA, .int .i64 YA, .int .i64 bB, .int .i64 0, .bool false]) ?_ 8 _ rfl; (with_reducible repeat (first | refine blk_drewN ?_ _ | refine blk_drew ?_ | refine blk_alloc ?_ _)); refine blk_put (cs := #[.int .i64 tA, .int .i64 xA, .int .i64 FA, .int .i64 LA, .int .i64 NA, .int .i64 QA, .int .i64 YA, .int .i64 0, .int .i64 0, .bool false]) ?_ 7 _ rfl; (with_reducible repeat (first | refine blk_drewN ?_ _ | refine blk_drew ?_ | refine blk_alloc ?_ _)); refine blk_put (cs := #[.int .i64 tA, .int .i64 xA, .int .i64 FA, .int .i64 LA, .int .i64 NA, .int .i64 QA, .int .i64 0, .int .i64 0, .int .i64 0, .bool false]) ?_ 6 _ rfl; (with_reducible repeat (first | refine blk_drewN ?_ _ | refine blk_drew ?_ | refine blk_alloc ?_ _)); refine blk_put (cs := #[.int .i64 tA, .int .i64 xA, .int .i64 FA, .int .i64 LA, .int .i64 NA, .int .i64 0, .int .i64 0, .int .i64 0, .int .i64 0, .bool false]) ?_ 5 _ rfl; (with_reducible repeat (first | refine blk_drewN ?_ _ | refine blk_drew ?_ | refine blk_alloc ?_ _)); refine blk_put (cs := #[.int .i64 tA, .int .i64 xA, .int .i64 FA, .int .i64 LA, .int .i64 0, .int .i64 0, .int .i64 0, .int .i64 0, .int .i64 0, .bool false]) ?_ 4 _ rfl; (with_reducible repeat (first | refine blk_drewN ?_ _ | refine blk_drew ?_ | refine blk_alloc ?_ _)); refine blk_put (cs := #[.int .i64 tA, .int .i64 xA, .int .i64 FA, .int .i64 0, .int .i64 0, .int .i64 0, .int .i64 0, .int .i64 0, .int .i64 0, .bool false]) ?_ 3 _ rfl; (with_reducible repeat (first | refine blk_drewN ?_ _ | refine blk_drew ?_ | refine blk_alloc ?_ _)); refine blk_put (cs := #[.int .i64 tA, .int .i64 xA, .int .i64 0, .int .i64 0, .int .i64 0, .int .i64 0, .int .i64 0, .int .i64 0, .int .i64 0, .bool false]) ?_ 2 _ rfl; (with_reducible repeat (first | refine blk_drewN ?_ _ | refine blk_drew ?_ | refine blk_alloc ?_ _)); refine blk_put (cs := #[.int .i64 tA, .int .i64 0, .int .i64 0, .int .i64 0, .int .i64 0, .int .i64 0, .int .i64 0, .int .i64 0, .int .i64 0, .bool false]) ?_ 1 _ rfl; (with_reducible repeat (first | refine blk_drewN ?_ _ | refine blk_drew ?_ | refine blk_alloc ?_ _)); refine blk_put (cs := #[.int .i64 0, .int .i64 0, .int .i64 0, .int .i64 0, .int .i64 0, .int .i64 0, .int .i64 0, .int .i64 0, .int .i64 0, .bool false]) ?_ 0 _ rfl; (with_reducible repeat (first | refine blk_drewN ?_ _ | refine blk_drew ?_ | refine blk_alloc ?_ _)); refine blk_far ?_ vB.out _; (with_reducible repeat (first | refine blk_drewN ?_ _ | refine blk_drew ?_ | refine blk_alloc ?_ _)); exact eA.out) Try.underlying23 rfl q4_51 (.tmp .nil)))) rfl ?_
       exact ⟨_, by first | rfl | (simp [errW_none, errW_some] <;> rfl) | (simp [*, errW_none, errW_some] <;> rfl), by (with_reducible repeat (first | apply Kd.R_alloc | apply Kd.R_drewN | apply Kd.R_drew)); exact Kd.R_mono (Kd.R_far (p := ⟨cA, 9, none⟩) (Kd.R_far (p := ⟨cA, 8, none⟩) (Kd.R_far (p := ⟨cA, 7, none⟩) (Kd.R_far (p := ⟨cA, 6, none⟩) (Kd.R_far (p := ⟨cA, 5, none⟩) (Kd.R_far (p := ⟨cA, 4, none⟩) (Kd.R_far (p := ⟨cA, 3, none⟩) (Kd.R_far (p := ⟨cA, 2, none⟩) (Kd.R_far (p := ⟨cA, 1, none⟩) (Kd.R_far (p := ⟨cA, 0, none⟩) (Kd.R_far (p := ⟨kA, 0, none⟩) (Kd.R_types (Kd.R_types rA.out pA.out (by decide)) eA.out (by decide)) (fun _ hk => hk.1.2) (.slice RB pB.length SB)) (fun _ hk => hk.2) (.int .i64 tA)) (fun _ hk => hk.2) (.int .i64 xA)) (fun _ hk => hk.2) (.int .i64 FA)) (fun _ hk => hk.2) (.int .i64 LA)) (fun _ hk => hk.2) (.int .i64 NA)) (fun _ hk => hk.2) (.int .i64 QA)) (fun _ hk => hk.2) (.int .i64 YA)) (fun _ hk => hk.2) (.int .i64 bB)) (fun _ hk => hk.2) (.int .i64 eB)) (fun _ hk => hk.2) (.bool nB)) (fun _ hk => trivial), q4_0⟩
    ·replace c38 := Bool.eq_false_iff.mpr c38
     subst c38
     rw [if_neg (show ¬ (false = true) by decide)] at H
     simp only [Option.some.injEq, Prod.mk.injEq] at H
     obtain ⟨rfl, rfl, rfl, rfl, rfl, rfl, rfl, rfl, rfl, rfl, rfl, rfl⟩ := H
     have eL := lA.out
     have fL := uA.out
     have gL := IB.out
     have hL := JB.out
     have iL := KB.out
     have jL := LB.out
     have kL := FB.out
     have lL := TB.out
     have nJ : wc.cell? ⟨GA, 0, none⟩ = some (.slice lB XA.length mB) := (blk_cell mA.out 0).trans rfl
     have oJ := blk_frozen mA.out 0
     have mL := oA.out
     have nL := vA.out
     have oL := MB.out
     have pL := tB.out
     have qL := NB.out
     have rL := uB.out
     have pJ : wc.cell? ⟨sA, 0, none⟩ = some (.int .i64 iB) := (blk_cell gA.out 0).trans rfl
     have qJ : wc.cell? ⟨sA, 1, none⟩ = some (.int .i64 oB) := (blk_cell gA.out 1).trans rfl
     have rJ : wc.cell? ⟨sA, 2, none⟩ = some (.int .i64 rB) := (blk_cell gA.out 2).trans rfl
     have sJ : wc.cell? ⟨sA, 3, none⟩ = some (.int .i64 sB) := (blk_cell gA.out 3).trans rfl
     have tJ := blk_frozen gA.out 0
     have uJ := blk_frozen gA.out 1
     have vJ := blk_frozen gA.out 2
     have wJ := blk_frozen gA.out 3
     go_wp2_with (first | ((with_reducible refine gate_callee (f := 68) rfl ?_); refine goesL_ (some 38) rfl rfl Try.func68 q4_51 rfl #[.agg #[.slice lB XA.length mB], .agg #[.int .i64 iB, .int .i64 oB, .int .i64 rB, .int .i64 sB]] rfl q4_6 ?_; (with_reducible refine (impl_Do.calls _ _ XA iB oB rB sB pB VB false _ ?side1 ?side2 A37.out).mono ?_); (case side1 => repeat (first | exact (Kd.C_below BI.out HB.out) | (with_reducible refine Kd.C_alloc ?_ _) | (with_reducible refine Kd.C_drewN ?_ _) | (with_reducible refine Kd.C_drew ?_))); (case side2 => exact CI.out); rintro e hO ⟨XJ, rfl, ho0, hb⟩; refine ⟨_, rfl, ?_⟩; have wB := Aside0.mk (Kd.R_lower ho0 (below_size q4_1)); have xB := Aside0.mk (blk_below (g := GA) (o := .cells #[.slice lB XA.length mB] 29 (0, 0)) q4_2 hb); have yB := Aside0.mk (blk_below (g := dA) (o := .cells #[.int .i64 wA, .int .i64 zA, .int .i64 AA, .int .i64 hA, .int .i64 BA, .int .i64 IA, .int .i64 JA, .int .i64 CA, .int .i64 DA, .bool EA] 23 (0, 0)) q4_3 hb); have zB := Aside0.mk (blk_below (g := kA) (o := .cells #[.slice none 0 0] 29 (0, 0)) q4_4 hb); have GB := Aside0.mk (blk_below (g := cA) (o := .cells #[.int .i64 0, .int .i64 0, .int .i64 0, .int .i64 0, .int .i64 0, .int .i64 0, .int .i64 0, .int .i64 0, .int .i64 0, .bool false] 23 (0, 0)) q4_5 hb); have PB := Aside0.mk (blk_below (g := sA) (o := .cells #[.int .i64 iB, .int .i64 oB, .int .i64 rB, .int .i64 sB] 37 (0, 0)) q4_7 hb); have QB := Aside0.mk (below_step q4_1 hb); clear mA aA pA eA gA HB; have CB := wB; have mA := xB; have aA := yB; have pA := zB; have eA := GB; have gA := PB; have HB := QB; clear wB xB yB zB GB PB QB; (try clear hb); (try clear hb2); (try clear hk); (try clear hi); (try clear ho0)) | ((with_reducible refine gate_dst (N := 11) rfl ?_); (try (refine gate_guard (by rfl) ?_; dsimp only)); refine box_event ?hg (N := 11) ?hd (cs := #[.slice none 0 0]) (t := 29) ?hr ?_; (case hd => rfl); (case hg => rfl); (case hr => first | (go_simp; done) | (go_simp; rfl)); intro yA hg fC hbox hb; have wB := Aside0.mk (Kd.R_below q4_54 hb); have xB := Aside0.mk (blk_below (g := GA) (o := .cells #[.slice lB XA.length mB] 29 (0, 0)) q4_2 hb); have yB := Aside0.mk (blk_below (g := dA) (o := .cells #[.int .i64 wA, .int .i64 zA, .int .i64 AA, .int .i64 hA, .int .i64 BA, .int .i64 IA, .int .i64 JA, .int .i64 CA, .int .i64 DA, .bool EA] 23 (0, 0)) q4_3 hb); have zB := Aside0.mk (blk_below (g := kA) (o := .cells #[.slice none 0 0] 29 (0, 0)) q4_4 hb); have GB := Aside0.mk (blk_below (g := cA) (o := .cells #[.int .i64 0, .int .i64 0, .int .i64 0, .int .i64 0, .int .i64 0, .int .i64 0, .int .i64 0, .int .i64 0, .int .i64 0, .bool false] 23 (0, 0)) q4_5 hb); have PB := Aside0.mk (blk_below (g := sA) (o := .cells #[.int .i64 iB, .int .i64 oB, .int .i64 rB, .int .i64 sB] 37 (0, 0)) q4_7 hb); have QB := Aside0.mk (below_step q4_1 hb); have YB := Aside0.mk (hbox); have zG := Aside0.mk ((by rw [hg]; exact (below_size q4_1) : w.heap.size ≤ yA)); have AG := Aside0.mk ((by rw [hg]; exact (below_size q4_1) : w.heap.size ≤ yA)); have MC := Aside0.mk ((q4_23 : GA ≠ yA)); have NC := Aside0.mk ((q4_24 : yA ≠ GA)); have OC := Aside0.mk ((q4_9 : dA ≠ yA)); have FF := Aside0.mk ((q4_10 : yA ≠ dA)); have GF := Aside0.mk ((q4_43 : kA ≠ yA)); have HF := Aside0.mk ((q4_44 : yA ≠ kA)); have KG := Aside0.mk ((q4_33 : cA ≠ yA)); have LG := Aside0.mk ((q4_34 : yA ≠ cA)); have MG := Aside0.mk ((by rw [hg]; exact Nat.ne_of_lt (blk_lt (g := sA) (o := .cells #[.int .i64 iB, .int .i64 oB, .int .i64 rB, .int .i64 sB] 37 (0, 0)) q4_7) : sA ≠ yA)); have NG := Aside0.mk ((by rw [hg]; exact Nat.ne_of_gt (blk_lt (g := sA) (o := .cells #[.int .i64 iB, .int .i64 oB, .int .i64 rB, .int .i64 sB] 37 (0, 0)) q4_7) : yA ≠ sA)); clear CB mA aA pA eA gA HB; have CB := wB; have mA := xB; have aA := yB; have pA := zB; have eA := GB; have gA := PB; have HB := QB; have PA := YB; have KI := zG; have JG := AG; have AB := MC; have aC := NC; have qA := OC; have nA := FF; have jB := GF; have OB := HF; have kB := KG; have KA := LG; have BB := MG; have bC := NG; clear wB xB yB zB GB PB QB YB zG AG MC NC OC FF GF HF KG LG MG NG; clear hb hbox hg; obtain ⟨eO, fO, xJ⟩ := Kd.R_slice CB.out; subst xJ; have sL := aC.out; have tL := AB.out; have uL := nA.out; have vL := qA.out; have wL := OB.out; have xL := jB.out; have yL := KA.out; have zL := kB.out; have AL := bC.out; have BL := BB.out; have yJ : fC.cell? ⟨yA, 0, none⟩ = some (.slice none 0 0) := (blk_cell PA.out 0).trans rfl; have zJ := blk_frozen PA.out 0; have CL := iA.out; have DL := fA.out; have EL := EB.out; have FL := vB.out; have AJ : fC.cell? ⟨kA, 0, none⟩ = some (.slice none 0 0) := (blk_cell pA.out 0).trans rfl; have BJ := blk_frozen pA.out 0; have GL := jA.out; have HL := bA.out; have CJ : fC.cell? ⟨cA, 0, none⟩ = some (.int .i64 0) := (blk_cell eA.out 0).trans rfl; have DJ : fC.cell? ⟨cA, 1, none⟩ = some (.int .i64 0) := (blk_cell eA.out 1).trans rfl; have EJ : fC.cell? ⟨cA, 2, none⟩ = some (.int .i64 0) := (blk_cell eA.out 2).trans rfl; have FJ : fC.cell? ⟨cA, 3, none⟩ = some (.int .i64 0) := (blk_cell eA.out 3).trans rfl; have GJ : fC.cell? ⟨cA, 4, none⟩ = some (.int .i64 0) := (blk_cell eA.out 4).trans rfl; have HJ : fC.cell? ⟨cA, 5, none⟩ = some (.int .i64 0) := (blk_cell eA.out 5).trans rfl; have IJ : fC.cell? ⟨cA, 6, none⟩ = some (.int .i64 0) := (blk_cell eA.out 6).trans rfl; have JJ : fC.cell? ⟨cA, 7, none⟩ = some (.int .i64 0) := (blk_cell eA.out 7).trans rfl; have KJ : fC.cell? ⟨cA, 8, none⟩ = some (.int .i64 0) := (blk_cell eA.out 8).trans rfl; have LJ : fC.cell? ⟨cA, 9, none⟩ = some (.bool false) := (blk_cell eA.out 9).trans rfl; have MJ := blk_frozen eA.out 0; have NJ := blk_frozen eA.out 1; have OJ := blk_frozen eA.out 2; have PJ := blk_frozen eA.out 3; have QJ := blk_frozen eA.out 4; have RJ := blk_frozen eA.out 5; have SJ := blk_frozen eA.out 6; have TJ := blk_frozen eA.out 7; have UJ := blk_frozen eA.out 8; have VJ := blk_frozen eA.out 9))
     refine bodyPost_ret (results_list (rs := [.cell 6 29, .cell 7 23, .tmp 8]) rfl (by simp) (.cell kA 29 #[.slice none 0 0] (0, 0) _ rfl (by (iterate 10 ((with_reducible repeat (first | refine blk_drewN ?_ _ | refine blk_drew ?_ | refine blk_alloc ?_ _)); refine blk_far ?_ EB.out _)); (with_reducible repeat (first | refine blk_drewN ?_ _ | refine blk_drew ?_ | refine blk_alloc ?_ _)); refine blk_put (cs := #[.slice none 0 0]) ?_ 0 _ rfl; (with_reducible repeat (first | refine blk_drewN ?_ _ | refine blk_drew ?_ | refine blk_alloc ?_ _)); refine blk_far ?_ jB.out _; (with_reducible repeat (first | refine blk_drewN ?_ _ | refine blk_drew ?_ | refine blk_alloc ?_ _)); exact pA.out) Try.underlying29 rfl q4_51 (.cell cA 23 #[.int .i64 0, .int .i64 0, .int .i64 0, .int .i64 0, .int .i64 0, .int .i64 0, .int .i64 0, .int .i64 0, .int .i64 0, .bool false] (0, 0) _ rfl (by (with_reducible repeat (first | refine blk_drewN ?_ _ | refine blk_drew ?_ | refine blk_alloc ?_ _)); refine blk_put (cs := #[.int .i64 0, .int .i64 0, .int .i64 0, .int .i64 0, .int .i64 0, .int .i64 0, .int .i64 0, .int .i64 0, .int .i64 0, .bool false]) ?_ 9 _ rfl; (with_reducible repeat (first | refine blk_drewN ?_ _ | refine blk_drew ?_ | refine blk_alloc ?_ _)); refine blk_put (cs := #[.int .i64 0, .int .i64 0, .int .i64 0, .int .i64 0, .int .i64 0, .int .i64 0, .int .i64 0, .int .i64 0, .int .i64 0, .bool false]) ?_ 8 _ rfl; (with_reducible repeat (first | refine blk_drewN ?_ _ | refine blk_drew ?_ | refine blk_alloc ?_ _)); refine blk_put (cs := #[.int .i64 0, .int .i64 0, .int .i64 0, .int .i64 0, .int .i64 0, .int .i64 0, .int .i64 0, .int .i64 0, .int .i64 0, .bool false]) ?_ 7 _ rfl; (with_reducible repeat (first | refine blk_drewN ?_ _ | refine blk_drew ?_ | refine blk_alloc ?_ _)); refine blk_put (cs := #[.int .i64 0, .int .i64 0, .int .i64 0, .int .i64 0, .int .i64 0, .int .i64 0, .int .i64 0, .int .i64 0, .int .i64 0, .bool false]) ?_ 6 _ rfl; (with_reducible repeat (first | refine blk_drewN ?_ _ | refine blk_drew ?_ | refine blk_alloc ?_ _)); refine blk_put (cs := #[.int .i64 0, .int .i64 0, .int .i64 0, .int .i64 0, .int .i64 0, .int .i64 0, .int .i64 0, .int .i64 0, .int .i64 0, .bool false]) ?_ 5 _ rfl; (with_reducible repeat (first | refine blk_drewN ?_ _ | refine blk_drew ?_ | refine blk_alloc ?_ _)); refine blk_put (cs := #[.int .i64 0, .int .i64 0, .int .i64 0, .int .i64 0, .int .i64 0, .int .i64 0, .int .i64 0, .int .i64 0, .int .i64 0, .bool false]) ?_ 4 _ rfl; (with_reducible repeat (first | refine blk_drewN ?_ _ | refine blk_drew ?_ | refine blk_alloc ?_ _)); refine blk_put (cs := #[.int .i64 0, .int .i64 0, .int .i64 0, .int .i64 0, .int .i64 0, .int .i64 0, .int .i64 0, .int .i64 0, .int .i64 0, .bool false]) ?_ 3 _ rfl; (with_reducible repeat (first | refine blk_drewN ?_ _ | refine blk_drew ?_ | refine blk_alloc ?_ _)); refine blk_put (cs := #[.int .i64 0, .int .i64 0, .int .i64 0, .int .i64 0, .int .i64 0, .int .i64 0, .int .i64 0, .int .i64 0, .int .i64 0, .bool false]) ?_ 2 _ rfl; (with_reducible repeat (first | refine blk_drewN ?_ _ | refine blk_drew ?_ | refine blk_alloc ?_ _)); refine blk_put (cs := #[.int .i64 0, .int .i64 0, .int .i64 0, .int .i64 0, .int .i64 0, .int .i64 0, .int .i64 0, .int .i64 0, .int .i64 0, .bool false]) ?_ 1 _ rfl; (with_reducible repeat (first | refine blk_drewN ?_ _ | refine blk_drew ?_ | refine blk_alloc ?_ _)); refine blk_put (cs := #[.int .i64 0, .int .i64 0, .int .i64 0, .int .i64 0, .int .i64 0, .int .i64 0, .int .i64 0, .int .i64 0, .int .i64 0, .bool false]) ?_ 0 _ rfl; (with_reducible repeat (first | refine blk_drewN ?_ _ | refine blk_drew ?_ | refine blk_alloc ?_ _)); refine blk_far ?_ vB.out _; (with_reducible repeat (first | refine blk_drewN ?_ _ | refine blk_drew ?_ | refine blk_alloc ?_ _)); refine blk_far ?_ kB.out _; (with_reducible repeat (first | refine blk_drewN ?_ _ | refine blk_drew ?_ | refine blk_alloc ?_ _)); exact eA.out) Try.underlying23 rfl q4_51 (.tmp .nil)))) rfl ?_
     exact ⟨_, by first | rfl | (simp [errW_none, errW_some] <;> rfl) | (simp [*, errW_none, errW_some] <;> rfl), by first | exact Kd.R_nil _ _ _ _ _ | exact Kd.N_nil _ _ _ _ _ | exact Kd.V_nil _ _ _ _ _ | exact Kd.Q_nil _ _ _ _ _ | exact Kd.S_nil _ _ _ _ _, q4_0⟩

end Go.Proofs.Ytfahmmlkcmadeaa.PFnStackOne
