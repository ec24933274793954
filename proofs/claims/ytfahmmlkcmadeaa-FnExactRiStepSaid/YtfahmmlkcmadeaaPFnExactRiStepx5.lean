-- Written by the session's own patched copy of the printer (wip/patch_print.py).
import Derived.Test.YtfahmmlkcmadeaaPFnExactRiStepx0
import Derived.Test.YtfahmmlkcmadeaaPFnExactRiStepx3
import Derived.Test.YtfahmmlkcmadeaaPFnExactRiStepx4
namespace Go.Proofs.Ytfahmmlkcmadeaa.PFnExactRiStep
open Go.RowKit Go.Proofs.YtfahmmlkcmadeaaW.PrintWords Go.Proofs.YtfahmmlkcmadeaaW.PrintLast Go.Proofs.YtfahmmlkcmadeaaW.PrintMore
attribute [local go_sem] max2_int min2_int max_two min_two max_three min_three max_four min_four   -- for this text's walks alone
set_option linter.unusedVariables false
set_option linter.unusedSimpArgs false

theorem hl5_step {g : Nat} {w w1 : World} {i : Nat} {u : Value} (h : ∀ k, k ≠ g → w1.heap[k]? = w.heap[k]?) : ∀ k, k ≠ g → (w1.setCell ⟨g, i, none⟩ u).heap[k]? = w.heap[k]? := fun k hk => (Below.heap_setCell w1 ⟨g, i, none⟩ u k hk).trans (h k hk)
theorem hl5_drewN {g : Nat} {w w1 : World} {m : Nat} (h : ∀ k, k ≠ g → w1.heap[k]? = w.heap[k]?) : ∀ k, k ≠ g → (w1.drewN m).heap[k]? = w.heap[k]? := h
theorem hl5_drew {g : Nat} {w w1 : World} (h : ∀ k, k ≠ g → w1.heap[k]? = w.heap[k]?) : ∀ k, k ≠ g → w1.drew.heap[k]? = w.heap[k]? := h
theorem hl5_sets {α : Type} {d : Kd α} {e g : Nat} {w w1 : World} {base : Nat} {ok : Nat → Prop} {v : Value} {xs : List α} (h : d.R e w base (fun k => ok k ∧ k ≠ g) v xs) (hs : ∀ k, k ≠ g → w1.heap[k]? = w.heap[k]? := by repeat (first | (with_reducible exact fun _ _ => rfl) | (with_reducible apply hl5_step) | (with_reducible apply hl5_drewN) | (with_reducible apply hl5_drew))) : d.R e w1 base (fun k => ok k ∧ k ≠ g) v xs := Kd.R_step h (fun k hk _ => hs k hk.2)
open Bool renaming true → T, false → F
theorem q5_0 {p : Prop} (h : p := by repeat (first | (with_reducible first | exact HB.out | apply below_alloc | apply pw_below_drewN | apply below_drew1 | refine below_set ?_ HC.out | refine below_set ?_ OE.out | refine below_set ?_ XE.out | refine below_set ?_ UF.out | refine below_set ?_ rH.out | refine below_set ?_ wH.out) | exact HB.out)) : p := h
theorem q5_1 {p : Prop} (h : p := by (with_reducible repeat (first | refine blk_drewN ?_ _ | refine blk_drew ?_ | refine blk_alloc ?_ _)); exact vA.out) : p := h
theorem q5_2 {p : Prop} (h : p := by (with_reducible repeat (first | refine blk_drewN ?_ _ | refine blk_drew ?_ | refine blk_alloc ?_ _)); exact bA.out) : p := h
theorem q5_3 {p : Prop} (h : p := by (with_reducible repeat (first | refine blk_drewN ?_ _ | refine blk_drew ?_ | refine blk_alloc ?_ _)); exact wA.out) : p := h
theorem q5_4 {p : Prop} (h : p := by repeat (first | (with_reducible first | exact HB.out | apply below_alloc | apply pw_below_drewN | apply below_drew1 | refine below_set ?_ HC.out | refine below_set ?_ OE.out | refine below_set ?_ XE.out | refine below_set ?_ UF.out | refine below_set ?_ rH.out) | exact HB.out)) : p := h
theorem q5_5 {p : Prop} (h : p := by (with_reducible repeat (first | refine blk_drewN ?_ _ | refine blk_drew ?_ | refine blk_alloc ?_ _)); exact eA.out) : p := h
theorem q5_6 {p : Prop} (h : p := by (with_reducible repeat (first | refine blk_drewN ?_ _ | refine blk_drew ?_ | refine blk_alloc ?_ _)); refine blk_far ?_ EA.out _; (with_reducible repeat (first | refine blk_drewN ?_ _ | refine blk_drew ?_ | refine blk_alloc ?_ _)); exact vA.out) : p := h
theorem q5_7 {p : Prop} (h : p := by (with_reducible repeat (first | refine blk_drewN ?_ _ | refine blk_drew ?_ | refine blk_alloc ?_ _)); refine blk_far ?_ yA.out _; (with_reducible repeat (first | refine blk_drewN ?_ _ | refine blk_drew ?_ | refine blk_alloc ?_ _)); exact wA.out) : p := h
theorem q5_8 {p : Prop} (h : p := by (with_reducible repeat (first | refine blk_drewN ?_ _ | refine blk_drew ?_ | refine blk_alloc ?_ _)); refine blk_far ?_ zA.out _; (with_reducible repeat (first | refine blk_drewN ?_ _ | refine blk_drew ?_ | refine blk_alloc ?_ _)); exact eA.out) : p := h
theorem q5_9 {p : Prop} (h : p := by (with_reducible repeat (first | refine blk_drewN ?_ _ | refine blk_drew ?_ | refine blk_alloc ?_ _)); refine blk_far ?_ IA.out _; (with_reducible repeat (first | refine blk_drewN ?_ _ | refine blk_drew ?_ | refine blk_alloc ?_ _)); exact DA.out) : p := h
theorem q5_10 {p : Prop} (h : p := by (with_reducible repeat (first | refine blk_drewN ?_ _ | refine blk_drew ?_ | refine blk_alloc ?_ _)); refine blk_far ?_ JA.out _; (with_reducible repeat (first | refine blk_drewN ?_ _ | refine blk_drew ?_ | refine blk_alloc ?_ _)); exact aB.out) : p := h
theorem q5_11 {p : Prop} (h : p := by (with_reducible repeat (first | refine blk_drewN ?_ _ | refine blk_drew ?_ | refine blk_alloc ?_ _)); refine blk_put (cs := #[.int .i64 tA, .int .i64 sA, .int .i64 qA, .int .i64 fA, .int .i64 pA, .int .i64 nA, .int .i64 lA, .int .i64 jA, .int .i64 iA, .bool gA]) ?_ 3 _ rfl; (with_reducible repeat (first | refine blk_drewN ?_ _ | refine blk_drew ?_ | refine blk_alloc ?_ _)); exact bA.out) : p := h
theorem q5_12 {p : Prop} (h : p := by repeat (first | (with_reducible first | exact HB.out | apply below_alloc | apply pw_below_drewN | apply below_drew1 | refine below_set ?_ HC.out | refine below_set ?_ OE.out | refine below_set ?_ XE.out | refine below_set ?_ UF.out) | exact HB.out)) : p := h
theorem q5_13 {p : Prop} (h : p := by rw [hg]; exact Nat.ne_of_lt (blk_lt (g := dA) (o := .cells #[.int .i64 tA, .int .i64 sA, .int .i64 qA, .int .i64 fA, .int .i64 pA, .int .i64 nA, .int .i64 lA, .int .i64 jA, .int .i64 iA, .bool gA] 23 (0, 0)) q5_2)) : p := h
theorem q5_14 {p : Prop} (h : p := by rw [hg]; exact Nat.ne_of_gt (blk_lt (g := dA) (o := .cells #[.int .i64 tA, .int .i64 sA, .int .i64 qA, .int .i64 fA, .int .i64 pA, .int .i64 nA, .int .i64 lA, .int .i64 jA, .int .i64 iA, .bool gA] 23 (0, 0)) q5_2)) : p := h
theorem q5_15 {p : Prop} (h : p := by (with_reducible repeat (first | refine blk_drewN ?_ _ | refine blk_drew ?_ | refine blk_alloc ?_ _)); exact DA.out) : p := h
theorem q5_16 {p : Prop} (h : p := by (with_reducible repeat (first | refine blk_drewN ?_ _ | refine blk_drew ?_ | refine blk_alloc ?_ _)); refine blk_put (cs := #[.slice none 0 0]) ?_ 0 _ rfl; (with_reducible repeat (first | refine blk_drewN ?_ _ | refine blk_drew ?_ | refine blk_alloc ?_ _)); exact aB.out) : p := h
theorem q5_17 {p : Prop} (h : p := by (with_reducible repeat (first | apply Kd.R_alloc | apply Kd.R_drewN | apply Kd.R_drew)); exact Kd.R_mono (Kd.R_far (p := ⟨bB, 0, none⟩) (Kd.R_types PE.out aB.out (by decide)) (fun _ hk => hk.2) (.slice CB fB.length DB)) (fun _ hk => trivial)) : p := h
theorem q5_18 {p : Prop} (h : p := by (with_reducible repeat (first | refine blk_drewN ?_ _ | refine blk_drew ?_ | refine blk_alloc ?_ _)); refine blk_far ?_ GB.out _; (with_reducible repeat (first | refine blk_drewN ?_ _ | refine blk_drew ?_ | refine blk_alloc ?_ _)); exact vA.out) : p := h
theorem q5_19 {p : Prop} (h : p := by (with_reducible repeat (first | refine blk_drewN ?_ _ | refine blk_drew ?_ | refine blk_alloc ?_ _)); refine blk_far ?_ VA.out _; (with_reducible repeat (first | refine blk_drewN ?_ _ | refine blk_drew ?_ | refine blk_alloc ?_ _)); exact bA.out) : p := h
theorem q5_20 {p : Prop} (h : p := by (with_reducible repeat (first | refine blk_drewN ?_ _ | refine blk_drew ?_ | refine blk_alloc ?_ _)); refine blk_far ?_ kB.out _; (with_reducible repeat (first | refine blk_drewN ?_ _ | refine blk_drew ?_ | refine blk_alloc ?_ _)); exact wA.out) : p := h
theorem q5_21 {p : Prop} (h : p := by (with_reducible repeat (first | refine blk_drewN ?_ _ | refine blk_drew ?_ | refine blk_alloc ?_ _)); refine blk_far ?_ lB.out _; (with_reducible repeat (first | refine blk_drewN ?_ _ | refine blk_drew ?_ | refine blk_alloc ?_ _)); exact eA.out) : p := h
theorem q5_22 {p : Prop} (h : p := by (with_reducible repeat (first | refine blk_drewN ?_ _ | refine blk_drew ?_ | refine blk_alloc ?_ _)); refine blk_far ?_ IC.out _; (with_reducible repeat (first | refine blk_drewN ?_ _ | refine blk_drew ?_ | refine blk_alloc ?_ _)); exact DA.out) : p := h
theorem q5_23 {p : Prop} (h : p := by repeat (first | (with_reducible first | exact HB.out | apply below_alloc | apply pw_below_drewN | apply below_drew1 | refine below_set ?_ HC.out | refine below_set ?_ OE.out | refine below_set ?_ XE.out) | exact HB.out)) : p := h
theorem q5_24 {p : Prop} (h : p := by rw [hg]; exact Nat.ne_of_lt (blk_lt (g := FA) (o := .cells #[.slice hB cB.length iB] 29 (0, 0)) q5_1)) : p := h
theorem q5_25 {p : Prop} (h : p := by rw [hg]; exact Nat.ne_of_gt (blk_lt (g := FA) (o := .cells #[.slice hB cB.length iB] 29 (0, 0)) q5_1)) : p := h
theorem q5_26 {p : Prop} (h : p := by (iterate 10 ((with_reducible repeat (first | refine blk_drewN ?_ _ | refine blk_drew ?_ | refine blk_alloc ?_ _)); refine blk_far ?_ IB.out _)); (with_reducible repeat (first | refine blk_drewN ?_ _ | refine blk_drew ?_ | refine blk_alloc ?_ _)); refine blk_put (cs := #[.slice none 0 0]) ?_ 0 _ rfl; (with_reducible repeat (first | refine blk_drewN ?_ _ | refine blk_drew ?_ | refine blk_alloc ?_ _)); exact wA.out) : p := h
theorem q5_27 {p : Prop} (h : p := by (try simp only [List.map_toArray, List.map_cons, List.map_nil]); first | done | rfl | (simp only [List.length_drop, List.length_take]; rfl)) : p := h
theorem q5_28 {p : Prop} (h : p := by repeat (first | (with_reducible first | exact HB.out | apply below_alloc | apply pw_below_drewN | apply below_drew1 | refine below_set ?_ HC.out | refine below_set ?_ OE.out) | exact HB.out)) : p := h
theorem q5_29 {p : Prop} (h : p := by (with_reducible repeat (first | apply Kd.R_alloc | apply Kd.R_drewN | apply Kd.R_drew)); exact Kd.R_mono (hl5_sets (Kd.R_types mA.out bA.out (by decide))) (fun _ hk => trivial)) : p := h
theorem q5_30 {p : Prop} (h : p := by (with_reducible repeat (first | refine blk_drewN ?_ _ | refine blk_drew ?_ | refine blk_alloc ?_ _)); exact aB.out) : p := h
theorem q5_31 {p : Prop} (h : p := by repeat (first | (with_reducible first | exact HB.out | apply below_alloc | apply pw_below_drewN | apply below_drew1 | refine below_set ?_ HC.out) | exact HB.out)) : p := h
theorem q5_32 {p : Prop} (h : p := by (with_reducible repeat (first | apply Kd.R_alloc | apply Kd.R_drewN | apply Kd.R_drew)); exact mA.out) : p := h
theorem q5_33 {p : Prop} (h : p := by (iterate 10 ((with_reducible repeat (first | refine blk_drewN ?_ _ | refine blk_drew ?_ | refine blk_alloc ?_ _)); refine blk_far ?_ EA.out _)); (with_reducible repeat (first | refine blk_drewN ?_ _ | refine blk_drew ?_ | refine blk_alloc ?_ _)); exact vA.out) : p := h
theorem q5_34 {p : Prop} (h : p := by (iterate 10 ((with_reducible repeat (first | refine blk_drewN ?_ _ | refine blk_drew ?_ | refine blk_alloc ?_ _)); refine blk_far ?_ yA.out _)); (with_reducible repeat (first | refine blk_drewN ?_ _ | refine blk_drew ?_ | refine blk_alloc ?_ _)); exact wA.out) : p := h
theorem q5_35 {p : Prop} (h : p := by (iterate 10 ((with_reducible repeat (first | refine blk_drewN ?_ _ | refine blk_drew ?_ | refine blk_alloc ?_ _)); refine blk_far ?_ zA.out _)); (with_reducible repeat (first | refine blk_drewN ?_ _ | refine blk_drew ?_ | refine blk_alloc ?_ _)); exact eA.out) : p := h
theorem q5_36 {p : Prop} (h : p := by (iterate 10 ((with_reducible repeat (first | refine blk_drewN ?_ _ | refine blk_drew ?_ | refine blk_alloc ?_ _)); refine blk_far ?_ IA.out _)); (with_reducible repeat (first | refine blk_drewN ?_ _ | refine blk_drew ?_ | refine blk_alloc ?_ _)); exact DA.out) : p := h
theorem q5_37 {p : Prop} (h : p := by (iterate 10 ((with_reducible repeat (first | refine blk_drewN ?_ _ | refine blk_drew ?_ | refine blk_alloc ?_ _)); refine blk_far ?_ JA.out _)); (with_reducible repeat (first | refine blk_drewN ?_ _ | refine blk_drew ?_ | refine blk_alloc ?_ _)); exact aB.out) : p := h
theorem q5_38 {p : Prop} (h : p := by first | rfl | (simp; done) | (simp [*]; done)) : p := h
theorem q5_39 {p : Prop} (h : p := by (with_reducible repeat (first | apply Kd.R_alloc | apply Kd.R_drewN | apply Kd.R_drew)); exact Kd.R_mono (Kd.R_far (p := ⟨dA, 3, none⟩) (Kd.R_types mA.out bA.out (by decide)) (fun _ hk => hk.2) (.int .i64 (wrap64 (fA + 1)))) (fun _ hk => trivial)) : p := h
theorem q5_40 {p : Prop} (h : p := by repeat (first | (with_reducible first | exact HB.out | apply below_alloc | apply pw_below_drewN | apply below_drew1) | exact HB.out)) : p := h
theorem q5_41 {p : Prop} (h : p := by rw [hg]; exact Nat.ne_of_lt (blk_lt (g := cA) (o := .cells #[.int .i64 0, .int .i64 0, .int .i64 0, .int .i64 0, .int .i64 0, .int .i64 0, .int .i64 0, .int .i64 0, .int .i64 0, .bool false] 23 (0, 0)) q5_5)) : p := h
theorem q5_42 {p : Prop} (h : p := by rw [hg]; exact Nat.ne_of_gt (blk_lt (g := cA) (o := .cells #[.int .i64 0, .int .i64 0, .int .i64 0, .int .i64 0, .int .i64 0, .int .i64 0, .int .i64 0, .int .i64 0, .int .i64 0, .bool false] 23 (0, 0)) q5_5)) : p := h
/-! ### spec_RiStep: function 42 -/
mutual
def spec_RiStep.j0 : Nat → Int → Bool → Int → Int → Int → Int → Int → Int → Int → Int → Int → Bool → List Int → Option (List Int × Int × Int × Int × Int × Int × Int × Int × Int × Int × Bool × Bool)
 | 0, _, _, _, _, _, _, _, _, _, _, _, _, _ => none
 | k + 1, x12, x42, LA, NA, OA, CA, WA, PA, QA, RA, XA, SA, TA => if x42 = true then (some (([] : List Int), 0, 0, 0, 0, 0, 0, 0, 0, 0, false, false)) else (if CA = 0 then (spec_RiStep.j3 k LA NA OA (wrap64 (CA + 1)) x12 PA QA RA XA SA TA) else (if CA = 1 then ((spec_l04Seen.f k LA NA OA (wrap64 (CA + 1)) WA PA QA RA XA SA x12).bind fun vB => (spec_RiStep.j3 k vB.1 vB.2.1 vB.2.2.1 vB.2.2.2.1 vB.2.2.2.2.1 vB.2.2.2.2.2.1 vB.2.2.2.2.2.2.1 vB.2.2.2.2.2.2.2.1 vB.2.2.2.2.2.2.2.2.1 vB.2.2.2.2.2.2.2.2.2 TA)) else (if CA = 2 then (spec_RiStep.j1 k x12 CA (x12 == 0) LA NA OA (wrap64 (CA + 1)) WA PA QA RA XA SA TA) else (spec_RiStep.j1 k x12 CA false LA NA OA (wrap64 (CA + 1)) WA PA QA RA XA SA TA))))
def spec_RiStep.j3 : Nat → Int → Int → Int → Int → Int → Int → Int → Int → Int → Bool → List Int → Option (List Int × Int × Int × Int × Int × Int × Int × Int × Int × Int × Bool × Bool)
 | 0, _, _, _, _, _, _, _, _, _, _, _ => none
 | k + 1, LA, NA, OA, CA, WA, PA, QA, RA, XA, SA, TA => some (TA, LA, NA, OA, CA, WA, PA, QA, RA, XA, SA, true)
def spec_RiStep.j1 : Nat → Int → Int → Bool → Int → Int → Int → Int → Int → Int → Int → Int → Int → Bool → List Int → Option (List Int × Int × Int × Int × Int × Int × Int × Int × Int × Int × Bool × Bool)
 | 0, _, _, _, _, _, _, _, _, _, _, _, _, _, _ => none
 | k + 1, x12, x14, x61, LA, NA, OA, CA, WA, PA, QA, RA, XA, SA, TA => if x61 = true then (spec_RiStep.j3 k LA NA OA 0 WA PA QA RA XA SA TA) else (if x14 = 3 then (spec_RiStep.j2 k x12 x14 (LA == 2) LA NA OA CA WA PA QA RA XA SA TA) else (spec_RiStep.j2 k x12 x14 false LA NA OA CA WA PA QA RA XA SA TA))
def spec_RiStep.j2 : Nat → Int → Int → Bool → Int → Int → Int → Int → Int → Int → Int → Int → Int → Bool → List Int → Option (List Int × Int × Int × Int × Int × Int × Int × Int × Int × Int × Bool × Bool)
 | 0, _, _, _, _, _, _, _, _, _, _, _, _, _, _ => none
 | k + 1, x12, x14, x69, LA, NA, OA, CA, WA, PA, QA, RA, XA, SA, TA => if x69 = true then (spec_RiStep.j3 k LA NA OA CA WA PA QA RA x12 SA TA) else (if x14 = 4 then ((spec_l03End.f LA NA OA CA WA PA QA RA XA SA 1).bind fun wB => (spec_RiStep.j3 k wB.1 wB.2.1 wB.2.2.1 wB.2.2.2.1 wB.2.2.2.2.1 wB.2.2.2.2.2.1 wB.2.2.2.2.2.2.1 wB.2.2.2.2.2.2.2.1 wB.2.2.2.2.2.2.2.2.1 wB.2.2.2.2.2.2.2.2.2 TA)) else (spec_RiStep.j3 k LA NA OA CA WA PA QA RA XA SA TA))
end
def spec_RiStep.f (k : Nat) (a0 : Int) (cB : List Int) (tA : Int) (sA : Int) (qA : Int) (fA : Int) (pA : Int) (nA : Int) (lA : Int) (jA : Int) (iA : Int) (gA : Bool) : Option (List Int × Int × Int × Int × Int × Int × Int × Int × Int × Int × Bool × Bool) := (spec_RiAct.f k a0 tA sA qA fA pA nA lA jA iA gA).bind fun jB => ((spec_Do.f cB jB.1 jB.2.1 jB.2.2.1 jB.2.2.2.1).bind fun gB => (if jB.2.2.2.2 = true then (if gB.2.2 = true then (spec_RiStep.j0 k gB.2.1 ((cB.length : Int) != (wrap64 (2 + (wrap64 (2 * a0))))) tA sA qA fA pA nA lA jA iA gA gB.1) else (spec_RiStep.j0 k gB.2.1 true tA sA qA fA pA nA lA jA iA gA gB.1)) else (spec_RiStep.j0 k gB.2.1 true tA sA qA fA pA nA lA jA iA gA gB.1)))
theorem spec_RiStep.mono_l : ∀ k, (∀ y0 y1 y2 y3 y4 y5 y6 y7 y8 y9 y10 y11 y12, LeO (spec_RiStep.j0 k y0 y1 y2 y3 y4 y5 y6 y7 y8 y9 y10 y11 y12) (spec_RiStep.j0 (k + 1) y0 y1 y2 y3 y4 y5 y6 y7 y8 y9 y10 y11 y12)) ∧ (∀ y0 y1 y2 y3 y4 y5 y6 y7 y8 y9 y10, LeO (spec_RiStep.j3 k y0 y1 y2 y3 y4 y5 y6 y7 y8 y9 y10) (spec_RiStep.j3 (k + 1) y0 y1 y2 y3 y4 y5 y6 y7 y8 y9 y10)) ∧ (∀ y0 y1 y2 y3 y4 y5 y6 y7 y8 y9 y10 y11 y12 y13, LeO (spec_RiStep.j1 k y0 y1 y2 y3 y4 y5 y6 y7 y8 y9 y10 y11 y12 y13) (spec_RiStep.j1 (k + 1) y0 y1 y2 y3 y4 y5 y6 y7 y8 y9 y10 y11 y12 y13)) ∧ (∀ y0 y1 y2 y3 y4 y5 y6 y7 y8 y9 y10 y11 y12 y13, LeO (spec_RiStep.j2 k y0 y1 y2 y3 y4 y5 y6 y7 y8 y9 y10 y11 y12 y13) (spec_RiStep.j2 (k + 1) y0 y1 y2 y3 y4 y5 y6 y7 y8 y9 y10 y11 y12 y13))
 | 0 => ⟨fun _ _ _ _ _ _ _ _ _ _ _ _ _ r h => by simp [spec_RiStep.j0] at h, fun _ _ _ _ _ _ _ _ _ _ _ r h => by simp [spec_RiStep.j3] at h, fun _ _ _ _ _ _ _ _ _ _ _ _ _ _ r h => by simp [spec_RiStep.j1] at h, fun _ _ _ _ _ _ _ _ _ _ _ _ _ _ r h => by simp [spec_RiStep.j2] at h⟩
 | k + 1 => by
  obtain ⟨ih0, ih1, ih2, ih3⟩ := spec_RiStep.mono_l k
  refine ⟨?_, ?_, ?_, ?_⟩
  ·intro y0 y1 y2 y3 y4 y5 y6 y7 y8 y9 y10 y11 y12
   unfold spec_RiStep.j0
   repeat' first
   | (with_reducible exact ih0 _ _ _ _ _ _ _ _ _ _ _ _ _)
   | (with_reducible exact ih1 _ _ _ _ _ _ _ _ _ _ _)
   | (with_reducible exact ih2 _ _ _ _ _ _ _ _ _ _ _ _ _ _)
   | (with_reducible exact ih3 _ _ _ _ _ _ _ _ _ _ _ _ _ _)
   | (with_reducible exact spec_RiAct.mono _ _ _ _ _ _ _ _ _ _ _ _)
   | (with_reducible exact spec_l04Seen.mono _ _ _ _ _ _ _ _ _ _ _ _)
   | (with_reducible exact LeO.refl _)
   | (with_reducible exact LeO.none _)
   | (with_reducible refine LeO.ite ?_ ?_)
   | (with_reducible refine LeO.bind ?_ (fun _ => ?_))
   | exact ih0 _ _ _ _ _ _ _ _ _ _ _ _ _
   | exact ih1 _ _ _ _ _ _ _ _ _ _ _
   | exact ih2 _ _ _ _ _ _ _ _ _ _ _ _ _ _
   | exact ih3 _ _ _ _ _ _ _ _ _ _ _ _ _ _
   | exact spec_RiAct.mono _ _ _ _ _ _ _ _ _ _ _ _
   | exact spec_l04Seen.mono _ _ _ _ _ _ _ _ _ _ _ _
   | exact LeO.none _
   | refine LeO.ite ?_ ?_
   | refine LeO.bind ?_ (fun _ => ?_)
  ·intro y0 y1 y2 y3 y4 y5 y6 y7 y8 y9 y10
   unfold spec_RiStep.j3
   repeat' first
   | (with_reducible exact ih0 _ _ _ _ _ _ _ _ _ _ _ _ _)
   | (with_reducible exact ih1 _ _ _ _ _ _ _ _ _ _ _)
   | (with_reducible exact ih2 _ _ _ _ _ _ _ _ _ _ _ _ _ _)
   | (with_reducible exact ih3 _ _ _ _ _ _ _ _ _ _ _ _ _ _)
   | (with_reducible exact spec_RiAct.mono _ _ _ _ _ _ _ _ _ _ _ _)
   | (with_reducible exact spec_l04Seen.mono _ _ _ _ _ _ _ _ _ _ _ _)
   | (with_reducible exact LeO.refl _)
   | (with_reducible exact LeO.none _)
   | (with_reducible refine LeO.ite ?_ ?_)
   | (with_reducible refine LeO.bind ?_ (fun _ => ?_))
   | exact ih0 _ _ _ _ _ _ _ _ _ _ _ _ _
   | exact ih1 _ _ _ _ _ _ _ _ _ _ _
   | exact ih2 _ _ _ _ _ _ _ _ _ _ _ _ _ _
   | exact ih3 _ _ _ _ _ _ _ _ _ _ _ _ _ _
   | exact spec_RiAct.mono _ _ _ _ _ _ _ _ _ _ _ _
   | exact spec_l04Seen.mono _ _ _ _ _ _ _ _ _ _ _ _
   | exact LeO.none _
   | refine LeO.ite ?_ ?_
   | refine LeO.bind ?_ (fun _ => ?_)
  ·intro y0 y1 y2 y3 y4 y5 y6 y7 y8 y9 y10 y11 y12 y13
   unfold spec_RiStep.j1
   repeat' first
   | (with_reducible exact ih0 _ _ _ _ _ _ _ _ _ _ _ _ _)
   | (with_reducible exact ih1 _ _ _ _ _ _ _ _ _ _ _)
   | (with_reducible exact ih2 _ _ _ _ _ _ _ _ _ _ _ _ _ _)
   | (with_reducible exact ih3 _ _ _ _ _ _ _ _ _ _ _ _ _ _)
   | (with_reducible exact spec_RiAct.mono _ _ _ _ _ _ _ _ _ _ _ _)
   | (with_reducible exact spec_l04Seen.mono _ _ _ _ _ _ _ _ _ _ _ _)
   | (with_reducible exact LeO.refl _)
   | (with_reducible exact LeO.none _)
   | (with_reducible refine LeO.ite ?_ ?_)
   | (with_reducible refine LeO.bind ?_ (fun _ => ?_))
   | exact ih0 _ _ _ _ _ _ _ _ _ _ _ _ _
   | exact ih1 _ _ _ _ _ _ _ _ _ _ _
   | exact ih2 _ _ _ _ _ _ _ _ _ _ _ _ _ _
   | exact ih3 _ _ _ _ _ _ _ _ _ _ _ _ _ _
   | exact spec_RiAct.mono _ _ _ _ _ _ _ _ _ _ _ _
   | exact spec_l04Seen.mono _ _ _ _ _ _ _ _ _ _ _ _
   | exact LeO.none _
   | refine LeO.ite ?_ ?_
   | refine LeO.bind ?_ (fun _ => ?_)
  ·intro y0 y1 y2 y3 y4 y5 y6 y7 y8 y9 y10 y11 y12 y13
   unfold spec_RiStep.j2
   repeat' first
   | (with_reducible exact ih0 _ _ _ _ _ _ _ _ _ _ _ _ _)
   | (with_reducible exact ih1 _ _ _ _ _ _ _ _ _ _ _)
   | (with_reducible exact ih2 _ _ _ _ _ _ _ _ _ _ _ _ _ _)
   | (with_reducible exact ih3 _ _ _ _ _ _ _ _ _ _ _ _ _ _)
   | (with_reducible exact spec_RiAct.mono _ _ _ _ _ _ _ _ _ _ _ _)
   | (with_reducible exact spec_l04Seen.mono _ _ _ _ _ _ _ _ _ _ _ _)
   | (with_reducible exact LeO.refl _)
   | (with_reducible exact LeO.none _)
   | (with_reducible refine LeO.ite ?_ ?_)
   | (with_reducible refine LeO.bind ?_ (fun _ => ?_))
   | exact ih0 _ _ _ _ _ _ _ _ _ _ _ _ _
   | exact ih1 _ _ _ _ _ _ _ _ _ _ _
   | exact ih2 _ _ _ _ _ _ _ _ _ _ _ _ _ _
   | exact ih3 _ _ _ _ _ _ _ _ _ _ _ _ _ _
   | exact spec_RiAct.mono _ _ _ _ _ _ _ _ _ _ _ _
   | exact spec_l04Seen.mono _ _ _ _ _ _ _ _ _ _ _ _
   | exact LeO.none _
   | refine LeO.ite ?_ ?_
   | refine LeO.bind ?_ (fun _ => ?_)
theorem spec_RiStep.mono : ∀ a0 a1 a2 a3 a4 a5 a6 a7 a8 a9 a10 a11 k, LeO (spec_RiStep.f k a0 a1 a2 a3 a4 a5 a6 a7 a8 a9 a10 a11) (spec_RiStep.f (k + 1) a0 a1 a2 a3 a4 a5 a6 a7 a8 a9 a10 a11) := by
 intro a0 a1 a2 a3 a4 a5 a6 a7 a8 a9 a10 a11 k
 obtain ⟨ih0, ih1, ih2, ih3⟩ := spec_RiStep.mono_l k
 unfold spec_RiStep.f
 repeat' first
   | (with_reducible exact ih0 _ _ _ _ _ _ _ _ _ _ _ _ _)
   | (with_reducible exact ih1 _ _ _ _ _ _ _ _ _ _ _)
   | (with_reducible exact ih2 _ _ _ _ _ _ _ _ _ _ _ _ _ _)
   | (with_reducible exact ih3 _ _ _ _ _ _ _ _ _ _ _ _ _ _)
   | (with_reducible exact spec_RiAct.mono _ _ _ _ _ _ _ _ _ _ _ _)
   | (with_reducible exact spec_l04Seen.mono _ _ _ _ _ _ _ _ _ _ _ _)
   | (with_reducible exact LeO.refl _)
   | (with_reducible exact LeO.none _)
   | (with_reducible refine LeO.ite ?_ ?_)
   | (with_reducible refine LeO.bind ?_ (fun _ => ?_))
   | exact ih0 _ _ _ _ _ _ _ _ _ _ _ _ _
   | exact ih1 _ _ _ _ _ _ _ _ _ _ _
   | exact ih2 _ _ _ _ _ _ _ _ _ _ _ _ _ _
   | exact ih3 _ _ _ _ _ _ _ _ _ _ _ _ _ _
   | exact spec_RiAct.mono _ _ _ _ _ _ _ _ _ _ _ _
   | exact spec_l04Seen.mono _ _ _ _ _ _ _ _ _ _ _ _
   | exact LeO.none _
   | refine LeO.ite ?_ ?_
   | refine LeO.bind ?_ (fun _ => ?_)
set_option maxHeartbeats 8000000 in
set_option maxRecDepth 100000 in
theorem spec_RiStep.calls (k : Nat) (a0 : Int) (hB : Option Addr) (iB : Nat) (cB : List Int) (tA : Int) (sA : Int) (qA : Int) (fA : Int) (pA : Int) (nA : Int) (lA : Int) (jA : Int) (iA : Int) (gA : Bool) (r1 : List Int) (r2 : Int) (r3 : Int) (r4 : Int) (r5 : Int) (r6 : Int) (r7 : Int) (r8 : Int) (r9 : Int) (r10 : Int) (r11 : Bool) (r12 : Bool) (w : World) (sH : Kd.C (Kd.int .i64) w hB cB.length cB) (tH : cB.length ≤ iB) (h : spec_RiStep.f k a0 cB tA sA qA fA pA nA lA jA iA gA = some (r1, r2, r3, r4, r5, r6, r7, r8, r9, r10, r11, r12)) :
  Calls Try.prog 42 #[.int .i64 a0, .agg #[.slice hB cB.length iB], .agg #[.int .i64 tA, .int .i64 sA, .int .i64 qA, .int .i64 fA, .int .i64 pA, .int .i64 nA, .int .i64 lA, .int .i64 jA, .int .i64 iA, .bool gA]] w fun e w' => ∃ v0_ : Value, e = .returned (.tuple #[.agg #[v0_], .agg #[.int .i64 r2, .int .i64 r3, .int .i64 r4, .int .i64 r5, .int .i64 r6, .int .i64 r7, .int .i64 r8, .int .i64 r9, .int .i64 r10, .bool r11], .bool r12]) ∧ Kd.R (Kd.int .i64) 3 w' w.heap.size (fun _ => True) v0_ r1 ∧ Below w.heap.size w w' := by
 have hu29 := Try.underlying29
 have hu23 := Try.underlying23
 have hu37 := Try.underlying37
 have xH := Aside0.mk sH
 have yH := Aside0.mk tH
 clear sH tH
 have HB := Aside0.mk (Below.refl w.heap.size w)
 have H : ((spec_RiAct.f k a0 tA sA qA fA pA nA lA jA iA gA).bind fun jB => ((spec_Do.f cB jB.1 jB.2.1 jB.2.2.1 jB.2.2.2.1).bind fun gB => (if jB.2.2.2.2 = true then (if gB.2.2 = true then (spec_RiStep.j0 k gB.2.1 ((cB.length : Int) != (wrap64 (2 + (wrap64 (2 * a0))))) tA sA qA fA pA nA lA jA iA gA gB.1) else (spec_RiStep.j0 k gB.2.1 true tA sA qA fA pA nA lA jA iA gA gB.1)) else (spec_RiStep.j0 k gB.2.1 true tA sA qA fA pA nA lA jA iA gA gB.1)))) = some (r1, r2, r3, r4, r5, r6, r7, r8, r9, r10, r11, r12) := h
 clear h
 replace H := Option.bind_eq_some_iff.mp H
 obtain ⟨⟨uB, BB, EB, JB, zH⟩, A40, H⟩ := H
 (try dsimp only at H)
 have A4 := Aside0.mk A40
 clear A40
 replace H := Option.bind_eq_some_iff.mp H
 obtain ⟨⟨fB, DC, AH⟩, A50, H⟩ := H
 (try dsimp only at H)
 have A5 := Aside0.mk A50
 clear A50
 have HC6 := Aside0.mk H
 clear H
 go_enter Try.func42, Try.ntmps42
 go_upto_region 3 with (first | ((with_reducible refine gate_dst (N := 4) rfl ?_); (try (refine gate_guard (by rfl) ?_; dsimp only)); refine box_event ?hg (N := 4) ?hd (cs := #[.slice hB cB.length iB]) (t := 29) ?hr ?_; (case hd => rfl); (case hg => rfl); (case hr => first | (go_simp; done) | (go_simp; rfl)); intro FA hg w7 hbox hb; have xB := Aside0.mk (below_step q5_40 hb); have yB := Aside0.mk (hbox); have zB := Aside0.mk ((by rw [hg]; exact (below_size q5_40) : w.heap.size ≤ FA)); have AB := Aside0.mk ((by rw [hg]; exact (below_size q5_40) : w.heap.size ≤ FA)); clear HB; have HB := xB; have vA := yB; have yI := zB; have HC := AB; clear xB yB zB AB; clear hb hbox hg) | ((with_reducible refine gate_dst (N := 5) rfl ?_); (try (refine gate_guard (by rfl) ?_; dsimp only)); refine box_event ?hg (N := 5) ?hd (cs := #[.int .i64 tA, .int .i64 sA, .int .i64 qA, .int .i64 fA, .int .i64 pA, .int .i64 nA, .int .i64 lA, .int .i64 jA, .int .i64 iA, .bool gA]) (t := 23) ?hr ?_; (case hd => rfl); (case hg => rfl); (case hr => first | (go_simp; done) | (go_simp; rfl)); intro dA hg w8 hbox hb; have xB := Aside0.mk (blk_below (g := FA) (o := .cells #[.slice hB cB.length iB] 29 (0, 0)) q5_1 hb); have yB := Aside0.mk (below_step q5_31 hb); have zB := Aside0.mk (hbox); have AB := Aside0.mk ((by rw [hg]; exact (below_size q5_31) : w.heap.size ≤ dA)); have FB := Aside0.mk ((by rw [hg]; exact (below_size q5_31) : w.heap.size ≤ dA)); have NB := Aside0.mk ((q5_24 : FA ≠ dA)); have OB := Aside0.mk ((q5_25 : dA ≠ FA)); clear vA HB; have vA := xB; have HB := yB; have bA := zB; have zI := AB; have OE := FB; have EA := NB; have YA := OB; clear xB yB zB AB FB NB OB; clear hb hbox hg) | ((with_reducible refine gate_dst (N := 6) rfl ?_); (try (refine gate_guard (by rfl) ?_; dsimp only)); refine box_event ?hg (N := 6) ?hd (cs := #[.slice none 0 0]) (t := 29) ?hr ?_; (case hd => rfl); (case hg => rfl); (case hr => first | (go_simp; done) | (go_simp; rfl)); intro kA hg w9 hbox hb; have xB := Aside0.mk (blk_below (g := FA) (o := .cells #[.slice hB cB.length iB] 29 (0, 0)) q5_1 hb); have yB := Aside0.mk (blk_below (g := dA) (o := .cells #[.int .i64 tA, .int .i64 sA, .int .i64 qA, .int .i64 fA, .int .i64 pA, .int .i64 nA, .int .i64 lA, .int .i64 jA, .int .i64 iA, .bool gA] 23 (0, 0)) q5_2 hb); have zB := Aside0.mk (below_step q5_28 hb); have AB := Aside0.mk (hbox); have FB := Aside0.mk ((by rw [hg]; exact (below_size q5_28) : w.heap.size ≤ kA)); have NB := Aside0.mk ((by rw [hg]; exact (below_size q5_28) : w.heap.size ≤ kA)); have OB := Aside0.mk ((q5_24 : FA ≠ kA)); have JC := Aside0.mk ((q5_25 : kA ≠ FA)); have VF := Aside0.mk ((q5_13 : dA ≠ kA)); have WF := Aside0.mk ((q5_14 : kA ≠ dA)); clear vA bA HB; have vA := xB; have bA := yB; have HB := zB; have wA := AB; have AI := FB; have XE := NB; have mB := OB; have nB := JC; have hA := VF; have yA := WF; clear xB yB zB AB FB NB OB JC VF WF; clear hb hbox hg) | ((with_reducible refine gate_dst (N := 7) rfl ?_); (try (refine gate_guard (by rfl) ?_; dsimp only)); refine box_event ?hg (N := 7) ?hd (cs := #[.int .i64 0, .int .i64 0, .int .i64 0, .int .i64 0, .int .i64 0, .int .i64 0, .int .i64 0, .int .i64 0, .int .i64 0, .bool false]) (t := 23) ?hr ?_; (case hd => rfl); (case hg => rfl); (case hr => first | (go_simp; done) | (go_simp; rfl)); intro cA hg nH hbox hb; have xB := Aside0.mk (blk_below (g := FA) (o := .cells #[.slice hB cB.length iB] 29 (0, 0)) q5_1 hb); have yB := Aside0.mk (blk_below (g := dA) (o := .cells #[.int .i64 tA, .int .i64 sA, .int .i64 qA, .int .i64 fA, .int .i64 pA, .int .i64 nA, .int .i64 lA, .int .i64 jA, .int .i64 iA, .bool gA] 23 (0, 0)) q5_2 hb); have zB := Aside0.mk (blk_below (g := kA) (o := .cells #[.slice none 0 0] 29 (0, 0)) q5_3 hb); have AB := Aside0.mk (below_step q5_23 hb); have FB := Aside0.mk (hbox); have NB := Aside0.mk ((by rw [hg]; exact (below_size q5_23) : w.heap.size ≤ cA)); have OB := Aside0.mk ((by rw [hg]; exact (below_size q5_23) : w.heap.size ≤ cA)); have JC := Aside0.mk ((q5_24 : FA ≠ cA)); have VF := Aside0.mk ((q5_25 : cA ≠ FA)); have WF := Aside0.mk ((q5_13 : dA ≠ cA)); have QE := Aside0.mk ((q5_14 : cA ≠ dA)); have RE := Aside0.mk ((by rw [hg]; exact Nat.ne_of_lt (blk_lt (g := kA) (o := .cells #[.slice none 0 0] 29 (0, 0)) q5_3) : kA ≠ cA)); have SE := Aside0.mk ((by rw [hg]; exact Nat.ne_of_gt (blk_lt (g := kA) (o := .cells #[.slice none 0 0] 29 (0, 0)) q5_3) : cA ≠ kA)); clear vA bA wA HB; have vA := xB; have bA := yB; have wA := zB; have HB := AB; have eA := FB; have BI := NB; have UF := OB; have oB := JC; have pB := VF; have aA := WF; have zA := QE; have IB := RE; have qB := SE; clear xB yB zB AB FB NB OB JC VF WF QE RE SE; clear hb hbox hg; have CI := YA.out; have DI := EA.out; have EI := hA.out; have FI := yA.out; have GI := aA.out; have HI := zA.out; have RB : nH.cell? ⟨dA, 0, none⟩ = some (.int .i64 tA) := (blk_cell bA.out 0).trans rfl; have SB : nH.cell? ⟨dA, 1, none⟩ = some (.int .i64 sA) := (blk_cell bA.out 1).trans rfl; have TB : nH.cell? ⟨dA, 2, none⟩ = some (.int .i64 qA) := (blk_cell bA.out 2).trans rfl; have UB : nH.cell? ⟨dA, 3, none⟩ = some (.int .i64 fA) := (blk_cell bA.out 3).trans rfl; have VB : nH.cell? ⟨dA, 4, none⟩ = some (.int .i64 pA) := (blk_cell bA.out 4).trans rfl; have WB : nH.cell? ⟨dA, 5, none⟩ = some (.int .i64 nA) := (blk_cell bA.out 5).trans rfl; have XB : nH.cell? ⟨dA, 6, none⟩ = some (.int .i64 lA) := (blk_cell bA.out 6).trans rfl; have YB : nH.cell? ⟨dA, 7, none⟩ = some (.int .i64 jA) := (blk_cell bA.out 7).trans rfl; have ZB : nH.cell? ⟨dA, 8, none⟩ = some (.int .i64 iA) := (blk_cell bA.out 8).trans rfl; have aC : nH.cell? ⟨dA, 9, none⟩ = some (.bool gA) := (blk_cell bA.out 9).trans rfl; have bC := blk_frozen bA.out 0; have cC := blk_frozen bA.out 1; have dC := blk_frozen bA.out 2; have eC := blk_frozen bA.out 3; have fC := blk_frozen bA.out 4; have gC := blk_frozen bA.out 5; have hC := blk_frozen bA.out 6; have iC := blk_frozen bA.out 7; have jC := blk_frozen bA.out 8; have kC := blk_frozen bA.out 9) | ((with_reducible refine gate_callee (f := 40) rfl ?_); refine goesL_ (some 18) rfl rfl Try.func40 (by kernel_rfl) rfl #[.int .i64 a0, .agg #[.int .i64 tA, .int .i64 sA, .int .i64 qA, .int .i64 fA, .int .i64 pA, .int .i64 nA, .int .i64 lA, .int .i64 jA, .int .i64 iA, .bool gA]] rfl q5_27 ?_; (with_reducible refine (spec_RiAct.calls k a0 tA sA qA fA pA nA lA jA iA gA uB BB EB JB zH _ A4.out).mono ?_); rintro e dL ⟨rfl, hb⟩; refine ⟨_, rfl, ?_⟩; have xB := Aside0.mk (blk_below (g := FA) (o := .cells #[.slice hB cB.length iB] 29 (0, 0)) q5_1 hb); have yB := Aside0.mk (blk_below (g := dA) (o := .cells #[.int .i64 tA, .int .i64 sA, .int .i64 qA, .int .i64 fA, .int .i64 pA, .int .i64 nA, .int .i64 lA, .int .i64 jA, .int .i64 iA, .bool gA] 23 (0, 0)) q5_2 hb); have zB := Aside0.mk (blk_below (g := kA) (o := .cells #[.slice none 0 0] 29 (0, 0)) q5_3 hb); have AB := Aside0.mk (blk_below (g := cA) (o := .cells #[.int .i64 0, .int .i64 0, .int .i64 0, .int .i64 0, .int .i64 0, .int .i64 0, .int .i64 0, .int .i64 0, .int .i64 0, .bool false] 23 (0, 0)) q5_5 hb); have FB := Aside0.mk (below_step q5_12 hb); clear vA bA wA eA HB; have vA := xB; have bA := yB; have wA := zB; have eA := AB; have HB := FB; clear xB yB zB AB FB; (try clear hb); (try clear hb2); (try clear hk); (try clear hi)) | ((with_reducible refine gate_dst (N := 9) rfl ?_); (try (refine gate_guard (by rfl) ?_; dsimp only)); refine box_event ?hg (N := 9) ?hd (cs := #[.int .i64 0, .int .i64 0, .int .i64 0, .int .i64 0]) (t := 37) ?hr ?_; (case hd => rfl); (case hg => rfl); (case hr => first | (go_simp; done) | (go_simp; rfl)); intro KA hg BH hbox hb; have xB := Aside0.mk (blk_below (g := FA) (o := .cells #[.slice hB cB.length iB] 29 (0, 0)) q5_1 hb); have yB := Aside0.mk (blk_below (g := dA) (o := .cells #[.int .i64 tA, .int .i64 sA, .int .i64 qA, .int .i64 fA, .int .i64 pA, .int .i64 nA, .int .i64 lA, .int .i64 jA, .int .i64 iA, .bool gA] 23 (0, 0)) q5_2 hb); have zB := Aside0.mk (blk_below (g := kA) (o := .cells #[.slice none 0 0] 29 (0, 0)) q5_3 hb); have AB := Aside0.mk (blk_below (g := cA) (o := .cells #[.int .i64 0, .int .i64 0, .int .i64 0, .int .i64 0, .int .i64 0, .int .i64 0, .int .i64 0, .int .i64 0, .int .i64 0, .bool false] 23 (0, 0)) q5_5 hb); have FB := Aside0.mk (below_step q5_12 hb); have NB := Aside0.mk (hbox); have OB := Aside0.mk ((by rw [hg]; exact (below_size q5_12) : w.heap.size ≤ KA)); have JC := Aside0.mk ((by rw [hg]; exact (below_size q5_12) : w.heap.size ≤ KA)); have VF := Aside0.mk ((q5_24 : FA ≠ KA)); have WF := Aside0.mk ((q5_25 : KA ≠ FA)); have QE := Aside0.mk ((q5_13 : dA ≠ KA)); have RE := Aside0.mk ((q5_14 : KA ≠ dA)); have SE := Aside0.mk ((by rw [hg]; exact Nat.ne_of_lt (blk_lt (g := kA) (o := .cells #[.slice none 0 0] 29 (0, 0)) q5_3) : kA ≠ KA)); have XF := Aside0.mk ((by rw [hg]; exact Nat.ne_of_gt (blk_lt (g := kA) (o := .cells #[.slice none 0 0] 29 (0, 0)) q5_3) : KA ≠ kA)); have YF := Aside0.mk ((q5_41 : cA ≠ KA)); have ZF := Aside0.mk ((q5_42 : KA ≠ cA)); clear vA bA wA eA HB; have vA := xB; have bA := yB; have wA := zB; have eA := AB; have HB := FB; have DA := NB; have II := OB; have rH := JC; have KB := VF; have KC := WF; have ZA := QE; have IA := RE; have rB := SE; have LB := XF; have sB := YF; have MB := ZF; clear xB yB zB AB FB NB OB JC VF WF QE RE SE XF YF ZF; clear hb hbox hg; have JI := KC.out; have KI := KB.out; have LI := IA.out; have MI := ZA.out; have NI := LB.out; have OI := rB.out; have PI := MB.out; have QI := sB.out; have lC : BH.cell? ⟨KA, 0, none⟩ = some (.int .i64 0) := (blk_cell DA.out 0).trans rfl; have mC : BH.cell? ⟨KA, 1, none⟩ = some (.int .i64 0) := (blk_cell DA.out 1).trans rfl; have nC : BH.cell? ⟨KA, 2, none⟩ = some (.int .i64 0) := (blk_cell DA.out 2).trans rfl; have oC : BH.cell? ⟨KA, 3, none⟩ = some (.int .i64 0) := (blk_cell DA.out 3).trans rfl; have pC := blk_frozen DA.out 0; have qC := blk_frozen DA.out 1; have rC := blk_frozen DA.out 2; have sC := blk_frozen DA.out 3; have RI := mB.out; have SI := nB.out; have TI := oB.out; have UI := pB.out; have tC : BH.cell? ⟨FA, 0, none⟩ = some (.slice hB cB.length iB) := (blk_cell vA.out 0).trans rfl; have uC := blk_frozen vA.out 0) | ((with_reducible refine gate_callee (f := 64) rfl ?_); refine goesL_ (some 24) rfl rfl Try.func64 (by kernel_rfl) rfl #[.agg #[.slice hB cB.length iB], .agg #[.int .i64 uB, .int .i64 BB, .int .i64 EB, .int .i64 JB]] rfl q5_27 ?_; (with_reducible refine (spec_Do.calls _ _ cB uB BB EB JB fB DC AH _ ?side1 ?side2 A5.out).mono ?_); (case side1 => exact Kd.C_below xH.out q5_4); (case side2 => exact yH.out); rintro e eL ⟨bL, rfl, ho0, hb⟩; refine ⟨_, rfl, ?_⟩; have xB := Aside0.mk (Kd.R_lower ho0 (below_size q5_4)); have yB := Aside0.mk (blk_below (g := FA) (o := .cells #[.slice hB cB.length iB] 29 (0, 0)) (by (iterate 4 ((with_reducible repeat (first | refine blk_drewN ?_ _ | refine blk_drew ?_ | refine blk_alloc ?_ _)); refine blk_far ?_ KB.out _)); (with_reducible repeat (first | refine blk_drewN ?_ _ | refine blk_drew ?_ | refine blk_alloc ?_ _)); exact vA.out) hb); have zB := Aside0.mk (blk_below (g := dA) (o := .cells #[.int .i64 tA, .int .i64 sA, .int .i64 qA, .int .i64 fA, .int .i64 pA, .int .i64 nA, .int .i64 lA, .int .i64 jA, .int .i64 iA, .bool gA] 23 (0, 0)) (by (iterate 4 ((with_reducible repeat (first | refine blk_drewN ?_ _ | refine blk_drew ?_ | refine blk_alloc ?_ _)); refine blk_far ?_ ZA.out _)); (with_reducible repeat (first | refine blk_drewN ?_ _ | refine blk_drew ?_ | refine blk_alloc ?_ _)); exact bA.out) hb); have AB := Aside0.mk (blk_below (g := kA) (o := .cells #[.slice none 0 0] 29 (0, 0)) (by (iterate 4 ((with_reducible repeat (first | refine blk_drewN ?_ _ | refine blk_drew ?_ | refine blk_alloc ?_ _)); refine blk_far ?_ rB.out _)); (with_reducible repeat (first | refine blk_drewN ?_ _ | refine blk_drew ?_ | refine blk_alloc ?_ _)); exact wA.out) hb); have FB := Aside0.mk (blk_below (g := cA) (o := .cells #[.int .i64 0, .int .i64 0, .int .i64 0, .int .i64 0, .int .i64 0, .int .i64 0, .int .i64 0, .int .i64 0, .int .i64 0, .bool false] 23 (0, 0)) (by (iterate 4 ((with_reducible repeat (first | refine blk_drewN ?_ _ | refine blk_drew ?_ | refine blk_alloc ?_ _)); refine blk_far ?_ sB.out _)); (with_reducible repeat (first | refine blk_drewN ?_ _ | refine blk_drew ?_ | refine blk_alloc ?_ _)); exact eA.out) hb); have NB := Aside0.mk (blk_below (g := KA) (o := .cells #[.int .i64 uB, .int .i64 BB, .int .i64 EB, .int .i64 JB] 37 (0, 0)) (by (with_reducible repeat (first | refine blk_drewN ?_ _ | refine blk_drew ?_ | refine blk_alloc ?_ _)); refine blk_put (cs := #[.int .i64 uB, .int .i64 BB, .int .i64 EB, .int .i64 0]) ?_ 3 _ rfl; (with_reducible repeat (first | refine blk_drewN ?_ _ | refine blk_drew ?_ | refine blk_alloc ?_ _)); refine blk_put (cs := #[.int .i64 uB, .int .i64 BB, .int .i64 0, .int .i64 0]) ?_ 2 _ rfl; (with_reducible repeat (first | refine blk_drewN ?_ _ | refine blk_drew ?_ | refine blk_alloc ?_ _)); refine blk_put (cs := #[.int .i64 uB, .int .i64 0, .int .i64 0, .int .i64 0]) ?_ 1 _ rfl; (with_reducible repeat (first | refine blk_drewN ?_ _ | refine blk_drew ?_ | refine blk_alloc ?_ _)); refine blk_put (cs := #[.int .i64 0, .int .i64 0, .int .i64 0, .int .i64 0]) ?_ 0 _ rfl; (with_reducible repeat (first | refine blk_drewN ?_ _ | refine blk_drew ?_ | refine blk_alloc ?_ _)); exact DA.out) hb); have OB := Aside0.mk (below_step q5_4 hb); clear vA bA wA eA DA HB; have PE := xB; have vA := yB; have bA := zB; have wA := AB; have eA := FB; have DA := NB; have HB := OB; clear xB yB zB AB FB NB OB; (try clear hb); (try clear hb2); (try clear hk); (try clear hi); (try clear ho0)) | ((with_reducible refine gate_dst (N := 11) rfl ?_); (try (refine gate_guard (by rfl) ?_; dsimp only)); refine box_event ?hg (N := 11) ?hd (cs := #[.slice none 0 0]) (t := 29) ?hr ?_; (case hd => rfl); (case hg => rfl); (case hr => first | (go_simp; done) | (go_simp; rfl)); intro bB hg VI hbox hb; have xB := Aside0.mk (Kd.R_below (by (with_reducible repeat (first | apply Kd.R_alloc | apply Kd.R_drewN | apply Kd.R_drew)); exact PE.out) hb); have yB := Aside0.mk (blk_below (g := FA) (o := .cells #[.slice hB cB.length iB] 29 (0, 0)) q5_1 hb); have zB := Aside0.mk (blk_below (g := dA) (o := .cells #[.int .i64 tA, .int .i64 sA, .int .i64 qA, .int .i64 fA, .int .i64 pA, .int .i64 nA, .int .i64 lA, .int .i64 jA, .int .i64 iA, .bool gA] 23 (0, 0)) q5_2 hb); have AB := Aside0.mk (blk_below (g := kA) (o := .cells #[.slice none 0 0] 29 (0, 0)) q5_3 hb); have FB := Aside0.mk (blk_below (g := cA) (o := .cells #[.int .i64 0, .int .i64 0, .int .i64 0, .int .i64 0, .int .i64 0, .int .i64 0, .int .i64 0, .int .i64 0, .int .i64 0, .bool false] 23 (0, 0)) q5_5 hb); have NB := Aside0.mk (blk_below (g := KA) (o := .cells #[.int .i64 uB, .int .i64 BB, .int .i64 EB, .int .i64 JB] 37 (0, 0)) q5_15 hb); have OB := Aside0.mk (below_step q5_4 hb); have JC := Aside0.mk (hbox); have VF := Aside0.mk ((by rw [hg]; exact (below_size q5_4) : w.heap.size ≤ bB)); have WF := Aside0.mk ((by rw [hg]; exact (below_size q5_4) : w.heap.size ≤ bB)); have QE := Aside0.mk ((q5_24 : FA ≠ bB)); have RE := Aside0.mk ((q5_25 : bB ≠ FA)); have SE := Aside0.mk ((q5_13 : dA ≠ bB)); have XF := Aside0.mk ((q5_14 : bB ≠ dA)); have YF := Aside0.mk ((by rw [hg]; exact Nat.ne_of_lt (blk_lt (g := kA) (o := .cells #[.slice none 0 0] 29 (0, 0)) q5_3) : kA ≠ bB)); have ZF := Aside0.mk ((by rw [hg]; exact Nat.ne_of_gt (blk_lt (g := kA) (o := .cells #[.slice none 0 0] 29 (0, 0)) q5_3) : bB ≠ kA)); have CH := Aside0.mk ((q5_41 : cA ≠ bB)); have DH := Aside0.mk ((q5_42 : bB ≠ cA)); have EH := Aside0.mk ((by rw [hg]; exact Nat.ne_of_lt (blk_lt (g := KA) (o := .cells #[.int .i64 uB, .int .i64 BB, .int .i64 EB, .int .i64 JB] 37 (0, 0)) q5_15) : KA ≠ bB)); have FH := Aside0.mk ((by rw [hg]; exact Nat.ne_of_gt (blk_lt (g := KA) (o := .cells #[.int .i64 uB, .int .i64 BB, .int .i64 EB, .int .i64 JB] 37 (0, 0)) q5_15) : bB ≠ KA)); clear PE vA bA wA eA DA HB; have PE := xB; have vA := yB; have bA := zB; have wA := AB; have eA := FB; have DA := NB; have HB := OB; have aB := JC; have WI := VF; have wH := WF; have GB := QE; have LC := RE; have VA := SE; have JA := XF; have kB := YF; have tB := ZF; have lB := CH; have AA := DH; have IC := EH; have RF := FH; clear xB yB zB AB FB NB OB JC VF WF QE RE SE XF YF ZF CH DH EH FH; clear hb hbox hg; obtain ⟨CB, DB, aI⟩ := Kd.R_slice PE.out; subst aI; have XI := LC.out; have YI := GB.out; have ZI := JA.out; have aJ := VA.out; have bJ := tB.out; have cJ := kB.out; have dJ := AA.out; have eJ := lB.out; have fJ := RF.out; have gJ := IC.out; have vC : VI.cell? ⟨bB, 0, none⟩ = some (.slice none 0 0) := (blk_cell aB.out 0).trans rfl; have wC := blk_frozen aB.out 0))
 (try simp only [Act.put, List.setIfInBounds_toArray, List.set_cons_zero, List.set_cons_succ])
 go_cut [42] (fun v42 wc => ∃ (kq : Nat) (YE : Bool), v42 = .bool YE ∧ Aside0 (spec_RiStep.j0 kq DC YE tA sA qA fA pA nA lA jA iA gA fB = some (r1, r2, r3, r4, r5, r6, r7, r8, r9, r10, r11, r12)) ∧ Aside0 (kq ≤ k) ∧ Aside0 (Kd.R (Kd.int .i64) 3 wc w.heap.size (fun _ => True) (.slice CB fB.length DB) fB) ∧ Aside0 (wc.heap[FA]? = some (.cells #[(.slice hB cB.length iB)] 29 (0, 0))) ∧ Aside0 (wc.heap[dA]? = some (.cells #[.int .i64 tA, .int .i64 sA, .int .i64 qA, .int .i64 fA, .int .i64 pA, .int .i64 nA, .int .i64 lA, .int .i64 jA, .int .i64 iA, .bool gA] 23 (0, 0))) ∧ Aside0 (wc.heap[kA]? = some (.cells #[(.slice none 0 0)] 29 (0, 0))) ∧ Aside0 (wc.heap[cA]? = some (.cells #[.int .i64 0, .int .i64 0, .int .i64 0, .int .i64 0, .int .i64 0, .int .i64 0, .int .i64 0, .int .i64 0, .int .i64 0, .bool false] 23 (0, 0))) ∧ Aside0 (wc.heap[KA]? = some (.cells #[.int .i64 uB, .int .i64 BB, .int .i64 EB, .int .i64 JB] 37 (0, 0))) ∧ Aside0 (wc.heap[bB]? = some (.cells #[(.slice CB fB.length DB)] 29 (0, 0))) ∧ Aside0 (Below w.heap.size w wc))
 case first =>
  have H := HC6.out
  clear HC6
  by_cases c34 : zH = true
  ·subst c34
   rw [if_pos rfl] at H
   by_cases c35 : AH = true
   ·subst c35
    rw [if_pos rfl] at H
    have H' := Aside0.mk H
    clear H
    have hJ := EA.out
    have iJ := YA.out
    have jJ := mB.out
    have kJ := nB.out
    have lJ := oB.out
    have mJ := pB.out
    have nJ := KB.out
    have oJ := KC.out
    have pJ := GB.out
    have qJ := LC.out
    have xC : VI.cell? ⟨FA, 0, none⟩ = some (.slice hB cB.length iB) := (blk_cell vA.out 0).trans rfl
    have yC := blk_frozen vA.out 0
    go_wp2
    go_meet
    case rel => exact ⟨_, (((cB.length : Int) != (wrap64 (2 + (wrap64 (2 * a0)))))), q5_38, H', ⟨by first | omega | exact Nat.le_refl _⟩, ⟨q5_17⟩, ⟨q5_18⟩, ⟨q5_19⟩, ⟨q5_20⟩, ⟨q5_21⟩, ⟨q5_22⟩, ⟨q5_16⟩, ⟨q5_0⟩⟩
   ·replace c35 := Bool.eq_false_iff.mpr c35
    subst c35
    rw [if_neg (show ¬ (false = true) by decide)] at H
    have H' := Aside0.mk H
    clear H
    go_wp2
    go_meet
    case rel => exact ⟨_, (true), q5_38, H', ⟨by first | omega | exact Nat.le_refl _⟩, ⟨q5_17⟩, ⟨q5_18⟩, ⟨q5_19⟩, ⟨q5_20⟩, ⟨q5_21⟩, ⟨q5_22⟩, ⟨q5_16⟩, ⟨q5_0⟩⟩
  ·replace c34 := Bool.eq_false_iff.mpr c34
   subst c34
   rw [if_neg (show ¬ (false = true) by decide)] at H
   have H' := Aside0.mk H
   clear H
   go_wp2
   go_meet
   case rel => exact ⟨_, (true), q5_38, H', ⟨by first | omega | exact Nat.le_refl _⟩, ⟨q5_17⟩, ⟨q5_18⟩, ⟨q5_19⟩, ⟨q5_20⟩, ⟨q5_21⟩, ⟨q5_22⟩, ⟨q5_16⟩, ⟨q5_0⟩⟩
 case rest =>
  clear HC6
  (try clear c1); (try clear c2); (try clear p2); (try clear c3); (try clear c4); (try clear c6); (try clear p6); (try clear c11); (try clear c12); (try clear c13); (try clear c17); (try clear c18); (try clear c19); (try clear c20); (try clear c22); (try clear c23); (try clear c28); (try clear c29); (try clear c30); (try clear c31); (try clear c32); (try clear c34); (try clear c35); (try clear c36); (try clear c37); (try clear c38); (try clear c39); (try clear c40); (try clear RB); (try clear SB); (try clear TB); (try clear UB); (try clear VB); (try clear WB); (try clear XB); (try clear YB); (try clear ZB); (try clear aC); (try clear lC); (try clear mC); (try clear nC); (try clear oC); (try clear tC); (try clear vC); (try clear xC); (try clear bC); (try clear cC); (try clear dC); (try clear eC); (try clear fC); (try clear gC); (try clear hC); (try clear iC); (try clear jC); (try clear kC); (try clear pC); (try clear qC); (try clear rC); (try clear sC); (try clear uC); (try clear wC); (try clear yC)
  obtain ⟨kq, YE, rfl, HA, HJ5, mA, vA, bA, wA, eA, DA, aB, HB⟩ := hcut
  cases kq with
  | zero => exact absurd HA.out (by simp [spec_RiStep.j0])
  | succ kj5 =>
   have H := HA.out
   clear HA
   simp only [spec_RiStep.j0] at H
   by_cases c42 : YE = true
   ·subst c42
    rw [if_pos rfl] at H
    simp only [Option.some.injEq, Prod.mk.injEq] at H
    obtain ⟨rfl, rfl, rfl, rfl, rfl, rfl, rfl, rfl, rfl, rfl, rfl, rfl⟩ := H
    have rJ := nB.out
    have sJ := mB.out
    have tJ := yA.out
    have uJ := hA.out
    have vJ := IB.out
    have wJ := qB.out
    have xJ := rB.out
    have yJ := LB.out
    have zJ := kB.out
    have AJ := tB.out
    have MC : wc.cell? ⟨kA, 0, none⟩ = some (.slice none 0 0) := (blk_cell wA.out 0).trans rfl
    have NC := blk_frozen wA.out 0
    have BJ := pB.out
    have CJ := oB.out
    have DJ := zA.out
    have EJ := aA.out
    have FJ := sB.out
    have GJ := MB.out
    have HJ := lB.out
    have IJ := AA.out
    have OC : wc.cell? ⟨cA, 0, none⟩ = some (.int .i64 0) := (blk_cell eA.out 0).trans rfl
    have PC : wc.cell? ⟨cA, 1, none⟩ = some (.int .i64 0) := (blk_cell eA.out 1).trans rfl
    have QC : wc.cell? ⟨cA, 2, none⟩ = some (.int .i64 0) := (blk_cell eA.out 2).trans rfl
    have RC : wc.cell? ⟨cA, 3, none⟩ = some (.int .i64 0) := (blk_cell eA.out 3).trans rfl
    have SC : wc.cell? ⟨cA, 4, none⟩ = some (.int .i64 0) := (blk_cell eA.out 4).trans rfl
    have TC : wc.cell? ⟨cA, 5, none⟩ = some (.int .i64 0) := (blk_cell eA.out 5).trans rfl
    have UC : wc.cell? ⟨cA, 6, none⟩ = some (.int .i64 0) := (blk_cell eA.out 6).trans rfl
    have VC : wc.cell? ⟨cA, 7, none⟩ = some (.int .i64 0) := (blk_cell eA.out 7).trans rfl
    have WC : wc.cell? ⟨cA, 8, none⟩ = some (.int .i64 0) := (blk_cell eA.out 8).trans rfl
    have XC : wc.cell? ⟨cA, 9, none⟩ = some (.bool false) := (blk_cell eA.out 9).trans rfl
    have YC := blk_frozen eA.out 0
    have ZC := blk_frozen eA.out 1
    have aD := blk_frozen eA.out 2
    have bD := blk_frozen eA.out 3
    have cD := blk_frozen eA.out 4
    have dD := blk_frozen eA.out 5
    have eD := blk_frozen eA.out 6
    have fD := blk_frozen eA.out 7
    have gD := blk_frozen eA.out 8
    have hD := blk_frozen eA.out 9
    go_wp2
    refine bodyPost_ret (results_list (rs := [.cell 6 29, .cell 7 23, .tmp 8]) rfl (by simp) (.cell kA 29 #[.slice none 0 0] (0, 0) _ rfl q5_26 Try.underlying29 rfl (by kernel_rfl) (.cell cA 23 #[.int .i64 0, .int .i64 0, .int .i64 0, .int .i64 0, .int .i64 0, .int .i64 0, .int .i64 0, .int .i64 0, .int .i64 0, .bool false] (0, 0) _ rfl (by (with_reducible repeat (first | refine blk_drewN ?_ _ | refine blk_drew ?_ | refine blk_alloc ?_ _)); refine blk_put (cs := #[.int .i64 0, .int .i64 0, .int .i64 0, .int .i64 0, .int .i64 0, .int .i64 0, .int .i64 0, .int .i64 0, .int .i64 0, .bool false]) ?_ 9 _ rfl; (with_reducible repeat (first | refine blk_drewN ?_ _ | refine blk_drew ?_ | refine blk_alloc ?_ _)); refine blk_put (cs := #[.int .i64 0, .int .i64 0, .int .i64 0, .int .i64 0, .int .i64 0, .int .i64 0, .int .i64 0, .int .i64 0, .int .i64 0, .bool false]) ?_ 8 _ rfl; (with_reducible repeat (first | refine blk_drewN ?_ _ | refine blk_drew ?_ | refine blk_alloc ?_ _)); refine blk_put (cs := #[.int .i64 0, .int .i64 0, .int .i64 0, .int .i64 0, .int .i64 0, .int .i64 0, .int .i64 0, .int .i64 0, .int .i64 0, .bool false]) ?_ 7 _ rfl; (with_reducible repeat (first | refine blk_drewN ?_ _ | refine blk_drew ?_ | refine blk_alloc ?_ _)); refine blk_put (cs := #[.int .i64 0, .int .i64 0, .int .i64 0, .int .i64 0, .int .i64 0, .int .i64 0, .int .i64 0, .int .i64 0, .int .i64 0, .bool false]) ?_ 6 _ rfl; (with_reducible repeat (first | refine blk_drewN ?_ _ | refine blk_drew ?_ | refine blk_alloc ?_ _)); refine blk_put (cs := #[.int .i64 0, .int .i64 0, .int .i64 0, .int .i64 0, .int .i64 0, .int .i64 0, .int .i64 0, .int .i64 0, .int .i64 0, .bool false]) ?_ 5 _ rfl; (with_reducible repeat (first | refine blk_drewN ?_ _ | refine blk_drew ?_ | refine blk_alloc ?_ _)); refine blk_put (cs := #[.int .i64 0, .int .i64 0, .int .i64 0, .int .i64 0, .int .i64 0, .int .i64 0, .int .i64 0, .int .i64 0, .int .i64 0, .bool false]) ?_ 4 _ rfl; (with_reducible repeat (first | refine blk_drewN ?_ _ | refine blk_drew ?_ | refine blk_alloc ?_ _)); refine blk_put (cs := #[.int .i64 0, .int .i64 0, .int .i64 0, .int .i64 0, .int .i64 0, .int .i64 0, .int .i64 0, .int .i64 0, .int .i64 0, .bool false]) ?_ 3 _ rfl; (with_reducible repeat (first | refine blk_drewN ?_ _ | refine blk_drew ?_ | refine blk_alloc ?_ _)); refine blk_put (cs := #[.int .i64 0, .int .i64 0, .int .i64 0, .int .i64 0, .int .i64 0, .int .i64 0, .int .i64 0, .int .i64 0, .int .i64 0, .bool false]) ?_ 2 _ rfl; (with_reducible repeat (first | refine blk_drewN ?_ _ | refine blk_drew ?_ | refine blk_alloc ?_ _)); refine blk_put (cs := #[.int .i64 0, .int .i64 0, .int .i64 0, .int .i64 0, .int .i64 0, .int .i64 0, .int .i64 0, .int .i64 0, .int .i64 0, .bool false]) ?_ 1 _ rfl; (with_reducible repeat (first | refine blk_drewN ?_ _ | refine blk_drew ?_ | refine blk_alloc ?_ _)); refine blk_put (cs := #[.int .i64 0, .int .i64 0, .int .i64 0, .int .i64 0, .int .i64 0, .int .i64 0, .int .i64 0, .int .i64 0, .int .i64 0, .bool false]) ?_ 0 _ rfl; (with_reducible repeat (first | refine blk_drewN ?_ _ | refine blk_drew ?_ | refine blk_alloc ?_ _)); refine blk_far ?_ qB.out _; (with_reducible repeat (first | refine blk_drewN ?_ _ | refine blk_drew ?_ | refine blk_alloc ?_ _)); exact eA.out) Try.underlying23 rfl (by kernel_rfl) (.tmp .nil)))) rfl ?_
    exact ⟨_, by first | rfl | (simp [errW_none, errW_some] <;> rfl) | (simp [*, errW_none, errW_some] <;> rfl), by first | exact Kd.R_nil _ _ _ _ _ | exact Kd.N_nil _ _ _ _ _ | exact Kd.V_nil _ _ _ _ _ | exact Kd.Q_nil _ _ _ _ _ | exact Kd.S_nil _ _ _ _ _, q5_0⟩
   ·replace c42 := Bool.eq_false_iff.mpr c42
    subst c42
    rw [if_neg (show ¬ (false = true) by decide)] at H
    have HC54 := Aside0.mk H
    clear H
    have JJ := YA.out
    have KJ := EA.out
    have LJ := hA.out
    have MJ := yA.out
    have NJ := aA.out
    have OJ := zA.out
    have PJ := ZA.out
    have QJ := IA.out
    have RJ := VA.out
    have SJ := JA.out
    have iD : wc.cell? ⟨dA, 0, none⟩ = some (.int .i64 tA) := (blk_cell bA.out 0).trans rfl
    have jD : wc.cell? ⟨dA, 1, none⟩ = some (.int .i64 sA) := (blk_cell bA.out 1).trans rfl
    have kD : wc.cell? ⟨dA, 2, none⟩ = some (.int .i64 qA) := (blk_cell bA.out 2).trans rfl
    have lD : wc.cell? ⟨dA, 3, none⟩ = some (.int .i64 fA) := (blk_cell bA.out 3).trans rfl
    have mD : wc.cell? ⟨dA, 4, none⟩ = some (.int .i64 pA) := (blk_cell bA.out 4).trans rfl
    have nD : wc.cell? ⟨dA, 5, none⟩ = some (.int .i64 nA) := (blk_cell bA.out 5).trans rfl
    have oD : wc.cell? ⟨dA, 6, none⟩ = some (.int .i64 lA) := (blk_cell bA.out 6).trans rfl
    have pD : wc.cell? ⟨dA, 7, none⟩ = some (.int .i64 jA) := (blk_cell bA.out 7).trans rfl
    have qD : wc.cell? ⟨dA, 8, none⟩ = some (.int .i64 iA) := (blk_cell bA.out 8).trans rfl
    have rD : wc.cell? ⟨dA, 9, none⟩ = some (.bool gA) := (blk_cell bA.out 9).trans rfl
    have sD := blk_frozen bA.out 0
    have tD := blk_frozen bA.out 1
    have uD := blk_frozen bA.out 2
    have vD := blk_frozen bA.out 3
    have wD := blk_frozen bA.out 4
    have xD := blk_frozen bA.out 5
    have yD := blk_frozen bA.out 6
    have zD := blk_frozen bA.out 7
    have AD := blk_frozen bA.out 8
    have BD := blk_frozen bA.out 9
    go_upto_block 0 with (fail)
    go_cut [] (fun wc => ∃ (kq : Nat) (oA : Int) (rA : Int) (uA : Int) (xA : Int) (BA : Int) (GA : Int) (MA : Int) (UA : Int) (dB : Int) (eB : Bool), Aside0 (spec_RiStep.j3 kq oA rA uA xA BA GA MA UA dB eB fB = some (r1, r2, r3, r4, r5, r6, r7, r8, r9, r10, r11, r12)) ∧ Aside0 (kq ≤ kj5) ∧ Aside0 (Kd.R (Kd.int .i64) 3 wc w.heap.size (fun _ => True) (.slice CB fB.length DB) fB) ∧ Aside0 (wc.heap[FA]? = some (.cells #[(.slice hB cB.length iB)] 29 (0, 0))) ∧ Aside0 (wc.heap[dA]? = some (.cells #[.int .i64 oA, .int .i64 rA, .int .i64 uA, .int .i64 xA, .int .i64 BA, .int .i64 GA, .int .i64 MA, .int .i64 UA, .int .i64 dB, .bool eB] 23 (0, 0))) ∧ Aside0 (wc.heap[kA]? = some (.cells #[(.slice none 0 0)] 29 (0, 0))) ∧ Aside0 (wc.heap[cA]? = some (.cells #[.int .i64 0, .int .i64 0, .int .i64 0, .int .i64 0, .int .i64 0, .int .i64 0, .int .i64 0, .int .i64 0, .int .i64 0, .bool false] 23 (0, 0))) ∧ Aside0 (wc.heap[KA]? = some (.cells #[.int .i64 uB, .int .i64 BB, .int .i64 EB, .int .i64 JB] 37 (0, 0))) ∧ Aside0 (wc.heap[bB]? = some (.cells #[(.slice CB fB.length DB)] 29 (0, 0))) ∧ Aside0 (Below w.heap.size w wc))
    case first =>
     have H := HC54.out
     clear HC54
     by_cases c61 : fA = 0
     ·rw [if_pos c61] at H
      have PB : (fA == 0) = true := beq_iff_eq.mpr c61
      have ZE : (fA != 0) = false := bne_eq_false_iff_eq.mpr c61
      clear c61
      (first | rw [PB] | (simp only [i64_w, i32_w]; rw [PB]) | skip)
      have H' := Aside0.mk H
      clear H
      have TJ := YA.out
      have UJ := EA.out
      have VJ := hA.out
      have WJ := yA.out
      have XJ := aA.out
      have YJ := zA.out
      have ZJ := ZA.out
      have aK := IA.out
      have bK := VA.out
      have cK := JA.out
      have CD : wc.cell? ⟨dA, 0, none⟩ = some (.int .i64 tA) := (blk_cell bA.out 0).trans rfl
      have DD : wc.cell? ⟨dA, 1, none⟩ = some (.int .i64 sA) := (blk_cell bA.out 1).trans rfl
      have ED : wc.cell? ⟨dA, 2, none⟩ = some (.int .i64 qA) := (blk_cell bA.out 2).trans rfl
      have FD : wc.cell? ⟨dA, 3, none⟩ = some (.int .i64 fA) := (blk_cell bA.out 3).trans rfl
      have GD : wc.cell? ⟨dA, 4, none⟩ = some (.int .i64 pA) := (blk_cell bA.out 4).trans rfl
      have HD : wc.cell? ⟨dA, 5, none⟩ = some (.int .i64 nA) := (blk_cell bA.out 5).trans rfl
      have ID : wc.cell? ⟨dA, 6, none⟩ = some (.int .i64 lA) := (blk_cell bA.out 6).trans rfl
      have JD : wc.cell? ⟨dA, 7, none⟩ = some (.int .i64 jA) := (blk_cell bA.out 7).trans rfl
      have KD : wc.cell? ⟨dA, 8, none⟩ = some (.int .i64 iA) := (blk_cell bA.out 8).trans rfl
      have LD : wc.cell? ⟨dA, 9, none⟩ = some (.bool gA) := (blk_cell bA.out 9).trans rfl
      have MD := blk_frozen bA.out 0
      have ND := blk_frozen bA.out 1
      have OD := blk_frozen bA.out 2
      have PD := blk_frozen bA.out 3
      have QD := blk_frozen bA.out 4
      have RD := blk_frozen bA.out 5
      have SD := blk_frozen bA.out 6
      have TD := blk_frozen bA.out 7
      have UD := blk_frozen bA.out 8
      have VD := blk_frozen bA.out 9
      go_wp2
      go_meet
      case rel => exact ⟨_, (tA), (sA), (qA), (wrap64 (fA + 1)), (DC), (nA), (lA), (jA), (iA), (gA), H', ⟨by have := HJ5.out; first | omega | exact Nat.le_refl _⟩, ⟨q5_29⟩, ⟨by (iterate 2 ((with_reducible repeat (first | refine blk_drewN ?_ _ | refine blk_drew ?_ | refine blk_alloc ?_ _)); refine blk_far ?_ EA.out _)); (with_reducible repeat (first | refine blk_drewN ?_ _ | refine blk_drew ?_ | refine blk_alloc ?_ _)); exact vA.out⟩, ⟨by (with_reducible repeat (first | refine blk_drewN ?_ _ | refine blk_drew ?_ | refine blk_alloc ?_ _)); refine blk_put (cs := #[.int .i64 tA, .int .i64 sA, .int .i64 qA, .int .i64 (wrap64 (fA + 1)), .int .i64 pA, .int .i64 nA, .int .i64 lA, .int .i64 jA, .int .i64 iA, .bool gA]) ?_ 4 _ rfl; (with_reducible repeat (first | refine blk_drewN ?_ _ | refine blk_drew ?_ | refine blk_alloc ?_ _)); refine blk_put (cs := #[.int .i64 tA, .int .i64 sA, .int .i64 qA, .int .i64 fA, .int .i64 pA, .int .i64 nA, .int .i64 lA, .int .i64 jA, .int .i64 iA, .bool gA]) ?_ 3 _ rfl; (with_reducible repeat (first | refine blk_drewN ?_ _ | refine blk_drew ?_ | refine blk_alloc ?_ _)); exact bA.out⟩, ⟨by (iterate 2 ((with_reducible repeat (first | refine blk_drewN ?_ _ | refine blk_drew ?_ | refine blk_alloc ?_ _)); refine blk_far ?_ yA.out _)); (with_reducible repeat (first | refine blk_drewN ?_ _ | refine blk_drew ?_ | refine blk_alloc ?_ _)); exact wA.out⟩, ⟨by (iterate 2 ((with_reducible repeat (first | refine blk_drewN ?_ _ | refine blk_drew ?_ | refine blk_alloc ?_ _)); refine blk_far ?_ zA.out _)); (with_reducible repeat (first | refine blk_drewN ?_ _ | refine blk_drew ?_ | refine blk_alloc ?_ _)); exact eA.out⟩, ⟨by (iterate 2 ((with_reducible repeat (first | refine blk_drewN ?_ _ | refine blk_drew ?_ | refine blk_alloc ?_ _)); refine blk_far ?_ IA.out _)); (with_reducible repeat (first | refine blk_drewN ?_ _ | refine blk_drew ?_ | refine blk_alloc ?_ _)); exact DA.out⟩, ⟨by (iterate 2 ((with_reducible repeat (first | refine blk_drewN ?_ _ | refine blk_drew ?_ | refine blk_alloc ?_ _)); refine blk_far ?_ JA.out _)); (with_reducible repeat (first | refine blk_drewN ?_ _ | refine blk_drew ?_ | refine blk_alloc ?_ _)); exact aB.out⟩, ⟨q5_0⟩⟩
     ·rw [if_neg c61] at H
      have PB : (fA == 0) = false := beq_eq_false_iff_ne.mpr c61
      have ZE : (fA != 0) = true := bne_iff_ne.mpr c61
      (first | rw [PB] | (simp only [i64_w, i32_w]; rw [PB]) | skip)
      by_cases c68 : fA = 1
      ·rw [if_pos c68] at H
       have aF : (fA == 1) = true := beq_iff_eq.mpr c68
       have bF : (fA != 1) = false := bne_eq_false_iff_eq.mpr c68
       clear c68
       replace H := Option.bind_eq_some_iff.mp H
       obtain ⟨⟨zC, EC, WD, TE, VE, SF, aG, pH, uH, GH⟩, A690, H⟩ := H
       (try dsimp only at H)
       have A69 := Aside0.mk A690
       clear A690
       have H' := Aside0.mk H
       clear H
       have dK := YA.out
       have eK := EA.out
       have fK := hA.out
       have gK := yA.out
       have iK := aA.out
       have jK := zA.out
       have kK := ZA.out
       have lK := IA.out
       have mK := VA.out
       have nK := JA.out
       have XD : wc.cell? ⟨dA, 0, none⟩ = some (.int .i64 tA) := (blk_cell bA.out 0).trans rfl
       have YD : wc.cell? ⟨dA, 1, none⟩ = some (.int .i64 sA) := (blk_cell bA.out 1).trans rfl
       have ZD : wc.cell? ⟨dA, 2, none⟩ = some (.int .i64 qA) := (blk_cell bA.out 2).trans rfl
       have aE : wc.cell? ⟨dA, 3, none⟩ = some (.int .i64 fA) := (blk_cell bA.out 3).trans rfl
       have bE : wc.cell? ⟨dA, 4, none⟩ = some (.int .i64 pA) := (blk_cell bA.out 4).trans rfl
       have cE : wc.cell? ⟨dA, 5, none⟩ = some (.int .i64 nA) := (blk_cell bA.out 5).trans rfl
       have dE : wc.cell? ⟨dA, 6, none⟩ = some (.int .i64 lA) := (blk_cell bA.out 6).trans rfl
       have eE : wc.cell? ⟨dA, 7, none⟩ = some (.int .i64 jA) := (blk_cell bA.out 7).trans rfl
       have fE : wc.cell? ⟨dA, 8, none⟩ = some (.int .i64 iA) := (blk_cell bA.out 8).trans rfl
       have gE : wc.cell? ⟨dA, 9, none⟩ = some (.bool gA) := (blk_cell bA.out 9).trans rfl
       have hE := blk_frozen bA.out 0
       have iE := blk_frozen bA.out 1
       have jE := blk_frozen bA.out 2
       have kE := blk_frozen bA.out 3
       have lE := blk_frozen bA.out 4
       have mE := blk_frozen bA.out 5
       have nE := blk_frozen bA.out 6
       have oE := blk_frozen bA.out 7
       have pE := blk_frozen bA.out 8
       have qE := blk_frozen bA.out 9
       go_wp2_with (first | ((with_reducible refine gate_callee (f := 78) rfl ?_); refine goesL_ (some 60) rfl rfl Try.func78 (by kernel_rfl) rfl #[.agg #[.int .i64 tA, .int .i64 sA, .int .i64 qA, .int .i64 (wrap64 (fA + 1)), .int .i64 pA, .int .i64 nA, .int .i64 lA, .int .i64 jA, .int .i64 iA, .bool gA], .int .i64 DC] rfl q5_27 ?_; (with_reducible refine (spec_l04Seen.calls kj5 tA sA qA (wrap64 (fA + 1)) pA nA lA jA iA gA DC zC EC WD TE VE SF aG pH uH GH _ A69.out).mono ?_); rintro e oH ⟨rfl, hb⟩; refine ⟨_, rfl, ?_⟩; have xB := Aside0.mk (Kd.R_below (by (with_reducible repeat (first | apply Kd.R_alloc | apply Kd.R_drewN | apply Kd.R_drew)); exact (Kd.R_mono (Kd.R_far (p := ⟨dA, 3, none⟩) (Kd.R_types mA.out bA.out (by decide)) (fun _ hk => hk.2) (.int .i64 (wrap64 (fA + 1)))) (fun _ h_ => h_.1))) hb); have yB := Aside0.mk (blk_below (g := FA) (o := .cells #[.slice hB cB.length iB] 29 (0, 0)) q5_6 hb); have zB := Aside0.mk (blk_below (g := dA) (o := .cells #[.int .i64 tA, .int .i64 sA, .int .i64 qA, .int .i64 (wrap64 (fA + 1)), .int .i64 pA, .int .i64 nA, .int .i64 lA, .int .i64 jA, .int .i64 iA, .bool gA] 23 (0, 0)) q5_11 hb); have AB := Aside0.mk (blk_below (g := kA) (o := .cells #[.slice none 0 0] 29 (0, 0)) q5_7 hb); have FB := Aside0.mk (blk_below (g := cA) (o := .cells #[.int .i64 0, .int .i64 0, .int .i64 0, .int .i64 0, .int .i64 0, .int .i64 0, .int .i64 0, .int .i64 0, .int .i64 0, .bool false] 23 (0, 0)) q5_8 hb); have NB := Aside0.mk (blk_below (g := KA) (o := .cells #[.int .i64 uB, .int .i64 BB, .int .i64 EB, .int .i64 JB] 37 (0, 0)) q5_9 hb); have OB := Aside0.mk (blk_below (g := bB) (o := .cells #[.slice CB fB.length DB] 29 (0, 0)) q5_10 hb); have JC := Aside0.mk (below_step q5_0 hb); clear mA vA bA wA eA DA aB HB; have mA := xB; have vA := yB; have bA := zB; have wA := AB; have eA := FB; have DA := NB; have aB := OB; have HB := JC; clear xB yB zB AB FB NB OB JC; (try clear hb); (try clear hb2); (try clear hk); (try clear hi); have rE : oH.cell? ⟨dA, 0, none⟩ = some (.int .i64 tA) := (blk_cell bA.out 0).trans rfl; have sE : oH.cell? ⟨dA, 1, none⟩ = some (.int .i64 sA) := (blk_cell bA.out 1).trans rfl; have tE : oH.cell? ⟨dA, 2, none⟩ = some (.int .i64 qA) := (blk_cell bA.out 2).trans rfl; have uE : oH.cell? ⟨dA, 3, none⟩ = some (.int .i64 (wrap64 (fA + 1))) := (blk_cell bA.out 3).trans rfl; have vE : oH.cell? ⟨dA, 4, none⟩ = some (.int .i64 pA) := (blk_cell bA.out 4).trans rfl; have wE : oH.cell? ⟨dA, 5, none⟩ = some (.int .i64 nA) := (blk_cell bA.out 5).trans rfl; have xE : oH.cell? ⟨dA, 6, none⟩ = some (.int .i64 lA) := (blk_cell bA.out 6).trans rfl; have yE : oH.cell? ⟨dA, 7, none⟩ = some (.int .i64 jA) := (blk_cell bA.out 7).trans rfl; have zE : oH.cell? ⟨dA, 8, none⟩ = some (.int .i64 iA) := (blk_cell bA.out 8).trans rfl; have AE : oH.cell? ⟨dA, 9, none⟩ = some (.bool gA) := (blk_cell bA.out 9).trans rfl; have BE := blk_frozen bA.out 0; have CE := blk_frozen bA.out 1; have DE := blk_frozen bA.out 2; have EE := blk_frozen bA.out 3; have FE := blk_frozen bA.out 4; have GE := blk_frozen bA.out 5; have HE := blk_frozen bA.out 6; have IE := blk_frozen bA.out 7; have JE := blk_frozen bA.out 8; have KE := blk_frozen bA.out 9))
       go_meet
       case rel => exact ⟨_, (zC), (EC), (WD), (TE), (VE), (SF), (aG), (pH), (uH), (GH), H', ⟨by have := HJ5.out; first | omega | exact Nat.le_refl _⟩, ⟨q5_29⟩, ⟨q5_33⟩, ⟨by (with_reducible repeat (first | refine blk_drewN ?_ _ | refine blk_drew ?_ | refine blk_alloc ?_ _)); refine blk_put (cs := #[.int .i64 zC, .int .i64 EC, .int .i64 WD, .int .i64 TE, .int .i64 VE, .int .i64 SF, .int .i64 aG, .int .i64 pH, .int .i64 uH, .bool gA]) ?_ 9 _ rfl; (with_reducible repeat (first | refine blk_drewN ?_ _ | refine blk_drew ?_ | refine blk_alloc ?_ _)); refine blk_put (cs := #[.int .i64 zC, .int .i64 EC, .int .i64 WD, .int .i64 TE, .int .i64 VE, .int .i64 SF, .int .i64 aG, .int .i64 pH, .int .i64 iA, .bool gA]) ?_ 8 _ rfl; (with_reducible repeat (first | refine blk_drewN ?_ _ | refine blk_drew ?_ | refine blk_alloc ?_ _)); refine blk_put (cs := #[.int .i64 zC, .int .i64 EC, .int .i64 WD, .int .i64 TE, .int .i64 VE, .int .i64 SF, .int .i64 aG, .int .i64 jA, .int .i64 iA, .bool gA]) ?_ 7 _ rfl; (with_reducible repeat (first | refine blk_drewN ?_ _ | refine blk_drew ?_ | refine blk_alloc ?_ _)); refine blk_put (cs := #[.int .i64 zC, .int .i64 EC, .int .i64 WD, .int .i64 TE, .int .i64 VE, .int .i64 SF, .int .i64 lA, .int .i64 jA, .int .i64 iA, .bool gA]) ?_ 6 _ rfl; (with_reducible repeat (first | refine blk_drewN ?_ _ | refine blk_drew ?_ | refine blk_alloc ?_ _)); refine blk_put (cs := #[.int .i64 zC, .int .i64 EC, .int .i64 WD, .int .i64 TE, .int .i64 VE, .int .i64 nA, .int .i64 lA, .int .i64 jA, .int .i64 iA, .bool gA]) ?_ 5 _ rfl; (with_reducible repeat (first | refine blk_drewN ?_ _ | refine blk_drew ?_ | refine blk_alloc ?_ _)); refine blk_put (cs := #[.int .i64 zC, .int .i64 EC, .int .i64 WD, .int .i64 TE, .int .i64 pA, .int .i64 nA, .int .i64 lA, .int .i64 jA, .int .i64 iA, .bool gA]) ?_ 4 _ rfl; (with_reducible repeat (first | refine blk_drewN ?_ _ | refine blk_drew ?_ | refine blk_alloc ?_ _)); refine blk_put (cs := #[.int .i64 zC, .int .i64 EC, .int .i64 WD, .int .i64 (wrap64 (fA + 1)), .int .i64 pA, .int .i64 nA, .int .i64 lA, .int .i64 jA, .int .i64 iA, .bool gA]) ?_ 3 _ rfl; (with_reducible repeat (first | refine blk_drewN ?_ _ | refine blk_drew ?_ | refine blk_alloc ?_ _)); refine blk_put (cs := #[.int .i64 zC, .int .i64 EC, .int .i64 qA, .int .i64 (wrap64 (fA + 1)), .int .i64 pA, .int .i64 nA, .int .i64 lA, .int .i64 jA, .int .i64 iA, .bool gA]) ?_ 2 _ rfl; (with_reducible repeat (first | refine blk_drewN ?_ _ | refine blk_drew ?_ | refine blk_alloc ?_ _)); refine blk_put (cs := #[.int .i64 zC, .int .i64 sA, .int .i64 qA, .int .i64 (wrap64 (fA + 1)), .int .i64 pA, .int .i64 nA, .int .i64 lA, .int .i64 jA, .int .i64 iA, .bool gA]) ?_ 1 _ rfl; (with_reducible repeat (first | refine blk_drewN ?_ _ | refine blk_drew ?_ | refine blk_alloc ?_ _)); refine blk_put (cs := #[.int .i64 tA, .int .i64 sA, .int .i64 qA, .int .i64 (wrap64 (fA + 1)), .int .i64 pA, .int .i64 nA, .int .i64 lA, .int .i64 jA, .int .i64 iA, .bool gA]) ?_ 0 _ rfl; (with_reducible repeat (first | refine blk_drewN ?_ _ | refine blk_drew ?_ | refine blk_alloc ?_ _)); exact bA.out⟩, ⟨q5_34⟩, ⟨q5_35⟩, ⟨q5_36⟩, ⟨q5_37⟩, ⟨q5_0⟩⟩
      ·rw [if_neg c68] at H
       have aF : (fA == 1) = false := beq_eq_false_iff_ne.mpr c68
       have bF : (fA != 1) = true := bne_iff_ne.mpr c68
       have HC78 := Aside0.mk H
       clear H
       go_upto_region 11 with (fail)
       go_cut [61] (fun v61 wc => ∃ (kq : Nat) (LE : Bool), v61 = .bool LE ∧ Aside0 (spec_RiStep.j1 kq DC fA LE tA sA qA (wrap64 (fA + 1)) pA nA lA jA iA gA fB = some (r1, r2, r3, r4, r5, r6, r7, r8, r9, r10, r11, r12)) ∧ Aside0 (kq ≤ kj5) ∧ Aside0 (Kd.R (Kd.int .i64) 3 wc w.heap.size (fun _ => True) (.slice CB fB.length DB) fB) ∧ Aside0 (wc.heap[FA]? = some (.cells #[(.slice hB cB.length iB)] 29 (0, 0))) ∧ Aside0 (wc.heap[dA]? = some (.cells #[.int .i64 tA, .int .i64 sA, .int .i64 qA, .int .i64 (wrap64 (fA + 1)), .int .i64 pA, .int .i64 nA, .int .i64 lA, .int .i64 jA, .int .i64 iA, .bool gA] 23 (0, 0))) ∧ Aside0 (wc.heap[kA]? = some (.cells #[(.slice none 0 0)] 29 (0, 0))) ∧ Aside0 (wc.heap[cA]? = some (.cells #[.int .i64 0, .int .i64 0, .int .i64 0, .int .i64 0, .int .i64 0, .int .i64 0, .int .i64 0, .int .i64 0, .int .i64 0, .bool false] 23 (0, 0))) ∧ Aside0 (wc.heap[KA]? = some (.cells #[.int .i64 uB, .int .i64 BB, .int .i64 EB, .int .i64 JB] 37 (0, 0))) ∧ Aside0 (wc.heap[bB]? = some (.cells #[(.slice CB fB.length DB)] 29 (0, 0))) ∧ Aside0 (Below w.heap.size w wc))
       case first =>
        have H := HC78.out
        clear HC78
        by_cases c79 : fA = 2
        ·rw [if_pos c79] at H
         have QB : (fA == 2) = true := beq_iff_eq.mpr c79
         have cF : (fA != 2) = false := bne_eq_false_iff_eq.mpr c79
         clear c79
         (first | rw [QB] | (simp only [i64_w, i32_w]; rw [QB]) | skip)
         have H' := Aside0.mk H
         clear H
         go_wp2
         go_meet
         case rel => exact ⟨_, ((DC == 0)), q5_38, H', ⟨by have := HJ5.out; first | omega | exact Nat.le_refl _⟩, ⟨q5_39⟩, ⟨q5_6⟩, ⟨q5_11⟩, ⟨q5_7⟩, ⟨q5_8⟩, ⟨q5_9⟩, ⟨q5_10⟩, ⟨q5_0⟩⟩
        ·rw [if_neg c79] at H
         have QB : (fA == 2) = false := beq_eq_false_iff_ne.mpr c79
         have cF : (fA != 2) = true := bne_iff_ne.mpr c79
         (first | rw [QB] | (simp only [i64_w, i32_w]; rw [QB]) | skip)
         have H' := Aside0.mk H
         clear H
         go_wp2
         go_meet
         case rel => exact ⟨_, (false), q5_38, H', ⟨by have := HJ5.out; first | omega | exact Nat.le_refl _⟩, ⟨q5_39⟩, ⟨q5_6⟩, ⟨q5_11⟩, ⟨q5_7⟩, ⟨q5_8⟩, ⟨q5_9⟩, ⟨q5_10⟩, ⟨q5_0⟩⟩
       case rest =>
        clear HC78
        (try clear c1); (try clear c2); (try clear p2); (try clear c3); (try clear c4); (try clear c5); (try clear c6); (try clear p6); (try clear c7); (try clear c11); (try clear c12); (try clear c13); (try clear c17); (try clear c18); (try clear c19); (try clear c20); (try clear c22); (try clear c23); (try clear c28); (try clear c29); (try clear c30); (try clear c31); (try clear c32); (try clear c34); (try clear c35); (try clear c36); (try clear c37); (try clear c38); (try clear c39); (try clear c40); (try clear c42); (try clear c43); (try clear c44); (try clear c45); (try clear c46); (try clear c47); (try clear c49); (try clear c50); (try clear c51); (try clear c52); (try clear c55); (try clear c56); (try clear c57); (try clear c58); (try clear c59); (try clear c61); (try clear PB); (try clear ZE); (try clear c62); (try clear c63); (try clear c64); (try clear p64); (try clear c65); (try clear c66); (try clear c68); (try clear aF); (try clear bF); (try clear c70); (try clear c71); (try clear c72); (try clear c73); (try clear c74); (try clear c78); (try clear c79); (try clear QB); (try clear cF); (try clear RB); (try clear SB); (try clear TB); (try clear UB); (try clear VB); (try clear WB); (try clear XB); (try clear YB); (try clear ZB); (try clear aC); (try clear lC); (try clear mC); (try clear nC); (try clear oC); (try clear tC); (try clear vC); (try clear xC); (try clear MC); (try clear OC); (try clear PC); (try clear QC); (try clear RC); (try clear SC); (try clear TC); (try clear UC); (try clear VC); (try clear WC); (try clear XC); (try clear iD); (try clear jD); (try clear kD); (try clear lD); (try clear mD); (try clear nD); (try clear oD); (try clear pD); (try clear qD); (try clear rD); (try clear CD); (try clear DD); (try clear ED); (try clear FD); (try clear GD); (try clear HD); (try clear ID); (try clear JD); (try clear KD); (try clear LD); (try clear XD); (try clear YD); (try clear ZD); (try clear aE); (try clear bE); (try clear cE); (try clear dE); (try clear eE); (try clear fE); (try clear gE); (try clear rE); (try clear sE); (try clear tE); (try clear uE); (try clear vE); (try clear wE); (try clear xE); (try clear yE); (try clear zE); (try clear AE); (try clear bC); (try clear cC); (try clear dC); (try clear eC); (try clear fC); (try clear gC); (try clear hC); (try clear iC); (try clear jC); (try clear kC); (try clear pC); (try clear qC); (try clear rC); (try clear sC); (try clear uC); (try clear wC); (try clear yC); (try clear NC); (try clear YC); (try clear ZC); (try clear aD); (try clear bD); (try clear cD); (try clear dD); (try clear eD); (try clear fD); (try clear gD); (try clear hD); (try clear sD); (try clear tD); (try clear uD); (try clear vD); (try clear wD); (try clear xD); (try clear yD); (try clear zD); (try clear AD); (try clear BD); (try clear MD); (try clear ND); (try clear OD); (try clear PD); (try clear QD); (try clear RD); (try clear SD); (try clear TD); (try clear UD); (try clear VD); (try clear hE); (try clear iE); (try clear jE); (try clear kE); (try clear lE); (try clear mE); (try clear nE); (try clear oE); (try clear pE); (try clear qE); (try clear BE); (try clear CE); (try clear DE); (try clear EE); (try clear FE); (try clear GE); (try clear HE); (try clear IE); (try clear JE); (try clear KE); (try clear p2); (try clear p6)
        obtain ⟨kq, LE, rfl, HA, HJ77, mA, vA, bA, wA, eA, DA, aB, HB⟩ := hcut
        cases kq with
        | zero => exact absurd HA.out (by simp [spec_RiStep.j1])
        | succ kj77 =>
         have H := HA.out
         clear HA
         simp only [spec_RiStep.j1] at H
         by_cases c80 : LE = true
         ·subst c80
          rw [if_pos rfl] at H
          have H' := Aside0.mk H
          clear H
          have oK := YA.out
          have pK := EA.out
          have qK := hA.out
          have rK := yA.out
          have sK := aA.out
          have tK := zA.out
          have uK := ZA.out
          have vK := IA.out
          have wK := VA.out
          have xK := JA.out
          have dF : wc.cell? ⟨dA, 0, none⟩ = some (.int .i64 tA) := (blk_cell bA.out 0).trans rfl
          have eF : wc.cell? ⟨dA, 1, none⟩ = some (.int .i64 sA) := (blk_cell bA.out 1).trans rfl
          have fF : wc.cell? ⟨dA, 2, none⟩ = some (.int .i64 qA) := (blk_cell bA.out 2).trans rfl
          have gF : wc.cell? ⟨dA, 3, none⟩ = some (.int .i64 (wrap64 (fA + 1))) := (blk_cell bA.out 3).trans rfl
          have hF : wc.cell? ⟨dA, 4, none⟩ = some (.int .i64 pA) := (blk_cell bA.out 4).trans rfl
          have iF : wc.cell? ⟨dA, 5, none⟩ = some (.int .i64 nA) := (blk_cell bA.out 5).trans rfl
          have jF : wc.cell? ⟨dA, 6, none⟩ = some (.int .i64 lA) := (blk_cell bA.out 6).trans rfl
          have kF : wc.cell? ⟨dA, 7, none⟩ = some (.int .i64 jA) := (blk_cell bA.out 7).trans rfl
          have lF : wc.cell? ⟨dA, 8, none⟩ = some (.int .i64 iA) := (blk_cell bA.out 8).trans rfl
          have mF : wc.cell? ⟨dA, 9, none⟩ = some (.bool gA) := (blk_cell bA.out 9).trans rfl
          have nF := blk_frozen bA.out 0
          have oF := blk_frozen bA.out 1
          have pF := blk_frozen bA.out 2
          have qF := blk_frozen bA.out 3
          have rF := blk_frozen bA.out 4
          have sF := blk_frozen bA.out 5
          have tF := blk_frozen bA.out 6
          have uF := blk_frozen bA.out 7
          have vF := blk_frozen bA.out 8
          have wF := blk_frozen bA.out 9
          go_wp2
          go_meet
          case rel => exact ⟨_, (tA), (sA), (qA), (0), (pA), (nA), (lA), (jA), (iA), (gA), H', ⟨by have := HJ5.out; have := HJ77.out; first | omega | exact Nat.le_refl _⟩, ⟨by (with_reducible repeat (first | apply Kd.R_alloc | apply Kd.R_drewN | apply Kd.R_drew)); exact Kd.R_mono (Kd.R_far (p := ⟨dA, 3, none⟩) (Kd.R_types mA.out bA.out (by decide)) (fun _ hk => hk.2) (.int .i64 0)) (fun _ hk => trivial)⟩, ⟨q5_6⟩, ⟨by (with_reducible repeat (first | refine blk_drewN ?_ _ | refine blk_drew ?_ | refine blk_alloc ?_ _)); refine blk_put (cs := #[.int .i64 tA, .int .i64 sA, .int .i64 qA, .int .i64 (wrap64 (fA + 1)), .int .i64 pA, .int .i64 nA, .int .i64 lA, .int .i64 jA, .int .i64 iA, .bool gA]) ?_ 3 _ rfl; (with_reducible repeat (first | refine blk_drewN ?_ _ | refine blk_drew ?_ | refine blk_alloc ?_ _)); exact bA.out⟩, ⟨q5_7⟩, ⟨q5_8⟩, ⟨q5_9⟩, ⟨q5_10⟩, ⟨q5_0⟩⟩
         ·replace c80 := Bool.eq_false_iff.mpr c80
          subst c80
          rw [if_neg (show ¬ (false = true) by decide)] at H
          have HC87 := Aside0.mk H
          clear H
          go_upto_region 13 with (fail)
          go_cut [69] (fun v69 wc => ∃ (kq : Nat) (ME : Bool), v69 = .bool ME ∧ Aside0 (spec_RiStep.j2 kq DC fA ME tA sA qA (wrap64 (fA + 1)) pA nA lA jA iA gA fB = some (r1, r2, r3, r4, r5, r6, r7, r8, r9, r10, r11, r12)) ∧ Aside0 (kq ≤ kj77) ∧ Aside0 (Kd.R (Kd.int .i64) 3 wc w.heap.size (fun _ => True) (.slice CB fB.length DB) fB) ∧ Aside0 (wc.heap[FA]? = some (.cells #[(.slice hB cB.length iB)] 29 (0, 0))) ∧ Aside0 (wc.heap[dA]? = some (.cells #[.int .i64 tA, .int .i64 sA, .int .i64 qA, .int .i64 (wrap64 (fA + 1)), .int .i64 pA, .int .i64 nA, .int .i64 lA, .int .i64 jA, .int .i64 iA, .bool gA] 23 (0, 0))) ∧ Aside0 (wc.heap[kA]? = some (.cells #[(.slice none 0 0)] 29 (0, 0))) ∧ Aside0 (wc.heap[cA]? = some (.cells #[.int .i64 0, .int .i64 0, .int .i64 0, .int .i64 0, .int .i64 0, .int .i64 0, .int .i64 0, .int .i64 0, .int .i64 0, .bool false] 23 (0, 0))) ∧ Aside0 (wc.heap[KA]? = some (.cells #[.int .i64 uB, .int .i64 BB, .int .i64 EB, .int .i64 JB] 37 (0, 0))) ∧ Aside0 (wc.heap[bB]? = some (.cells #[(.slice CB fB.length DB)] 29 (0, 0))) ∧ Aside0 (Below w.heap.size w wc))
          case first =>
           have H := HC87.out
           clear HC87
           by_cases c88 : fA = 3
           ·rw [if_pos c88] at H
            have AC : (fA == 3) = true := beq_iff_eq.mpr c88
            have bG : (fA != 3) = false := bne_eq_false_iff_eq.mpr c88
            clear c88
            (first | rw [AC] | (simp only [i64_w, i32_w]; rw [AC]) | skip)
            have H' := Aside0.mk H
            clear H
            have yK := YA.out
            have zK := EA.out
            have AK := hA.out
            have BK := yA.out
            have CK := aA.out
            have DK := zA.out
            have EK := ZA.out
            have FK := IA.out
            have GK := VA.out
            have HK := JA.out
            have xF : wc.cell? ⟨dA, 0, none⟩ = some (.int .i64 tA) := (blk_cell bA.out 0).trans rfl
            have yF : wc.cell? ⟨dA, 1, none⟩ = some (.int .i64 sA) := (blk_cell bA.out 1).trans rfl
            have zF : wc.cell? ⟨dA, 2, none⟩ = some (.int .i64 qA) := (blk_cell bA.out 2).trans rfl
            have AF : wc.cell? ⟨dA, 3, none⟩ = some (.int .i64 (wrap64 (fA + 1))) := (blk_cell bA.out 3).trans rfl
            have BF : wc.cell? ⟨dA, 4, none⟩ = some (.int .i64 pA) := (blk_cell bA.out 4).trans rfl
            have CF : wc.cell? ⟨dA, 5, none⟩ = some (.int .i64 nA) := (blk_cell bA.out 5).trans rfl
            have DF : wc.cell? ⟨dA, 6, none⟩ = some (.int .i64 lA) := (blk_cell bA.out 6).trans rfl
            have EF : wc.cell? ⟨dA, 7, none⟩ = some (.int .i64 jA) := (blk_cell bA.out 7).trans rfl
            have FF : wc.cell? ⟨dA, 8, none⟩ = some (.int .i64 iA) := (blk_cell bA.out 8).trans rfl
            have GF : wc.cell? ⟨dA, 9, none⟩ = some (.bool gA) := (blk_cell bA.out 9).trans rfl
            have HF := blk_frozen bA.out 0
            have IF := blk_frozen bA.out 1
            have JF := blk_frozen bA.out 2
            have KF := blk_frozen bA.out 3
            have LF := blk_frozen bA.out 4
            have MF := blk_frozen bA.out 5
            have NF := blk_frozen bA.out 6
            have OF := blk_frozen bA.out 7
            have PF := blk_frozen bA.out 8
            have QF := blk_frozen bA.out 9
            go_wp2
            go_meet
            case rel => exact ⟨_, ((tA == 2)), q5_38, H', ⟨by have := HJ5.out; have := HJ77.out; first | omega | exact Nat.le_refl _⟩, ⟨q5_32⟩, ⟨q5_1⟩, ⟨q5_2⟩, ⟨q5_3⟩, ⟨q5_5⟩, ⟨q5_15⟩, ⟨q5_30⟩, ⟨q5_0⟩⟩
           ·rw [if_neg c88] at H
            have AC : (fA == 3) = false := beq_eq_false_iff_ne.mpr c88
            have bG : (fA != 3) = true := bne_iff_ne.mpr c88
            (first | rw [AC] | (simp only [i64_w, i32_w]; rw [AC]) | skip)
            have H' := Aside0.mk H
            clear H
            go_wp2
            go_meet
            case rel => exact ⟨_, (false), q5_38, H', ⟨by have := HJ5.out; have := HJ77.out; first | omega | exact Nat.le_refl _⟩, ⟨q5_32⟩, ⟨q5_1⟩, ⟨q5_2⟩, ⟨q5_3⟩, ⟨q5_5⟩, ⟨q5_15⟩, ⟨q5_30⟩, ⟨q5_0⟩⟩
          case rest =>
           clear HC87
           (try clear c1); (try clear c2); (try clear p2); (try clear c3); (try clear c4); (try clear c5); (try clear c6); (try clear p6); (try clear c7); (try clear c8); (try clear c9); (try clear c11); (try clear c12); (try clear c13); (try clear c17); (try clear c18); (try clear c19); (try clear c20); (try clear c22); (try clear c23); (try clear c28); (try clear c29); (try clear c30); (try clear c31); (try clear c32); (try clear c34); (try clear c35); (try clear c36); (try clear c37); (try clear c38); (try clear c39); (try clear c40); (try clear c42); (try clear c43); (try clear c44); (try clear c45); (try clear c46); (try clear c47); (try clear c49); (try clear c50); (try clear c51); (try clear c52); (try clear c55); (try clear c56); (try clear c57); (try clear c58); (try clear c59); (try clear c61); (try clear PB); (try clear ZE); (try clear c62); (try clear c63); (try clear c64); (try clear p64); (try clear c65); (try clear c66); (try clear c68); (try clear aF); (try clear bF); (try clear c70); (try clear c71); (try clear c72); (try clear c73); (try clear c74); (try clear c78); (try clear c79); (try clear QB); (try clear cF); (try clear c80); (try clear c81); (try clear c82); (try clear c83); (try clear c84); (try clear c85); (try clear c88); (try clear AC); (try clear bG); (try clear c89); (try clear c90); (try clear c91); (try clear c92); (try clear c93); (try clear RB); (try clear SB); (try clear TB); (try clear UB); (try clear VB); (try clear WB); (try clear XB); (try clear YB); (try clear ZB); (try clear aC); (try clear lC); (try clear mC); (try clear nC); (try clear oC); (try clear tC); (try clear vC); (try clear xC); (try clear MC); (try clear OC); (try clear PC); (try clear QC); (try clear RC); (try clear SC); (try clear TC); (try clear UC); (try clear VC); (try clear WC); (try clear XC); (try clear iD); (try clear jD); (try clear kD); (try clear lD); (try clear mD); (try clear nD); (try clear oD); (try clear pD); (try clear qD); (try clear rD); (try clear CD); (try clear DD); (try clear ED); (try clear FD); (try clear GD); (try clear HD); (try clear ID); (try clear JD); (try clear KD); (try clear LD); (try clear XD); (try clear YD); (try clear ZD); (try clear aE); (try clear bE); (try clear cE); (try clear dE); (try clear eE); (try clear fE); (try clear gE); (try clear rE); (try clear sE); (try clear tE); (try clear uE); (try clear vE); (try clear wE); (try clear xE); (try clear yE); (try clear zE); (try clear AE); (try clear dF); (try clear eF); (try clear fF); (try clear gF); (try clear hF); (try clear iF); (try clear jF); (try clear kF); (try clear lF); (try clear mF); (try clear xF); (try clear yF); (try clear zF); (try clear AF); (try clear BF); (try clear CF); (try clear DF); (try clear EF); (try clear FF); (try clear GF); (try clear bC); (try clear cC); (try clear dC); (try clear eC); (try clear fC); (try clear gC); (try clear hC); (try clear iC); (try clear jC); (try clear kC); (try clear pC); (try clear qC); (try clear rC); (try clear sC); (try clear uC); (try clear wC); (try clear yC); (try clear NC); (try clear YC); (try clear ZC); (try clear aD); (try clear bD); (try clear cD); (try clear dD); (try clear eD); (try clear fD); (try clear gD); (try clear hD); (try clear sD); (try clear tD); (try clear uD); (try clear vD); (try clear wD); (try clear xD); (try clear yD); (try clear zD); (try clear AD); (try clear BD); (try clear MD); (try clear ND); (try clear OD); (try clear PD); (try clear QD); (try clear RD); (try clear SD); (try clear TD); (try clear UD); (try clear VD); (try clear hE); (try clear iE); (try clear jE); (try clear kE); (try clear lE); (try clear mE); (try clear nE); (try clear oE); (try clear pE); (try clear qE); (try clear BE); (try clear CE); (try clear DE); (try clear EE); (try clear FE); (try clear GE); (try clear HE); (try clear IE); (try clear JE); (try clear KE); (try clear nF); (try clear oF); (try clear pF); (try clear qF); (try clear rF); (try clear sF); (try clear tF); (try clear uF); (try clear vF); (try clear wF); (try clear HF); (try clear IF); (try clear JF); (try clear KF); (try clear LF); (try clear MF); (try clear NF); (try clear OF); (try clear PF); (try clear QF); (try clear p2); (try clear p6); (try clear p64)
           obtain ⟨kq, ME, rfl, HA, HJ86, mA, vA, bA, wA, eA, DA, aB, HB⟩ := hcut
           cases kq with
           | zero => exact absurd HA.out (by simp [spec_RiStep.j2])
           | succ kj86 =>
            have H := HA.out
            clear HA
            simp only [spec_RiStep.j2] at H
            by_cases c95 : ME = true
            ·subst c95
             rw [if_pos rfl] at H
             have H' := Aside0.mk H
             clear H
             have IK := YA.out
             have JK := EA.out
             have KK := hA.out
             have LK := yA.out
             have MK := aA.out
             have NK := zA.out
             have OK := ZA.out
             have PK := IA.out
             have bI := VA.out
             have cI := JA.out
             have cG : wc.cell? ⟨dA, 0, none⟩ = some (.int .i64 tA) := (blk_cell bA.out 0).trans rfl
             have dG : wc.cell? ⟨dA, 1, none⟩ = some (.int .i64 sA) := (blk_cell bA.out 1).trans rfl
             have eG : wc.cell? ⟨dA, 2, none⟩ = some (.int .i64 qA) := (blk_cell bA.out 2).trans rfl
             have fG : wc.cell? ⟨dA, 3, none⟩ = some (.int .i64 (wrap64 (fA + 1))) := (blk_cell bA.out 3).trans rfl
             have gG : wc.cell? ⟨dA, 4, none⟩ = some (.int .i64 pA) := (blk_cell bA.out 4).trans rfl
             have hG : wc.cell? ⟨dA, 5, none⟩ = some (.int .i64 nA) := (blk_cell bA.out 5).trans rfl
             have iG : wc.cell? ⟨dA, 6, none⟩ = some (.int .i64 lA) := (blk_cell bA.out 6).trans rfl
             have jG : wc.cell? ⟨dA, 7, none⟩ = some (.int .i64 jA) := (blk_cell bA.out 7).trans rfl
             have kG : wc.cell? ⟨dA, 8, none⟩ = some (.int .i64 iA) := (blk_cell bA.out 8).trans rfl
             have lG : wc.cell? ⟨dA, 9, none⟩ = some (.bool gA) := (blk_cell bA.out 9).trans rfl
             have mG := blk_frozen bA.out 0
             have nG := blk_frozen bA.out 1
             have oG := blk_frozen bA.out 2
             have pG := blk_frozen bA.out 3
             have qG := blk_frozen bA.out 4
             have rG := blk_frozen bA.out 5
             have sG := blk_frozen bA.out 6
             have tG := blk_frozen bA.out 7
             have uG := blk_frozen bA.out 8
             have vG := blk_frozen bA.out 9
             go_wp2
             go_meet
             case rel => exact ⟨_, (tA), (sA), (qA), ((wrap64 (fA + 1))), (pA), (nA), (lA), (jA), (DC), (gA), H', ⟨by have := HJ5.out; have := HJ77.out; have := HJ86.out; first | omega | exact Nat.le_refl _⟩, ⟨by (with_reducible repeat (first | apply Kd.R_alloc | apply Kd.R_drewN | apply Kd.R_drew)); exact Kd.R_mono (Kd.R_far (p := ⟨dA, 8, none⟩) (Kd.R_types mA.out bA.out (by decide)) (fun _ hk => hk.2) (.int .i64 DC)) (fun _ hk => trivial)⟩, ⟨q5_6⟩, ⟨by (with_reducible repeat (first | refine blk_drewN ?_ _ | refine blk_drew ?_ | refine blk_alloc ?_ _)); refine blk_put (cs := #[.int .i64 tA, .int .i64 sA, .int .i64 qA, .int .i64 (wrap64 (fA + 1)), .int .i64 pA, .int .i64 nA, .int .i64 lA, .int .i64 jA, .int .i64 iA, .bool gA]) ?_ 8 _ rfl; (with_reducible repeat (first | refine blk_drewN ?_ _ | refine blk_drew ?_ | refine blk_alloc ?_ _)); exact bA.out⟩, ⟨q5_7⟩, ⟨q5_8⟩, ⟨q5_9⟩, ⟨q5_10⟩, ⟨q5_0⟩⟩
            ·replace c95 := Bool.eq_false_iff.mpr c95
             subst c95
             rw [if_neg (show ¬ (false = true) by decide)] at H
             by_cases c102 : fA = 4
             ·rw [if_pos c102] at H
              have wG : (fA == 4) = true := beq_iff_eq.mpr c102
              have xG : (fA != 4) = false := bne_eq_false_iff_eq.mpr c102
              clear c102
              replace H := Option.bind_eq_some_iff.mp H
              obtain ⟨⟨BC, FC, NE, UE, WE, TF, yG, qH, vH, HH⟩, A1030, H⟩ := H
              (try dsimp only at H)
              have A103 := Aside0.mk A1030
              clear A1030
              have H' := Aside0.mk H
              clear H
              have dI := YA.out
              have eI := EA.out
              have fI := hA.out
              have gI := yA.out
              have hI := aA.out
              have iI := zA.out
              have jI := ZA.out
              have kI := IA.out
              have lI := VA.out
              have mI := JA.out
              have zG : wc.cell? ⟨dA, 0, none⟩ = some (.int .i64 tA) := (blk_cell bA.out 0).trans rfl
              have AG : wc.cell? ⟨dA, 1, none⟩ = some (.int .i64 sA) := (blk_cell bA.out 1).trans rfl
              have BG : wc.cell? ⟨dA, 2, none⟩ = some (.int .i64 qA) := (blk_cell bA.out 2).trans rfl
              have CG : wc.cell? ⟨dA, 3, none⟩ = some (.int .i64 (wrap64 (fA + 1))) := (blk_cell bA.out 3).trans rfl
              have DG : wc.cell? ⟨dA, 4, none⟩ = some (.int .i64 pA) := (blk_cell bA.out 4).trans rfl
              have EG : wc.cell? ⟨dA, 5, none⟩ = some (.int .i64 nA) := (blk_cell bA.out 5).trans rfl
              have FG : wc.cell? ⟨dA, 6, none⟩ = some (.int .i64 lA) := (blk_cell bA.out 6).trans rfl
              have GG : wc.cell? ⟨dA, 7, none⟩ = some (.int .i64 jA) := (blk_cell bA.out 7).trans rfl
              have HG : wc.cell? ⟨dA, 8, none⟩ = some (.int .i64 iA) := (blk_cell bA.out 8).trans rfl
              have IG : wc.cell? ⟨dA, 9, none⟩ = some (.bool gA) := (blk_cell bA.out 9).trans rfl
              have JG := blk_frozen bA.out 0
              have KG := blk_frozen bA.out 1
              have LG := blk_frozen bA.out 2
              have MG := blk_frozen bA.out 3
              have NG := blk_frozen bA.out 4
              have OG := blk_frozen bA.out 5
              have PG := blk_frozen bA.out 6
              have QG := blk_frozen bA.out 7
              have RG := blk_frozen bA.out 8
              have SG := blk_frozen bA.out 9
              go_wp2_with (first | ((with_reducible refine gate_callee (f := 66) rfl ?_); refine goesL_ (some 83) rfl rfl Try.func66 (by kernel_rfl) rfl #[.agg #[.int .i64 tA, .int .i64 sA, .int .i64 qA, .int .i64 (wrap64 (fA + 1)), .int .i64 pA, .int .i64 nA, .int .i64 lA, .int .i64 jA, .int .i64 iA, .bool gA], .int .i64 1] rfl q5_27 ?_; (with_reducible refine (spec_l03End.calls tA sA qA (wrap64 (fA + 1)) pA nA lA jA iA gA 1 BC FC NE UE WE TF yG qH vH HH _ A103.out).mono ?_); rintro e GC ⟨rfl, hb⟩; refine ⟨_, rfl, ?_⟩; have xB := Aside0.mk (Kd.R_below q5_32 hb); have yB := Aside0.mk (blk_below (g := FA) (o := .cells #[.slice hB cB.length iB] 29 (0, 0)) q5_1 hb); have zB := Aside0.mk (blk_below (g := dA) (o := .cells #[.int .i64 tA, .int .i64 sA, .int .i64 qA, .int .i64 (wrap64 (fA + 1)), .int .i64 pA, .int .i64 nA, .int .i64 lA, .int .i64 jA, .int .i64 iA, .bool gA] 23 (0, 0)) q5_2 hb); have AB := Aside0.mk (blk_below (g := kA) (o := .cells #[.slice none 0 0] 29 (0, 0)) q5_3 hb); have FB := Aside0.mk (blk_below (g := cA) (o := .cells #[.int .i64 0, .int .i64 0, .int .i64 0, .int .i64 0, .int .i64 0, .int .i64 0, .int .i64 0, .int .i64 0, .int .i64 0, .bool false] 23 (0, 0)) q5_5 hb); have NB := Aside0.mk (blk_below (g := KA) (o := .cells #[.int .i64 uB, .int .i64 BB, .int .i64 EB, .int .i64 JB] 37 (0, 0)) q5_15 hb); have OB := Aside0.mk (blk_below (g := bB) (o := .cells #[.slice CB fB.length DB] 29 (0, 0)) q5_30 hb); have JC := Aside0.mk (below_step q5_0 hb); clear mA vA bA wA eA DA aB HB; have mA := xB; have vA := yB; have bA := zB; have wA := AB; have eA := FB; have DA := NB; have aB := OB; have HB := JC; clear xB yB zB AB FB NB OB JC; (try clear hb); (try clear hb2); (try clear hk); (try clear hi); have TG : GC.cell? ⟨dA, 0, none⟩ = some (.int .i64 tA) := (blk_cell bA.out 0).trans rfl; have UG : GC.cell? ⟨dA, 1, none⟩ = some (.int .i64 sA) := (blk_cell bA.out 1).trans rfl; have VG : GC.cell? ⟨dA, 2, none⟩ = some (.int .i64 qA) := (blk_cell bA.out 2).trans rfl; have WG : GC.cell? ⟨dA, 3, none⟩ = some (.int .i64 (wrap64 (fA + 1))) := (blk_cell bA.out 3).trans rfl; have XG : GC.cell? ⟨dA, 4, none⟩ = some (.int .i64 pA) := (blk_cell bA.out 4).trans rfl; have YG : GC.cell? ⟨dA, 5, none⟩ = some (.int .i64 nA) := (blk_cell bA.out 5).trans rfl; have ZG : GC.cell? ⟨dA, 6, none⟩ = some (.int .i64 lA) := (blk_cell bA.out 6).trans rfl; have aH : GC.cell? ⟨dA, 7, none⟩ = some (.int .i64 jA) := (blk_cell bA.out 7).trans rfl; have bH : GC.cell? ⟨dA, 8, none⟩ = some (.int .i64 iA) := (blk_cell bA.out 8).trans rfl; have cH : GC.cell? ⟨dA, 9, none⟩ = some (.bool gA) := (blk_cell bA.out 9).trans rfl; have dH := blk_frozen bA.out 0; have eH := blk_frozen bA.out 1; have fH := blk_frozen bA.out 2; have gH := blk_frozen bA.out 3; have hH := blk_frozen bA.out 4; have iH := blk_frozen bA.out 5; have jH := blk_frozen bA.out 6; have kH := blk_frozen bA.out 7; have lH := blk_frozen bA.out 8; have mH := blk_frozen bA.out 9))
              go_meet
              case rel => exact ⟨_, (BC), (FC), (NE), (UE), (WE), (TF), (yG), (qH), (vH), (HH), H', ⟨by have := HJ5.out; have := HJ77.out; have := HJ86.out; first | omega | exact Nat.le_refl _⟩, ⟨q5_29⟩, ⟨q5_33⟩, ⟨by (with_reducible repeat (first | refine blk_drewN ?_ _ | refine blk_drew ?_ | refine blk_alloc ?_ _)); refine blk_put (cs := #[.int .i64 BC, .int .i64 FC, .int .i64 NE, .int .i64 UE, .int .i64 WE, .int .i64 TF, .int .i64 yG, .int .i64 qH, .int .i64 vH, .bool gA]) ?_ 9 _ rfl; (with_reducible repeat (first | refine blk_drewN ?_ _ | refine blk_drew ?_ | refine blk_alloc ?_ _)); refine blk_put (cs := #[.int .i64 BC, .int .i64 FC, .int .i64 NE, .int .i64 UE, .int .i64 WE, .int .i64 TF, .int .i64 yG, .int .i64 qH, .int .i64 iA, .bool gA]) ?_ 8 _ rfl; (with_reducible repeat (first | refine blk_drewN ?_ _ | refine blk_drew ?_ | refine blk_alloc ?_ _)); refine blk_put (cs := #[.int .i64 BC, .int .i64 FC, .int .i64 NE, .int .i64 UE, .int .i64 WE, .int .i64 TF, .int .i64 yG, .int .i64 jA, .int .i64 iA, .bool gA]) ?_ 7 _ rfl; (with_reducible repeat (first | refine blk_drewN ?_ _ | refine blk_drew ?_ | refine blk_alloc ?_ _)); refine blk_put (cs := #[.int .i64 BC, .int .i64 FC, .int .i64 NE, .int .i64 UE, .int .i64 WE, .int .i64 TF, .int .i64 lA, .int .i64 jA, .int .i64 iA, .bool gA]) ?_ 6 _ rfl; (with_reducible repeat (first | refine blk_drewN ?_ _ | refine blk_drew ?_ | refine blk_alloc ?_ _)); refine blk_put (cs := #[.int .i64 BC, .int .i64 FC, .int .i64 NE, .int .i64 UE, .int .i64 WE, .int .i64 nA, .int .i64 lA, .int .i64 jA, .int .i64 iA, .bool gA]) ?_ 5 _ rfl; (with_reducible repeat (first | refine blk_drewN ?_ _ | refine blk_drew ?_ | refine blk_alloc ?_ _)); refine blk_put (cs := #[.int .i64 BC, .int .i64 FC, .int .i64 NE, .int .i64 UE, .int .i64 pA, .int .i64 nA, .int .i64 lA, .int .i64 jA, .int .i64 iA, .bool gA]) ?_ 4 _ rfl; (with_reducible repeat (first | refine blk_drewN ?_ _ | refine blk_drew ?_ | refine blk_alloc ?_ _)); refine blk_put (cs := #[.int .i64 BC, .int .i64 FC, .int .i64 NE, .int .i64 (wrap64 (fA + 1)), .int .i64 pA, .int .i64 nA, .int .i64 lA, .int .i64 jA, .int .i64 iA, .bool gA]) ?_ 3 _ rfl; (with_reducible repeat (first | refine blk_drewN ?_ _ | refine blk_drew ?_ | refine blk_alloc ?_ _)); refine blk_put (cs := #[.int .i64 BC, .int .i64 FC, .int .i64 qA, .int .i64 (wrap64 (fA + 1)), .int .i64 pA, .int .i64 nA, .int .i64 lA, .int .i64 jA, .int .i64 iA, .bool gA]) ?_ 2 _ rfl; (with_reducible repeat (first | refine blk_drewN ?_ _ | refine blk_drew ?_ | refine blk_alloc ?_ _)); refine blk_put (cs := #[.int .i64 BC, .int .i64 sA, .int .i64 qA, .int .i64 (wrap64 (fA + 1)), .int .i64 pA, .int .i64 nA, .int .i64 lA, .int .i64 jA, .int .i64 iA, .bool gA]) ?_ 1 _ rfl; (with_reducible repeat (first | refine blk_drewN ?_ _ | refine blk_drew ?_ | refine blk_alloc ?_ _)); refine blk_put (cs := #[.int .i64 tA, .int .i64 sA, .int .i64 qA, .int .i64 (wrap64 (fA + 1)), .int .i64 pA, .int .i64 nA, .int .i64 lA, .int .i64 jA, .int .i64 iA, .bool gA]) ?_ 0 _ rfl; (with_reducible repeat (first | refine blk_drewN ?_ _ | refine blk_drew ?_ | refine blk_alloc ?_ _)); exact bA.out⟩, ⟨q5_34⟩, ⟨q5_35⟩, ⟨q5_36⟩, ⟨q5_37⟩, ⟨q5_0⟩⟩
             ·rw [if_neg c102] at H
              have wG : (fA == 4) = false := beq_eq_false_iff_ne.mpr c102
              have xG : (fA != 4) = true := bne_iff_ne.mpr c102
              have H' := Aside0.mk H
              clear H
              go_wp2
              go_meet
              case rel => exact ⟨_, (tA), (sA), (qA), ((wrap64 (fA + 1))), (pA), (nA), (lA), (jA), (iA), (gA), H', ⟨by have := HJ5.out; have := HJ77.out; have := HJ86.out; first | omega | exact Nat.le_refl _⟩, ⟨q5_32⟩, ⟨q5_1⟩, ⟨q5_2⟩, ⟨q5_3⟩, ⟨q5_5⟩, ⟨q5_15⟩, ⟨q5_30⟩, ⟨q5_0⟩⟩
    case rest =>
     clear HC54
     (try clear c1); (try clear c2); (try clear p2); (try clear c3); (try clear c4); (try clear c5); (try clear c6); (try clear p6); (try clear c7); (try clear c8); (try clear c9); (try clear c10); (try clear c11); (try clear c12); (try clear c13); (try clear c17); (try clear c18); (try clear c19); (try clear c20); (try clear c22); (try clear c23); (try clear c28); (try clear c29); (try clear c30); (try clear c31); (try clear c32); (try clear c34); (try clear c35); (try clear c36); (try clear c37); (try clear c38); (try clear c39); (try clear c40); (try clear c42); (try clear c43); (try clear c44); (try clear c45); (try clear c46); (try clear c47); (try clear c49); (try clear c50); (try clear c51); (try clear c52); (try clear c55); (try clear c56); (try clear c57); (try clear c58); (try clear c59); (try clear c61); (try clear PB); (try clear ZE); (try clear c62); (try clear c63); (try clear c64); (try clear p64); (try clear c65); (try clear c66); (try clear c68); (try clear aF); (try clear bF); (try clear c70); (try clear c71); (try clear c72); (try clear c73); (try clear c74); (try clear c78); (try clear c79); (try clear QB); (try clear cF); (try clear c80); (try clear c81); (try clear c82); (try clear c83); (try clear c84); (try clear c85); (try clear c88); (try clear AC); (try clear bG); (try clear c89); (try clear c90); (try clear c91); (try clear c92); (try clear c93); (try clear c95); (try clear c96); (try clear c97); (try clear c98); (try clear c99); (try clear c100); (try clear c102); (try clear wG); (try clear xG); (try clear c104); (try clear c105); (try clear c106); (try clear c107); (try clear c108); (try clear cG); (try clear dG); (try clear eG); (try clear fG); (try clear gG); (try clear hG); (try clear iG); (try clear jG); (try clear kG); (try clear lG); (try clear zG); (try clear AG); (try clear BG); (try clear CG); (try clear DG); (try clear EG); (try clear FG); (try clear GG); (try clear HG); (try clear IG); (try clear TG); (try clear UG); (try clear VG); (try clear WG); (try clear XG); (try clear YG); (try clear ZG); (try clear aH); (try clear bH); (try clear cH); (try clear RB); (try clear SB); (try clear TB); (try clear UB); (try clear VB); (try clear WB); (try clear XB); (try clear YB); (try clear ZB); (try clear aC); (try clear lC); (try clear mC); (try clear nC); (try clear oC); (try clear tC); (try clear vC); (try clear xC); (try clear MC); (try clear OC); (try clear PC); (try clear QC); (try clear RC); (try clear SC); (try clear TC); (try clear UC); (try clear VC); (try clear WC); (try clear XC); (try clear iD); (try clear jD); (try clear kD); (try clear lD); (try clear mD); (try clear nD); (try clear oD); (try clear pD); (try clear qD); (try clear rD); (try clear CD); (try clear DD); (try clear ED); (try clear FD); (try clear GD); (try clear HD); (try clear ID); (try clear JD); (try clear KD); (try clear LD); (try clear XD); (try clear YD); (try clear ZD); (try clear aE); (try clear bE); (try clear cE); (try clear dE); (try clear eE); (try clear fE); (try clear gE); (try clear rE); (try clear sE); (try clear tE); (try clear uE); (try clear vE); (try clear wE); (try clear xE); (try clear yE); (try clear zE); (try clear AE); (try clear dF); (try clear eF); (try clear fF); (try clear gF); (try clear hF); (try clear iF); (try clear jF); (try clear kF); (try clear lF); (try clear mF); (try clear xF); (try clear yF); (try clear zF); (try clear AF); (try clear BF); (try clear CF); (try clear DF); (try clear EF); (try clear FF); (try clear GF); (try clear mG); (try clear nG); (try clear oG); (try clear pG); (try clear qG); (try clear rG); (try clear sG); (try clear tG); (try clear uG); (try clear vG); (try clear JG); (try clear KG); (try clear LG); (try clear MG); (try clear NG); (try clear OG); (try clear PG); (try clear QG); (try clear RG); (try clear SG); (try clear dH); (try clear eH); (try clear fH); (try clear gH); (try clear hH); (try clear iH); (try clear jH); (try clear kH); (try clear lH); (try clear mH); (try clear bC); (try clear cC); (try clear dC); (try clear eC); (try clear fC); (try clear gC); (try clear hC); (try clear iC); (try clear jC); (try clear kC); (try clear pC); (try clear qC); (try clear rC); (try clear sC); (try clear uC); (try clear wC); (try clear yC); (try clear NC); (try clear YC); (try clear ZC); (try clear aD); (try clear bD); (try clear cD); (try clear dD); (try clear eD); (try clear fD); (try clear gD); (try clear hD); (try clear sD); (try clear tD); (try clear uD); (try clear vD); (try clear wD); (try clear xD); (try clear yD); (try clear zD); (try clear AD); (try clear BD); (try clear MD); (try clear ND); (try clear OD); (try clear PD); (try clear QD); (try clear RD); (try clear SD); (try clear TD); (try clear UD); (try clear VD); (try clear hE); (try clear iE); (try clear jE); (try clear kE); (try clear lE); (try clear mE); (try clear nE); (try clear oE); (try clear pE); (try clear qE); (try clear BE); (try clear CE); (try clear DE); (try clear EE); (try clear FE); (try clear GE); (try clear HE); (try clear IE); (try clear JE); (try clear KE); (try clear nF); (try clear oF); (try clear pF); (try clear qF); (try clear rF); (try clear sF); (try clear tF); (try clear uF); (try clear vF); (try clear wF); (try clear HF); (try clear IF); (try clear JF); (try clear KF); (try clear LF); (try clear MF); (try clear NF); (try clear OF); (try clear PF); (try clear QF); (try clear p2); (try clear p6); (try clear p64)
     obtain ⟨kq, oA, rA, uA, xA, BA, GA, MA, UA, dB, eB, HA, HJ53, mA, vA, bA, wA, eA, DA, aB, HB⟩ := hcut
     cases kq with
     | zero => exact absurd HA.out (by simp [spec_RiStep.j3])
     | succ kj53 =>
      have H := HA.out
      clear HA
      simp only [spec_RiStep.j3] at H
      simp only [Option.some.injEq, Prod.mk.injEq] at H
      obtain ⟨rfl, rfl, rfl, rfl, rfl, rfl, rfl, rfl, rfl, rfl, rfl, rfl⟩ := H
      try go_wp2
      have xB := Aside0.mk (Kd.R_drew mA.out)
      have yB := Aside0.mk (blk_drew vA.out)
      have zB := Aside0.mk (blk_drew bA.out)
      have AB := Aside0.mk (blk_drew wA.out)
      have FB := Aside0.mk (blk_drew eA.out)
      have NB := Aside0.mk (blk_drew DA.out)
      have OB := Aside0.mk (blk_drew aB.out)
      have JC := Aside0.mk (below_drew1 HB.out)
      clear mA vA bA wA eA DA aB HB
      have mA := xB
      have vA := yB
      have bA := zB
      have wA := AB
      have eA := FB
      have DA := NB
      have aB := OB
      have HB := JC
      clear xB yB zB AB FB NB OB JC
      refine start_ (n := 5) (S := fun w' => w'.cell? ⟨bB, 0, none⟩ = some (.slice CB fB.length DB) ∧ w'.cell? ⟨dA, 0, none⟩ = some (.int .i64 oA) ∧ w'.cell? ⟨dA, 1, none⟩ = some (.int .i64 rA) ∧ w'.cell? ⟨dA, 2, none⟩ = some (.int .i64 uA) ∧ w'.cell? ⟨dA, 3, none⟩ = some (.int .i64 xA) ∧ w'.cell? ⟨dA, 4, none⟩ = some (.int .i64 BA) ∧ w'.cell? ⟨dA, 5, none⟩ = some (.int .i64 GA) ∧ w'.cell? ⟨dA, 6, none⟩ = some (.int .i64 MA) ∧ w'.cell? ⟨dA, 7, none⟩ = some (.int .i64 UA) ∧ w'.cell? ⟨dA, 8, none⟩ = some (.int .i64 dB) ∧ w'.cell? ⟨dA, 9, none⟩ = some (.bool eB)) (ds := []) #[F,F,F,F,F] (by kernel_rfl) rfl rfl ⟨(blk_cell aB.out 0).trans rfl, (blk_cell bA.out 0).trans rfl, (blk_cell bA.out 1).trans rfl, (blk_cell bA.out 2).trans rfl, (blk_cell bA.out 3).trans rfl, (blk_cell bA.out 4).trans rfl, (blk_cell bA.out 5).trans rfl, (blk_cell bA.out 6).trans rfl, (blk_cell bA.out 7).trans rfl, (blk_cell bA.out 8).trans rfl, (blk_cell bA.out 9).trans rfl⟩ (fun hHeld => ?_)
      generalize wc.drew = CC at mA vA bA wA eA DA aB HB hHeld ⊢
      refine take_ (i := 0) (N := some 84) (v := ?_) (a' := ?_) #[T,F,F,F,F] rfl rfl (by kernel_rfl) (fun _ _ _ h => h) (Or.inl ⟨by rfl, ?_⟩) hHeld ?_ ?_
      rotate_left
      ·rintro w' ⟨s0, s1, s2, s3, s4, s5, s6, s7, s8, s9, cL⟩
       go_simp
       with_reducible rfl
      rotate_left
      ·simp only [Act.put, List.setIfInBounds_toArray, List.set_cons_zero, List.set_cons_succ, i64_w, i32_w]
       rfl
      refine take_ (i := 1) (N := some 85) (v := ?_) (a' := ?_) #[T,T,F,F,F] rfl rfl (by kernel_rfl) (fun _ _ _ h => h) (Or.inl ⟨by rfl, ?_⟩) hHeld ?_ ?_
      rotate_left
      ·rintro w' ⟨s0, s1, s2, s3, s4, s5, s6, s7, s8, s9, cL⟩
       go_simp
       with_reducible rfl
      rotate_left
      ·simp only [Act.put, List.setIfInBounds_toArray, List.set_cons_zero, List.set_cons_succ, i64_w, i32_w]
       rfl
      refine one_ (i := 2) (N := none) #[T,T,T,F,F] rfl rfl (by kernel_rfl) (by decide) (fun K hK => ?_)
      have QK : CC.cell? ⟨kA, 0, none⟩ = some (.slice none 0 0) := (blk_cell wA.out 0).trans rfl
      have nI := blk_frozen wA.out 0
      have IH := mB.out
      have JH := hA.out
      have KH := qB.out
      have LH := LB.out
      have MH := tB.out
      have NH := nB.out
      have OH := yA.out
      have PH := IB.out
      have QH := rB.out
      have RH := kB.out
      refine skip_ (w1 := ?_) (by rfl) rfl ?_ ?_
      rotate_left
      ·go_simp
       rfl
      refine hK.out _ _ ⟨((cell_far (p := ⟨kA, _, none⟩) tB.out _).trans (hHeld.1)), ((cell_far (p := ⟨kA, _, none⟩) hA.out _).trans (hHeld.2.1)), ((cell_far (p := ⟨kA, _, none⟩) hA.out _).trans (hHeld.2.2.1)), ((cell_far (p := ⟨kA, _, none⟩) hA.out _).trans (hHeld.2.2.2.1)), ((cell_far (p := ⟨kA, _, none⟩) hA.out _).trans (hHeld.2.2.2.2.1)), ((cell_far (p := ⟨kA, _, none⟩) hA.out _).trans (hHeld.2.2.2.2.2.1)), ((cell_far (p := ⟨kA, _, none⟩) hA.out _).trans (hHeld.2.2.2.2.2.2.1)), ((cell_far (p := ⟨kA, _, none⟩) hA.out _).trans (hHeld.2.2.2.2.2.2.2.1)), ((cell_far (p := ⟨kA, _, none⟩) hA.out _).trans (hHeld.2.2.2.2.2.2.2.2.1)), ((cell_far (p := ⟨kA, _, none⟩) hA.out _).trans (hHeld.2.2.2.2.2.2.2.2.2.1)), ((cell_far (p := ⟨kA, _, none⟩) hA.out _).trans (hHeld.2.2.2.2.2.2.2.2.2.2))⟩ (fun hHeld => ?_)
      clear hK K
      refine one_ (i := 3) (N := none) #[T,T,T,T,F] rfl rfl (by kernel_rfl) (by decide) (fun K hK => ?_)
      have RK : CC.cell? ⟨cA, 0, none⟩ = some (.int .i64 0) := (blk_cell eA.out 0).trans rfl
      have oI := blk_frozen eA.out 0
      have SH := oB.out
      have TH := aA.out
      have UH := MB.out
      have VH := AA.out
      have WH := pB.out
      have XH := zA.out
      have YH := sB.out
      have ZH := lB.out
      have SK : CC.cell? ⟨cA, 1, none⟩ = some (.int .i64 0) := (blk_cell eA.out 1).trans rfl
      have pI := blk_frozen eA.out 1
      have TK : CC.cell? ⟨cA, 2, none⟩ = some (.int .i64 0) := (blk_cell eA.out 2).trans rfl
      have qI := blk_frozen eA.out 2
      have UK : CC.cell? ⟨cA, 3, none⟩ = some (.int .i64 0) := (blk_cell eA.out 3).trans rfl
      have rI := blk_frozen eA.out 3
      have VK : CC.cell? ⟨cA, 4, none⟩ = some (.int .i64 0) := (blk_cell eA.out 4).trans rfl
      have sI := blk_frozen eA.out 4
      have WK : CC.cell? ⟨cA, 5, none⟩ = some (.int .i64 0) := (blk_cell eA.out 5).trans rfl
      have tI := blk_frozen eA.out 5
      have XK : CC.cell? ⟨cA, 6, none⟩ = some (.int .i64 0) := (blk_cell eA.out 6).trans rfl
      have uI := blk_frozen eA.out 6
      have YK : CC.cell? ⟨cA, 7, none⟩ = some (.int .i64 0) := (blk_cell eA.out 7).trans rfl
      have vI := blk_frozen eA.out 7
      have ZK : CC.cell? ⟨cA, 8, none⟩ = some (.int .i64 0) := (blk_cell eA.out 8).trans rfl
      have wI := blk_frozen eA.out 8
      have aL : CC.cell? ⟨cA, 9, none⟩ = some (.bool false) := (blk_cell eA.out 9).trans rfl
      have xI := blk_frozen eA.out 9
      refine skip_ (w1 := ?_) (by rfl) rfl ?_ ?_
      rotate_left
      ·go_simp
       rfl
      refine hK.out _ _ ⟨((cell_far (p := ⟨cA, _, none⟩) AA.out _).trans (((cell_far (p := ⟨cA, _, none⟩) AA.out _).trans (((cell_far (p := ⟨cA, _, none⟩) AA.out _).trans (((cell_far (p := ⟨cA, _, none⟩) AA.out _).trans (((cell_far (p := ⟨cA, _, none⟩) AA.out _).trans (((cell_far (p := ⟨cA, _, none⟩) AA.out _).trans (((cell_far (p := ⟨cA, _, none⟩) AA.out _).trans (((cell_far (p := ⟨cA, _, none⟩) AA.out _).trans (((cell_far (p := ⟨cA, _, none⟩) AA.out _).trans (((cell_far (p := ⟨cA, _, none⟩) AA.out _).trans (hHeld.1)))))))))))))))))))), ((cell_far (p := ⟨cA, _, none⟩) aA.out _).trans (((cell_far (p := ⟨cA, _, none⟩) aA.out _).trans (((cell_far (p := ⟨cA, _, none⟩) aA.out _).trans (((cell_far (p := ⟨cA, _, none⟩) aA.out _).trans (((cell_far (p := ⟨cA, _, none⟩) aA.out _).trans (((cell_far (p := ⟨cA, _, none⟩) aA.out _).trans (((cell_far (p := ⟨cA, _, none⟩) aA.out _).trans (((cell_far (p := ⟨cA, _, none⟩) aA.out _).trans (((cell_far (p := ⟨cA, _, none⟩) aA.out _).trans (((cell_far (p := ⟨cA, _, none⟩) aA.out _).trans (hHeld.2.1)))))))))))))))))))), ((cell_far (p := ⟨cA, _, none⟩) aA.out _).trans (((cell_far (p := ⟨cA, _, none⟩) aA.out _).trans (((cell_far (p := ⟨cA, _, none⟩) aA.out _).trans (((cell_far (p := ⟨cA, _, none⟩) aA.out _).trans (((cell_far (p := ⟨cA, _, none⟩) aA.out _).trans (((cell_far (p := ⟨cA, _, none⟩) aA.out _).trans (((cell_far (p := ⟨cA, _, none⟩) aA.out _).trans (((cell_far (p := ⟨cA, _, none⟩) aA.out _).trans (((cell_far (p := ⟨cA, _, none⟩) aA.out _).trans (((cell_far (p := ⟨cA, _, none⟩) aA.out _).trans (hHeld.2.2.1)))))))))))))))))))), ((cell_far (p := ⟨cA, _, none⟩) aA.out _).trans (((cell_far (p := ⟨cA, _, none⟩) aA.out _).trans (((cell_far (p := ⟨cA, _, none⟩) aA.out _).trans (((cell_far (p := ⟨cA, _, none⟩) aA.out _).trans (((cell_far (p := ⟨cA, _, none⟩) aA.out _).trans (((cell_far (p := ⟨cA, _, none⟩) aA.out _).trans (((cell_far (p := ⟨cA, _, none⟩) aA.out _).trans (((cell_far (p := ⟨cA, _, none⟩) aA.out _).trans (((cell_far (p := ⟨cA, _, none⟩) aA.out _).trans (((cell_far (p := ⟨cA, _, none⟩) aA.out _).trans (hHeld.2.2.2.1)))))))))))))))))))), ((cell_far (p := ⟨cA, _, none⟩) aA.out _).trans (((cell_far (p := ⟨cA, _, none⟩) aA.out _).trans (((cell_far (p := ⟨cA, _, none⟩) aA.out _).trans (((cell_far (p := ⟨cA, _, none⟩) aA.out _).trans (((cell_far (p := ⟨cA, _, none⟩) aA.out _).trans (((cell_far (p := ⟨cA, _, none⟩) aA.out _).trans (((cell_far (p := ⟨cA, _, none⟩) aA.out _).trans (((cell_far (p := ⟨cA, _, none⟩) aA.out _).trans (((cell_far (p := ⟨cA, _, none⟩) aA.out _).trans (((cell_far (p := ⟨cA, _, none⟩) aA.out _).trans (hHeld.2.2.2.2.1)))))))))))))))))))), ((cell_far (p := ⟨cA, _, none⟩) aA.out _).trans (((cell_far (p := ⟨cA, _, none⟩) aA.out _).trans (((cell_far (p := ⟨cA, _, none⟩) aA.out _).trans (((cell_far (p := ⟨cA, _, none⟩) aA.out _).trans (((cell_far (p := ⟨cA, _, none⟩) aA.out _).trans (((cell_far (p := ⟨cA, _, none⟩) aA.out _).trans (((cell_far (p := ⟨cA, _, none⟩) aA.out _).trans (((cell_far (p := ⟨cA, _, none⟩) aA.out _).trans (((cell_far (p := ⟨cA, _, none⟩) aA.out _).trans (((cell_far (p := ⟨cA, _, none⟩) aA.out _).trans (hHeld.2.2.2.2.2.1)))))))))))))))))))), ((cell_far (p := ⟨cA, _, none⟩) aA.out _).trans (((cell_far (p := ⟨cA, _, none⟩) aA.out _).trans (((cell_far (p := ⟨cA, _, none⟩) aA.out _).trans (((cell_far (p := ⟨cA, _, none⟩) aA.out _).trans (((cell_far (p := ⟨cA, _, none⟩) aA.out _).trans (((cell_far (p := ⟨cA, _, none⟩) aA.out _).trans (((cell_far (p := ⟨cA, _, none⟩) aA.out _).trans (((cell_far (p := ⟨cA, _, none⟩) aA.out _).trans (((cell_far (p := ⟨cA, _, none⟩) aA.out _).trans (((cell_far (p := ⟨cA, _, none⟩) aA.out _).trans (hHeld.2.2.2.2.2.2.1)))))))))))))))))))), ((cell_far (p := ⟨cA, _, none⟩) aA.out _).trans (((cell_far (p := ⟨cA, _, none⟩) aA.out _).trans (((cell_far (p := ⟨cA, _, none⟩) aA.out _).trans (((cell_far (p := ⟨cA, _, none⟩) aA.out _).trans (((cell_far (p := ⟨cA, _, none⟩) aA.out _).trans (((cell_far (p := ⟨cA, _, none⟩) aA.out _).trans (((cell_far (p := ⟨cA, _, none⟩) aA.out _).trans (((cell_far (p := ⟨cA, _, none⟩) aA.out _).trans (((cell_far (p := ⟨cA, _, none⟩) aA.out _).trans (((cell_far (p := ⟨cA, _, none⟩) aA.out _).trans (hHeld.2.2.2.2.2.2.2.1)))))))))))))))))))), ((cell_far (p := ⟨cA, _, none⟩) aA.out _).trans (((cell_far (p := ⟨cA, _, none⟩) aA.out _).trans (((cell_far (p := ⟨cA, _, none⟩) aA.out _).trans (((cell_far (p := ⟨cA, _, none⟩) aA.out _).trans (((cell_far (p := ⟨cA, _, none⟩) aA.out _).trans (((cell_far (p := ⟨cA, _, none⟩) aA.out _).trans (((cell_far (p := ⟨cA, _, none⟩) aA.out _).trans (((cell_far (p := ⟨cA, _, none⟩) aA.out _).trans (((cell_far (p := ⟨cA, _, none⟩) aA.out _).trans (((cell_far (p := ⟨cA, _, none⟩) aA.out _).trans (hHeld.2.2.2.2.2.2.2.2.1)))))))))))))))))))), ((cell_far (p := ⟨cA, _, none⟩) aA.out _).trans (((cell_far (p := ⟨cA, _, none⟩) aA.out _).trans (((cell_far (p := ⟨cA, _, none⟩) aA.out _).trans (((cell_far (p := ⟨cA, _, none⟩) aA.out _).trans (((cell_far (p := ⟨cA, _, none⟩) aA.out _).trans (((cell_far (p := ⟨cA, _, none⟩) aA.out _).trans (((cell_far (p := ⟨cA, _, none⟩) aA.out _).trans (((cell_far (p := ⟨cA, _, none⟩) aA.out _).trans (((cell_far (p := ⟨cA, _, none⟩) aA.out _).trans (((cell_far (p := ⟨cA, _, none⟩) aA.out _).trans (hHeld.2.2.2.2.2.2.2.2.2.1)))))))))))))))))))), ((cell_far (p := ⟨cA, _, none⟩) aA.out _).trans (((cell_far (p := ⟨cA, _, none⟩) aA.out _).trans (((cell_far (p := ⟨cA, _, none⟩) aA.out _).trans (((cell_far (p := ⟨cA, _, none⟩) aA.out _).trans (((cell_far (p := ⟨cA, _, none⟩) aA.out _).trans (((cell_far (p := ⟨cA, _, none⟩) aA.out _).trans (((cell_far (p := ⟨cA, _, none⟩) aA.out _).trans (((cell_far (p := ⟨cA, _, none⟩) aA.out _).trans (((cell_far (p := ⟨cA, _, none⟩) aA.out _).trans (((cell_far (p := ⟨cA, _, none⟩) aA.out _).trans (hHeld.2.2.2.2.2.2.2.2.2.2))))))))))))))))))))⟩ (fun hHeld => ?_)
      clear hK K
      refine pure_ (i := 4) (N := some 8) (v := ?_) (a' := ?_) #[T,T,T,T,T] rfl rfl (by kernel_rfl) (fun _ _ _ h => h) (Or.inl ⟨by rfl, ?_⟩) ?_ ?_
      rotate_left
      ·intro w'
       go_simp
       with_reducible rfl
      rotate_left
      ·simp only [Act.put, List.setIfInBounds_toArray, List.set_cons_zero, List.set_cons_succ, i64_w, i32_w]
       rfl
      refine done_ (by kernel_rfl) ?_
      try go_wp2
      refine bodyPost_ret (results_list (rs := [.cell 6 29, .cell 7 23, .tmp 8]) rfl (by simp) (.cell kA 29 #[.slice CB fB.length DB] (0, 0) _ rfl q5_26 Try.underlying29 rfl (by kernel_rfl) (.cell cA 23 #[.int .i64 oA, .int .i64 rA, .int .i64 uA, .int .i64 xA, .int .i64 BA, .int .i64 GA, .int .i64 MA, .int .i64 UA, .int .i64 dB, .bool eB] (0, 0) _ rfl (by (with_reducible repeat (first | refine blk_drewN ?_ _ | refine blk_drew ?_ | refine blk_alloc ?_ _)); refine blk_put (cs := #[.int .i64 oA, .int .i64 rA, .int .i64 uA, .int .i64 xA, .int .i64 BA, .int .i64 GA, .int .i64 MA, .int .i64 UA, .int .i64 dB, .bool false]) ?_ 9 _ rfl; (with_reducible repeat (first | refine blk_drewN ?_ _ | refine blk_drew ?_ | refine blk_alloc ?_ _)); refine blk_put (cs := #[.int .i64 oA, .int .i64 rA, .int .i64 uA, .int .i64 xA, .int .i64 BA, .int .i64 GA, .int .i64 MA, .int .i64 UA, .int .i64 0, .bool false]) ?_ 8 _ rfl; (with_reducible repeat (first | refine blk_drewN ?_ _ | refine blk_drew ?_ | refine blk_alloc ?_ _)); refine blk_put (cs := #[.int .i64 oA, .int .i64 rA, .int .i64 uA, .int .i64 xA, .int .i64 BA, .int .i64 GA, .int .i64 MA, .int .i64 0, .int .i64 0, .bool false]) ?_ 7 _ rfl; (with_reducible repeat (first | refine blk_drewN ?_ _ | refine blk_drew ?_ | refine blk_alloc ?_ _)); refine blk_put (cs := #[.int .i64 oA, .int .i64 rA, .int .i64 uA, .int .i64 xA, .int .i64 BA, .int .i64 GA, .int .i64 0, .int .i64 0, .int .i64 0, .bool false]) ?_ 6 _ rfl; (with_reducible repeat (first | refine blk_drewN ?_ _ | refine blk_drew ?_ | refine blk_alloc ?_ _)); refine blk_put (cs := #[.int .i64 oA, .int .i64 rA, .int .i64 uA, .int .i64 xA, .int .i64 BA, .int .i64 0, .int .i64 0, .int .i64 0, .int .i64 0, .bool false]) ?_ 5 _ rfl; (with_reducible repeat (first | refine blk_drewN ?_ _ | refine blk_drew ?_ | refine blk_alloc ?_ _)); refine blk_put (cs := #[.int .i64 oA, .int .i64 rA, .int .i64 uA, .int .i64 xA, .int .i64 0, .int .i64 0, .int .i64 0, .int .i64 0, .int .i64 0, .bool false]) ?_ 4 _ rfl; (with_reducible repeat (first | refine blk_drewN ?_ _ | refine blk_drew ?_ | refine blk_alloc ?_ _)); refine blk_put (cs := #[.int .i64 oA, .int .i64 rA, .int .i64 uA, .int .i64 0, .int .i64 0, .int .i64 0, .int .i64 0, .int .i64 0, .int .i64 0, .bool false]) ?_ 3 _ rfl; (with_reducible repeat (first | refine blk_drewN ?_ _ | refine blk_drew ?_ | refine blk_alloc ?_ _)); refine blk_put (cs := #[.int .i64 oA, .int .i64 rA, .int .i64 0, .int .i64 0, .int .i64 0, .int .i64 0, .int .i64 0, .int .i64 0, .int .i64 0, .bool false]) ?_ 2 _ rfl; (with_reducible repeat (first | refine blk_drewN ?_ _ | refine blk_drew ?_ | refine blk_alloc ?_ _)); refine blk_put (cs := #[.int .i64 oA, .int .i64 0, .int .i64 0, .int .i64 0, .int .i64 0, .int .i64 0, .int .i64 0, .int .i64 0, .int .i64 0, .bool false]) ?_ 1 _ rfl; (with_reducible repeat (first | refine blk_drewN ?_ _ | refine blk_drew ?_ | refine blk_alloc ?_ _)); refine blk_put (cs := #[.int .i64 0, .int .i64 0, .int .i64 0, .int .i64 0, .int .i64 0, .int .i64 0, .int .i64 0, .int .i64 0, .int .i64 0, .bool false]) ?_ 0 _ rfl; (with_reducible repeat (first | refine blk_drewN ?_ _ | refine blk_drew ?_ | refine blk_alloc ?_ _)); refine blk_far ?_ qB.out _; (with_reducible repeat (first | refine blk_drewN ?_ _ | refine blk_drew ?_ | refine blk_alloc ?_ _)); exact eA.out) Try.underlying23 rfl (by kernel_rfl) (.tmp .nil)))) rfl ?_
      exact ⟨_, by first | rfl | (simp [errW_none, errW_some] <;> rfl) | (simp [*, errW_none, errW_some] <;> rfl), by (with_reducible repeat (first | apply Kd.R_alloc | apply Kd.R_drewN | apply Kd.R_drew)); exact Kd.R_mono (Kd.R_far (p := ⟨cA, 9, none⟩) (Kd.R_far (p := ⟨cA, 8, none⟩) (Kd.R_far (p := ⟨cA, 7, none⟩) (Kd.R_far (p := ⟨cA, 6, none⟩) (Kd.R_far (p := ⟨cA, 5, none⟩) (Kd.R_far (p := ⟨cA, 4, none⟩) (Kd.R_far (p := ⟨cA, 3, none⟩) (Kd.R_far (p := ⟨cA, 2, none⟩) (Kd.R_far (p := ⟨cA, 1, none⟩) (Kd.R_far (p := ⟨cA, 0, none⟩) (Kd.R_far (p := ⟨kA, 0, none⟩) (Kd.R_types (Kd.R_types mA.out wA.out (by decide)) eA.out (by decide)) (fun _ hk => hk.1.2) (.slice CB fB.length DB)) (fun _ hk => hk.2) (.int .i64 oA)) (fun _ hk => hk.2) (.int .i64 rA)) (fun _ hk => hk.2) (.int .i64 uA)) (fun _ hk => hk.2) (.int .i64 xA)) (fun _ hk => hk.2) (.int .i64 BA)) (fun _ hk => hk.2) (.int .i64 GA)) (fun _ hk => hk.2) (.int .i64 MA)) (fun _ hk => hk.2) (.int .i64 UA)) (fun _ hk => hk.2) (.int .i64 dB)) (fun _ hk => hk.2) (.bool eB)) (fun _ hk => trivial), q5_0⟩

end Go.Proofs.Ytfahmmlkcmadeaa.PFnExactRiStep
