-- Written by the session's own patched copy of the printer (wip/patch_print.py).
import Derived.Test.YtfahmmlkcmadeaaPFnRingOnex0
import Derived.Test.YtfahmmlkcmadeaaPFnRingOnex1
import Derived.Test.YtfahmmlkcmadeaaPFnRingOnex4
import Derived.Test.YtfahmmlkcmadeaaPFnRingOnex5
import Derived.Test.YtfahmmlkcmadeaaPFnRingOnex6
namespace Go.Proofs.Ytfahmmlkcmadeaa.PFnRingOne
open Go.RowKit Go.Proofs.YtfahmmlkcmadeaaW.PrintWords Go.Proofs.YtfahmmlkcmadeaaW.PrintLast Go.Proofs.YtfahmmlkcmadeaaW.PrintMore
attribute [local go_sem] max2_int min2_int max_two min_two max_three min_three max_four min_four   -- for this text's walks alone
set_option linter.unusedVariables false
set_option linter.unusedSimpArgs false

theorem q7_0 {p : Prop} (h : p := by (with_reducible repeat (first | refine blk_drewN ?_ _ | refine blk_drew ?_ | refine blk_alloc ?_ _)); refine blk_put (cs := #[.int .i64 XA, .int .i64 YA, .int .i64 ZA, .int .i64 bB, .int .i64 cB, .int .i64 dB, .int .i64 eB, .int .i64 fB, .int .i64 gB, .bool false]) ?_ 9 _ rfl; (with_reducible repeat (first | refine blk_drewN ?_ _ | refine blk_drew ?_ | refine blk_alloc ?_ _)); refine blk_put (cs := #[.int .i64 XA, .int .i64 YA, .int .i64 ZA, .int .i64 bB, .int .i64 cB, .int .i64 dB, .int .i64 eB, .int .i64 fB, .int .i64 0, .bool false]) ?_ 8 _ rfl; (with_reducible repeat (first | refine blk_drewN ?_ _ | refine blk_drew ?_ | refine blk_alloc ?_ _)); refine blk_put (cs := #[.int .i64 XA, .int .i64 YA, .int .i64 ZA, .int .i64 bB, .int .i64 cB, .int .i64 dB, .int .i64 eB, .int .i64 0, .int .i64 0, .bool false]) ?_ 7 _ rfl; (with_reducible repeat (first | refine blk_drewN ?_ _ | refine blk_drew ?_ | refine blk_alloc ?_ _)); refine blk_put (cs := #[.int .i64 XA, .int .i64 YA, .int .i64 ZA, .int .i64 bB, .int .i64 cB, .int .i64 dB, .int .i64 0, .int .i64 0, .int .i64 0, .bool false]) ?_ 6 _ rfl; (with_reducible repeat (first | refine blk_drewN ?_ _ | refine blk_drew ?_ | refine blk_alloc ?_ _)); refine blk_put (cs := #[.int .i64 XA, .int .i64 YA, .int .i64 ZA, .int .i64 bB, .int .i64 cB, .int .i64 0, .int .i64 0, .int .i64 0, .int .i64 0, .bool false]) ?_ 5 _ rfl; (with_reducible repeat (first | refine blk_drewN ?_ _ | refine blk_drew ?_ | refine blk_alloc ?_ _)); refine blk_put (cs := #[.int .i64 XA, .int .i64 YA, .int .i64 ZA, .int .i64 bB, .int .i64 0, .int .i64 0, .int .i64 0, .int .i64 0, .int .i64 0, .bool false]) ?_ 4 _ rfl; (with_reducible repeat (first | refine blk_drewN ?_ _ | refine blk_drew ?_ | refine blk_alloc ?_ _)); refine blk_put (cs := #[.int .i64 XA, .int .i64 YA, .int .i64 ZA, .int .i64 0, .int .i64 0, .int .i64 0, .int .i64 0, .int .i64 0, .int .i64 0, .bool false]) ?_ 3 _ rfl; (with_reducible repeat (first | refine blk_drewN ?_ _ | refine blk_drew ?_ | refine blk_alloc ?_ _)); refine blk_put (cs := #[.int .i64 XA, .int .i64 YA, .int .i64 0, .int .i64 0, .int .i64 0, .int .i64 0, .int .i64 0, .int .i64 0, .int .i64 0, .bool false]) ?_ 2 _ rfl; (with_reducible repeat (first | refine blk_drewN ?_ _ | refine blk_drew ?_ | refine blk_alloc ?_ _)); refine blk_put (cs := #[.int .i64 XA, .int .i64 0, .int .i64 0, .int .i64 0, .int .i64 0, .int .i64 0, .int .i64 0, .int .i64 0, .int .i64 0, .bool false]) ?_ 1 _ rfl; (with_reducible repeat (first | refine blk_drewN ?_ _ | refine blk_drew ?_ | refine blk_alloc ?_ _)); refine blk_put (cs := #[.int .i64 0, .int .i64 0, .int .i64 0, .int .i64 0, .int .i64 0, .int .i64 0, .int .i64 0, .int .i64 0, .int .i64 0, .bool false]) ?_ 0 _ rfl; (with_reducible repeat (first | refine blk_drewN ?_ _ | refine blk_drew ?_ | refine blk_alloc ?_ _)); exact aA.out) : p := h
theorem q7_1 {p : Prop} (h : p := by repeat (first | (with_reducible first | exact HB.out | apply below_alloc | apply pw_below_drewN | apply below_drew1 | refine below_set ?_ iE.out | refine below_set ?_ NE.out) | exact HB.out)) : p := h
theorem q7_2 {p : Prop} (h : p := by (with_reducible repeat (first | refine blk_drewN ?_ _ | refine blk_drew ?_ | refine blk_alloc ?_ _)); exact oA.out) : p := h
theorem q7_3 {p : Prop} (h : p := by (with_reducible repeat (first | refine blk_drewN ?_ _ | refine blk_drew ?_ | refine blk_alloc ?_ _)); refine blk_far ?_ qA.out _; (with_reducible repeat (first | refine blk_drewN ?_ _ | refine blk_drew ?_ | refine blk_alloc ?_ _)); refine blk_far ?_ qA.out _; (with_reducible repeat (first | refine blk_drewN ?_ _ | refine blk_drew ?_ | refine blk_alloc ?_ _)); refine blk_far ?_ qA.out _; (with_reducible repeat (first | refine blk_drewN ?_ _ | refine blk_drew ?_ | refine blk_alloc ?_ _)); refine blk_far ?_ qA.out _; (with_reducible repeat (first | refine blk_drewN ?_ _ | refine blk_drew ?_ | refine blk_alloc ?_ _)); refine blk_far ?_ qA.out _; (with_reducible repeat (first | refine blk_drewN ?_ _ | refine blk_drew ?_ | refine blk_alloc ?_ _)); refine blk_far ?_ qA.out _; (with_reducible repeat (first | refine blk_drewN ?_ _ | refine blk_drew ?_ | refine blk_alloc ?_ _)); refine blk_far ?_ qA.out _; (with_reducible repeat (first | refine blk_drewN ?_ _ | refine blk_drew ?_ | refine blk_alloc ?_ _)); refine blk_far ?_ qA.out _; (with_reducible repeat (first | refine blk_drewN ?_ _ | refine blk_drew ?_ | refine blk_alloc ?_ _)); refine blk_far ?_ qA.out _; (with_reducible repeat (first | refine blk_drewN ?_ _ | refine blk_drew ?_ | refine blk_alloc ?_ _)); refine blk_far ?_ qA.out _; (with_reducible repeat (first | refine blk_drewN ?_ _ | refine blk_drew ?_ | refine blk_alloc ?_ _)); exact oA.out) : p := h
theorem q7_4 {p : Prop} (h : p := by repeat (first | (with_reducible first | exact HB.out | apply below_alloc | apply pw_below_drewN | apply below_drew1 | refine below_set ?_ iE.out) | exact HB.out)) : p := h
theorem q7_5 {p : Prop} (h : p := by (with_reducible repeat (first | refine blk_drewN ?_ _ | refine blk_drew ?_ | refine blk_alloc ?_ _)); exact aA.out) : p := h
theorem q7_6 {p : Prop} (h : p := by (with_reducible repeat (first | apply Kd.R_alloc | apply Kd.R_drewN | apply Kd.R_drew)); exact dA.out) : p := h
theorem q7_7 {p : Prop} (h : p := by (with_reducible repeat (first | apply Kd.R_alloc | apply Kd.R_drewN | apply Kd.R_drew)); exact wA.out) : p := h
theorem q7_8 {p : Prop} (h : p := by (with_reducible repeat (first | apply Kd.Q_alloc | apply Kd.Q_drewN | apply Kd.Q_drew)); exact xA.out) : p := h
theorem q7_9 {p : Prop} (h : p := by repeat (first | (with_reducible first | exact HB.out | apply below_alloc | apply pw_below_drewN | apply below_drew1) | exact HB.out)) : p := h
theorem q7_10 {p : Prop} (h : p := by (with_reducible repeat (first | apply Kd.R_alloc | apply Kd.R_drewN | apply Kd.R_drew)); exact (Kd.R_mono (Kd.R_far (p := ⟨bA, 9, none⟩) (Kd.R_far (p := ⟨bA, 8, none⟩) (Kd.R_far (p := ⟨bA, 7, none⟩) (Kd.R_far (p := ⟨bA, 6, none⟩) (Kd.R_far (p := ⟨bA, 5, none⟩) (Kd.R_far (p := ⟨bA, 4, none⟩) (Kd.R_far (p := ⟨bA, 3, none⟩) (Kd.R_far (p := ⟨bA, 2, none⟩) (Kd.R_far (p := ⟨bA, 1, none⟩) (Kd.R_far (p := ⟨bA, 0, none⟩) (Kd.R_types dA.out aA.out (by decide)) (fun _ hk => hk.2) (.int .i64 XA)) (fun _ hk => hk.2) (.int .i64 YA)) (fun _ hk => hk.2) (.int .i64 ZA)) (fun _ hk => hk.2) (.int .i64 bB)) (fun _ hk => hk.2) (.int .i64 cB)) (fun _ hk => hk.2) (.int .i64 dB)) (fun _ hk => hk.2) (.int .i64 eB)) (fun _ hk => hk.2) (.int .i64 fB)) (fun _ hk => hk.2) (.int .i64 gB)) (fun _ hk => hk.2) (.bool hB)) (fun _ h_ => h_.1))) : p := h
theorem q7_11 {p : Prop} (h : p := by (with_reducible repeat (first | apply Kd.R_alloc | apply Kd.R_drewN | apply Kd.R_drew)); exact (Kd.R_mono (Kd.R_far (p := ⟨bA, 9, none⟩) (Kd.R_far (p := ⟨bA, 8, none⟩) (Kd.R_far (p := ⟨bA, 7, none⟩) (Kd.R_far (p := ⟨bA, 6, none⟩) (Kd.R_far (p := ⟨bA, 5, none⟩) (Kd.R_far (p := ⟨bA, 4, none⟩) (Kd.R_far (p := ⟨bA, 3, none⟩) (Kd.R_far (p := ⟨bA, 2, none⟩) (Kd.R_far (p := ⟨bA, 1, none⟩) (Kd.R_far (p := ⟨bA, 0, none⟩) (Kd.R_types wA.out aA.out (by decide)) (fun _ hk => hk.2) (.int .i64 XA)) (fun _ hk => hk.2) (.int .i64 YA)) (fun _ hk => hk.2) (.int .i64 ZA)) (fun _ hk => hk.2) (.int .i64 bB)) (fun _ hk => hk.2) (.int .i64 cB)) (fun _ hk => hk.2) (.int .i64 dB)) (fun _ hk => hk.2) (.int .i64 eB)) (fun _ hk => hk.2) (.int .i64 fB)) (fun _ hk => hk.2) (.int .i64 gB)) (fun _ hk => hk.2) (.bool hB)) (fun _ h_ => h_.1))) : p := h
theorem q7_12 {p : Prop} (h : p := by (with_reducible repeat (first | apply Kd.Q_alloc | apply Kd.Q_drewN | apply Kd.Q_drew)); exact (Kd.Q_mono (Kd.Q_far (p := ⟨bA, 9, none⟩) (Kd.Q_far (p := ⟨bA, 8, none⟩) (Kd.Q_far (p := ⟨bA, 7, none⟩) (Kd.Q_far (p := ⟨bA, 6, none⟩) (Kd.Q_far (p := ⟨bA, 5, none⟩) (Kd.Q_far (p := ⟨bA, 4, none⟩) (Kd.Q_far (p := ⟨bA, 3, none⟩) (Kd.Q_far (p := ⟨bA, 2, none⟩) (Kd.Q_far (p := ⟨bA, 1, none⟩) (Kd.Q_far (p := ⟨bA, 0, none⟩) (Kd.Q_types xA.out aA.out (by decide)) (fun _ hk => hk.2) (.int .i64 XA)) (fun _ hk => hk.2) (.int .i64 YA)) (fun _ hk => hk.2) (.int .i64 ZA)) (fun _ hk => hk.2) (.int .i64 bB)) (fun _ hk => hk.2) (.int .i64 cB)) (fun _ hk => hk.2) (.int .i64 dB)) (fun _ hk => hk.2) (.int .i64 eB)) (fun _ hk => hk.2) (.int .i64 fB)) (fun _ hk => hk.2) (.int .i64 gB)) (fun _ hk => hk.2) (.bool hB)) (fun _ h_ => h_.1))) : p := h
theorem q7_13 {p : Prop} (h : p := by repeat (first | (with_reducible first | exact HB.out | apply below_alloc | apply pw_below_drewN | apply below_drew1 | refine below_set ?_ iE.out | refine below_set ?_ NE.out | refine below_set ?_ WE.out) | exact HB.out)) : p := h
theorem q7_14 {p : Prop} (h : p := by rw [hg]; exact Nat.ne_of_lt (blk_lt (g := bA) (o := .cells #[.int .i64 fA, .int .i64 mA, .int .i64 lA, .int .i64 jA, .int .i64 iA, .int .i64 hA, .int .i64 gA, .int .i64 cA, .int .i64 eA, .bool nA] 23 (0, 0)) q7_5)) : p := h
theorem q7_15 {p : Prop} (h : p := by rw [hg]; exact Nat.ne_of_gt (blk_lt (g := bA) (o := .cells #[.int .i64 fA, .int .i64 mA, .int .i64 lA, .int .i64 jA, .int .i64 iA, .int .i64 hA, .int .i64 gA, .int .i64 cA, .int .i64 eA, .bool nA] 23 (0, 0)) q7_5)) : p := h
theorem q7_16 {p : Prop} (h : p := by (with_reducible repeat (first | apply Kd.R_alloc | apply Kd.R_drewN | apply Kd.R_drew)); exact (Kd.R_mono (Kd.R_far (p := ⟨sA, 0, none⟩) (Kd.R_types LA.out oA.out (by decide)) (fun _ hk => hk.2) (.slice fE LC.length gE)) (fun _ h_ => h_.1))) : p := h
theorem q7_17 {p : Prop} (h : p := by (with_reducible repeat (first | refine blk_drewN ?_ _ | refine blk_drew ?_ | refine blk_alloc ?_ _)); exact WA.out) : p := h
theorem q7_18 {p : Prop} (h : p := by repeat (first | exact (Kd.R_reads' dA.out).2.2 | (with_reducible refine Kd.C_alloc ?_ _) | (with_reducible refine Kd.C_drewN ?_ _) | (with_reducible refine Kd.C_drew ?_))) : p := h
theorem q7_19 {p : Prop} (h : p := by (with_reducible repeat (first | apply Kd.R_alloc | apply Kd.R_drewN | apply Kd.R_drew)); exact LA.out) : p := h
theorem q7_20 {p : Prop} (h : p := by rw [hg]; exact Nat.ne_of_lt (blk_lt (g := sA) (o := .cells #[.slice TC kA.length UC] 29 (0, 0)) q7_2)) : p := h
theorem q7_21 {p : Prop} (h : p := by rw [hg]; exact Nat.ne_of_gt (blk_lt (g := sA) (o := .cells #[.slice TC kA.length UC] 29 (0, 0)) q7_2)) : p := h
theorem q7_22 {p : Prop} (h : p := by (with_reducible repeat (first | refine blk_drewN ?_ _ | refine blk_drew ?_ | refine blk_alloc ?_ _)); refine blk_put (cs := #[.slice none 0 0]) ?_ 0 _ rfl; (with_reducible repeat (first | refine blk_drewN ?_ _ | refine blk_drew ?_ | refine blk_alloc ?_ _)); exact oA.out) : p := h
theorem q7_23 {p : Prop} (h : p := by (with_reducible repeat (first | apply Kd.R_alloc | apply Kd.R_drewN | apply Kd.R_drew)); exact OC.out) : p := h
theorem q7_24 {p : Prop} (h : p := by (with_reducible repeat (first | apply Kd.R_alloc | apply Kd.R_drewN | apply Kd.R_drew)); exact SA.out) : p := h
theorem q7_25 {p : Prop} (h : p := by (with_reducible repeat (first | apply Kd.R_alloc | apply Kd.R_drewN | apply Kd.R_drew)); exact Kd.R_mono dA.out (fun _ hk => ⟨hk.2, hk.1⟩)) : p := h
theorem q7_26 {p : Prop} (h : p := by (with_reducible repeat (first | apply Kd.R_alloc | apply Kd.R_drewN | apply Kd.R_drew)); exact Kd.R_mono wA.out (fun _ hk => ⟨hk.2, hk.1⟩)) : p := h
theorem q7_27 {p : Prop} (h : p := by have := HK1.out; have := HJ19.out; have := HK3.out; have := HJ29.out; have := HJ55.out; first | omega | exact Nat.le_refl _) : p := h
theorem q7_28 {p : Prop} (h : p := by repeat (first | exact (Kd.C_below HR0.out HB.out) | (with_reducible refine Kd.C_alloc ?_ _) | (with_reducible refine Kd.C_drewN ?_ _) | (with_reducible refine Kd.C_drew ?_))) : p := h
theorem q7_29 {p : Prop} (h : p := by repeat (first | exact (Kd.R_reads' XC.out).2.2 | (with_reducible refine Kd.C_alloc ?_ _) | (with_reducible refine Kd.C_drewN ?_ _) | (with_reducible refine Kd.C_drew ?_))) : p := h
theorem q7_30 {p : Prop} (h : p := by repeat (first | exact (Kd.Q_reads' xA.out).2.2 | (with_reducible refine Kd.C_alloc ?_ _) | (with_reducible refine Kd.C_drewN ?_ _) | (with_reducible refine Kd.C_drew ?_))) : p := h
theorem q7_31 {p : Prop} (h : p := by first | rfl | (simp; done) | (simp [*]; done)) : p := h
theorem q7_32 {p : Prop} (h : p := by repeat (first | exact HR0.out | (with_reducible refine Kd.C_alloc ?_ _) | (with_reducible refine Kd.C_drewN ?_ _) | (with_reducible refine Kd.C_drew ?_))) : p := h
/-! ### laws_FnRingOne: function 14 -/
mutual
def laws_FnRingOne.l0 : Nat → Int → List Int → List Int → Int → Int → List Int → Option (Bool)
 | 0, _, _, _, _, _, _ => none
 | k + 1, x3, x6, x29, x30, x31, GA => if x31 < x30 then (if 0 ≤ x31 then (if x31 < (x29.length : Int) then ((impl_RiCall.f 2 0).bind fun PC => (if (Int.tmod (rd x29 x31) 2) = 0 then ((impl_RiCall.f 1 (wrap64 (100 + x31))).bind fun QA => (laws_FnRingOne.j1 k x3 x6 x31 x29 x30 x31 GA QA.1 QA.2.1 QA.2.2.1 QA.2.2.2.1 QA.2.2.2.2.1 QA.2.2.2.2.2.1 QA.2.2.2.2.2.2.1 QA.2.2.2.2.2.2.2.1 QA.2.2.2.2.2.2.2.2.1 QA.2.2.2.2.2.2.2.2.2)) else (laws_FnRingOne.j1 k x3 x6 x31 x29 x30 x31 GA PC.1 PC.2.1 PC.2.2.1 PC.2.2.2.1 PC.2.2.2.2.1 PC.2.2.2.2.2.1 PC.2.2.2.2.2.2.1 PC.2.2.2.2.2.2.2.1 PC.2.2.2.2.2.2.2.2.1 PC.2.2.2.2.2.2.2.2.2))) else (none)) else (none)) else (some ((GA.length : Int) == (wrap64 (2 + (wrap64 (2 * x3))))))
def laws_FnRingOne.j1 : Nat → Int → List Int → Int → List Int → Int → Int → List Int → Int → Int → Int → Int → Int → Int → Int → Int → Int → Bool → Option (Bool)
 | 0, _, _, _, _, _, _, _, _, _, _, _, _, _, _, _, _, _ => none
 | k + 1, x3, x6, x7, x29, x30, x31, GA, TA, jB, kB, lB, mB, nB, oB, NA, iB, UA => laws_FnRingOne.l1 k x3 x6 x7 0 x29 x30 x31 GA TA jB kB lB mB nB oB NA iB UA
def laws_FnRingOne.l1 : Nat → Int → List Int → Int → Int → List Int → Int → Int → List Int → Int → Int → Int → Int → Int → Int → Int → Int → Int → Bool → Option (Bool)
 | 0, _, _, _, _, _, _, _, _, _, _, _, _, _, _, _, _, _, _ => none
 | k + 1, x3, x6, x7, x10, x29, x30, x31, GA, TA, jB, kB, lB, mB, nB, oB, NA, iB, UA => if x10 < 5 then (laws_FnRingOne.j3 k x3 x6 x7 x10 x29 x30 x31 (!UA) GA TA jB kB lB mB nB oB NA iB UA) else (laws_FnRingOne.j3 k x3 x6 x7 x10 x29 x30 x31 false GA TA jB kB lB mB nB oB NA iB UA)
def laws_FnRingOne.j3 : Nat → Int → List Int → Int → Int → List Int → Int → Int → Bool → List Int → Int → Int → Int → Int → Int → Int → Int → Int → Int → Bool → Option (Bool)
 | 0, _, _, _, _, _, _, _, _, _, _, _, _, _, _, _, _, _, _, _ => none
 | k + 1, x3, x6, x7, x10, x29, x30, x31, x49, GA, TA, jB, kB, lB, mB, nB, oB, NA, iB, UA => if x49 = true then ((impl_RiStep.f k x3 GA TA jB kB lB mB nB oB NA iB UA).bind fun MA => (if MA.2.2.2.2.2.2.2.2.2.2.2 = true then (laws_FnRingOne.l1 k x3 x6 x7 (wrap64 (x10 + 1)) x29 x30 x31 MA.1 MA.2.1 MA.2.2.1 MA.2.2.2.1 MA.2.2.2.2.1 MA.2.2.2.2.2.1 MA.2.2.2.2.2.2.1 MA.2.2.2.2.2.2.2.1 MA.2.2.2.2.2.2.2.2.1 MA.2.2.2.2.2.2.2.2.2.1 MA.2.2.2.2.2.2.2.2.2.2.1) else (some false))) else (if UA = true then (if TA = 1 then (laws_FnRingOne.j4 k x3 x6 x7 x29 x30 x31 ((x6.length : Int) == x3) GA TA jB kB lB mB nB oB NA iB UA) else (laws_FnRingOne.j4 k x3 x6 x7 x29 x30 x31 false GA TA jB kB lB mB nB oB NA iB UA)) else (some false))
def laws_FnRingOne.j5 : Nat → Int → List Int → List Int → Int → Int → List Int → Option (Bool)
 | 0, _, _, _, _, _, _ => none
 | k + 1, x3, x6, x29, x30, x31, GA => (impl_RiItems.f k x3 GA).bind fun mE => ((laws_sameInts.f k mE x6).bind fun CG => (if CG = true then (laws_FnRingOne.l0 k x3 x6 x29 x30 (wrap64 (x31 + 1)) GA) else (some false)))
def laws_FnRingOne.j4 : Nat → Int → List Int → Int → List Int → Int → Int → Bool → List Int → Int → Int → Int → Int → Int → Int → Int → Int → Int → Bool → Option (Bool)
 | 0, _, _, _, _, _, _, _, _, _, _, _, _, _, _, _, _, _, _ => none
 | k + 1, x3, x6, x7, x29, x30, x31, x81, GA, TA, jB, kB, lB, mB, nB, oB, NA, iB, UA => if x81 = true then (if NA = 3 then (laws_FnRingOne.j5 k x3 x6 x29 x30 x31 GA) else (some false)) else (if TA = 1 then (if NA = 1 then (if x6.length < 17592186044416 then (laws_FnRingOne.j5 k x3 (x6 ++ [wrap64 (100 + x7)]) x29 x30 x31 GA) else (none)) else (some false)) else (if (x6.length : Int) = 0 then (if NA = 2 then (laws_FnRingOne.j5 k x3 x6 x29 x30 x31 GA) else (some false)) else (if NA = 1 then (if 0 < (x6.length : Int) then (if iB = (rd x6 0) then (if 1 ≤ (x6.length : Int) then (laws_FnRingOne.j5 k x3 (x6.drop (1 : Int).toNat) x29 x30 x31 GA) else (none)) else (some false)) else (none)) else (some false))))
end
def laws_FnRingOne.f (k : Nat) (l0 : List Int) : Option (Bool) := if (l0.length : Int) > 1048576 then (some true) else ((spec_MakeNum.f k l0 3).bind fun EA => ((impl_RiNew.f k (wrap64 (2 + EA))).bind fun eD => (if eD.2 = true then ((spec_MakePicks.f k l0 24).bind fun tA => (laws_FnRingOne.l0 k (wrap64 (2 + EA)) (([] : List Int)) tA (tA.length : Int) 0 eD.1)) else (some false))))
theorem laws_FnRingOne.mono_l : ∀ k, (∀ y0 y1 y2 y3 y4 y5, LeO (laws_FnRingOne.l0 k y0 y1 y2 y3 y4 y5) (laws_FnRingOne.l0 (k + 1) y0 y1 y2 y3 y4 y5)) ∧ (∀ y0 y1 y2 y3 y4 y5 y6 y7 y8 y9 y10 y11 y12 y13 y14 y15 y16, LeO (laws_FnRingOne.j1 k y0 y1 y2 y3 y4 y5 y6 y7 y8 y9 y10 y11 y12 y13 y14 y15 y16) (laws_FnRingOne.j1 (k + 1) y0 y1 y2 y3 y4 y5 y6 y7 y8 y9 y10 y11 y12 y13 y14 y15 y16)) ∧ (∀ y0 y1 y2 y3 y4 y5 y6 y7 y8 y9 y10 y11 y12 y13 y14 y15 y16 y17, LeO (laws_FnRingOne.l1 k y0 y1 y2 y3 y4 y5 y6 y7 y8 y9 y10 y11 y12 y13 y14 y15 y16 y17) (laws_FnRingOne.l1 (k + 1) y0 y1 y2 y3 y4 y5 y6 y7 y8 y9 y10 y11 y12 y13 y14 y15 y16 y17)) ∧ (∀ y0 y1 y2 y3 y4 y5 y6 y7 y8 y9 y10 y11 y12 y13 y14 y15 y16 y17 y18, LeO (laws_FnRingOne.j3 k y0 y1 y2 y3 y4 y5 y6 y7 y8 y9 y10 y11 y12 y13 y14 y15 y16 y17 y18) (laws_FnRingOne.j3 (k + 1) y0 y1 y2 y3 y4 y5 y6 y7 y8 y9 y10 y11 y12 y13 y14 y15 y16 y17 y18)) ∧ (∀ y0 y1 y2 y3 y4 y5, LeO (laws_FnRingOne.j5 k y0 y1 y2 y3 y4 y5) (laws_FnRingOne.j5 (k + 1) y0 y1 y2 y3 y4 y5)) ∧ (∀ y0 y1 y2 y3 y4 y5 y6 y7 y8 y9 y10 y11 y12 y13 y14 y15 y16 y17, LeO (laws_FnRingOne.j4 k y0 y1 y2 y3 y4 y5 y6 y7 y8 y9 y10 y11 y12 y13 y14 y15 y16 y17) (laws_FnRingOne.j4 (k + 1) y0 y1 y2 y3 y4 y5 y6 y7 y8 y9 y10 y11 y12 y13 y14 y15 y16 y17))
 | 0 => ⟨fun _ _ _ _ _ _ r h => by simp [laws_FnRingOne.l0] at h, fun _ _ _ _ _ _ _ _ _ _ _ _ _ _ _ _ _ r h => by simp [laws_FnRingOne.j1] at h, fun _ _ _ _ _ _ _ _ _ _ _ _ _ _ _ _ _ _ r h => by simp [laws_FnRingOne.l1] at h, fun _ _ _ _ _ _ _ _ _ _ _ _ _ _ _ _ _ _ _ r h => by simp [laws_FnRingOne.j3] at h, fun _ _ _ _ _ _ r h => by simp [laws_FnRingOne.j5] at h, fun _ _ _ _ _ _ _ _ _ _ _ _ _ _ _ _ _ _ r h => by simp [laws_FnRingOne.j4] at h⟩
 | k + 1 => by
  obtain ⟨ih0, ih1, ih2, ih3, ih4, ih5⟩ := laws_FnRingOne.mono_l k
  refine ⟨?_, ?_, ?_, ?_, ?_, ?_⟩
  ·intro y0 y1 y2 y3 y4 y5
   unfold laws_FnRingOne.l0
   repeat' first
   | (with_reducible exact ih0 _ _ _ _ _ _)
   | (with_reducible exact ih1 _ _ _ _ _ _ _ _ _ _ _ _ _ _ _ _ _)
   | (with_reducible exact ih2 _ _ _ _ _ _ _ _ _ _ _ _ _ _ _ _ _ _)
   | (with_reducible exact ih3 _ _ _ _ _ _ _ _ _ _ _ _ _ _ _ _ _ _ _)
   | (with_reducible exact ih4 _ _ _ _ _ _)
   | (with_reducible exact ih5 _ _ _ _ _ _ _ _ _ _ _ _ _ _ _ _ _ _)
   | (with_reducible exact impl_RiItems.mono _ _ _)
   | (with_reducible exact impl_RiNew.mono _ _)
   | (with_reducible exact impl_RiStep.mono _ _ _ _ _ _ _ _ _ _ _ _ _)
   | (with_reducible exact laws_sameInts.mono _ _ _)
   | (with_reducible exact spec_MakeNum.mono _ _ _)
   | (with_reducible exact spec_MakePicks.mono _ _ _)
   | (with_reducible exact LeO.refl _)
   | (with_reducible exact LeO.none _)
   | (with_reducible refine LeO.ite ?_ ?_)
   | (with_reducible refine LeO.bind ?_ (fun _ => ?_))
   | exact ih0 _ _ _ _ _ _
   | exact ih1 _ _ _ _ _ _ _ _ _ _ _ _ _ _ _ _ _
   | exact ih2 _ _ _ _ _ _ _ _ _ _ _ _ _ _ _ _ _ _
   | exact ih3 _ _ _ _ _ _ _ _ _ _ _ _ _ _ _ _ _ _ _
   | exact ih4 _ _ _ _ _ _
   | exact ih5 _ _ _ _ _ _ _ _ _ _ _ _ _ _ _ _ _ _
   | exact impl_RiItems.mono _ _ _
   | exact impl_RiNew.mono _ _
   | exact impl_RiStep.mono _ _ _ _ _ _ _ _ _ _ _ _ _
   | exact laws_sameInts.mono _ _ _
   | exact spec_MakeNum.mono _ _ _
   | exact spec_MakePicks.mono _ _ _
   | exact LeO.none _
   | refine LeO.ite ?_ ?_
   | refine LeO.bind ?_ (fun _ => ?_)
  ·intro y0 y1 y2 y3 y4 y5 y6 y7 y8 y9 y10 y11 y12 y13 y14 y15 y16
   unfold laws_FnRingOne.j1
   repeat' first
   | (with_reducible exact ih0 _ _ _ _ _ _)
   | (with_reducible exact ih1 _ _ _ _ _ _ _ _ _ _ _ _ _ _ _ _ _)
   | (with_reducible exact ih2 _ _ _ _ _ _ _ _ _ _ _ _ _ _ _ _ _ _)
   | (with_reducible exact ih3 _ _ _ _ _ _ _ _ _ _ _ _ _ _ _ _ _ _ _)
   | (with_reducible exact ih4 _ _ _ _ _ _)
   | (with_reducible exact ih5 _ _ _ _ _ _ _ _ _ _ _ _ _ _ _ _ _ _)
   | (with_reducible exact impl_RiItems.mono _ _ _)
   | (with_reducible exact impl_RiNew.mono _ _)
   | (with_reducible exact impl_RiStep.mono _ _ _ _ _ _ _ _ _ _ _ _ _)
   | (with_reducible exact laws_sameInts.mono _ _ _)
   | (with_reducible exact spec_MakeNum.mono _ _ _)
   | (with_reducible exact spec_MakePicks.mono _ _ _)
   | (with_reducible exact LeO.refl _)
   | (with_reducible exact LeO.none _)
   | (with_reducible refine LeO.ite ?_ ?_)
   | (with_reducible refine LeO.bind ?_ (fun _ => ?_))
   | exact ih0 _ _ _ _ _ _
   | exact ih1 _ _ _ _ _ _ _ _ _ _ _ _ _ _ _ _ _
   | exact ih2 _ _ _ _ _ _ _ _ _ _ _ _ _ _ _ _ _ _
   | exact ih3 _ _ _ _ _ _ _ _ _ _ _ _ _ _ _ _ _ _ _
   | exact ih4 _ _ _ _ _ _
   | exact ih5 _ _ _ _ _ _ _ _ _ _ _ _ _ _ _ _ _ _
   | exact impl_RiItems.mono _ _ _
   | exact impl_RiNew.mono _ _
   | exact impl_RiStep.mono _ _ _ _ _ _ _ _ _ _ _ _ _
   | exact laws_sameInts.mono _ _ _
   | exact spec_MakeNum.mono _ _ _
   | exact spec_MakePicks.mono _ _ _
   | exact LeO.none _
   | refine LeO.ite ?_ ?_
   | refine LeO.bind ?_ (fun _ => ?_)
  ·intro y0 y1 y2 y3 y4 y5 y6 y7 y8 y9 y10 y11 y12 y13 y14 y15 y16 y17
   unfold laws_FnRingOne.l1
   repeat' first
   | (with_reducible exact ih0 _ _ _ _ _ _)
   | (with_reducible exact ih1 _ _ _ _ _ _ _ _ _ _ _ _ _ _ _ _ _)
   | (with_reducible exact ih2 _ _ _ _ _ _ _ _ _ _ _ _ _ _ _ _ _ _)
   | (with_reducible exact ih3 _ _ _ _ _ _ _ _ _ _ _ _ _ _ _ _ _ _ _)
   | (with_reducible exact ih4 _ _ _ _ _ _)
   | (with_reducible exact ih5 _ _ _ _ _ _ _ _ _ _ _ _ _ _ _ _ _ _)
   | (with_reducible exact impl_RiItems.mono _ _ _)
   | (with_reducible exact impl_RiNew.mono _ _)
   | (with_reducible exact impl_RiStep.mono _ _ _ _ _ _ _ _ _ _ _ _ _)
   | (with_reducible exact laws_sameInts.mono _ _ _)
   | (with_reducible exact spec_MakeNum.mono _ _ _)
   | (with_reducible exact spec_MakePicks.mono _ _ _)
   | (with_reducible exact LeO.refl _)
   | (with_reducible exact LeO.none _)
   | (with_reducible refine LeO.ite ?_ ?_)
   | (with_reducible refine LeO.bind ?_ (fun _ => ?_))
   | exact ih0 _ _ _ _ _ _
   | exact ih1 _ _ _ _ _ _ _ _ _ _ _ _ _ _ _ _ _
   | exact ih2 _ _ _ _ _ _ _ _ _ _ _ _ _ _ _ _ _ _
   | exact ih3 _ _ _ _ _ _ _ _ _ _ _ _ _ _ _ _ _ _ _
   | exact ih4 _ _ _ _ _ _
   | exact ih5 _ _ _ _ _ _ _ _ _ _ _ _ _ _ _ _ _ _
   | exact impl_RiItems.mono _ _ _
   | exact impl_RiNew.mono _ _
   | exact impl_RiStep.mono _ _ _ _ _ _ _ _ _ _ _ _ _
   | exact laws_sameInts.mono _ _ _
   | exact spec_MakeNum.mono _ _ _
   | exact spec_MakePicks.mono _ _ _
   | exact LeO.none _
   | refine LeO.ite ?_ ?_
   | refine LeO.bind ?_ (fun _ => ?_)
  ·intro y0 y1 y2 y3 y4 y5 y6 y7 y8 y9 y10 y11 y12 y13 y14 y15 y16 y17 y18
   unfold laws_FnRingOne.j3
   repeat' first
   | (with_reducible exact ih0 _ _ _ _ _ _)
   | (with_reducible exact ih1 _ _ _ _ _ _ _ _ _ _ _ _ _ _ _ _ _)
   | (with_reducible exact ih2 _ _ _ _ _ _ _ _ _ _ _ _ _ _ _ _ _ _)
   | (with_reducible exact ih3 _ _ _ _ _ _ _ _ _ _ _ _ _ _ _ _ _ _ _)
   | (with_reducible exact ih4 _ _ _ _ _ _)
   | (with_reducible exact ih5 _ _ _ _ _ _ _ _ _ _ _ _ _ _ _ _ _ _)
   | (with_reducible exact impl_RiItems.mono _ _ _)
   | (with_reducible exact impl_RiNew.mono _ _)
   | (with_reducible exact impl_RiStep.mono _ _ _ _ _ _ _ _ _ _ _ _ _)
   | (with_reducible exact laws_sameInts.mono _ _ _)
   | (with_reducible exact spec_MakeNum.mono _ _ _)
   | (with_reducible exact spec_MakePicks.mono _ _ _)
   | (with_reducible exact LeO.refl _)
   | (with_reducible exact LeO.none _)
   | (with_reducible refine LeO.ite ?_ ?_)
   | (with_reducible refine LeO.bind ?_ (fun _ => ?_))
   | exact ih0 _ _ _ _ _ _
   | exact ih1 _ _ _ _ _ _ _ _ _ _ _ _ _ _ _ _ _
   | exact ih2 _ _ _ _ _ _ _ _ _ _ _ _ _ _ _ _ _ _
   | exact ih3 _ _ _ _ _ _ _ _ _ _ _ _ _ _ _ _ _ _ _
   | exact ih4 _ _ _ _ _ _
   | exact ih5 _ _ _ _ _ _ _ _ _ _ _ _ _ _ _ _ _ _
   | exact impl_RiItems.mono _ _ _
   | exact impl_RiNew.mono _ _
   | exact impl_RiStep.mono _ _ _ _ _ _ _ _ _ _ _ _ _
   | exact laws_sameInts.mono _ _ _
   | exact spec_MakeNum.mono _ _ _
   | exact spec_MakePicks.mono _ _ _
   | exact LeO.none _
   | refine LeO.ite ?_ ?_
   | refine LeO.bind ?_ (fun _ => ?_)
  ·intro y0 y1 y2 y3 y4 y5
   unfold laws_FnRingOne.j5
   repeat' first
   | (with_reducible exact ih0 _ _ _ _ _ _)
   | (with_reducible exact ih1 _ _ _ _ _ _ _ _ _ _ _ _ _ _ _ _ _)
   | (with_reducible exact ih2 _ _ _ _ _ _ _ _ _ _ _ _ _ _ _ _ _ _)
   | (with_reducible exact ih3 _ _ _ _ _ _ _ _ _ _ _ _ _ _ _ _ _ _ _)
   | (with_reducible exact ih4 _ _ _ _ _ _)
   | (with_reducible exact ih5 _ _ _ _ _ _ _ _ _ _ _ _ _ _ _ _ _ _)
   | (with_reducible exact impl_RiItems.mono _ _ _)
   | (with_reducible exact impl_RiNew.mono _ _)
   | (with_reducible exact impl_RiStep.mono _ _ _ _ _ _ _ _ _ _ _ _ _)
   | (with_reducible exact laws_sameInts.mono _ _ _)
   | (with_reducible exact spec_MakeNum.mono _ _ _)
   | (with_reducible exact spec_MakePicks.mono _ _ _)
   | (with_reducible exact LeO.refl _)
   | (with_reducible exact LeO.none _)
   | (with_reducible refine LeO.ite ?_ ?_)
   | (with_reducible refine LeO.bind ?_ (fun _ => ?_))
   | exact ih0 _ _ _ _ _ _
   | exact ih1 _ _ _ _ _ _ _ _ _ _ _ _ _ _ _ _ _
   | exact ih2 _ _ _ _ _ _ _ _ _ _ _ _ _ _ _ _ _ _
   | exact ih3 _ _ _ _ _ _ _ _ _ _ _ _ _ _ _ _ _ _ _
   | exact ih4 _ _ _ _ _ _
   | exact ih5 _ _ _ _ _ _ _ _ _ _ _ _ _ _ _ _ _ _
   | exact impl_RiItems.mono _ _ _
   | exact impl_RiNew.mono _ _
   | exact impl_RiStep.mono _ _ _ _ _ _ _ _ _ _ _ _ _
   | exact laws_sameInts.mono _ _ _
   | exact spec_MakeNum.mono _ _ _
   | exact spec_MakePicks.mono _ _ _
   | exact LeO.none _
   | refine LeO.ite ?_ ?_
   | refine LeO.bind ?_ (fun _ => ?_)
  ·intro y0 y1 y2 y3 y4 y5 y6 y7 y8 y9 y10 y11 y12 y13 y14 y15 y16 y17
   unfold laws_FnRingOne.j4
   repeat' first
   | (with_reducible exact ih0 _ _ _ _ _ _)
   | (with_reducible exact ih1 _ _ _ _ _ _ _ _ _ _ _ _ _ _ _ _ _)
   | (with_reducible exact ih2 _ _ _ _ _ _ _ _ _ _ _ _ _ _ _ _ _ _)
   | (with_reducible exact ih3 _ _ _ _ _ _ _ _ _ _ _ _ _ _ _ _ _ _ _)
   | (with_reducible exact ih4 _ _ _ _ _ _)
   | (with_reducible exact ih5 _ _ _ _ _ _ _ _ _ _ _ _ _ _ _ _ _ _)
   | (with_reducible exact impl_RiItems.mono _ _ _)
   | (with_reducible exact impl_RiNew.mono _ _)
   | (with_reducible exact impl_RiStep.mono _ _ _ _ _ _ _ _ _ _ _ _ _)
   | (with_reducible exact laws_sameInts.mono _ _ _)
   | (with_reducible exact spec_MakeNum.mono _ _ _)
   | (with_reducible exact spec_MakePicks.mono _ _ _)
   | (with_reducible exact LeO.refl _)
   | (with_reducible exact LeO.none _)
   | (with_reducible refine LeO.ite ?_ ?_)
   | (with_reducible refine LeO.bind ?_ (fun _ => ?_))
   | exact ih0 _ _ _ _ _ _
   | exact ih1 _ _ _ _ _ _ _ _ _ _ _ _ _ _ _ _ _
   | exact ih2 _ _ _ _ _ _ _ _ _ _ _ _ _ _ _ _ _ _
   | exact ih3 _ _ _ _ _ _ _ _ _ _ _ _ _ _ _ _ _ _ _
   | exact ih4 _ _ _ _ _ _
   | exact ih5 _ _ _ _ _ _ _ _ _ _ _ _ _ _ _ _ _ _
   | exact impl_RiItems.mono _ _ _
   | exact impl_RiNew.mono _ _
   | exact impl_RiStep.mono _ _ _ _ _ _ _ _ _ _ _ _ _
   | exact laws_sameInts.mono _ _ _
   | exact spec_MakeNum.mono _ _ _
   | exact spec_MakePicks.mono _ _ _
   | exact LeO.none _
   | refine LeO.ite ?_ ?_
   | refine LeO.bind ?_ (fun _ => ?_)
theorem laws_FnRingOne.mono : ∀ a0 k, LeO (laws_FnRingOne.f k a0) (laws_FnRingOne.f (k + 1) a0) := by
 intro a0 k
 obtain ⟨ih0, ih1, ih2, ih3, ih4, ih5⟩ := laws_FnRingOne.mono_l k
 unfold laws_FnRingOne.f
 repeat' first
   | (with_reducible exact ih0 _ _ _ _ _ _)
   | (with_reducible exact ih1 _ _ _ _ _ _ _ _ _ _ _ _ _ _ _ _ _)
   | (with_reducible exact ih2 _ _ _ _ _ _ _ _ _ _ _ _ _ _ _ _ _ _)
   | (with_reducible exact ih3 _ _ _ _ _ _ _ _ _ _ _ _ _ _ _ _ _ _ _)
   | (with_reducible exact ih4 _ _ _ _ _ _)
   | (with_reducible exact ih5 _ _ _ _ _ _ _ _ _ _ _ _ _ _ _ _ _ _)
   | (with_reducible exact impl_RiItems.mono _ _ _)
   | (with_reducible exact impl_RiNew.mono _ _)
   | (with_reducible exact impl_RiStep.mono _ _ _ _ _ _ _ _ _ _ _ _ _)
   | (with_reducible exact laws_sameInts.mono _ _ _)
   | (with_reducible exact spec_MakeNum.mono _ _ _)
   | (with_reducible exact spec_MakePicks.mono _ _ _)
   | (with_reducible exact LeO.refl _)
   | (with_reducible exact LeO.none _)
   | (with_reducible refine LeO.ite ?_ ?_)
   | (with_reducible refine LeO.bind ?_ (fun _ => ?_))
   | exact ih0 _ _ _ _ _ _
   | exact ih1 _ _ _ _ _ _ _ _ _ _ _ _ _ _ _ _ _
   | exact ih2 _ _ _ _ _ _ _ _ _ _ _ _ _ _ _ _ _ _
   | exact ih3 _ _ _ _ _ _ _ _ _ _ _ _ _ _ _ _ _ _ _
   | exact ih4 _ _ _ _ _ _
   | exact ih5 _ _ _ _ _ _ _ _ _ _ _ _ _ _ _ _ _ _
   | exact impl_RiItems.mono _ _ _
   | exact impl_RiNew.mono _ _
   | exact impl_RiStep.mono _ _ _ _ _ _ _ _ _ _ _ _ _
   | exact laws_sameInts.mono _ _ _
   | exact spec_MakeNum.mono _ _ _
   | exact spec_MakePicks.mono _ _ _
   | exact LeO.none _
   | refine LeO.ite ?_ ?_
   | refine LeO.bind ?_ (fun _ => ?_)
set_option maxHeartbeats 8000000 in
set_option maxRecDepth 100000 in
theorem laws_FnRingOne.calls (k : Nat) (A0 : Option Addr) (c0 : Nat) (l0 : List Int) (r_ : Bool) (w : World) (hr0 : Kd.C (Kd.int .u8) w A0 l0.length l0) (hc0 : l0.length ≤ c0) (h : laws_FnRingOne.f k l0 = some true) :
  Calls Try.prog 14 #[.slice A0 l0.length c0] w fun e w' => e = .returned (.bool true) ∧ Below w.heap.size w w' := by
 have hu29 := Try.underlying29
 have hu23 := Try.underlying23
 have HR0 := Aside0.mk hr0
 have HC0 := Aside0.mk hc0
 clear hr0 hc0
 have HB := Aside0.mk (Below.refl w.heap.size w)
 have H : (if (l0.length : Int) > 1048576 then (some true) else ((spec_MakeNum.f k l0 3).bind fun EA => ((impl_RiNew.f k (wrap64 (2 + EA))).bind fun eD => (if eD.2 = true then ((spec_MakePicks.f k l0 24).bind fun tA => (laws_FnRingOne.l0 k (wrap64 (2 + EA)) (([] : List Int)) tA (tA.length : Int) 0 eD.1)) else (some false))))) = some true := h
 clear h
 by_cases c2 : (l0.length : Int) > 1048576
 ·rw [if_pos c2] at H
  have UE : decide (1048576 < (l0.length : Int)) = true := decide_eq_true c2
  have VE : decide (1048576 < l0.length) = true := decide_eq_true (by omega)
  clear c2
  clear H
  (try clear H)
  go_enter Try.func14, Try.ntmps14
  go_wp2
  repeat (go_quiet (fail); try go_wp2)
  go_ret
  exact ⟨by first | rfl | (simp [errW_none, errW_some] <;> rfl) | (simp [*, errW_none, errW_some] <;> rfl), q7_9⟩
 ·rw [if_neg c2] at H
  have UE : decide (1048576 < (l0.length : Int)) = false := decide_eq_false c2
  have VE : decide (1048576 < l0.length) = false := decide_eq_false (by omega)
  clear c2
  replace H := Option.bind_eq_some_iff.mp H
  obtain ⟨EA, A30, H⟩ := H
  replace H : ((impl_RiNew.f k (wrap64 (2 + EA))).bind fun eD => (if eD.2 = true then ((spec_MakePicks.f k l0 24).bind fun tA => (laws_FnRingOne.l0 k (wrap64 (2 + EA)) (([] : List Int)) tA (tA.length : Int) 0 eD.1)) else (some false))) = some true := H
  have A3 := Aside0.mk A30
  clear A30
  replace H := Option.bind_eq_some_iff.mp H
  obtain ⟨⟨LC, XI⟩, A40, H⟩ := H
  replace H : (if XI = true then ((spec_MakePicks.f k l0 24).bind fun tA => (laws_FnRingOne.l0 k (wrap64 (2 + EA)) (([] : List Int)) tA (tA.length : Int) 0 LC)) else (some false)) = some true := H
  have A4 := Aside0.mk A40
  clear A40
  obtain ⟨y255, hy255⟩ : ∃ y_ : List Int, y_ = (([] : List Int)) := ⟨_, rfl⟩
  replace H : (if XI = true then ((spec_MakePicks.f k l0 24).bind fun tA => (laws_FnRingOne.l0 k (wrap64 (2 + EA)) y255 tA (tA.length : Int) 0 LC)) else (some false)) = some true := by first | (rw [hy255]; with_reducible exact H) | (have H2_ := (Option.bind_some _ _).symm.trans H; rw [hy255]; with_reducible exact H2_) | (have H2_ := (Option.bind_some _ _).symm.trans H; with_reducible exact H2_) | with_reducible exact H | (rw [hy255]; exact H) | exact H
  have Ny255 := Aside0.mk hy255
  clear hy255
  by_cases c5 : XI = true
  ·subst c5
   have H1 : ((spec_MakePicks.f k l0 24).bind fun tA => (laws_FnRingOne.l0 k (wrap64 (2 + EA)) y255 tA (tA.length : Int) 0 LC)) = some true := by rw [if_pos rfl] at H; exact H
   clear H
   have H := H1
   clear H1
   replace H := Option.bind_eq_some_iff.mp H
   obtain ⟨tA, A60, H⟩ := H
   replace H : (laws_FnRingOne.l0 k (wrap64 (2 + EA)) y255 tA (tA.length : Int) 0 LC) = some true := H
   have A6 := Aside0.mk A60
   clear A60
   have H' := Aside0.mk H
   clear H
   go_enter Try.func14, Try.ntmps14
   go_wp2_with (first | (go_at_call 46; (with_reducible refine (spec_MakeNum.calls k _ _ l0 3 EA _ ?side1 ?side2 A3.out).mono ?_); (case side1 => exact q7_32); (case side2 => exact HC0.out); rintro e w7 ⟨rfl, hb⟩; have BA := Aside0.mk (below_step q7_9 hb); clear HB; have HB := BA; clear BA; (try clear hb); (try clear hb2); (try clear hk); (try clear hi)) | (go_at_call 39; (with_reducible refine (impl_RiNew.calls k (wrap64 (2 + EA)) LC true _ A4.out).mono ?_); rintro e w8 ⟨YI, rfl, ho0, hb⟩; have BA := Aside0.mk (Kd.R_lower ho0 (below_size q7_9)); have FA := Aside0.mk (below_step q7_9 hb); clear HB; have LA := BA; have HB := FA; clear BA FA; (try clear hb); (try clear hb2); (try clear hk); (try clear hi); (try clear ho0)) | ((with_reducible refine gate_dst (N := 4) rfl ?_); (try (refine gate_guard (by rfl) ?_; dsimp only)); refine box_event ?hg (N := 4) ?hd (cs := #[.slice none 0 0]) (t := 29) ?hr ?_; (case hd => rfl); (case hg => rfl); (case hr => first | (go_simp; done) | (go_simp; rfl)); intro sA hg w9 hbox hb; have BA := Aside0.mk (Kd.R_below q7_19 hb); have FA := Aside0.mk (below_step q7_9 hb); have IA := Aside0.mk (hbox); have JA := Aside0.mk ((by rw [hg]; exact (below_size q7_9) : w.heap.size ≤ sA)); have KA := Aside0.mk ((by rw [hg]; exact (below_size q7_9) : w.heap.size ≤ sA)); clear LA; clear HB; have LA := BA; have HB := FA; have oA := IA; have rI := JA; have iE := KA; clear BA FA IA JA KA; clear hb hbox hg; obtain ⟨fE, gE, DG⟩ := Kd.R_slice LA.out; subst DG; have rB : w9.cell? ⟨sA, 0, none⟩ = some (.slice none 0 0) := (blk_cell oA.out 0).trans rfl; have sB := blk_frozen oA.out 0) | ((with_reducible refine gate_dst (N := 25) rfl ?_); (try (refine gate_guard (by rfl) ?_; dsimp only)); refine Kd.R_lit (Kd.int .i64) _ 3 ?hg (N := 25) ?hd (xs := ([] : List Int)) (inner := []) (ok := fun _ => True) (okp := fun _ => True) ?hr ?hp (fun _ hk => hk) trivial (Below.refl _ _) (Nat.le_refl _) (by simp) ?_; (case hd => rfl); (case hg => rfl); (case hr => first | (go_simp; done) | (go_simp; rfl)); (case hp => exact (Reps.none _ _)); intro ZI BJ ho13 hb hg_ hnew_; clear hg_ hnew_; (first | rw [← Ny255.out] at ho13 | (simp only [Int.reduceToNat] at ho13; rw [← Ny255.out] at ho13)); have BA := Aside0.mk (Kd.R_elder' q7_16 (Kd.R_base ho13) hb); have FA := Aside0.mk (Kd.R_lower (Kd.R_new' ho13 (Kd.R_lt q7_16)) (below_size q7_4)); have IA := Aside0.mk (blk_below (g := sA) (o := .cells #[.slice fE LC.length gE] 29 (0, 0)) q7_22 hb); have JA := Aside0.mk (below_step q7_4 hb); clear LA; clear oA; clear HB; have LA := BA; have OC := FA; have oA := IA; have HB := JA; clear BA FA IA JA; clear hb ho13) | (go_at_call 47; (with_reducible refine (spec_MakePicks.calls k _ _ l0 24 tA _ ?side1 ?side2 A6.out).mono ?_); (case side1 => exact q7_28); (case side2 => exact HC0.out); rintro e CJ ⟨aJ, rfl, ho0, hb⟩; have BA := Aside0.mk (Kd.R_elder' q7_19 (Kd.R_base ho0) hb); have FA := Aside0.mk (Kd.R_elder' q7_23 (Kd.R_base ho0) hb); have IA := Aside0.mk (Kd.R_lower (Kd.R_new' (Kd.R_new' ho0 (Kd.R_lt q7_19)) (Kd.R_lt q7_23)) (below_size q7_4)); have JA := Aside0.mk (blk_below (g := sA) (o := .cells #[.slice fE LC.length gE] 29 (0, 0)) q7_2 hb); have KA := Aside0.mk (below_step q7_4 hb); clear LA; clear OC; clear oA; clear HB; have LA := BA; have OC := FA; have jE := IA; have oA := JA; have HB := KA; clear BA FA IA JA KA; (try clear hb); (try clear hb2); (try clear hk); (try clear hi); (try clear ho0); obtain ⟨EG, VA, FG⟩ := Kd.R_slice jE.out; subst FG))
   repeat (go_quiet (first | (go_at_call 46; (with_reducible refine (spec_MakeNum.calls k _ _ l0 3 EA _ ?side1 ?side2 A3.out).mono ?_); (case side1 => exact q7_32); (case side2 => exact HC0.out); rintro e w7 ⟨rfl, hb⟩; have BA := Aside0.mk (below_step q7_9 hb); clear HB; have HB := BA; clear BA; (try clear hb); (try clear hb2); (try clear hk); (try clear hi)) | (go_at_call 39; (with_reducible refine (impl_RiNew.calls k (wrap64 (2 + EA)) LC true _ A4.out).mono ?_); rintro e w8 ⟨YI, rfl, ho0, hb⟩; have BA := Aside0.mk (Kd.R_lower ho0 (below_size q7_9)); have FA := Aside0.mk (below_step q7_9 hb); clear HB; have LA := BA; have HB := FA; clear BA FA; (try clear hb); (try clear hb2); (try clear hk); (try clear hi); (try clear ho0)) | ((with_reducible refine gate_dst (N := 4) rfl ?_); (try (refine gate_guard (by rfl) ?_; dsimp only)); refine box_event ?hg (N := 4) ?hd (cs := #[.slice none 0 0]) (t := 29) ?hr ?_; (case hd => rfl); (case hg => rfl); (case hr => first | (go_simp; done) | (go_simp; rfl)); intro sA hg w9 hbox hb; have BA := Aside0.mk (Kd.R_below q7_19 hb); have FA := Aside0.mk (below_step q7_9 hb); have IA := Aside0.mk (hbox); have JA := Aside0.mk ((by rw [hg]; exact (below_size q7_9) : w.heap.size ≤ sA)); have KA := Aside0.mk ((by rw [hg]; exact (below_size q7_9) : w.heap.size ≤ sA)); clear LA; clear HB; have LA := BA; have HB := FA; have oA := IA; have rI := JA; have iE := KA; clear BA FA IA JA KA; clear hb hbox hg; obtain ⟨fE, gE, DG⟩ := Kd.R_slice LA.out; subst DG; have rB : w9.cell? ⟨sA, 0, none⟩ = some (.slice none 0 0) := (blk_cell oA.out 0).trans rfl; have sB := blk_frozen oA.out 0) | ((with_reducible refine gate_dst (N := 25) rfl ?_); (try (refine gate_guard (by rfl) ?_; dsimp only)); refine Kd.R_lit (Kd.int .i64) _ 3 ?hg (N := 25) ?hd (xs := ([] : List Int)) (inner := []) (ok := fun _ => True) (okp := fun _ => True) ?hr ?hp (fun _ hk => hk) trivial (Below.refl _ _) (Nat.le_refl _) (by simp) ?_; (case hd => rfl); (case hg => rfl); (case hr => first | (go_simp; done) | (go_simp; rfl)); (case hp => exact (Reps.none _ _)); intro ZI BJ ho13 hb hg_ hnew_; clear hg_ hnew_; (first | rw [← Ny255.out] at ho13 | (simp only [Int.reduceToNat] at ho13; rw [← Ny255.out] at ho13)); have BA := Aside0.mk (Kd.R_elder' q7_16 (Kd.R_base ho13) hb); have FA := Aside0.mk (Kd.R_lower (Kd.R_new' ho13 (Kd.R_lt q7_16)) (below_size q7_4)); have IA := Aside0.mk (blk_below (g := sA) (o := .cells #[.slice fE LC.length gE] 29 (0, 0)) q7_22 hb); have JA := Aside0.mk (below_step q7_4 hb); clear LA; clear oA; clear HB; have LA := BA; have OC := FA; have oA := IA; have HB := JA; clear BA FA IA JA; clear hb ho13) | (go_at_call 47; (with_reducible refine (spec_MakePicks.calls k _ _ l0 24 tA _ ?side1 ?side2 A6.out).mono ?_); (case side1 => exact q7_28); (case side2 => exact HC0.out); rintro e CJ ⟨aJ, rfl, ho0, hb⟩; have BA := Aside0.mk (Kd.R_elder' q7_19 (Kd.R_base ho0) hb); have FA := Aside0.mk (Kd.R_elder' q7_23 (Kd.R_base ho0) hb); have IA := Aside0.mk (Kd.R_lower (Kd.R_new' (Kd.R_new' ho0 (Kd.R_lt q7_19)) (Kd.R_lt q7_23)) (below_size q7_4)); have JA := Aside0.mk (blk_below (g := sA) (o := .cells #[.slice fE LC.length gE] 29 (0, 0)) q7_2 hb); have KA := Aside0.mk (below_step q7_4 hb); clear LA; clear OC; clear oA; clear HB; have LA := BA; have OC := FA; have jE := IA; have oA := JA; have HB := KA; clear BA FA IA JA KA; (try clear hb); (try clear hb2); (try clear hk); (try clear hi); (try clear ho0); obtain ⟨EG, VA, FG⟩ := Kd.R_slice jE.out; subst FG)); try go_wp2_with (first | (go_at_call 46; (with_reducible refine (spec_MakeNum.calls k _ _ l0 3 EA _ ?side1 ?side2 A3.out).mono ?_); (case side1 => exact q7_32); (case side2 => exact HC0.out); rintro e w7 ⟨rfl, hb⟩; have BA := Aside0.mk (below_step q7_9 hb); clear HB; have HB := BA; clear BA; (try clear hb); (try clear hb2); (try clear hk); (try clear hi)) | (go_at_call 39; (with_reducible refine (impl_RiNew.calls k (wrap64 (2 + EA)) LC true _ A4.out).mono ?_); rintro e w8 ⟨YI, rfl, ho0, hb⟩; have BA := Aside0.mk (Kd.R_lower ho0 (below_size q7_9)); have FA := Aside0.mk (below_step q7_9 hb); clear HB; have LA := BA; have HB := FA; clear BA FA; (try clear hb); (try clear hb2); (try clear hk); (try clear hi); (try clear ho0)) | ((with_reducible refine gate_dst (N := 4) rfl ?_); (try (refine gate_guard (by rfl) ?_; dsimp only)); refine box_event ?hg (N := 4) ?hd (cs := #[.slice none 0 0]) (t := 29) ?hr ?_; (case hd => rfl); (case hg => rfl); (case hr => first | (go_simp; done) | (go_simp; rfl)); intro sA hg w9 hbox hb; have BA := Aside0.mk (Kd.R_below q7_19 hb); have FA := Aside0.mk (below_step q7_9 hb); have IA := Aside0.mk (hbox); have JA := Aside0.mk ((by rw [hg]; exact (below_size q7_9) : w.heap.size ≤ sA)); have KA := Aside0.mk ((by rw [hg]; exact (below_size q7_9) : w.heap.size ≤ sA)); clear LA; clear HB; have LA := BA; have HB := FA; have oA := IA; have rI := JA; have iE := KA; clear BA FA IA JA KA; clear hb hbox hg; obtain ⟨fE, gE, DG⟩ := Kd.R_slice LA.out; subst DG; have rB : w9.cell? ⟨sA, 0, none⟩ = some (.slice none 0 0) := (blk_cell oA.out 0).trans rfl; have sB := blk_frozen oA.out 0) | ((with_reducible refine gate_dst (N := 25) rfl ?_); (try (refine gate_guard (by rfl) ?_; dsimp only)); refine Kd.R_lit (Kd.int .i64) _ 3 ?hg (N := 25) ?hd (xs := ([] : List Int)) (inner := []) (ok := fun _ => True) (okp := fun _ => True) ?hr ?hp (fun _ hk => hk) trivial (Below.refl _ _) (Nat.le_refl _) (by simp) ?_; (case hd => rfl); (case hg => rfl); (case hr => first | (go_simp; done) | (go_simp; rfl)); (case hp => exact (Reps.none _ _)); intro ZI BJ ho13 hb hg_ hnew_; clear hg_ hnew_; (first | rw [← Ny255.out] at ho13 | (simp only [Int.reduceToNat] at ho13; rw [← Ny255.out] at ho13)); have BA := Aside0.mk (Kd.R_elder' q7_16 (Kd.R_base ho13) hb); have FA := Aside0.mk (Kd.R_lower (Kd.R_new' ho13 (Kd.R_lt q7_16)) (below_size q7_4)); have IA := Aside0.mk (blk_below (g := sA) (o := .cells #[.slice fE LC.length gE] 29 (0, 0)) q7_22 hb); have JA := Aside0.mk (below_step q7_4 hb); clear LA; clear oA; clear HB; have LA := BA; have OC := FA; have oA := IA; have HB := JA; clear BA FA IA JA; clear hb ho13) | (go_at_call 47; (with_reducible refine (spec_MakePicks.calls k _ _ l0 24 tA _ ?side1 ?side2 A6.out).mono ?_); (case side1 => exact q7_28); (case side2 => exact HC0.out); rintro e CJ ⟨aJ, rfl, ho0, hb⟩; have BA := Aside0.mk (Kd.R_elder' q7_19 (Kd.R_base ho0) hb); have FA := Aside0.mk (Kd.R_elder' q7_23 (Kd.R_base ho0) hb); have IA := Aside0.mk (Kd.R_lower (Kd.R_new' (Kd.R_new' ho0 (Kd.R_lt q7_19)) (Kd.R_lt q7_23)) (below_size q7_4)); have JA := Aside0.mk (blk_below (g := sA) (o := .cells #[.slice fE LC.length gE] 29 (0, 0)) q7_2 hb); have KA := Aside0.mk (below_step q7_4 hb); clear LA; clear OC; clear oA; clear HB; have LA := BA; have OC := FA; have jE := IA; have oA := JA; have HB := KA; clear BA FA IA JA KA; (try clear hb); (try clear hb2); (try clear hk); (try clear hi); (try clear ho0); obtain ⟨EG, VA, FG⟩ := Kd.R_slice jE.out; subst FG)))
   go_loopg [6, 31] k (fun kq v6 v31 w' => ∃ (zA : List Int) (uA : Int) (OA : List Int) (pA : Value), v31 = .int .i64 uA ∧ Aside0 (laws_FnRingOne.l0 kq (wrap64 (2 + EA)) zA tA (tA.length : Int) uA OA = some true) ∧ Aside0 (kq ≤ k) ∧ Aside0 (Kd.Q (Kd.int .i64) 3 w' w.heap.size (fun k_ => some k_ ≠ ((.slice EG tA.length VA) : Value).ownBlock ∧ some k_ ≠ (pA : Value).ownBlock) v6 zA) ∧ Aside0 (Kd.R (Kd.int .i64) 3 w' w.heap.size (fun k_ => some k_ ≠ (v6 : Value).ownBlock ∧ some k_ ≠ (pA : Value).ownBlock) (.slice EG tA.length VA) tA) ∧ Aside0 (Kd.R (Kd.int .i64) 3 w' w.heap.size (fun k_ => some k_ ≠ (v6 : Value).ownBlock ∧ some k_ ≠ ((.slice EG tA.length VA) : Value).ownBlock) pA OA) ∧ Aside0 (w'.heap[sA]? = some (.cells #[pA] 29 (0, 0))) ∧ Aside0 (Below w.heap.size w w'))
   case atStart => exact ⟨(y255), (0), (LC), (.slice fE LC.length gE), q7_31, H', ⟨Nat.le_refl _⟩, ⟨Kd.Q_of_R (by (with_reducible repeat (first | apply Kd.R_alloc | apply Kd.R_drewN | apply Kd.R_drew)); exact Kd.R_mono OC.out (fun _ hk => ⟨hk.2, hk.1.2⟩))⟩, ⟨by (with_reducible repeat (first | apply Kd.R_alloc | apply Kd.R_drewN | apply Kd.R_drew)); exact Kd.R_mono jE.out (fun _ hk => ⟨hk.2, hk.1.2⟩)⟩, ⟨by (with_reducible repeat (first | apply Kd.R_alloc | apply Kd.R_drewN | apply Kd.R_drew)); exact Kd.R_mono LA.out (fun _ hk => ⟨hk.1.2, hk.2⟩)⟩, ⟨q7_2⟩, ⟨q7_4⟩⟩
   case round =>
    clear H'
    (try clear c1); (try clear c2); (try clear UE); (try clear VE); (try clear p2); (try clear c5); (try clear p6); (try clear c14); (try clear rB); (try clear sB)
    obtain ⟨zA, uA, OA, pA, rfl, HA, HK1, xA, wA, dA, oA, HB⟩ := hrel
    cases gk with
    | zero => exact absurd HA.out (by simp [laws_FnRingOne.l0])
    | succ k1 =>
     have H := HA.out
     clear HA
     simp only [laws_FnRingOne.l0] at H
     by_cases c16 : uA < (tA.length : Int)
     ·rw [if_pos c16] at H
      have kE : decide (uA < (tA.length : Int)) = true := decide_eq_true c16
      clear c16
      by_cases c17 : 0 ≤ uA
      ·rw [if_pos c17] at H
       have OE : decide (0 ≤ uA) = true := decide_eq_true c17
       clear c17
       by_cases c18 : uA < (tA.length : Int)
       ·rw [if_pos c18] at H
        have PE : decide (uA < (tA.length : Int)) = true := decide_eq_true c18
        clear c18
        replace H := Option.bind_eq_some_iff.mp H
        obtain ⟨⟨XA, YA, ZA, bB, cB, dB, eB, fB, gB, hB⟩, A190, H⟩ := H
        replace H : (if (Int.tmod (rd tA uA) 2) = 0 then ((impl_RiCall.f 1 (wrap64 (100 + uA))).bind fun QA => (laws_FnRingOne.j1 k1 (wrap64 (2 + EA)) zA uA tA (tA.length : Int) uA OA QA.1 QA.2.1 QA.2.2.1 QA.2.2.2.1 QA.2.2.2.2.1 QA.2.2.2.2.2.1 QA.2.2.2.2.2.2.1 QA.2.2.2.2.2.2.2.1 QA.2.2.2.2.2.2.2.2.1 QA.2.2.2.2.2.2.2.2.2)) else (laws_FnRingOne.j1 k1 (wrap64 (2 + EA)) zA uA tA (tA.length : Int) uA OA XA YA ZA bB cB dB eB fB gB hB)) = some true := H
        have A19 := Aside0.mk A190
        clear A190
        have HC20 := Aside0.mk H
        clear H
        have p261 : 0 ≤ (uA : Int) := of_decide_eq_true (by first | (with_reducible assumption) | assumption)
        have q261 : uA < (tA.length : Int) := of_decide_eq_true (by first | (with_reducible assumption) | assumption)
        obtain ⟨ad261, tJ, YC⟩ := Kd.at_int (Kd.R_reads' wA.out).2.2 uA p261 q261
        cases tJ
        replace p261 := eq_true p261
        replace q261 := eq_true q261
        go_upto_if 39 with (first | (go_at_call 37; (with_reducible refine (impl_RiCall.calls 2 0 XA YA ZA bB cB dB eB fB gB hB _ A19.out).mono ?_); rintro e DJ ⟨rfl, hb⟩; have BA := Aside0.mk (Kd.Q_below q7_8 hb); have FA := Aside0.mk (Kd.R_below q7_7 hb); have IA := Aside0.mk (Kd.R_below q7_6 hb); have JA := Aside0.mk (blk_below (g := sA) (o := .cells #[pA] 29 (0, 0)) q7_2 hb); have KA := Aside0.mk (below_step q7_4 hb); clear xA; clear wA; clear dA; clear oA; clear HB; have xA := BA; have wA := FA; have dA := IA; have oA := JA; have HB := KA; clear BA FA IA JA KA; (try clear hb); (try clear hb2); (try clear hk); (try clear hi)) | ((with_reducible refine gate_dst (N := 9) rfl ?_); (try (refine gate_guard (by rfl) ?_; dsimp only)); refine box_event ?hg (N := 9) ?hd (cs := #[.int .i64 0, .int .i64 0, .int .i64 0, .int .i64 0, .int .i64 0, .int .i64 0, .int .i64 0, .int .i64 0, .int .i64 0, .bool false]) (t := 23) ?hr ?_; (case hd => rfl); (case hg => rfl); (case hr => first | (go_simp; done) | (go_simp; rfl)); intro bA hg QC hbox hb; have BA := Aside0.mk (Kd.Q_below q7_8 hb); have FA := Aside0.mk (Kd.R_below q7_7 hb); have IA := Aside0.mk (Kd.R_below q7_6 hb); have JA := Aside0.mk (blk_below (g := sA) (o := .cells #[pA] 29 (0, 0)) q7_2 hb); have KA := Aside0.mk (below_step q7_4 hb); have RA := Aside0.mk (hbox); have tB := Aside0.mk ((by rw [hg]; exact (below_size q7_4) : w.heap.size ≤ bA)); have fD := Aside0.mk ((by rw [hg]; exact (below_size q7_4) : w.heap.size ≤ bA)); have gD := Aside0.mk ((by rw [hg]; exact Nat.ne_of_lt (blk_lt (g := sA) (o := .cells #[pA] 29 (0, 0)) q7_2) : sA ≠ bA)); have hD := Aside0.mk ((by rw [hg]; exact Nat.ne_of_gt (blk_lt (g := sA) (o := .cells #[pA] 29 (0, 0)) q7_2) : bA ≠ sA)); clear xA; clear wA; clear dA; clear oA; clear HB; have xA := BA; have wA := FA; have dA := IA; have oA := JA; have HB := KA; have aA := RA; have sI := tB; have NE := fD; have qA := gD; have yA := hD; clear BA FA IA JA KA RA tB fD gD hD; clear hb hbox hg; have tI := yA.out; have uI := qA.out; have CB : QC.cell? ⟨bA, 0, none⟩ = some (.int .i64 0) := (blk_cell aA.out 0).trans rfl; have DB : QC.cell? ⟨bA, 1, none⟩ = some (.int .i64 0) := (blk_cell aA.out 1).trans rfl; have EB : QC.cell? ⟨bA, 2, none⟩ = some (.int .i64 0) := (blk_cell aA.out 2).trans rfl; have FB : QC.cell? ⟨bA, 3, none⟩ = some (.int .i64 0) := (blk_cell aA.out 3).trans rfl; have GB : QC.cell? ⟨bA, 4, none⟩ = some (.int .i64 0) := (blk_cell aA.out 4).trans rfl; have IB : QC.cell? ⟨bA, 5, none⟩ = some (.int .i64 0) := (blk_cell aA.out 5).trans rfl; have JB : QC.cell? ⟨bA, 6, none⟩ = some (.int .i64 0) := (blk_cell aA.out 6).trans rfl; have KB : QC.cell? ⟨bA, 7, none⟩ = some (.int .i64 0) := (blk_cell aA.out 7).trans rfl; have LB : QC.cell? ⟨bA, 8, none⟩ = some (.int .i64 0) := (blk_cell aA.out 8).trans rfl; have MB : QC.cell? ⟨bA, 9, none⟩ = some (.bool false) := (blk_cell aA.out 9).trans rfl; have NB := blk_frozen aA.out 0; have OB := blk_frozen aA.out 1; have PB := blk_frozen aA.out 2; have QB := blk_frozen aA.out 3; have RB := blk_frozen aA.out 4; have SB := blk_frozen aA.out 5; have TB := blk_frozen aA.out 6; have UB := blk_frozen aA.out 7; have VB := blk_frozen aA.out 8; have WB := blk_frozen aA.out 9))
        repeat (go_quiet (first | (go_at_call 37; (with_reducible refine (impl_RiCall.calls 2 0 XA YA ZA bB cB dB eB fB gB hB _ A19.out).mono ?_); rintro e DJ ⟨rfl, hb⟩; have BA := Aside0.mk (Kd.Q_below q7_8 hb); have FA := Aside0.mk (Kd.R_below q7_7 hb); have IA := Aside0.mk (Kd.R_below q7_6 hb); have JA := Aside0.mk (blk_below (g := sA) (o := .cells #[pA] 29 (0, 0)) q7_2 hb); have KA := Aside0.mk (below_step q7_4 hb); clear xA; clear wA; clear dA; clear oA; clear HB; have xA := BA; have wA := FA; have dA := IA; have oA := JA; have HB := KA; clear BA FA IA JA KA; (try clear hb); (try clear hb2); (try clear hk); (try clear hi)) | ((with_reducible refine gate_dst (N := 9) rfl ?_); (try (refine gate_guard (by rfl) ?_; dsimp only)); refine box_event ?hg (N := 9) ?hd (cs := #[.int .i64 0, .int .i64 0, .int .i64 0, .int .i64 0, .int .i64 0, .int .i64 0, .int .i64 0, .int .i64 0, .int .i64 0, .bool false]) (t := 23) ?hr ?_; (case hd => rfl); (case hg => rfl); (case hr => first | (go_simp; done) | (go_simp; rfl)); intro bA hg QC hbox hb; have BA := Aside0.mk (Kd.Q_below q7_8 hb); have FA := Aside0.mk (Kd.R_below q7_7 hb); have IA := Aside0.mk (Kd.R_below q7_6 hb); have JA := Aside0.mk (blk_below (g := sA) (o := .cells #[pA] 29 (0, 0)) q7_2 hb); have KA := Aside0.mk (below_step q7_4 hb); have RA := Aside0.mk (hbox); have tB := Aside0.mk ((by rw [hg]; exact (below_size q7_4) : w.heap.size ≤ bA)); have fD := Aside0.mk ((by rw [hg]; exact (below_size q7_4) : w.heap.size ≤ bA)); have gD := Aside0.mk ((by rw [hg]; exact Nat.ne_of_lt (blk_lt (g := sA) (o := .cells #[pA] 29 (0, 0)) q7_2) : sA ≠ bA)); have hD := Aside0.mk ((by rw [hg]; exact Nat.ne_of_gt (blk_lt (g := sA) (o := .cells #[pA] 29 (0, 0)) q7_2) : bA ≠ sA)); clear xA; clear wA; clear dA; clear oA; clear HB; have xA := BA; have wA := FA; have dA := IA; have oA := JA; have HB := KA; have aA := RA; have sI := tB; have NE := fD; have qA := gD; have yA := hD; clear BA FA IA JA KA RA tB fD gD hD; clear hb hbox hg; have tI := yA.out; have uI := qA.out; have CB : QC.cell? ⟨bA, 0, none⟩ = some (.int .i64 0) := (blk_cell aA.out 0).trans rfl; have DB : QC.cell? ⟨bA, 1, none⟩ = some (.int .i64 0) := (blk_cell aA.out 1).trans rfl; have EB : QC.cell? ⟨bA, 2, none⟩ = some (.int .i64 0) := (blk_cell aA.out 2).trans rfl; have FB : QC.cell? ⟨bA, 3, none⟩ = some (.int .i64 0) := (blk_cell aA.out 3).trans rfl; have GB : QC.cell? ⟨bA, 4, none⟩ = some (.int .i64 0) := (blk_cell aA.out 4).trans rfl; have IB : QC.cell? ⟨bA, 5, none⟩ = some (.int .i64 0) := (blk_cell aA.out 5).trans rfl; have JB : QC.cell? ⟨bA, 6, none⟩ = some (.int .i64 0) := (blk_cell aA.out 6).trans rfl; have KB : QC.cell? ⟨bA, 7, none⟩ = some (.int .i64 0) := (blk_cell aA.out 7).trans rfl; have LB : QC.cell? ⟨bA, 8, none⟩ = some (.int .i64 0) := (blk_cell aA.out 8).trans rfl; have MB : QC.cell? ⟨bA, 9, none⟩ = some (.bool false) := (blk_cell aA.out 9).trans rfl; have NB := blk_frozen aA.out 0; have OB := blk_frozen aA.out 1; have PB := blk_frozen aA.out 2; have QB := blk_frozen aA.out 3; have RB := blk_frozen aA.out 4; have SB := blk_frozen aA.out 5; have TB := blk_frozen aA.out 6; have UB := blk_frozen aA.out 7; have VB := blk_frozen aA.out 8; have WB := blk_frozen aA.out 9)); go_upto_if 39 with (first | (go_at_call 37; (with_reducible refine (impl_RiCall.calls 2 0 XA YA ZA bB cB dB eB fB gB hB _ A19.out).mono ?_); rintro e DJ ⟨rfl, hb⟩; have BA := Aside0.mk (Kd.Q_below q7_8 hb); have FA := Aside0.mk (Kd.R_below q7_7 hb); have IA := Aside0.mk (Kd.R_below q7_6 hb); have JA := Aside0.mk (blk_below (g := sA) (o := .cells #[pA] 29 (0, 0)) q7_2 hb); have KA := Aside0.mk (below_step q7_4 hb); clear xA; clear wA; clear dA; clear oA; clear HB; have xA := BA; have wA := FA; have dA := IA; have oA := JA; have HB := KA; clear BA FA IA JA KA; (try clear hb); (try clear hb2); (try clear hk); (try clear hi)) | ((with_reducible refine gate_dst (N := 9) rfl ?_); (try (refine gate_guard (by rfl) ?_; dsimp only)); refine box_event ?hg (N := 9) ?hd (cs := #[.int .i64 0, .int .i64 0, .int .i64 0, .int .i64 0, .int .i64 0, .int .i64 0, .int .i64 0, .int .i64 0, .int .i64 0, .bool false]) (t := 23) ?hr ?_; (case hd => rfl); (case hg => rfl); (case hr => first | (go_simp; done) | (go_simp; rfl)); intro bA hg QC hbox hb; have BA := Aside0.mk (Kd.Q_below q7_8 hb); have FA := Aside0.mk (Kd.R_below q7_7 hb); have IA := Aside0.mk (Kd.R_below q7_6 hb); have JA := Aside0.mk (blk_below (g := sA) (o := .cells #[pA] 29 (0, 0)) q7_2 hb); have KA := Aside0.mk (below_step q7_4 hb); have RA := Aside0.mk (hbox); have tB := Aside0.mk ((by rw [hg]; exact (below_size q7_4) : w.heap.size ≤ bA)); have fD := Aside0.mk ((by rw [hg]; exact (below_size q7_4) : w.heap.size ≤ bA)); have gD := Aside0.mk ((by rw [hg]; exact Nat.ne_of_lt (blk_lt (g := sA) (o := .cells #[pA] 29 (0, 0)) q7_2) : sA ≠ bA)); have hD := Aside0.mk ((by rw [hg]; exact Nat.ne_of_gt (blk_lt (g := sA) (o := .cells #[pA] 29 (0, 0)) q7_2) : bA ≠ sA)); clear xA; clear wA; clear dA; clear oA; clear HB; have xA := BA; have wA := FA; have dA := IA; have oA := JA; have HB := KA; have aA := RA; have sI := tB; have NE := fD; have qA := gD; have yA := hD; clear BA FA IA JA KA RA tB fD gD hD; clear hb hbox hg; have tI := yA.out; have uI := qA.out; have CB : QC.cell? ⟨bA, 0, none⟩ = some (.int .i64 0) := (blk_cell aA.out 0).trans rfl; have DB : QC.cell? ⟨bA, 1, none⟩ = some (.int .i64 0) := (blk_cell aA.out 1).trans rfl; have EB : QC.cell? ⟨bA, 2, none⟩ = some (.int .i64 0) := (blk_cell aA.out 2).trans rfl; have FB : QC.cell? ⟨bA, 3, none⟩ = some (.int .i64 0) := (blk_cell aA.out 3).trans rfl; have GB : QC.cell? ⟨bA, 4, none⟩ = some (.int .i64 0) := (blk_cell aA.out 4).trans rfl; have IB : QC.cell? ⟨bA, 5, none⟩ = some (.int .i64 0) := (blk_cell aA.out 5).trans rfl; have JB : QC.cell? ⟨bA, 6, none⟩ = some (.int .i64 0) := (blk_cell aA.out 6).trans rfl; have KB : QC.cell? ⟨bA, 7, none⟩ = some (.int .i64 0) := (blk_cell aA.out 7).trans rfl; have LB : QC.cell? ⟨bA, 8, none⟩ = some (.int .i64 0) := (blk_cell aA.out 8).trans rfl; have MB : QC.cell? ⟨bA, 9, none⟩ = some (.bool false) := (blk_cell aA.out 9).trans rfl; have NB := blk_frozen aA.out 0; have OB := blk_frozen aA.out 1; have PB := blk_frozen aA.out 2; have QB := blk_frozen aA.out 3; have RB := blk_frozen aA.out 4; have SB := blk_frozen aA.out 5; have TB := blk_frozen aA.out 6; have UB := blk_frozen aA.out 7; have VB := blk_frozen aA.out 8; have WB := blk_frozen aA.out 9)))
        (try simp only [Act.put, List.setIfInBounds_toArray, List.set_cons_zero, List.set_cons_succ])
        go_cut [] (fun wc => ∃ (kq : Nat) (XB : Int) (YB : Int) (ZB : Int) (aC : Int) (bC : Int) (cC : Int) (dC : Int) (eC : Int) (fC : Int) (gC : Bool), Aside0 (laws_FnRingOne.j1 kq (wrap64 (2 + EA)) zA uA tA (tA.length : Int) uA OA XB YB ZB aC bC cC dC eC fC gC = some true) ∧ Aside0 (kq ≤ k1) ∧ Aside0 (Kd.Q (Kd.int .i64) 3 wc w.heap.size (fun k_ => some k_ ≠ ((.slice (some ad261) tA.length VA) : Value).ownBlock ∧ some k_ ≠ (pA : Value).ownBlock) u6 zA) ∧ Aside0 (Kd.R (Kd.int .i64) 3 wc w.heap.size (fun k_ => some k_ ≠ (u6 : Value).ownBlock ∧ some k_ ≠ (pA : Value).ownBlock) (.slice (some ad261) tA.length VA) tA) ∧ Aside0 (Kd.R (Kd.int .i64) 3 wc w.heap.size (fun k_ => some k_ ≠ (u6 : Value).ownBlock ∧ some k_ ≠ ((.slice (some ad261) tA.length VA) : Value).ownBlock) pA OA) ∧ Aside0 (wc.heap[sA]? = some (.cells #[pA] 29 (0, 0))) ∧ Aside0 (wc.heap[bA]? = some (.cells #[.int .i64 XB, .int .i64 YB, .int .i64 ZB, .int .i64 aC, .int .i64 bC, .int .i64 cC, .int .i64 dC, .int .i64 eC, .int .i64 fC, .bool gC] 23 (0, 0))) ∧ Aside0 (Below w.heap.size w wc))
        case first =>
         have H := HC20.out
         clear HC20
         by_cases c25 : (Int.tmod (rd tA uA) 2) = 0
         ·rw [if_pos c25] at H
          have RC : ((Int.tmod (rd tA uA) 2) == 0) = true := beq_iff_eq.mpr c25
          have lE : ((Int.tmod (rd tA uA) 2) != 0) = false := bne_eq_false_iff_eq.mpr c25
          clear c25
          (first | rw [RC] | (simp only [i64_w, i32_w]; rw [RC]) | skip)
          replace H := Option.bind_eq_some_iff.mp H
          obtain ⟨⟨DC, MC, VC, ZC, bD, jD, dE, hE, nE, QE⟩, A260, H⟩ := H
          replace H : (laws_FnRingOne.j1 k1 (wrap64 (2 + EA)) zA uA tA (tA.length : Int) uA OA DC MC VC ZC bD jD dE hE nE QE) = some true := H
          have A26 := Aside0.mk A260
          clear A260
          have H' := Aside0.mk H
          clear H
          go_wp2_with (first | (go_at_call 37; (with_reducible refine (impl_RiCall.calls 1 (wrap64 (100 + uA)) DC MC VC ZC bD jD dE hE nE QE _ A26.out).mono ?_); rintro e SC ⟨rfl, hb⟩; have BA := Aside0.mk (Kd.Q_below q7_12 hb); have FA := Aside0.mk (Kd.R_below q7_11 hb); have IA := Aside0.mk (Kd.R_below q7_10 hb); have JA := Aside0.mk (blk_below (g := sA) (o := .cells #[pA] 29 (0, 0)) q7_3 hb); have KA := Aside0.mk (blk_below (g := bA) (o := .cells #[.int .i64 XA, .int .i64 YA, .int .i64 ZA, .int .i64 bB, .int .i64 cB, .int .i64 dB, .int .i64 eB, .int .i64 fB, .int .i64 gB, .bool hB] 23 (0, 0)) q7_0 hb); have RA := Aside0.mk (below_step q7_1 hb); clear xA; clear wA; clear dA; clear oA; clear aA; clear HB; have xA := BA; have wA := FA; have dA := IA; have oA := JA; have aA := KA; have HB := RA; clear BA FA IA JA KA RA; (try clear hb); (try clear hb2); (try clear hk); (try clear hi); have vI := yA.out; have wI := qA.out; have hC : SC.cell? ⟨bA, 0, none⟩ = some (.int .i64 XA) := (blk_cell aA.out 0).trans rfl; have iC : SC.cell? ⟨bA, 1, none⟩ = some (.int .i64 YA) := (blk_cell aA.out 1).trans rfl; have jC : SC.cell? ⟨bA, 2, none⟩ = some (.int .i64 ZA) := (blk_cell aA.out 2).trans rfl; have kC : SC.cell? ⟨bA, 3, none⟩ = some (.int .i64 bB) := (blk_cell aA.out 3).trans rfl; have lC : SC.cell? ⟨bA, 4, none⟩ = some (.int .i64 cB) := (blk_cell aA.out 4).trans rfl; have mC : SC.cell? ⟨bA, 5, none⟩ = some (.int .i64 dB) := (blk_cell aA.out 5).trans rfl; have nC : SC.cell? ⟨bA, 6, none⟩ = some (.int .i64 eB) := (blk_cell aA.out 6).trans rfl; have oC : SC.cell? ⟨bA, 7, none⟩ = some (.int .i64 fB) := (blk_cell aA.out 7).trans rfl; have pC : SC.cell? ⟨bA, 8, none⟩ = some (.int .i64 gB) := (blk_cell aA.out 8).trans rfl; have qC : SC.cell? ⟨bA, 9, none⟩ = some (.bool hB) := (blk_cell aA.out 9).trans rfl; have rC := blk_frozen aA.out 0; have sC := blk_frozen aA.out 1; have tC := blk_frozen aA.out 2; have uC := blk_frozen aA.out 3; have vC := blk_frozen aA.out 4; have wC := blk_frozen aA.out 5; have xC := blk_frozen aA.out 6; have yC := blk_frozen aA.out 7; have zC := blk_frozen aA.out 8; have AC := blk_frozen aA.out 9))
          repeat (go_quiet (first | (go_at_call 37; (with_reducible refine (impl_RiCall.calls 1 (wrap64 (100 + uA)) DC MC VC ZC bD jD dE hE nE QE _ A26.out).mono ?_); rintro e SC ⟨rfl, hb⟩; have BA := Aside0.mk (Kd.Q_below q7_12 hb); have FA := Aside0.mk (Kd.R_below q7_11 hb); have IA := Aside0.mk (Kd.R_below q7_10 hb); have JA := Aside0.mk (blk_below (g := sA) (o := .cells #[pA] 29 (0, 0)) q7_3 hb); have KA := Aside0.mk (blk_below (g := bA) (o := .cells #[.int .i64 XA, .int .i64 YA, .int .i64 ZA, .int .i64 bB, .int .i64 cB, .int .i64 dB, .int .i64 eB, .int .i64 fB, .int .i64 gB, .bool hB] 23 (0, 0)) q7_0 hb); have RA := Aside0.mk (below_step q7_1 hb); clear xA; clear wA; clear dA; clear oA; clear aA; clear HB; have xA := BA; have wA := FA; have dA := IA; have oA := JA; have aA := KA; have HB := RA; clear BA FA IA JA KA RA; (try clear hb); (try clear hb2); (try clear hk); (try clear hi); have vI := yA.out; have wI := qA.out; have hC : SC.cell? ⟨bA, 0, none⟩ = some (.int .i64 XA) := (blk_cell aA.out 0).trans rfl; have iC : SC.cell? ⟨bA, 1, none⟩ = some (.int .i64 YA) := (blk_cell aA.out 1).trans rfl; have jC : SC.cell? ⟨bA, 2, none⟩ = some (.int .i64 ZA) := (blk_cell aA.out 2).trans rfl; have kC : SC.cell? ⟨bA, 3, none⟩ = some (.int .i64 bB) := (blk_cell aA.out 3).trans rfl; have lC : SC.cell? ⟨bA, 4, none⟩ = some (.int .i64 cB) := (blk_cell aA.out 4).trans rfl; have mC : SC.cell? ⟨bA, 5, none⟩ = some (.int .i64 dB) := (blk_cell aA.out 5).trans rfl; have nC : SC.cell? ⟨bA, 6, none⟩ = some (.int .i64 eB) := (blk_cell aA.out 6).trans rfl; have oC : SC.cell? ⟨bA, 7, none⟩ = some (.int .i64 fB) := (blk_cell aA.out 7).trans rfl; have pC : SC.cell? ⟨bA, 8, none⟩ = some (.int .i64 gB) := (blk_cell aA.out 8).trans rfl; have qC : SC.cell? ⟨bA, 9, none⟩ = some (.bool hB) := (blk_cell aA.out 9).trans rfl; have rC := blk_frozen aA.out 0; have sC := blk_frozen aA.out 1; have tC := blk_frozen aA.out 2; have uC := blk_frozen aA.out 3; have vC := blk_frozen aA.out 4; have wC := blk_frozen aA.out 5; have xC := blk_frozen aA.out 6; have yC := blk_frozen aA.out 7; have zC := blk_frozen aA.out 8; have AC := blk_frozen aA.out 9)); try go_wp2_with (first | (go_at_call 37; (with_reducible refine (impl_RiCall.calls 1 (wrap64 (100 + uA)) DC MC VC ZC bD jD dE hE nE QE _ A26.out).mono ?_); rintro e SC ⟨rfl, hb⟩; have BA := Aside0.mk (Kd.Q_below q7_12 hb); have FA := Aside0.mk (Kd.R_below q7_11 hb); have IA := Aside0.mk (Kd.R_below q7_10 hb); have JA := Aside0.mk (blk_below (g := sA) (o := .cells #[pA] 29 (0, 0)) q7_3 hb); have KA := Aside0.mk (blk_below (g := bA) (o := .cells #[.int .i64 XA, .int .i64 YA, .int .i64 ZA, .int .i64 bB, .int .i64 cB, .int .i64 dB, .int .i64 eB, .int .i64 fB, .int .i64 gB, .bool hB] 23 (0, 0)) q7_0 hb); have RA := Aside0.mk (below_step q7_1 hb); clear xA; clear wA; clear dA; clear oA; clear aA; clear HB; have xA := BA; have wA := FA; have dA := IA; have oA := JA; have aA := KA; have HB := RA; clear BA FA IA JA KA RA; (try clear hb); (try clear hb2); (try clear hk); (try clear hi); have vI := yA.out; have wI := qA.out; have hC : SC.cell? ⟨bA, 0, none⟩ = some (.int .i64 XA) := (blk_cell aA.out 0).trans rfl; have iC : SC.cell? ⟨bA, 1, none⟩ = some (.int .i64 YA) := (blk_cell aA.out 1).trans rfl; have jC : SC.cell? ⟨bA, 2, none⟩ = some (.int .i64 ZA) := (blk_cell aA.out 2).trans rfl; have kC : SC.cell? ⟨bA, 3, none⟩ = some (.int .i64 bB) := (blk_cell aA.out 3).trans rfl; have lC : SC.cell? ⟨bA, 4, none⟩ = some (.int .i64 cB) := (blk_cell aA.out 4).trans rfl; have mC : SC.cell? ⟨bA, 5, none⟩ = some (.int .i64 dB) := (blk_cell aA.out 5).trans rfl; have nC : SC.cell? ⟨bA, 6, none⟩ = some (.int .i64 eB) := (blk_cell aA.out 6).trans rfl; have oC : SC.cell? ⟨bA, 7, none⟩ = some (.int .i64 fB) := (blk_cell aA.out 7).trans rfl; have pC : SC.cell? ⟨bA, 8, none⟩ = some (.int .i64 gB) := (blk_cell aA.out 8).trans rfl; have qC : SC.cell? ⟨bA, 9, none⟩ = some (.bool hB) := (blk_cell aA.out 9).trans rfl; have rC := blk_frozen aA.out 0; have sC := blk_frozen aA.out 1; have tC := blk_frozen aA.out 2; have uC := blk_frozen aA.out 3; have vC := blk_frozen aA.out 4; have wC := blk_frozen aA.out 5; have xC := blk_frozen aA.out 6; have yC := blk_frozen aA.out 7; have zC := blk_frozen aA.out 8; have AC := blk_frozen aA.out 9)))
          go_meet
          case rel => exact ⟨_, (DC), (MC), (VC), (ZC), (bD), (jD), (dE), (hE), (nE), (QE), H', ⟨by have := HK1.out; first | omega | exact Nat.le_refl _⟩, ⟨by (with_reducible repeat (first | apply Kd.Q_alloc | apply Kd.Q_drewN | apply Kd.Q_drew)); exact Kd.Q_mono (Kd.Q_far (p := ⟨bA, 9, none⟩) (Kd.Q_far (p := ⟨bA, 8, none⟩) (Kd.Q_far (p := ⟨bA, 7, none⟩) (Kd.Q_far (p := ⟨bA, 6, none⟩) (Kd.Q_far (p := ⟨bA, 5, none⟩) (Kd.Q_far (p := ⟨bA, 4, none⟩) (Kd.Q_far (p := ⟨bA, 3, none⟩) (Kd.Q_far (p := ⟨bA, 2, none⟩) (Kd.Q_far (p := ⟨bA, 1, none⟩) (Kd.Q_far (p := ⟨bA, 0, none⟩) (Kd.Q_types xA.out aA.out (by decide)) (fun _ hk => hk.2) (.int .i64 DC)) (fun _ hk => hk.2) (.int .i64 MC)) (fun _ hk => hk.2) (.int .i64 VC)) (fun _ hk => hk.2) (.int .i64 ZC)) (fun _ hk => hk.2) (.int .i64 bD)) (fun _ hk => hk.2) (.int .i64 jD)) (fun _ hk => hk.2) (.int .i64 dE)) (fun _ hk => hk.2) (.int .i64 hE)) (fun _ hk => hk.2) (.int .i64 nE)) (fun _ hk => hk.2) (.bool QE)) (fun _ hk => ⟨hk.1.1, hk.1.2⟩)⟩, ⟨by (with_reducible repeat (first | apply Kd.R_alloc | apply Kd.R_drewN | apply Kd.R_drew)); exact Kd.R_mono (Kd.R_far (p := ⟨bA, 9, none⟩) (Kd.R_far (p := ⟨bA, 8, none⟩) (Kd.R_far (p := ⟨bA, 7, none⟩) (Kd.R_far (p := ⟨bA, 6, none⟩) (Kd.R_far (p := ⟨bA, 5, none⟩) (Kd.R_far (p := ⟨bA, 4, none⟩) (Kd.R_far (p := ⟨bA, 3, none⟩) (Kd.R_far (p := ⟨bA, 2, none⟩) (Kd.R_far (p := ⟨bA, 1, none⟩) (Kd.R_far (p := ⟨bA, 0, none⟩) (Kd.R_types wA.out aA.out (by decide)) (fun _ hk => hk.2) (.int .i64 DC)) (fun _ hk => hk.2) (.int .i64 MC)) (fun _ hk => hk.2) (.int .i64 VC)) (fun _ hk => hk.2) (.int .i64 ZC)) (fun _ hk => hk.2) (.int .i64 bD)) (fun _ hk => hk.2) (.int .i64 jD)) (fun _ hk => hk.2) (.int .i64 dE)) (fun _ hk => hk.2) (.int .i64 hE)) (fun _ hk => hk.2) (.int .i64 nE)) (fun _ hk => hk.2) (.bool QE)) (fun _ hk => ⟨hk.1.1, hk.1.2⟩)⟩, ⟨by (with_reducible repeat (first | apply Kd.R_alloc | apply Kd.R_drewN | apply Kd.R_drew)); exact Kd.R_mono (Kd.R_far (p := ⟨bA, 9, none⟩) (Kd.R_far (p := ⟨bA, 8, none⟩) (Kd.R_far (p := ⟨bA, 7, none⟩) (Kd.R_far (p := ⟨bA, 6, none⟩) (Kd.R_far (p := ⟨bA, 5, none⟩) (Kd.R_far (p := ⟨bA, 4, none⟩) (Kd.R_far (p := ⟨bA, 3, none⟩) (Kd.R_far (p := ⟨bA, 2, none⟩) (Kd.R_far (p := ⟨bA, 1, none⟩) (Kd.R_far (p := ⟨bA, 0, none⟩) (Kd.R_types dA.out aA.out (by decide)) (fun _ hk => hk.2) (.int .i64 DC)) (fun _ hk => hk.2) (.int .i64 MC)) (fun _ hk => hk.2) (.int .i64 VC)) (fun _ hk => hk.2) (.int .i64 ZC)) (fun _ hk => hk.2) (.int .i64 bD)) (fun _ hk => hk.2) (.int .i64 jD)) (fun _ hk => hk.2) (.int .i64 dE)) (fun _ hk => hk.2) (.int .i64 hE)) (fun _ hk => hk.2) (.int .i64 nE)) (fun _ hk => hk.2) (.bool QE)) (fun _ hk => ⟨hk.1.1, hk.1.2⟩)⟩, ⟨q7_3⟩, ⟨by (with_reducible repeat (first | refine blk_drewN ?_ _ | refine blk_drew ?_ | refine blk_alloc ?_ _)); refine blk_put (cs := #[.int .i64 DC, .int .i64 MC, .int .i64 VC, .int .i64 ZC, .int .i64 bD, .int .i64 jD, .int .i64 dE, .int .i64 hE, .int .i64 nE, .bool hB]) ?_ 9 _ rfl; (with_reducible repeat (first | refine blk_drewN ?_ _ | refine blk_drew ?_ | refine blk_alloc ?_ _)); refine blk_put (cs := #[.int .i64 DC, .int .i64 MC, .int .i64 VC, .int .i64 ZC, .int .i64 bD, .int .i64 jD, .int .i64 dE, .int .i64 hE, .int .i64 gB, .bool hB]) ?_ 8 _ rfl; (with_reducible repeat (first | refine blk_drewN ?_ _ | refine blk_drew ?_ | refine blk_alloc ?_ _)); refine blk_put (cs := #[.int .i64 DC, .int .i64 MC, .int .i64 VC, .int .i64 ZC, .int .i64 bD, .int .i64 jD, .int .i64 dE, .int .i64 fB, .int .i64 gB, .bool hB]) ?_ 7 _ rfl; (with_reducible repeat (first | refine blk_drewN ?_ _ | refine blk_drew ?_ | refine blk_alloc ?_ _)); refine blk_put (cs := #[.int .i64 DC, .int .i64 MC, .int .i64 VC, .int .i64 ZC, .int .i64 bD, .int .i64 jD, .int .i64 eB, .int .i64 fB, .int .i64 gB, .bool hB]) ?_ 6 _ rfl; (with_reducible repeat (first | refine blk_drewN ?_ _ | refine blk_drew ?_ | refine blk_alloc ?_ _)); refine blk_put (cs := #[.int .i64 DC, .int .i64 MC, .int .i64 VC, .int .i64 ZC, .int .i64 bD, .int .i64 dB, .int .i64 eB, .int .i64 fB, .int .i64 gB, .bool hB]) ?_ 5 _ rfl; (with_reducible repeat (first | refine blk_drewN ?_ _ | refine blk_drew ?_ | refine blk_alloc ?_ _)); refine blk_put (cs := #[.int .i64 DC, .int .i64 MC, .int .i64 VC, .int .i64 ZC, .int .i64 cB, .int .i64 dB, .int .i64 eB, .int .i64 fB, .int .i64 gB, .bool hB]) ?_ 4 _ rfl; (with_reducible repeat (first | refine blk_drewN ?_ _ | refine blk_drew ?_ | refine blk_alloc ?_ _)); refine blk_put (cs := #[.int .i64 DC, .int .i64 MC, .int .i64 VC, .int .i64 bB, .int .i64 cB, .int .i64 dB, .int .i64 eB, .int .i64 fB, .int .i64 gB, .bool hB]) ?_ 3 _ rfl; (with_reducible repeat (first | refine blk_drewN ?_ _ | refine blk_drew ?_ | refine blk_alloc ?_ _)); refine blk_put (cs := #[.int .i64 DC, .int .i64 MC, .int .i64 ZA, .int .i64 bB, .int .i64 cB, .int .i64 dB, .int .i64 eB, .int .i64 fB, .int .i64 gB, .bool hB]) ?_ 2 _ rfl; (with_reducible repeat (first | refine blk_drewN ?_ _ | refine blk_drew ?_ | refine blk_alloc ?_ _)); refine blk_put (cs := #[.int .i64 DC, .int .i64 YA, .int .i64 ZA, .int .i64 bB, .int .i64 cB, .int .i64 dB, .int .i64 eB, .int .i64 fB, .int .i64 gB, .bool hB]) ?_ 1 _ rfl; (with_reducible repeat (first | refine blk_drewN ?_ _ | refine blk_drew ?_ | refine blk_alloc ?_ _)); refine blk_put (cs := #[.int .i64 XA, .int .i64 YA, .int .i64 ZA, .int .i64 bB, .int .i64 cB, .int .i64 dB, .int .i64 eB, .int .i64 fB, .int .i64 gB, .bool hB]) ?_ 0 _ rfl; (with_reducible repeat (first | refine blk_drewN ?_ _ | refine blk_drew ?_ | refine blk_alloc ?_ _)); exact aA.out⟩, ⟨q7_1⟩⟩
         ·rw [if_neg c25] at H
          have RC : ((Int.tmod (rd tA uA) 2) == 0) = false := beq_eq_false_iff_ne.mpr c25
          have lE : ((Int.tmod (rd tA uA) 2) != 0) = true := bne_iff_ne.mpr c25
          (first | rw [RC] | (simp only [i64_w, i32_w]; rw [RC]) | skip)
          have H' := Aside0.mk H
          clear H
          go_wp2
          repeat (go_quiet (fail); try go_wp2)
          go_meet
          case rel => exact ⟨_, (XA), (YA), (ZA), (bB), (cB), (dB), (eB), (fB), (gB), (hB), H', ⟨by have := HK1.out; first | omega | exact Nat.le_refl _⟩, ⟨by (with_reducible repeat (first | apply Kd.Q_alloc | apply Kd.Q_drewN | apply Kd.Q_drew)); exact Kd.Q_mono (Kd.Q_far (p := ⟨bA, 9, none⟩) (Kd.Q_far (p := ⟨bA, 8, none⟩) (Kd.Q_far (p := ⟨bA, 7, none⟩) (Kd.Q_far (p := ⟨bA, 6, none⟩) (Kd.Q_far (p := ⟨bA, 5, none⟩) (Kd.Q_far (p := ⟨bA, 4, none⟩) (Kd.Q_far (p := ⟨bA, 3, none⟩) (Kd.Q_far (p := ⟨bA, 2, none⟩) (Kd.Q_far (p := ⟨bA, 1, none⟩) (Kd.Q_far (p := ⟨bA, 0, none⟩) (Kd.Q_types xA.out aA.out (by decide)) (fun _ hk => hk.2) (.int .i64 XA)) (fun _ hk => hk.2) (.int .i64 YA)) (fun _ hk => hk.2) (.int .i64 ZA)) (fun _ hk => hk.2) (.int .i64 bB)) (fun _ hk => hk.2) (.int .i64 cB)) (fun _ hk => hk.2) (.int .i64 dB)) (fun _ hk => hk.2) (.int .i64 eB)) (fun _ hk => hk.2) (.int .i64 fB)) (fun _ hk => hk.2) (.int .i64 gB)) (fun _ hk => hk.2) (.bool hB)) (fun _ hk => ⟨hk.1.1, hk.1.2⟩)⟩, ⟨by (with_reducible repeat (first | apply Kd.R_alloc | apply Kd.R_drewN | apply Kd.R_drew)); exact Kd.R_mono (Kd.R_far (p := ⟨bA, 9, none⟩) (Kd.R_far (p := ⟨bA, 8, none⟩) (Kd.R_far (p := ⟨bA, 7, none⟩) (Kd.R_far (p := ⟨bA, 6, none⟩) (Kd.R_far (p := ⟨bA, 5, none⟩) (Kd.R_far (p := ⟨bA, 4, none⟩) (Kd.R_far (p := ⟨bA, 3, none⟩) (Kd.R_far (p := ⟨bA, 2, none⟩) (Kd.R_far (p := ⟨bA, 1, none⟩) (Kd.R_far (p := ⟨bA, 0, none⟩) (Kd.R_types wA.out aA.out (by decide)) (fun _ hk => hk.2) (.int .i64 XA)) (fun _ hk => hk.2) (.int .i64 YA)) (fun _ hk => hk.2) (.int .i64 ZA)) (fun _ hk => hk.2) (.int .i64 bB)) (fun _ hk => hk.2) (.int .i64 cB)) (fun _ hk => hk.2) (.int .i64 dB)) (fun _ hk => hk.2) (.int .i64 eB)) (fun _ hk => hk.2) (.int .i64 fB)) (fun _ hk => hk.2) (.int .i64 gB)) (fun _ hk => hk.2) (.bool hB)) (fun _ hk => ⟨hk.1.1, hk.1.2⟩)⟩, ⟨by (with_reducible repeat (first | apply Kd.R_alloc | apply Kd.R_drewN | apply Kd.R_drew)); exact Kd.R_mono (Kd.R_far (p := ⟨bA, 9, none⟩) (Kd.R_far (p := ⟨bA, 8, none⟩) (Kd.R_far (p := ⟨bA, 7, none⟩) (Kd.R_far (p := ⟨bA, 6, none⟩) (Kd.R_far (p := ⟨bA, 5, none⟩) (Kd.R_far (p := ⟨bA, 4, none⟩) (Kd.R_far (p := ⟨bA, 3, none⟩) (Kd.R_far (p := ⟨bA, 2, none⟩) (Kd.R_far (p := ⟨bA, 1, none⟩) (Kd.R_far (p := ⟨bA, 0, none⟩) (Kd.R_types dA.out aA.out (by decide)) (fun _ hk => hk.2) (.int .i64 XA)) (fun _ hk => hk.2) (.int .i64 YA)) (fun _ hk => hk.2) (.int .i64 ZA)) (fun _ hk => hk.2) (.int .i64 bB)) (fun _ hk => hk.2) (.int .i64 cB)) (fun _ hk => hk.2) (.int .i64 dB)) (fun _ hk => hk.2) (.int .i64 eB)) (fun _ hk => hk.2) (.int .i64 fB)) (fun _ hk => hk.2) (.int .i64 gB)) (fun _ hk => hk.2) (.bool hB)) (fun _ hk => ⟨hk.1.1, hk.1.2⟩)⟩, ⟨q7_3⟩, ⟨q7_0⟩, ⟨q7_1⟩⟩
        case rest =>
         clear HC20
         (try clear c1); (try clear c2); (try clear UE); (try clear VE); (try clear p2); (try clear q2); (try clear hx2); (try clear c5); (try clear p6); (try clear c14); (try clear c16); (try clear kE); (try clear c17); (try clear OE); (try clear c18); (try clear PE); (try clear c23); (try clear c25); (try clear RC); (try clear lE); (try clear p26); (try clear q26); (try clear hx26); (try clear c28); (try clear rB); (try clear CB); (try clear DB); (try clear EB); (try clear FB); (try clear GB); (try clear IB); (try clear JB); (try clear KB); (try clear LB); (try clear MB); (try clear hC); (try clear iC); (try clear jC); (try clear kC); (try clear lC); (try clear mC); (try clear nC); (try clear oC); (try clear pC); (try clear qC); (try clear sB); (try clear NB); (try clear OB); (try clear PB); (try clear QB); (try clear RB); (try clear SB); (try clear TB); (try clear UB); (try clear VB); (try clear WB); (try clear rC); (try clear sC); (try clear tC); (try clear uC); (try clear vC); (try clear wC); (try clear xC); (try clear yC); (try clear zC); (try clear AC); (try clear YC); (try clear p2); (try clear p261); (try clear p6); (try clear q261)
         obtain ⟨kq, XB, YB, ZB, aC, bC, cC, dC, eC, fC, gC, HA, HJ19, xA, wA, dA, oA, aA, HB⟩ := hcut
         cases kq with
         | zero => exact absurd HA.out (by simp [laws_FnRingOne.j1])
         | succ kj19 =>
          have H := HA.out
          clear HA
          simp only [laws_FnRingOne.j1] at H
          have H' := Aside0.mk H
          clear H
          go_wp2
          repeat (go_quiet (fail); try go_wp2)
          go_loopg [10] kj19 (fun kq v10 w' => ∃ (EC : Int) (kA : List Int) (fA : Int) (mA : Int) (lA : Int) (jA : Int) (iA : Int) (hA : Int) (gA : Int) (cA : Int) (eA : Int) (nA : Bool) (pA : Value), v10 = .int .i64 EC ∧ Aside0 (laws_FnRingOne.l1 kq (wrap64 (2 + EA)) zA uA EC tA (tA.length : Int) uA kA fA mA lA jA iA hA gA cA eA nA = some true) ∧ Aside0 (kq ≤ kj19) ∧ Aside0 (Kd.Q (Kd.int .i64) 3 w' w.heap.size (fun k_ => some k_ ≠ ((.slice (some ad261) tA.length VA) : Value).ownBlock ∧ some k_ ≠ (pA : Value).ownBlock) u6 zA) ∧ Aside0 (Kd.R (Kd.int .i64) 3 w' w.heap.size (fun k_ => some k_ ≠ (u6 : Value).ownBlock ∧ some k_ ≠ (pA : Value).ownBlock) (.slice (some ad261) tA.length VA) tA) ∧ Aside0 (Kd.R (Kd.int .i64) 3 w' w.heap.size (fun k_ => some k_ ≠ (u6 : Value).ownBlock ∧ some k_ ≠ ((.slice (some ad261) tA.length VA) : Value).ownBlock) pA kA) ∧ Aside0 (w'.heap[sA]? = some (.cells #[pA] 29 (0, 0))) ∧ Aside0 (w'.heap[bA]? = some (.cells #[.int .i64 fA, .int .i64 mA, .int .i64 lA, .int .i64 jA, .int .i64 iA, .int .i64 hA, .int .i64 gA, .int .i64 cA, .int .i64 eA, .bool nA] 23 (0, 0))) ∧ Aside0 (Below w.heap.size w w'))
          case atStart => exact ⟨(0), (OA), (XB), (YB), (ZB), (aC), (bC), (cC), (dC), (eC), (fC), (gC), (pA), q7_31, H', ⟨Nat.le_refl _⟩, ⟨q7_8⟩, ⟨q7_7⟩, ⟨q7_6⟩, ⟨q7_2⟩, ⟨q7_5⟩, ⟨q7_1⟩⟩
          case round =>
           clear H'
           (try clear c1); (try clear c2); (try clear UE); (try clear VE); (try clear p2); (try clear q2); (try clear hx2); (try clear c5); (try clear p6); (try clear c14); (try clear c16); (try clear kE); (try clear c17); (try clear OE); (try clear c18); (try clear PE); (try clear c23); (try clear c25); (try clear RC); (try clear lE); (try clear p26); (try clear q26); (try clear hx26); (try clear c28); (try clear rB); (try clear CB); (try clear DB); (try clear EB); (try clear FB); (try clear GB); (try clear IB); (try clear JB); (try clear KB); (try clear LB); (try clear MB); (try clear hC); (try clear iC); (try clear jC); (try clear kC); (try clear lC); (try clear mC); (try clear nC); (try clear oC); (try clear pC); (try clear qC); (try clear sB); (try clear NB); (try clear OB); (try clear PB); (try clear QB); (try clear RB); (try clear SB); (try clear TB); (try clear UB); (try clear VB); (try clear WB); (try clear rC); (try clear sC); (try clear tC); (try clear uC); (try clear vC); (try clear wC); (try clear xC); (try clear yC); (try clear zC); (try clear AC); (try clear YC); (try clear p2); (try clear p26); (try clear p261); (try clear p6); (try clear q2); (try clear q26); (try clear q261)
           obtain ⟨EC, kA, fA, mA, lA, jA, iA, hA, gA, cA, eA, nA, pA, rfl, HA, HK3, xA, wA, dA, oA, aA, HB⟩ := hrel
           cases gk with
           | zero => exact absurd HA.out (by simp [laws_FnRingOne.l1])
           | succ k3 =>
            have H := HA.out
            clear HA
            simp only [laws_FnRingOne.l1] at H
            have HC30 := Aside0.mk H
            clear H
            go_upto_region 15 with (fail)
            repeat (go_quiet (fail); go_upto_region 15 with (fail))
            go_cut [49] (fun v49 wc => ∃ (kq : Nat) (oE : Bool), v49 = .bool oE ∧ Aside0 (laws_FnRingOne.j3 kq (wrap64 (2 + EA)) zA uA EC tA (tA.length : Int) uA oE kA fA mA lA jA iA hA gA cA eA nA = some true) ∧ Aside0 (kq ≤ k3) ∧ Aside0 (Kd.Q (Kd.int .i64) 3 wc w.heap.size (fun k_ => some k_ ≠ ((.slice (some ad261) tA.length VA) : Value).ownBlock ∧ some k_ ≠ (pA : Value).ownBlock) u6 zA) ∧ Aside0 (Kd.R (Kd.int .i64) 3 wc w.heap.size (fun k_ => some k_ ≠ (u6 : Value).ownBlock ∧ some k_ ≠ (pA : Value).ownBlock) (.slice (some ad261) tA.length VA) tA) ∧ Aside0 (Kd.R (Kd.int .i64) 3 wc w.heap.size (fun k_ => some k_ ≠ (u6 : Value).ownBlock ∧ some k_ ≠ ((.slice (some ad261) tA.length VA) : Value).ownBlock) pA kA) ∧ Aside0 (wc.heap[sA]? = some (.cells #[pA] 29 (0, 0))) ∧ Aside0 (wc.heap[bA]? = some (.cells #[.int .i64 fA, .int .i64 mA, .int .i64 lA, .int .i64 jA, .int .i64 iA, .int .i64 hA, .int .i64 gA, .int .i64 cA, .int .i64 eA, .bool nA] 23 (0, 0))) ∧ Aside0 (Below w.heap.size w wc))
            case first =>
             have H := HC30.out
             clear HC30
             by_cases c31 : EC < 5
             ·rw [if_pos c31] at H
              have iD : decide (EC < 5) = true := decide_eq_true c31
              clear c31
              (first | rw [iD] | (simp only [i64_w, i32_w]; rw [iD]) | skip)
              have H' := Aside0.mk H
              clear H
              have EJ := yA.out
              have FJ := qA.out
              have pE : wr.cell? ⟨bA, 0, none⟩ = some (.int .i64 fA) := (blk_cell aA.out 0).trans rfl
              have qE : wr.cell? ⟨bA, 1, none⟩ = some (.int .i64 mA) := (blk_cell aA.out 1).trans rfl
              have rE : wr.cell? ⟨bA, 2, none⟩ = some (.int .i64 lA) := (blk_cell aA.out 2).trans rfl
              have sE : wr.cell? ⟨bA, 3, none⟩ = some (.int .i64 jA) := (blk_cell aA.out 3).trans rfl
              have tE : wr.cell? ⟨bA, 4, none⟩ = some (.int .i64 iA) := (blk_cell aA.out 4).trans rfl
              have uE : wr.cell? ⟨bA, 5, none⟩ = some (.int .i64 hA) := (blk_cell aA.out 5).trans rfl
              have vE : wr.cell? ⟨bA, 6, none⟩ = some (.int .i64 gA) := (blk_cell aA.out 6).trans rfl
              have wE : wr.cell? ⟨bA, 7, none⟩ = some (.int .i64 cA) := (blk_cell aA.out 7).trans rfl
              have xE : wr.cell? ⟨bA, 8, none⟩ = some (.int .i64 eA) := (blk_cell aA.out 8).trans rfl
              have yE : wr.cell? ⟨bA, 9, none⟩ = some (.bool nA) := (blk_cell aA.out 9).trans rfl
              have zE := blk_frozen aA.out 0
              have AE := blk_frozen aA.out 1
              have BE := blk_frozen aA.out 2
              have CE := blk_frozen aA.out 3
              have DE := blk_frozen aA.out 4
              have EE := blk_frozen aA.out 5
              have FE := blk_frozen aA.out 6
              have GE := blk_frozen aA.out 7
              have HE := blk_frozen aA.out 8
              have IE := blk_frozen aA.out 9
              go_wp2
              repeat (go_quiet (fail); try go_wp2)
              go_meet
              case rel => exact ⟨_, (!nA), q7_31, H', ⟨by have := HK1.out; have := HJ19.out; have := HK3.out; first | omega | exact Nat.le_refl _⟩, ⟨q7_8⟩, ⟨q7_7⟩, ⟨q7_6⟩, ⟨q7_2⟩, ⟨q7_5⟩, ⟨q7_1⟩⟩
             ·rw [if_neg c31] at H
              have iD : decide (EC < 5) = false := decide_eq_false c31
              clear c31
              (first | rw [iD] | (simp only [i64_w, i32_w]; rw [iD]) | skip)
              have H' := Aside0.mk H
              clear H
              go_wp2
              repeat (go_quiet (fail); try go_wp2)
              go_meet
              case rel => exact ⟨_, (false), q7_31, H', ⟨by have := HK1.out; have := HJ19.out; have := HK3.out; first | omega | exact Nat.le_refl _⟩, ⟨q7_8⟩, ⟨q7_7⟩, ⟨q7_6⟩, ⟨q7_2⟩, ⟨q7_5⟩, ⟨q7_1⟩⟩
            case rest =>
             clear HC30
             (try clear c1); (try clear c2); (try clear UE); (try clear VE); (try clear p2); (try clear q2); (try clear hx2); (try clear c3); (try clear c5); (try clear p6); (try clear c14); (try clear c16); (try clear kE); (try clear c17); (try clear OE); (try clear c18); (try clear PE); (try clear c23); (try clear c25); (try clear RC); (try clear lE); (try clear p26); (try clear q26); (try clear hx26); (try clear c28); (try clear c31); (try clear iD); (try clear c32); (try clear rB); (try clear CB); (try clear DB); (try clear EB); (try clear FB); (try clear GB); (try clear IB); (try clear JB); (try clear KB); (try clear LB); (try clear MB); (try clear hC); (try clear iC); (try clear jC); (try clear kC); (try clear lC); (try clear mC); (try clear nC); (try clear oC); (try clear pC); (try clear qC); (try clear pE); (try clear qE); (try clear rE); (try clear sE); (try clear tE); (try clear uE); (try clear vE); (try clear wE); (try clear xE); (try clear yE); (try clear sB); (try clear NB); (try clear OB); (try clear PB); (try clear QB); (try clear RB); (try clear SB); (try clear TB); (try clear UB); (try clear VB); (try clear WB); (try clear rC); (try clear sC); (try clear tC); (try clear uC); (try clear vC); (try clear wC); (try clear xC); (try clear yC); (try clear zC); (try clear AC); (try clear zE); (try clear AE); (try clear BE); (try clear CE); (try clear DE); (try clear EE); (try clear FE); (try clear GE); (try clear HE); (try clear IE); (try clear YC); (try clear p2); (try clear p26); (try clear p261); (try clear p6); (try clear q2); (try clear q26); (try clear q261)
             obtain ⟨kq, oE, rfl, HA, HJ29, xA, wA, dA, oA, aA, HB⟩ := hcut
             cases kq with
             | zero => exact absurd HA.out (by simp [laws_FnRingOne.j3])
             | succ kj29 =>
              have H := HA.out
              clear HA
              simp only [laws_FnRingOne.j3] at H
              by_cases c34 : oE = true
              ·subst c34
               have H1 : ((impl_RiStep.f kj29 (wrap64 (2 + EA)) kA fA mA lA jA iA hA gA cA eA nA).bind fun MA => (if MA.2.2.2.2.2.2.2.2.2.2.2 = true then (laws_FnRingOne.l1 kj29 (wrap64 (2 + EA)) zA uA (wrap64 (EC + 1)) tA (tA.length : Int) uA MA.1 MA.2.1 MA.2.2.1 MA.2.2.2.1 MA.2.2.2.2.1 MA.2.2.2.2.2.1 MA.2.2.2.2.2.2.1 MA.2.2.2.2.2.2.2.1 MA.2.2.2.2.2.2.2.2.1 MA.2.2.2.2.2.2.2.2.2.1 MA.2.2.2.2.2.2.2.2.2.2.1) else (some false))) = some true := by rw [if_pos rfl] at H; exact H
               clear H
               have H := H1
               clear H1
               replace H := Option.bind_eq_some_iff.mp H
               obtain ⟨⟨cD, uB, vB, BC, CC, FC, NC, WC, aD, dD, kD, bJ⟩, A350, H⟩ := H
               replace H : (if bJ = true then (laws_FnRingOne.l1 kj29 (wrap64 (2 + EA)) zA uA (wrap64 (EC + 1)) tA (tA.length : Int) uA cD uB vB BC CC FC NC WC aD dD kD) else (some false)) = some true := H
               have A35 := Aside0.mk A350
               clear A350
               by_cases c36 : bJ = true
               ·subst c36
                have H1 : (laws_FnRingOne.l1 kj29 (wrap64 (2 + EA)) zA uA (wrap64 (EC + 1)) tA (tA.length : Int) uA cD uB vB BC CC FC NC WC aD dD kD) = some true := by rw [if_pos rfl] at H; exact H
                clear H
                have H := H1
                clear H1
                have H' := Aside0.mk H
                clear H
                have GJ := qA.out
                have HJ := yA.out
                have XE : wc.cell? ⟨sA, 0, none⟩ = some (pA) := (blk_cell oA.out 0).trans rfl
                have YE := blk_frozen oA.out 0
                have ZE : wc.cell? ⟨bA, 0, none⟩ = some (.int .i64 fA) := (blk_cell aA.out 0).trans rfl
                have bF : wc.cell? ⟨bA, 1, none⟩ = some (.int .i64 mA) := (blk_cell aA.out 1).trans rfl
                have cF : wc.cell? ⟨bA, 2, none⟩ = some (.int .i64 lA) := (blk_cell aA.out 2).trans rfl
                have dF : wc.cell? ⟨bA, 3, none⟩ = some (.int .i64 jA) := (blk_cell aA.out 3).trans rfl
                have eF : wc.cell? ⟨bA, 4, none⟩ = some (.int .i64 iA) := (blk_cell aA.out 4).trans rfl
                have fF : wc.cell? ⟨bA, 5, none⟩ = some (.int .i64 hA) := (blk_cell aA.out 5).trans rfl
                have gF : wc.cell? ⟨bA, 6, none⟩ = some (.int .i64 gA) := (blk_cell aA.out 6).trans rfl
                have hF : wc.cell? ⟨bA, 7, none⟩ = some (.int .i64 cA) := (blk_cell aA.out 7).trans rfl
                have iF : wc.cell? ⟨bA, 8, none⟩ = some (.int .i64 eA) := (blk_cell aA.out 8).trans rfl
                have jF : wc.cell? ⟨bA, 9, none⟩ = some (.bool nA) := (blk_cell aA.out 9).trans rfl
                have kF := blk_frozen aA.out 0
                have lF := blk_frozen aA.out 1
                have mF := blk_frozen aA.out 2
                have nF := blk_frozen aA.out 3
                have oF := blk_frozen aA.out 4
                have pF := blk_frozen aA.out 5
                have qF := blk_frozen aA.out 6
                have rF := blk_frozen aA.out 7
                have sF := blk_frozen aA.out 8
                have tF := blk_frozen aA.out 9
                obtain ⟨TC, UC, uJ⟩ := Kd.R_slice dA.out
                subst uJ
                go_wp2_with (first | (go_at_call 43; (with_reducible refine (impl_RiStep.calls kj29 (wrap64 (2 + EA)) _ _ kA fA mA lA jA iA hA gA cA eA nA cD uB vB BC CC FC NC WC aD dD kD true _ ?side1 ?side2 A35.out).mono ?_); (case side1 => exact q7_18); (case side2 => exact (Kd.R_reads' dA.out).2.1); rintro e IJ ⟨cJ, rfl, ho0, hb⟩; have BA := Aside0.mk (Kd.Q_elder' q7_8 (Kd.R_base ho0) hb); have FA := Aside0.mk (Kd.R_elder' q7_7 (Kd.R_base ho0) hb); have IA := Aside0.mk (Kd.R_elder' q7_6 (Kd.R_base ho0) hb); have JA := Aside0.mk (Kd.R_lower (Kd.R_new' (Kd.R_new' (Kd.R_new' ho0 (Kd.Q_lt q7_8)) (Kd.R_lt q7_7)) (Kd.R_lt q7_6)) (below_size q7_1)); have KA := Aside0.mk (blk_below (g := sA) (o := .cells #[.slice TC kA.length UC] 29 (0, 0)) q7_2 hb); have RA := Aside0.mk (blk_below (g := bA) (o := .cells #[.int .i64 fA, .int .i64 mA, .int .i64 lA, .int .i64 jA, .int .i64 iA, .int .i64 hA, .int .i64 gA, .int .i64 cA, .int .i64 eA, .bool nA] 23 (0, 0)) q7_5 hb); have tB := Aside0.mk (below_step q7_1 hb); clear xA; clear wA; clear dA; clear oA; clear aA; clear HB; have xA := BA; have wA := FA; have dA := IA; have SA := JA; have oA := KA; have aA := RA; have HB := tB; clear BA FA IA JA KA RA tB; (try clear hb); (try clear hb2); (try clear hk); (try clear hi); (try clear ho0)) | ((with_reducible refine gate_dst (N := 11) rfl ?_); (try (refine gate_guard (by rfl) ?_; dsimp only)); refine box_event ?hg (N := 11) ?hd (cs := #[.slice none 0 0]) (t := 29) ?hr ?_; (case hd => rfl); (case hg => rfl); (case hr => first | (go_simp; done) | (go_simp; rfl)); intro AA hg JJ hbox hb; have BA := Aside0.mk (Kd.Q_below q7_8 hb); have FA := Aside0.mk (Kd.R_below q7_7 hb); have IA := Aside0.mk (Kd.R_below q7_6 hb); have JA := Aside0.mk (Kd.R_below q7_24 hb); have KA := Aside0.mk (blk_below (g := sA) (o := .cells #[.slice TC kA.length UC] 29 (0, 0)) q7_2 hb); have RA := Aside0.mk (blk_below (g := bA) (o := .cells #[.int .i64 fA, .int .i64 mA, .int .i64 lA, .int .i64 jA, .int .i64 iA, .int .i64 hA, .int .i64 gA, .int .i64 cA, .int .i64 eA, .bool nA] 23 (0, 0)) q7_5 hb); have tB := Aside0.mk (below_step q7_1 hb); have fD := Aside0.mk (hbox); have gD := Aside0.mk ((by rw [hg]; exact (below_size q7_1) : w.heap.size ≤ AA)); have hD := Aside0.mk ((by rw [hg]; exact (below_size q7_1) : w.heap.size ≤ AA)); have GC := Aside0.mk ((q7_20 : sA ≠ AA)); have HC := Aside0.mk ((q7_21 : AA ≠ sA)); have IC := Aside0.mk ((q7_14 : bA ≠ AA)); have JC := Aside0.mk ((q7_15 : AA ≠ bA)); clear xA; clear wA; clear dA; clear SA; clear oA; clear aA; clear HB; have xA := BA; have wA := FA; have dA := IA; have SA := JA; have oA := KA; have aA := RA; have HB := tB; have WA := fD; have xI := gD; have WE := hD; have pB := GC; have wB := HC; have qB := IC; have xB := JC; clear BA FA IA JA KA RA tB fD gD hD GC HC IC JC; clear hb hbox hg) | ((with_reducible refine gate_dst (N := 12) rfl ?_); (try (refine gate_guard (by rfl) ?_; dsimp only)); refine box_event ?hg (N := 12) ?hd (cs := #[.int .i64 0, .int .i64 0, .int .i64 0, .int .i64 0, .int .i64 0, .int .i64 0, .int .i64 0, .int .i64 0, .int .i64 0, .bool false]) (t := 23) ?hr ?_; (case hd => rfl); (case hg => rfl); (case hr => first | (go_simp; done) | (go_simp; rfl)); intro rA hg PA hbox hb; have BA := Aside0.mk (Kd.Q_below q7_8 hb); have FA := Aside0.mk (Kd.R_below q7_7 hb); have IA := Aside0.mk (Kd.R_below q7_6 hb); have JA := Aside0.mk (Kd.R_below q7_24 hb); have KA := Aside0.mk (blk_below (g := sA) (o := .cells #[.slice TC kA.length UC] 29 (0, 0)) q7_2 hb); have RA := Aside0.mk (blk_below (g := bA) (o := .cells #[.int .i64 fA, .int .i64 mA, .int .i64 lA, .int .i64 jA, .int .i64 iA, .int .i64 hA, .int .i64 gA, .int .i64 cA, .int .i64 eA, .bool nA] 23 (0, 0)) q7_5 hb); have tB := Aside0.mk (blk_below (g := AA) (o := .cells #[.slice none 0 0] 29 (0, 0)) q7_17 hb); have fD := Aside0.mk (below_step q7_13 hb); have gD := Aside0.mk (hbox); have hD := Aside0.mk ((by rw [hg]; exact (below_size q7_13) : w.heap.size ≤ rA)); have GC := Aside0.mk ((by rw [hg]; exact (below_size q7_13) : w.heap.size ≤ rA)); have HC := Aside0.mk ((q7_20 : sA ≠ rA)); have IC := Aside0.mk ((q7_21 : rA ≠ sA)); have JC := Aside0.mk ((q7_14 : bA ≠ rA)); have RE := Aside0.mk ((q7_15 : rA ≠ bA)); have SE := Aside0.mk ((by rw [hg]; exact Nat.ne_of_lt (blk_lt (g := AA) (o := .cells #[.slice none 0 0] 29 (0, 0)) q7_17) : AA ≠ rA)); have TE := Aside0.mk ((by rw [hg]; exact Nat.ne_of_gt (blk_lt (g := AA) (o := .cells #[.slice none 0 0] 29 (0, 0)) q7_17) : rA ≠ AA)); clear xA; clear wA; clear dA; clear SA; clear oA; clear aA; clear WA; clear HB; have xA := BA; have wA := FA; have dA := IA; have SA := JA; have oA := KA; have aA := RA; have WA := tB; have HB := fD; have vA := gD; have yI := hD; have GG := GC; have CA := HC; have yB := IC; have DA := JC; have zB := RE; have AB := SE; have BB := TE; clear BA FA IA JA KA RA tB fD gD hD GC HC IC JC RE SE TE; clear hb hbox hg; obtain ⟨JE, KE, HG⟩ := Kd.R_slice SA.out; subst HG; have zI := wB.out; have AI := pB.out; have BI := xB.out; have CI := qB.out; have DI := AB.out; have EI := BB.out; have lD : PA.cell? ⟨AA, 0, none⟩ = some (.slice none 0 0) := (blk_cell WA.out 0).trans rfl; have mD := blk_frozen WA.out 0; have FI := yB.out; have GI := CA.out; have HI := zB.out; have II := DA.out; have nD : PA.cell? ⟨rA, 0, none⟩ = some (.int .i64 0) := (blk_cell vA.out 0).trans rfl; have oD : PA.cell? ⟨rA, 1, none⟩ = some (.int .i64 0) := (blk_cell vA.out 1).trans rfl; have pD : PA.cell? ⟨rA, 2, none⟩ = some (.int .i64 0) := (blk_cell vA.out 2).trans rfl; have qD : PA.cell? ⟨rA, 3, none⟩ = some (.int .i64 0) := (blk_cell vA.out 3).trans rfl; have rD : PA.cell? ⟨rA, 4, none⟩ = some (.int .i64 0) := (blk_cell vA.out 4).trans rfl; have sD : PA.cell? ⟨rA, 5, none⟩ = some (.int .i64 0) := (blk_cell vA.out 5).trans rfl; have tD : PA.cell? ⟨rA, 6, none⟩ = some (.int .i64 0) := (blk_cell vA.out 6).trans rfl; have uD : PA.cell? ⟨rA, 7, none⟩ = some (.int .i64 0) := (blk_cell vA.out 7).trans rfl; have vD : PA.cell? ⟨rA, 8, none⟩ = some (.int .i64 0) := (blk_cell vA.out 8).trans rfl; have wD : PA.cell? ⟨rA, 9, none⟩ = some (.bool false) := (blk_cell vA.out 9).trans rfl; have xD := blk_frozen vA.out 0; have yD := blk_frozen vA.out 1; have zD := blk_frozen vA.out 2; have AD := blk_frozen vA.out 3; have BD := blk_frozen vA.out 4; have CD := blk_frozen vA.out 5; have DD := blk_frozen vA.out 6; have ED := blk_frozen vA.out 7; have FD := blk_frozen vA.out 8; have GD := blk_frozen vA.out 9; have HD : PA.cell? ⟨sA, 0, none⟩ = some (.slice TC kA.length UC) := (blk_cell oA.out 0).trans rfl; have ID := blk_frozen oA.out 0; have JD : PA.cell? ⟨bA, 0, none⟩ = some (.int .i64 fA) := (blk_cell aA.out 0).trans rfl; have KD : PA.cell? ⟨bA, 1, none⟩ = some (.int .i64 mA) := (blk_cell aA.out 1).trans rfl; have LD : PA.cell? ⟨bA, 2, none⟩ = some (.int .i64 lA) := (blk_cell aA.out 2).trans rfl; have MD : PA.cell? ⟨bA, 3, none⟩ = some (.int .i64 jA) := (blk_cell aA.out 3).trans rfl; have ND : PA.cell? ⟨bA, 4, none⟩ = some (.int .i64 iA) := (blk_cell aA.out 4).trans rfl; have OD : PA.cell? ⟨bA, 5, none⟩ = some (.int .i64 hA) := (blk_cell aA.out 5).trans rfl; have PD : PA.cell? ⟨bA, 6, none⟩ = some (.int .i64 gA) := (blk_cell aA.out 6).trans rfl; have QD : PA.cell? ⟨bA, 7, none⟩ = some (.int .i64 cA) := (blk_cell aA.out 7).trans rfl; have RD : PA.cell? ⟨bA, 8, none⟩ = some (.int .i64 eA) := (blk_cell aA.out 8).trans rfl; have SD : PA.cell? ⟨bA, 9, none⟩ = some (.bool nA) := (blk_cell aA.out 9).trans rfl; have TD := blk_frozen aA.out 0; have UD := blk_frozen aA.out 1; have VD := blk_frozen aA.out 2; have WD := blk_frozen aA.out 3; have XD := blk_frozen aA.out 4; have YD := blk_frozen aA.out 5; have ZD := blk_frozen aA.out 6; have aE := blk_frozen aA.out 7; have bE := blk_frozen aA.out 8; have cE := blk_frozen aA.out 9))
                repeat (go_quiet (first | (go_at_call 43; (with_reducible refine (impl_RiStep.calls kj29 (wrap64 (2 + EA)) _ _ kA fA mA lA jA iA hA gA cA eA nA cD uB vB BC CC FC NC WC aD dD kD true _ ?side1 ?side2 A35.out).mono ?_); (case side1 => exact q7_18); (case side2 => exact (Kd.R_reads' dA.out).2.1); rintro e IJ ⟨cJ, rfl, ho0, hb⟩; have BA := Aside0.mk (Kd.Q_elder' q7_8 (Kd.R_base ho0) hb); have FA := Aside0.mk (Kd.R_elder' q7_7 (Kd.R_base ho0) hb); have IA := Aside0.mk (Kd.R_elder' q7_6 (Kd.R_base ho0) hb); have JA := Aside0.mk (Kd.R_lower (Kd.R_new' (Kd.R_new' (Kd.R_new' ho0 (Kd.Q_lt q7_8)) (Kd.R_lt q7_7)) (Kd.R_lt q7_6)) (below_size q7_1)); have KA := Aside0.mk (blk_below (g := sA) (o := .cells #[.slice TC kA.length UC] 29 (0, 0)) q7_2 hb); have RA := Aside0.mk (blk_below (g := bA) (o := .cells #[.int .i64 fA, .int .i64 mA, .int .i64 lA, .int .i64 jA, .int .i64 iA, .int .i64 hA, .int .i64 gA, .int .i64 cA, .int .i64 eA, .bool nA] 23 (0, 0)) q7_5 hb); have tB := Aside0.mk (below_step q7_1 hb); clear xA; clear wA; clear dA; clear oA; clear aA; clear HB; have xA := BA; have wA := FA; have dA := IA; have SA := JA; have oA := KA; have aA := RA; have HB := tB; clear BA FA IA JA KA RA tB; (try clear hb); (try clear hb2); (try clear hk); (try clear hi); (try clear ho0)) | ((with_reducible refine gate_dst (N := 11) rfl ?_); (try (refine gate_guard (by rfl) ?_; dsimp only)); refine box_event ?hg (N := 11) ?hd (cs := #[.slice none 0 0]) (t := 29) ?hr ?_; (case hd => rfl); (case hg => rfl); (case hr => first | (go_simp; done) | (go_simp; rfl)); intro AA hg JJ hbox hb; have BA := Aside0.mk (Kd.Q_below q7_8 hb); have FA := Aside0.mk (Kd.R_below q7_7 hb); have IA := Aside0.mk (Kd.R_below q7_6 hb); have JA := Aside0.mk (Kd.R_below q7_24 hb); have KA := Aside0.mk (blk_below (g := sA) (o := .cells #[.slice TC kA.length UC] 29 (0, 0)) q7_2 hb); have RA := Aside0.mk (blk_below (g := bA) (o := .cells #[.int .i64 fA, .int .i64 mA, .int .i64 lA, .int .i64 jA, .int .i64 iA, .int .i64 hA, .int .i64 gA, .int .i64 cA, .int .i64 eA, .bool nA] 23 (0, 0)) q7_5 hb); have tB := Aside0.mk (below_step q7_1 hb); have fD := Aside0.mk (hbox); have gD := Aside0.mk ((by rw [hg]; exact (below_size q7_1) : w.heap.size ≤ AA)); have hD := Aside0.mk ((by rw [hg]; exact (below_size q7_1) : w.heap.size ≤ AA)); have GC := Aside0.mk ((q7_20 : sA ≠ AA)); have HC := Aside0.mk ((q7_21 : AA ≠ sA)); have IC := Aside0.mk ((q7_14 : bA ≠ AA)); have JC := Aside0.mk ((q7_15 : AA ≠ bA)); clear xA; clear wA; clear dA; clear SA; clear oA; clear aA; clear HB; have xA := BA; have wA := FA; have dA := IA; have SA := JA; have oA := KA; have aA := RA; have HB := tB; have WA := fD; have xI := gD; have WE := hD; have pB := GC; have wB := HC; have qB := IC; have xB := JC; clear BA FA IA JA KA RA tB fD gD hD GC HC IC JC; clear hb hbox hg) | ((with_reducible refine gate_dst (N := 12) rfl ?_); (try (refine gate_guard (by rfl) ?_; dsimp only)); refine box_event ?hg (N := 12) ?hd (cs := #[.int .i64 0, .int .i64 0, .int .i64 0, .int .i64 0, .int .i64 0, .int .i64 0, .int .i64 0, .int .i64 0, .int .i64 0, .bool false]) (t := 23) ?hr ?_; (case hd => rfl); (case hg => rfl); (case hr => first | (go_simp; done) | (go_simp; rfl)); intro rA hg PA hbox hb; have BA := Aside0.mk (Kd.Q_below q7_8 hb); have FA := Aside0.mk (Kd.R_below q7_7 hb); have IA := Aside0.mk (Kd.R_below q7_6 hb); have JA := Aside0.mk (Kd.R_below q7_24 hb); have KA := Aside0.mk (blk_below (g := sA) (o := .cells #[.slice TC kA.length UC] 29 (0, 0)) q7_2 hb); have RA := Aside0.mk (blk_below (g := bA) (o := .cells #[.int .i64 fA, .int .i64 mA, .int .i64 lA, .int .i64 jA, .int .i64 iA, .int .i64 hA, .int .i64 gA, .int .i64 cA, .int .i64 eA, .bool nA] 23 (0, 0)) q7_5 hb); have tB := Aside0.mk (blk_below (g := AA) (o := .cells #[.slice none 0 0] 29 (0, 0)) q7_17 hb); have fD := Aside0.mk (below_step q7_13 hb); have gD := Aside0.mk (hbox); have hD := Aside0.mk ((by rw [hg]; exact (below_size q7_13) : w.heap.size ≤ rA)); have GC := Aside0.mk ((by rw [hg]; exact (below_size q7_13) : w.heap.size ≤ rA)); have HC := Aside0.mk ((q7_20 : sA ≠ rA)); have IC := Aside0.mk ((q7_21 : rA ≠ sA)); have JC := Aside0.mk ((q7_14 : bA ≠ rA)); have RE := Aside0.mk ((q7_15 : rA ≠ bA)); have SE := Aside0.mk ((by rw [hg]; exact Nat.ne_of_lt (blk_lt (g := AA) (o := .cells #[.slice none 0 0] 29 (0, 0)) q7_17) : AA ≠ rA)); have TE := Aside0.mk ((by rw [hg]; exact Nat.ne_of_gt (blk_lt (g := AA) (o := .cells #[.slice none 0 0] 29 (0, 0)) q7_17) : rA ≠ AA)); clear xA; clear wA; clear dA; clear SA; clear oA; clear aA; clear WA; clear HB; have xA := BA; have wA := FA; have dA := IA; have SA := JA; have oA := KA; have aA := RA; have WA := tB; have HB := fD; have vA := gD; have yI := hD; have GG := GC; have CA := HC; have yB := IC; have DA := JC; have zB := RE; have AB := SE; have BB := TE; clear BA FA IA JA KA RA tB fD gD hD GC HC IC JC RE SE TE; clear hb hbox hg; obtain ⟨JE, KE, HG⟩ := Kd.R_slice SA.out; subst HG; have zI := wB.out; have AI := pB.out; have BI := xB.out; have CI := qB.out; have DI := AB.out; have EI := BB.out; have lD : PA.cell? ⟨AA, 0, none⟩ = some (.slice none 0 0) := (blk_cell WA.out 0).trans rfl; have mD := blk_frozen WA.out 0; have FI := yB.out; have GI := CA.out; have HI := zB.out; have II := DA.out; have nD : PA.cell? ⟨rA, 0, none⟩ = some (.int .i64 0) := (blk_cell vA.out 0).trans rfl; have oD : PA.cell? ⟨rA, 1, none⟩ = some (.int .i64 0) := (blk_cell vA.out 1).trans rfl; have pD : PA.cell? ⟨rA, 2, none⟩ = some (.int .i64 0) := (blk_cell vA.out 2).trans rfl; have qD : PA.cell? ⟨rA, 3, none⟩ = some (.int .i64 0) := (blk_cell vA.out 3).trans rfl; have rD : PA.cell? ⟨rA, 4, none⟩ = some (.int .i64 0) := (blk_cell vA.out 4).trans rfl; have sD : PA.cell? ⟨rA, 5, none⟩ = some (.int .i64 0) := (blk_cell vA.out 5).trans rfl; have tD : PA.cell? ⟨rA, 6, none⟩ = some (.int .i64 0) := (blk_cell vA.out 6).trans rfl; have uD : PA.cell? ⟨rA, 7, none⟩ = some (.int .i64 0) := (blk_cell vA.out 7).trans rfl; have vD : PA.cell? ⟨rA, 8, none⟩ = some (.int .i64 0) := (blk_cell vA.out 8).trans rfl; have wD : PA.cell? ⟨rA, 9, none⟩ = some (.bool false) := (blk_cell vA.out 9).trans rfl; have xD := blk_frozen vA.out 0; have yD := blk_frozen vA.out 1; have zD := blk_frozen vA.out 2; have AD := blk_frozen vA.out 3; have BD := blk_frozen vA.out 4; have CD := blk_frozen vA.out 5; have DD := blk_frozen vA.out 6; have ED := blk_frozen vA.out 7; have FD := blk_frozen vA.out 8; have GD := blk_frozen vA.out 9; have HD : PA.cell? ⟨sA, 0, none⟩ = some (.slice TC kA.length UC) := (blk_cell oA.out 0).trans rfl; have ID := blk_frozen oA.out 0; have JD : PA.cell? ⟨bA, 0, none⟩ = some (.int .i64 fA) := (blk_cell aA.out 0).trans rfl; have KD : PA.cell? ⟨bA, 1, none⟩ = some (.int .i64 mA) := (blk_cell aA.out 1).trans rfl; have LD : PA.cell? ⟨bA, 2, none⟩ = some (.int .i64 lA) := (blk_cell aA.out 2).trans rfl; have MD : PA.cell? ⟨bA, 3, none⟩ = some (.int .i64 jA) := (blk_cell aA.out 3).trans rfl; have ND : PA.cell? ⟨bA, 4, none⟩ = some (.int .i64 iA) := (blk_cell aA.out 4).trans rfl; have OD : PA.cell? ⟨bA, 5, none⟩ = some (.int .i64 hA) := (blk_cell aA.out 5).trans rfl; have PD : PA.cell? ⟨bA, 6, none⟩ = some (.int .i64 gA) := (blk_cell aA.out 6).trans rfl; have QD : PA.cell? ⟨bA, 7, none⟩ = some (.int .i64 cA) := (blk_cell aA.out 7).trans rfl; have RD : PA.cell? ⟨bA, 8, none⟩ = some (.int .i64 eA) := (blk_cell aA.out 8).trans rfl; have SD : PA.cell? ⟨bA, 9, none⟩ = some (.bool nA) := (blk_cell aA.out 9).trans rfl; have TD := blk_frozen aA.out 0; have UD := blk_frozen aA.out 1; have VD := blk_frozen aA.out 2; have WD := blk_frozen aA.out 3; have XD := blk_frozen aA.out 4; have YD := blk_frozen aA.out 5; have ZD := blk_frozen aA.out 6; have aE := blk_frozen aA.out 7; have bE := blk_frozen aA.out 8; have cE := blk_frozen aA.out 9)); try go_wp2_with (first | (go_at_call 43; (with_reducible refine (impl_RiStep.calls kj29 (wrap64 (2 + EA)) _ _ kA fA mA lA jA iA hA gA cA eA nA cD uB vB BC CC FC NC WC aD dD kD true _ ?side1 ?side2 A35.out).mono ?_); (case side1 => exact q7_18); (case side2 => exact (Kd.R_reads' dA.out).2.1); rintro e IJ ⟨cJ, rfl, ho0, hb⟩; have BA := Aside0.mk (Kd.Q_elder' q7_8 (Kd.R_base ho0) hb); have FA := Aside0.mk (Kd.R_elder' q7_7 (Kd.R_base ho0) hb); have IA := Aside0.mk (Kd.R_elder' q7_6 (Kd.R_base ho0) hb); have JA := Aside0.mk (Kd.R_lower (Kd.R_new' (Kd.R_new' (Kd.R_new' ho0 (Kd.Q_lt q7_8)) (Kd.R_lt q7_7)) (Kd.R_lt q7_6)) (below_size q7_1)); have KA := Aside0.mk (blk_below (g := sA) (o := .cells #[.slice TC kA.length UC] 29 (0, 0)) q7_2 hb); have RA := Aside0.mk (blk_below (g := bA) (o := .cells #[.int .i64 fA, .int .i64 mA, .int .i64 lA, .int .i64 jA, .int .i64 iA, .int .i64 hA, .int .i64 gA, .int .i64 cA, .int .i64 eA, .bool nA] 23 (0, 0)) q7_5 hb); have tB := Aside0.mk (below_step q7_1 hb); clear xA; clear wA; clear dA; clear oA; clear aA; clear HB; have xA := BA; have wA := FA; have dA := IA; have SA := JA; have oA := KA; have aA := RA; have HB := tB; clear BA FA IA JA KA RA tB; (try clear hb); (try clear hb2); (try clear hk); (try clear hi); (try clear ho0)) | ((with_reducible refine gate_dst (N := 11) rfl ?_); (try (refine gate_guard (by rfl) ?_; dsimp only)); refine box_event ?hg (N := 11) ?hd (cs := #[.slice none 0 0]) (t := 29) ?hr ?_; (case hd => rfl); (case hg => rfl); (case hr => first | (go_simp; done) | (go_simp; rfl)); intro AA hg JJ hbox hb; have BA := Aside0.mk (Kd.Q_below q7_8 hb); have FA := Aside0.mk (Kd.R_below q7_7 hb); have IA := Aside0.mk (Kd.R_below q7_6 hb); have JA := Aside0.mk (Kd.R_below q7_24 hb); have KA := Aside0.mk (blk_below (g := sA) (o := .cells #[.slice TC kA.length UC] 29 (0, 0)) q7_2 hb); have RA := Aside0.mk (blk_below (g := bA) (o := .cells #[.int .i64 fA, .int .i64 mA, .int .i64 lA, .int .i64 jA, .int .i64 iA, .int .i64 hA, .int .i64 gA, .int .i64 cA, .int .i64 eA, .bool nA] 23 (0, 0)) q7_5 hb); have tB := Aside0.mk (below_step q7_1 hb); have fD := Aside0.mk (hbox); have gD := Aside0.mk ((by rw [hg]; exact (below_size q7_1) : w.heap.size ≤ AA)); have hD := Aside0.mk ((by rw [hg]; exact (below_size q7_1) : w.heap.size ≤ AA)); have GC := Aside0.mk ((q7_20 : sA ≠ AA)); have HC := Aside0.mk ((q7_21 : AA ≠ sA)); have IC := Aside0.mk ((q7_14 : bA ≠ AA)); have JC := Aside0.mk ((q7_15 : AA ≠ bA)); clear xA; clear wA; clear dA; clear SA; clear oA; clear aA; clear HB; have xA := BA; have wA := FA; have dA := IA; have SA := JA; have oA := KA; have aA := RA; have HB := tB; have WA := fD; have xI := gD; have WE := hD; have pB := GC; have wB := HC; have qB := IC; have xB := JC; clear BA FA IA JA KA RA tB fD gD hD GC HC IC JC; clear hb hbox hg) | ((with_reducible refine gate_dst (N := 12) rfl ?_); (try (refine gate_guard (by rfl) ?_; dsimp only)); refine box_event ?hg (N := 12) ?hd (cs := #[.int .i64 0, .int .i64 0, .int .i64 0, .int .i64 0, .int .i64 0, .int .i64 0, .int .i64 0, .int .i64 0, .int .i64 0, .bool false]) (t := 23) ?hr ?_; (case hd => rfl); (case hg => rfl); (case hr => first | (go_simp; done) | (go_simp; rfl)); intro rA hg PA hbox hb; have BA := Aside0.mk (Kd.Q_below q7_8 hb); have FA := Aside0.mk (Kd.R_below q7_7 hb); have IA := Aside0.mk (Kd.R_below q7_6 hb); have JA := Aside0.mk (Kd.R_below q7_24 hb); have KA := Aside0.mk (blk_below (g := sA) (o := .cells #[.slice TC kA.length UC] 29 (0, 0)) q7_2 hb); have RA := Aside0.mk (blk_below (g := bA) (o := .cells #[.int .i64 fA, .int .i64 mA, .int .i64 lA, .int .i64 jA, .int .i64 iA, .int .i64 hA, .int .i64 gA, .int .i64 cA, .int .i64 eA, .bool nA] 23 (0, 0)) q7_5 hb); have tB := Aside0.mk (blk_below (g := AA) (o := .cells #[.slice none 0 0] 29 (0, 0)) q7_17 hb); have fD := Aside0.mk (below_step q7_13 hb); have gD := Aside0.mk (hbox); have hD := Aside0.mk ((by rw [hg]; exact (below_size q7_13) : w.heap.size ≤ rA)); have GC := Aside0.mk ((by rw [hg]; exact (below_size q7_13) : w.heap.size ≤ rA)); have HC := Aside0.mk ((q7_20 : sA ≠ rA)); have IC := Aside0.mk ((q7_21 : rA ≠ sA)); have JC := Aside0.mk ((q7_14 : bA ≠ rA)); have RE := Aside0.mk ((q7_15 : rA ≠ bA)); have SE := Aside0.mk ((by rw [hg]; exact Nat.ne_of_lt (blk_lt (g := AA) (o := .cells #[.slice none 0 0] 29 (0, 0)) q7_17) : AA ≠ rA)); have TE := Aside0.mk ((by rw [hg]; exact Nat.ne_of_gt (blk_lt (g := AA) (o := .cells #[.slice none 0 0] 29 (0, 0)) q7_17) : rA ≠ AA)); clear xA; clear wA; clear dA; clear SA; clear oA; clear aA; clear WA; clear HB; have xA := BA; have wA := FA; have dA := IA; have SA := JA; have oA := KA; have aA := RA; have WA := tB; have HB := fD; have vA := gD; have yI := hD; have GG := GC; have CA := HC; have yB := IC; have DA := JC; have zB := RE; have AB := SE; have BB := TE; clear BA FA IA JA KA RA tB fD gD hD GC HC IC JC RE SE TE; clear hb hbox hg; obtain ⟨JE, KE, HG⟩ := Kd.R_slice SA.out; subst HG; have zI := wB.out; have AI := pB.out; have BI := xB.out; have CI := qB.out; have DI := AB.out; have EI := BB.out; have lD : PA.cell? ⟨AA, 0, none⟩ = some (.slice none 0 0) := (blk_cell WA.out 0).trans rfl; have mD := blk_frozen WA.out 0; have FI := yB.out; have GI := CA.out; have HI := zB.out; have II := DA.out; have nD : PA.cell? ⟨rA, 0, none⟩ = some (.int .i64 0) := (blk_cell vA.out 0).trans rfl; have oD : PA.cell? ⟨rA, 1, none⟩ = some (.int .i64 0) := (blk_cell vA.out 1).trans rfl; have pD : PA.cell? ⟨rA, 2, none⟩ = some (.int .i64 0) := (blk_cell vA.out 2).trans rfl; have qD : PA.cell? ⟨rA, 3, none⟩ = some (.int .i64 0) := (blk_cell vA.out 3).trans rfl; have rD : PA.cell? ⟨rA, 4, none⟩ = some (.int .i64 0) := (blk_cell vA.out 4).trans rfl; have sD : PA.cell? ⟨rA, 5, none⟩ = some (.int .i64 0) := (blk_cell vA.out 5).trans rfl; have tD : PA.cell? ⟨rA, 6, none⟩ = some (.int .i64 0) := (blk_cell vA.out 6).trans rfl; have uD : PA.cell? ⟨rA, 7, none⟩ = some (.int .i64 0) := (blk_cell vA.out 7).trans rfl; have vD : PA.cell? ⟨rA, 8, none⟩ = some (.int .i64 0) := (blk_cell vA.out 8).trans rfl; have wD : PA.cell? ⟨rA, 9, none⟩ = some (.bool false) := (blk_cell vA.out 9).trans rfl; have xD := blk_frozen vA.out 0; have yD := blk_frozen vA.out 1; have zD := blk_frozen vA.out 2; have AD := blk_frozen vA.out 3; have BD := blk_frozen vA.out 4; have CD := blk_frozen vA.out 5; have DD := blk_frozen vA.out 6; have ED := blk_frozen vA.out 7; have FD := blk_frozen vA.out 8; have GD := blk_frozen vA.out 9; have HD : PA.cell? ⟨sA, 0, none⟩ = some (.slice TC kA.length UC) := (blk_cell oA.out 0).trans rfl; have ID := blk_frozen oA.out 0; have JD : PA.cell? ⟨bA, 0, none⟩ = some (.int .i64 fA) := (blk_cell aA.out 0).trans rfl; have KD : PA.cell? ⟨bA, 1, none⟩ = some (.int .i64 mA) := (blk_cell aA.out 1).trans rfl; have LD : PA.cell? ⟨bA, 2, none⟩ = some (.int .i64 lA) := (blk_cell aA.out 2).trans rfl; have MD : PA.cell? ⟨bA, 3, none⟩ = some (.int .i64 jA) := (blk_cell aA.out 3).trans rfl; have ND : PA.cell? ⟨bA, 4, none⟩ = some (.int .i64 iA) := (blk_cell aA.out 4).trans rfl; have OD : PA.cell? ⟨bA, 5, none⟩ = some (.int .i64 hA) := (blk_cell aA.out 5).trans rfl; have PD : PA.cell? ⟨bA, 6, none⟩ = some (.int .i64 gA) := (blk_cell aA.out 6).trans rfl; have QD : PA.cell? ⟨bA, 7, none⟩ = some (.int .i64 cA) := (blk_cell aA.out 7).trans rfl; have RD : PA.cell? ⟨bA, 8, none⟩ = some (.int .i64 eA) := (blk_cell aA.out 8).trans rfl; have SD : PA.cell? ⟨bA, 9, none⟩ = some (.bool nA) := (blk_cell aA.out 9).trans rfl; have TD := blk_frozen aA.out 0; have UD := blk_frozen aA.out 1; have VD := blk_frozen aA.out 2; have WD := blk_frozen aA.out 3; have XD := blk_frozen aA.out 4; have YD := blk_frozen aA.out 5; have ZD := blk_frozen aA.out 6; have aE := blk_frozen aA.out 7; have bE := blk_frozen aA.out 8; have cE := blk_frozen aA.out 9)))
                go_roundg kj29
                case measure => have := HK1.out; have := HJ19.out; have := HK3.out; have := HJ29.out; omega
                case rel => exact ⟨(wrap64 (EC + 1)), (cD), (uB), (vB), (BC), (CC), (FC), (NC), (WC), (aD), (dD), (kD), (.slice JE cD.length KE), q7_31, H', ⟨by have := HK1.out; have := HJ19.out; have := HK3.out; have := HJ29.out; omega⟩, ⟨by (with_reducible repeat (first | apply Kd.Q_alloc | apply Kd.Q_drewN | apply Kd.Q_drew)); exact Kd.Q_mono (Kd.Q_far (p := ⟨bA, 9, none⟩) (Kd.Q_far (p := ⟨bA, 8, none⟩) (Kd.Q_far (p := ⟨bA, 7, none⟩) (Kd.Q_far (p := ⟨bA, 6, none⟩) (Kd.Q_far (p := ⟨bA, 5, none⟩) (Kd.Q_far (p := ⟨bA, 4, none⟩) (Kd.Q_far (p := ⟨bA, 3, none⟩) (Kd.Q_far (p := ⟨bA, 2, none⟩) (Kd.Q_far (p := ⟨bA, 1, none⟩) (Kd.Q_far (p := ⟨bA, 0, none⟩) (Kd.Q_far (p := ⟨sA, 0, none⟩) (Kd.Q_far (p := ⟨rA, 9, none⟩) (Kd.Q_far (p := ⟨rA, 8, none⟩) (Kd.Q_far (p := ⟨rA, 7, none⟩) (Kd.Q_far (p := ⟨rA, 6, none⟩) (Kd.Q_far (p := ⟨rA, 5, none⟩) (Kd.Q_far (p := ⟨rA, 4, none⟩) (Kd.Q_far (p := ⟨rA, 3, none⟩) (Kd.Q_far (p := ⟨rA, 2, none⟩) (Kd.Q_far (p := ⟨rA, 1, none⟩) (Kd.Q_far (p := ⟨rA, 0, none⟩) (Kd.Q_far (p := ⟨AA, 0, none⟩) (Kd.Q_types (Kd.Q_types (Kd.Q_types (Kd.Q_types xA.out WA.out (by decide)) vA.out (by decide)) oA.out (by decide)) aA.out (by decide)) (fun _ hk => hk.1.1.1.2) (.slice JE cD.length KE)) (fun _ hk => hk.1.1.2) (.int .i64 uB)) (fun _ hk => hk.1.1.2) (.int .i64 vB)) (fun _ hk => hk.1.1.2) (.int .i64 BC)) (fun _ hk => hk.1.1.2) (.int .i64 CC)) (fun _ hk => hk.1.1.2) (.int .i64 FC)) (fun _ hk => hk.1.1.2) (.int .i64 NC)) (fun _ hk => hk.1.1.2) (.int .i64 WC)) (fun _ hk => hk.1.1.2) (.int .i64 aD)) (fun _ hk => hk.1.1.2) (.int .i64 dD)) (fun _ hk => hk.1.1.2) (.bool kD)) (fun _ hk => hk.1.2) (.slice JE cD.length KE)) (fun _ hk => hk.2) (.int .i64 uB)) (fun _ hk => hk.2) (.int .i64 vB)) (fun _ hk => hk.2) (.int .i64 BC)) (fun _ hk => hk.2) (.int .i64 CC)) (fun _ hk => hk.2) (.int .i64 FC)) (fun _ hk => hk.2) (.int .i64 NC)) (fun _ hk => hk.2) (.int .i64 WC)) (fun _ hk => hk.2) (.int .i64 aD)) (fun _ hk => hk.2) (.int .i64 dD)) (fun _ hk => hk.2) (.bool kD)) (fun _ hk => ⟨hk.1.1.1.1.1.1, hk.1.1.1.1.2⟩)⟩, ⟨by (with_reducible repeat (first | apply Kd.R_alloc | apply Kd.R_drewN | apply Kd.R_drew)); exact Kd.R_mono (Kd.R_far (p := ⟨bA, 9, none⟩) (Kd.R_far (p := ⟨bA, 8, none⟩) (Kd.R_far (p := ⟨bA, 7, none⟩) (Kd.R_far (p := ⟨bA, 6, none⟩) (Kd.R_far (p := ⟨bA, 5, none⟩) (Kd.R_far (p := ⟨bA, 4, none⟩) (Kd.R_far (p := ⟨bA, 3, none⟩) (Kd.R_far (p := ⟨bA, 2, none⟩) (Kd.R_far (p := ⟨bA, 1, none⟩) (Kd.R_far (p := ⟨bA, 0, none⟩) (Kd.R_far (p := ⟨sA, 0, none⟩) (Kd.R_far (p := ⟨rA, 9, none⟩) (Kd.R_far (p := ⟨rA, 8, none⟩) (Kd.R_far (p := ⟨rA, 7, none⟩) (Kd.R_far (p := ⟨rA, 6, none⟩) (Kd.R_far (p := ⟨rA, 5, none⟩) (Kd.R_far (p := ⟨rA, 4, none⟩) (Kd.R_far (p := ⟨rA, 3, none⟩) (Kd.R_far (p := ⟨rA, 2, none⟩) (Kd.R_far (p := ⟨rA, 1, none⟩) (Kd.R_far (p := ⟨rA, 0, none⟩) (Kd.R_far (p := ⟨AA, 0, none⟩) (Kd.R_types (Kd.R_types (Kd.R_types (Kd.R_types wA.out WA.out (by decide)) vA.out (by decide)) oA.out (by decide)) aA.out (by decide)) (fun _ hk => hk.1.1.1.2) (.slice JE cD.length KE)) (fun _ hk => hk.1.1.2) (.int .i64 uB)) (fun _ hk => hk.1.1.2) (.int .i64 vB)) (fun _ hk => hk.1.1.2) (.int .i64 BC)) (fun _ hk => hk.1.1.2) (.int .i64 CC)) (fun _ hk => hk.1.1.2) (.int .i64 FC)) (fun _ hk => hk.1.1.2) (.int .i64 NC)) (fun _ hk => hk.1.1.2) (.int .i64 WC)) (fun _ hk => hk.1.1.2) (.int .i64 aD)) (fun _ hk => hk.1.1.2) (.int .i64 dD)) (fun _ hk => hk.1.1.2) (.bool kD)) (fun _ hk => hk.1.2) (.slice JE cD.length KE)) (fun _ hk => hk.2) (.int .i64 uB)) (fun _ hk => hk.2) (.int .i64 vB)) (fun _ hk => hk.2) (.int .i64 BC)) (fun _ hk => hk.2) (.int .i64 CC)) (fun _ hk => hk.2) (.int .i64 FC)) (fun _ hk => hk.2) (.int .i64 NC)) (fun _ hk => hk.2) (.int .i64 WC)) (fun _ hk => hk.2) (.int .i64 aD)) (fun _ hk => hk.2) (.int .i64 dD)) (fun _ hk => hk.2) (.bool kD)) (fun _ hk => ⟨hk.1.1.1.1.1.1, hk.1.1.1.1.2⟩)⟩, ⟨by (with_reducible repeat (first | apply Kd.R_alloc | apply Kd.R_drewN | apply Kd.R_drew)); exact Kd.R_mono (Kd.R_far (p := ⟨bA, 9, none⟩) (Kd.R_far (p := ⟨bA, 8, none⟩) (Kd.R_far (p := ⟨bA, 7, none⟩) (Kd.R_far (p := ⟨bA, 6, none⟩) (Kd.R_far (p := ⟨bA, 5, none⟩) (Kd.R_far (p := ⟨bA, 4, none⟩) (Kd.R_far (p := ⟨bA, 3, none⟩) (Kd.R_far (p := ⟨bA, 2, none⟩) (Kd.R_far (p := ⟨bA, 1, none⟩) (Kd.R_far (p := ⟨bA, 0, none⟩) (Kd.R_far (p := ⟨sA, 0, none⟩) (Kd.R_far (p := ⟨rA, 9, none⟩) (Kd.R_far (p := ⟨rA, 8, none⟩) (Kd.R_far (p := ⟨rA, 7, none⟩) (Kd.R_far (p := ⟨rA, 6, none⟩) (Kd.R_far (p := ⟨rA, 5, none⟩) (Kd.R_far (p := ⟨rA, 4, none⟩) (Kd.R_far (p := ⟨rA, 3, none⟩) (Kd.R_far (p := ⟨rA, 2, none⟩) (Kd.R_far (p := ⟨rA, 1, none⟩) (Kd.R_far (p := ⟨rA, 0, none⟩) (Kd.R_far (p := ⟨AA, 0, none⟩) (Kd.R_types (Kd.R_types (Kd.R_types (Kd.R_types SA.out WA.out (by decide)) vA.out (by decide)) oA.out (by decide)) aA.out (by decide)) (fun _ hk => hk.1.1.1.2) (.slice JE cD.length KE)) (fun _ hk => hk.1.1.2) (.int .i64 uB)) (fun _ hk => hk.1.1.2) (.int .i64 vB)) (fun _ hk => hk.1.1.2) (.int .i64 BC)) (fun _ hk => hk.1.1.2) (.int .i64 CC)) (fun _ hk => hk.1.1.2) (.int .i64 FC)) (fun _ hk => hk.1.1.2) (.int .i64 NC)) (fun _ hk => hk.1.1.2) (.int .i64 WC)) (fun _ hk => hk.1.1.2) (.int .i64 aD)) (fun _ hk => hk.1.1.2) (.int .i64 dD)) (fun _ hk => hk.1.1.2) (.bool kD)) (fun _ hk => hk.1.2) (.slice JE cD.length KE)) (fun _ hk => hk.2) (.int .i64 uB)) (fun _ hk => hk.2) (.int .i64 vB)) (fun _ hk => hk.2) (.int .i64 BC)) (fun _ hk => hk.2) (.int .i64 CC)) (fun _ hk => hk.2) (.int .i64 FC)) (fun _ hk => hk.2) (.int .i64 NC)) (fun _ hk => hk.2) (.int .i64 WC)) (fun _ hk => hk.2) (.int .i64 aD)) (fun _ hk => hk.2) (.int .i64 dD)) (fun _ hk => hk.2) (.bool kD)) (fun _ hk => ⟨hk.1.1.1.1.1.1.2, hk.1.1.1.1.1.2⟩)⟩, ⟨by (with_reducible repeat (first | refine blk_drewN ?_ _ | refine blk_drew ?_ | refine blk_alloc ?_ _)); refine blk_far ?_ qA.out _; (with_reducible repeat (first | refine blk_drewN ?_ _ | refine blk_drew ?_ | refine blk_alloc ?_ _)); refine blk_far ?_ qA.out _; (with_reducible repeat (first | refine blk_drewN ?_ _ | refine blk_drew ?_ | refine blk_alloc ?_ _)); refine blk_far ?_ qA.out _; (with_reducible repeat (first | refine blk_drewN ?_ _ | refine blk_drew ?_ | refine blk_alloc ?_ _)); refine blk_far ?_ qA.out _; (with_reducible repeat (first | refine blk_drewN ?_ _ | refine blk_drew ?_ | refine blk_alloc ?_ _)); refine blk_far ?_ qA.out _; (with_reducible repeat (first | refine blk_drewN ?_ _ | refine blk_drew ?_ | refine blk_alloc ?_ _)); refine blk_far ?_ qA.out _; (with_reducible repeat (first | refine blk_drewN ?_ _ | refine blk_drew ?_ | refine blk_alloc ?_ _)); refine blk_far ?_ qA.out _; (with_reducible repeat (first | refine blk_drewN ?_ _ | refine blk_drew ?_ | refine blk_alloc ?_ _)); refine blk_far ?_ qA.out _; (with_reducible repeat (first | refine blk_drewN ?_ _ | refine blk_drew ?_ | refine blk_alloc ?_ _)); refine blk_far ?_ qA.out _; (with_reducible repeat (first | refine blk_drewN ?_ _ | refine blk_drew ?_ | refine blk_alloc ?_ _)); refine blk_far ?_ qA.out _; (with_reducible repeat (first | refine blk_drewN ?_ _ | refine blk_drew ?_ | refine blk_alloc ?_ _)); refine blk_put (cs := #[.slice TC kA.length UC]) ?_ 0 _ rfl; (with_reducible repeat (first | refine blk_drewN ?_ _ | refine blk_drew ?_ | refine blk_alloc ?_ _)); refine blk_far ?_ CA.out _; (with_reducible repeat (first | refine blk_drewN ?_ _ | refine blk_drew ?_ | refine blk_alloc ?_ _)); refine blk_far ?_ CA.out _; (with_reducible repeat (first | refine blk_drewN ?_ _ | refine blk_drew ?_ | refine blk_alloc ?_ _)); refine blk_far ?_ CA.out _; (with_reducible repeat (first | refine blk_drewN ?_ _ | refine blk_drew ?_ | refine blk_alloc ?_ _)); refine blk_far ?_ CA.out _; (with_reducible repeat (first | refine blk_drewN ?_ _ | refine blk_drew ?_ | refine blk_alloc ?_ _)); refine blk_far ?_ CA.out _; (with_reducible repeat (first | refine blk_drewN ?_ _ | refine blk_drew ?_ | refine blk_alloc ?_ _)); refine blk_far ?_ CA.out _; (with_reducible repeat (first | refine blk_drewN ?_ _ | refine blk_drew ?_ | refine blk_alloc ?_ _)); refine blk_far ?_ CA.out _; (with_reducible repeat (first | refine blk_drewN ?_ _ | refine blk_drew ?_ | refine blk_alloc ?_ _)); refine blk_far ?_ CA.out _; (with_reducible repeat (first | refine blk_drewN ?_ _ | refine blk_drew ?_ | refine blk_alloc ?_ _)); refine blk_far ?_ CA.out _; (with_reducible repeat (first | refine blk_drewN ?_ _ | refine blk_drew ?_ | refine blk_alloc ?_ _)); refine blk_far ?_ CA.out _; (with_reducible repeat (first | refine blk_drewN ?_ _ | refine blk_drew ?_ | refine blk_alloc ?_ _)); refine blk_far ?_ pB.out _; (with_reducible repeat (first | refine blk_drewN ?_ _ | refine blk_drew ?_ | refine blk_alloc ?_ _)); exact oA.out⟩, ⟨by (with_reducible repeat (first | refine blk_drewN ?_ _ | refine blk_drew ?_ | refine blk_alloc ?_ _)); refine blk_put (cs := #[.int .i64 uB, .int .i64 vB, .int .i64 BC, .int .i64 CC, .int .i64 FC, .int .i64 NC, .int .i64 WC, .int .i64 aD, .int .i64 dD, .bool nA]) ?_ 9 _ rfl; (with_reducible repeat (first | refine blk_drewN ?_ _ | refine blk_drew ?_ | refine blk_alloc ?_ _)); refine blk_put (cs := #[.int .i64 uB, .int .i64 vB, .int .i64 BC, .int .i64 CC, .int .i64 FC, .int .i64 NC, .int .i64 WC, .int .i64 aD, .int .i64 eA, .bool nA]) ?_ 8 _ rfl; (with_reducible repeat (first | refine blk_drewN ?_ _ | refine blk_drew ?_ | refine blk_alloc ?_ _)); refine blk_put (cs := #[.int .i64 uB, .int .i64 vB, .int .i64 BC, .int .i64 CC, .int .i64 FC, .int .i64 NC, .int .i64 WC, .int .i64 cA, .int .i64 eA, .bool nA]) ?_ 7 _ rfl; (with_reducible repeat (first | refine blk_drewN ?_ _ | refine blk_drew ?_ | refine blk_alloc ?_ _)); refine blk_put (cs := #[.int .i64 uB, .int .i64 vB, .int .i64 BC, .int .i64 CC, .int .i64 FC, .int .i64 NC, .int .i64 gA, .int .i64 cA, .int .i64 eA, .bool nA]) ?_ 6 _ rfl; (with_reducible repeat (first | refine blk_drewN ?_ _ | refine blk_drew ?_ | refine blk_alloc ?_ _)); refine blk_put (cs := #[.int .i64 uB, .int .i64 vB, .int .i64 BC, .int .i64 CC, .int .i64 FC, .int .i64 hA, .int .i64 gA, .int .i64 cA, .int .i64 eA, .bool nA]) ?_ 5 _ rfl; (with_reducible repeat (first | refine blk_drewN ?_ _ | refine blk_drew ?_ | refine blk_alloc ?_ _)); refine blk_put (cs := #[.int .i64 uB, .int .i64 vB, .int .i64 BC, .int .i64 CC, .int .i64 iA, .int .i64 hA, .int .i64 gA, .int .i64 cA, .int .i64 eA, .bool nA]) ?_ 4 _ rfl; (with_reducible repeat (first | refine blk_drewN ?_ _ | refine blk_drew ?_ | refine blk_alloc ?_ _)); refine blk_put (cs := #[.int .i64 uB, .int .i64 vB, .int .i64 BC, .int .i64 jA, .int .i64 iA, .int .i64 hA, .int .i64 gA, .int .i64 cA, .int .i64 eA, .bool nA]) ?_ 3 _ rfl; (with_reducible repeat (first | refine blk_drewN ?_ _ | refine blk_drew ?_ | refine blk_alloc ?_ _)); refine blk_put (cs := #[.int .i64 uB, .int .i64 vB, .int .i64 lA, .int .i64 jA, .int .i64 iA, .int .i64 hA, .int .i64 gA, .int .i64 cA, .int .i64 eA, .bool nA]) ?_ 2 _ rfl; (with_reducible repeat (first | refine blk_drewN ?_ _ | refine blk_drew ?_ | refine blk_alloc ?_ _)); refine blk_put (cs := #[.int .i64 uB, .int .i64 mA, .int .i64 lA, .int .i64 jA, .int .i64 iA, .int .i64 hA, .int .i64 gA, .int .i64 cA, .int .i64 eA, .bool nA]) ?_ 1 _ rfl; (with_reducible repeat (first | refine blk_drewN ?_ _ | refine blk_drew ?_ | refine blk_alloc ?_ _)); refine blk_put (cs := #[.int .i64 fA, .int .i64 mA, .int .i64 lA, .int .i64 jA, .int .i64 iA, .int .i64 hA, .int .i64 gA, .int .i64 cA, .int .i64 eA, .bool nA]) ?_ 0 _ rfl; (with_reducible repeat (first | refine blk_drewN ?_ _ | refine blk_drew ?_ | refine blk_alloc ?_ _)); refine blk_far ?_ yA.out _; (with_reducible repeat (first | refine blk_drewN ?_ _ | refine blk_drew ?_ | refine blk_alloc ?_ _)); refine blk_far ?_ DA.out _; (with_reducible repeat (first | refine blk_drewN ?_ _ | refine blk_drew ?_ | refine blk_alloc ?_ _)); refine blk_far ?_ DA.out _; (with_reducible repeat (first | refine blk_drewN ?_ _ | refine blk_drew ?_ | refine blk_alloc ?_ _)); refine blk_far ?_ DA.out _; (with_reducible repeat (first | refine blk_drewN ?_ _ | refine blk_drew ?_ | refine blk_alloc ?_ _)); refine blk_far ?_ DA.out _; (with_reducible repeat (first | refine blk_drewN ?_ _ | refine blk_drew ?_ | refine blk_alloc ?_ _)); refine blk_far ?_ DA.out _; (with_reducible repeat (first | refine blk_drewN ?_ _ | refine blk_drew ?_ | refine blk_alloc ?_ _)); refine blk_far ?_ DA.out _; (with_reducible repeat (first | refine blk_drewN ?_ _ | refine blk_drew ?_ | refine blk_alloc ?_ _)); refine blk_far ?_ DA.out _; (with_reducible repeat (first | refine blk_drewN ?_ _ | refine blk_drew ?_ | refine blk_alloc ?_ _)); refine blk_far ?_ DA.out _; (with_reducible repeat (first | refine blk_drewN ?_ _ | refine blk_drew ?_ | refine blk_alloc ?_ _)); refine blk_far ?_ DA.out _; (with_reducible repeat (first | refine blk_drewN ?_ _ | refine blk_drew ?_ | refine blk_alloc ?_ _)); refine blk_far ?_ DA.out _; (with_reducible repeat (first | refine blk_drewN ?_ _ | refine blk_drew ?_ | refine blk_alloc ?_ _)); refine blk_far ?_ qB.out _; (with_reducible repeat (first | refine blk_drewN ?_ _ | refine blk_drew ?_ | refine blk_alloc ?_ _)); exact aA.out⟩, ⟨by repeat (first | (with_reducible first | exact HB.out | apply below_alloc | apply pw_below_drewN | apply below_drew1 | refine below_set ?_ iE.out | refine below_set ?_ NE.out | refine below_set ?_ WE.out | refine below_set ?_ GG.out) | exact HB.out)⟩⟩
               ·replace c36 := Bool.eq_false_iff.mpr c36
                subst c36
                have H1 : (some false) = some true := by rw [if_neg (show ¬ (false = true) by decide)] at H; exact H
                clear H
                have H := H1
                clear H1
                exact absurd H (by simp)
              ·replace c34 := Bool.eq_false_iff.mpr c34
               subst c34
               have H1 : (if nA = true then (if fA = 1 then (laws_FnRingOne.j4 kj29 (wrap64 (2 + EA)) zA uA tA (tA.length : Int) uA ((zA.length : Int) == (wrap64 (2 + EA))) kA fA mA lA jA iA hA gA cA eA nA) else (laws_FnRingOne.j4 kj29 (wrap64 (2 + EA)) zA uA tA (tA.length : Int) uA false kA fA mA lA jA iA hA gA cA eA nA)) else (some false)) = some true := by rw [if_neg (show ¬ (false = true) by decide)] at H; exact H
               clear H
               have H := H1
               clear H1
               have HC54 := Aside0.mk H
               clear H
               go_upto_block 4 with (fail)
               repeat (go_quiet (fail); go_upto_block 4 with (fail))
               go_cut [6] (fun v6 wc => ∃ (kq : Nat) (KC : List Int), Aside0 (laws_FnRingOne.j5 kq (wrap64 (2 + EA)) KC tA (tA.length : Int) uA kA = some true) ∧ Aside0 (kq ≤ kj29) ∧ Aside0 (Kd.Q (Kd.int .i64) 3 wc w.heap.size (fun k_ => some k_ ≠ ((.slice (some ad261) tA.length VA) : Value).ownBlock ∧ some k_ ≠ (pA : Value).ownBlock) v6 KC) ∧ Aside0 (Kd.R (Kd.int .i64) 3 wc w.heap.size (fun k_ => some k_ ≠ (v6 : Value).ownBlock ∧ some k_ ≠ (pA : Value).ownBlock) (.slice (some ad261) tA.length VA) tA) ∧ Aside0 (Kd.R (Kd.int .i64) 3 wc w.heap.size (fun k_ => some k_ ≠ (v6 : Value).ownBlock ∧ some k_ ≠ ((.slice (some ad261) tA.length VA) : Value).ownBlock) pA kA) ∧ Aside0 (wc.heap[sA]? = some (.cells #[pA] 29 (0, 0))) ∧ Aside0 (wc.heap[bA]? = some (.cells #[.int .i64 fA, .int .i64 mA, .int .i64 lA, .int .i64 jA, .int .i64 iA, .int .i64 hA, .int .i64 gA, .int .i64 cA, .int .i64 eA, .bool nA] 23 (0, 0))) ∧ Aside0 (Below w.heap.size w wc))
               case first =>
                have H := HC54.out
                clear HC54
                by_cases c55 : nA = true
                ·subst c55
                 have H1 : (if fA = 1 then (laws_FnRingOne.j4 kj29 (wrap64 (2 + EA)) zA uA tA (tA.length : Int) uA ((zA.length : Int) == (wrap64 (2 + EA))) kA fA mA lA jA iA hA gA cA eA true) else (laws_FnRingOne.j4 kj29 (wrap64 (2 + EA)) zA uA tA (tA.length : Int) uA false kA fA mA lA jA iA hA gA cA eA true)) = some true := by rw [if_pos rfl] at H; exact H
                 clear H
                 have H := H1
                 clear H1
                 have HC56 := Aside0.mk H
                 clear H
                 have KJ := yA.out
                 have LJ := qA.out
                 have uF : wc.cell? ⟨bA, 0, none⟩ = some (.int .i64 fA) := (blk_cell aA.out 0).trans rfl
                 have vF : wc.cell? ⟨bA, 1, none⟩ = some (.int .i64 mA) := (blk_cell aA.out 1).trans rfl
                 have wF : wc.cell? ⟨bA, 2, none⟩ = some (.int .i64 lA) := (blk_cell aA.out 2).trans rfl
                 have xF : wc.cell? ⟨bA, 3, none⟩ = some (.int .i64 jA) := (blk_cell aA.out 3).trans rfl
                 have yF : wc.cell? ⟨bA, 4, none⟩ = some (.int .i64 iA) := (blk_cell aA.out 4).trans rfl
                 have zF : wc.cell? ⟨bA, 5, none⟩ = some (.int .i64 hA) := (blk_cell aA.out 5).trans rfl
                 have AF : wc.cell? ⟨bA, 6, none⟩ = some (.int .i64 gA) := (blk_cell aA.out 6).trans rfl
                 have BF : wc.cell? ⟨bA, 7, none⟩ = some (.int .i64 cA) := (blk_cell aA.out 7).trans rfl
                 have CF : wc.cell? ⟨bA, 8, none⟩ = some (.int .i64 eA) := (blk_cell aA.out 8).trans rfl
                 have DF : wc.cell? ⟨bA, 9, none⟩ = some (.bool true) := (blk_cell aA.out 9).trans rfl
                 have EF := blk_frozen aA.out 0
                 have FF := blk_frozen aA.out 1
                 have GF := blk_frozen aA.out 2
                 have HF := blk_frozen aA.out 3
                 have IF := blk_frozen aA.out 4
                 have JF := blk_frozen aA.out 5
                 have KF := blk_frozen aA.out 6
                 have LF := blk_frozen aA.out 7
                 have MF := blk_frozen aA.out 8
                 have NF := blk_frozen aA.out 9
                 go_upto_region 27 with (fail)
                 repeat (go_quiet (fail); go_upto_region 27 with (fail))
                 go_cut [81] (fun v81 wc => ∃ (kq : Nat) (LE : Bool), v81 = .bool LE ∧ Aside0 (laws_FnRingOne.j4 kq (wrap64 (2 + EA)) zA uA tA (tA.length : Int) uA LE kA fA mA lA jA iA hA gA cA eA true = some true) ∧ Aside0 (kq ≤ kj29) ∧ Aside0 (Kd.Q (Kd.int .i64) 3 wc w.heap.size (fun k_ => some k_ ≠ ((.slice (some ad261) tA.length VA) : Value).ownBlock ∧ some k_ ≠ (pA : Value).ownBlock) u6 zA) ∧ Aside0 (Kd.R (Kd.int .i64) 3 wc w.heap.size (fun k_ => some k_ ≠ (u6 : Value).ownBlock ∧ some k_ ≠ (pA : Value).ownBlock) (.slice (some ad261) tA.length VA) tA) ∧ Aside0 (Kd.R (Kd.int .i64) 3 wc w.heap.size (fun k_ => some k_ ≠ (u6 : Value).ownBlock ∧ some k_ ≠ ((.slice (some ad261) tA.length VA) : Value).ownBlock) pA kA) ∧ Aside0 (wc.heap[sA]? = some (.cells #[pA] 29 (0, 0))) ∧ Aside0 (wc.heap[bA]? = some (.cells #[.int .i64 fA, .int .i64 mA, .int .i64 lA, .int .i64 jA, .int .i64 iA, .int .i64 hA, .int .i64 gA, .int .i64 cA, .int .i64 eA, .bool true] 23 (0, 0))) ∧ Aside0 (Below w.heap.size w wc))
                 case first =>
                  have H := HC56.out
                  clear HC56
                  by_cases c59 : fA = 1
                  ·rw [if_pos c59] at H
                   have eE : (fA == 1) = true := beq_iff_eq.mpr c59
                   have IG : (fA != 1) = false := bne_eq_false_iff_eq.mpr c59
                   clear c59
                   (first | rw [eE] | (simp only [i64_w, i32_w]; rw [eE]) | skip)
                   have H' := Aside0.mk H
                   clear H
                   have MJ := yA.out
                   have NJ := qA.out
                   have OF : wc.cell? ⟨bA, 0, none⟩ = some (.int .i64 fA) := (blk_cell aA.out 0).trans rfl
                   have PF : wc.cell? ⟨bA, 1, none⟩ = some (.int .i64 mA) := (blk_cell aA.out 1).trans rfl
                   have QF : wc.cell? ⟨bA, 2, none⟩ = some (.int .i64 lA) := (blk_cell aA.out 2).trans rfl
                   have RF : wc.cell? ⟨bA, 3, none⟩ = some (.int .i64 jA) := (blk_cell aA.out 3).trans rfl
                   have SF : wc.cell? ⟨bA, 4, none⟩ = some (.int .i64 iA) := (blk_cell aA.out 4).trans rfl
                   have TF : wc.cell? ⟨bA, 5, none⟩ = some (.int .i64 hA) := (blk_cell aA.out 5).trans rfl
                   have UF : wc.cell? ⟨bA, 6, none⟩ = some (.int .i64 gA) := (blk_cell aA.out 6).trans rfl
                   have VF : wc.cell? ⟨bA, 7, none⟩ = some (.int .i64 cA) := (blk_cell aA.out 7).trans rfl
                   have WF : wc.cell? ⟨bA, 8, none⟩ = some (.int .i64 eA) := (blk_cell aA.out 8).trans rfl
                   have XF : wc.cell? ⟨bA, 9, none⟩ = some (.bool true) := (blk_cell aA.out 9).trans rfl
                   have YF := blk_frozen aA.out 0
                   have ZF := blk_frozen aA.out 1
                   have aG := blk_frozen aA.out 2
                   have bG := blk_frozen aA.out 3
                   have cG := blk_frozen aA.out 4
                   have dG := blk_frozen aA.out 5
                   have eG := blk_frozen aA.out 6
                   have fG := blk_frozen aA.out 7
                   have gG := blk_frozen aA.out 8
                   have hG := blk_frozen aA.out 9
                   obtain ⟨cK, dK, vJ, _⟩ := Kd.Q_slice xA.out
                   subst vJ
                   go_wp2
                   repeat (go_quiet (fail); try go_wp2)
                   go_meet
                   case rel => exact ⟨_, (((zA.length : Int) == (wrap64 (2 + EA)))), q7_31, H', ⟨by have := HK1.out; have := HJ19.out; have := HK3.out; have := HJ29.out; first | omega | exact Nat.le_refl _⟩, ⟨q7_8⟩, ⟨q7_7⟩, ⟨q7_6⟩, ⟨q7_2⟩, ⟨q7_5⟩, ⟨q7_1⟩⟩
                  ·rw [if_neg c59] at H
                   have eE : (fA == 1) = false := beq_eq_false_iff_ne.mpr c59
                   have IG : (fA != 1) = true := bne_iff_ne.mpr c59
                   (first | rw [eE] | (simp only [i64_w, i32_w]; rw [eE]) | skip)
                   have H' := Aside0.mk H
                   clear H
                   have OJ := yA.out
                   have PJ := qA.out
                   have iG : wc.cell? ⟨bA, 0, none⟩ = some (.int .i64 fA) := (blk_cell aA.out 0).trans rfl
                   have jG : wc.cell? ⟨bA, 1, none⟩ = some (.int .i64 mA) := (blk_cell aA.out 1).trans rfl
                   have kG : wc.cell? ⟨bA, 2, none⟩ = some (.int .i64 lA) := (blk_cell aA.out 2).trans rfl
                   have lG : wc.cell? ⟨bA, 3, none⟩ = some (.int .i64 jA) := (blk_cell aA.out 3).trans rfl
                   have mG : wc.cell? ⟨bA, 4, none⟩ = some (.int .i64 iA) := (blk_cell aA.out 4).trans rfl
                   have nG : wc.cell? ⟨bA, 5, none⟩ = some (.int .i64 hA) := (blk_cell aA.out 5).trans rfl
                   have oG : wc.cell? ⟨bA, 6, none⟩ = some (.int .i64 gA) := (blk_cell aA.out 6).trans rfl
                   have pG : wc.cell? ⟨bA, 7, none⟩ = some (.int .i64 cA) := (blk_cell aA.out 7).trans rfl
                   have qG : wc.cell? ⟨bA, 8, none⟩ = some (.int .i64 eA) := (blk_cell aA.out 8).trans rfl
                   have rG : wc.cell? ⟨bA, 9, none⟩ = some (.bool true) := (blk_cell aA.out 9).trans rfl
                   have sG := blk_frozen aA.out 0
                   have tG := blk_frozen aA.out 1
                   have uG := blk_frozen aA.out 2
                   have vG := blk_frozen aA.out 3
                   have wG := blk_frozen aA.out 4
                   have xG := blk_frozen aA.out 5
                   have yG := blk_frozen aA.out 6
                   have zG := blk_frozen aA.out 7
                   have AG := blk_frozen aA.out 8
                   have BG := blk_frozen aA.out 9
                   go_wp2
                   repeat (go_quiet (fail); try go_wp2)
                   go_meet
                   case rel => exact ⟨_, (false), q7_31, H', ⟨by have := HK1.out; have := HJ19.out; have := HK3.out; have := HJ29.out; first | omega | exact Nat.le_refl _⟩, ⟨q7_8⟩, ⟨q7_7⟩, ⟨q7_6⟩, ⟨q7_2⟩, ⟨q7_5⟩, ⟨q7_1⟩⟩
                 case rest =>
                  clear HC56
                  (try clear c1); (try clear c2); (try clear UE); (try clear VE); (try clear p2); (try clear q2); (try clear hx2); (try clear c3); (try clear c4); (try clear c5); (try clear c6); (try clear p6); (try clear c14); (try clear c16); (try clear kE); (try clear c17); (try clear OE); (try clear c18); (try clear PE); (try clear c23); (try clear c25); (try clear RC); (try clear lE); (try clear p26); (try clear q26); (try clear hx26); (try clear c28); (try clear c31); (try clear iD); (try clear c32); (try clear c34); (try clear c36); (try clear c37); (try clear c45); (try clear c46); (try clear c47); (try clear c49); (try clear c50); (try clear c55); (try clear c57); (try clear c59); (try clear eE); (try clear IG); (try clear c60); (try clear c63); (try clear p64); (try clear rB); (try clear CB); (try clear DB); (try clear EB); (try clear FB); (try clear GB); (try clear IB); (try clear JB); (try clear KB); (try clear LB); (try clear MB); (try clear hC); (try clear iC); (try clear jC); (try clear kC); (try clear lC); (try clear mC); (try clear nC); (try clear oC); (try clear pC); (try clear qC); (try clear pE); (try clear qE); (try clear rE); (try clear sE); (try clear tE); (try clear uE); (try clear vE); (try clear wE); (try clear xE); (try clear yE); (try clear XE); (try clear ZE); (try clear bF); (try clear cF); (try clear dF); (try clear eF); (try clear fF); (try clear gF); (try clear hF); (try clear iF); (try clear jF); (try clear lD); (try clear nD); (try clear oD); (try clear pD); (try clear qD); (try clear rD); (try clear sD); (try clear tD); (try clear uD); (try clear vD); (try clear wD); (try clear HD); (try clear JD); (try clear KD); (try clear LD); (try clear MD); (try clear ND); (try clear OD); (try clear PD); (try clear QD); (try clear RD); (try clear SD); (try clear uF); (try clear vF); (try clear wF); (try clear xF); (try clear yF); (try clear zF); (try clear AF); (try clear BF); (try clear CF); (try clear DF); (try clear OF); (try clear PF); (try clear QF); (try clear RF); (try clear SF); (try clear TF); (try clear UF); (try clear VF); (try clear WF); (try clear XF); (try clear iG); (try clear jG); (try clear kG); (try clear lG); (try clear mG); (try clear nG); (try clear oG); (try clear pG); (try clear qG); (try clear rG); (try clear sB); (try clear NB); (try clear OB); (try clear PB); (try clear QB); (try clear RB); (try clear SB); (try clear TB); (try clear UB); (try clear VB); (try clear WB); (try clear rC); (try clear sC); (try clear tC); (try clear uC); (try clear vC); (try clear wC); (try clear xC); (try clear yC); (try clear zC); (try clear AC); (try clear zE); (try clear AE); (try clear BE); (try clear CE); (try clear DE); (try clear EE); (try clear FE); (try clear GE); (try clear HE); (try clear IE); (try clear YE); (try clear kF); (try clear lF); (try clear mF); (try clear nF); (try clear oF); (try clear pF); (try clear qF); (try clear rF); (try clear sF); (try clear tF); (try clear mD); (try clear xD); (try clear yD); (try clear zD); (try clear AD); (try clear BD); (try clear CD); (try clear DD); (try clear ED); (try clear FD); (try clear GD); (try clear ID); (try clear TD); (try clear UD); (try clear VD); (try clear WD); (try clear XD); (try clear YD); (try clear ZD); (try clear aE); (try clear bE); (try clear cE); (try clear EF); (try clear FF); (try clear GF); (try clear HF); (try clear IF); (try clear JF); (try clear KF); (try clear LF); (try clear MF); (try clear NF); (try clear YF); (try clear ZF); (try clear aG); (try clear bG); (try clear cG); (try clear dG); (try clear eG); (try clear fG); (try clear gG); (try clear hG); (try clear sG); (try clear tG); (try clear uG); (try clear vG); (try clear wG); (try clear xG); (try clear yG); (try clear zG); (try clear AG); (try clear BG); (try clear YC); (try clear p2); (try clear p26); (try clear p261); (try clear p6); (try clear q2); (try clear q26); (try clear q261)
                  obtain ⟨kq, LE, rfl, HA, HJ55, xA, wA, dA, oA, aA, HB⟩ := hcut
                  cases kq with
                  | zero => exact absurd HA.out (by simp [laws_FnRingOne.j4])
                  | succ kj55 =>
                   have H := HA.out
                   clear HA
                   simp only [laws_FnRingOne.j4] at H
                   by_cases c65 : LE = true
                   ·subst c65
                    have H1 : (if cA = 3 then (laws_FnRingOne.j5 kj55 (wrap64 (2 + EA)) zA tA (tA.length : Int) uA kA) else (some false)) = some true := by rw [if_pos rfl] at H; exact H
                    clear H
                    have H := H1
                    clear H1
                    by_cases c66 : cA = 3
                    ·rw [if_pos c66] at H
                     have JI : (cA == 3) = true := beq_iff_eq.mpr c66
                     have KI : (cA != 3) = false := bne_eq_false_iff_eq.mpr c66
                     clear c66
                     have H' := Aside0.mk H
                     clear H
                     have QJ := yA.out
                     have RJ := qA.out
                     have MG : wc.cell? ⟨bA, 0, none⟩ = some (.int .i64 fA) := (blk_cell aA.out 0).trans rfl
                     have NG : wc.cell? ⟨bA, 1, none⟩ = some (.int .i64 mA) := (blk_cell aA.out 1).trans rfl
                     have OG : wc.cell? ⟨bA, 2, none⟩ = some (.int .i64 lA) := (blk_cell aA.out 2).trans rfl
                     have PG : wc.cell? ⟨bA, 3, none⟩ = some (.int .i64 jA) := (blk_cell aA.out 3).trans rfl
                     have QG : wc.cell? ⟨bA, 4, none⟩ = some (.int .i64 iA) := (blk_cell aA.out 4).trans rfl
                     have RG : wc.cell? ⟨bA, 5, none⟩ = some (.int .i64 hA) := (blk_cell aA.out 5).trans rfl
                     have SG : wc.cell? ⟨bA, 6, none⟩ = some (.int .i64 gA) := (blk_cell aA.out 6).trans rfl
                     have TG : wc.cell? ⟨bA, 7, none⟩ = some (.int .i64 cA) := (blk_cell aA.out 7).trans rfl
                     have UG : wc.cell? ⟨bA, 8, none⟩ = some (.int .i64 eA) := (blk_cell aA.out 8).trans rfl
                     have VG : wc.cell? ⟨bA, 9, none⟩ = some (.bool true) := (blk_cell aA.out 9).trans rfl
                     have WG := blk_frozen aA.out 0
                     have XG := blk_frozen aA.out 1
                     have YG := blk_frozen aA.out 2
                     have ZG := blk_frozen aA.out 3
                     have aH := blk_frozen aA.out 4
                     have bH := blk_frozen aA.out 5
                     have cH := blk_frozen aA.out 6
                     have dH := blk_frozen aA.out 7
                     have eH := blk_frozen aA.out 8
                     have fH := blk_frozen aA.out 9
                     go_wp2
                     repeat (go_quiet (fail); try go_wp2)
                     go_meet
                     case rel => exact ⟨_, (zA), H', ⟨q7_27⟩, ⟨q7_8⟩, ⟨q7_7⟩, ⟨q7_6⟩, ⟨q7_2⟩, ⟨q7_5⟩, ⟨q7_1⟩⟩
                    ·rw [if_neg c66] at H
                     have JI : (cA == 3) = false := beq_eq_false_iff_ne.mpr c66
                     have KI : (cA != 3) = true := bne_iff_ne.mpr c66
                     exact absurd H (by simp)
                   ·replace c65 := Bool.eq_false_iff.mpr c65
                    subst c65
                    have H1 : (if fA = 1 then (if cA = 1 then (if zA.length < 17592186044416 then (laws_FnRingOne.j5 kj55 (wrap64 (2 + EA)) (zA ++ [wrap64 (100 + uA)]) tA (tA.length : Int) uA kA) else (none)) else (some false)) else (if (zA.length : Int) = 0 then (if cA = 2 then (laws_FnRingOne.j5 kj55 (wrap64 (2 + EA)) zA tA (tA.length : Int) uA kA) else (some false)) else (if cA = 1 then (if 0 < (zA.length : Int) then (if eA = (rd zA 0) then (if 1 ≤ (zA.length : Int) then (laws_FnRingOne.j5 kj55 (wrap64 (2 + EA)) (zA.drop (1 : Int).toNat) tA (tA.length : Int) uA kA) else (none)) else (some false)) else (none)) else (some false)))) = some true := by rw [if_neg (show ¬ (false = true) by decide)] at H; exact H
                    clear H
                    have H := H1
                    clear H1
                    by_cases c69 : fA = 1
                    ·rw [if_pos c69] at H
                     have LI : (fA == 1) = true := beq_iff_eq.mpr c69
                     have MI : (fA != 1) = false := bne_eq_false_iff_eq.mpr c69
                     clear c69
                     by_cases c70 : cA = 1
                     ·rw [if_pos c70] at H
                      have NI : (cA == 1) = true := beq_iff_eq.mpr c70
                      have OI : (cA != 1) = false := bne_eq_false_iff_eq.mpr c70
                      clear c70
                      by_cases c71 : zA.length < 17592186044416
                      ·rw [if_pos c71] at H
                       have LMc71 := Aside0.mk c71
                       clear c71
                       obtain ⟨y299, hy299⟩ : ∃ y_ : List Int, y_ = (zA ++ [wrap64 (100 + uA)]) := ⟨_, rfl⟩
                       replace H : (laws_FnRingOne.j5 kj55 (wrap64 (2 + EA)) y299 tA (tA.length : Int) uA kA) = some true := by first | (rw [hy299]; with_reducible exact H) | (have H2_ := (Option.bind_some _ _).symm.trans H; rw [hy299]; with_reducible exact H2_) | (have H2_ := (Option.bind_some _ _).symm.trans H; with_reducible exact H2_) | with_reducible exact H | (rw [hy299]; exact H) | exact H
                       have Ny299 := Aside0.mk hy299
                       clear hy299
                       have H' := Aside0.mk H
                       clear H
                       have SJ := yA.out
                       have TJ := qA.out
                       have gH : wc.cell? ⟨bA, 0, none⟩ = some (.int .i64 fA) := (blk_cell aA.out 0).trans rfl
                       have hH : wc.cell? ⟨bA, 1, none⟩ = some (.int .i64 mA) := (blk_cell aA.out 1).trans rfl
                       have iH : wc.cell? ⟨bA, 2, none⟩ = some (.int .i64 lA) := (blk_cell aA.out 2).trans rfl
                       have jH : wc.cell? ⟨bA, 3, none⟩ = some (.int .i64 jA) := (blk_cell aA.out 3).trans rfl
                       have kH : wc.cell? ⟨bA, 4, none⟩ = some (.int .i64 iA) := (blk_cell aA.out 4).trans rfl
                       have lH : wc.cell? ⟨bA, 5, none⟩ = some (.int .i64 hA) := (blk_cell aA.out 5).trans rfl
                       have mH : wc.cell? ⟨bA, 6, none⟩ = some (.int .i64 gA) := (blk_cell aA.out 6).trans rfl
                       have nH : wc.cell? ⟨bA, 7, none⟩ = some (.int .i64 cA) := (blk_cell aA.out 7).trans rfl
                       have oH : wc.cell? ⟨bA, 8, none⟩ = some (.int .i64 eA) := (blk_cell aA.out 8).trans rfl
                       have pH : wc.cell? ⟨bA, 9, none⟩ = some (.bool true) := (blk_cell aA.out 9).trans rfl
                       have qH := blk_frozen aA.out 0
                       have rH := blk_frozen aA.out 1
                       have sH := blk_frozen aA.out 2
                       have tH := blk_frozen aA.out 3
                       have uH := blk_frozen aA.out 4
                       have vH := blk_frozen aA.out 5
                       have wH := blk_frozen aA.out 6
                       have xH := blk_frozen aA.out 7
                       have yH := blk_frozen aA.out 8
                       have zH := blk_frozen aA.out 9
                       go_wp2_with (first | ((with_reducible refine gate_builtin (b := .append) (xs := #[.tmp 101, .tmp 104]) rfl ?_); (try (refine gate_guard (by rfl) ?_; dsimp only)); at_builtin; refine Kd.Q_append (Kd.int .i64) (w0 := w) w.heap.size rfl (.tmp 101) (.tmp 104) 27 3 (.int .i64 0) 8 rfl Try.underlying27 info3 rfl (by decide) (by omega) u6 zA (wrap64 (100 + uA)) [.int .i64 (wrap64 (100 + uA))] (fun k_ => some k_ ≠ (.slice (some ad261) tA.length VA : Value).ownBlock ∧ some k_ ≠ (pA : Value).ownBlock) (fun _ => False) rfl rfl ?aP (fun _ hk => hk.elim) ?aF ?aO ?aB ?aS ?aL ?_; (case aP => exact rfl); (case aB => exact q7_1); (case aF => exact (fun k_ hk => ⟨Kd.fresh' (Kd.R_lt q7_7) k_ hk, Kd.fresh' (Kd.R_lt q7_6) k_ hk⟩)); (case aO => exact q7_8); (case aS => exact (below_size q7_1)); (case aL => have := LMc71.out; omega); intro dJ UJ ho hb hg hat; rw [← Ny299.out] at ho; have BA := Aside0.mk (Kd.R_after (ok := (fun k_ => some k_ ≠ (pA : Value).ownBlock)) q7_26 hg hat); have FA := Aside0.mk (Kd.R_after (ok := (fun k_ => some k_ ≠ (.slice (some ad261) tA.length VA : Value).ownBlock)) q7_25 hg hat); have IA := Aside0.mk (blk_grown (g := sA) (o := .cells #[pA] 29 (0, 0)) q7_2 hg (Kd.Q_ne xA.out oA.out (by decide))); have JA := Aside0.mk (blk_grown (g := bA) (o := .cells #[.int .i64 fA, .int .i64 mA, .int .i64 lA, .int .i64 jA, .int .i64 iA, .int .i64 hA, .int .i64 gA, .int .i64 cA, .int .i64 eA, .bool true] 23 (0, 0)) q7_5 hg (Kd.Q_ne xA.out aA.out (by decide))); have KA := Aside0.mk (hb); have RA := Aside0.mk (ho); clear wA; clear dA; clear oA; clear aA; clear HB; clear xA; have wA := BA; have dA := FA; have oA := IA; have aA := JA; have HB := KA; have JG := RA; clear BA FA IA JA KA RA; clear ho hb hg hat))
                       repeat (go_quiet (first | ((with_reducible refine gate_builtin (b := .append) (xs := #[.tmp 101, .tmp 104]) rfl ?_); (try (refine gate_guard (by rfl) ?_; dsimp only)); at_builtin; refine Kd.Q_append (Kd.int .i64) (w0 := w) w.heap.size rfl (.tmp 101) (.tmp 104) 27 3 (.int .i64 0) 8 rfl Try.underlying27 info3 rfl (by decide) (by omega) u6 zA (wrap64 (100 + uA)) [.int .i64 (wrap64 (100 + uA))] (fun k_ => some k_ ≠ (.slice (some ad261) tA.length VA : Value).ownBlock ∧ some k_ ≠ (pA : Value).ownBlock) (fun _ => False) rfl rfl ?aP (fun _ hk => hk.elim) ?aF ?aO ?aB ?aS ?aL ?_; (case aP => exact rfl); (case aB => exact q7_1); (case aF => exact (fun k_ hk => ⟨Kd.fresh' (Kd.R_lt q7_7) k_ hk, Kd.fresh' (Kd.R_lt q7_6) k_ hk⟩)); (case aO => exact q7_8); (case aS => exact (below_size q7_1)); (case aL => have := LMc71.out; omega); intro dJ UJ ho hb hg hat; rw [← Ny299.out] at ho; have BA := Aside0.mk (Kd.R_after (ok := (fun k_ => some k_ ≠ (pA : Value).ownBlock)) q7_26 hg hat); have FA := Aside0.mk (Kd.R_after (ok := (fun k_ => some k_ ≠ (.slice (some ad261) tA.length VA : Value).ownBlock)) q7_25 hg hat); have IA := Aside0.mk (blk_grown (g := sA) (o := .cells #[pA] 29 (0, 0)) q7_2 hg (Kd.Q_ne xA.out oA.out (by decide))); have JA := Aside0.mk (blk_grown (g := bA) (o := .cells #[.int .i64 fA, .int .i64 mA, .int .i64 lA, .int .i64 jA, .int .i64 iA, .int .i64 hA, .int .i64 gA, .int .i64 cA, .int .i64 eA, .bool true] 23 (0, 0)) q7_5 hg (Kd.Q_ne xA.out aA.out (by decide))); have KA := Aside0.mk (hb); have RA := Aside0.mk (ho); clear wA; clear dA; clear oA; clear aA; clear HB; clear xA; have wA := BA; have dA := FA; have oA := IA; have aA := JA; have HB := KA; have JG := RA; clear BA FA IA JA KA RA; clear ho hb hg hat)); try go_wp2_with (first | ((with_reducible refine gate_builtin (b := .append) (xs := #[.tmp 101, .tmp 104]) rfl ?_); (try (refine gate_guard (by rfl) ?_; dsimp only)); at_builtin; refine Kd.Q_append (Kd.int .i64) (w0 := w) w.heap.size rfl (.tmp 101) (.tmp 104) 27 3 (.int .i64 0) 8 rfl Try.underlying27 info3 rfl (by decide) (by omega) u6 zA (wrap64 (100 + uA)) [.int .i64 (wrap64 (100 + uA))] (fun k_ => some k_ ≠ (.slice (some ad261) tA.length VA : Value).ownBlock ∧ some k_ ≠ (pA : Value).ownBlock) (fun _ => False) rfl rfl ?aP (fun _ hk => hk.elim) ?aF ?aO ?aB ?aS ?aL ?_; (case aP => exact rfl); (case aB => exact q7_1); (case aF => exact (fun k_ hk => ⟨Kd.fresh' (Kd.R_lt q7_7) k_ hk, Kd.fresh' (Kd.R_lt q7_6) k_ hk⟩)); (case aO => exact q7_8); (case aS => exact (below_size q7_1)); (case aL => have := LMc71.out; omega); intro dJ UJ ho hb hg hat; rw [← Ny299.out] at ho; have BA := Aside0.mk (Kd.R_after (ok := (fun k_ => some k_ ≠ (pA : Value).ownBlock)) q7_26 hg hat); have FA := Aside0.mk (Kd.R_after (ok := (fun k_ => some k_ ≠ (.slice (some ad261) tA.length VA : Value).ownBlock)) q7_25 hg hat); have IA := Aside0.mk (blk_grown (g := sA) (o := .cells #[pA] 29 (0, 0)) q7_2 hg (Kd.Q_ne xA.out oA.out (by decide))); have JA := Aside0.mk (blk_grown (g := bA) (o := .cells #[.int .i64 fA, .int .i64 mA, .int .i64 lA, .int .i64 jA, .int .i64 iA, .int .i64 hA, .int .i64 gA, .int .i64 cA, .int .i64 eA, .bool true] 23 (0, 0)) q7_5 hg (Kd.Q_ne xA.out aA.out (by decide))); have KA := Aside0.mk (hb); have RA := Aside0.mk (ho); clear wA; clear dA; clear oA; clear aA; clear HB; clear xA; have wA := BA; have dA := FA; have oA := IA; have aA := JA; have HB := KA; have JG := RA; clear BA FA IA JA KA RA; clear ho hb hg hat)))
                       go_meet
                       case rel => exact ⟨_, (y299), H', ⟨q7_27⟩, ⟨by (with_reducible repeat (first | apply Kd.Q_alloc | apply Kd.Q_drewN | apply Kd.Q_drew)); exact JG.out⟩, ⟨q7_26⟩, ⟨q7_25⟩, ⟨q7_2⟩, ⟨q7_5⟩, ⟨q7_1⟩⟩
                      ·rw [if_neg c71] at H
                       exact absurd H (by simp)
                     ·rw [if_neg c70] at H
                      have NI : (cA == 1) = false := beq_eq_false_iff_ne.mpr c70
                      have OI : (cA != 1) = true := bne_iff_ne.mpr c70
                      exact absurd H (by simp)
                    ·rw [if_neg c69] at H
                     have LI : (fA == 1) = false := beq_eq_false_iff_ne.mpr c69
                     have MI : (fA != 1) = true := bne_iff_ne.mpr c69
                     by_cases c75 : (zA.length : Int) = 0
                     ·rw [if_pos c75] at H
                      have PI : ((zA.length : Int) == 0) = true := beq_iff_eq.mpr c75
                      have QI : ((zA.length : Int) != 0) = false := bne_eq_false_iff_eq.mpr c75
                      clear c75
                      by_cases c76 : cA = 2
                      ·rw [if_pos c76] at H
                       have RI : (cA == 2) = true := beq_iff_eq.mpr c76
                       have SI : (cA != 2) = false := bne_eq_false_iff_eq.mpr c76
                       clear c76
                       have H' := Aside0.mk H
                       clear H
                       have VJ := yA.out
                       have WJ := qA.out
                       have AH : wc.cell? ⟨bA, 0, none⟩ = some (.int .i64 fA) := (blk_cell aA.out 0).trans rfl
                       have BH : wc.cell? ⟨bA, 1, none⟩ = some (.int .i64 mA) := (blk_cell aA.out 1).trans rfl
                       have CH : wc.cell? ⟨bA, 2, none⟩ = some (.int .i64 lA) := (blk_cell aA.out 2).trans rfl
                       have DH : wc.cell? ⟨bA, 3, none⟩ = some (.int .i64 jA) := (blk_cell aA.out 3).trans rfl
                       have EH : wc.cell? ⟨bA, 4, none⟩ = some (.int .i64 iA) := (blk_cell aA.out 4).trans rfl
                       have FH : wc.cell? ⟨bA, 5, none⟩ = some (.int .i64 hA) := (blk_cell aA.out 5).trans rfl
                       have GH : wc.cell? ⟨bA, 6, none⟩ = some (.int .i64 gA) := (blk_cell aA.out 6).trans rfl
                       have HH : wc.cell? ⟨bA, 7, none⟩ = some (.int .i64 cA) := (blk_cell aA.out 7).trans rfl
                       have IH : wc.cell? ⟨bA, 8, none⟩ = some (.int .i64 eA) := (blk_cell aA.out 8).trans rfl
                       have JH : wc.cell? ⟨bA, 9, none⟩ = some (.bool true) := (blk_cell aA.out 9).trans rfl
                       have KH := blk_frozen aA.out 0
                       have LH := blk_frozen aA.out 1
                       have MH := blk_frozen aA.out 2
                       have NH := blk_frozen aA.out 3
                       have OH := blk_frozen aA.out 4
                       have PH := blk_frozen aA.out 5
                       have QH := blk_frozen aA.out 6
                       have RH := blk_frozen aA.out 7
                       have SH := blk_frozen aA.out 8
                       have TH := blk_frozen aA.out 9
                       obtain ⟨eK, fK, wJ, _⟩ := Kd.Q_slice xA.out
                       subst wJ
                       go_wp2
                       repeat (go_quiet (fail); try go_wp2)
                       go_meet
                       case rel => exact ⟨_, (zA), H', ⟨q7_27⟩, ⟨q7_8⟩, ⟨q7_7⟩, ⟨q7_6⟩, ⟨q7_2⟩, ⟨q7_5⟩, ⟨q7_1⟩⟩
                      ·rw [if_neg c76] at H
                       have RI : (cA == 2) = false := beq_eq_false_iff_ne.mpr c76
                       have SI : (cA != 2) = true := bne_iff_ne.mpr c76
                       exact absurd H (by simp)
                     ·rw [if_neg c75] at H
                      have PI : ((zA.length : Int) == 0) = false := beq_eq_false_iff_ne.mpr c75
                      have QI : ((zA.length : Int) != 0) = true := bne_iff_ne.mpr c75
                      have eJ : ¬ (zA = []) := fun h_ => c75 (by rw [h_]; rfl)
                      by_cases c80 : cA = 1
                      ·rw [if_pos c80] at H
                       have TI : (cA == 1) = true := beq_iff_eq.mpr c80
                       have UI : (cA != 1) = false := bne_eq_false_iff_eq.mpr c80
                       clear c80
                       by_cases c81 : 0 < (zA.length : Int)
                       ·rw [if_pos c81] at H
                        have fJ : decide (0 < (zA.length : Int)) = true := decide_eq_true c81
                        have gJ : decide (0 < zA.length) = true := decide_eq_true (by omega)
                        clear c81
                        by_cases c82 : eA = (rd zA 0)
                        ·rw [if_pos c82] at H
                         have VI : (eA == (rd zA 0)) = true := beq_iff_eq.mpr c82
                         have WI : (eA != (rd zA 0)) = false := bne_eq_false_iff_eq.mpr c82
                         clear c82
                         by_cases c83 : 1 ≤ (zA.length : Int)
                         ·rw [if_pos c83] at H
                          have hJ := eq_true c83
                          have iJ : decide (1 ≤ (zA.length : Int)) = true := decide_eq_true c83
                          clear c83
                          obtain ⟨y303, hy303⟩ : ∃ y_ : List Int, y_ = (zA.drop (1 : Int).toNat) := ⟨_, rfl⟩
                          replace H : (laws_FnRingOne.j5 kj55 (wrap64 (2 + EA)) y303 tA (tA.length : Int) uA kA) = some true := by first | (rw [hy303]; with_reducible exact H) | (have H2_ := (Option.bind_some _ _).symm.trans H; rw [hy303]; with_reducible exact H2_) | (have H2_ := (Option.bind_some _ _).symm.trans H; with_reducible exact H2_) | with_reducible exact H | (rw [hy303]; exact H) | exact H
                          have Ny303 := Aside0.mk hy303
                          clear hy303
                          have H' := Aside0.mk H
                          clear H
                          have XJ := yA.out
                          have YJ := qA.out
                          have UH : wc.cell? ⟨bA, 0, none⟩ = some (.int .i64 fA) := (blk_cell aA.out 0).trans rfl
                          have VH : wc.cell? ⟨bA, 1, none⟩ = some (.int .i64 mA) := (blk_cell aA.out 1).trans rfl
                          have WH : wc.cell? ⟨bA, 2, none⟩ = some (.int .i64 lA) := (blk_cell aA.out 2).trans rfl
                          have XH : wc.cell? ⟨bA, 3, none⟩ = some (.int .i64 jA) := (blk_cell aA.out 3).trans rfl
                          have YH : wc.cell? ⟨bA, 4, none⟩ = some (.int .i64 iA) := (blk_cell aA.out 4).trans rfl
                          have ZH : wc.cell? ⟨bA, 5, none⟩ = some (.int .i64 hA) := (blk_cell aA.out 5).trans rfl
                          have aI : wc.cell? ⟨bA, 6, none⟩ = some (.int .i64 gA) := (blk_cell aA.out 6).trans rfl
                          have bI : wc.cell? ⟨bA, 7, none⟩ = some (.int .i64 cA) := (blk_cell aA.out 7).trans rfl
                          have cI : wc.cell? ⟨bA, 8, none⟩ = some (.int .i64 eA) := (blk_cell aA.out 8).trans rfl
                          have dI : wc.cell? ⟨bA, 9, none⟩ = some (.bool true) := (blk_cell aA.out 9).trans rfl
                          have eI := blk_frozen aA.out 0
                          have fI := blk_frozen aA.out 1
                          have gI := blk_frozen aA.out 2
                          have hI := blk_frozen aA.out 3
                          have iI := blk_frozen aA.out 4
                          have jI := blk_frozen aA.out 5
                          have kI := blk_frozen aA.out 6
                          have lI := blk_frozen aA.out 7
                          have mI := blk_frozen aA.out 8
                          have nI := blk_frozen aA.out 9
                          obtain ⟨gK, oI, xJ, _⟩ := Kd.Q_slice xA.out
                          subst xJ
                          have p302 : 0 ≤ (0 : Int) := (by omega)
                          have q302 : 0 < (zA.length : Int) := of_decide_eq_true (by first | (with_reducible assumption) | assumption)
                          obtain ⟨ad302, yJ, ME⟩ := Kd.at_int (Kd.Q_reads' xA.out).2.2 0 p302 q302
                          cases yJ
                          have qi302 : (0 < zA.length) = True := eq_true (by omega)
                          (try rw [show ((0 : Int)).toNat = 0 from rfl] at ME)
                          (try rw [Addr.add_zero'] at ME)
                          replace p302 := eq_true p302
                          replace q302 := eq_true q302
                          have q87 : (1 : Int) ≤ ((zA.length : Int) : Int) := of_decide_eq_true (by first | (with_reducible assumption) | assumption)
                          obtain ⟨i087, hi087, _, hsz87, _⟩ := info_parts info3
                          have hcut87 := cut_from (P := Try.prog) 27 3 .i64 Try.underlying27 hi087 1 hsz87 (some ad302) zA.length oI 1 (by omega) q87
                          have hr87 := Kd.Q_drop (k := (1 : Int).toNat) xA.out (by omega)
                          obtain ⟨A87, hA87⟩ : ∃ A1, A1 = (if oI = (1 : Int).toNat then (some ad302) else ((some ad302) : Option Addr).map (·.add ((1 : Int).toNat * 1))) := ⟨_, rfl⟩
                          obtain ⟨c87, hc87⟩ : ∃ c1, c1 = oI - (1 : Int).toNat := ⟨_, rfl⟩
                          have hy87 : y303.length = zA.length - (1 : Int).toNat := (by rw [Ny303.out, List.length_drop])
                          rw [← Ny303.out] at hr87
                          rw [← hy87, ← hA87, ← hc87] at hcut87
                          replace hr87 : Kd.Q (Kd.int .i64) 3 wc w.heap.size (fun k_ => some k_ ≠ (.slice (some ad261) tA.length VA : Value).ownBlock ∧ some k_ ≠ (pA : Value).ownBlock) (.slice A87 y303.length c87) y303 := (by rw [hA87, hc87, hy87]; exact hr87)
                          have HE87 : Aside0 ((Value.slice A87 y303.length c87).ownBlock = (.slice (some ad302) zA.length oI : Value).ownBlock) := ⟨by rw [hA87]; split <;> (cases ((some ad302) : Option Addr) <;> rfl)⟩
                          clear hy87 hi087 hsz87 xA hA87 hc87
                          have jJ := Aside0.mk hr87
                          clear hr87
                          replace q87 := eq_true q87
                          have n_ := Aside0.mk (Kd.R_mono (ok' := fun k_ => (some k_ ≠ (.slice A87 y303.length c87 : Value).ownBlock ∧ some k_ ≠ (pA : Value).ownBlock)) wA.out (fun k_ hk => ⟨(by rw [HE87.out]; exact hk.1), hk.2⟩))
                          clear wA
                          have wA := n_
                          clear n_
                          have n_ := Aside0.mk (Kd.R_mono (ok' := fun k_ => (some k_ ≠ (.slice A87 y303.length c87 : Value).ownBlock ∧ some k_ ≠ (.slice (some ad261) tA.length VA : Value).ownBlock)) dA.out (fun k_ hk => ⟨(by rw [HE87.out]; exact hk.1), hk.2⟩))
                          clear dA
                          have dA := n_
                          clear n_
                          go_wp2
                          repeat (go_quiet (fail); try go_wp2)
                          go_meet
                          case rel => exact ⟨_, (y303), H', ⟨q7_27⟩, ⟨by (with_reducible repeat (first | apply Kd.Q_alloc | apply Kd.Q_drewN | apply Kd.Q_drew)); exact jJ.out⟩, ⟨q7_7⟩, ⟨q7_6⟩, ⟨q7_2⟩, ⟨q7_5⟩, ⟨q7_1⟩⟩
                         ·rw [if_neg c83] at H
                          exact absurd H (by simp)
                        ·rw [if_neg c82] at H
                         have VI : (eA == (rd zA 0)) = false := beq_eq_false_iff_ne.mpr c82
                         have WI : (eA != (rd zA 0)) = true := bne_iff_ne.mpr c82
                         exact absurd H (by simp)
                       ·rw [if_neg c81] at H
                        exact absurd H (by simp)
                      ·rw [if_neg c80] at H
                       have TI : (cA == 1) = false := beq_eq_false_iff_ne.mpr c80
                       have UI : (cA != 1) = true := bne_iff_ne.mpr c80
                       exact absurd H (by simp)
                ·replace c55 := Bool.eq_false_iff.mpr c55
                 subst c55
                 have H1 : (some false) = some true := by rw [if_neg (show ¬ (false = true) by decide)] at H; exact H
                 clear H
                 have H := H1
                 clear H1
                 exact absurd H (by simp)
               case rest =>
                clear HC54
                (try clear c1); (try clear c2); (try clear UE); (try clear VE); (try clear p2); (try clear q2); (try clear hx2); (try clear c3); (try clear p3); (try clear q3); (try clear hx3); (try clear qi3); (try clear c4); (try clear c5); (try clear c6); (try clear p6); (try clear c7); (try clear c8); (try clear q8); (try clear c14); (try clear c16); (try clear kE); (try clear c17); (try clear OE); (try clear c18); (try clear PE); (try clear c23); (try clear c25); (try clear RC); (try clear lE); (try clear p26); (try clear q26); (try clear hx26); (try clear c28); (try clear p30); (try clear q30); (try clear hx30); (try clear qi30); (try clear c31); (try clear iD); (try clear c32); (try clear c34); (try clear c36); (try clear c37); (try clear c45); (try clear c46); (try clear c47); (try clear c49); (try clear c50); (try clear c55); (try clear c57); (try clear c59); (try clear eE); (try clear IG); (try clear c60); (try clear c63); (try clear p64); (try clear c65); (try clear c66); (try clear JI); (try clear KI); (try clear c67); (try clear c69); (try clear LI); (try clear MI); (try clear c70); (try clear NI); (try clear OI); (try clear c71); (try clear c72); (try clear c75); (try clear PI); (try clear QI); (try clear eJ); (try clear c76); (try clear RI); (try clear SI); (try clear c77); (try clear c80); (try clear TI); (try clear UI); (try clear c81); (try clear fJ); (try clear gJ); (try clear c82); (try clear VI); (try clear WI); (try clear c83); (try clear hJ); (try clear iJ); (try clear c84); (try clear c87); (try clear q87); (try clear rB); (try clear CB); (try clear DB); (try clear EB); (try clear FB); (try clear GB); (try clear IB); (try clear JB); (try clear KB); (try clear LB); (try clear MB); (try clear hC); (try clear iC); (try clear jC); (try clear kC); (try clear lC); (try clear mC); (try clear nC); (try clear oC); (try clear pC); (try clear qC); (try clear pE); (try clear qE); (try clear rE); (try clear sE); (try clear tE); (try clear uE); (try clear vE); (try clear wE); (try clear xE); (try clear yE); (try clear XE); (try clear ZE); (try clear bF); (try clear cF); (try clear dF); (try clear eF); (try clear fF); (try clear gF); (try clear hF); (try clear iF); (try clear jF); (try clear lD); (try clear nD); (try clear oD); (try clear pD); (try clear qD); (try clear rD); (try clear sD); (try clear tD); (try clear uD); (try clear vD); (try clear wD); (try clear HD); (try clear JD); (try clear KD); (try clear LD); (try clear MD); (try clear ND); (try clear OD); (try clear PD); (try clear QD); (try clear RD); (try clear SD); (try clear uF); (try clear vF); (try clear wF); (try clear xF); (try clear yF); (try clear zF); (try clear AF); (try clear BF); (try clear CF); (try clear DF); (try clear OF); (try clear PF); (try clear QF); (try clear RF); (try clear SF); (try clear TF); (try clear UF); (try clear VF); (try clear WF); (try clear XF); (try clear iG); (try clear jG); (try clear kG); (try clear lG); (try clear mG); (try clear nG); (try clear oG); (try clear pG); (try clear qG); (try clear rG); (try clear MG); (try clear NG); (try clear OG); (try clear PG); (try clear QG); (try clear RG); (try clear SG); (try clear TG); (try clear UG); (try clear VG); (try clear gH); (try clear hH); (try clear iH); (try clear jH); (try clear kH); (try clear lH); (try clear mH); (try clear nH); (try clear oH); (try clear pH); (try clear AH); (try clear BH); (try clear CH); (try clear DH); (try clear EH); (try clear FH); (try clear GH); (try clear HH); (try clear IH); (try clear JH); (try clear UH); (try clear VH); (try clear WH); (try clear XH); (try clear YH); (try clear ZH); (try clear aI); (try clear bI); (try clear cI); (try clear dI); (try clear sB); (try clear NB); (try clear OB); (try clear PB); (try clear QB); (try clear RB); (try clear SB); (try clear TB); (try clear UB); (try clear VB); (try clear WB); (try clear rC); (try clear sC); (try clear tC); (try clear uC); (try clear vC); (try clear wC); (try clear xC); (try clear yC); (try clear zC); (try clear AC); (try clear zE); (try clear AE); (try clear BE); (try clear CE); (try clear DE); (try clear EE); (try clear FE); (try clear GE); (try clear HE); (try clear IE); (try clear YE); (try clear kF); (try clear lF); (try clear mF); (try clear nF); (try clear oF); (try clear pF); (try clear qF); (try clear rF); (try clear sF); (try clear tF); (try clear mD); (try clear xD); (try clear yD); (try clear zD); (try clear AD); (try clear BD); (try clear CD); (try clear DD); (try clear ED); (try clear FD); (try clear GD); (try clear ID); (try clear TD); (try clear UD); (try clear VD); (try clear WD); (try clear XD); (try clear YD); (try clear ZD); (try clear aE); (try clear bE); (try clear cE); (try clear EF); (try clear FF); (try clear GF); (try clear HF); (try clear IF); (try clear JF); (try clear KF); (try clear LF); (try clear MF); (try clear NF); (try clear YF); (try clear ZF); (try clear aG); (try clear bG); (try clear cG); (try clear dG); (try clear eG); (try clear fG); (try clear gG); (try clear hG); (try clear sG); (try clear tG); (try clear uG); (try clear vG); (try clear wG); (try clear xG); (try clear yG); (try clear zG); (try clear AG); (try clear BG); (try clear WG); (try clear XG); (try clear YG); (try clear ZG); (try clear aH); (try clear bH); (try clear cH); (try clear dH); (try clear eH); (try clear fH); (try clear qH); (try clear rH); (try clear sH); (try clear tH); (try clear uH); (try clear vH); (try clear wH); (try clear xH); (try clear yH); (try clear zH); (try clear KH); (try clear LH); (try clear MH); (try clear NH); (try clear OH); (try clear PH); (try clear QH); (try clear RH); (try clear SH); (try clear TH); (try clear eI); (try clear fI); (try clear gI); (try clear hI); (try clear iI); (try clear jI); (try clear kI); (try clear lI); (try clear mI); (try clear nI); (try clear YC); (try clear ME); (try clear p2); (try clear p26); (try clear p261); (try clear p302); (try clear p6); (try clear p64); (try clear q2); (try clear q26); (try clear q261); (try clear q302); (try clear q87)
                obtain ⟨kq, KC, HA, HJ53, xA, wA, dA, oA, aA, HB⟩ := hcut
                cases kq with
                | zero => exact absurd HA.out (by simp [laws_FnRingOne.j5])
                | succ kj53 =>
                 have H := HA.out
                 clear HA
                 simp only [laws_FnRingOne.j5] at H
                 replace H := Option.bind_eq_some_iff.mp H
                 obtain ⟨mE, A880, H⟩ := H
                 replace H : ((laws_sameInts.f kj53 mE KC).bind fun CG => (if CG = true then (laws_FnRingOne.l0 kj53 (wrap64 (2 + EA)) KC tA (tA.length : Int) (wrap64 (uA + 1)) kA) else (some false))) = some true := H
                 have A88 := Aside0.mk A880
                 clear A880
                 replace H := Option.bind_eq_some_iff.mp H
                 obtain ⟨CG, A890, H⟩ := H
                 replace H : (if CG = true then (laws_FnRingOne.l0 kj53 (wrap64 (2 + EA)) KC tA (tA.length : Int) (wrap64 (uA + 1)) kA) else (some false)) = some true := H
                 have A89 := Aside0.mk A890
                 clear A890
                 by_cases c90 : CG = true
                 ·subst c90
                  have H1 : (laws_FnRingOne.l0 kj53 (wrap64 (2 + EA)) KC tA (tA.length : Int) (wrap64 (uA + 1)) kA) = some true := by rw [if_pos rfl] at H; exact H
                  clear H
                  have H := H1
                  clear H1
                  have H' := Aside0.mk H
                  clear H
                  have ZJ := qA.out
                  have aK := yA.out
                  have pJ : wc.cell? ⟨sA, 0, none⟩ = some (pA) := (blk_cell oA.out 0).trans rfl
                  have qJ := blk_frozen oA.out 0
                  obtain ⟨pI, qI, zJ⟩ := Kd.R_slice dA.out
                  subst zJ
                  go_wp2_with (first | (go_at_call 45; (with_reducible refine (impl_RiItems.calls kj53 (wrap64 (2 + EA)) _ _ kA mE _ ?side1 ?side2 A88.out).mono ?_); (case side1 => exact q7_18); (case side2 => exact (Kd.R_reads' dA.out).2.1); rintro e bK ⟨kJ, rfl, ho0, hb⟩; have BA := Aside0.mk (Kd.Q_elder' q7_8 (Kd.R_base ho0) hb); have FA := Aside0.mk (Kd.R_elder' q7_7 (Kd.R_base ho0) hb); have IA := Aside0.mk (Kd.R_elder' q7_6 (Kd.R_base ho0) hb); have JA := Aside0.mk (Kd.R_lower (Kd.R_new' (Kd.R_new' (Kd.R_new' ho0 (Kd.Q_lt q7_8)) (Kd.R_lt q7_7)) (Kd.R_lt q7_6)) (below_size q7_1)); have KA := Aside0.mk (blk_below (g := sA) (o := .cells #[.slice pI kA.length qI] 29 (0, 0)) q7_2 hb); have RA := Aside0.mk (blk_below (g := bA) (o := .cells #[.int .i64 fA, .int .i64 mA, .int .i64 lA, .int .i64 jA, .int .i64 iA, .int .i64 hA, .int .i64 gA, .int .i64 cA, .int .i64 eA, .bool nA] 23 (0, 0)) q7_5 hb); have tB := Aside0.mk (below_step q7_1 hb); clear xA; clear wA; clear dA; clear oA; clear aA; clear HB; have xA := BA; have wA := FA; have dA := IA; have XC := JA; have oA := KA; have aA := RA; have HB := tB; clear BA FA IA JA KA RA tB; (try clear hb); (try clear hb2); (try clear hk); (try clear hi); (try clear ho0); obtain ⟨lJ, mJ, KG⟩ := Kd.R_slice XC.out; subst KG; obtain ⟨nJ, oJ, LG, _⟩ := Kd.Q_slice xA.out; subst LG) | (go_at_call 48; (with_reducible refine (laws_sameInts.calls kj53 _ _ mE _ _ KC true _ ?side1 ?side2 ?side3 ?side4 A89.out).mono ?_); (case side1 => exact q7_29); (case side2 => exact (Kd.R_reads' XC.out).2.1); (case side3 => exact q7_30); (case side4 => exact (Kd.Q_reads' xA.out).2.1); rintro e w' ⟨rfl, ⟨nd, rfl⟩⟩; (try first | exact ⟨rfl, _, World.drewN_drewN _ _ _⟩ | exact ⟨rfl, _, Eq.trans (World.drewN_drewN _ _ _) (congrArg (World.drewN _) (Nat.add_assoc _ _ _))⟩)))
                  repeat (go_quiet (first | (go_at_call 45; (with_reducible refine (impl_RiItems.calls kj53 (wrap64 (2 + EA)) _ _ kA mE _ ?side1 ?side2 A88.out).mono ?_); (case side1 => exact q7_18); (case side2 => exact (Kd.R_reads' dA.out).2.1); rintro e bK ⟨kJ, rfl, ho0, hb⟩; have BA := Aside0.mk (Kd.Q_elder' q7_8 (Kd.R_base ho0) hb); have FA := Aside0.mk (Kd.R_elder' q7_7 (Kd.R_base ho0) hb); have IA := Aside0.mk (Kd.R_elder' q7_6 (Kd.R_base ho0) hb); have JA := Aside0.mk (Kd.R_lower (Kd.R_new' (Kd.R_new' (Kd.R_new' ho0 (Kd.Q_lt q7_8)) (Kd.R_lt q7_7)) (Kd.R_lt q7_6)) (below_size q7_1)); have KA := Aside0.mk (blk_below (g := sA) (o := .cells #[.slice pI kA.length qI] 29 (0, 0)) q7_2 hb); have RA := Aside0.mk (blk_below (g := bA) (o := .cells #[.int .i64 fA, .int .i64 mA, .int .i64 lA, .int .i64 jA, .int .i64 iA, .int .i64 hA, .int .i64 gA, .int .i64 cA, .int .i64 eA, .bool nA] 23 (0, 0)) q7_5 hb); have tB := Aside0.mk (below_step q7_1 hb); clear xA; clear wA; clear dA; clear oA; clear aA; clear HB; have xA := BA; have wA := FA; have dA := IA; have XC := JA; have oA := KA; have aA := RA; have HB := tB; clear BA FA IA JA KA RA tB; (try clear hb); (try clear hb2); (try clear hk); (try clear hi); (try clear ho0); obtain ⟨lJ, mJ, KG⟩ := Kd.R_slice XC.out; subst KG; obtain ⟨nJ, oJ, LG, _⟩ := Kd.Q_slice xA.out; subst LG) | (go_at_call 48; (with_reducible refine (laws_sameInts.calls kj53 _ _ mE _ _ KC true _ ?side1 ?side2 ?side3 ?side4 A89.out).mono ?_); (case side1 => exact q7_29); (case side2 => exact (Kd.R_reads' XC.out).2.1); (case side3 => exact q7_30); (case side4 => exact (Kd.Q_reads' xA.out).2.1); rintro e w' ⟨rfl, ⟨nd, rfl⟩⟩; (try first | exact ⟨rfl, _, World.drewN_drewN _ _ _⟩ | exact ⟨rfl, _, Eq.trans (World.drewN_drewN _ _ _) (congrArg (World.drewN _) (Nat.add_assoc _ _ _))⟩))); try go_wp2_with (first | (go_at_call 45; (with_reducible refine (impl_RiItems.calls kj53 (wrap64 (2 + EA)) _ _ kA mE _ ?side1 ?side2 A88.out).mono ?_); (case side1 => exact q7_18); (case side2 => exact (Kd.R_reads' dA.out).2.1); rintro e bK ⟨kJ, rfl, ho0, hb⟩; have BA := Aside0.mk (Kd.Q_elder' q7_8 (Kd.R_base ho0) hb); have FA := Aside0.mk (Kd.R_elder' q7_7 (Kd.R_base ho0) hb); have IA := Aside0.mk (Kd.R_elder' q7_6 (Kd.R_base ho0) hb); have JA := Aside0.mk (Kd.R_lower (Kd.R_new' (Kd.R_new' (Kd.R_new' ho0 (Kd.Q_lt q7_8)) (Kd.R_lt q7_7)) (Kd.R_lt q7_6)) (below_size q7_1)); have KA := Aside0.mk (blk_below (g := sA) (o := .cells #[.slice pI kA.length qI] 29 (0, 0)) q7_2 hb); have RA := Aside0.mk (blk_below (g := bA) (o := .cells #[.int .i64 fA, .int .i64 mA, .int .i64 lA, .int .i64 jA, .int .i64 iA, .int .i64 hA, .int .i64 gA, .int .i64 cA, .int .i64 eA, .bool nA] 23 (0, 0)) q7_5 hb); have tB := Aside0.mk (below_step q7_1 hb); clear xA; clear wA; clear dA; clear oA; clear aA; clear HB; have xA := BA; have wA := FA; have dA := IA; have XC := JA; have oA := KA; have aA := RA; have HB := tB; clear BA FA IA JA KA RA tB; (try clear hb); (try clear hb2); (try clear hk); (try clear hi); (try clear ho0); obtain ⟨lJ, mJ, KG⟩ := Kd.R_slice XC.out; subst KG; obtain ⟨nJ, oJ, LG, _⟩ := Kd.Q_slice xA.out; subst LG) | (go_at_call 48; (with_reducible refine (laws_sameInts.calls kj53 _ _ mE _ _ KC true _ ?side1 ?side2 ?side3 ?side4 A89.out).mono ?_); (case side1 => exact q7_29); (case side2 => exact (Kd.R_reads' XC.out).2.1); (case side3 => exact q7_30); (case side4 => exact (Kd.Q_reads' xA.out).2.1); rintro e w' ⟨rfl, ⟨nd, rfl⟩⟩; (try first | exact ⟨rfl, _, World.drewN_drewN _ _ _⟩ | exact ⟨rfl, _, Eq.trans (World.drewN_drewN _ _ _) (congrArg (World.drewN _) (Nat.add_assoc _ _ _))⟩))))
                  go_roundg kj53
                  case measure => have := HK1.out; have := HJ19.out; have := HK3.out; have := HJ29.out; have := HJ53.out; omega
                  case rel => exact ⟨(KC), (wrap64 (uA + 1)), (kA), (.slice pI kA.length qI), q7_31, H', ⟨by have := HK1.out; have := HJ19.out; have := HK3.out; have := HJ29.out; have := HJ53.out; omega⟩, ⟨by (with_reducible repeat (first | apply Kd.Q_alloc | apply Kd.Q_drewN | apply Kd.Q_drew)); exact Kd.Q_mono xA.out (fun _ hk => ⟨hk.1.1, hk.1.2⟩)⟩, ⟨by (with_reducible repeat (first | apply Kd.R_alloc | apply Kd.R_drewN | apply Kd.R_drew)); exact Kd.R_mono wA.out (fun _ hk => ⟨hk.1.1, hk.1.2⟩)⟩, ⟨by (with_reducible repeat (first | apply Kd.R_alloc | apply Kd.R_drewN | apply Kd.R_drew)); exact Kd.R_mono dA.out (fun _ hk => ⟨hk.1.1, hk.1.2⟩)⟩, ⟨q7_2⟩, ⟨q7_1⟩⟩
                 ·replace c90 := Bool.eq_false_iff.mpr c90
                  subst c90
                  have H1 : (some false) = some true := by rw [if_neg (show ¬ (false = true) by decide)] at H; exact H
                  clear H
                  have H := H1
                  clear H1
                  exact absurd H (by simp)
       ·rw [if_neg c18] at H
        exact absurd H (by simp)
      ·rw [if_neg c17] at H
       exact absurd H (by simp)
     ·rw [if_neg c16] at H
      have kE : decide (uA < (tA.length : Int)) = false := decide_eq_false c16
      clear c16
      have HRET := Aside0.mk (Option.some.inj H)
      (try clear H)
      have rJ : wr.cell? ⟨sA, 0, none⟩ = some (pA) := (blk_cell oA.out 0).trans rfl
      have sJ := blk_frozen oA.out 0
      obtain ⟨hK, iK, AJ⟩ := Kd.R_slice dA.out
      subst AJ
      go_wp2
      repeat (go_quiet (fail); try go_wp2)
      go_ret
      exact ⟨by first | rfl | (rw [HRET.out]; done) | (simp [HRET.out]; done) | (have h_ := HRET.out; simp_all; done) | (simp [errW_none, errW_some] <;> rfl) | (simp [*, errW_none, errW_some] <;> rfl), q7_4⟩
  ·replace c5 := Bool.eq_false_iff.mpr c5
   subst c5
   have H1 : (some false) = some true := by rw [if_neg (show ¬ (false = true) by decide)] at H; exact H
   clear H
   have H := H1
   clear H1
   exact absurd H (by simp)

/-- THE ONE PURE STATEMENT of laws_FnRingOne: yours. -/
def laws_FnRingOne.Pure : Prop := ∀ (l0 : List Int), l0.length ≤ maxLen → l0.length * 1 ≤ 140737488351232 → (∀ x ∈ l0, (Lit.int .u8 x).wf = true) → ∃ k, laws_FnRingOne.f k l0 = some true
theorem laws_FnRingOne.walk (P : laws_FnRingOne.Pure) (a0 : Option Addr) (len0 cap0 : Nat) (z0 : List Int) (w : World) (w0 : (a0 = none ∧ len0 = 0 ∧ cap0 = 0 ∧ z0 = []) ∨ ∃ x, a0 = some x ∧ len0 ≤ cap0 ∧ cap0 ≤ maxLen ∧ z0.length = cap0 ∧ (∀ i, i < z0.length → w.cell? (x.add i) = some (.int .u8 (z0.getD i 0))) ∧ ∀ n ∈ z0, (Lit.int .u8 n).wf = true) (y0 : len0 * 1 ≤ 140737488351232) :
  Calls Try.prog 14 #[.slice a0 len0 cap0] w fun e w' => e = .returned (.bool true) ∧ Below w.heap.size w w' := by
 obtain ⟨l0, rfl, hr0, hm0, hw0, hc0⟩ := ReadsInt.ofRowC w0
 obtain ⟨k, h⟩ := P l0 hm0 y0 hw0
 refine (laws_FnRingOne.calls k _ _ l0 true w (Kd.C_of_reads (d := (0 : Int)) (h1 := fun _ => rfl) hr0) hc0 h).mono ?_
 rintro e w' ⟨rfl, hd⟩
 exact ⟨rfl, hd⟩

end Go.Proofs.Ytfahmmlkcmadeaa.PFnRingOne
