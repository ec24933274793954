-- Written by the session's own patched copy of the printer (wip/patch_print.py).
import Derived.Test.YtfahmmlkcmadeaaPFnStackOnex0
import Derived.Test.YtfahmmlkcmadeaaPFnStackOnex1
import Derived.Test.YtfahmmlkcmadeaaPFnStackOnex4
import Derived.Test.YtfahmmlkcmadeaaPFnStackOnex5
import Derived.Test.YtfahmmlkcmadeaaPFnStackOnex6
namespace Go.Proofs.Ytfahmmlkcmadeaa.PFnStackOne
open Go.RowKit Go.Proofs.YtfahmmlkcmadeaaW.PrintWords Go.Proofs.YtfahmmlkcmadeaaW.PrintLast Go.Proofs.YtfahmmlkcmadeaaW.PrintMore
attribute [local go_sem] max2_int min2_int max_two min_two max_three min_three max_four min_four   -- for this text's walks alone
set_option linter.unusedVariables false
set_option linter.unusedSimpArgs false

theorem q7_0 {p : Prop} (h : p := by repeat (first | (with_reducible first | exact HB.out | apply below_alloc | apply pw_below_drewN | apply below_drew1 | refine below_set ?_ ED.out | refine below_set ?_ IE.out) | exact HB.out)) : p := h
theorem q7_1 {p : Prop} (h : p := by (with_reducible repeat (first | refine blk_drewN ?_ _ | refine blk_drew ?_ | refine blk_alloc ?_ _)); exact hA.out) : p := h
theorem q7_2 {p : Prop} (h : p := by (with_reducible repeat (first | apply Kd.R_alloc | apply Kd.R_drewN | apply Kd.R_drew)); exact cA.out) : p := h
theorem q7_3 {p : Prop} (h : p := by (with_reducible repeat (first | apply Kd.Q_alloc | apply Kd.Q_drewN | apply Kd.Q_drew)); exact vA.out) : p := h
theorem q7_4 {p : Prop} (h : p := by repeat (first | (with_reducible first | exact HB.out | apply below_alloc | apply pw_below_drewN | apply below_drew1 | refine below_set ?_ ED.out) | exact HB.out)) : p := h
theorem q7_5 {p : Prop} (h : p := by (with_reducible repeat (first | refine blk_drewN ?_ _ | refine blk_drew ?_ | refine blk_alloc ?_ _)); exact aA.out) : p := h
theorem q7_6 {p : Prop} (h : p := by (with_reducible repeat (first | apply Kd.R_alloc | apply Kd.R_drewN | apply Kd.R_drew)); exact tA.out) : p := h
theorem q7_7 {p : Prop} (h : p := by (with_reducible repeat (first | apply Kd.R_alloc | apply Kd.R_drewN | apply Kd.R_drew)); exact yA.out) : p := h
theorem q7_8 {p : Prop} (h : p := by (with_reducible repeat (first | refine blk_drewN ?_ _ | refine blk_drew ?_ | refine blk_alloc ?_ _)); refine blk_far ?_ uA.out _; (with_reducible repeat (first | refine blk_drewN ?_ _ | refine blk_drew ?_ | refine blk_alloc ?_ _)); refine blk_far ?_ uA.out _; (with_reducible repeat (first | refine blk_drewN ?_ _ | refine blk_drew ?_ | refine blk_alloc ?_ _)); refine blk_far ?_ uA.out _; (with_reducible repeat (first | refine blk_drewN ?_ _ | refine blk_drew ?_ | refine blk_alloc ?_ _)); refine blk_far ?_ uA.out _; (with_reducible repeat (first | refine blk_drewN ?_ _ | refine blk_drew ?_ | refine blk_alloc ?_ _)); refine blk_far ?_ uA.out _; (with_reducible repeat (first | refine blk_drewN ?_ _ | refine blk_drew ?_ | refine blk_alloc ?_ _)); refine blk_far ?_ uA.out _; (with_reducible repeat (first | refine blk_drewN ?_ _ | refine blk_drew ?_ | refine blk_alloc ?_ _)); refine blk_far ?_ uA.out _; (with_reducible repeat (first | refine blk_drewN ?_ _ | refine blk_drew ?_ | refine blk_alloc ?_ _)); refine blk_far ?_ uA.out _; (with_reducible repeat (first | refine blk_drewN ?_ _ | refine blk_drew ?_ | refine blk_alloc ?_ _)); refine blk_far ?_ uA.out _; (with_reducible repeat (first | refine blk_drewN ?_ _ | refine blk_drew ?_ | refine blk_alloc ?_ _)); refine blk_far ?_ uA.out _; (with_reducible repeat (first | refine blk_drewN ?_ _ | refine blk_drew ?_ | refine blk_alloc ?_ _)); exact hA.out) : p := h
theorem q7_9 {p : Prop} (h : p := by (with_reducible repeat (first | refine blk_drewN ?_ _ | refine blk_drew ?_ | refine blk_alloc ?_ _)); refine blk_put (cs := #[.int .i64 ZA, .int .i64 bB, .int .i64 cB, .int .i64 dB, .int .i64 eB, .int .i64 fB, .int .i64 gB, .int .i64 hB, .int .i64 iB, .bool false]) ?_ 9 _ rfl; (with_reducible repeat (first | refine blk_drewN ?_ _ | refine blk_drew ?_ | refine blk_alloc ?_ _)); refine blk_put (cs := #[.int .i64 ZA, .int .i64 bB, .int .i64 cB, .int .i64 dB, .int .i64 eB, .int .i64 fB, .int .i64 gB, .int .i64 hB, .int .i64 0, .bool false]) ?_ 8 _ rfl; (with_reducible repeat (first | refine blk_drewN ?_ _ | refine blk_drew ?_ | refine blk_alloc ?_ _)); refine blk_put (cs := #[.int .i64 ZA, .int .i64 bB, .int .i64 cB, .int .i64 dB, .int .i64 eB, .int .i64 fB, .int .i64 gB, .int .i64 0, .int .i64 0, .bool false]) ?_ 7 _ rfl; (with_reducible repeat (first | refine blk_drewN ?_ _ | refine blk_drew ?_ | refine blk_alloc ?_ _)); refine blk_put (cs := #[.int .i64 ZA, .int .i64 bB, .int .i64 cB, .int .i64 dB, .int .i64 eB, .int .i64 fB, .int .i64 0, .int .i64 0, .int .i64 0, .bool false]) ?_ 6 _ rfl; (with_reducible repeat (first | refine blk_drewN ?_ _ | refine blk_drew ?_ | refine blk_alloc ?_ _)); refine blk_put (cs := #[.int .i64 ZA, .int .i64 bB, .int .i64 cB, .int .i64 dB, .int .i64 eB, .int .i64 0, .int .i64 0, .int .i64 0, .int .i64 0, .bool false]) ?_ 5 _ rfl; (with_reducible repeat (first | refine blk_drewN ?_ _ | refine blk_drew ?_ | refine blk_alloc ?_ _)); refine blk_put (cs := #[.int .i64 ZA, .int .i64 bB, .int .i64 cB, .int .i64 dB, .int .i64 0, .int .i64 0, .int .i64 0, .int .i64 0, .int .i64 0, .bool false]) ?_ 4 _ rfl; (with_reducible repeat (first | refine blk_drewN ?_ _ | refine blk_drew ?_ | refine blk_alloc ?_ _)); refine blk_put (cs := #[.int .i64 ZA, .int .i64 bB, .int .i64 cB, .int .i64 0, .int .i64 0, .int .i64 0, .int .i64 0, .int .i64 0, .int .i64 0, .bool false]) ?_ 3 _ rfl; (with_reducible repeat (first | refine blk_drewN ?_ _ | refine blk_drew ?_ | refine blk_alloc ?_ _)); refine blk_put (cs := #[.int .i64 ZA, .int .i64 bB, .int .i64 0, .int .i64 0, .int .i64 0, .int .i64 0, .int .i64 0, .int .i64 0, .int .i64 0, .bool false]) ?_ 2 _ rfl; (with_reducible repeat (first | refine blk_drewN ?_ _ | refine blk_drew ?_ | refine blk_alloc ?_ _)); refine blk_put (cs := #[.int .i64 ZA, .int .i64 0, .int .i64 0, .int .i64 0, .int .i64 0, .int .i64 0, .int .i64 0, .int .i64 0, .int .i64 0, .bool false]) ?_ 1 _ rfl; (with_reducible repeat (first | refine blk_drewN ?_ _ | refine blk_drew ?_ | refine blk_alloc ?_ _)); refine blk_put (cs := #[.int .i64 0, .int .i64 0, .int .i64 0, .int .i64 0, .int .i64 0, .int .i64 0, .int .i64 0, .int .i64 0, .int .i64 0, .bool false]) ?_ 0 _ rfl; (with_reducible repeat (first | refine blk_drewN ?_ _ | refine blk_drew ?_ | refine blk_alloc ?_ _)); exact aA.out) : p := h
theorem q7_10 {p : Prop} (h : p := by repeat (first | (with_reducible first | exact HB.out | apply below_alloc | apply pw_below_drewN | apply below_drew1) | exact HB.out)) : p := h
theorem q7_11 {p : Prop} (h : p := by (with_reducible repeat (first | apply Kd.R_alloc | apply Kd.R_drewN | apply Kd.R_drew)); exact (Kd.R_mono (Kd.R_far (p := ⟨sA, 0, none⟩) (Kd.R_types TA.out hA.out (by decide)) (fun _ hk => hk.2) (.slice aD UA.length xC)) (fun _ h_ => h_.1))) : p := h
theorem q7_12 {p : Prop} (h : p := by repeat (first | (with_reducible first | exact HB.out | apply below_alloc | apply pw_below_drewN | apply below_drew1 | refine below_set ?_ ED.out | refine below_set ?_ IE.out | refine below_set ?_ SE.out) | exact HB.out)) : p := h
theorem q7_13 {p : Prop} (h : p := by rw [hg]; exact Nat.ne_of_lt (blk_lt (g := bA) (o := .cells #[.int .i64 iA, .int .i64 fA, .int .i64 oA, .int .i64 nA, .int .i64 mA, .int .i64 lA, .int .i64 kA, .int .i64 eA, .int .i64 gA, .bool pA] 23 (0, 0)) q7_5)) : p := h
theorem q7_14 {p : Prop} (h : p := by rw [hg]; exact Nat.ne_of_gt (blk_lt (g := bA) (o := .cells #[.int .i64 iA, .int .i64 fA, .int .i64 oA, .int .i64 nA, .int .i64 mA, .int .i64 lA, .int .i64 kA, .int .i64 eA, .int .i64 gA, .bool pA] 23 (0, 0)) q7_5)) : p := h
theorem q7_15 {p : Prop} (h : p := by (with_reducible repeat (first | apply Kd.R_alloc | apply Kd.R_drewN | apply Kd.R_drew)); exact Kd.R_mono (Kd.R_far (p := ⟨bA, 9, none⟩) (Kd.R_far (p := ⟨bA, 8, none⟩) (Kd.R_far (p := ⟨bA, 7, none⟩) (Kd.R_far (p := ⟨bA, 6, none⟩) (Kd.R_far (p := ⟨bA, 5, none⟩) (Kd.R_far (p := ⟨bA, 4, none⟩) (Kd.R_far (p := ⟨bA, 3, none⟩) (Kd.R_far (p := ⟨bA, 2, none⟩) (Kd.R_far (p := ⟨bA, 1, none⟩) (Kd.R_far (p := ⟨bA, 0, none⟩) (Kd.R_types cA.out aA.out (by decide)) (fun _ hk => hk.2) (.int .i64 ZA)) (fun _ hk => hk.2) (.int .i64 bB)) (fun _ hk => hk.2) (.int .i64 cB)) (fun _ hk => hk.2) (.int .i64 dB)) (fun _ hk => hk.2) (.int .i64 eB)) (fun _ hk => hk.2) (.int .i64 fB)) (fun _ hk => hk.2) (.int .i64 gB)) (fun _ hk => hk.2) (.int .i64 hB)) (fun _ hk => hk.2) (.int .i64 iB)) (fun _ hk => hk.2) (.bool jB)) (fun _ hk => ⟨hk.1.1, ⟨hk.1.2.1, hk.1.2.2⟩⟩)) : p := h
theorem q7_16 {p : Prop} (h : p := by (with_reducible repeat (first | apply Kd.R_alloc | apply Kd.R_drewN | apply Kd.R_drew)); exact Kd.R_mono (Kd.R_far (p := ⟨bA, 9, none⟩) (Kd.R_far (p := ⟨bA, 8, none⟩) (Kd.R_far (p := ⟨bA, 7, none⟩) (Kd.R_far (p := ⟨bA, 6, none⟩) (Kd.R_far (p := ⟨bA, 5, none⟩) (Kd.R_far (p := ⟨bA, 4, none⟩) (Kd.R_far (p := ⟨bA, 3, none⟩) (Kd.R_far (p := ⟨bA, 2, none⟩) (Kd.R_far (p := ⟨bA, 1, none⟩) (Kd.R_far (p := ⟨bA, 0, none⟩) (Kd.R_types tA.out aA.out (by decide)) (fun _ hk => hk.2) (.int .i64 ZA)) (fun _ hk => hk.2) (.int .i64 bB)) (fun _ hk => hk.2) (.int .i64 cB)) (fun _ hk => hk.2) (.int .i64 dB)) (fun _ hk => hk.2) (.int .i64 eB)) (fun _ hk => hk.2) (.int .i64 fB)) (fun _ hk => hk.2) (.int .i64 gB)) (fun _ hk => hk.2) (.int .i64 hB)) (fun _ hk => hk.2) (.int .i64 iB)) (fun _ hk => hk.2) (.bool jB)) (fun _ hk => ⟨hk.1.1, ⟨hk.1.2.1, hk.1.2.2⟩⟩)) : p := h
theorem q7_17 {p : Prop} (h : p := by (with_reducible repeat (first | apply Kd.Q_alloc | apply Kd.Q_drewN | apply Kd.Q_drew)); exact Kd.Q_mono (Kd.Q_far (p := ⟨bA, 9, none⟩) (Kd.Q_far (p := ⟨bA, 8, none⟩) (Kd.Q_far (p := ⟨bA, 7, none⟩) (Kd.Q_far (p := ⟨bA, 6, none⟩) (Kd.Q_far (p := ⟨bA, 5, none⟩) (Kd.Q_far (p := ⟨bA, 4, none⟩) (Kd.Q_far (p := ⟨bA, 3, none⟩) (Kd.Q_far (p := ⟨bA, 2, none⟩) (Kd.Q_far (p := ⟨bA, 1, none⟩) (Kd.Q_far (p := ⟨bA, 0, none⟩) (Kd.Q_types vA.out aA.out (by decide)) (fun _ hk => hk.2) (.int .i64 ZA)) (fun _ hk => hk.2) (.int .i64 bB)) (fun _ hk => hk.2) (.int .i64 cB)) (fun _ hk => hk.2) (.int .i64 dB)) (fun _ hk => hk.2) (.int .i64 eB)) (fun _ hk => hk.2) (.int .i64 fB)) (fun _ hk => hk.2) (.int .i64 gB)) (fun _ hk => hk.2) (.int .i64 hB)) (fun _ hk => hk.2) (.int .i64 iB)) (fun _ hk => hk.2) (.bool jB)) (fun _ hk => ⟨hk.1.1, ⟨hk.1.2.1, hk.1.2.2⟩⟩)) : p := h
theorem q7_18 {p : Prop} (h : p := by (with_reducible repeat (first | apply Kd.R_alloc | apply Kd.R_drewN | apply Kd.R_drew)); exact Kd.R_mono (Kd.R_far (p := ⟨bA, 9, none⟩) (Kd.R_far (p := ⟨bA, 8, none⟩) (Kd.R_far (p := ⟨bA, 7, none⟩) (Kd.R_far (p := ⟨bA, 6, none⟩) (Kd.R_far (p := ⟨bA, 5, none⟩) (Kd.R_far (p := ⟨bA, 4, none⟩) (Kd.R_far (p := ⟨bA, 3, none⟩) (Kd.R_far (p := ⟨bA, 2, none⟩) (Kd.R_far (p := ⟨bA, 1, none⟩) (Kd.R_far (p := ⟨bA, 0, none⟩) (Kd.R_types yA.out aA.out (by decide)) (fun _ hk => hk.2) (.int .i64 ZA)) (fun _ hk => hk.2) (.int .i64 bB)) (fun _ hk => hk.2) (.int .i64 cB)) (fun _ hk => hk.2) (.int .i64 dB)) (fun _ hk => hk.2) (.int .i64 eB)) (fun _ hk => hk.2) (.int .i64 fB)) (fun _ hk => hk.2) (.int .i64 gB)) (fun _ hk => hk.2) (.int .i64 hB)) (fun _ hk => hk.2) (.int .i64 iB)) (fun _ hk => hk.2) (.bool jB)) (fun _ hk => ⟨hk.1.1, ⟨hk.1.2.1, hk.1.2.2⟩⟩)) : p := h
theorem q7_19 {p : Prop} (h : p := by (with_reducible repeat (first | refine blk_drewN ?_ _ | refine blk_drew ?_ | refine blk_alloc ?_ _)); exact kB.out) : p := h
theorem q7_20 {p : Prop} (h : p := by repeat (first | exact (Kd.R_reads' cA.out).2.2 | (with_reducible refine Kd.C_alloc ?_ _) | (with_reducible refine Kd.C_drewN ?_ _) | (with_reducible refine Kd.C_drew ?_))) : p := h
theorem q7_21 {p : Prop} (h : p := by first | (with_reducible assumption) | assumption) : p := h
theorem q7_22 {p : Prop} (h : p := by rw [hg]; exact Nat.ne_of_lt (blk_lt (g := sA) (o := .cells #[.slice hD jA.length iD] 29 (0, 0)) q7_1)) : p := h
theorem q7_23 {p : Prop} (h : p := by rw [hg]; exact Nat.ne_of_gt (blk_lt (g := sA) (o := .cells #[.slice hD jA.length iD] 29 (0, 0)) q7_1)) : p := h
theorem q7_24 {p : Prop} (h : p := by (with_reducible repeat (first | refine blk_drewN ?_ _ | refine blk_drew ?_ | refine blk_alloc ?_ _)); refine blk_put (cs := #[.slice none 0 0]) ?_ 0 _ rfl; (with_reducible repeat (first | refine blk_drewN ?_ _ | refine blk_drew ?_ | refine blk_alloc ?_ _)); exact hA.out) : p := h
theorem q7_25 {p : Prop} (h : p := by (with_reducible repeat (first | apply Kd.R_alloc | apply Kd.R_drewN | apply Kd.R_drew)); exact dD.out) : p := h
theorem q7_26 {p : Prop} (h : p := by (with_reducible repeat (first | apply Kd.R_alloc | apply Kd.R_drewN | apply Kd.R_drew)); exact lB.out) : p := h
theorem q7_27 {p : Prop} (h : p := by (with_reducible repeat (first | apply Kd.R_alloc | apply Kd.R_drewN | apply Kd.R_drew)); exact Kd.R_mono tC.out (fun _ hk => ⟨hk.1.1.1.2, ⟨hk.1.1.2, ⟨hk.1.2, hk.2⟩⟩⟩)) : p := h
theorem q7_28 {p : Prop} (h : p := by first | rfl | (simp; done) | (simp [*]; done)) : p := h
theorem q7_29 {p : Prop} (h : p := by repeat (first | exact (Kd.C_below HR0.out HB.out) | (with_reducible refine Kd.C_alloc ?_ _) | (with_reducible refine Kd.C_drewN ?_ _) | (with_reducible refine Kd.C_drew ?_))) : p := h
theorem q7_30 {p : Prop} (h : p := by repeat (first | exact (Kd.R_reads' mD.out).2.2 | (with_reducible refine Kd.C_alloc ?_ _) | (with_reducible refine Kd.C_drewN ?_ _) | (with_reducible refine Kd.C_drew ?_))) : p := h
theorem q7_31 {p : Prop} (h : p := by repeat (first | exact (Kd.Q_reads' vA.out).2.2 | (with_reducible refine Kd.C_alloc ?_ _) | (with_reducible refine Kd.C_drewN ?_ _) | (with_reducible refine Kd.C_drew ?_))) : p := h
theorem q7_32 {p : Prop} (h : p := by (with_reducible repeat (first | apply Kd.R_alloc | apply Kd.R_drewN | apply Kd.R_drew)); exact Kd.R_mono cA.out (fun _ hk => ⟨⟨hk.1, hk.2.2⟩, hk.2.1⟩)) : p := h
theorem q7_33 {p : Prop} (h : p := by (with_reducible repeat (first | apply Kd.R_alloc | apply Kd.R_drewN | apply Kd.R_drew)); exact Kd.R_mono tA.out (fun _ hk => ⟨⟨hk.1, hk.2.2⟩, hk.2.1⟩)) : p := h
theorem q7_34 {p : Prop} (h : p := by (with_reducible repeat (first | apply Kd.Q_alloc | apply Kd.Q_drewN | apply Kd.Q_drew)); exact Kd.Q_mono vA.out (fun _ hk => ⟨⟨hk.2.1, hk.2.2⟩, hk.1⟩)) : p := h
theorem q7_35 {p : Prop} (h : p := by repeat (first | exact HR0.out | (with_reducible refine Kd.C_alloc ?_ _) | (with_reducible refine Kd.C_drewN ?_ _) | (with_reducible refine Kd.C_drew ?_))) : p := h
theorem q7_36 {p : Prop} (h : p := by have := HJ5.out; have := HK2.out; have := HJ24.out; have := HJ31.out; have := HK5.out; have := HJ41.out; first | omega | exact Nat.le_refl _) : p := h
theorem q7_37 {p : Prop} (h : p := by refine (Kd.R_reads' (e := 3) (base := w.heap.size) (ok := fun k_ => True) (n := UA.length) (c := xC) ?_).2.2; exact q7_11) : p := h
theorem q7_38 {p : Prop} (h : p := by (with_reducible repeat (first | apply Kd.R_alloc | apply Kd.R_drewN | apply Kd.R_drew)); exact TA.out) : p := h
theorem ne_own {x : Option Nat} {A : Option Addr} {n c n' c' : Nat} (h : x ≠ (Value.slice A n c).ownBlock) : x ≠ (Value.slice A n' c').ownBlock := by cases A <;> exact h
/-! ### laws_FnStackOne: function 13 -/
mutual
def laws_FnStackOne.j0 : Nat → List Int → Int → List Int → Bool → List Int → Option (Bool)
 | 0, _, _, _, _, _ => none
 | k + 1, x0, x3, x6, x36, NA => if x36 = true then (some false) else ((spec_MakePicks.f k x0 20).bind fun qA => (laws_FnStackOne.l0 k x3 x6 (([] : List Int)) qA (qA.length : Int) 0 NA))
def laws_FnStackOne.l0 : Nat → Int → List Int → List Int → List Int → Int → Int → List Int → Option (Bool)
 | 0, _, _, _, _, _, _, _ => none
 | k + 1, x3, x6, x7, x39, x40, x41, NA => if x41 < x40 then (if 0 ≤ x41 then (if x41 < (x39.length : Int) then ((impl_StCall.f 2 0).bind fun XA => (if (Int.tmod (rd x39 x41) 2) = 0 then (laws_FnStackOne.j2 k x3 x6 x7 x39 x40 x41 (decide ((x7.length : Int) > 0)) NA XA.1 XA.2.1 XA.2.2.1 XA.2.2.2.1 XA.2.2.2.2.1 XA.2.2.2.2.2.1 XA.2.2.2.2.2.2.1 XA.2.2.2.2.2.2.2.1 XA.2.2.2.2.2.2.2.2.1 XA.2.2.2.2.2.2.2.2.2) else (laws_FnStackOne.j2 k x3 x6 x7 x39 x40 x41 false NA XA.1 XA.2.1 XA.2.2.1 XA.2.2.2.1 XA.2.2.2.2.1 XA.2.2.2.2.2.1 XA.2.2.2.2.2.2.1 XA.2.2.2.2.2.2.2.1 XA.2.2.2.2.2.2.2.2.1 XA.2.2.2.2.2.2.2.2.2))) else (none)) else (none)) else (some true)
def laws_FnStackOne.j2 : Nat → Int → List Int → List Int → List Int → Int → Int → Bool → List Int → Int → Int → Int → Int → Int → Int → Int → Int → Int → Bool → Option (Bool)
 | 0, _, _, _, _, _, _, _, _, _, _, _, _, _, _, _, _, _, _ => none
 | k + 1, x3, x6, x7, x39, x40, x41, x53, NA, pB, qB, yB, zB, AB, BB, CB, mB, rB, nB => if x53 = true then (if 0 ≤ (wrap64 ((x7.length : Int) - 1)) then (if (wrap64 ((x7.length : Int) - 1)) < (x7.length : Int) then ((impl_StCall.f 1 (rd x7 (wrap64 ((x7.length : Int) - 1)))).bind fun PA => (laws_FnStackOne.j3 k x3 x6 x7 x39 x40 x41 NA PA.1 PA.2.1 PA.2.2.1 PA.2.2.2.1 PA.2.2.2.2.1 PA.2.2.2.2.2.1 PA.2.2.2.2.2.2.1 PA.2.2.2.2.2.2.2.1 PA.2.2.2.2.2.2.2.2.1 PA.2.2.2.2.2.2.2.2.2)) else (none)) else (none)) else (laws_FnStackOne.j3 k x3 x6 x7 x39 x40 x41 NA pB qB yB zB AB BB CB mB rB nB)
def laws_FnStackOne.j3 : Nat → Int → List Int → List Int → List Int → Int → Int → List Int → Int → Int → Int → Int → Int → Int → Int → Int → Int → Bool → Option (Bool)
 | 0, _, _, _, _, _, _, _, _, _, _, _, _, _, _, _, _, _ => none
 | k + 1, x3, x6, x7, x39, x40, x41, NA, pB, qB, yB, zB, AB, BB, CB, mB, rB, nB => laws_FnStackOne.l1 k x3 x6 x7 0 x39 x40 x41 NA pB qB yB zB AB BB CB mB rB nB
def laws_FnStackOne.l1 : Nat → Int → List Int → List Int → Int → List Int → Int → Int → List Int → Int → Int → Int → Int → Int → Int → Int → Int → Int → Bool → Option (Bool)
 | 0, _, _, _, _, _, _, _, _, _, _, _, _, _, _, _, _, _, _ => none
 | k + 1, x3, x6, x7, x11, x39, x40, x41, NA, pB, qB, yB, zB, AB, BB, CB, mB, rB, nB => if x11 < 4 then (laws_FnStackOne.j5 k x3 x6 x7 x11 x39 x40 x41 (!nB) NA pB qB yB zB AB BB CB mB rB nB) else (laws_FnStackOne.j5 k x3 x6 x7 x11 x39 x40 x41 false NA pB qB yB zB AB BB CB mB rB nB)
def laws_FnStackOne.j5 : Nat → Int → List Int → List Int → Int → List Int → Int → Int → Bool → List Int → Int → Int → Int → Int → Int → Int → Int → Int → Int → Bool → Option (Bool)
 | 0, _, _, _, _, _, _, _, _, _, _, _, _, _, _, _, _, _, _, _ => none
 | k + 1, x3, x6, x7, x11, x39, x40, x41, x67, NA, pB, qB, yB, zB, AB, BB, CB, mB, rB, nB => if x67 = true then ((impl_StStep.f k x3 NA pB qB yB zB AB BB CB mB rB nB).bind fun SA => (if SA.2.2.2.2.2.2.2.2.2.2.2 = true then (laws_FnStackOne.l1 k x3 x6 x7 (wrap64 (x11 + 1)) x39 x40 x41 SA.1 SA.2.1 SA.2.2.1 SA.2.2.2.1 SA.2.2.2.2.1 SA.2.2.2.2.2.1 SA.2.2.2.2.2.2.1 SA.2.2.2.2.2.2.2.1 SA.2.2.2.2.2.2.2.2.1 SA.2.2.2.2.2.2.2.2.2.1 SA.2.2.2.2.2.2.2.2.2.2.1) else (some false))) else (if nB = true then (if pB = 1 then ((some (([qB] : List Int) : List Int)).bind fun y323 => (if y323.length + x6.length < 17592186044416 then (if 0 ≤ (wrap64 ((x7.length : Int) - 1)) then (if (wrap64 ((x7.length : Int) - 1)) ≤ (x7.length : Int) then (laws_FnStackOne.j6 k x3 (y323 ++ x6) (x7.take ((wrap64 ((x7.length : Int) - 1)) : Int).toNat) x39 x40 x41 NA) else (none)) else (none)) else (none))) else (if (x6.length : Int) = 0 then (if mB = 2 then (laws_FnStackOne.j6 k x3 x6 x7 x39 x40 x41 NA) else (some false)) else (if mB = 1 then (if 0 < (x6.length : Int) then (if rB = (rd x6 0) then (if x7.length < 17592186044416 then (if 1 ≤ (x6.length : Int) then (laws_FnStackOne.j6 k x3 (x6.drop (1 : Int).toNat) (x7 ++ [rd x6 0]) x39 x40 x41 NA) else (none)) else (none)) else (some false)) else (none)) else (some false)))) else (some false))
def laws_FnStackOne.j6 : Nat → Int → List Int → List Int → List Int → Int → Int → List Int → Option (Bool)
 | 0, _, _, _, _, _, _, _ => none
 | k + 1, x3, x6, x7, x39, x40, x41, NA => (impl_StItems.f k x3 NA).bind fun KD => ((laws_sameInts.f k KD x6).bind fun tF => (if tF = true then (laws_FnStackOne.l0 k x3 x6 x7 x39 x40 (wrap64 (x41 + 1)) NA) else (some false)))
end
def laws_FnStackOne.f (k : Nat) (l0 : List Int) : Option (Bool) := if (l0.length : Int) > 1048576 then (some true) else ((spec_MakeNum.f k l0 5).bind fun AA => ((impl_StNew.f k (wrap64 (1 + AA)) true).bind fun DB => ((impl_StItems.f k (wrap64 (1 + AA)) DB.1).bind fun WA => (if DB.2 = true then (laws_FnStackOne.j0 k l0 (wrap64 (1 + AA)) WA ((WA.length : Int) != (wrap64 (1 + AA))) DB.1) else (laws_FnStackOne.j0 k l0 (wrap64 (1 + AA)) WA true DB.1)))))
theorem laws_FnStackOne.mono_l : ∀ k, (∀ y0 y1 y2 y3 y4, LeO (laws_FnStackOne.j0 k y0 y1 y2 y3 y4) (laws_FnStackOne.j0 (k + 1) y0 y1 y2 y3 y4)) ∧ (∀ y0 y1 y2 y3 y4 y5 y6, LeO (laws_FnStackOne.l0 k y0 y1 y2 y3 y4 y5 y6) (laws_FnStackOne.l0 (k + 1) y0 y1 y2 y3 y4 y5 y6)) ∧ (∀ y0 y1 y2 y3 y4 y5 y6 y7 y8 y9 y10 y11 y12 y13 y14 y15 y16 y17, LeO (laws_FnStackOne.j2 k y0 y1 y2 y3 y4 y5 y6 y7 y8 y9 y10 y11 y12 y13 y14 y15 y16 y17) (laws_FnStackOne.j2 (k + 1) y0 y1 y2 y3 y4 y5 y6 y7 y8 y9 y10 y11 y12 y13 y14 y15 y16 y17)) ∧ (∀ y0 y1 y2 y3 y4 y5 y6 y7 y8 y9 y10 y11 y12 y13 y14 y15 y16, LeO (laws_FnStackOne.j3 k y0 y1 y2 y3 y4 y5 y6 y7 y8 y9 y10 y11 y12 y13 y14 y15 y16) (laws_FnStackOne.j3 (k + 1) y0 y1 y2 y3 y4 y5 y6 y7 y8 y9 y10 y11 y12 y13 y14 y15 y16)) ∧ (∀ y0 y1 y2 y3 y4 y5 y6 y7 y8 y9 y10 y11 y12 y13 y14 y15 y16 y17, LeO (laws_FnStackOne.l1 k y0 y1 y2 y3 y4 y5 y6 y7 y8 y9 y10 y11 y12 y13 y14 y15 y16 y17) (laws_FnStackOne.l1 (k + 1) y0 y1 y2 y3 y4 y5 y6 y7 y8 y9 y10 y11 y12 y13 y14 y15 y16 y17)) ∧ (∀ y0 y1 y2 y3 y4 y5 y6 y7 y8 y9 y10 y11 y12 y13 y14 y15 y16 y17 y18, LeO (laws_FnStackOne.j5 k y0 y1 y2 y3 y4 y5 y6 y7 y8 y9 y10 y11 y12 y13 y14 y15 y16 y17 y18) (laws_FnStackOne.j5 (k + 1) y0 y1 y2 y3 y4 y5 y6 y7 y8 y9 y10 y11 y12 y13 y14 y15 y16 y17 y18)) ∧ (∀ y0 y1 y2 y3 y4 y5 y6, LeO (laws_FnStackOne.j6 k y0 y1 y2 y3 y4 y5 y6) (laws_FnStackOne.j6 (k + 1) y0 y1 y2 y3 y4 y5 y6))
 | 0 => ⟨fun _ _ _ _ _ r h => by simp [laws_FnStackOne.j0] at h, fun _ _ _ _ _ _ _ r h => by simp [laws_FnStackOne.l0] at h, fun _ _ _ _ _ _ _ _ _ _ _ _ _ _ _ _ _ _ r h => by simp [laws_FnStackOne.j2] at h, fun _ _ _ _ _ _ _ _ _ _ _ _ _ _ _ _ _ r h => by simp [laws_FnStackOne.j3] at h, fun _ _ _ _ _ _ _ _ _ _ _ _ _ _ _ _ _ _ r h => by simp [laws_FnStackOne.l1] at h, fun _ _ _ _ _ _ _ _ _ _ _ _ _ _ _ _ _ _ _ r h => by simp [laws_FnStackOne.j5] at h, fun _ _ _ _ _ _ _ r h => by simp [laws_FnStackOne.j6] at h⟩
 | k + 1 => by
  obtain ⟨ih0, ih1, ih2, ih3, ih4, ih5, ih6⟩ := laws_FnStackOne.mono_l k
  refine ⟨?_, ?_, ?_, ?_, ?_, ?_, ?_⟩
  ·intro y0 y1 y2 y3 y4
   unfold laws_FnStackOne.j0
   repeat' first
   | (with_reducible exact ih0 _ _ _ _ _)
   | (with_reducible exact ih1 _ _ _ _ _ _ _)
   | (with_reducible exact ih2 _ _ _ _ _ _ _ _ _ _ _ _ _ _ _ _ _ _)
   | (with_reducible exact ih3 _ _ _ _ _ _ _ _ _ _ _ _ _ _ _ _ _)
   | (with_reducible exact ih4 _ _ _ _ _ _ _ _ _ _ _ _ _ _ _ _ _ _)
   | (with_reducible exact ih5 _ _ _ _ _ _ _ _ _ _ _ _ _ _ _ _ _ _ _)
   | (with_reducible exact ih6 _ _ _ _ _ _ _)
   | (with_reducible exact impl_StItems.mono _ _ _)
   | (with_reducible exact impl_StNew.mono _ _ _)
   | (with_reducible exact impl_StStep.mono _ _ _ _ _ _ _ _ _ _ _ _ _)
   | (with_reducible exact laws_sameInts.mono _ _ _)
   | (with_reducible exact spec_MakeNum.mono _ _ _)
   | (with_reducible exact spec_MakePicks.mono _ _ _)
   | (with_reducible exact LeO.refl _)
   | (with_reducible exact LeO.none _)
   | (with_reducible refine LeO.ite ?_ ?_)
   | (with_reducible refine LeO.bind ?_ (fun _ => ?_))
   | exact ih0 _ _ _ _ _
   | exact ih1 _ _ _ _ _ _ _
   | exact ih2 _ _ _ _ _ _ _ _ _ _ _ _ _ _ _ _ _ _
   | exact ih3 _ _ _ _ _ _ _ _ _ _ _ _ _ _ _ _ _
   | exact ih4 _ _ _ _ _ _ _ _ _ _ _ _ _ _ _ _ _ _
   | exact ih5 _ _ _ _ _ _ _ _ _ _ _ _ _ _ _ _ _ _ _
   | exact ih6 _ _ _ _ _ _ _
   | exact impl_StItems.mono _ _ _
   | exact impl_StNew.mono _ _ _
   | exact impl_StStep.mono _ _ _ _ _ _ _ _ _ _ _ _ _
   | exact laws_sameInts.mono _ _ _
   | exact spec_MakeNum.mono _ _ _
   | exact spec_MakePicks.mono _ _ _
   | exact LeO.none _
   | refine LeO.ite ?_ ?_
   | refine LeO.bind ?_ (fun _ => ?_)
  ·intro y0 y1 y2 y3 y4 y5 y6
   unfold laws_FnStackOne.l0
   repeat' first
   | (with_reducible exact ih0 _ _ _ _ _)
   | (with_reducible exact ih1 _ _ _ _ _ _ _)
   | (with_reducible exact ih2 _ _ _ _ _ _ _ _ _ _ _ _ _ _ _ _ _ _)
   | (with_reducible exact ih3 _ _ _ _ _ _ _ _ _ _ _ _ _ _ _ _ _)
   | (with_reducible exact ih4 _ _ _ _ _ _ _ _ _ _ _ _ _ _ _ _ _ _)
   | (with_reducible exact ih5 _ _ _ _ _ _ _ _ _ _ _ _ _ _ _ _ _ _ _)
   | (with_reducible exact ih6 _ _ _ _ _ _ _)
   | (with_reducible exact impl_StItems.mono _ _ _)
   | (with_reducible exact impl_StNew.mono _ _ _)
   | (with_reducible exact impl_StStep.mono _ _ _ _ _ _ _ _ _ _ _ _ _)
   | (with_reducible exact laws_sameInts.mono _ _ _)
   | (with_reducible exact spec_MakeNum.mono _ _ _)
   | (with_reducible exact spec_MakePicks.mono _ _ _)
   | (with_reducible exact LeO.refl _)
   | (with_reducible exact LeO.none _)
   | (with_reducible refine LeO.ite ?_ ?_)
   | (with_reducible refine LeO.bind ?_ (fun _ => ?_))
   | exact ih0 _ _ _ _ _
   | exact ih1 _ _ _ _ _ _ _
   | exact ih2 _ _ _ _ _ _ _ _ _ _ _ _ _ _ _ _ _ _
   | exact ih3 _ _ _ _ _ _ _ _ _ _ _ _ _ _ _ _ _
   | exact ih4 _ _ _ _ _ _ _ _ _ _ _ _ _ _ _ _ _ _
   | exact ih5 _ _ _ _ _ _ _ _ _ _ _ _ _ _ _ _ _ _ _
   | exact ih6 _ _ _ _ _ _ _
   | exact impl_StItems.mono _ _ _
   | exact impl_StNew.mono _ _ _
   | exact impl_StStep.mono _ _ _ _ _ _ _ _ _ _ _ _ _
   | exact laws_sameInts.mono _ _ _
   | exact spec_MakeNum.mono _ _ _
   | exact spec_MakePicks.mono _ _ _
   | exact LeO.none _
   | refine LeO.ite ?_ ?_
   | refine LeO.bind ?_ (fun _ => ?_)
  ·intro y0 y1 y2 y3 y4 y5 y6 y7 y8 y9 y10 y11 y12 y13 y14 y15 y16 y17
   unfold laws_FnStackOne.j2
   repeat' first
   | (with_reducible exact ih0 _ _ _ _ _)
   | (with_reducible exact ih1 _ _ _ _ _ _ _)
   | (with_reducible exact ih2 _ _ _ _ _ _ _ _ _ _ _ _ _ _ _ _ _ _)
   | (with_reducible exact ih3 _ _ _ _ _ _ _ _ _ _ _ _ _ _ _ _ _)
   | (with_reducible exact ih4 _ _ _ _ _ _ _ _ _ _ _ _ _ _ _ _ _ _)
   | (with_reducible exact ih5 _ _ _ _ _ _ _ _ _ _ _ _ _ _ _ _ _ _ _)
   | (with_reducible exact ih6 _ _ _ _ _ _ _)
   | (with_reducible exact impl_StItems.mono _ _ _)
   | (with_reducible exact impl_StNew.mono _ _ _)
   | (with_reducible exact impl_StStep.mono _ _ _ _ _ _ _ _ _ _ _ _ _)
   | (with_reducible exact laws_sameInts.mono _ _ _)
   | (with_reducible exact spec_MakeNum.mono _ _ _)
   | (with_reducible exact spec_MakePicks.mono _ _ _)
   | (with_reducible exact LeO.refl _)
   | (with_reducible exact LeO.none _)
   | (with_reducible refine LeO.ite ?_ ?_)
   | (with_reducible refine LeO.bind ?_ (fun _ => ?_))
   | exact ih0 _ _ _ _ _
   | exact ih1 _ _ _ _ _ _ _
   | exact ih2 _ _ _ _ _ _ _ _ _ _ _ _ _ _ _ _ _ _
   | exact ih3 _ _ _ _ _ _ _ _ _ _ _ _ _ _ _ _ _
   | exact ih4 _ _ _ _ _ _ _ _ _ _ _ _ _ _ _ _ _ _
   | exact ih5 _ _ _ _ _ _ _ _ _ _ _ _ _ _ _ _ _ _ _
   | exact ih6 _ _ _ _ _ _ _
   | exact impl_StItems.mono _ _ _
   | exact impl_StNew.mono _ _ _
   | exact impl_StStep.mono _ _ _ _ _ _ _ _ _ _ _ _ _
   | exact laws_sameInts.mono _ _ _
   | exact spec_MakeNum.mono _ _ _
   | exact spec_MakePicks.mono _ _ _
   | exact LeO.none _
   | refine LeO.ite ?_ ?_
   | refine LeO.bind ?_ (fun _ => ?_)
  ·intro y0 y1 y2 y3 y4 y5 y6 y7 y8 y9 y10 y11 y12 y13 y14 y15 y16
   unfold laws_FnStackOne.j3
   repeat' first
   | (with_reducible exact ih0 _ _ _ _ _)
   | (with_reducible exact ih1 _ _ _ _ _ _ _)
   | (with_reducible exact ih2 _ _ _ _ _ _ _ _ _ _ _ _ _ _ _ _ _ _)
   | (with_reducible exact ih3 _ _ _ _ _ _ _ _ _ _ _ _ _ _ _ _ _)
   | (with_reducible exact ih4 _ _ _ _ _ _ _ _ _ _ _ _ _ _ _ _ _ _)
   | (with_reducible exact ih5 _ _ _ _ _ _ _ _ _ _ _ _ _ _ _ _ _ _ _)
   | (with_reducible exact ih6 _ _ _ _ _ _ _)
   | (with_reducible exact impl_StItems.mono _ _ _)
   | (with_reducible exact impl_StNew.mono _ _ _)
   | (with_reducible exact impl_StStep.mono _ _ _ _ _ _ _ _ _ _ _ _ _)
   | (with_reducible exact laws_sameInts.mono _ _ _)
   | (with_reducible exact spec_MakeNum.mono _ _ _)
   | (with_reducible exact spec_MakePicks.mono _ _ _)
   | (with_reducible exact LeO.refl _)
   | (with_reducible exact LeO.none _)
   | (with_reducible refine LeO.ite ?_ ?_)
   | (with_reducible refine LeO.bind ?_ (fun _ => ?_))
   | exact ih0 _ _ _ _ _
   | exact ih1 _ _ _ _ _ _ _
   | exact ih2 _ _ _ _ _ _ _ _ _ _ _ _ _ _ _ _ _ _
   | exact ih3 _ _ _ _ _ _ _ _ _ _ _ _ _ _ _ _ _
   | exact ih4 _ _ _ _ _ _ _ _ _ _ _ _ _ _ _ _ _ _
   | exact ih5 _ _ _ _ _ _ _ _ _ _ _ _ _ _ _ _ _ _ _
   | exact ih6 _ _ _ _ _ _ _
   | exact impl_StItems.mono _ _ _
   | exact impl_StNew.mono _ _ _
   | exact impl_StStep.mono _ _ _ _ _ _ _ _ _ _ _ _ _
   | exact laws_sameInts.mono _ _ _
   | exact spec_MakeNum.mono _ _ _
   | exact spec_MakePicks.mono _ _ _
   | exact LeO.none _
   | refine LeO.ite ?_ ?_
   | refine LeO.bind ?_ (fun _ => ?_)
  ·intro y0 y1 y2 y3 y4 y5 y6 y7 y8 y9 y10 y11 y12 y13 y14 y15 y16 y17
   unfold laws_FnStackOne.l1
   repeat' first
   | (with_reducible exact ih0 _ _ _ _ _)
   | (with_reducible exact ih1 _ _ _ _ _ _ _)
   | (with_reducible exact ih2 _ _ _ _ _ _ _ _ _ _ _ _ _ _ _ _ _ _)
   | (with_reducible exact ih3 _ _ _ _ _ _ _ _ _ _ _ _ _ _ _ _ _)
   | (with_reducible exact ih4 _ _ _ _ _ _ _ _ _ _ _ _ _ _ _ _ _ _)
   | (with_reducible exact ih5 _ _ _ _ _ _ _ _ _ _ _ _ _ _ _ _ _ _ _)
   | (with_reducible exact ih6 _ _ _ _ _ _ _)
   | (with_reducible exact impl_StItems.mono _ _ _)
   | (with_reducible exact impl_StNew.mono _ _ _)
   | (with_reducible exact impl_StStep.mono _ _ _ _ _ _ _ _ _ _ _ _ _)
   | (with_reducible exact laws_sameInts.mono _ _ _)
   | (with_reducible exact spec_MakeNum.mono _ _ _)
   | (with_reducible exact spec_MakePicks.mono _ _ _)
   | (with_reducible exact LeO.refl _)
   | (with_reducible exact LeO.none _)
   | (with_reducible refine LeO.ite ?_ ?_)
   | (with_reducible refine LeO.bind ?_ (fun _ => ?_))
   | exact ih0 _ _ _ _ _
   | exact ih1 _ _ _ _ _ _ _
   | exact ih2 _ _ _ _ _ _ _ _ _ _ _ _ _ _ _ _ _ _
   | exact ih3 _ _ _ _ _ _ _ _ _ _ _ _ _ _ _ _ _
   | exact ih4 _ _ _ _ _ _ _ _ _ _ _ _ _ _ _ _ _ _
   | exact ih5 _ _ _ _ _ _ _ _ _ _ _ _ _ _ _ _ _ _ _
   | exact ih6 _ _ _ _ _ _ _
   | exact impl_StItems.mono _ _ _
   | exact impl_StNew.mono _ _ _
   | exact impl_StStep.mono _ _ _ _ _ _ _ _ _ _ _ _ _
   | exact laws_sameInts.mono _ _ _
   | exact spec_MakeNum.mono _ _ _
   | exact spec_MakePicks.mono _ _ _
   | exact LeO.none _
   | refine LeO.ite ?_ ?_
   | refine LeO.bind ?_ (fun _ => ?_)
  ·intro y0 y1 y2 y3 y4 y5 y6 y7 y8 y9 y10 y11 y12 y13 y14 y15 y16 y17 y18
   unfold laws_FnStackOne.j5
   repeat' first
   | (with_reducible exact ih0 _ _ _ _ _)
   | (with_reducible exact ih1 _ _ _ _ _ _ _)
   | (with_reducible exact ih2 _ _ _ _ _ _ _ _ _ _ _ _ _ _ _ _ _ _)
   | (with_reducible exact ih3 _ _ _ _ _ _ _ _ _ _ _ _ _ _ _ _ _)
   | (with_reducible exact ih4 _ _ _ _ _ _ _ _ _ _ _ _ _ _ _ _ _ _)
   | (with_reducible exact ih5 _ _ _ _ _ _ _ _ _ _ _ _ _ _ _ _ _ _ _)
   | (with_reducible exact ih6 _ _ _ _ _ _ _)
   | (with_reducible exact impl_StItems.mono _ _ _)
   | (with_reducible exact impl_StNew.mono _ _ _)
   | (with_reducible exact impl_StStep.mono _ _ _ _ _ _ _ _ _ _ _ _ _)
   | (with_reducible exact laws_sameInts.mono _ _ _)
   | (with_reducible exact spec_MakeNum.mono _ _ _)
   | (with_reducible exact spec_MakePicks.mono _ _ _)
   | (with_reducible exact LeO.refl _)
   | (with_reducible exact LeO.none _)
   | (with_reducible refine LeO.ite ?_ ?_)
   | (with_reducible refine LeO.bind ?_ (fun _ => ?_))
   | exact ih0 _ _ _ _ _
   | exact ih1 _ _ _ _ _ _ _
   | exact ih2 _ _ _ _ _ _ _ _ _ _ _ _ _ _ _ _ _ _
   | exact ih3 _ _ _ _ _ _ _ _ _ _ _ _ _ _ _ _ _
   | exact ih4 _ _ _ _ _ _ _ _ _ _ _ _ _ _ _ _ _ _
   | exact ih5 _ _ _ _ _ _ _ _ _ _ _ _ _ _ _ _ _ _ _
   | exact ih6 _ _ _ _ _ _ _
   | exact impl_StItems.mono _ _ _
   | exact impl_StNew.mono _ _ _
   | exact impl_StStep.mono _ _ _ _ _ _ _ _ _ _ _ _ _
   | exact laws_sameInts.mono _ _ _
   | exact spec_MakeNum.mono _ _ _
   | exact spec_MakePicks.mono _ _ _
   | exact LeO.none _
   | refine LeO.ite ?_ ?_
   | refine LeO.bind ?_ (fun _ => ?_)
  ·intro y0 y1 y2 y3 y4 y5 y6
   unfold laws_FnStackOne.j6
   repeat' first
   | (with_reducible exact ih0 _ _ _ _ _)
   | (with_reducible exact ih1 _ _ _ _ _ _ _)
   | (with_reducible exact ih2 _ _ _ _ _ _ _ _ _ _ _ _ _ _ _ _ _ _)
   | (with_reducible exact ih3 _ _ _ _ _ _ _ _ _ _ _ _ _ _ _ _ _)
   | (with_reducible exact ih4 _ _ _ _ _ _ _ _ _ _ _ _ _ _ _ _ _ _)
   | (with_reducible exact ih5 _ _ _ _ _ _ _ _ _ _ _ _ _ _ _ _ _ _ _)
   | (with_reducible exact ih6 _ _ _ _ _ _ _)
   | (with_reducible exact impl_StItems.mono _ _ _)
   | (with_reducible exact impl_StNew.mono _ _ _)
   | (with_reducible exact impl_StStep.mono _ _ _ _ _ _ _ _ _ _ _ _ _)
   | (with_reducible exact laws_sameInts.mono _ _ _)
   | (with_reducible exact spec_MakeNum.mono _ _ _)
   | (with_reducible exact spec_MakePicks.mono _ _ _)
   | (with_reducible exact LeO.refl _)
   | (with_reducible exact LeO.none _)
   | (with_reducible refine LeO.ite ?_ ?_)
   | (with_reducible refine LeO.bind ?_ (fun _ => ?_))
   | exact ih0 _ _ _ _ _
   | exact ih1 _ _ _ _ _ _ _
   | exact ih2 _ _ _ _ _ _ _ _ _ _ _ _ _ _ _ _ _ _
   | exact ih3 _ _ _ _ _ _ _ _ _ _ _ _ _ _ _ _ _
   | exact ih4 _ _ _ _ _ _ _ _ _ _ _ _ _ _ _ _ _ _
   | exact ih5 _ _ _ _ _ _ _ _ _ _ _ _ _ _ _ _ _ _ _
   | exact ih6 _ _ _ _ _ _ _
   | exact impl_StItems.mono _ _ _
   | exact impl_StNew.mono _ _ _
   | exact impl_StStep.mono _ _ _ _ _ _ _ _ _ _ _ _ _
   | exact laws_sameInts.mono _ _ _
   | exact spec_MakeNum.mono _ _ _
   | exact spec_MakePicks.mono _ _ _
   | exact LeO.none _
   | refine LeO.ite ?_ ?_
   | refine LeO.bind ?_ (fun _ => ?_)
theorem laws_FnStackOne.mono : ∀ a0 k, LeO (laws_FnStackOne.f k a0) (laws_FnStackOne.f (k + 1) a0) := by
 intro a0 k
 obtain ⟨ih0, ih1, ih2, ih3, ih4, ih5, ih6⟩ := laws_FnStackOne.mono_l k
 unfold laws_FnStackOne.f
 repeat' first
   | (with_reducible exact ih0 _ _ _ _ _)
   | (with_reducible exact ih1 _ _ _ _ _ _ _)
   | (with_reducible exact ih2 _ _ _ _ _ _ _ _ _ _ _ _ _ _ _ _ _ _)
   | (with_reducible exact ih3 _ _ _ _ _ _ _ _ _ _ _ _ _ _ _ _ _)
   | (with_reducible exact ih4 _ _ _ _ _ _ _ _ _ _ _ _ _ _ _ _ _ _)
   | (with_reducible exact ih5 _ _ _ _ _ _ _ _ _ _ _ _ _ _ _ _ _ _ _)
   | (with_reducible exact ih6 _ _ _ _ _ _ _)
   | (with_reducible exact impl_StItems.mono _ _ _)
   | (with_reducible exact impl_StNew.mono _ _ _)
   | (with_reducible exact impl_StStep.mono _ _ _ _ _ _ _ _ _ _ _ _ _)
   | (with_reducible exact laws_sameInts.mono _ _ _)
   | (with_reducible exact spec_MakeNum.mono _ _ _)
   | (with_reducible exact spec_MakePicks.mono _ _ _)
   | (with_reducible exact LeO.refl _)
   | (with_reducible exact LeO.none _)
   | (with_reducible refine LeO.ite ?_ ?_)
   | (with_reducible refine LeO.bind ?_ (fun _ => ?_))
   | exact ih0 _ _ _ _ _
   | exact ih1 _ _ _ _ _ _ _
   | exact ih2 _ _ _ _ _ _ _ _ _ _ _ _ _ _ _ _ _ _
   | exact ih3 _ _ _ _ _ _ _ _ _ _ _ _ _ _ _ _ _
   | exact ih4 _ _ _ _ _ _ _ _ _ _ _ _ _ _ _ _ _ _
   | exact ih5 _ _ _ _ _ _ _ _ _ _ _ _ _ _ _ _ _ _ _
   | exact ih6 _ _ _ _ _ _ _
   | exact impl_StItems.mono _ _ _
   | exact impl_StNew.mono _ _ _
   | exact impl_StStep.mono _ _ _ _ _ _ _ _ _ _ _ _ _
   | exact laws_sameInts.mono _ _ _
   | exact spec_MakeNum.mono _ _ _
   | exact spec_MakePicks.mono _ _ _
   | exact LeO.none _
   | refine LeO.ite ?_ ?_
   | refine LeO.bind ?_ (fun _ => ?_)
set_option maxHeartbeats 8000000 in
set_option maxRecDepth 100000 in
theorem laws_FnStackOne.calls (k : Nat) (A0 : Option Addr) (c0 : Nat) (l0 : List Int) (r_ : Bool) (w : World) (hr0 : Kd.C (Kd.int .u8) w A0 l0.length l0) (hc0 : l0.length ≤ c0) (h : laws_FnStackOne.f k l0 = some true) :
  Calls Try.prog 13 #[.slice A0 l0.length c0] w fun e w' => e = .returned (.bool true) ∧ Below w.heap.size w w' := by
 have hu29 := Try.underlying29
 have hu23 := Try.underlying23
 have HR0 := Aside0.mk hr0
 have HC0 := Aside0.mk hc0
 clear hr0 hc0
 have HB := Aside0.mk (Below.refl w.heap.size w)
 have H : (if (l0.length : Int) > 1048576 then (some true) else ((spec_MakeNum.f k l0 5).bind fun AA => ((impl_StNew.f k (wrap64 (1 + AA)) true).bind fun DB => ((impl_StItems.f k (wrap64 (1 + AA)) DB.1).bind fun WA => (if DB.2 = true then (laws_FnStackOne.j0 k l0 (wrap64 (1 + AA)) WA ((WA.length : Int) != (wrap64 (1 + AA))) DB.1) else (laws_FnStackOne.j0 k l0 (wrap64 (1 + AA)) WA true DB.1)))))) = some true := h
 clear h
 by_cases c2 : (l0.length : Int) > 1048576
 ·rw [if_pos c2] at H
  have JE : decide (1048576 < (l0.length : Int)) = true := decide_eq_true c2
  have KE : decide (1048576 < l0.length) = true := decide_eq_true (by omega)
  clear c2
  clear H
  (try clear H)
  go_enter Try.func13, Try.ntmps13
  go_wp2
  repeat (go_quiet (fail); try go_wp2)
  go_ret
  exact ⟨by first | rfl | (simp [errW_none, errW_some] <;> rfl) | (simp [*, errW_none, errW_some] <;> rfl), q7_10⟩
 ·rw [if_neg c2] at H
  have JE : decide (1048576 < (l0.length : Int)) = false := decide_eq_false c2
  have KE : decide (1048576 < l0.length) = false := decide_eq_false (by omega)
  clear c2
  replace H := Option.bind_eq_some_iff.mp H
  obtain ⟨AA, A30, H⟩ := H
  replace H : ((impl_StNew.f k (wrap64 (1 + AA)) true).bind fun DB => ((impl_StItems.f k (wrap64 (1 + AA)) DB.1).bind fun WA => (if DB.2 = true then (laws_FnStackOne.j0 k l0 (wrap64 (1 + AA)) WA ((WA.length : Int) != (wrap64 (1 + AA))) DB.1) else (laws_FnStackOne.j0 k l0 (wrap64 (1 + AA)) WA true DB.1)))) = some true := H
  have A3 := Aside0.mk A30
  clear A30
  replace H := Option.bind_eq_some_iff.mp H
  obtain ⟨⟨UA, uF⟩, A40, H⟩ := H
  replace H : ((impl_StItems.f k (wrap64 (1 + AA)) UA).bind fun WA => (if uF = true then (laws_FnStackOne.j0 k l0 (wrap64 (1 + AA)) WA ((WA.length : Int) != (wrap64 (1 + AA))) UA) else (laws_FnStackOne.j0 k l0 (wrap64 (1 + AA)) WA true UA))) = some true := H
  have A4 := Aside0.mk A40
  clear A40
  replace H := Option.bind_eq_some_iff.mp H
  obtain ⟨WA, A50, H⟩ := H
  replace H : (if uF = true then (laws_FnStackOne.j0 k l0 (wrap64 (1 + AA)) WA ((WA.length : Int) != (wrap64 (1 + AA))) UA) else (laws_FnStackOne.j0 k l0 (wrap64 (1 + AA)) WA true UA)) = some true := H
  have A5 := Aside0.mk A50
  clear A50
  have HC6 := Aside0.mk H
  clear H
  go_enter Try.func13, Try.ntmps13
  go_upto_region 6 with (first | (go_at_call 46; (with_reducible refine (spec_MakeNum.calls k _ _ l0 5 AA _ ?side1 ?side2 A3.out).mono ?_); (case side1 => exact q7_35); (case side2 => exact HC0.out); rintro e w7 ⟨rfl, hb⟩; have CA := Aside0.mk (below_step q7_10 hb); clear HB; have HB := CA; clear CA; (try clear hb); (try clear hb2); (try clear hk); (try clear hi)) | (go_at_call 19; (with_reducible refine (impl_StNew.calls k (wrap64 (1 + AA)) true UA uF _ A4.out).mono ?_); rintro e w8 ⟨SH, rfl, ho0, hb⟩; have CA := Aside0.mk (Kd.R_lower ho0 (below_size q7_10)); have DA := Aside0.mk (below_step q7_10 hb); clear HB; have TA := CA; have HB := DA; clear CA DA; (try clear hb); (try clear hb2); (try clear hk); (try clear hi); (try clear ho0)) | ((with_reducible refine gate_dst (N := 4) rfl ?_); (try (refine gate_guard (by rfl) ?_; dsimp only)); refine box_event ?hg (N := 4) ?hd (cs := #[.slice none 0 0]) (t := 29) ?hr ?_; (case hd => rfl); (case hg => rfl); (case hr => first | (go_simp; done) | (go_simp; rfl)); intro sA hg w9 hbox hb; have CA := Aside0.mk (Kd.R_below q7_38 hb); have DA := Aside0.mk (below_step q7_10 hb); have FA := Aside0.mk (hbox); have GA := Aside0.mk ((by rw [hg]; exact (below_size q7_10) : w.heap.size ≤ sA)); have JA := Aside0.mk ((by rw [hg]; exact (below_size q7_10) : w.heap.size ≤ sA)); clear TA; clear HB; have TA := CA; have HB := DA; have hA := FA; have nH := GA; have ED := JA; clear CA DA FA GA JA; clear hb hbox hg; obtain ⟨aD, xC, wF⟩ := Kd.R_slice TA.out; subst wF; have sB : w9.cell? ⟨sA, 0, none⟩ = some (.slice none 0 0) := (blk_cell hA.out 0).trans rfl; have tB := blk_frozen hA.out 0) | (go_at_call 32; (with_reducible refine (impl_StItems.calls k (wrap64 (1 + AA)) _ _ UA WA _ ?side1 ?side2 A5.out).mono ?_); (case side1 => exact q7_37); (case side2 => exact (Kd.R_reads' TA.out).2.1); rintro e xI ⟨IF, rfl, ho0, hb⟩; have CA := Aside0.mk (Kd.R_elder' q7_11 (Kd.R_base ho0) hb); have DA := Aside0.mk (Kd.R_lower (Kd.R_new' ho0 (Kd.R_lt q7_11)) (below_size q7_4)); have FA := Aside0.mk (blk_below (g := sA) (o := .cells #[.slice aD UA.length xC] 29 (0, 0)) q7_24 hb); have GA := Aside0.mk (below_step q7_4 hb); clear TA; clear hA; clear HB; have TA := CA; have TE := DA; have hA := FA; have HB := GA; clear CA DA FA GA; (try clear hb); (try clear hb2); (try clear hk); (try clear hi); (try clear ho0)))
  repeat (go_quiet (first | (go_at_call 46; (with_reducible refine (spec_MakeNum.calls k _ _ l0 5 AA _ ?side1 ?side2 A3.out).mono ?_); (case side1 => exact q7_35); (case side2 => exact HC0.out); rintro e w7 ⟨rfl, hb⟩; have CA := Aside0.mk (below_step q7_10 hb); clear HB; have HB := CA; clear CA; (try clear hb); (try clear hb2); (try clear hk); (try clear hi)) | (go_at_call 19; (with_reducible refine (impl_StNew.calls k (wrap64 (1 + AA)) true UA uF _ A4.out).mono ?_); rintro e w8 ⟨SH, rfl, ho0, hb⟩; have CA := Aside0.mk (Kd.R_lower ho0 (below_size q7_10)); have DA := Aside0.mk (below_step q7_10 hb); clear HB; have TA := CA; have HB := DA; clear CA DA; (try clear hb); (try clear hb2); (try clear hk); (try clear hi); (try clear ho0)) | ((with_reducible refine gate_dst (N := 4) rfl ?_); (try (refine gate_guard (by rfl) ?_; dsimp only)); refine box_event ?hg (N := 4) ?hd (cs := #[.slice none 0 0]) (t := 29) ?hr ?_; (case hd => rfl); (case hg => rfl); (case hr => first | (go_simp; done) | (go_simp; rfl)); intro sA hg w9 hbox hb; have CA := Aside0.mk (Kd.R_below q7_38 hb); have DA := Aside0.mk (below_step q7_10 hb); have FA := Aside0.mk (hbox); have GA := Aside0.mk ((by rw [hg]; exact (below_size q7_10) : w.heap.size ≤ sA)); have JA := Aside0.mk ((by rw [hg]; exact (below_size q7_10) : w.heap.size ≤ sA)); clear TA; clear HB; have TA := CA; have HB := DA; have hA := FA; have nH := GA; have ED := JA; clear CA DA FA GA JA; clear hb hbox hg; obtain ⟨aD, xC, wF⟩ := Kd.R_slice TA.out; subst wF; have sB : w9.cell? ⟨sA, 0, none⟩ = some (.slice none 0 0) := (blk_cell hA.out 0).trans rfl; have tB := blk_frozen hA.out 0) | (go_at_call 32; (with_reducible refine (impl_StItems.calls k (wrap64 (1 + AA)) _ _ UA WA _ ?side1 ?side2 A5.out).mono ?_); (case side1 => exact q7_37); (case side2 => exact (Kd.R_reads' TA.out).2.1); rintro e xI ⟨IF, rfl, ho0, hb⟩; have CA := Aside0.mk (Kd.R_elder' q7_11 (Kd.R_base ho0) hb); have DA := Aside0.mk (Kd.R_lower (Kd.R_new' ho0 (Kd.R_lt q7_11)) (below_size q7_4)); have FA := Aside0.mk (blk_below (g := sA) (o := .cells #[.slice aD UA.length xC] 29 (0, 0)) q7_24 hb); have GA := Aside0.mk (below_step q7_4 hb); clear TA; clear hA; clear HB; have TA := CA; have TE := DA; have hA := FA; have HB := GA; clear CA DA FA GA; (try clear hb); (try clear hb2); (try clear hk); (try clear hi); (try clear ho0))); go_upto_region 6 with (first | (go_at_call 46; (with_reducible refine (spec_MakeNum.calls k _ _ l0 5 AA _ ?side1 ?side2 A3.out).mono ?_); (case side1 => exact q7_35); (case side2 => exact HC0.out); rintro e w7 ⟨rfl, hb⟩; have CA := Aside0.mk (below_step q7_10 hb); clear HB; have HB := CA; clear CA; (try clear hb); (try clear hb2); (try clear hk); (try clear hi)) | (go_at_call 19; (with_reducible refine (impl_StNew.calls k (wrap64 (1 + AA)) true UA uF _ A4.out).mono ?_); rintro e w8 ⟨SH, rfl, ho0, hb⟩; have CA := Aside0.mk (Kd.R_lower ho0 (below_size q7_10)); have DA := Aside0.mk (below_step q7_10 hb); clear HB; have TA := CA; have HB := DA; clear CA DA; (try clear hb); (try clear hb2); (try clear hk); (try clear hi); (try clear ho0)) | ((with_reducible refine gate_dst (N := 4) rfl ?_); (try (refine gate_guard (by rfl) ?_; dsimp only)); refine box_event ?hg (N := 4) ?hd (cs := #[.slice none 0 0]) (t := 29) ?hr ?_; (case hd => rfl); (case hg => rfl); (case hr => first | (go_simp; done) | (go_simp; rfl)); intro sA hg w9 hbox hb; have CA := Aside0.mk (Kd.R_below q7_38 hb); have DA := Aside0.mk (below_step q7_10 hb); have FA := Aside0.mk (hbox); have GA := Aside0.mk ((by rw [hg]; exact (below_size q7_10) : w.heap.size ≤ sA)); have JA := Aside0.mk ((by rw [hg]; exact (below_size q7_10) : w.heap.size ≤ sA)); clear TA; clear HB; have TA := CA; have HB := DA; have hA := FA; have nH := GA; have ED := JA; clear CA DA FA GA JA; clear hb hbox hg; obtain ⟨aD, xC, wF⟩ := Kd.R_slice TA.out; subst wF; have sB : w9.cell? ⟨sA, 0, none⟩ = some (.slice none 0 0) := (blk_cell hA.out 0).trans rfl; have tB := blk_frozen hA.out 0) | (go_at_call 32; (with_reducible refine (impl_StItems.calls k (wrap64 (1 + AA)) _ _ UA WA _ ?side1 ?side2 A5.out).mono ?_); (case side1 => exact q7_37); (case side2 => exact (Kd.R_reads' TA.out).2.1); rintro e xI ⟨IF, rfl, ho0, hb⟩; have CA := Aside0.mk (Kd.R_elder' q7_11 (Kd.R_base ho0) hb); have DA := Aside0.mk (Kd.R_lower (Kd.R_new' ho0 (Kd.R_lt q7_11)) (below_size q7_4)); have FA := Aside0.mk (blk_below (g := sA) (o := .cells #[.slice aD UA.length xC] 29 (0, 0)) q7_24 hb); have GA := Aside0.mk (below_step q7_4 hb); clear TA; clear hA; clear HB; have TA := CA; have TE := DA; have hA := FA; have HB := GA; clear CA DA FA GA; (try clear hb); (try clear hb2); (try clear hk); (try clear hi); (try clear ho0))))
  (try simp only [Act.put, List.setIfInBounds_toArray, List.set_cons_zero, List.set_cons_succ])
  go_cut [36] (fun v36 wc => ∃ (kq : Nat) (UE : Bool), v36 = .bool UE ∧ Aside0 (laws_FnStackOne.j0 kq l0 (wrap64 (1 + AA)) WA UE UA = some true) ∧ Aside0 (kq ≤ k) ∧ Aside0 (Kd.Q (Kd.int .i64) 3 wc w.heap.size (fun k_ => some k_ ≠ ((.slice aD UA.length xC) : Value).ownBlock) IF WA) ∧ Aside0 (Kd.R (Kd.int .i64) 3 wc w.heap.size (fun k_ => some k_ ≠ (IF : Value).ownBlock) (.slice aD UA.length xC) UA) ∧ Aside0 (wc.heap[sA]? = some (.cells #[(.slice aD UA.length xC)] 29 (0, 0))) ∧ Aside0 (Below w.heap.size w wc))
  case first =>
   have H := HC6.out
   clear HC6
   by_cases c13 : uF = true
   ·subst c13
    have H1 : (laws_FnStackOne.j0 k l0 (wrap64 (1 + AA)) WA ((WA.length : Int) != (wrap64 (1 + AA))) UA) = some true := by rw [if_pos rfl] at H; exact H
    clear H
    have H := H1
    clear H1
    have H' := Aside0.mk H
    clear H
    obtain ⟨RI, SI, nI⟩ := Kd.R_slice TE.out
    subst nI
    go_wp2
    repeat (go_quiet (fail); try go_wp2)
    go_meet
    case rel => exact ⟨_, (((WA.length : Int) != (wrap64 (1 + AA)))), q7_28, H', ⟨by first | omega | exact Nat.le_refl _⟩, ⟨Kd.Q_of_R (by (with_reducible repeat (first | apply Kd.R_alloc | apply Kd.R_drewN | apply Kd.R_drew)); exact Kd.R_mono TE.out (fun _ hk => hk.2))⟩, ⟨by (with_reducible repeat (first | apply Kd.R_alloc | apply Kd.R_drewN | apply Kd.R_drew)); exact Kd.R_mono TA.out (fun _ hk => hk.2)⟩, ⟨q7_1⟩, ⟨q7_4⟩⟩
   ·replace c13 := Bool.eq_false_iff.mpr c13
    subst c13
    have H1 : (laws_FnStackOne.j0 k l0 (wrap64 (1 + AA)) WA true UA) = some true := by rw [if_neg (show ¬ (false = true) by decide)] at H; exact H
    clear H
    have H := H1
    clear H1
    exact absurd H (by rcases k with _ | _ <;> simp [laws_FnStackOne.j0])
  case rest =>
   clear HC6
   (try clear c1); (try clear c2); (try clear JE); (try clear KE); (try clear p2); (try clear p6); (try clear c13); (try clear sB); (try clear tB)
   obtain ⟨kq, UE, rfl, HA, HJ5, vA, cA, hA, HB⟩ := hcut
   cases kq with
   | zero => exact absurd HA.out (by simp [laws_FnStackOne.j0])
   | succ kj5 =>
    have H := HA.out
    clear HA
    simp only [laws_FnStackOne.j0] at H
    by_cases c15 : UE = true
    ·subst c15
     have H1 : (some false) = some true := by rw [if_pos rfl] at H; exact H
     clear H
     have H := H1
     clear H1
     exact absurd H (by simp)
    ·replace c15 := Bool.eq_false_iff.mpr c15
     subst c15
     have H1 : ((spec_MakePicks.f kj5 l0 20).bind fun qA => (laws_FnStackOne.l0 kj5 (wrap64 (1 + AA)) WA (([] : List Int)) qA (qA.length : Int) 0 UA)) = some true := by rw [if_neg (show ¬ (false = true) by decide)] at H; exact H
     clear H
     have H := H1
     clear H1
     obtain ⟨y278, hy278⟩ : ∃ y_ : List Int, y_ = (([] : List Int)) := ⟨_, rfl⟩
     replace H : ((spec_MakePicks.f kj5 l0 20).bind fun qA => (laws_FnStackOne.l0 kj5 (wrap64 (1 + AA)) WA y278 qA (qA.length : Int) 0 UA)) = some true := by first | (rw [hy278]; with_reducible exact H) | (have H2_ := (Option.bind_some _ _).symm.trans H; rw [hy278]; with_reducible exact H2_) | (have H2_ := (Option.bind_some _ _).symm.trans H; with_reducible exact H2_) | with_reducible exact H | (rw [hy278]; exact H) | exact H
     have Ny278 := Aside0.mk hy278
     clear hy278
     replace H := Option.bind_eq_some_iff.mp H
     obtain ⟨qA, A160, H⟩ := H
     replace H : (laws_FnStackOne.l0 kj5 (wrap64 (1 + AA)) WA y278 qA (qA.length : Int) 0 UA) = some true := H
     have A16 := Aside0.mk A160
     clear A160
     have H' := Aside0.mk H
     clear H
     go_wp2_with (first | ((with_reducible refine gate_dst (N := 37) rfl ?_); (try (refine gate_guard (by rfl) ?_; dsimp only)); refine Kd.R_lit (Kd.int .i64) _ 3 ?hg (N := 37) ?hd (xs := ([] : List Int)) (inner := []) (ok := fun _ => True) (okp := fun _ => True) ?hr ?hp (fun _ hk => hk) trivial (Below.refl _ _) (Nat.le_refl _) (by simp) ?_; (case hd => rfl); (case hg => rfl); (case hr => first | (go_simp; done) | (go_simp; rfl)); (case hp => exact (Reps.none _ _)); intro TH yI ho18 hb hg_ hnew_; clear hg_ hnew_; (first | rw [← Ny278.out] at ho18 | (simp only [Int.reduceToNat] at ho18; rw [← Ny278.out] at ho18)); have CA := Aside0.mk (Kd.Q_elder' q7_3 (Kd.R_base ho18) hb); have DA := Aside0.mk (Kd.R_elder' q7_2 (Kd.R_base ho18) hb); have FA := Aside0.mk (Kd.R_lower (Kd.R_new' (Kd.R_new' ho18 (Kd.Q_lt q7_3)) (Kd.R_lt q7_2)) (below_size q7_4)); have GA := Aside0.mk (blk_below (g := sA) (o := .cells #[.slice aD UA.length xC] 29 (0, 0)) q7_1 hb); have JA := Aside0.mk (below_step q7_4 hb); clear vA; clear cA; clear hA; clear HB; have vA := CA; have cA := DA; have dD := FA; have hA := GA; have HB := JA; clear CA DA FA GA JA; clear hb ho18) | (go_at_call 47; (with_reducible refine (spec_MakePicks.calls kj5 _ _ l0 20 qA _ ?side1 ?side2 A16.out).mono ?_); (case side1 => exact q7_29); (case side2 => exact HC0.out); rintro e zI ⟨UH, rfl, ho0, hb⟩; have CA := Aside0.mk (Kd.Q_elder' q7_3 (Kd.R_base ho0) hb); have DA := Aside0.mk (Kd.R_elder' q7_2 (Kd.R_base ho0) hb); have FA := Aside0.mk (Kd.R_elder' q7_25 (Kd.R_base ho0) hb); have GA := Aside0.mk (Kd.R_lower (Kd.R_new' (Kd.R_new' (Kd.R_new' ho0 (Kd.Q_lt q7_3)) (Kd.R_lt q7_2)) (Kd.R_lt q7_25)) (below_size q7_4)); have JA := Aside0.mk (blk_below (g := sA) (o := .cells #[.slice aD UA.length xC] 29 (0, 0)) q7_1 hb); have QA := Aside0.mk (below_step q7_4 hb); clear vA; clear cA; clear dD; clear hA; clear HB; have vA := CA; have cA := DA; have dD := FA; have FD := GA; have hA := JA; have HB := QA; clear CA DA FA GA JA QA; (try clear hb); (try clear hb2); (try clear hk); (try clear hi); (try clear ho0); obtain ⟨vF, IA, xF⟩ := Kd.R_slice FD.out; subst xF))
     repeat (go_quiet (first | ((with_reducible refine gate_dst (N := 37) rfl ?_); (try (refine gate_guard (by rfl) ?_; dsimp only)); refine Kd.R_lit (Kd.int .i64) _ 3 ?hg (N := 37) ?hd (xs := ([] : List Int)) (inner := []) (ok := fun _ => True) (okp := fun _ => True) ?hr ?hp (fun _ hk => hk) trivial (Below.refl _ _) (Nat.le_refl _) (by simp) ?_; (case hd => rfl); (case hg => rfl); (case hr => first | (go_simp; done) | (go_simp; rfl)); (case hp => exact (Reps.none _ _)); intro TH yI ho18 hb hg_ hnew_; clear hg_ hnew_; (first | rw [← Ny278.out] at ho18 | (simp only [Int.reduceToNat] at ho18; rw [← Ny278.out] at ho18)); have CA := Aside0.mk (Kd.Q_elder' q7_3 (Kd.R_base ho18) hb); have DA := Aside0.mk (Kd.R_elder' q7_2 (Kd.R_base ho18) hb); have FA := Aside0.mk (Kd.R_lower (Kd.R_new' (Kd.R_new' ho18 (Kd.Q_lt q7_3)) (Kd.R_lt q7_2)) (below_size q7_4)); have GA := Aside0.mk (blk_below (g := sA) (o := .cells #[.slice aD UA.length xC] 29 (0, 0)) q7_1 hb); have JA := Aside0.mk (below_step q7_4 hb); clear vA; clear cA; clear hA; clear HB; have vA := CA; have cA := DA; have dD := FA; have hA := GA; have HB := JA; clear CA DA FA GA JA; clear hb ho18) | (go_at_call 47; (with_reducible refine (spec_MakePicks.calls kj5 _ _ l0 20 qA _ ?side1 ?side2 A16.out).mono ?_); (case side1 => exact q7_29); (case side2 => exact HC0.out); rintro e zI ⟨UH, rfl, ho0, hb⟩; have CA := Aside0.mk (Kd.Q_elder' q7_3 (Kd.R_base ho0) hb); have DA := Aside0.mk (Kd.R_elder' q7_2 (Kd.R_base ho0) hb); have FA := Aside0.mk (Kd.R_elder' q7_25 (Kd.R_base ho0) hb); have GA := Aside0.mk (Kd.R_lower (Kd.R_new' (Kd.R_new' (Kd.R_new' ho0 (Kd.Q_lt q7_3)) (Kd.R_lt q7_2)) (Kd.R_lt q7_25)) (below_size q7_4)); have JA := Aside0.mk (blk_below (g := sA) (o := .cells #[.slice aD UA.length xC] 29 (0, 0)) q7_1 hb); have QA := Aside0.mk (below_step q7_4 hb); clear vA; clear cA; clear dD; clear hA; clear HB; have vA := CA; have cA := DA; have dD := FA; have FD := GA; have hA := JA; have HB := QA; clear CA DA FA GA JA QA; (try clear hb); (try clear hb2); (try clear hk); (try clear hi); (try clear ho0); obtain ⟨vF, IA, xF⟩ := Kd.R_slice FD.out; subst xF)); try go_wp2_with (first | ((with_reducible refine gate_dst (N := 37) rfl ?_); (try (refine gate_guard (by rfl) ?_; dsimp only)); refine Kd.R_lit (Kd.int .i64) _ 3 ?hg (N := 37) ?hd (xs := ([] : List Int)) (inner := []) (ok := fun _ => True) (okp := fun _ => True) ?hr ?hp (fun _ hk => hk) trivial (Below.refl _ _) (Nat.le_refl _) (by simp) ?_; (case hd => rfl); (case hg => rfl); (case hr => first | (go_simp; done) | (go_simp; rfl)); (case hp => exact (Reps.none _ _)); intro TH yI ho18 hb hg_ hnew_; clear hg_ hnew_; (first | rw [← Ny278.out] at ho18 | (simp only [Int.reduceToNat] at ho18; rw [← Ny278.out] at ho18)); have CA := Aside0.mk (Kd.Q_elder' q7_3 (Kd.R_base ho18) hb); have DA := Aside0.mk (Kd.R_elder' q7_2 (Kd.R_base ho18) hb); have FA := Aside0.mk (Kd.R_lower (Kd.R_new' (Kd.R_new' ho18 (Kd.Q_lt q7_3)) (Kd.R_lt q7_2)) (below_size q7_4)); have GA := Aside0.mk (blk_below (g := sA) (o := .cells #[.slice aD UA.length xC] 29 (0, 0)) q7_1 hb); have JA := Aside0.mk (below_step q7_4 hb); clear vA; clear cA; clear hA; clear HB; have vA := CA; have cA := DA; have dD := FA; have hA := GA; have HB := JA; clear CA DA FA GA JA; clear hb ho18) | (go_at_call 47; (with_reducible refine (spec_MakePicks.calls kj5 _ _ l0 20 qA _ ?side1 ?side2 A16.out).mono ?_); (case side1 => exact q7_29); (case side2 => exact HC0.out); rintro e zI ⟨UH, rfl, ho0, hb⟩; have CA := Aside0.mk (Kd.Q_elder' q7_3 (Kd.R_base ho0) hb); have DA := Aside0.mk (Kd.R_elder' q7_2 (Kd.R_base ho0) hb); have FA := Aside0.mk (Kd.R_elder' q7_25 (Kd.R_base ho0) hb); have GA := Aside0.mk (Kd.R_lower (Kd.R_new' (Kd.R_new' (Kd.R_new' ho0 (Kd.Q_lt q7_3)) (Kd.R_lt q7_2)) (Kd.R_lt q7_25)) (below_size q7_4)); have JA := Aside0.mk (blk_below (g := sA) (o := .cells #[.slice aD UA.length xC] 29 (0, 0)) q7_1 hb); have QA := Aside0.mk (below_step q7_4 hb); clear vA; clear cA; clear dD; clear hA; clear HB; have vA := CA; have cA := DA; have dD := FA; have FD := GA; have hA := JA; have HB := QA; clear CA DA FA GA JA QA; (try clear hb); (try clear hb2); (try clear hk); (try clear hi); (try clear ho0); obtain ⟨vF, IA, xF⟩ := Kd.R_slice FD.out; subst xF)))
     go_loopg [6, 7, 41] kj5 (fun kq v6 v7 v41 w' => ∃ (wA : List Int) (zA : List Int) (BA : Int) (OA : List Int) (dA : Value), v41 = .int .i64 BA ∧ Aside0 (laws_FnStackOne.l0 kq (wrap64 (1 + AA)) wA zA qA (qA.length : Int) BA OA = some true) ∧ Aside0 (kq ≤ kj5) ∧ Aside0 (Kd.Q (Kd.int .i64) 3 w' w.heap.size (fun k_ => some k_ ≠ (v7 : Value).ownBlock ∧ some k_ ≠ ((.slice vF qA.length IA) : Value).ownBlock ∧ some k_ ≠ (dA : Value).ownBlock) v6 wA) ∧ Aside0 (Kd.R (Kd.int .i64) 3 w' w.heap.size (fun k_ => some k_ ≠ (v6 : Value).ownBlock ∧ some k_ ≠ ((.slice vF qA.length IA) : Value).ownBlock ∧ some k_ ≠ (dA : Value).ownBlock) v7 zA) ∧ Aside0 (Kd.R (Kd.int .i64) 3 w' w.heap.size (fun k_ => some k_ ≠ (v6 : Value).ownBlock ∧ some k_ ≠ (v7 : Value).ownBlock ∧ some k_ ≠ (dA : Value).ownBlock) (.slice vF qA.length IA) qA) ∧ Aside0 (Kd.R (Kd.int .i64) 3 w' w.heap.size (fun k_ => some k_ ≠ (v6 : Value).ownBlock ∧ some k_ ≠ (v7 : Value).ownBlock ∧ some k_ ≠ ((.slice vF qA.length IA) : Value).ownBlock) dA OA) ∧ Aside0 (w'.heap[sA]? = some (.cells #[dA] 29 (0, 0))) ∧ Aside0 (Below w.heap.size w w'))
     case atStart => exact ⟨(WA), (y278), (0), (UA), (.slice aD UA.length xC), q7_28, H', ⟨Nat.le_refl _⟩, ⟨by (with_reducible repeat (first | apply Kd.Q_alloc | apply Kd.Q_drewN | apply Kd.Q_drew)); exact Kd.Q_mono vA.out (fun _ hk => ⟨hk.1.2, ⟨hk.2, hk.1.1⟩⟩)⟩, ⟨by (with_reducible repeat (first | apply Kd.R_alloc | apply Kd.R_drewN | apply Kd.R_drew)); exact Kd.R_mono dD.out (fun _ hk => ⟨hk.1.1.2, ⟨hk.2, hk.1.2⟩⟩)⟩, ⟨by (with_reducible repeat (first | apply Kd.R_alloc | apply Kd.R_drewN | apply Kd.R_drew)); exact Kd.R_mono FD.out (fun _ hk => ⟨hk.1.1.2, ⟨hk.2, hk.1.2⟩⟩)⟩, ⟨by (with_reducible repeat (first | apply Kd.R_alloc | apply Kd.R_drewN | apply Kd.R_drew)); exact Kd.R_mono cA.out (fun _ hk => ⟨hk.1.1, ⟨hk.1.2, hk.2⟩⟩)⟩, ⟨q7_1⟩, ⟨q7_4⟩⟩
     case round =>
      clear H'
      (try clear c1); (try clear c2); (try clear JE); (try clear KE); (try clear p2); (try clear p6); (try clear c13); (try clear c15); (try clear sB); (try clear tB); (try clear p2); (try clear p6)
      obtain ⟨wA, zA, BA, OA, dA, rfl, HA, HK2, vA, yA, tA, cA, hA, HB⟩ := hrel
      cases gk with
      | zero => exact absurd HA.out (by simp [laws_FnStackOne.l0])
      | succ k2 =>
       have H := HA.out
       clear HA
       simp only [laws_FnStackOne.l0] at H
       by_cases c21 : BA < (qA.length : Int)
       ·rw [if_pos c21] at H
        have GD : decide (BA < (qA.length : Int)) = true := decide_eq_true c21
        clear c21
        by_cases c22 : 0 ≤ BA
        ·rw [if_pos c22] at H
         have LE : decide (0 ≤ BA) = true := decide_eq_true c22
         clear c22
         by_cases c23 : BA < (qA.length : Int)
         ·rw [if_pos c23] at H
          have ME : decide (BA < (qA.length : Int)) = true := decide_eq_true c23
          clear c23
          replace H := Option.bind_eq_some_iff.mp H
          obtain ⟨⟨ZA, bB, cB, dB, eB, fB, gB, hB, iB, jB⟩, A240, H⟩ := H
          replace H : (if (Int.tmod (rd qA BA) 2) = 0 then (laws_FnStackOne.j2 k2 (wrap64 (1 + AA)) wA zA qA (qA.length : Int) BA (decide ((zA.length : Int) > 0)) OA ZA bB cB dB eB fB gB hB iB jB) else (laws_FnStackOne.j2 k2 (wrap64 (1 + AA)) wA zA qA (qA.length : Int) BA false OA ZA bB cB dB eB fB gB hB iB jB)) = some true := H
          have A24 := Aside0.mk A240
          clear A240
          have HC25 := Aside0.mk H
          clear H
          have p284 : 0 ≤ (BA : Int) := of_decide_eq_true q7_21
          have q284 : BA < (qA.length : Int) := of_decide_eq_true q7_21
          obtain ⟨ad284, oI, nD⟩ := Kd.at_int (Kd.R_reads' tA.out).2.2 BA p284 q284
          cases oI
          replace p284 := eq_true p284
          replace q284 := eq_true q284
          go_upto_region 13 with (first | (go_at_call 16; (with_reducible refine (impl_StCall.calls 2 0 ZA bB cB dB eB fB gB hB iB jB _ A24.out).mono ?_); rintro e AI ⟨rfl, hb⟩; have CA := Aside0.mk (Kd.Q_below q7_3 hb); have DA := Aside0.mk (Kd.R_below q7_7 hb); have FA := Aside0.mk (Kd.R_below q7_6 hb); have GA := Aside0.mk (Kd.R_below q7_2 hb); have JA := Aside0.mk (blk_below (g := sA) (o := .cells #[dA] 29 (0, 0)) q7_1 hb); have QA := Aside0.mk (below_step q7_4 hb); clear vA; clear yA; clear tA; clear cA; clear hA; clear HB; have vA := CA; have yA := DA; have tA := FA; have cA := GA; have hA := JA; have HB := QA; clear CA DA FA GA JA QA; (try clear hb); (try clear hb2); (try clear hk); (try clear hi)) | ((with_reducible refine gate_dst (N := 10) rfl ?_); (try (refine gate_guard (by rfl) ?_; dsimp only)); refine box_event ?hg (N := 10) ?hd (cs := #[.int .i64 0, .int .i64 0, .int .i64 0, .int .i64 0, .int .i64 0, .int .i64 0, .int .i64 0, .int .i64 0, .int .i64 0, .bool false]) (t := 23) ?hr ?_; (case hd => rfl); (case hg => rfl); (case hr => first | (go_simp; done) | (go_simp; rfl)); intro bA hg eD hbox hb; have CA := Aside0.mk (Kd.Q_below q7_3 hb); have DA := Aside0.mk (Kd.R_below q7_7 hb); have FA := Aside0.mk (Kd.R_below q7_6 hb); have GA := Aside0.mk (Kd.R_below q7_2 hb); have JA := Aside0.mk (blk_below (g := sA) (o := .cells #[dA] 29 (0, 0)) q7_1 hb); have QA := Aside0.mk (below_step q7_4 hb); have RA := Aside0.mk (hbox); have YA := Aside0.mk ((by rw [hg]; exact (below_size q7_4) : w.heap.size ≤ bA)); have uD := Aside0.mk ((by rw [hg]; exact (below_size q7_4) : w.heap.size ≤ bA)); have vD := Aside0.mk ((by rw [hg]; exact Nat.ne_of_lt (blk_lt (g := sA) (o := .cells #[dA] 29 (0, 0)) q7_1) : sA ≠ bA)); have oB := Aside0.mk ((by rw [hg]; exact Nat.ne_of_gt (blk_lt (g := sA) (o := .cells #[dA] 29 (0, 0)) q7_1) : bA ≠ sA)); clear vA; clear yA; clear tA; clear cA; clear hA; clear HB; have vA := CA; have yA := DA; have tA := FA; have cA := GA; have hA := JA; have HB := QA; have aA := RA; have oH := YA; have IE := uD; have uA := vD; have KA := oB; clear CA DA FA GA JA QA RA YA uD vD oB; clear hb hbox hg; have pH := KA.out; have qH := uA.out; have OB : eD.cell? ⟨bA, 0, none⟩ = some (.int .i64 0) := (blk_cell aA.out 0).trans rfl; have PB : eD.cell? ⟨bA, 1, none⟩ = some (.int .i64 0) := (blk_cell aA.out 1).trans rfl; have QB : eD.cell? ⟨bA, 2, none⟩ = some (.int .i64 0) := (blk_cell aA.out 2).trans rfl; have RB : eD.cell? ⟨bA, 3, none⟩ = some (.int .i64 0) := (blk_cell aA.out 3).trans rfl; have SB : eD.cell? ⟨bA, 4, none⟩ = some (.int .i64 0) := (blk_cell aA.out 4).trans rfl; have TB : eD.cell? ⟨bA, 5, none⟩ = some (.int .i64 0) := (blk_cell aA.out 5).trans rfl; have UB : eD.cell? ⟨bA, 6, none⟩ = some (.int .i64 0) := (blk_cell aA.out 6).trans rfl; have VB : eD.cell? ⟨bA, 7, none⟩ = some (.int .i64 0) := (blk_cell aA.out 7).trans rfl; have WB : eD.cell? ⟨bA, 8, none⟩ = some (.int .i64 0) := (blk_cell aA.out 8).trans rfl; have XB : eD.cell? ⟨bA, 9, none⟩ = some (.bool false) := (blk_cell aA.out 9).trans rfl; have YB := blk_frozen aA.out 0; have ZB := blk_frozen aA.out 1; have aC := blk_frozen aA.out 2; have bC := blk_frozen aA.out 3; have cC := blk_frozen aA.out 4; have dC := blk_frozen aA.out 5; have eC := blk_frozen aA.out 6; have fC := blk_frozen aA.out 7; have gC := blk_frozen aA.out 8; have hC := blk_frozen aA.out 9))
          repeat (go_quiet (first | (go_at_call 16; (with_reducible refine (impl_StCall.calls 2 0 ZA bB cB dB eB fB gB hB iB jB _ A24.out).mono ?_); rintro e AI ⟨rfl, hb⟩; have CA := Aside0.mk (Kd.Q_below q7_3 hb); have DA := Aside0.mk (Kd.R_below q7_7 hb); have FA := Aside0.mk (Kd.R_below q7_6 hb); have GA := Aside0.mk (Kd.R_below q7_2 hb); have JA := Aside0.mk (blk_below (g := sA) (o := .cells #[dA] 29 (0, 0)) q7_1 hb); have QA := Aside0.mk (below_step q7_4 hb); clear vA; clear yA; clear tA; clear cA; clear hA; clear HB; have vA := CA; have yA := DA; have tA := FA; have cA := GA; have hA := JA; have HB := QA; clear CA DA FA GA JA QA; (try clear hb); (try clear hb2); (try clear hk); (try clear hi)) | ((with_reducible refine gate_dst (N := 10) rfl ?_); (try (refine gate_guard (by rfl) ?_; dsimp only)); refine box_event ?hg (N := 10) ?hd (cs := #[.int .i64 0, .int .i64 0, .int .i64 0, .int .i64 0, .int .i64 0, .int .i64 0, .int .i64 0, .int .i64 0, .int .i64 0, .bool false]) (t := 23) ?hr ?_; (case hd => rfl); (case hg => rfl); (case hr => first | (go_simp; done) | (go_simp; rfl)); intro bA hg eD hbox hb; have CA := Aside0.mk (Kd.Q_below q7_3 hb); have DA := Aside0.mk (Kd.R_below q7_7 hb); have FA := Aside0.mk (Kd.R_below q7_6 hb); have GA := Aside0.mk (Kd.R_below q7_2 hb); have JA := Aside0.mk (blk_below (g := sA) (o := .cells #[dA] 29 (0, 0)) q7_1 hb); have QA := Aside0.mk (below_step q7_4 hb); have RA := Aside0.mk (hbox); have YA := Aside0.mk ((by rw [hg]; exact (below_size q7_4) : w.heap.size ≤ bA)); have uD := Aside0.mk ((by rw [hg]; exact (below_size q7_4) : w.heap.size ≤ bA)); have vD := Aside0.mk ((by rw [hg]; exact Nat.ne_of_lt (blk_lt (g := sA) (o := .cells #[dA] 29 (0, 0)) q7_1) : sA ≠ bA)); have oB := Aside0.mk ((by rw [hg]; exact Nat.ne_of_gt (blk_lt (g := sA) (o := .cells #[dA] 29 (0, 0)) q7_1) : bA ≠ sA)); clear vA; clear yA; clear tA; clear cA; clear hA; clear HB; have vA := CA; have yA := DA; have tA := FA; have cA := GA; have hA := JA; have HB := QA; have aA := RA; have oH := YA; have IE := uD; have uA := vD; have KA := oB; clear CA DA FA GA JA QA RA YA uD vD oB; clear hb hbox hg; have pH := KA.out; have qH := uA.out; have OB : eD.cell? ⟨bA, 0, none⟩ = some (.int .i64 0) := (blk_cell aA.out 0).trans rfl; have PB : eD.cell? ⟨bA, 1, none⟩ = some (.int .i64 0) := (blk_cell aA.out 1).trans rfl; have QB : eD.cell? ⟨bA, 2, none⟩ = some (.int .i64 0) := (blk_cell aA.out 2).trans rfl; have RB : eD.cell? ⟨bA, 3, none⟩ = some (.int .i64 0) := (blk_cell aA.out 3).trans rfl; have SB : eD.cell? ⟨bA, 4, none⟩ = some (.int .i64 0) := (blk_cell aA.out 4).trans rfl; have TB : eD.cell? ⟨bA, 5, none⟩ = some (.int .i64 0) := (blk_cell aA.out 5).trans rfl; have UB : eD.cell? ⟨bA, 6, none⟩ = some (.int .i64 0) := (blk_cell aA.out 6).trans rfl; have VB : eD.cell? ⟨bA, 7, none⟩ = some (.int .i64 0) := (blk_cell aA.out 7).trans rfl; have WB : eD.cell? ⟨bA, 8, none⟩ = some (.int .i64 0) := (blk_cell aA.out 8).trans rfl; have XB : eD.cell? ⟨bA, 9, none⟩ = some (.bool false) := (blk_cell aA.out 9).trans rfl; have YB := blk_frozen aA.out 0; have ZB := blk_frozen aA.out 1; have aC := blk_frozen aA.out 2; have bC := blk_frozen aA.out 3; have cC := blk_frozen aA.out 4; have dC := blk_frozen aA.out 5; have eC := blk_frozen aA.out 6; have fC := blk_frozen aA.out 7; have gC := blk_frozen aA.out 8; have hC := blk_frozen aA.out 9)); go_upto_region 13 with (first | (go_at_call 16; (with_reducible refine (impl_StCall.calls 2 0 ZA bB cB dB eB fB gB hB iB jB _ A24.out).mono ?_); rintro e AI ⟨rfl, hb⟩; have CA := Aside0.mk (Kd.Q_below q7_3 hb); have DA := Aside0.mk (Kd.R_below q7_7 hb); have FA := Aside0.mk (Kd.R_below q7_6 hb); have GA := Aside0.mk (Kd.R_below q7_2 hb); have JA := Aside0.mk (blk_below (g := sA) (o := .cells #[dA] 29 (0, 0)) q7_1 hb); have QA := Aside0.mk (below_step q7_4 hb); clear vA; clear yA; clear tA; clear cA; clear hA; clear HB; have vA := CA; have yA := DA; have tA := FA; have cA := GA; have hA := JA; have HB := QA; clear CA DA FA GA JA QA; (try clear hb); (try clear hb2); (try clear hk); (try clear hi)) | ((with_reducible refine gate_dst (N := 10) rfl ?_); (try (refine gate_guard (by rfl) ?_; dsimp only)); refine box_event ?hg (N := 10) ?hd (cs := #[.int .i64 0, .int .i64 0, .int .i64 0, .int .i64 0, .int .i64 0, .int .i64 0, .int .i64 0, .int .i64 0, .int .i64 0, .bool false]) (t := 23) ?hr ?_; (case hd => rfl); (case hg => rfl); (case hr => first | (go_simp; done) | (go_simp; rfl)); intro bA hg eD hbox hb; have CA := Aside0.mk (Kd.Q_below q7_3 hb); have DA := Aside0.mk (Kd.R_below q7_7 hb); have FA := Aside0.mk (Kd.R_below q7_6 hb); have GA := Aside0.mk (Kd.R_below q7_2 hb); have JA := Aside0.mk (blk_below (g := sA) (o := .cells #[dA] 29 (0, 0)) q7_1 hb); have QA := Aside0.mk (below_step q7_4 hb); have RA := Aside0.mk (hbox); have YA := Aside0.mk ((by rw [hg]; exact (below_size q7_4) : w.heap.size ≤ bA)); have uD := Aside0.mk ((by rw [hg]; exact (below_size q7_4) : w.heap.size ≤ bA)); have vD := Aside0.mk ((by rw [hg]; exact Nat.ne_of_lt (blk_lt (g := sA) (o := .cells #[dA] 29 (0, 0)) q7_1) : sA ≠ bA)); have oB := Aside0.mk ((by rw [hg]; exact Nat.ne_of_gt (blk_lt (g := sA) (o := .cells #[dA] 29 (0, 0)) q7_1) : bA ≠ sA)); clear vA; clear yA; clear tA; clear cA; clear hA; clear HB; have vA := CA; have yA := DA; have tA := FA; have cA := GA; have hA := JA; have HB := QA; have aA := RA; have oH := YA; have IE := uD; have uA := vD; have KA := oB; clear CA DA FA GA JA QA RA YA uD vD oB; clear hb hbox hg; have pH := KA.out; have qH := uA.out; have OB : eD.cell? ⟨bA, 0, none⟩ = some (.int .i64 0) := (blk_cell aA.out 0).trans rfl; have PB : eD.cell? ⟨bA, 1, none⟩ = some (.int .i64 0) := (blk_cell aA.out 1).trans rfl; have QB : eD.cell? ⟨bA, 2, none⟩ = some (.int .i64 0) := (blk_cell aA.out 2).trans rfl; have RB : eD.cell? ⟨bA, 3, none⟩ = some (.int .i64 0) := (blk_cell aA.out 3).trans rfl; have SB : eD.cell? ⟨bA, 4, none⟩ = some (.int .i64 0) := (blk_cell aA.out 4).trans rfl; have TB : eD.cell? ⟨bA, 5, none⟩ = some (.int .i64 0) := (blk_cell aA.out 5).trans rfl; have UB : eD.cell? ⟨bA, 6, none⟩ = some (.int .i64 0) := (blk_cell aA.out 6).trans rfl; have VB : eD.cell? ⟨bA, 7, none⟩ = some (.int .i64 0) := (blk_cell aA.out 7).trans rfl; have WB : eD.cell? ⟨bA, 8, none⟩ = some (.int .i64 0) := (blk_cell aA.out 8).trans rfl; have XB : eD.cell? ⟨bA, 9, none⟩ = some (.bool false) := (blk_cell aA.out 9).trans rfl; have YB := blk_frozen aA.out 0; have ZB := blk_frozen aA.out 1; have aC := blk_frozen aA.out 2; have bC := blk_frozen aA.out 3; have cC := blk_frozen aA.out 4; have dC := blk_frozen aA.out 5; have eC := blk_frozen aA.out 6; have fC := blk_frozen aA.out 7; have gC := blk_frozen aA.out 8; have hC := blk_frozen aA.out 9)))
          (try simp only [Act.put, List.setIfInBounds_toArray, List.set_cons_zero, List.set_cons_succ])
          go_cut [53] (fun v53 wc => ∃ (kq : Nat) (LD : Bool), v53 = .bool LD ∧ Aside0 (laws_FnStackOne.j2 kq (wrap64 (1 + AA)) wA zA qA (qA.length : Int) BA LD OA ZA bB cB dB eB fB gB hB iB jB = some true) ∧ Aside0 (kq ≤ k2) ∧ Aside0 (Kd.Q (Kd.int .i64) 3 wc w.heap.size (fun k_ => some k_ ≠ (u7 : Value).ownBlock ∧ some k_ ≠ ((.slice (some ad284) qA.length IA) : Value).ownBlock ∧ some k_ ≠ (dA : Value).ownBlock) u6 wA) ∧ Aside0 (Kd.R (Kd.int .i64) 3 wc w.heap.size (fun k_ => some k_ ≠ (u6 : Value).ownBlock ∧ some k_ ≠ ((.slice (some ad284) qA.length IA) : Value).ownBlock ∧ some k_ ≠ (dA : Value).ownBlock) u7 zA) ∧ Aside0 (Kd.R (Kd.int .i64) 3 wc w.heap.size (fun k_ => some k_ ≠ (u6 : Value).ownBlock ∧ some k_ ≠ (u7 : Value).ownBlock ∧ some k_ ≠ (dA : Value).ownBlock) (.slice (some ad284) qA.length IA) qA) ∧ Aside0 (Kd.R (Kd.int .i64) 3 wc w.heap.size (fun k_ => some k_ ≠ (u6 : Value).ownBlock ∧ some k_ ≠ (u7 : Value).ownBlock ∧ some k_ ≠ ((.slice (some ad284) qA.length IA) : Value).ownBlock) dA OA) ∧ Aside0 (wc.heap[sA]? = some (.cells #[dA] 29 (0, 0))) ∧ Aside0 (wc.heap[bA]? = some (.cells #[.int .i64 ZA, .int .i64 bB, .int .i64 cB, .int .i64 dB, .int .i64 eB, .int .i64 fB, .int .i64 gB, .int .i64 hB, .int .i64 iB, .bool jB] 23 (0, 0))) ∧ Aside0 (Below w.heap.size w wc))
          case first =>
           have H := HC25.out
           clear HC25
           by_cases c30 : (Int.tmod (rd qA BA) 2) = 0
           ·rw [if_pos c30] at H
            have fD : ((Int.tmod (rd qA BA) 2) == 0) = true := beq_iff_eq.mpr c30
            have HD : ((Int.tmod (rd qA BA) 2) != 0) = false := bne_eq_false_iff_eq.mpr c30
            clear c30
            (first | rw [fD] | (simp only [i64_w, i32_w]; rw [fD]) | skip)
            have H' := Aside0.mk H
            clear H
            obtain ⟨TI, UI, pI⟩ := Kd.R_slice yA.out
            subst pI
            go_wp2
            repeat (go_quiet (fail); try go_wp2)
            go_meet
            case rel => exact ⟨_, (decide ((zA.length : Int) > 0)), q7_28, H', ⟨by have := HJ5.out; have := HK2.out; first | omega | exact Nat.le_refl _⟩, ⟨q7_17⟩, ⟨q7_18⟩, ⟨q7_16⟩, ⟨q7_15⟩, ⟨q7_8⟩, ⟨q7_9⟩, ⟨q7_0⟩⟩
           ·rw [if_neg c30] at H
            have fD : ((Int.tmod (rd qA BA) 2) == 0) = false := beq_eq_false_iff_ne.mpr c30
            have HD : ((Int.tmod (rd qA BA) 2) != 0) = true := bne_iff_ne.mpr c30
            (first | rw [fD] | (simp only [i64_w, i32_w]; rw [fD]) | skip)
            have H' := Aside0.mk H
            clear H
            go_wp2
            repeat (go_quiet (fail); try go_wp2)
            go_meet
            case rel => exact ⟨_, (false), q7_28, H', ⟨by have := HJ5.out; have := HK2.out; first | omega | exact Nat.le_refl _⟩, ⟨q7_17⟩, ⟨q7_18⟩, ⟨q7_16⟩, ⟨q7_15⟩, ⟨q7_8⟩, ⟨q7_9⟩, ⟨q7_0⟩⟩
          case rest =>
           clear HC25
           (try clear c1); (try clear c2); (try clear JE); (try clear KE); (try clear p2); (try clear q2); (try clear hx2); (try clear c3); (try clear p6); (try clear c13); (try clear c15); (try clear c21); (try clear GD); (try clear c22); (try clear LE); (try clear c23); (try clear ME); (try clear c28); (try clear p28); (try clear q28); (try clear hx28); (try clear c30); (try clear fD); (try clear HD); (try clear sB); (try clear OB); (try clear PB); (try clear QB); (try clear RB); (try clear SB); (try clear TB); (try clear UB); (try clear VB); (try clear WB); (try clear XB); (try clear tB); (try clear YB); (try clear ZB); (try clear aC); (try clear bC); (try clear cC); (try clear dC); (try clear eC); (try clear fC); (try clear gC); (try clear hC); (try clear nD); (try clear p2); (try clear p284); (try clear p6); (try clear q284)
           obtain ⟨kq, LD, rfl, HA, HJ24, vA, yA, tA, cA, hA, aA, HB⟩ := hcut
           cases kq with
           | zero => exact absurd HA.out (by simp [laws_FnStackOne.j2])
           | succ kj24 =>
            have H := HA.out
            clear HA
            simp only [laws_FnStackOne.j2] at H
            have HC32 := Aside0.mk H
            clear H
            go_upto_if 53 with (fail)
            repeat (go_quiet (fail); go_upto_if 53 with (fail))
            go_cut [] (fun wc => ∃ (kq : Nat) (iC : Int) (jC : Int) (kC : Int) (lC : Int) (mC : Int) (nC : Int) (oC : Int) (pC : Int) (qC : Int) (rC : Bool), Aside0 (laws_FnStackOne.j3 kq (wrap64 (1 + AA)) wA zA qA (qA.length : Int) BA OA iC jC kC lC mC nC oC pC qC rC = some true) ∧ Aside0 (kq ≤ kj24) ∧ Aside0 (Kd.Q (Kd.int .i64) 3 wc w.heap.size (fun k_ => some k_ ≠ (u7 : Value).ownBlock ∧ some k_ ≠ ((.slice (some ad284) qA.length IA) : Value).ownBlock ∧ some k_ ≠ (dA : Value).ownBlock) u6 wA) ∧ Aside0 (Kd.R (Kd.int .i64) 3 wc w.heap.size (fun k_ => some k_ ≠ (u6 : Value).ownBlock ∧ some k_ ≠ ((.slice (some ad284) qA.length IA) : Value).ownBlock ∧ some k_ ≠ (dA : Value).ownBlock) u7 zA) ∧ Aside0 (Kd.R (Kd.int .i64) 3 wc w.heap.size (fun k_ => some k_ ≠ (u6 : Value).ownBlock ∧ some k_ ≠ (u7 : Value).ownBlock ∧ some k_ ≠ (dA : Value).ownBlock) (.slice (some ad284) qA.length IA) qA) ∧ Aside0 (Kd.R (Kd.int .i64) 3 wc w.heap.size (fun k_ => some k_ ≠ (u6 : Value).ownBlock ∧ some k_ ≠ (u7 : Value).ownBlock ∧ some k_ ≠ ((.slice (some ad284) qA.length IA) : Value).ownBlock) dA OA) ∧ Aside0 (wc.heap[sA]? = some (.cells #[dA] 29 (0, 0))) ∧ Aside0 (wc.heap[bA]? = some (.cells #[.int .i64 iC, .int .i64 jC, .int .i64 kC, .int .i64 lC, .int .i64 mC, .int .i64 nC, .int .i64 oC, .int .i64 pC, .int .i64 qC, .bool rC] 23 (0, 0))) ∧ Aside0 (Below w.heap.size w wc))
            case first =>
             have H := HC32.out
             clear HC32
             by_cases c33 : LD = true
             ·subst c33
              have H1 : (if 0 ≤ (wrap64 ((zA.length : Int) - 1)) then (if (wrap64 ((zA.length : Int) - 1)) < (zA.length : Int) then ((impl_StCall.f 1 (rd zA (wrap64 ((zA.length : Int) - 1)))).bind fun PA => (laws_FnStackOne.j3 kj24 (wrap64 (1 + AA)) wA zA qA (qA.length : Int) BA OA PA.1 PA.2.1 PA.2.2.1 PA.2.2.2.1 PA.2.2.2.2.1 PA.2.2.2.2.2.1 PA.2.2.2.2.2.2.1 PA.2.2.2.2.2.2.2.1 PA.2.2.2.2.2.2.2.2.1 PA.2.2.2.2.2.2.2.2.2)) else (none)) else (none)) = some true := by rw [if_pos rfl] at H; exact H
              clear H
              have H := H1
              clear H1
              obtain ⟨ji34, hji34⟩ : ∃ j_ : Int, (wrap64 ((zA.length : Int) - 1)) = j_ := ⟨_, rfl⟩
              replace H : (if 0 ≤ (ji34) then (if (ji34) < (zA.length : Int) then ((impl_StCall.f 1 (rd zA (ji34))).bind fun PA => (laws_FnStackOne.j3 kj24 (wrap64 (1 + AA)) wA zA qA (qA.length : Int) BA OA PA.1 PA.2.1 PA.2.2.1 PA.2.2.2.1 PA.2.2.2.2.1 PA.2.2.2.2.2.1 PA.2.2.2.2.2.2.1 PA.2.2.2.2.2.2.2.1 PA.2.2.2.2.2.2.2.2.1 PA.2.2.2.2.2.2.2.2.2)) else (none)) else (none)) = some true := by first | (rw [hji34] at H; exact H) | (simp only [hji34] at H ⊢; exact H)
              have hji34w : (IntKind.i64.wrap ((zA.length : Int) - 1)) = ji34 := (i64_w _).trans hji34
              by_cases c35 : 0 ≤ (ji34)
              ·rw [if_pos c35] at H
               have ID : decide (0 ≤ (ji34)) = true := decide_eq_true c35
               clear c35
               (first | rw [ID] | (simp only [i64_w, i32_w]; rw [ID]) | skip)
               by_cases c36 : (ji34) < (zA.length : Int)
               ·rw [if_pos c36] at H
                have VE : decide ((ji34) < (zA.length : Int)) = true := decide_eq_true c36
                clear c36
                replace H := Option.bind_eq_some_iff.mp H
                obtain ⟨⟨vC, yC, bD, jD, oD, tD, wD, yD, DD, MD⟩, A370, H⟩ := H
                replace H : (laws_FnStackOne.j3 kj24 (wrap64 (1 + AA)) wA zA qA (qA.length : Int) BA OA vC yC bD jD oD tD wD yD DD MD) = some true := H
                have A37 := Aside0.mk A370
                clear A370
                have H' := Aside0.mk H
                clear H
                obtain ⟨VI, WI, qI⟩ := Kd.R_slice yA.out
                subst qI
                have p296 : 0 ≤ ((ji34) : Int) := of_decide_eq_true q7_21
                have q296 : (ji34) < (zA.length : Int) := of_decide_eq_true q7_21
                obtain ⟨ad296, rI, xD⟩ := Kd.at_int (Kd.R_reads' yA.out).2.2 (ji34) p296 q296
                cases rI
                replace p296 := eq_true p296
                replace q296 := eq_true q296
                go_wp2_with (first | (go_at_call 16; (with_reducible refine (impl_StCall.calls 1 (rd zA (ji34)) vC yC bD jD oD tD wD yD DD MD _ A37.out).mono ?_); rintro e gD ⟨rfl, hb⟩; have CA := Aside0.mk (Kd.Q_below q7_3 hb); have DA := Aside0.mk (Kd.R_below q7_7 hb); have FA := Aside0.mk (Kd.R_below q7_6 hb); have GA := Aside0.mk (Kd.R_below q7_2 hb); have JA := Aside0.mk (blk_below (g := sA) (o := .cells #[dA] 29 (0, 0)) q7_1 hb); have QA := Aside0.mk (blk_below (g := bA) (o := .cells #[.int .i64 ZA, .int .i64 bB, .int .i64 cB, .int .i64 dB, .int .i64 eB, .int .i64 fB, .int .i64 gB, .int .i64 hB, .int .i64 iB, .bool jB] 23 (0, 0)) q7_5 hb); have RA := Aside0.mk (below_step q7_0 hb); clear vA; clear yA; clear tA; clear cA; clear hA; clear aA; clear HB; have vA := CA; have yA := DA; have tA := FA; have cA := GA; have hA := JA; have aA := QA; have HB := RA; clear CA DA FA GA JA QA RA; (try clear hb); (try clear hb2); (try clear hk); (try clear hi); have rH := KA.out; have sH := uA.out; have GC : gD.cell? ⟨bA, 0, none⟩ = some (.int .i64 ZA) := (blk_cell aA.out 0).trans rfl; have HC : gD.cell? ⟨bA, 1, none⟩ = some (.int .i64 bB) := (blk_cell aA.out 1).trans rfl; have IC : gD.cell? ⟨bA, 2, none⟩ = some (.int .i64 cB) := (blk_cell aA.out 2).trans rfl; have JC : gD.cell? ⟨bA, 3, none⟩ = some (.int .i64 dB) := (blk_cell aA.out 3).trans rfl; have KC : gD.cell? ⟨bA, 4, none⟩ = some (.int .i64 eB) := (blk_cell aA.out 4).trans rfl; have LC : gD.cell? ⟨bA, 5, none⟩ = some (.int .i64 fB) := (blk_cell aA.out 5).trans rfl; have MC : gD.cell? ⟨bA, 6, none⟩ = some (.int .i64 gB) := (blk_cell aA.out 6).trans rfl; have NC : gD.cell? ⟨bA, 7, none⟩ = some (.int .i64 hB) := (blk_cell aA.out 7).trans rfl; have OC : gD.cell? ⟨bA, 8, none⟩ = some (.int .i64 iB) := (blk_cell aA.out 8).trans rfl; have PC : gD.cell? ⟨bA, 9, none⟩ = some (.bool jB) := (blk_cell aA.out 9).trans rfl; have QC := blk_frozen aA.out 0; have RC := blk_frozen aA.out 1; have SC := blk_frozen aA.out 2; have TC := blk_frozen aA.out 3; have UC := blk_frozen aA.out 4; have VC := blk_frozen aA.out 5; have WC := blk_frozen aA.out 6; have XC := blk_frozen aA.out 7; have YC := blk_frozen aA.out 8; have ZC := blk_frozen aA.out 9))
                repeat (go_quiet (first | (go_at_call 16; (with_reducible refine (impl_StCall.calls 1 (rd zA (ji34)) vC yC bD jD oD tD wD yD DD MD _ A37.out).mono ?_); rintro e gD ⟨rfl, hb⟩; have CA := Aside0.mk (Kd.Q_below q7_3 hb); have DA := Aside0.mk (Kd.R_below q7_7 hb); have FA := Aside0.mk (Kd.R_below q7_6 hb); have GA := Aside0.mk (Kd.R_below q7_2 hb); have JA := Aside0.mk (blk_below (g := sA) (o := .cells #[dA] 29 (0, 0)) q7_1 hb); have QA := Aside0.mk (blk_below (g := bA) (o := .cells #[.int .i64 ZA, .int .i64 bB, .int .i64 cB, .int .i64 dB, .int .i64 eB, .int .i64 fB, .int .i64 gB, .int .i64 hB, .int .i64 iB, .bool jB] 23 (0, 0)) q7_5 hb); have RA := Aside0.mk (below_step q7_0 hb); clear vA; clear yA; clear tA; clear cA; clear hA; clear aA; clear HB; have vA := CA; have yA := DA; have tA := FA; have cA := GA; have hA := JA; have aA := QA; have HB := RA; clear CA DA FA GA JA QA RA; (try clear hb); (try clear hb2); (try clear hk); (try clear hi); have rH := KA.out; have sH := uA.out; have GC : gD.cell? ⟨bA, 0, none⟩ = some (.int .i64 ZA) := (blk_cell aA.out 0).trans rfl; have HC : gD.cell? ⟨bA, 1, none⟩ = some (.int .i64 bB) := (blk_cell aA.out 1).trans rfl; have IC : gD.cell? ⟨bA, 2, none⟩ = some (.int .i64 cB) := (blk_cell aA.out 2).trans rfl; have JC : gD.cell? ⟨bA, 3, none⟩ = some (.int .i64 dB) := (blk_cell aA.out 3).trans rfl; have KC : gD.cell? ⟨bA, 4, none⟩ = some (.int .i64 eB) := (blk_cell aA.out 4).trans rfl; have LC : gD.cell? ⟨bA, 5, none⟩ = some (.int .i64 fB) := (blk_cell aA.out 5).trans rfl; have MC : gD.cell? ⟨bA, 6, none⟩ = some (.int .i64 gB) := (blk_cell aA.out 6).trans rfl; have NC : gD.cell? ⟨bA, 7, none⟩ = some (.int .i64 hB) := (blk_cell aA.out 7).trans rfl; have OC : gD.cell? ⟨bA, 8, none⟩ = some (.int .i64 iB) := (blk_cell aA.out 8).trans rfl; have PC : gD.cell? ⟨bA, 9, none⟩ = some (.bool jB) := (blk_cell aA.out 9).trans rfl; have QC := blk_frozen aA.out 0; have RC := blk_frozen aA.out 1; have SC := blk_frozen aA.out 2; have TC := blk_frozen aA.out 3; have UC := blk_frozen aA.out 4; have VC := blk_frozen aA.out 5; have WC := blk_frozen aA.out 6; have XC := blk_frozen aA.out 7; have YC := blk_frozen aA.out 8; have ZC := blk_frozen aA.out 9)); try go_wp2_with (first | (go_at_call 16; (with_reducible refine (impl_StCall.calls 1 (rd zA (ji34)) vC yC bD jD oD tD wD yD DD MD _ A37.out).mono ?_); rintro e gD ⟨rfl, hb⟩; have CA := Aside0.mk (Kd.Q_below q7_3 hb); have DA := Aside0.mk (Kd.R_below q7_7 hb); have FA := Aside0.mk (Kd.R_below q7_6 hb); have GA := Aside0.mk (Kd.R_below q7_2 hb); have JA := Aside0.mk (blk_below (g := sA) (o := .cells #[dA] 29 (0, 0)) q7_1 hb); have QA := Aside0.mk (blk_below (g := bA) (o := .cells #[.int .i64 ZA, .int .i64 bB, .int .i64 cB, .int .i64 dB, .int .i64 eB, .int .i64 fB, .int .i64 gB, .int .i64 hB, .int .i64 iB, .bool jB] 23 (0, 0)) q7_5 hb); have RA := Aside0.mk (below_step q7_0 hb); clear vA; clear yA; clear tA; clear cA; clear hA; clear aA; clear HB; have vA := CA; have yA := DA; have tA := FA; have cA := GA; have hA := JA; have aA := QA; have HB := RA; clear CA DA FA GA JA QA RA; (try clear hb); (try clear hb2); (try clear hk); (try clear hi); have rH := KA.out; have sH := uA.out; have GC : gD.cell? ⟨bA, 0, none⟩ = some (.int .i64 ZA) := (blk_cell aA.out 0).trans rfl; have HC : gD.cell? ⟨bA, 1, none⟩ = some (.int .i64 bB) := (blk_cell aA.out 1).trans rfl; have IC : gD.cell? ⟨bA, 2, none⟩ = some (.int .i64 cB) := (blk_cell aA.out 2).trans rfl; have JC : gD.cell? ⟨bA, 3, none⟩ = some (.int .i64 dB) := (blk_cell aA.out 3).trans rfl; have KC : gD.cell? ⟨bA, 4, none⟩ = some (.int .i64 eB) := (blk_cell aA.out 4).trans rfl; have LC : gD.cell? ⟨bA, 5, none⟩ = some (.int .i64 fB) := (blk_cell aA.out 5).trans rfl; have MC : gD.cell? ⟨bA, 6, none⟩ = some (.int .i64 gB) := (blk_cell aA.out 6).trans rfl; have NC : gD.cell? ⟨bA, 7, none⟩ = some (.int .i64 hB) := (blk_cell aA.out 7).trans rfl; have OC : gD.cell? ⟨bA, 8, none⟩ = some (.int .i64 iB) := (blk_cell aA.out 8).trans rfl; have PC : gD.cell? ⟨bA, 9, none⟩ = some (.bool jB) := (blk_cell aA.out 9).trans rfl; have QC := blk_frozen aA.out 0; have RC := blk_frozen aA.out 1; have SC := blk_frozen aA.out 2; have TC := blk_frozen aA.out 3; have UC := blk_frozen aA.out 4; have VC := blk_frozen aA.out 5; have WC := blk_frozen aA.out 6; have XC := blk_frozen aA.out 7; have YC := blk_frozen aA.out 8; have ZC := blk_frozen aA.out 9)))
                go_meet
                case rel => exact ⟨_, (vC), (yC), (bD), (jD), (oD), (tD), (wD), (yD), (DD), (MD), H', ⟨by have := HJ5.out; have := HK2.out; have := HJ24.out; first | omega | exact Nat.le_refl _⟩, ⟨by (with_reducible repeat (first | apply Kd.Q_alloc | apply Kd.Q_drewN | apply Kd.Q_drew)); exact Kd.Q_mono (Kd.Q_far (p := ⟨bA, 9, none⟩) (Kd.Q_far (p := ⟨bA, 8, none⟩) (Kd.Q_far (p := ⟨bA, 7, none⟩) (Kd.Q_far (p := ⟨bA, 6, none⟩) (Kd.Q_far (p := ⟨bA, 5, none⟩) (Kd.Q_far (p := ⟨bA, 4, none⟩) (Kd.Q_far (p := ⟨bA, 3, none⟩) (Kd.Q_far (p := ⟨bA, 2, none⟩) (Kd.Q_far (p := ⟨bA, 1, none⟩) (Kd.Q_far (p := ⟨bA, 0, none⟩) (Kd.Q_types vA.out aA.out (by decide)) (fun _ hk => hk.2) (.int .i64 vC)) (fun _ hk => hk.2) (.int .i64 yC)) (fun _ hk => hk.2) (.int .i64 bD)) (fun _ hk => hk.2) (.int .i64 jD)) (fun _ hk => hk.2) (.int .i64 oD)) (fun _ hk => hk.2) (.int .i64 tD)) (fun _ hk => hk.2) (.int .i64 wD)) (fun _ hk => hk.2) (.int .i64 yD)) (fun _ hk => hk.2) (.int .i64 DD)) (fun _ hk => hk.2) (.bool MD)) (fun _ hk => ⟨hk.1.1, ⟨hk.1.2.1, hk.1.2.2⟩⟩)⟩, ⟨by (with_reducible repeat (first | apply Kd.R_alloc | apply Kd.R_drewN | apply Kd.R_drew)); exact Kd.R_mono (Kd.R_far (p := ⟨bA, 9, none⟩) (Kd.R_far (p := ⟨bA, 8, none⟩) (Kd.R_far (p := ⟨bA, 7, none⟩) (Kd.R_far (p := ⟨bA, 6, none⟩) (Kd.R_far (p := ⟨bA, 5, none⟩) (Kd.R_far (p := ⟨bA, 4, none⟩) (Kd.R_far (p := ⟨bA, 3, none⟩) (Kd.R_far (p := ⟨bA, 2, none⟩) (Kd.R_far (p := ⟨bA, 1, none⟩) (Kd.R_far (p := ⟨bA, 0, none⟩) (Kd.R_types yA.out aA.out (by decide)) (fun _ hk => hk.2) (.int .i64 vC)) (fun _ hk => hk.2) (.int .i64 yC)) (fun _ hk => hk.2) (.int .i64 bD)) (fun _ hk => hk.2) (.int .i64 jD)) (fun _ hk => hk.2) (.int .i64 oD)) (fun _ hk => hk.2) (.int .i64 tD)) (fun _ hk => hk.2) (.int .i64 wD)) (fun _ hk => hk.2) (.int .i64 yD)) (fun _ hk => hk.2) (.int .i64 DD)) (fun _ hk => hk.2) (.bool MD)) (fun _ hk => ⟨hk.1.1, ⟨hk.1.2.1, hk.1.2.2⟩⟩)⟩, ⟨by (with_reducible repeat (first | apply Kd.R_alloc | apply Kd.R_drewN | apply Kd.R_drew)); exact Kd.R_mono (Kd.R_far (p := ⟨bA, 9, none⟩) (Kd.R_far (p := ⟨bA, 8, none⟩) (Kd.R_far (p := ⟨bA, 7, none⟩) (Kd.R_far (p := ⟨bA, 6, none⟩) (Kd.R_far (p := ⟨bA, 5, none⟩) (Kd.R_far (p := ⟨bA, 4, none⟩) (Kd.R_far (p := ⟨bA, 3, none⟩) (Kd.R_far (p := ⟨bA, 2, none⟩) (Kd.R_far (p := ⟨bA, 1, none⟩) (Kd.R_far (p := ⟨bA, 0, none⟩) (Kd.R_types tA.out aA.out (by decide)) (fun _ hk => hk.2) (.int .i64 vC)) (fun _ hk => hk.2) (.int .i64 yC)) (fun _ hk => hk.2) (.int .i64 bD)) (fun _ hk => hk.2) (.int .i64 jD)) (fun _ hk => hk.2) (.int .i64 oD)) (fun _ hk => hk.2) (.int .i64 tD)) (fun _ hk => hk.2) (.int .i64 wD)) (fun _ hk => hk.2) (.int .i64 yD)) (fun _ hk => hk.2) (.int .i64 DD)) (fun _ hk => hk.2) (.bool MD)) (fun _ hk => ⟨hk.1.1, ⟨hk.1.2.1, hk.1.2.2⟩⟩)⟩, ⟨by (with_reducible repeat (first | apply Kd.R_alloc | apply Kd.R_drewN | apply Kd.R_drew)); exact Kd.R_mono (Kd.R_far (p := ⟨bA, 9, none⟩) (Kd.R_far (p := ⟨bA, 8, none⟩) (Kd.R_far (p := ⟨bA, 7, none⟩) (Kd.R_far (p := ⟨bA, 6, none⟩) (Kd.R_far (p := ⟨bA, 5, none⟩) (Kd.R_far (p := ⟨bA, 4, none⟩) (Kd.R_far (p := ⟨bA, 3, none⟩) (Kd.R_far (p := ⟨bA, 2, none⟩) (Kd.R_far (p := ⟨bA, 1, none⟩) (Kd.R_far (p := ⟨bA, 0, none⟩) (Kd.R_types cA.out aA.out (by decide)) (fun _ hk => hk.2) (.int .i64 vC)) (fun _ hk => hk.2) (.int .i64 yC)) (fun _ hk => hk.2) (.int .i64 bD)) (fun _ hk => hk.2) (.int .i64 jD)) (fun _ hk => hk.2) (.int .i64 oD)) (fun _ hk => hk.2) (.int .i64 tD)) (fun _ hk => hk.2) (.int .i64 wD)) (fun _ hk => hk.2) (.int .i64 yD)) (fun _ hk => hk.2) (.int .i64 DD)) (fun _ hk => hk.2) (.bool MD)) (fun _ hk => ⟨hk.1.1, ⟨hk.1.2.1, hk.1.2.2⟩⟩)⟩, ⟨q7_8⟩, ⟨by (with_reducible repeat (first | refine blk_drewN ?_ _ | refine blk_drew ?_ | refine blk_alloc ?_ _)); refine blk_put (cs := #[.int .i64 vC, .int .i64 yC, .int .i64 bD, .int .i64 jD, .int .i64 oD, .int .i64 tD, .int .i64 wD, .int .i64 yD, .int .i64 DD, .bool jB]) ?_ 9 _ rfl; (with_reducible repeat (first | refine blk_drewN ?_ _ | refine blk_drew ?_ | refine blk_alloc ?_ _)); refine blk_put (cs := #[.int .i64 vC, .int .i64 yC, .int .i64 bD, .int .i64 jD, .int .i64 oD, .int .i64 tD, .int .i64 wD, .int .i64 yD, .int .i64 iB, .bool jB]) ?_ 8 _ rfl; (with_reducible repeat (first | refine blk_drewN ?_ _ | refine blk_drew ?_ | refine blk_alloc ?_ _)); refine blk_put (cs := #[.int .i64 vC, .int .i64 yC, .int .i64 bD, .int .i64 jD, .int .i64 oD, .int .i64 tD, .int .i64 wD, .int .i64 hB, .int .i64 iB, .bool jB]) ?_ 7 _ rfl; (with_reducible repeat (first | refine blk_drewN ?_ _ | refine blk_drew ?_ | refine blk_alloc ?_ _)); refine blk_put (cs := #[.int .i64 vC, .int .i64 yC, .int .i64 bD, .int .i64 jD, .int .i64 oD, .int .i64 tD, .int .i64 gB, .int .i64 hB, .int .i64 iB, .bool jB]) ?_ 6 _ rfl; (with_reducible repeat (first | refine blk_drewN ?_ _ | refine blk_drew ?_ | refine blk_alloc ?_ _)); refine blk_put (cs := #[.int .i64 vC, .int .i64 yC, .int .i64 bD, .int .i64 jD, .int .i64 oD, .int .i64 fB, .int .i64 gB, .int .i64 hB, .int .i64 iB, .bool jB]) ?_ 5 _ rfl; (with_reducible repeat (first | refine blk_drewN ?_ _ | refine blk_drew ?_ | refine blk_alloc ?_ _)); refine blk_put (cs := #[.int .i64 vC, .int .i64 yC, .int .i64 bD, .int .i64 jD, .int .i64 eB, .int .i64 fB, .int .i64 gB, .int .i64 hB, .int .i64 iB, .bool jB]) ?_ 4 _ rfl; (with_reducible repeat (first | refine blk_drewN ?_ _ | refine blk_drew ?_ | refine blk_alloc ?_ _)); refine blk_put (cs := #[.int .i64 vC, .int .i64 yC, .int .i64 bD, .int .i64 dB, .int .i64 eB, .int .i64 fB, .int .i64 gB, .int .i64 hB, .int .i64 iB, .bool jB]) ?_ 3 _ rfl; (with_reducible repeat (first | refine blk_drewN ?_ _ | refine blk_drew ?_ | refine blk_alloc ?_ _)); refine blk_put (cs := #[.int .i64 vC, .int .i64 yC, .int .i64 cB, .int .i64 dB, .int .i64 eB, .int .i64 fB, .int .i64 gB, .int .i64 hB, .int .i64 iB, .bool jB]) ?_ 2 _ rfl; (with_reducible repeat (first | refine blk_drewN ?_ _ | refine blk_drew ?_ | refine blk_alloc ?_ _)); refine blk_put (cs := #[.int .i64 vC, .int .i64 bB, .int .i64 cB, .int .i64 dB, .int .i64 eB, .int .i64 fB, .int .i64 gB, .int .i64 hB, .int .i64 iB, .bool jB]) ?_ 1 _ rfl; (with_reducible repeat (first | refine blk_drewN ?_ _ | refine blk_drew ?_ | refine blk_alloc ?_ _)); refine blk_put (cs := #[.int .i64 ZA, .int .i64 bB, .int .i64 cB, .int .i64 dB, .int .i64 eB, .int .i64 fB, .int .i64 gB, .int .i64 hB, .int .i64 iB, .bool jB]) ?_ 0 _ rfl; (with_reducible repeat (first | refine blk_drewN ?_ _ | refine blk_drew ?_ | refine blk_alloc ?_ _)); exact aA.out⟩, ⟨q7_0⟩⟩
               ·rw [if_neg c36] at H
                exact absurd H (by simp)
              ·rw [if_neg c35] at H
               exact absurd H (by simp)
             ·replace c33 := Bool.eq_false_iff.mpr c33
              subst c33
              have H1 : (laws_FnStackOne.j3 kj24 (wrap64 (1 + AA)) wA zA qA (qA.length : Int) BA OA ZA bB cB dB eB fB gB hB iB jB) = some true := by rw [if_neg (show ¬ (false = true) by decide)] at H; exact H
              clear H
              have H := H1
              clear H1
              have H' := Aside0.mk H
              clear H
              go_wp2
              repeat (go_quiet (fail); try go_wp2)
              go_meet
              case rel => exact ⟨_, (ZA), (bB), (cB), (dB), (eB), (fB), (gB), (hB), (iB), (jB), H', ⟨by have := HJ5.out; have := HK2.out; have := HJ24.out; first | omega | exact Nat.le_refl _⟩, ⟨q7_3⟩, ⟨q7_7⟩, ⟨q7_6⟩, ⟨q7_2⟩, ⟨q7_1⟩, ⟨q7_5⟩, ⟨q7_0⟩⟩
            case rest =>
             clear HC32
             (try clear c1); (try clear c2); (try clear JE); (try clear KE); (try clear p2); (try clear q2); (try clear hx2); (try clear c3); (try clear c4); (try clear p6); (try clear c13); (try clear c15); (try clear c21); (try clear GD); (try clear c22); (try clear LE); (try clear c23); (try clear ME); (try clear c28); (try clear p28); (try clear q28); (try clear hx28); (try clear p29); (try clear q29); (try clear hx29); (try clear c30); (try clear fD); (try clear HD); (try clear c33); (try clear c35); (try clear ID); (try clear c36); (try clear VE); (try clear c40); (try clear sB); (try clear OB); (try clear PB); (try clear QB); (try clear RB); (try clear SB); (try clear TB); (try clear UB); (try clear VB); (try clear WB); (try clear XB); (try clear GC); (try clear HC); (try clear IC); (try clear JC); (try clear KC); (try clear LC); (try clear MC); (try clear NC); (try clear OC); (try clear PC); (try clear tB); (try clear YB); (try clear ZB); (try clear aC); (try clear bC); (try clear cC); (try clear dC); (try clear eC); (try clear fC); (try clear gC); (try clear hC); (try clear QC); (try clear RC); (try clear SC); (try clear TC); (try clear UC); (try clear VC); (try clear WC); (try clear XC); (try clear YC); (try clear ZC); (try clear nD); (try clear xD); (try clear p2); (try clear p28); (try clear p284); (try clear p296); (try clear p6); (try clear q2); (try clear q28); (try clear q284); (try clear q296)
             obtain ⟨kq, iC, jC, kC, lC, mC, nC, oC, pC, qC, rC, HA, HJ31, vA, yA, tA, cA, hA, aA, HB⟩ := hcut
             cases kq with
             | zero => exact absurd HA.out (by simp [laws_FnStackOne.j3])
             | succ kj31 =>
              have H := HA.out
              clear HA
              simp only [laws_FnStackOne.j3] at H
              have H' := Aside0.mk H
              clear H
              go_wp2
              repeat (go_quiet (fail); try go_wp2)
              go_loopg [11] kj31 (fun kq v11 w' => ∃ (zC : Int) (jA : List Int) (iA : Int) (fA : Int) (oA : Int) (nA : Int) (mA : Int) (lA : Int) (kA : Int) (eA : Int) (gA : Int) (pA : Bool) (dA : Value), v11 = .int .i64 zC ∧ Aside0 (laws_FnStackOne.l1 kq (wrap64 (1 + AA)) wA zA zC qA (qA.length : Int) BA jA iA fA oA nA mA lA kA eA gA pA = some true) ∧ Aside0 (kq ≤ kj31) ∧ Aside0 (Kd.Q (Kd.int .i64) 3 w' w.heap.size (fun k_ => some k_ ≠ (u7 : Value).ownBlock ∧ some k_ ≠ ((.slice (some ad284) qA.length IA) : Value).ownBlock ∧ some k_ ≠ (dA : Value).ownBlock) u6 wA) ∧ Aside0 (Kd.R (Kd.int .i64) 3 w' w.heap.size (fun k_ => some k_ ≠ (u6 : Value).ownBlock ∧ some k_ ≠ ((.slice (some ad284) qA.length IA) : Value).ownBlock ∧ some k_ ≠ (dA : Value).ownBlock) u7 zA) ∧ Aside0 (Kd.R (Kd.int .i64) 3 w' w.heap.size (fun k_ => some k_ ≠ (u6 : Value).ownBlock ∧ some k_ ≠ (u7 : Value).ownBlock ∧ some k_ ≠ (dA : Value).ownBlock) (.slice (some ad284) qA.length IA) qA) ∧ Aside0 (Kd.R (Kd.int .i64) 3 w' w.heap.size (fun k_ => some k_ ≠ (u6 : Value).ownBlock ∧ some k_ ≠ (u7 : Value).ownBlock ∧ some k_ ≠ ((.slice (some ad284) qA.length IA) : Value).ownBlock) dA jA) ∧ Aside0 (w'.heap[sA]? = some (.cells #[dA] 29 (0, 0))) ∧ Aside0 (w'.heap[bA]? = some (.cells #[.int .i64 iA, .int .i64 fA, .int .i64 oA, .int .i64 nA, .int .i64 mA, .int .i64 lA, .int .i64 kA, .int .i64 eA, .int .i64 gA, .bool pA] 23 (0, 0))) ∧ Aside0 (Below w.heap.size w w'))
              case atStart => exact ⟨(0), (OA), (iC), (jC), (kC), (lC), (mC), (nC), (oC), (pC), (qC), (rC), (dA), q7_28, H', ⟨Nat.le_refl _⟩, ⟨q7_3⟩, ⟨q7_7⟩, ⟨q7_6⟩, ⟨q7_2⟩, ⟨q7_1⟩, ⟨q7_5⟩, ⟨q7_0⟩⟩
              case round =>
               clear H'
               (try clear c1); (try clear c2); (try clear JE); (try clear KE); (try clear p2); (try clear q2); (try clear hx2); (try clear c3); (try clear c4); (try clear p6); (try clear c13); (try clear c15); (try clear c21); (try clear GD); (try clear c22); (try clear LE); (try clear c23); (try clear ME); (try clear c28); (try clear p28); (try clear q28); (try clear hx28); (try clear p29); (try clear q29); (try clear hx29); (try clear c30); (try clear fD); (try clear HD); (try clear c33); (try clear c35); (try clear ID); (try clear c36); (try clear VE); (try clear c40); (try clear sB); (try clear OB); (try clear PB); (try clear QB); (try clear RB); (try clear SB); (try clear TB); (try clear UB); (try clear VB); (try clear WB); (try clear XB); (try clear GC); (try clear HC); (try clear IC); (try clear JC); (try clear KC); (try clear LC); (try clear MC); (try clear NC); (try clear OC); (try clear PC); (try clear tB); (try clear YB); (try clear ZB); (try clear aC); (try clear bC); (try clear cC); (try clear dC); (try clear eC); (try clear fC); (try clear gC); (try clear hC); (try clear QC); (try clear RC); (try clear SC); (try clear TC); (try clear UC); (try clear VC); (try clear WC); (try clear XC); (try clear YC); (try clear ZC); (try clear nD); (try clear xD); (try clear p2); (try clear p28); (try clear p284); (try clear p29); (try clear p296); (try clear p6); (try clear q2); (try clear q28); (try clear q284); (try clear q29); (try clear q296)
               obtain ⟨zC, jA, iA, fA, oA, nA, mA, lA, kA, eA, gA, pA, dA, rfl, HA, HK5, vA, yA, tA, cA, hA, aA, HB⟩ := hrel
               cases gk with
               | zero => exact absurd HA.out (by simp [laws_FnStackOne.l1])
               | succ k5 =>
                have H := HA.out
                clear HA
                simp only [laws_FnStackOne.l1] at H
                have HC42 := Aside0.mk H
                clear H
                go_upto_region 16 with (fail)
                repeat (go_quiet (fail); go_upto_region 16 with (fail))
                go_cut [67] (fun v67 wc => ∃ (kq : Nat) (ND : Bool), v67 = .bool ND ∧ Aside0 (laws_FnStackOne.j5 kq (wrap64 (1 + AA)) wA zA zC qA (qA.length : Int) BA ND jA iA fA oA nA mA lA kA eA gA pA = some true) ∧ Aside0 (kq ≤ k5) ∧ Aside0 (Kd.Q (Kd.int .i64) 3 wc w.heap.size (fun k_ => some k_ ≠ (u7 : Value).ownBlock ∧ some k_ ≠ ((.slice (some ad284) qA.length IA) : Value).ownBlock ∧ some k_ ≠ (dA : Value).ownBlock) u6 wA) ∧ Aside0 (Kd.R (Kd.int .i64) 3 wc w.heap.size (fun k_ => some k_ ≠ (u6 : Value).ownBlock ∧ some k_ ≠ ((.slice (some ad284) qA.length IA) : Value).ownBlock ∧ some k_ ≠ (dA : Value).ownBlock) u7 zA) ∧ Aside0 (Kd.R (Kd.int .i64) 3 wc w.heap.size (fun k_ => some k_ ≠ (u6 : Value).ownBlock ∧ some k_ ≠ (u7 : Value).ownBlock ∧ some k_ ≠ (dA : Value).ownBlock) (.slice (some ad284) qA.length IA) qA) ∧ Aside0 (Kd.R (Kd.int .i64) 3 wc w.heap.size (fun k_ => some k_ ≠ (u6 : Value).ownBlock ∧ some k_ ≠ (u7 : Value).ownBlock ∧ some k_ ≠ ((.slice (some ad284) qA.length IA) : Value).ownBlock) dA jA) ∧ Aside0 (wc.heap[sA]? = some (.cells #[dA] 29 (0, 0))) ∧ Aside0 (wc.heap[bA]? = some (.cells #[.int .i64 iA, .int .i64 fA, .int .i64 oA, .int .i64 nA, .int .i64 mA, .int .i64 lA, .int .i64 kA, .int .i64 eA, .int .i64 gA, .bool pA] 23 (0, 0))) ∧ Aside0 (Below w.heap.size w wc))
                case first =>
                 have H := HC42.out
                 clear HC42
                 by_cases c43 : zC < 4
                 ·rw [if_pos c43] at H
                  have zD : decide (zC < 4) = true := decide_eq_true c43
                  clear c43
                  (first | rw [zD] | (simp only [i64_w, i32_w]; rw [zD]) | skip)
                  have H' := Aside0.mk H
                  clear H
                  have BI := KA.out
                  have CI := uA.out
                  have WE : wr.cell? ⟨bA, 0, none⟩ = some (.int .i64 iA) := (blk_cell aA.out 0).trans rfl
                  have XE : wr.cell? ⟨bA, 1, none⟩ = some (.int .i64 fA) := (blk_cell aA.out 1).trans rfl
                  have YE : wr.cell? ⟨bA, 2, none⟩ = some (.int .i64 oA) := (blk_cell aA.out 2).trans rfl
                  have ZE : wr.cell? ⟨bA, 3, none⟩ = some (.int .i64 nA) := (blk_cell aA.out 3).trans rfl
                  have bF : wr.cell? ⟨bA, 4, none⟩ = some (.int .i64 mA) := (blk_cell aA.out 4).trans rfl
                  have cF : wr.cell? ⟨bA, 5, none⟩ = some (.int .i64 lA) := (blk_cell aA.out 5).trans rfl
                  have dF : wr.cell? ⟨bA, 6, none⟩ = some (.int .i64 kA) := (blk_cell aA.out 6).trans rfl
                  have eF : wr.cell? ⟨bA, 7, none⟩ = some (.int .i64 eA) := (blk_cell aA.out 7).trans rfl
                  have fF : wr.cell? ⟨bA, 8, none⟩ = some (.int .i64 gA) := (blk_cell aA.out 8).trans rfl
                  have gF : wr.cell? ⟨bA, 9, none⟩ = some (.bool pA) := (blk_cell aA.out 9).trans rfl
                  have hF := blk_frozen aA.out 0
                  have iF := blk_frozen aA.out 1
                  have jF := blk_frozen aA.out 2
                  have kF := blk_frozen aA.out 3
                  have lF := blk_frozen aA.out 4
                  have mF := blk_frozen aA.out 5
                  have nF := blk_frozen aA.out 6
                  have oF := blk_frozen aA.out 7
                  have pF := blk_frozen aA.out 8
                  have qF := blk_frozen aA.out 9
                  go_wp2
                  repeat (go_quiet (fail); try go_wp2)
                  go_meet
                  case rel => exact ⟨_, (!pA), q7_28, H', ⟨by have := HJ5.out; have := HK2.out; have := HJ24.out; have := HJ31.out; have := HK5.out; first | omega | exact Nat.le_refl _⟩, ⟨q7_3⟩, ⟨q7_7⟩, ⟨q7_6⟩, ⟨q7_2⟩, ⟨q7_1⟩, ⟨q7_5⟩, ⟨q7_0⟩⟩
                 ·rw [if_neg c43] at H
                  have zD : decide (zC < 4) = false := decide_eq_false c43
                  clear c43
                  (first | rw [zD] | (simp only [i64_w, i32_w]; rw [zD]) | skip)
                  have H' := Aside0.mk H
                  clear H
                  go_wp2
                  repeat (go_quiet (fail); try go_wp2)
                  go_meet
                  case rel => exact ⟨_, (false), q7_28, H', ⟨by have := HJ5.out; have := HK2.out; have := HJ24.out; have := HJ31.out; have := HK5.out; first | omega | exact Nat.le_refl _⟩, ⟨q7_3⟩, ⟨q7_7⟩, ⟨q7_6⟩, ⟨q7_2⟩, ⟨q7_1⟩, ⟨q7_5⟩, ⟨q7_0⟩⟩
                case rest =>
                 clear HC42
                 (try clear c1); (try clear c2); (try clear JE); (try clear KE); (try clear p2); (try clear q2); (try clear hx2); (try clear c3); (try clear c4); (try clear p6); (try clear c13); (try clear c15); (try clear c21); (try clear GD); (try clear c22); (try clear LE); (try clear c23); (try clear ME); (try clear c28); (try clear p28); (try clear q28); (try clear hx28); (try clear p29); (try clear q29); (try clear hx29); (try clear c30); (try clear fD); (try clear HD); (try clear c33); (try clear c35); (try clear ID); (try clear c36); (try clear VE); (try clear c40); (try clear c43); (try clear zD); (try clear c44); (try clear sB); (try clear OB); (try clear PB); (try clear QB); (try clear RB); (try clear SB); (try clear TB); (try clear UB); (try clear VB); (try clear WB); (try clear XB); (try clear GC); (try clear HC); (try clear IC); (try clear JC); (try clear KC); (try clear LC); (try clear MC); (try clear NC); (try clear OC); (try clear PC); (try clear WE); (try clear XE); (try clear YE); (try clear ZE); (try clear bF); (try clear cF); (try clear dF); (try clear eF); (try clear fF); (try clear gF); (try clear tB); (try clear YB); (try clear ZB); (try clear aC); (try clear bC); (try clear cC); (try clear dC); (try clear eC); (try clear fC); (try clear gC); (try clear hC); (try clear QC); (try clear RC); (try clear SC); (try clear TC); (try clear UC); (try clear VC); (try clear WC); (try clear XC); (try clear YC); (try clear ZC); (try clear hF); (try clear iF); (try clear jF); (try clear kF); (try clear lF); (try clear mF); (try clear nF); (try clear oF); (try clear pF); (try clear qF); (try clear nD); (try clear xD); (try clear p2); (try clear p28); (try clear p284); (try clear p29); (try clear p296); (try clear p6); (try clear q2); (try clear q28); (try clear q284); (try clear q29); (try clear q296)
                 obtain ⟨kq, ND, rfl, HA, HJ41, vA, yA, tA, cA, hA, aA, HB⟩ := hcut
                 cases kq with
                 | zero => exact absurd HA.out (by simp [laws_FnStackOne.j5])
                 | succ kj41 =>
                  have H := HA.out
                  clear HA
                  simp only [laws_FnStackOne.j5] at H
                  by_cases c46 : ND = true
                  ·subst c46
                   have H1 : ((impl_StStep.f kj41 (wrap64 (1 + AA)) jA iA fA oA nA mA lA kA eA gA pA).bind fun SA => (if SA.2.2.2.2.2.2.2.2.2.2.2 = true then (laws_FnStackOne.l1 kj41 (wrap64 (1 + AA)) wA zA (wrap64 (zC + 1)) qA (qA.length : Int) BA SA.1 SA.2.1 SA.2.2.1 SA.2.2.2.1 SA.2.2.2.2.1 SA.2.2.2.2.2.1 SA.2.2.2.2.2.2.1 SA.2.2.2.2.2.2.2.1 SA.2.2.2.2.2.2.2.2.1 SA.2.2.2.2.2.2.2.2.2.1 SA.2.2.2.2.2.2.2.2.2.2.1) else (some false))) = some true := by rw [if_pos rfl] at H; exact H
                   clear H
                   have H := H1
                   clear H1
                   replace H := Option.bind_eq_some_iff.mp H
                   obtain ⟨⟨kD, wB, xB, EB, GB, sC, wC, AC, cD, lD, pD, VH⟩, A470, H⟩ := H
                   replace H : (if VH = true then (laws_FnStackOne.l1 kj41 (wrap64 (1 + AA)) wA zA (wrap64 (zC + 1)) qA (qA.length : Int) BA kD wB xB EB GB sC wC AC cD lD pD) else (some false)) = some true := H
                   have A47 := Aside0.mk A470
                   clear A470
                   by_cases c48 : VH = true
                   ·subst c48
                    have H1 : (laws_FnStackOne.l1 kj41 (wrap64 (1 + AA)) wA zA (wrap64 (zC + 1)) qA (qA.length : Int) BA kD wB xB EB GB sC wC AC cD lD pD) = some true := by rw [if_pos rfl] at H; exact H
                    clear H
                    have H := H1
                    clear H1
                    have H' := Aside0.mk H
                    clear H
                    have DI := uA.out
                    have EI := KA.out
                    have JF : wc.cell? ⟨sA, 0, none⟩ = some (dA) := (blk_cell hA.out 0).trans rfl
                    have KF := blk_frozen hA.out 0
                    have LF : wc.cell? ⟨bA, 0, none⟩ = some (.int .i64 iA) := (blk_cell aA.out 0).trans rfl
                    have MF : wc.cell? ⟨bA, 1, none⟩ = some (.int .i64 fA) := (blk_cell aA.out 1).trans rfl
                    have NF : wc.cell? ⟨bA, 2, none⟩ = some (.int .i64 oA) := (blk_cell aA.out 2).trans rfl
                    have OF : wc.cell? ⟨bA, 3, none⟩ = some (.int .i64 nA) := (blk_cell aA.out 3).trans rfl
                    have PF : wc.cell? ⟨bA, 4, none⟩ = some (.int .i64 mA) := (blk_cell aA.out 4).trans rfl
                    have QF : wc.cell? ⟨bA, 5, none⟩ = some (.int .i64 lA) := (blk_cell aA.out 5).trans rfl
                    have RF : wc.cell? ⟨bA, 6, none⟩ = some (.int .i64 kA) := (blk_cell aA.out 6).trans rfl
                    have SF : wc.cell? ⟨bA, 7, none⟩ = some (.int .i64 eA) := (blk_cell aA.out 7).trans rfl
                    have TF : wc.cell? ⟨bA, 8, none⟩ = some (.int .i64 gA) := (blk_cell aA.out 8).trans rfl
                    have UF : wc.cell? ⟨bA, 9, none⟩ = some (.bool pA) := (blk_cell aA.out 9).trans rfl
                    have VF := blk_frozen aA.out 0
                    have WF := blk_frozen aA.out 1
                    have XF := blk_frozen aA.out 2
                    have YF := blk_frozen aA.out 3
                    have ZF := blk_frozen aA.out 4
                    have aG := blk_frozen aA.out 5
                    have bG := blk_frozen aA.out 6
                    have cG := blk_frozen aA.out 7
                    have dG := blk_frozen aA.out 8
                    have eG := blk_frozen aA.out 9
                    obtain ⟨hD, iD, sI⟩ := Kd.R_slice cA.out
                    subst sI
                    go_wp2_with (first | (go_at_call 30; (with_reducible refine (impl_StStep.calls kj41 (wrap64 (1 + AA)) _ _ jA iA fA oA nA mA lA kA eA gA pA kD wB xB EB GB sC wC AC cD lD pD true _ ?side1 ?side2 A47.out).mono ?_); (case side1 => exact q7_20); (case side2 => exact (Kd.R_reads' cA.out).2.1); rintro e FI ⟨WH, rfl, ho0, hb⟩; have CA := Aside0.mk (Kd.Q_elder' q7_3 (Kd.R_base ho0) hb); have DA := Aside0.mk (Kd.R_elder' q7_7 (Kd.R_base ho0) hb); have FA := Aside0.mk (Kd.R_elder' q7_6 (Kd.R_base ho0) hb); have GA := Aside0.mk (Kd.R_elder' q7_2 (Kd.R_base ho0) hb); have JA := Aside0.mk (Kd.R_lower (Kd.R_new' (Kd.R_new' (Kd.R_new' (Kd.R_new' ho0 (Kd.Q_lt q7_3)) (Kd.R_lt q7_7)) (Kd.R_lt q7_6)) (Kd.R_lt q7_2)) (below_size q7_0)); have QA := Aside0.mk (blk_below (g := sA) (o := .cells #[.slice hD jA.length iD] 29 (0, 0)) q7_1 hb); have RA := Aside0.mk (blk_below (g := bA) (o := .cells #[.int .i64 iA, .int .i64 fA, .int .i64 oA, .int .i64 nA, .int .i64 mA, .int .i64 lA, .int .i64 kA, .int .i64 eA, .int .i64 gA, .bool pA] 23 (0, 0)) q7_5 hb); have YA := Aside0.mk (below_step q7_0 hb); clear vA; clear yA; clear tA; clear cA; clear hA; clear aA; clear HB; have vA := CA; have yA := DA; have tA := FA; have cA := GA; have lB := JA; have hA := QA; have aA := RA; have HB := YA; clear CA DA FA GA JA QA RA YA; (try clear hb); (try clear hb2); (try clear hk); (try clear hi); (try clear ho0)) | ((with_reducible refine gate_dst (N := 12) rfl ?_); (try (refine gate_guard (by rfl) ?_; dsimp only)); refine box_event ?hg (N := 12) ?hd (cs := #[.slice none 0 0]) (t := 29) ?hr ?_; (case hd => rfl); (case hg => rfl); (case hr => first | (go_simp; done) | (go_simp; rfl)); intro EA hg GI hbox hb; have CA := Aside0.mk (Kd.Q_below q7_3 hb); have DA := Aside0.mk (Kd.R_below q7_7 hb); have FA := Aside0.mk (Kd.R_below q7_6 hb); have GA := Aside0.mk (Kd.R_below q7_2 hb); have JA := Aside0.mk (Kd.R_below q7_26 hb); have QA := Aside0.mk (blk_below (g := sA) (o := .cells #[.slice hD jA.length iD] 29 (0, 0)) q7_1 hb); have RA := Aside0.mk (blk_below (g := bA) (o := .cells #[.int .i64 iA, .int .i64 fA, .int .i64 oA, .int .i64 nA, .int .i64 mA, .int .i64 lA, .int .i64 kA, .int .i64 eA, .int .i64 gA, .bool pA] 23 (0, 0)) q7_5 hb); have YA := Aside0.mk (below_step q7_0 hb); have uD := Aside0.mk (hbox); have vD := Aside0.mk ((by rw [hg]; exact (below_size q7_0) : w.heap.size ≤ EA)); have oB := Aside0.mk ((by rw [hg]; exact (below_size q7_0) : w.heap.size ≤ EA)); have BC := Aside0.mk ((q7_22 : sA ≠ EA)); have CC := Aside0.mk ((q7_23 : EA ≠ sA)); have DC := Aside0.mk ((q7_13 : bA ≠ EA)); have EC := Aside0.mk ((q7_14 : EA ≠ bA)); clear vA; clear yA; clear tA; clear cA; clear lB; clear hA; clear aA; clear HB; have vA := CA; have yA := DA; have tA := FA; have cA := GA; have lB := JA; have hA := QA; have aA := RA; have HB := YA; have kB := uD; have tH := vD; have SE := oB; have uB := BC; have IB := CC; have vB := DC; have JB := EC; clear CA DA FA GA JA QA RA YA uD vD oB BC CC DC EC; clear hb hbox hg) | ((with_reducible refine gate_dst (N := 13) rfl ?_); (try (refine gate_guard (by rfl) ?_; dsimp only)); refine box_event ?hg (N := 13) ?hd (cs := #[.int .i64 0, .int .i64 0, .int .i64 0, .int .i64 0, .int .i64 0, .int .i64 0, .int .i64 0, .int .i64 0, .int .i64 0, .bool false]) (t := 23) ?hr ?_; (case hd => rfl); (case hg => rfl); (case hr => first | (go_simp; done) | (go_simp; rfl)); intro rA hg VA hbox hb; have CA := Aside0.mk (Kd.Q_below q7_3 hb); have DA := Aside0.mk (Kd.R_below q7_7 hb); have FA := Aside0.mk (Kd.R_below q7_6 hb); have GA := Aside0.mk (Kd.R_below q7_2 hb); have JA := Aside0.mk (Kd.R_below q7_26 hb); have QA := Aside0.mk (blk_below (g := sA) (o := .cells #[.slice hD jA.length iD] 29 (0, 0)) q7_1 hb); have RA := Aside0.mk (blk_below (g := bA) (o := .cells #[.int .i64 iA, .int .i64 fA, .int .i64 oA, .int .i64 nA, .int .i64 mA, .int .i64 lA, .int .i64 kA, .int .i64 eA, .int .i64 gA, .bool pA] 23 (0, 0)) q7_5 hb); have YA := Aside0.mk (blk_below (g := EA) (o := .cells #[.slice none 0 0] 29 (0, 0)) q7_19 hb); have uD := Aside0.mk (below_step q7_12 hb); have vD := Aside0.mk (hbox); have oB := Aside0.mk ((by rw [hg]; exact (below_size q7_12) : w.heap.size ≤ rA)); have BC := Aside0.mk ((by rw [hg]; exact (below_size q7_12) : w.heap.size ≤ rA)); have CC := Aside0.mk ((q7_22 : sA ≠ rA)); have DC := Aside0.mk ((q7_23 : rA ≠ sA)); have EC := Aside0.mk ((q7_13 : bA ≠ rA)); have NE := Aside0.mk ((q7_14 : rA ≠ bA)); have OE := Aside0.mk ((by rw [hg]; exact Nat.ne_of_lt (blk_lt (g := EA) (o := .cells #[.slice none 0 0] 29 (0, 0)) q7_19) : EA ≠ rA)); have PE := Aside0.mk ((by rw [hg]; exact Nat.ne_of_gt (blk_lt (g := EA) (o := .cells #[.slice none 0 0] 29 (0, 0)) q7_19) : rA ≠ EA)); clear vA; clear yA; clear tA; clear cA; clear lB; clear hA; clear aA; clear kB; clear HB; have vA := CA; have yA := DA; have tA := FA; have cA := GA; have lB := JA; have hA := QA; have aA := RA; have kB := YA; have HB := uD; have xA := vD; have uH := oB; have yF := BC; have LA := CC; have KB := DC; have MA := EC; have LB := NE; have MB := OE; have NB := PE; clear CA DA FA GA JA QA RA YA uD vD oB BC CC DC EC NE OE PE; clear hb hbox hg; obtain ⟨AD, BD, zF⟩ := Kd.R_slice lB.out; subst zF; have vH := IB.out; have wH := uB.out; have xH := JB.out; have yH := vB.out; have zH := MB.out; have AH := NB.out; have OD : VA.cell? ⟨EA, 0, none⟩ = some (.slice none 0 0) := (blk_cell kB.out 0).trans rfl; have PD := blk_frozen kB.out 0; have BH := KB.out; have CH := LA.out; have DH := LB.out; have EH := MA.out; have QD : VA.cell? ⟨rA, 0, none⟩ = some (.int .i64 0) := (blk_cell xA.out 0).trans rfl; have RD : VA.cell? ⟨rA, 1, none⟩ = some (.int .i64 0) := (blk_cell xA.out 1).trans rfl; have SD : VA.cell? ⟨rA, 2, none⟩ = some (.int .i64 0) := (blk_cell xA.out 2).trans rfl; have TD : VA.cell? ⟨rA, 3, none⟩ = some (.int .i64 0) := (blk_cell xA.out 3).trans rfl; have UD : VA.cell? ⟨rA, 4, none⟩ = some (.int .i64 0) := (blk_cell xA.out 4).trans rfl; have VD : VA.cell? ⟨rA, 5, none⟩ = some (.int .i64 0) := (blk_cell xA.out 5).trans rfl; have WD : VA.cell? ⟨rA, 6, none⟩ = some (.int .i64 0) := (blk_cell xA.out 6).trans rfl; have XD : VA.cell? ⟨rA, 7, none⟩ = some (.int .i64 0) := (blk_cell xA.out 7).trans rfl; have YD : VA.cell? ⟨rA, 8, none⟩ = some (.int .i64 0) := (blk_cell xA.out 8).trans rfl; have ZD : VA.cell? ⟨rA, 9, none⟩ = some (.bool false) := (blk_cell xA.out 9).trans rfl; have aE := blk_frozen xA.out 0; have bE := blk_frozen xA.out 1; have cE := blk_frozen xA.out 2; have dE := blk_frozen xA.out 3; have eE := blk_frozen xA.out 4; have fE := blk_frozen xA.out 5; have gE := blk_frozen xA.out 6; have hE := blk_frozen xA.out 7; have iE := blk_frozen xA.out 8; have jE := blk_frozen xA.out 9; have kE : VA.cell? ⟨sA, 0, none⟩ = some (.slice hD jA.length iD) := (blk_cell hA.out 0).trans rfl; have lE := blk_frozen hA.out 0; have mE : VA.cell? ⟨bA, 0, none⟩ = some (.int .i64 iA) := (blk_cell aA.out 0).trans rfl; have nE : VA.cell? ⟨bA, 1, none⟩ = some (.int .i64 fA) := (blk_cell aA.out 1).trans rfl; have oE : VA.cell? ⟨bA, 2, none⟩ = some (.int .i64 oA) := (blk_cell aA.out 2).trans rfl; have pE : VA.cell? ⟨bA, 3, none⟩ = some (.int .i64 nA) := (blk_cell aA.out 3).trans rfl; have qE : VA.cell? ⟨bA, 4, none⟩ = some (.int .i64 mA) := (blk_cell aA.out 4).trans rfl; have rE : VA.cell? ⟨bA, 5, none⟩ = some (.int .i64 lA) := (blk_cell aA.out 5).trans rfl; have sE : VA.cell? ⟨bA, 6, none⟩ = some (.int .i64 kA) := (blk_cell aA.out 6).trans rfl; have tE : VA.cell? ⟨bA, 7, none⟩ = some (.int .i64 eA) := (blk_cell aA.out 7).trans rfl; have uE : VA.cell? ⟨bA, 8, none⟩ = some (.int .i64 gA) := (blk_cell aA.out 8).trans rfl; have vE : VA.cell? ⟨bA, 9, none⟩ = some (.bool pA) := (blk_cell aA.out 9).trans rfl; have wE := blk_frozen aA.out 0; have xE := blk_frozen aA.out 1; have yE := blk_frozen aA.out 2; have zE := blk_frozen aA.out 3; have AE := blk_frozen aA.out 4; have BE := blk_frozen aA.out 5; have CE := blk_frozen aA.out 6; have DE := blk_frozen aA.out 7; have EE := blk_frozen aA.out 8; have FE := blk_frozen aA.out 9))
                    repeat (go_quiet (first | (go_at_call 30; (with_reducible refine (impl_StStep.calls kj41 (wrap64 (1 + AA)) _ _ jA iA fA oA nA mA lA kA eA gA pA kD wB xB EB GB sC wC AC cD lD pD true _ ?side1 ?side2 A47.out).mono ?_); (case side1 => exact q7_20); (case side2 => exact (Kd.R_reads' cA.out).2.1); rintro e FI ⟨WH, rfl, ho0, hb⟩; have CA := Aside0.mk (Kd.Q_elder' q7_3 (Kd.R_base ho0) hb); have DA := Aside0.mk (Kd.R_elder' q7_7 (Kd.R_base ho0) hb); have FA := Aside0.mk (Kd.R_elder' q7_6 (Kd.R_base ho0) hb); have GA := Aside0.mk (Kd.R_elder' q7_2 (Kd.R_base ho0) hb); have JA := Aside0.mk (Kd.R_lower (Kd.R_new' (Kd.R_new' (Kd.R_new' (Kd.R_new' ho0 (Kd.Q_lt q7_3)) (Kd.R_lt q7_7)) (Kd.R_lt q7_6)) (Kd.R_lt q7_2)) (below_size q7_0)); have QA := Aside0.mk (blk_below (g := sA) (o := .cells #[.slice hD jA.length iD] 29 (0, 0)) q7_1 hb); have RA := Aside0.mk (blk_below (g := bA) (o := .cells #[.int .i64 iA, .int .i64 fA, .int .i64 oA, .int .i64 nA, .int .i64 mA, .int .i64 lA, .int .i64 kA, .int .i64 eA, .int .i64 gA, .bool pA] 23 (0, 0)) q7_5 hb); have YA := Aside0.mk (below_step q7_0 hb); clear vA; clear yA; clear tA; clear cA; clear hA; clear aA; clear HB; have vA := CA; have yA := DA; have tA := FA; have cA := GA; have lB := JA; have hA := QA; have aA := RA; have HB := YA; clear CA DA FA GA JA QA RA YA; (try clear hb); (try clear hb2); (try clear hk); (try clear hi); (try clear ho0)) | ((with_reducible refine gate_dst (N := 12) rfl ?_); (try (refine gate_guard (by rfl) ?_; dsimp only)); refine box_event ?hg (N := 12) ?hd (cs := #[.slice none 0 0]) (t := 29) ?hr ?_; (case hd => rfl); (case hg => rfl); (case hr => first | (go_simp; done) | (go_simp; rfl)); intro EA hg GI hbox hb; have CA := Aside0.mk (Kd.Q_below q7_3 hb); have DA := Aside0.mk (Kd.R_below q7_7 hb); have FA := Aside0.mk (Kd.R_below q7_6 hb); have GA := Aside0.mk (Kd.R_below q7_2 hb); have JA := Aside0.mk (Kd.R_below q7_26 hb); have QA := Aside0.mk (blk_below (g := sA) (o := .cells #[.slice hD jA.length iD] 29 (0, 0)) q7_1 hb); have RA := Aside0.mk (blk_below (g := bA) (o := .cells #[.int .i64 iA, .int .i64 fA, .int .i64 oA, .int .i64 nA, .int .i64 mA, .int .i64 lA, .int .i64 kA, .int .i64 eA, .int .i64 gA, .bool pA] 23 (0, 0)) q7_5 hb); have YA := Aside0.mk (below_step q7_0 hb); have uD := Aside0.mk (hbox); have vD := Aside0.mk ((by rw [hg]; exact (below_size q7_0) : w.heap.size ≤ EA)); have oB := Aside0.mk ((by rw [hg]; exact (below_size q7_0) : w.heap.size ≤ EA)); have BC := Aside0.mk ((q7_22 : sA ≠ EA)); have CC := Aside0.mk ((q7_23 : EA ≠ sA)); have DC := Aside0.mk ((q7_13 : bA ≠ EA)); have EC := Aside0.mk ((q7_14 : EA ≠ bA)); clear vA; clear yA; clear tA; clear cA; clear lB; clear hA; clear aA; clear HB; have vA := CA; have yA := DA; have tA := FA; have cA := GA; have lB := JA; have hA := QA; have aA := RA; have HB := YA; have kB := uD; have tH := vD; have SE := oB; have uB := BC; have IB := CC; have vB := DC; have JB := EC; clear CA DA FA GA JA QA RA YA uD vD oB BC CC DC EC; clear hb hbox hg) | ((with_reducible refine gate_dst (N := 13) rfl ?_); (try (refine gate_guard (by rfl) ?_; dsimp only)); refine box_event ?hg (N := 13) ?hd (cs := #[.int .i64 0, .int .i64 0, .int .i64 0, .int .i64 0, .int .i64 0, .int .i64 0, .int .i64 0, .int .i64 0, .int .i64 0, .bool false]) (t := 23) ?hr ?_; (case hd => rfl); (case hg => rfl); (case hr => first | (go_simp; done) | (go_simp; rfl)); intro rA hg VA hbox hb; have CA := Aside0.mk (Kd.Q_below q7_3 hb); have DA := Aside0.mk (Kd.R_below q7_7 hb); have FA := Aside0.mk (Kd.R_below q7_6 hb); have GA := Aside0.mk (Kd.R_below q7_2 hb); have JA := Aside0.mk (Kd.R_below q7_26 hb); have QA := Aside0.mk (blk_below (g := sA) (o := .cells #[.slice hD jA.length iD] 29 (0, 0)) q7_1 hb); have RA := Aside0.mk (blk_below (g := bA) (o := .cells #[.int .i64 iA, .int .i64 fA, .int .i64 oA, .int .i64 nA, .int .i64 mA, .int .i64 lA, .int .i64 kA, .int .i64 eA, .int .i64 gA, .bool pA] 23 (0, 0)) q7_5 hb); have YA := Aside0.mk (blk_below (g := EA) (o := .cells #[.slice none 0 0] 29 (0, 0)) q7_19 hb); have uD := Aside0.mk (below_step q7_12 hb); have vD := Aside0.mk (hbox); have oB := Aside0.mk ((by rw [hg]; exact (below_size q7_12) : w.heap.size ≤ rA)); have BC := Aside0.mk ((by rw [hg]; exact (below_size q7_12) : w.heap.size ≤ rA)); have CC := Aside0.mk ((q7_22 : sA ≠ rA)); have DC := Aside0.mk ((q7_23 : rA ≠ sA)); have EC := Aside0.mk ((q7_13 : bA ≠ rA)); have NE := Aside0.mk ((q7_14 : rA ≠ bA)); have OE := Aside0.mk ((by rw [hg]; exact Nat.ne_of_lt (blk_lt (g := EA) (o := .cells #[.slice none 0 0] 29 (0, 0)) q7_19) : EA ≠ rA)); have PE := Aside0.mk ((by rw [hg]; exact Nat.ne_of_gt (blk_lt (g := EA) (o := .cells #[.slice none 0 0] 29 (0, 0)) q7_19) : rA ≠ EA)); clear vA; clear yA; clear tA; clear cA; clear lB; clear hA; clear aA; clear kB; clear HB; have vA := CA; have yA := DA; have tA := FA; have cA := GA; have lB := JA; have hA := QA; have aA := RA; have kB := YA; have HB := uD; have xA := vD; have uH := oB; have yF := BC; have LA := CC; have KB := DC; have MA := EC; have LB := NE; have MB := OE; have NB := PE; clear CA DA FA GA JA QA RA YA uD vD oB BC CC DC EC NE OE PE; clear hb hbox hg; obtain ⟨AD, BD, zF⟩ := Kd.R_slice lB.out; subst zF; have vH := IB.out; have wH := uB.out; have xH := JB.out; have yH := vB.out; have zH := MB.out; have AH := NB.out; have OD : VA.cell? ⟨EA, 0, none⟩ = some (.slice none 0 0) := (blk_cell kB.out 0).trans rfl; have PD := blk_frozen kB.out 0; have BH := KB.out; have CH := LA.out; have DH := LB.out; have EH := MA.out; have QD : VA.cell? ⟨rA, 0, none⟩ = some (.int .i64 0) := (blk_cell xA.out 0).trans rfl; have RD : VA.cell? ⟨rA, 1, none⟩ = some (.int .i64 0) := (blk_cell xA.out 1).trans rfl; have SD : VA.cell? ⟨rA, 2, none⟩ = some (.int .i64 0) := (blk_cell xA.out 2).trans rfl; have TD : VA.cell? ⟨rA, 3, none⟩ = some (.int .i64 0) := (blk_cell xA.out 3).trans rfl; have UD : VA.cell? ⟨rA, 4, none⟩ = some (.int .i64 0) := (blk_cell xA.out 4).trans rfl; have VD : VA.cell? ⟨rA, 5, none⟩ = some (.int .i64 0) := (blk_cell xA.out 5).trans rfl; have WD : VA.cell? ⟨rA, 6, none⟩ = some (.int .i64 0) := (blk_cell xA.out 6).trans rfl; have XD : VA.cell? ⟨rA, 7, none⟩ = some (.int .i64 0) := (blk_cell xA.out 7).trans rfl; have YD : VA.cell? ⟨rA, 8, none⟩ = some (.int .i64 0) := (blk_cell xA.out 8).trans rfl; have ZD : VA.cell? ⟨rA, 9, none⟩ = some (.bool false) := (blk_cell xA.out 9).trans rfl; have aE := blk_frozen xA.out 0; have bE := blk_frozen xA.out 1; have cE := blk_frozen xA.out 2; have dE := blk_frozen xA.out 3; have eE := blk_frozen xA.out 4; have fE := blk_frozen xA.out 5; have gE := blk_frozen xA.out 6; have hE := blk_frozen xA.out 7; have iE := blk_frozen xA.out 8; have jE := blk_frozen xA.out 9; have kE : VA.cell? ⟨sA, 0, none⟩ = some (.slice hD jA.length iD) := (blk_cell hA.out 0).trans rfl; have lE := blk_frozen hA.out 0; have mE : VA.cell? ⟨bA, 0, none⟩ = some (.int .i64 iA) := (blk_cell aA.out 0).trans rfl; have nE : VA.cell? ⟨bA, 1, none⟩ = some (.int .i64 fA) := (blk_cell aA.out 1).trans rfl; have oE : VA.cell? ⟨bA, 2, none⟩ = some (.int .i64 oA) := (blk_cell aA.out 2).trans rfl; have pE : VA.cell? ⟨bA, 3, none⟩ = some (.int .i64 nA) := (blk_cell aA.out 3).trans rfl; have qE : VA.cell? ⟨bA, 4, none⟩ = some (.int .i64 mA) := (blk_cell aA.out 4).trans rfl; have rE : VA.cell? ⟨bA, 5, none⟩ = some (.int .i64 lA) := (blk_cell aA.out 5).trans rfl; have sE : VA.cell? ⟨bA, 6, none⟩ = some (.int .i64 kA) := (blk_cell aA.out 6).trans rfl; have tE : VA.cell? ⟨bA, 7, none⟩ = some (.int .i64 eA) := (blk_cell aA.out 7).trans rfl; have uE : VA.cell? ⟨bA, 8, none⟩ = some (.int .i64 gA) := (blk_cell aA.out 8).trans rfl; have vE : VA.cell? ⟨bA, 9, none⟩ = some (.bool pA) := (blk_cell aA.out 9).trans rfl; have wE := blk_frozen aA.out 0; have xE := blk_frozen aA.out 1; have yE := blk_frozen aA.out 2; have zE := blk_frozen aA.out 3; have AE := blk_frozen aA.out 4; have BE := blk_frozen aA.out 5; have CE := blk_frozen aA.out 6; have DE := blk_frozen aA.out 7; have EE := blk_frozen aA.out 8; have FE := blk_frozen aA.out 9)); try go_wp2_with (first | (go_at_call 30; (with_reducible refine (impl_StStep.calls kj41 (wrap64 (1 + AA)) _ _ jA iA fA oA nA mA lA kA eA gA pA kD wB xB EB GB sC wC AC cD lD pD true _ ?side1 ?side2 A47.out).mono ?_); (case side1 => exact q7_20); (case side2 => exact (Kd.R_reads' cA.out).2.1); rintro e FI ⟨WH, rfl, ho0, hb⟩; have CA := Aside0.mk (Kd.Q_elder' q7_3 (Kd.R_base ho0) hb); have DA := Aside0.mk (Kd.R_elder' q7_7 (Kd.R_base ho0) hb); have FA := Aside0.mk (Kd.R_elder' q7_6 (Kd.R_base ho0) hb); have GA := Aside0.mk (Kd.R_elder' q7_2 (Kd.R_base ho0) hb); have JA := Aside0.mk (Kd.R_lower (Kd.R_new' (Kd.R_new' (Kd.R_new' (Kd.R_new' ho0 (Kd.Q_lt q7_3)) (Kd.R_lt q7_7)) (Kd.R_lt q7_6)) (Kd.R_lt q7_2)) (below_size q7_0)); have QA := Aside0.mk (blk_below (g := sA) (o := .cells #[.slice hD jA.length iD] 29 (0, 0)) q7_1 hb); have RA := Aside0.mk (blk_below (g := bA) (o := .cells #[.int .i64 iA, .int .i64 fA, .int .i64 oA, .int .i64 nA, .int .i64 mA, .int .i64 lA, .int .i64 kA, .int .i64 eA, .int .i64 gA, .bool pA] 23 (0, 0)) q7_5 hb); have YA := Aside0.mk (below_step q7_0 hb); clear vA; clear yA; clear tA; clear cA; clear hA; clear aA; clear HB; have vA := CA; have yA := DA; have tA := FA; have cA := GA; have lB := JA; have hA := QA; have aA := RA; have HB := YA; clear CA DA FA GA JA QA RA YA; (try clear hb); (try clear hb2); (try clear hk); (try clear hi); (try clear ho0)) | ((with_reducible refine gate_dst (N := 12) rfl ?_); (try (refine gate_guard (by rfl) ?_; dsimp only)); refine box_event ?hg (N := 12) ?hd (cs := #[.slice none 0 0]) (t := 29) ?hr ?_; (case hd => rfl); (case hg => rfl); (case hr => first | (go_simp; done) | (go_simp; rfl)); intro EA hg GI hbox hb; have CA := Aside0.mk (Kd.Q_below q7_3 hb); have DA := Aside0.mk (Kd.R_below q7_7 hb); have FA := Aside0.mk (Kd.R_below q7_6 hb); have GA := Aside0.mk (Kd.R_below q7_2 hb); have JA := Aside0.mk (Kd.R_below q7_26 hb); have QA := Aside0.mk (blk_below (g := sA) (o := .cells #[.slice hD jA.length iD] 29 (0, 0)) q7_1 hb); have RA := Aside0.mk (blk_below (g := bA) (o := .cells #[.int .i64 iA, .int .i64 fA, .int .i64 oA, .int .i64 nA, .int .i64 mA, .int .i64 lA, .int .i64 kA, .int .i64 eA, .int .i64 gA, .bool pA] 23 (0, 0)) q7_5 hb); have YA := Aside0.mk (below_step q7_0 hb); have uD := Aside0.mk (hbox); have vD := Aside0.mk ((by rw [hg]; exact (below_size q7_0) : w.heap.size ≤ EA)); have oB := Aside0.mk ((by rw [hg]; exact (below_size q7_0) : w.heap.size ≤ EA)); have BC := Aside0.mk ((q7_22 : sA ≠ EA)); have CC := Aside0.mk ((q7_23 : EA ≠ sA)); have DC := Aside0.mk ((q7_13 : bA ≠ EA)); have EC := Aside0.mk ((q7_14 : EA ≠ bA)); clear vA; clear yA; clear tA; clear cA; clear lB; clear hA; clear aA; clear HB; have vA := CA; have yA := DA; have tA := FA; have cA := GA; have lB := JA; have hA := QA; have aA := RA; have HB := YA; have kB := uD; have tH := vD; have SE := oB; have uB := BC; have IB := CC; have vB := DC; have JB := EC; clear CA DA FA GA JA QA RA YA uD vD oB BC CC DC EC; clear hb hbox hg) | ((with_reducible refine gate_dst (N := 13) rfl ?_); (try (refine gate_guard (by rfl) ?_; dsimp only)); refine box_event ?hg (N := 13) ?hd (cs := #[.int .i64 0, .int .i64 0, .int .i64 0, .int .i64 0, .int .i64 0, .int .i64 0, .int .i64 0, .int .i64 0, .int .i64 0, .bool false]) (t := 23) ?hr ?_; (case hd => rfl); (case hg => rfl); (case hr => first | (go_simp; done) | (go_simp; rfl)); intro rA hg VA hbox hb; have CA := Aside0.mk (Kd.Q_below q7_3 hb); have DA := Aside0.mk (Kd.R_below q7_7 hb); have FA := Aside0.mk (Kd.R_below q7_6 hb); have GA := Aside0.mk (Kd.R_below q7_2 hb); have JA := Aside0.mk (Kd.R_below q7_26 hb); have QA := Aside0.mk (blk_below (g := sA) (o := .cells #[.slice hD jA.length iD] 29 (0, 0)) q7_1 hb); have RA := Aside0.mk (blk_below (g := bA) (o := .cells #[.int .i64 iA, .int .i64 fA, .int .i64 oA, .int .i64 nA, .int .i64 mA, .int .i64 lA, .int .i64 kA, .int .i64 eA, .int .i64 gA, .bool pA] 23 (0, 0)) q7_5 hb); have YA := Aside0.mk (blk_below (g := EA) (o := .cells #[.slice none 0 0] 29 (0, 0)) q7_19 hb); have uD := Aside0.mk (below_step q7_12 hb); have vD := Aside0.mk (hbox); have oB := Aside0.mk ((by rw [hg]; exact (below_size q7_12) : w.heap.size ≤ rA)); have BC := Aside0.mk ((by rw [hg]; exact (below_size q7_12) : w.heap.size ≤ rA)); have CC := Aside0.mk ((q7_22 : sA ≠ rA)); have DC := Aside0.mk ((q7_23 : rA ≠ sA)); have EC := Aside0.mk ((q7_13 : bA ≠ rA)); have NE := Aside0.mk ((q7_14 : rA ≠ bA)); have OE := Aside0.mk ((by rw [hg]; exact Nat.ne_of_lt (blk_lt (g := EA) (o := .cells #[.slice none 0 0] 29 (0, 0)) q7_19) : EA ≠ rA)); have PE := Aside0.mk ((by rw [hg]; exact Nat.ne_of_gt (blk_lt (g := EA) (o := .cells #[.slice none 0 0] 29 (0, 0)) q7_19) : rA ≠ EA)); clear vA; clear yA; clear tA; clear cA; clear lB; clear hA; clear aA; clear kB; clear HB; have vA := CA; have yA := DA; have tA := FA; have cA := GA; have lB := JA; have hA := QA; have aA := RA; have kB := YA; have HB := uD; have xA := vD; have uH := oB; have yF := BC; have LA := CC; have KB := DC; have MA := EC; have LB := NE; have MB := OE; have NB := PE; clear CA DA FA GA JA QA RA YA uD vD oB BC CC DC EC NE OE PE; clear hb hbox hg; obtain ⟨AD, BD, zF⟩ := Kd.R_slice lB.out; subst zF; have vH := IB.out; have wH := uB.out; have xH := JB.out; have yH := vB.out; have zH := MB.out; have AH := NB.out; have OD : VA.cell? ⟨EA, 0, none⟩ = some (.slice none 0 0) := (blk_cell kB.out 0).trans rfl; have PD := blk_frozen kB.out 0; have BH := KB.out; have CH := LA.out; have DH := LB.out; have EH := MA.out; have QD : VA.cell? ⟨rA, 0, none⟩ = some (.int .i64 0) := (blk_cell xA.out 0).trans rfl; have RD : VA.cell? ⟨rA, 1, none⟩ = some (.int .i64 0) := (blk_cell xA.out 1).trans rfl; have SD : VA.cell? ⟨rA, 2, none⟩ = some (.int .i64 0) := (blk_cell xA.out 2).trans rfl; have TD : VA.cell? ⟨rA, 3, none⟩ = some (.int .i64 0) := (blk_cell xA.out 3).trans rfl; have UD : VA.cell? ⟨rA, 4, none⟩ = some (.int .i64 0) := (blk_cell xA.out 4).trans rfl; have VD : VA.cell? ⟨rA, 5, none⟩ = some (.int .i64 0) := (blk_cell xA.out 5).trans rfl; have WD : VA.cell? ⟨rA, 6, none⟩ = some (.int .i64 0) := (blk_cell xA.out 6).trans rfl; have XD : VA.cell? ⟨rA, 7, none⟩ = some (.int .i64 0) := (blk_cell xA.out 7).trans rfl; have YD : VA.cell? ⟨rA, 8, none⟩ = some (.int .i64 0) := (blk_cell xA.out 8).trans rfl; have ZD : VA.cell? ⟨rA, 9, none⟩ = some (.bool false) := (blk_cell xA.out 9).trans rfl; have aE := blk_frozen xA.out 0; have bE := blk_frozen xA.out 1; have cE := blk_frozen xA.out 2; have dE := blk_frozen xA.out 3; have eE := blk_frozen xA.out 4; have fE := blk_frozen xA.out 5; have gE := blk_frozen xA.out 6; have hE := blk_frozen xA.out 7; have iE := blk_frozen xA.out 8; have jE := blk_frozen xA.out 9; have kE : VA.cell? ⟨sA, 0, none⟩ = some (.slice hD jA.length iD) := (blk_cell hA.out 0).trans rfl; have lE := blk_frozen hA.out 0; have mE : VA.cell? ⟨bA, 0, none⟩ = some (.int .i64 iA) := (blk_cell aA.out 0).trans rfl; have nE : VA.cell? ⟨bA, 1, none⟩ = some (.int .i64 fA) := (blk_cell aA.out 1).trans rfl; have oE : VA.cell? ⟨bA, 2, none⟩ = some (.int .i64 oA) := (blk_cell aA.out 2).trans rfl; have pE : VA.cell? ⟨bA, 3, none⟩ = some (.int .i64 nA) := (blk_cell aA.out 3).trans rfl; have qE : VA.cell? ⟨bA, 4, none⟩ = some (.int .i64 mA) := (blk_cell aA.out 4).trans rfl; have rE : VA.cell? ⟨bA, 5, none⟩ = some (.int .i64 lA) := (blk_cell aA.out 5).trans rfl; have sE : VA.cell? ⟨bA, 6, none⟩ = some (.int .i64 kA) := (blk_cell aA.out 6).trans rfl; have tE : VA.cell? ⟨bA, 7, none⟩ = some (.int .i64 eA) := (blk_cell aA.out 7).trans rfl; have uE : VA.cell? ⟨bA, 8, none⟩ = some (.int .i64 gA) := (blk_cell aA.out 8).trans rfl; have vE : VA.cell? ⟨bA, 9, none⟩ = some (.bool pA) := (blk_cell aA.out 9).trans rfl; have wE := blk_frozen aA.out 0; have xE := blk_frozen aA.out 1; have yE := blk_frozen aA.out 2; have zE := blk_frozen aA.out 3; have AE := blk_frozen aA.out 4; have BE := blk_frozen aA.out 5; have CE := blk_frozen aA.out 6; have DE := blk_frozen aA.out 7; have EE := blk_frozen aA.out 8; have FE := blk_frozen aA.out 9)))
                    go_roundg kj41
                    case measure => have := HJ5.out; have := HK2.out; have := HJ24.out; have := HJ31.out; have := HK5.out; have := HJ41.out; omega
                    case rel => exact ⟨(wrap64 (zC + 1)), (kD), (wB), (xB), (EB), (GB), (sC), (wC), (AC), (cD), (lD), (pD), (.slice AD kD.length BD), q7_28, H', ⟨by have := HJ5.out; have := HK2.out; have := HJ24.out; have := HJ31.out; have := HK5.out; have := HJ41.out; omega⟩, ⟨by (with_reducible repeat (first | apply Kd.Q_alloc | apply Kd.Q_drewN | apply Kd.Q_drew)); exact Kd.Q_mono (Kd.Q_far (p := ⟨bA, 9, none⟩) (Kd.Q_far (p := ⟨bA, 8, none⟩) (Kd.Q_far (p := ⟨bA, 7, none⟩) (Kd.Q_far (p := ⟨bA, 6, none⟩) (Kd.Q_far (p := ⟨bA, 5, none⟩) (Kd.Q_far (p := ⟨bA, 4, none⟩) (Kd.Q_far (p := ⟨bA, 3, none⟩) (Kd.Q_far (p := ⟨bA, 2, none⟩) (Kd.Q_far (p := ⟨bA, 1, none⟩) (Kd.Q_far (p := ⟨bA, 0, none⟩) (Kd.Q_far (p := ⟨sA, 0, none⟩) (Kd.Q_far (p := ⟨rA, 9, none⟩) (Kd.Q_far (p := ⟨rA, 8, none⟩) (Kd.Q_far (p := ⟨rA, 7, none⟩) (Kd.Q_far (p := ⟨rA, 6, none⟩) (Kd.Q_far (p := ⟨rA, 5, none⟩) (Kd.Q_far (p := ⟨rA, 4, none⟩) (Kd.Q_far (p := ⟨rA, 3, none⟩) (Kd.Q_far (p := ⟨rA, 2, none⟩) (Kd.Q_far (p := ⟨rA, 1, none⟩) (Kd.Q_far (p := ⟨rA, 0, none⟩) (Kd.Q_far (p := ⟨EA, 0, none⟩) (Kd.Q_types (Kd.Q_types (Kd.Q_types (Kd.Q_types vA.out kB.out (by decide)) xA.out (by decide)) hA.out (by decide)) aA.out (by decide)) (fun _ hk => hk.1.1.1.2) (.slice AD kD.length BD)) (fun _ hk => hk.1.1.2) (.int .i64 wB)) (fun _ hk => hk.1.1.2) (.int .i64 xB)) (fun _ hk => hk.1.1.2) (.int .i64 EB)) (fun _ hk => hk.1.1.2) (.int .i64 GB)) (fun _ hk => hk.1.1.2) (.int .i64 sC)) (fun _ hk => hk.1.1.2) (.int .i64 wC)) (fun _ hk => hk.1.1.2) (.int .i64 AC)) (fun _ hk => hk.1.1.2) (.int .i64 cD)) (fun _ hk => hk.1.1.2) (.int .i64 lD)) (fun _ hk => hk.1.1.2) (.bool pD)) (fun _ hk => hk.1.2) (.slice AD kD.length BD)) (fun _ hk => hk.2) (.int .i64 wB)) (fun _ hk => hk.2) (.int .i64 xB)) (fun _ hk => hk.2) (.int .i64 EB)) (fun _ hk => hk.2) (.int .i64 GB)) (fun _ hk => hk.2) (.int .i64 sC)) (fun _ hk => hk.2) (.int .i64 wC)) (fun _ hk => hk.2) (.int .i64 AC)) (fun _ hk => hk.2) (.int .i64 cD)) (fun _ hk => hk.2) (.int .i64 lD)) (fun _ hk => hk.2) (.bool pD)) (fun _ hk => ⟨hk.1.1.1.1.1.1, ⟨hk.1.1.1.1.1.2.1, hk.1.1.1.1.2⟩⟩)⟩, ⟨by (with_reducible repeat (first | apply Kd.R_alloc | apply Kd.R_drewN | apply Kd.R_drew)); exact Kd.R_mono (Kd.R_far (p := ⟨bA, 9, none⟩) (Kd.R_far (p := ⟨bA, 8, none⟩) (Kd.R_far (p := ⟨bA, 7, none⟩) (Kd.R_far (p := ⟨bA, 6, none⟩) (Kd.R_far (p := ⟨bA, 5, none⟩) (Kd.R_far (p := ⟨bA, 4, none⟩) (Kd.R_far (p := ⟨bA, 3, none⟩) (Kd.R_far (p := ⟨bA, 2, none⟩) (Kd.R_far (p := ⟨bA, 1, none⟩) (Kd.R_far (p := ⟨bA, 0, none⟩) (Kd.R_far (p := ⟨sA, 0, none⟩) (Kd.R_far (p := ⟨rA, 9, none⟩) (Kd.R_far (p := ⟨rA, 8, none⟩) (Kd.R_far (p := ⟨rA, 7, none⟩) (Kd.R_far (p := ⟨rA, 6, none⟩) (Kd.R_far (p := ⟨rA, 5, none⟩) (Kd.R_far (p := ⟨rA, 4, none⟩) (Kd.R_far (p := ⟨rA, 3, none⟩) (Kd.R_far (p := ⟨rA, 2, none⟩) (Kd.R_far (p := ⟨rA, 1, none⟩) (Kd.R_far (p := ⟨rA, 0, none⟩) (Kd.R_far (p := ⟨EA, 0, none⟩) (Kd.R_types (Kd.R_types (Kd.R_types (Kd.R_types yA.out kB.out (by decide)) xA.out (by decide)) hA.out (by decide)) aA.out (by decide)) (fun _ hk => hk.1.1.1.2) (.slice AD kD.length BD)) (fun _ hk => hk.1.1.2) (.int .i64 wB)) (fun _ hk => hk.1.1.2) (.int .i64 xB)) (fun _ hk => hk.1.1.2) (.int .i64 EB)) (fun _ hk => hk.1.1.2) (.int .i64 GB)) (fun _ hk => hk.1.1.2) (.int .i64 sC)) (fun _ hk => hk.1.1.2) (.int .i64 wC)) (fun _ hk => hk.1.1.2) (.int .i64 AC)) (fun _ hk => hk.1.1.2) (.int .i64 cD)) (fun _ hk => hk.1.1.2) (.int .i64 lD)) (fun _ hk => hk.1.1.2) (.bool pD)) (fun _ hk => hk.1.2) (.slice AD kD.length BD)) (fun _ hk => hk.2) (.int .i64 wB)) (fun _ hk => hk.2) (.int .i64 xB)) (fun _ hk => hk.2) (.int .i64 EB)) (fun _ hk => hk.2) (.int .i64 GB)) (fun _ hk => hk.2) (.int .i64 sC)) (fun _ hk => hk.2) (.int .i64 wC)) (fun _ hk => hk.2) (.int .i64 AC)) (fun _ hk => hk.2) (.int .i64 cD)) (fun _ hk => hk.2) (.int .i64 lD)) (fun _ hk => hk.2) (.bool pD)) (fun _ hk => ⟨hk.1.1.1.1.1.1, ⟨hk.1.1.1.1.1.2.1, hk.1.1.1.1.2⟩⟩)⟩, ⟨by (with_reducible repeat (first | apply Kd.R_alloc | apply Kd.R_drewN | apply Kd.R_drew)); exact Kd.R_mono (Kd.R_far (p := ⟨bA, 9, none⟩) (Kd.R_far (p := ⟨bA, 8, none⟩) (Kd.R_far (p := ⟨bA, 7, none⟩) (Kd.R_far (p := ⟨bA, 6, none⟩) (Kd.R_far (p := ⟨bA, 5, none⟩) (Kd.R_far (p := ⟨bA, 4, none⟩) (Kd.R_far (p := ⟨bA, 3, none⟩) (Kd.R_far (p := ⟨bA, 2, none⟩) (Kd.R_far (p := ⟨bA, 1, none⟩) (Kd.R_far (p := ⟨bA, 0, none⟩) (Kd.R_far (p := ⟨sA, 0, none⟩) (Kd.R_far (p := ⟨rA, 9, none⟩) (Kd.R_far (p := ⟨rA, 8, none⟩) (Kd.R_far (p := ⟨rA, 7, none⟩) (Kd.R_far (p := ⟨rA, 6, none⟩) (Kd.R_far (p := ⟨rA, 5, none⟩) (Kd.R_far (p := ⟨rA, 4, none⟩) (Kd.R_far (p := ⟨rA, 3, none⟩) (Kd.R_far (p := ⟨rA, 2, none⟩) (Kd.R_far (p := ⟨rA, 1, none⟩) (Kd.R_far (p := ⟨rA, 0, none⟩) (Kd.R_far (p := ⟨EA, 0, none⟩) (Kd.R_types (Kd.R_types (Kd.R_types (Kd.R_types tA.out kB.out (by decide)) xA.out (by decide)) hA.out (by decide)) aA.out (by decide)) (fun _ hk => hk.1.1.1.2) (.slice AD kD.length BD)) (fun _ hk => hk.1.1.2) (.int .i64 wB)) (fun _ hk => hk.1.1.2) (.int .i64 xB)) (fun _ hk => hk.1.1.2) (.int .i64 EB)) (fun _ hk => hk.1.1.2) (.int .i64 GB)) (fun _ hk => hk.1.1.2) (.int .i64 sC)) (fun _ hk => hk.1.1.2) (.int .i64 wC)) (fun _ hk => hk.1.1.2) (.int .i64 AC)) (fun _ hk => hk.1.1.2) (.int .i64 cD)) (fun _ hk => hk.1.1.2) (.int .i64 lD)) (fun _ hk => hk.1.1.2) (.bool pD)) (fun _ hk => hk.1.2) (.slice AD kD.length BD)) (fun _ hk => hk.2) (.int .i64 wB)) (fun _ hk => hk.2) (.int .i64 xB)) (fun _ hk => hk.2) (.int .i64 EB)) (fun _ hk => hk.2) (.int .i64 GB)) (fun _ hk => hk.2) (.int .i64 sC)) (fun _ hk => hk.2) (.int .i64 wC)) (fun _ hk => hk.2) (.int .i64 AC)) (fun _ hk => hk.2) (.int .i64 cD)) (fun _ hk => hk.2) (.int .i64 lD)) (fun _ hk => hk.2) (.bool pD)) (fun _ hk => ⟨hk.1.1.1.1.1.1, ⟨hk.1.1.1.1.1.2.1, hk.1.1.1.1.2⟩⟩)⟩, ⟨by (with_reducible repeat (first | apply Kd.R_alloc | apply Kd.R_drewN | apply Kd.R_drew)); exact Kd.R_mono (Kd.R_far (p := ⟨bA, 9, none⟩) (Kd.R_far (p := ⟨bA, 8, none⟩) (Kd.R_far (p := ⟨bA, 7, none⟩) (Kd.R_far (p := ⟨bA, 6, none⟩) (Kd.R_far (p := ⟨bA, 5, none⟩) (Kd.R_far (p := ⟨bA, 4, none⟩) (Kd.R_far (p := ⟨bA, 3, none⟩) (Kd.R_far (p := ⟨bA, 2, none⟩) (Kd.R_far (p := ⟨bA, 1, none⟩) (Kd.R_far (p := ⟨bA, 0, none⟩) (Kd.R_far (p := ⟨sA, 0, none⟩) (Kd.R_far (p := ⟨rA, 9, none⟩) (Kd.R_far (p := ⟨rA, 8, none⟩) (Kd.R_far (p := ⟨rA, 7, none⟩) (Kd.R_far (p := ⟨rA, 6, none⟩) (Kd.R_far (p := ⟨rA, 5, none⟩) (Kd.R_far (p := ⟨rA, 4, none⟩) (Kd.R_far (p := ⟨rA, 3, none⟩) (Kd.R_far (p := ⟨rA, 2, none⟩) (Kd.R_far (p := ⟨rA, 1, none⟩) (Kd.R_far (p := ⟨rA, 0, none⟩) (Kd.R_far (p := ⟨EA, 0, none⟩) (Kd.R_types (Kd.R_types (Kd.R_types (Kd.R_types lB.out kB.out (by decide)) xA.out (by decide)) hA.out (by decide)) aA.out (by decide)) (fun _ hk => hk.1.1.1.2) (.slice AD kD.length BD)) (fun _ hk => hk.1.1.2) (.int .i64 wB)) (fun _ hk => hk.1.1.2) (.int .i64 xB)) (fun _ hk => hk.1.1.2) (.int .i64 EB)) (fun _ hk => hk.1.1.2) (.int .i64 GB)) (fun _ hk => hk.1.1.2) (.int .i64 sC)) (fun _ hk => hk.1.1.2) (.int .i64 wC)) (fun _ hk => hk.1.1.2) (.int .i64 AC)) (fun _ hk => hk.1.1.2) (.int .i64 cD)) (fun _ hk => hk.1.1.2) (.int .i64 lD)) (fun _ hk => hk.1.1.2) (.bool pD)) (fun _ hk => hk.1.2) (.slice AD kD.length BD)) (fun _ hk => hk.2) (.int .i64 wB)) (fun _ hk => hk.2) (.int .i64 xB)) (fun _ hk => hk.2) (.int .i64 EB)) (fun _ hk => hk.2) (.int .i64 GB)) (fun _ hk => hk.2) (.int .i64 sC)) (fun _ hk => hk.2) (.int .i64 wC)) (fun _ hk => hk.2) (.int .i64 AC)) (fun _ hk => hk.2) (.int .i64 cD)) (fun _ hk => hk.2) (.int .i64 lD)) (fun _ hk => hk.2) (.bool pD)) (fun _ hk => ⟨hk.1.1.1.1.1.1.1.2, ⟨hk.1.1.1.1.1.1.2, hk.1.1.1.1.1.2⟩⟩)⟩, ⟨by (with_reducible repeat (first | refine blk_drewN ?_ _ | refine blk_drew ?_ | refine blk_alloc ?_ _)); refine blk_far ?_ uA.out _; (with_reducible repeat (first | refine blk_drewN ?_ _ | refine blk_drew ?_ | refine blk_alloc ?_ _)); refine blk_far ?_ uA.out _; (with_reducible repeat (first | refine blk_drewN ?_ _ | refine blk_drew ?_ | refine blk_alloc ?_ _)); refine blk_far ?_ uA.out _; (with_reducible repeat (first | refine blk_drewN ?_ _ | refine blk_drew ?_ | refine blk_alloc ?_ _)); refine blk_far ?_ uA.out _; (with_reducible repeat (first | refine blk_drewN ?_ _ | refine blk_drew ?_ | refine blk_alloc ?_ _)); refine blk_far ?_ uA.out _; (with_reducible repeat (first | refine blk_drewN ?_ _ | refine blk_drew ?_ | refine blk_alloc ?_ _)); refine blk_far ?_ uA.out _; (with_reducible repeat (first | refine blk_drewN ?_ _ | refine blk_drew ?_ | refine blk_alloc ?_ _)); refine blk_far ?_ uA.out _; (with_reducible repeat (first | refine blk_drewN ?_ _ | refine blk_drew ?_ | refine blk_alloc ?_ _)); refine blk_far ?_ uA.out _; (with_reducible repeat (first | refine blk_drewN ?_ _ | refine blk_drew ?_ | refine blk_alloc ?_ _)); refine blk_far ?_ uA.out _; (with_reducible repeat (first | refine blk_drewN ?_ _ | refine blk_drew ?_ | refine blk_alloc ?_ _)); refine blk_far ?_ uA.out _; (with_reducible repeat (first | refine blk_drewN ?_ _ | refine blk_drew ?_ | refine blk_alloc ?_ _)); refine blk_put (cs := #[.slice hD jA.length iD]) ?_ 0 _ rfl; (with_reducible repeat (first | refine blk_drewN ?_ _ | refine blk_drew ?_ | refine blk_alloc ?_ _)); refine blk_far ?_ LA.out _; (with_reducible repeat (first | refine blk_drewN ?_ _ | refine blk_drew ?_ | refine blk_alloc ?_ _)); refine blk_far ?_ LA.out _; (with_reducible repeat (first | refine blk_drewN ?_ _ | refine blk_drew ?_ | refine blk_alloc ?_ _)); refine blk_far ?_ LA.out _; (with_reducible repeat (first | refine blk_drewN ?_ _ | refine blk_drew ?_ | refine blk_alloc ?_ _)); refine blk_far ?_ LA.out _; (with_reducible repeat (first | refine blk_drewN ?_ _ | refine blk_drew ?_ | refine blk_alloc ?_ _)); refine blk_far ?_ LA.out _; (with_reducible repeat (first | refine blk_drewN ?_ _ | refine blk_drew ?_ | refine blk_alloc ?_ _)); refine blk_far ?_ LA.out _; (with_reducible repeat (first | refine blk_drewN ?_ _ | refine blk_drew ?_ | refine blk_alloc ?_ _)); refine blk_far ?_ LA.out _; (with_reducible repeat (first | refine blk_drewN ?_ _ | refine blk_drew ?_ | refine blk_alloc ?_ _)); refine blk_far ?_ LA.out _; (with_reducible repeat (first | refine blk_drewN ?_ _ | refine blk_drew ?_ | refine blk_alloc ?_ _)); refine blk_far ?_ LA.out _; (with_reducible repeat (first | refine blk_drewN ?_ _ | refine blk_drew ?_ | refine blk_alloc ?_ _)); refine blk_far ?_ LA.out _; (with_reducible repeat (first | refine blk_drewN ?_ _ | refine blk_drew ?_ | refine blk_alloc ?_ _)); refine blk_far ?_ uB.out _; (with_reducible repeat (first | refine blk_drewN ?_ _ | refine blk_drew ?_ | refine blk_alloc ?_ _)); exact hA.out⟩, ⟨by (with_reducible repeat (first | refine blk_drewN ?_ _ | refine blk_drew ?_ | refine blk_alloc ?_ _)); refine blk_put (cs := #[.int .i64 wB, .int .i64 xB, .int .i64 EB, .int .i64 GB, .int .i64 sC, .int .i64 wC, .int .i64 AC, .int .i64 cD, .int .i64 lD, .bool pA]) ?_ 9 _ rfl; (with_reducible repeat (first | refine blk_drewN ?_ _ | refine blk_drew ?_ | refine blk_alloc ?_ _)); refine blk_put (cs := #[.int .i64 wB, .int .i64 xB, .int .i64 EB, .int .i64 GB, .int .i64 sC, .int .i64 wC, .int .i64 AC, .int .i64 cD, .int .i64 gA, .bool pA]) ?_ 8 _ rfl; (with_reducible repeat (first | refine blk_drewN ?_ _ | refine blk_drew ?_ | refine blk_alloc ?_ _)); refine blk_put (cs := #[.int .i64 wB, .int .i64 xB, .int .i64 EB, .int .i64 GB, .int .i64 sC, .int .i64 wC, .int .i64 AC, .int .i64 eA, .int .i64 gA, .bool pA]) ?_ 7 _ rfl; (with_reducible repeat (first | refine blk_drewN ?_ _ | refine blk_drew ?_ | refine blk_alloc ?_ _)); refine blk_put (cs := #[.int .i64 wB, .int .i64 xB, .int .i64 EB, .int .i64 GB, .int .i64 sC, .int .i64 wC, .int .i64 kA, .int .i64 eA, .int .i64 gA, .bool pA]) ?_ 6 _ rfl; (with_reducible repeat (first | refine blk_drewN ?_ _ | refine blk_drew ?_ | refine blk_alloc ?_ _)); refine blk_put (cs := #[.int .i64 wB, .int .i64 xB, .int .i64 EB, .int .i64 GB, .int .i64 sC, .int .i64 lA, .int .i64 kA, .int .i64 eA, .int .i64 gA, .bool pA]) ?_ 5 _ rfl; (with_reducible repeat (first | refine blk_drewN ?_ _ | refine blk_drew ?_ | refine blk_alloc ?_ _)); refine blk_put (cs := #[.int .i64 wB, .int .i64 xB, .int .i64 EB, .int .i64 GB, .int .i64 mA, .int .i64 lA, .int .i64 kA, .int .i64 eA, .int .i64 gA, .bool pA]) ?_ 4 _ rfl; (with_reducible repeat (first | refine blk_drewN ?_ _ | refine blk_drew ?_ | refine blk_alloc ?_ _)); refine blk_put (cs := #[.int .i64 wB, .int .i64 xB, .int .i64 EB, .int .i64 nA, .int .i64 mA, .int .i64 lA, .int .i64 kA, .int .i64 eA, .int .i64 gA, .bool pA]) ?_ 3 _ rfl; (with_reducible repeat (first | refine blk_drewN ?_ _ | refine blk_drew ?_ | refine blk_alloc ?_ _)); refine blk_put (cs := #[.int .i64 wB, .int .i64 xB, .int .i64 oA, .int .i64 nA, .int .i64 mA, .int .i64 lA, .int .i64 kA, .int .i64 eA, .int .i64 gA, .bool pA]) ?_ 2 _ rfl; (with_reducible repeat (first | refine blk_drewN ?_ _ | refine blk_drew ?_ | refine blk_alloc ?_ _)); refine blk_put (cs := #[.int .i64 wB, .int .i64 fA, .int .i64 oA, .int .i64 nA, .int .i64 mA, .int .i64 lA, .int .i64 kA, .int .i64 eA, .int .i64 gA, .bool pA]) ?_ 1 _ rfl; (with_reducible repeat (first | refine blk_drewN ?_ _ | refine blk_drew ?_ | refine blk_alloc ?_ _)); refine blk_put (cs := #[.int .i64 iA, .int .i64 fA, .int .i64 oA, .int .i64 nA, .int .i64 mA, .int .i64 lA, .int .i64 kA, .int .i64 eA, .int .i64 gA, .bool pA]) ?_ 0 _ rfl; (with_reducible repeat (first | refine blk_drewN ?_ _ | refine blk_drew ?_ | refine blk_alloc ?_ _)); refine blk_far ?_ KA.out _; (with_reducible repeat (first | refine blk_drewN ?_ _ | refine blk_drew ?_ | refine blk_alloc ?_ _)); refine blk_far ?_ MA.out _; (with_reducible repeat (first | refine blk_drewN ?_ _ | refine blk_drew ?_ | refine blk_alloc ?_ _)); refine blk_far ?_ MA.out _; (with_reducible repeat (first | refine blk_drewN ?_ _ | refine blk_drew ?_ | refine blk_alloc ?_ _)); refine blk_far ?_ MA.out _; (with_reducible repeat (first | refine blk_drewN ?_ _ | refine blk_drew ?_ | refine blk_alloc ?_ _)); refine blk_far ?_ MA.out _; (with_reducible repeat (first | refine blk_drewN ?_ _ | refine blk_drew ?_ | refine blk_alloc ?_ _)); refine blk_far ?_ MA.out _; (with_reducible repeat (first | refine blk_drewN ?_ _ | refine blk_drew ?_ | refine blk_alloc ?_ _)); refine blk_far ?_ MA.out _; (with_reducible repeat (first | refine blk_drewN ?_ _ | refine blk_drew ?_ | refine blk_alloc ?_ _)); refine blk_far ?_ MA.out _; (with_reducible repeat (first | refine blk_drewN ?_ _ | refine blk_drew ?_ | refine blk_alloc ?_ _)); refine blk_far ?_ MA.out _; (with_reducible repeat (first | refine blk_drewN ?_ _ | refine blk_drew ?_ | refine blk_alloc ?_ _)); refine blk_far ?_ MA.out _; (with_reducible repeat (first | refine blk_drewN ?_ _ | refine blk_drew ?_ | refine blk_alloc ?_ _)); refine blk_far ?_ MA.out _; (with_reducible repeat (first | refine blk_drewN ?_ _ | refine blk_drew ?_ | refine blk_alloc ?_ _)); refine blk_far ?_ vB.out _; (with_reducible repeat (first | refine blk_drewN ?_ _ | refine blk_drew ?_ | refine blk_alloc ?_ _)); exact aA.out⟩, ⟨by repeat (first | (with_reducible first | exact HB.out | apply below_alloc | apply pw_below_drewN | apply below_drew1 | refine below_set ?_ ED.out | refine below_set ?_ IE.out | refine below_set ?_ SE.out | refine below_set ?_ yF.out) | exact HB.out)⟩⟩
                   ·replace c48 := Bool.eq_false_iff.mpr c48
                    subst c48
                    have H1 : (some false) = some true := by rw [if_neg (show ¬ (false = true) by decide)] at H; exact H
                    clear H
                    have H := H1
                    clear H1
                    exact absurd H (by simp)
                  ·replace c46 := Bool.eq_false_iff.mpr c46
                   subst c46
                   have H1 : (if pA = true then (if iA = 1 then ((some (([fA] : List Int) : List Int)).bind fun y323 => (if y323.length + wA.length < 17592186044416 then (if 0 ≤ (wrap64 ((zA.length : Int) - 1)) then (if (wrap64 ((zA.length : Int) - 1)) ≤ (zA.length : Int) then (laws_FnStackOne.j6 kj41 (wrap64 (1 + AA)) (y323 ++ wA) (zA.take ((wrap64 ((zA.length : Int) - 1)) : Int).toNat) qA (qA.length : Int) BA jA) else (none)) else (none)) else (none))) else (if (wA.length : Int) = 0 then (if eA = 2 then (laws_FnStackOne.j6 kj41 (wrap64 (1 + AA)) wA zA qA (qA.length : Int) BA jA) else (some false)) else (if eA = 1 then (if 0 < (wA.length : Int) then (if gA = (rd wA 0) then (if zA.length < 17592186044416 then (if 1 ≤ (wA.length : Int) then (laws_FnStackOne.j6 kj41 (wrap64 (1 + AA)) (wA.drop (1 : Int).toNat) (zA ++ [rd wA 0]) qA (qA.length : Int) BA jA) else (none)) else (none)) else (some false)) else (none)) else (some false)))) else (some false)) = some true := by rw [if_neg (show ¬ (false = true) by decide)] at H; exact H
                   clear H
                   have H := H1
                   clear H1
                   have HC66 := Aside0.mk H
                   clear H
                   go_upto_block 4 with (fail)
                   repeat (go_quiet (fail); go_upto_block 4 with (fail))
                   go_cut [6, 7] (fun v6 v7 wc => ∃ (kq : Nat) (FC : List Int) (CD : List Int), Aside0 (laws_FnStackOne.j6 kq (wrap64 (1 + AA)) FC CD qA (qA.length : Int) BA jA = some true) ∧ Aside0 (kq ≤ kj41) ∧ Aside0 (Kd.Q (Kd.int .i64) 3 wc w.heap.size (fun k_ => some k_ ≠ (v7 : Value).ownBlock ∧ some k_ ≠ ((.slice (some ad284) qA.length IA) : Value).ownBlock ∧ some k_ ≠ (dA : Value).ownBlock) v6 FC) ∧ Aside0 (Kd.R (Kd.int .i64) 3 wc w.heap.size (fun k_ => some k_ ≠ (v6 : Value).ownBlock ∧ some k_ ≠ ((.slice (some ad284) qA.length IA) : Value).ownBlock ∧ some k_ ≠ (dA : Value).ownBlock) v7 CD) ∧ Aside0 (Kd.R (Kd.int .i64) 3 wc w.heap.size (fun k_ => some k_ ≠ (v6 : Value).ownBlock ∧ some k_ ≠ (v7 : Value).ownBlock ∧ some k_ ≠ (dA : Value).ownBlock) (.slice (some ad284) qA.length IA) qA) ∧ Aside0 (Kd.R (Kd.int .i64) 3 wc w.heap.size (fun k_ => some k_ ≠ (v6 : Value).ownBlock ∧ some k_ ≠ (v7 : Value).ownBlock ∧ some k_ ≠ ((.slice (some ad284) qA.length IA) : Value).ownBlock) dA jA) ∧ Aside0 (wc.heap[sA]? = some (.cells #[dA] 29 (0, 0))) ∧ Aside0 (wc.heap[bA]? = some (.cells #[.int .i64 iA, .int .i64 fA, .int .i64 oA, .int .i64 nA, .int .i64 mA, .int .i64 lA, .int .i64 kA, .int .i64 eA, .int .i64 gA, .bool pA] 23 (0, 0))) ∧ Aside0 (Below w.heap.size w wc))
                   case first =>
                    have H := HC66.out
                    clear HC66
                    by_cases c67 : pA = true
                    ·subst c67
                     have H1 : (if iA = 1 then ((some (([fA] : List Int) : List Int)).bind fun y323 => (if y323.length + wA.length < 17592186044416 then (if 0 ≤ (wrap64 ((zA.length : Int) - 1)) then (if (wrap64 ((zA.length : Int) - 1)) ≤ (zA.length : Int) then (laws_FnStackOne.j6 kj41 (wrap64 (1 + AA)) (y323 ++ wA) (zA.take ((wrap64 ((zA.length : Int) - 1)) : Int).toNat) qA (qA.length : Int) BA jA) else (none)) else (none)) else (none))) else (if (wA.length : Int) = 0 then (if eA = 2 then (laws_FnStackOne.j6 kj41 (wrap64 (1 + AA)) wA zA qA (qA.length : Int) BA jA) else (some false)) else (if eA = 1 then (if 0 < (wA.length : Int) then (if gA = (rd wA 0) then (if zA.length < 17592186044416 then (if 1 ≤ (wA.length : Int) then (laws_FnStackOne.j6 kj41 (wrap64 (1 + AA)) (wA.drop (1 : Int).toNat) (zA ++ [rd wA 0]) qA (qA.length : Int) BA jA) else (none)) else (none)) else (some false)) else (none)) else (some false)))) = some true := by rw [if_pos rfl] at H; exact H
                     clear H
                     have H := H1
                     clear H1
                     by_cases c68 : iA = 1
                     ·rw [if_pos c68] at H
                      have JD : (iA == 1) = true := beq_iff_eq.mpr c68
                      have FH : (iA != 1) = false := bne_eq_false_iff_eq.mpr c68
                      clear c68
                      (first | rw [JD] | (simp only [i64_w, i32_w]; rw [JD]) | skip)
                      obtain ⟨y323, hy323⟩ : ∃ y_ : List Int, y_ = (([fA] : List Int)) := ⟨_, rfl⟩
                      replace H : (if y323.length + wA.length < 17592186044416 then (if 0 ≤ (wrap64 ((zA.length : Int) - 1)) then (if (wrap64 ((zA.length : Int) - 1)) ≤ (zA.length : Int) then (laws_FnStackOne.j6 kj41 (wrap64 (1 + AA)) (y323 ++ wA) (zA.take ((wrap64 ((zA.length : Int) - 1)) : Int).toNat) qA (qA.length : Int) BA jA) else (none)) else (none)) else (none)) = some true := by first | (rw [hy323]; with_reducible exact H) | (have H2_ := (Option.bind_some _ _).symm.trans H; rw [hy323]; with_reducible exact H2_) | (have H2_ := (Option.bind_some _ _).symm.trans H; with_reducible exact H2_) | with_reducible exact H | (rw [hy323]; exact H) | exact H
                      have Ny323 := Aside0.mk hy323
                      clear hy323
                      by_cases c69 : y323.length + wA.length < 17592186044416
                      ·rw [if_pos c69] at H
                       have LMc69 := Aside0.mk c69
                       clear c69
                       obtain ⟨y326, hy326⟩ : ∃ y_ : List Int, y_ = (y323 ++ wA) := ⟨_, rfl⟩
                       replace H : (if 0 ≤ (wrap64 ((zA.length : Int) - 1)) then (if (wrap64 ((zA.length : Int) - 1)) ≤ (zA.length : Int) then (laws_FnStackOne.j6 kj41 (wrap64 (1 + AA)) y326 (zA.take ((wrap64 ((zA.length : Int) - 1)) : Int).toNat) qA (qA.length : Int) BA jA) else (none)) else (none)) = some true := by first | (rw [hy326]; with_reducible exact H) | (have H2_ := (Option.bind_some _ _).symm.trans H; rw [hy326]; with_reducible exact H2_) | (have H2_ := (Option.bind_some _ _).symm.trans H; with_reducible exact H2_) | with_reducible exact H | (rw [hy326]; exact H) | exact H
                       have Ny326 := Aside0.mk hy326
                       clear hy326
                       obtain ⟨ji70, hji70⟩ : ∃ j_ : Int, (wrap64 ((zA.length : Int) - 1)) = j_ := ⟨_, rfl⟩
                       replace H : (if 0 ≤ (ji70) then (if (ji70) ≤ (zA.length : Int) then (laws_FnStackOne.j6 kj41 (wrap64 (1 + AA)) y326 (zA.take ((ji70) : Int).toNat) qA (qA.length : Int) BA jA) else (none)) else (none)) = some true := by first | (rw [hji70] at H; exact H) | (simp only [hji70] at H ⊢; exact H)
                       have hji70w : (IntKind.i64.wrap ((zA.length : Int) - 1)) = ji70 := (i64_w _).trans hji70
                       by_cases c71 : 0 ≤ (ji70)
                       ·rw [if_pos c71] at H
                        have XH := eq_true c71
                        have YH : decide (0 ≤ (ji70)) = true := decide_eq_true c71
                        clear c71
                        by_cases c72 : (ji70) ≤ (zA.length : Int)
                        ·rw [if_pos c72] at H
                         have ZH := eq_true c72
                         have aI : decide ((ji70) ≤ (zA.length : Int)) = true := decide_eq_true c72
                         clear c72
                         obtain ⟨y329, hy329⟩ : ∃ y_ : List Int, y_ = (zA.take ((ji70) : Int).toNat) := ⟨_, rfl⟩
                         replace H : (laws_FnStackOne.j6 kj41 (wrap64 (1 + AA)) y326 y329 qA (qA.length : Int) BA jA) = some true := by first | (rw [hy329]; with_reducible exact H) | (have H2_ := (Option.bind_some _ _).symm.trans H; rw [hy329]; with_reducible exact H2_) | (have H2_ := (Option.bind_some _ _).symm.trans H; with_reducible exact H2_) | with_reducible exact H | (rw [hy329]; exact H) | exact H
                         have Ny329 := Aside0.mk hy329
                         clear hy329
                         have H' := Aside0.mk H
                         clear H
                         have HI := KA.out
                         have II := uA.out
                         have fG : wc.cell? ⟨bA, 0, none⟩ = some (.int .i64 iA) := (blk_cell aA.out 0).trans rfl
                         have gG : wc.cell? ⟨bA, 1, none⟩ = some (.int .i64 fA) := (blk_cell aA.out 1).trans rfl
                         have hG : wc.cell? ⟨bA, 2, none⟩ = some (.int .i64 oA) := (blk_cell aA.out 2).trans rfl
                         have iG : wc.cell? ⟨bA, 3, none⟩ = some (.int .i64 nA) := (blk_cell aA.out 3).trans rfl
                         have jG : wc.cell? ⟨bA, 4, none⟩ = some (.int .i64 mA) := (blk_cell aA.out 4).trans rfl
                         have kG : wc.cell? ⟨bA, 5, none⟩ = some (.int .i64 lA) := (blk_cell aA.out 5).trans rfl
                         have lG : wc.cell? ⟨bA, 6, none⟩ = some (.int .i64 kA) := (blk_cell aA.out 6).trans rfl
                         have mG : wc.cell? ⟨bA, 7, none⟩ = some (.int .i64 eA) := (blk_cell aA.out 7).trans rfl
                         have nG : wc.cell? ⟨bA, 8, none⟩ = some (.int .i64 gA) := (blk_cell aA.out 8).trans rfl
                         have oG : wc.cell? ⟨bA, 9, none⟩ = some (.bool true) := (blk_cell aA.out 9).trans rfl
                         have pG := blk_frozen aA.out 0
                         have qG := blk_frozen aA.out 1
                         have rG := blk_frozen aA.out 2
                         have sG := blk_frozen aA.out 3
                         have tG := blk_frozen aA.out 4
                         have uG := blk_frozen aA.out 5
                         have vG := blk_frozen aA.out 6
                         have wG := blk_frozen aA.out 7
                         have xG := blk_frozen aA.out 8
                         have yG := blk_frozen aA.out 9
                         go_wp2_with (first | ((with_reducible refine gate_dst (N := 111) rfl ?_); (try (refine gate_guard (by rfl) ?_; dsimp only)); refine Kd.R_lit (Kd.int .i64) _ 3 ?hg (N := 111) ?hd (xs := ([fA] : List Int)) (inner := [.int .i64 fA]) (ok := fun _ => True) (okp := fun _ => True) ?hr ?hp (fun _ hk => hk) trivial (Below.refl _ _) (Nat.le_refl _) (by simp) ?_; (case hd => rfl); (case hg => rfl); (case hr => first | (go_simp; done) | (go_simp; rfl)); (case hp => exact (Reps.one (show Kd.M (Kd.int .i64) _ _ _ fA [.int .i64 fA] from rfl) (Reps.none _ _))); intro AF JI ho76 hb hg_ hnew_; clear hg_ hnew_; (first | rw [← Ny323.out] at ho76 | (simp only [Int.reduceToNat] at ho76; rw [← Ny323.out] at ho76)); have CA := Aside0.mk (Kd.Q_elder' q7_3 (Kd.R_base ho76) hb); have DA := Aside0.mk (Kd.R_elder' q7_7 (Kd.R_base ho76) hb); have FA := Aside0.mk (Kd.R_elder' q7_6 (Kd.R_base ho76) hb); have GA := Aside0.mk (Kd.R_elder' q7_2 (Kd.R_base ho76) hb); have JA := Aside0.mk (Kd.R_lower (Kd.R_new' (Kd.R_new' (Kd.R_new' (Kd.R_new' ho76 (Kd.Q_lt q7_3)) (Kd.R_lt q7_7)) (Kd.R_lt q7_6)) (Kd.R_lt q7_2)) (below_size q7_0)); have QA := Aside0.mk (blk_below (g := sA) (o := .cells #[dA] 29 (0, 0)) q7_1 hb); have RA := Aside0.mk (blk_below (g := bA) (o := .cells #[.int .i64 iA, .int .i64 fA, .int .i64 oA, .int .i64 nA, .int .i64 mA, .int .i64 lA, .int .i64 kA, .int .i64 eA, .int .i64 gA, .bool true] 23 (0, 0)) q7_5 hb); have YA := Aside0.mk (below_step q7_0 hb); clear vA; clear yA; clear tA; clear cA; clear hA; clear aA; clear HB; have vA := CA; have yA := DA; have tA := FA; have cA := GA; have tC := JA; have hA := QA; have aA := RA; have HB := YA; clear CA DA FA GA JA QA RA YA; clear hb ho76; obtain ⟨qD, rD, BF, _⟩ := Kd.Q_slice vA.out; subst BF) | ((with_reducible refine gate_builtin (b := .append) (xs := #[.tmp 111, .tmp 112]) rfl ?_); (try (refine gate_guard (by rfl) ?_; dsimp only)); at_builtin; refine Kd.R_append_rows (Kd.int .i64) (w0 := w) w.heap.size rfl (.tmp 111) (.tmp 112) 27 3 (.int .i64 0) 8 rfl Try.underlying27 info3 rfl (by decide) (by omega) AF y323 wA _ _ _ (fun k_ => some k_ ≠ (.slice qD wA.length rD : Value).ownBlock ∧ some k_ ≠ (u7 : Value).ownBlock ∧ some k_ ≠ (.slice (some ad284) qA.length IA : Value).ownBlock ∧ some k_ ≠ (dA : Value).ownBlock) (fun _ => False) rfl rfl ?aO ?aR (fun _ _ h => h) (fun _ h => h.elim) ?aF ?aB ?aS ?aL ?_; (case aR => repeat (first | exact (Kd.Q_reads' vA.out).2.2 | (with_reducible refine Kd.C_alloc ?_ _) | (with_reducible refine Kd.C_drewN ?_ _) | (with_reducible refine Kd.C_drew ?_))); (case aB => exact q7_0); (case aF => exact (fun k_ hk => ⟨Kd.fresh' (Kd.Q_lt q7_3) k_ hk, Kd.fresh' (Kd.R_lt q7_7) k_ hk, Kd.fresh' (Kd.R_lt q7_6) k_ hk, Kd.fresh' (Kd.R_lt q7_2) k_ hk⟩)); (case aO => exact q7_27); (case aS => exact (below_size q7_0)); (case aL => have := LMc69.out; omega); intro bI KI ho hb hg hat; rw [← Ny326.out] at ho; have CA := Aside0.mk (Kd.Q_after (ok := (fun k_ => some k_ ≠ (u7 : Value).ownBlock ∧ some k_ ≠ (.slice (some ad284) qA.length IA : Value).ownBlock ∧ some k_ ≠ (dA : Value).ownBlock)) q7_3 hg hat); have DA := Aside0.mk (Kd.R_after (ok := (fun k_ => some k_ ≠ (.slice qD wA.length rD : Value).ownBlock ∧ some k_ ≠ (.slice (some ad284) qA.length IA : Value).ownBlock ∧ some k_ ≠ (dA : Value).ownBlock)) q7_7 hg hat); have FA := Aside0.mk (Kd.R_after (ok := (fun k_ => some k_ ≠ (.slice qD wA.length rD : Value).ownBlock ∧ some k_ ≠ (u7 : Value).ownBlock ∧ some k_ ≠ (dA : Value).ownBlock)) q7_6 hg hat); have GA := Aside0.mk (Kd.R_after (ok := (fun k_ => some k_ ≠ (.slice qD wA.length rD : Value).ownBlock ∧ some k_ ≠ (u7 : Value).ownBlock ∧ some k_ ≠ (.slice (some ad284) qA.length IA : Value).ownBlock)) q7_2 hg hat); have JA := Aside0.mk (blk_grown (g := sA) (o := .cells #[dA] 29 (0, 0)) q7_1 hg (Kd.R_ne tC.out hA.out (by decide))); have QA := Aside0.mk (blk_grown (g := bA) (o := .cells #[.int .i64 iA, .int .i64 fA, .int .i64 oA, .int .i64 nA, .int .i64 mA, .int .i64 lA, .int .i64 kA, .int .i64 eA, .int .i64 gA, .bool true] 23 (0, 0)) q7_5 hg (Kd.R_ne tC.out aA.out (by decide))); have RA := Aside0.mk (hb); have YA := Aside0.mk (ho); clear vA; clear yA; clear tA; clear cA; clear hA; clear aA; clear HB; clear tC; have vA := CA; have yA := DA; have tA := FA; have cA := GA; have hA := JA; have aA := QA; have HB := RA; have CF := YA; clear CA DA FA GA JA QA RA YA; clear ho hb hg hat; obtain ⟨DF, EF, FF⟩ := Kd.R_slice yA.out; subst FF; have q80 : ((ji70) : Int) ≤ ((zA.length : Int) : Int) := of_decide_eq_true q7_21; obtain ⟨i080, hi080, _, hsz80, _⟩ := info_parts info3; have hcut80 := cut_to (P := Try.prog) 27 3 .i64 Try.underlying27 hi080 DF zA.length EF (ji70) (of_decide_eq_true q7_21) q80 (Kd.R_reads' yA.out).2.1; have hr80 := Kd.R_take (m := ((ji70) : Int).toNat) yA.out (by omega); have hy80 : y329.length = ((ji70) : Int).toNat := (by rw [Ny329.out, List.length_take]; omega); rw [← Ny329.out] at hr80; rw [← hy80] at hr80 hcut80; clear hy80 hi080 hsz80 yA; have GF := Aside0.mk hr80; clear hr80; replace q80 := eq_true q80))
                         repeat (go_quiet (first | ((with_reducible refine gate_dst (N := 111) rfl ?_); (try (refine gate_guard (by rfl) ?_; dsimp only)); refine Kd.R_lit (Kd.int .i64) _ 3 ?hg (N := 111) ?hd (xs := ([fA] : List Int)) (inner := [.int .i64 fA]) (ok := fun _ => True) (okp := fun _ => True) ?hr ?hp (fun _ hk => hk) trivial (Below.refl _ _) (Nat.le_refl _) (by simp) ?_; (case hd => rfl); (case hg => rfl); (case hr => first | (go_simp; done) | (go_simp; rfl)); (case hp => exact (Reps.one (show Kd.M (Kd.int .i64) _ _ _ fA [.int .i64 fA] from rfl) (Reps.none _ _))); intro AF JI ho76 hb hg_ hnew_; clear hg_ hnew_; (first | rw [← Ny323.out] at ho76 | (simp only [Int.reduceToNat] at ho76; rw [← Ny323.out] at ho76)); have CA := Aside0.mk (Kd.Q_elder' q7_3 (Kd.R_base ho76) hb); have DA := Aside0.mk (Kd.R_elder' q7_7 (Kd.R_base ho76) hb); have FA := Aside0.mk (Kd.R_elder' q7_6 (Kd.R_base ho76) hb); have GA := Aside0.mk (Kd.R_elder' q7_2 (Kd.R_base ho76) hb); have JA := Aside0.mk (Kd.R_lower (Kd.R_new' (Kd.R_new' (Kd.R_new' (Kd.R_new' ho76 (Kd.Q_lt q7_3)) (Kd.R_lt q7_7)) (Kd.R_lt q7_6)) (Kd.R_lt q7_2)) (below_size q7_0)); have QA := Aside0.mk (blk_below (g := sA) (o := .cells #[dA] 29 (0, 0)) q7_1 hb); have RA := Aside0.mk (blk_below (g := bA) (o := .cells #[.int .i64 iA, .int .i64 fA, .int .i64 oA, .int .i64 nA, .int .i64 mA, .int .i64 lA, .int .i64 kA, .int .i64 eA, .int .i64 gA, .bool true] 23 (0, 0)) q7_5 hb); have YA := Aside0.mk (below_step q7_0 hb); clear vA; clear yA; clear tA; clear cA; clear hA; clear aA; clear HB; have vA := CA; have yA := DA; have tA := FA; have cA := GA; have tC := JA; have hA := QA; have aA := RA; have HB := YA; clear CA DA FA GA JA QA RA YA; clear hb ho76; obtain ⟨qD, rD, BF, _⟩ := Kd.Q_slice vA.out; subst BF) | ((with_reducible refine gate_builtin (b := .append) (xs := #[.tmp 111, .tmp 112]) rfl ?_); (try (refine gate_guard (by rfl) ?_; dsimp only)); at_builtin; refine Kd.R_append_rows (Kd.int .i64) (w0 := w) w.heap.size rfl (.tmp 111) (.tmp 112) 27 3 (.int .i64 0) 8 rfl Try.underlying27 info3 rfl (by decide) (by omega) AF y323 wA _ _ _ (fun k_ => some k_ ≠ (.slice qD wA.length rD : Value).ownBlock ∧ some k_ ≠ (u7 : Value).ownBlock ∧ some k_ ≠ (.slice (some ad284) qA.length IA : Value).ownBlock ∧ some k_ ≠ (dA : Value).ownBlock) (fun _ => False) rfl rfl ?aO ?aR (fun _ _ h => h) (fun _ h => h.elim) ?aF ?aB ?aS ?aL ?_; (case aR => repeat (first | exact (Kd.Q_reads' vA.out).2.2 | (with_reducible refine Kd.C_alloc ?_ _) | (with_reducible refine Kd.C_drewN ?_ _) | (with_reducible refine Kd.C_drew ?_))); (case aB => exact q7_0); (case aF => exact (fun k_ hk => ⟨Kd.fresh' (Kd.Q_lt q7_3) k_ hk, Kd.fresh' (Kd.R_lt q7_7) k_ hk, Kd.fresh' (Kd.R_lt q7_6) k_ hk, Kd.fresh' (Kd.R_lt q7_2) k_ hk⟩)); (case aO => exact q7_27); (case aS => exact (below_size q7_0)); (case aL => have := LMc69.out; omega); intro bI KI ho hb hg hat; rw [← Ny326.out] at ho; have CA := Aside0.mk (Kd.Q_after (ok := (fun k_ => some k_ ≠ (u7 : Value).ownBlock ∧ some k_ ≠ (.slice (some ad284) qA.length IA : Value).ownBlock ∧ some k_ ≠ (dA : Value).ownBlock)) q7_3 hg hat); have DA := Aside0.mk (Kd.R_after (ok := (fun k_ => some k_ ≠ (.slice qD wA.length rD : Value).ownBlock ∧ some k_ ≠ (.slice (some ad284) qA.length IA : Value).ownBlock ∧ some k_ ≠ (dA : Value).ownBlock)) q7_7 hg hat); have FA := Aside0.mk (Kd.R_after (ok := (fun k_ => some k_ ≠ (.slice qD wA.length rD : Value).ownBlock ∧ some k_ ≠ (u7 : Value).ownBlock ∧ some k_ ≠ (dA : Value).ownBlock)) q7_6 hg hat); have GA := Aside0.mk (Kd.R_after (ok := (fun k_ => some k_ ≠ (.slice qD wA.length rD : Value).ownBlock ∧ some k_ ≠ (u7 : Value).ownBlock ∧ some k_ ≠ (.slice (some ad284) qA.length IA : Value).ownBlock)) q7_2 hg hat); have JA := Aside0.mk (blk_grown (g := sA) (o := .cells #[dA] 29 (0, 0)) q7_1 hg (Kd.R_ne tC.out hA.out (by decide))); have QA := Aside0.mk (blk_grown (g := bA) (o := .cells #[.int .i64 iA, .int .i64 fA, .int .i64 oA, .int .i64 nA, .int .i64 mA, .int .i64 lA, .int .i64 kA, .int .i64 eA, .int .i64 gA, .bool true] 23 (0, 0)) q7_5 hg (Kd.R_ne tC.out aA.out (by decide))); have RA := Aside0.mk (hb); have YA := Aside0.mk (ho); clear vA; clear yA; clear tA; clear cA; clear hA; clear aA; clear HB; clear tC; have vA := CA; have yA := DA; have tA := FA; have cA := GA; have hA := JA; have aA := QA; have HB := RA; have CF := YA; clear CA DA FA GA JA QA RA YA; clear ho hb hg hat; obtain ⟨DF, EF, FF⟩ := Kd.R_slice yA.out; subst FF; have q80 : ((ji70) : Int) ≤ ((zA.length : Int) : Int) := of_decide_eq_true q7_21; obtain ⟨i080, hi080, _, hsz80, _⟩ := info_parts info3; have hcut80 := cut_to (P := Try.prog) 27 3 .i64 Try.underlying27 hi080 DF zA.length EF (ji70) (of_decide_eq_true q7_21) q80 (Kd.R_reads' yA.out).2.1; have hr80 := Kd.R_take (m := ((ji70) : Int).toNat) yA.out (by omega); have hy80 : y329.length = ((ji70) : Int).toNat := (by rw [Ny329.out, List.length_take]; omega); rw [← Ny329.out] at hr80; rw [← hy80] at hr80 hcut80; clear hy80 hi080 hsz80 yA; have GF := Aside0.mk hr80; clear hr80; replace q80 := eq_true q80)); try go_wp2_with (first | ((with_reducible refine gate_dst (N := 111) rfl ?_); (try (refine gate_guard (by rfl) ?_; dsimp only)); refine Kd.R_lit (Kd.int .i64) _ 3 ?hg (N := 111) ?hd (xs := ([fA] : List Int)) (inner := [.int .i64 fA]) (ok := fun _ => True) (okp := fun _ => True) ?hr ?hp (fun _ hk => hk) trivial (Below.refl _ _) (Nat.le_refl _) (by simp) ?_; (case hd => rfl); (case hg => rfl); (case hr => first | (go_simp; done) | (go_simp; rfl)); (case hp => exact (Reps.one (show Kd.M (Kd.int .i64) _ _ _ fA [.int .i64 fA] from rfl) (Reps.none _ _))); intro AF JI ho76 hb hg_ hnew_; clear hg_ hnew_; (first | rw [← Ny323.out] at ho76 | (simp only [Int.reduceToNat] at ho76; rw [← Ny323.out] at ho76)); have CA := Aside0.mk (Kd.Q_elder' q7_3 (Kd.R_base ho76) hb); have DA := Aside0.mk (Kd.R_elder' q7_7 (Kd.R_base ho76) hb); have FA := Aside0.mk (Kd.R_elder' q7_6 (Kd.R_base ho76) hb); have GA := Aside0.mk (Kd.R_elder' q7_2 (Kd.R_base ho76) hb); have JA := Aside0.mk (Kd.R_lower (Kd.R_new' (Kd.R_new' (Kd.R_new' (Kd.R_new' ho76 (Kd.Q_lt q7_3)) (Kd.R_lt q7_7)) (Kd.R_lt q7_6)) (Kd.R_lt q7_2)) (below_size q7_0)); have QA := Aside0.mk (blk_below (g := sA) (o := .cells #[dA] 29 (0, 0)) q7_1 hb); have RA := Aside0.mk (blk_below (g := bA) (o := .cells #[.int .i64 iA, .int .i64 fA, .int .i64 oA, .int .i64 nA, .int .i64 mA, .int .i64 lA, .int .i64 kA, .int .i64 eA, .int .i64 gA, .bool true] 23 (0, 0)) q7_5 hb); have YA := Aside0.mk (below_step q7_0 hb); clear vA; clear yA; clear tA; clear cA; clear hA; clear aA; clear HB; have vA := CA; have yA := DA; have tA := FA; have cA := GA; have tC := JA; have hA := QA; have aA := RA; have HB := YA; clear CA DA FA GA JA QA RA YA; clear hb ho76; obtain ⟨qD, rD, BF, _⟩ := Kd.Q_slice vA.out; subst BF) | ((with_reducible refine gate_builtin (b := .append) (xs := #[.tmp 111, .tmp 112]) rfl ?_); (try (refine gate_guard (by rfl) ?_; dsimp only)); at_builtin; refine Kd.R_append_rows (Kd.int .i64) (w0 := w) w.heap.size rfl (.tmp 111) (.tmp 112) 27 3 (.int .i64 0) 8 rfl Try.underlying27 info3 rfl (by decide) (by omega) AF y323 wA _ _ _ (fun k_ => some k_ ≠ (.slice qD wA.length rD : Value).ownBlock ∧ some k_ ≠ (u7 : Value).ownBlock ∧ some k_ ≠ (.slice (some ad284) qA.length IA : Value).ownBlock ∧ some k_ ≠ (dA : Value).ownBlock) (fun _ => False) rfl rfl ?aO ?aR (fun _ _ h => h) (fun _ h => h.elim) ?aF ?aB ?aS ?aL ?_; (case aR => repeat (first | exact (Kd.Q_reads' vA.out).2.2 | (with_reducible refine Kd.C_alloc ?_ _) | (with_reducible refine Kd.C_drewN ?_ _) | (with_reducible refine Kd.C_drew ?_))); (case aB => exact q7_0); (case aF => exact (fun k_ hk => ⟨Kd.fresh' (Kd.Q_lt q7_3) k_ hk, Kd.fresh' (Kd.R_lt q7_7) k_ hk, Kd.fresh' (Kd.R_lt q7_6) k_ hk, Kd.fresh' (Kd.R_lt q7_2) k_ hk⟩)); (case aO => exact q7_27); (case aS => exact (below_size q7_0)); (case aL => have := LMc69.out; omega); intro bI KI ho hb hg hat; rw [← Ny326.out] at ho; have CA := Aside0.mk (Kd.Q_after (ok := (fun k_ => some k_ ≠ (u7 : Value).ownBlock ∧ some k_ ≠ (.slice (some ad284) qA.length IA : Value).ownBlock ∧ some k_ ≠ (dA : Value).ownBlock)) q7_3 hg hat); have DA := Aside0.mk (Kd.R_after (ok := (fun k_ => some k_ ≠ (.slice qD wA.length rD : Value).ownBlock ∧ some k_ ≠ (.slice (some ad284) qA.length IA : Value).ownBlock ∧ some k_ ≠ (dA : Value).ownBlock)) q7_7 hg hat); have FA := Aside0.mk (Kd.R_after (ok := (fun k_ => some k_ ≠ (.slice qD wA.length rD : Value).ownBlock ∧ some k_ ≠ (u7 : Value).ownBlock ∧ some k_ ≠ (dA : Value).ownBlock)) q7_6 hg hat); have GA := Aside0.mk (Kd.R_after (ok := (fun k_ => some k_ ≠ (.slice qD wA.length rD : Value).ownBlock ∧ some k_ ≠ (u7 : Value).ownBlock ∧ some k_ ≠ (.slice (some ad284) qA.length IA : Value).ownBlock)) q7_2 hg hat); have JA := Aside0.mk (blk_grown (g := sA) (o := .cells #[dA] 29 (0, 0)) q7_1 hg (Kd.R_ne tC.out hA.out (by decide))); have QA := Aside0.mk (blk_grown (g := bA) (o := .cells #[.int .i64 iA, .int .i64 fA, .int .i64 oA, .int .i64 nA, .int .i64 mA, .int .i64 lA, .int .i64 kA, .int .i64 eA, .int .i64 gA, .bool true] 23 (0, 0)) q7_5 hg (Kd.R_ne tC.out aA.out (by decide))); have RA := Aside0.mk (hb); have YA := Aside0.mk (ho); clear vA; clear yA; clear tA; clear cA; clear hA; clear aA; clear HB; clear tC; have vA := CA; have yA := DA; have tA := FA; have cA := GA; have hA := JA; have aA := QA; have HB := RA; have CF := YA; clear CA DA FA GA JA QA RA YA; clear ho hb hg hat; obtain ⟨DF, EF, FF⟩ := Kd.R_slice yA.out; subst FF; have q80 : ((ji70) : Int) ≤ ((zA.length : Int) : Int) := of_decide_eq_true q7_21; obtain ⟨i080, hi080, _, hsz80, _⟩ := info_parts info3; have hcut80 := cut_to (P := Try.prog) 27 3 .i64 Try.underlying27 hi080 DF zA.length EF (ji70) (of_decide_eq_true q7_21) q80 (Kd.R_reads' yA.out).2.1; have hr80 := Kd.R_take (m := ((ji70) : Int).toNat) yA.out (by omega); have hy80 : y329.length = ((ji70) : Int).toNat := (by rw [Ny329.out, List.length_take]; omega); rw [← Ny329.out] at hr80; rw [← hy80] at hr80 hcut80; clear hy80 hi080 hsz80 yA; have GF := Aside0.mk hr80; clear hr80; replace q80 := eq_true q80)))
                         go_meet
                         case rel => exact ⟨_, (y326), (y329), H', ⟨q7_36⟩, ⟨Kd.Q_of_R (by (with_reducible repeat (first | apply Kd.R_alloc | apply Kd.R_drewN | apply Kd.R_drew)); exact Kd.R_mono CF.out (fun _ hk => ⟨ne_own hk.2.1, ⟨hk.2.2.1, hk.2.2.2⟩⟩))⟩, ⟨by (with_reducible repeat (first | apply Kd.R_alloc | apply Kd.R_drewN | apply Kd.R_drew)); exact Kd.R_mono GF.out (fun _ hk => ⟨hk.2, ⟨hk.1.2.1, hk.1.2.2⟩⟩)⟩, ⟨by (with_reducible repeat (first | apply Kd.R_alloc | apply Kd.R_drewN | apply Kd.R_drew)); exact Kd.R_mono tA.out (fun _ hk => ⟨hk.2, ⟨ne_own hk.1.2.1, hk.1.2.2⟩⟩)⟩, ⟨by (with_reducible repeat (first | apply Kd.R_alloc | apply Kd.R_drewN | apply Kd.R_drew)); exact Kd.R_mono cA.out (fun _ hk => ⟨hk.2, ⟨ne_own hk.1.2.1, hk.1.2.2⟩⟩)⟩, ⟨q7_1⟩, ⟨q7_5⟩, ⟨q7_0⟩⟩
                        ·rw [if_neg c72] at H
                         exact absurd H (by simp)
                       ·rw [if_neg c71] at H
                        exact absurd H (by simp)
                      ·rw [if_neg c69] at H
                       exact absurd H (by simp)
                     ·rw [if_neg c68] at H
                      have JD : (iA == 1) = false := beq_eq_false_iff_ne.mpr c68
                      have FH : (iA != 1) = true := bne_iff_ne.mpr c68
                      (first | rw [JD] | (simp only [i64_w, i32_w]; rw [JD]) | skip)
                      by_cases c81 : (wA.length : Int) = 0
                      ·rw [if_pos c81] at H
                       have GH : ((wA.length : Int) == 0) = true := beq_iff_eq.mpr c81
                       have HH : ((wA.length : Int) != 0) = false := bne_eq_false_iff_eq.mpr c81
                       clear c81
                       by_cases c82 : eA = 2
                       ·rw [if_pos c82] at H
                        have IH : (eA == 2) = true := beq_iff_eq.mpr c82
                        have JH : (eA != 2) = false := bne_eq_false_iff_eq.mpr c82
                        clear c82
                        have H' := Aside0.mk H
                        clear H
                        have LI := KA.out
                        have MI := uA.out
                        have zG : wc.cell? ⟨bA, 0, none⟩ = some (.int .i64 iA) := (blk_cell aA.out 0).trans rfl
                        have AG : wc.cell? ⟨bA, 1, none⟩ = some (.int .i64 fA) := (blk_cell aA.out 1).trans rfl
                        have BG : wc.cell? ⟨bA, 2, none⟩ = some (.int .i64 oA) := (blk_cell aA.out 2).trans rfl
                        have CG : wc.cell? ⟨bA, 3, none⟩ = some (.int .i64 nA) := (blk_cell aA.out 3).trans rfl
                        have DG : wc.cell? ⟨bA, 4, none⟩ = some (.int .i64 mA) := (blk_cell aA.out 4).trans rfl
                        have EG : wc.cell? ⟨bA, 5, none⟩ = some (.int .i64 lA) := (blk_cell aA.out 5).trans rfl
                        have FG : wc.cell? ⟨bA, 6, none⟩ = some (.int .i64 kA) := (blk_cell aA.out 6).trans rfl
                        have GG : wc.cell? ⟨bA, 7, none⟩ = some (.int .i64 eA) := (blk_cell aA.out 7).trans rfl
                        have HG : wc.cell? ⟨bA, 8, none⟩ = some (.int .i64 gA) := (blk_cell aA.out 8).trans rfl
                        have IG : wc.cell? ⟨bA, 9, none⟩ = some (.bool true) := (blk_cell aA.out 9).trans rfl
                        have JG := blk_frozen aA.out 0
                        have KG := blk_frozen aA.out 1
                        have LG := blk_frozen aA.out 2
                        have MG := blk_frozen aA.out 3
                        have NG := blk_frozen aA.out 4
                        have OG := blk_frozen aA.out 5
                        have PG := blk_frozen aA.out 6
                        have QG := blk_frozen aA.out 7
                        have RG := blk_frozen aA.out 8
                        have SG := blk_frozen aA.out 9
                        obtain ⟨XI, YI, tI, _⟩ := Kd.Q_slice vA.out
                        subst tI
                        go_wp2
                        repeat (go_quiet (fail); try go_wp2)
                        go_meet
                        case rel => exact ⟨_, (wA), (zA), H', ⟨q7_36⟩, ⟨q7_3⟩, ⟨q7_7⟩, ⟨q7_6⟩, ⟨q7_2⟩, ⟨q7_1⟩, ⟨q7_5⟩, ⟨q7_0⟩⟩
                       ·rw [if_neg c82] at H
                        have IH : (eA == 2) = false := beq_eq_false_iff_ne.mpr c82
                        have JH : (eA != 2) = true := bne_iff_ne.mpr c82
                        exact absurd H (by simp)
                      ·rw [if_neg c81] at H
                       have GH : ((wA.length : Int) == 0) = false := beq_eq_false_iff_ne.mpr c81
                       have HH : ((wA.length : Int) != 0) = true := bne_iff_ne.mpr c81
                       have cI : ¬ (wA = []) := fun h_ => c81 (by rw [h_]; rfl)
                       by_cases c86 : eA = 1
                       ·rw [if_pos c86] at H
                        have KH : (eA == 1) = true := beq_iff_eq.mpr c86
                        have LH : (eA != 1) = false := bne_eq_false_iff_eq.mpr c86
                        clear c86
                        by_cases c87 : 0 < (wA.length : Int)
                        ·rw [if_pos c87] at H
                         have dI : decide (0 < (wA.length : Int)) = true := decide_eq_true c87
                         have eI : decide (0 < wA.length) = true := decide_eq_true (by omega)
                         clear c87
                         by_cases c88 : gA = (rd wA 0)
                         ·rw [if_pos c88] at H
                          have MH : (gA == (rd wA 0)) = true := beq_iff_eq.mpr c88
                          have NH : (gA != (rd wA 0)) = false := bne_eq_false_iff_eq.mpr c88
                          clear c88
                          by_cases c89 : zA.length < 17592186044416
                          ·rw [if_pos c89] at H
                           have LMc89 := Aside0.mk c89
                           clear c89
                           obtain ⟨y334, hy334⟩ : ∃ y_ : List Int, y_ = (zA ++ [rd wA 0]) := ⟨_, rfl⟩
                           replace H : (if 1 ≤ (wA.length : Int) then (laws_FnStackOne.j6 kj41 (wrap64 (1 + AA)) (wA.drop (1 : Int).toNat) y334 qA (qA.length : Int) BA jA) else (none)) = some true := by first | (rw [hy334]; with_reducible exact H) | (have H2_ := (Option.bind_some _ _).symm.trans H; rw [hy334]; with_reducible exact H2_) | (have H2_ := (Option.bind_some _ _).symm.trans H; with_reducible exact H2_) | with_reducible exact H | (rw [hy334]; exact H) | exact H
                           have Ny334 := Aside0.mk hy334
                           clear hy334
                           by_cases c90 : 1 ≤ (wA.length : Int)
                           ·rw [if_pos c90] at H
                            have fI := eq_true c90
                            have gI : decide (1 ≤ (wA.length : Int)) = true := decide_eq_true c90
                            clear c90
                            obtain ⟨y337, hy337⟩ : ∃ y_ : List Int, y_ = (wA.drop (1 : Int).toNat) := ⟨_, rfl⟩
                            replace H : (laws_FnStackOne.j6 kj41 (wrap64 (1 + AA)) y337 y334 qA (qA.length : Int) BA jA) = some true := by first | (rw [hy337]; with_reducible exact H) | (have H2_ := (Option.bind_some _ _).symm.trans H; rw [hy337]; with_reducible exact H2_) | (have H2_ := (Option.bind_some _ _).symm.trans H; with_reducible exact H2_) | with_reducible exact H | (rw [hy337]; exact H) | exact H
                            have Ny337 := Aside0.mk hy337
                            clear hy337
                            have H' := Aside0.mk H
                            clear H
                            have NI := KA.out
                            have OI := uA.out
                            have TG : wc.cell? ⟨bA, 0, none⟩ = some (.int .i64 iA) := (blk_cell aA.out 0).trans rfl
                            have UG : wc.cell? ⟨bA, 1, none⟩ = some (.int .i64 fA) := (blk_cell aA.out 1).trans rfl
                            have VG : wc.cell? ⟨bA, 2, none⟩ = some (.int .i64 oA) := (blk_cell aA.out 2).trans rfl
                            have WG : wc.cell? ⟨bA, 3, none⟩ = some (.int .i64 nA) := (blk_cell aA.out 3).trans rfl
                            have XG : wc.cell? ⟨bA, 4, none⟩ = some (.int .i64 mA) := (blk_cell aA.out 4).trans rfl
                            have YG : wc.cell? ⟨bA, 5, none⟩ = some (.int .i64 lA) := (blk_cell aA.out 5).trans rfl
                            have ZG : wc.cell? ⟨bA, 6, none⟩ = some (.int .i64 kA) := (blk_cell aA.out 6).trans rfl
                            have aH : wc.cell? ⟨bA, 7, none⟩ = some (.int .i64 eA) := (blk_cell aA.out 7).trans rfl
                            have bH : wc.cell? ⟨bA, 8, none⟩ = some (.int .i64 gA) := (blk_cell aA.out 8).trans rfl
                            have cH : wc.cell? ⟨bA, 9, none⟩ = some (.bool true) := (blk_cell aA.out 9).trans rfl
                            have dH := blk_frozen aA.out 0
                            have eH := blk_frozen aA.out 1
                            have fH := blk_frozen aA.out 2
                            have gH := blk_frozen aA.out 3
                            have hH := blk_frozen aA.out 4
                            have iH := blk_frozen aA.out 5
                            have jH := blk_frozen aA.out 6
                            have kH := blk_frozen aA.out 7
                            have lH := blk_frozen aA.out 8
                            have mH := blk_frozen aA.out 9
                            obtain ⟨ZI, FB, uI, _⟩ := Kd.Q_slice vA.out
                            subst uI
                            have p332 : 0 ≤ (0 : Int) := (by omega)
                            have q332 : 0 < (wA.length : Int) := of_decide_eq_true q7_21
                            obtain ⟨ad332, vI, GE⟩ := Kd.at_int (Kd.Q_reads' vA.out).2.2 0 p332 q332
                            cases vI
                            have qi332 : (0 < wA.length) = True := eq_true (by omega)
                            (try rw [show ((0 : Int)).toNat = 0 from rfl] at GE)
                            (try rw [Addr.add_zero'] at GE)
                            replace p332 := eq_true p332
                            replace q332 := eq_true q332
                            have p333 : 0 ≤ (0 : Int) := (by omega)
                            have q333 : 0 < (wA.length : Int) := of_decide_eq_true q7_21
                            obtain ⟨ad333, wI, HE⟩ := Kd.at_int (Kd.Q_reads' vA.out).2.2 0 p333 q333
                            obtain rfl : ad332 = ad333 := (by injection wI)
                            have qi333 : (0 < wA.length) = True := eq_true (by omega)
                            (try rw [show ((0 : Int)).toNat = 0 from rfl] at HE)
                            (try rw [Addr.add_zero'] at HE)
                            replace p333 := eq_true p333
                            replace q333 := eq_true q333
                            go_wp2_with (first | ((with_reducible refine gate_builtin (b := .append) (xs := #[.tmp 93, .tmp 97]) rfl ?_); (try (refine gate_guard (by rfl) ?_; dsimp only)); at_builtin; refine Kd.R_append (Kd.int .i64) (w0 := w) w.heap.size rfl (.tmp 93) (.tmp 97) 27 3 (.int .i64 0) 8 rfl Try.underlying27 info3 rfl (by decide) (by omega) u7 zA (rd wA 0) [.int .i64 (rd wA 0)] (fun k_ => some k_ ≠ (.slice (some ad332) wA.length FB : Value).ownBlock ∧ some k_ ≠ (.slice (some ad284) qA.length IA : Value).ownBlock ∧ some k_ ≠ (dA : Value).ownBlock) (fun _ => False) rfl rfl ?aP (fun _ hk => hk.elim) ?aF ?aO ?aB ?aS ?aL ?_; (case aP => exact rfl); (case aB => exact q7_0); (case aF => exact (fun k_ hk => ⟨Kd.fresh' (Kd.Q_lt q7_3) k_ hk, Kd.fresh' (Kd.R_lt q7_6) k_ hk, Kd.fresh' (Kd.R_lt q7_2) k_ hk⟩)); (case aO => exact q7_7); (case aS => exact (below_size q7_0)); (case aL => have := LMc89.out; omega); intro sD hI ho hb hg hat; rw [← Ny334.out] at ho; have CA := Aside0.mk (Kd.Q_after (ok := (fun k_ => some k_ ≠ (.slice (some ad284) qA.length IA : Value).ownBlock ∧ some k_ ≠ (dA : Value).ownBlock)) q7_34 hg hat); have DA := Aside0.mk (Kd.R_after (ok := (fun k_ => some k_ ≠ (.slice (some ad332) wA.length FB : Value).ownBlock ∧ some k_ ≠ (dA : Value).ownBlock)) q7_33 hg hat); have FA := Aside0.mk (Kd.R_after (ok := (fun k_ => some k_ ≠ (.slice (some ad332) wA.length FB : Value).ownBlock ∧ some k_ ≠ (.slice (some ad284) qA.length IA : Value).ownBlock)) q7_32 hg hat); have GA := Aside0.mk (blk_grown (g := sA) (o := .cells #[dA] 29 (0, 0)) q7_1 hg (Kd.R_ne yA.out hA.out (by decide))); have JA := Aside0.mk (blk_grown (g := bA) (o := .cells #[.int .i64 iA, .int .i64 fA, .int .i64 oA, .int .i64 nA, .int .i64 mA, .int .i64 lA, .int .i64 kA, .int .i64 eA, .int .i64 gA, .bool true] 23 (0, 0)) q7_5 hg (Kd.R_ne yA.out aA.out (by decide))); have QA := Aside0.mk (hb); have RA := Aside0.mk (ho); clear vA; clear tA; clear cA; clear hA; clear aA; clear HB; clear yA; have vA := CA; have tA := DA; have cA := FA; have hA := GA; have aA := JA; have HB := QA; have uC := RA; clear CA DA FA GA JA QA RA; clear ho hb hg hat; have n_ := Aside0.mk (Kd.Q_mono (ok' := (fun k_ => some k_ ≠ (.slice (some ad284) qA.length IA : Value).ownBlock ∧ some k_ ≠ (dA : Value).ownBlock ∧ some k_ ≠ (sD : Value).ownBlock)) vA.out (fun k_ hk => ⟨hk.1.1, ⟨hk.1.2, hk.2⟩⟩)); clear vA; have vA := n_; clear n_; have q95 : (1 : Int) ≤ ((wA.length : Int) : Int) := of_decide_eq_true q7_21; obtain ⟨i095, hi095, _, hsz95, _⟩ := info_parts info3; have hcut95 := cut_from (P := Try.prog) 27 3 .i64 Try.underlying27 hi095 1 hsz95 (some ad332) wA.length FB 1 (by omega) q95; have hr95 := Kd.Q_drop (k := (1 : Int).toNat) vA.out (by omega); obtain ⟨A95, hA95⟩ : ∃ A1, A1 = (if FB = (1 : Int).toNat then (some ad332) else ((some ad332) : Option Addr).map (·.add ((1 : Int).toNat * 1))) := ⟨_, rfl⟩; obtain ⟨c95, hc95⟩ : ∃ c1, c1 = FB - (1 : Int).toNat := ⟨_, rfl⟩; have hy95 : y337.length = wA.length - (1 : Int).toNat := (by rw [Ny337.out, List.length_drop]); rw [← Ny337.out] at hr95; rw [← hy95, ← hA95, ← hc95] at hcut95; replace hr95 : Kd.Q (Kd.int .i64) 3 hI w.heap.size (fun k_ => some k_ ≠ (.slice (some ad284) qA.length IA : Value).ownBlock ∧ some k_ ≠ (dA : Value).ownBlock ∧ some k_ ≠ (sD : Value).ownBlock) (.slice A95 y337.length c95) y337 := (by rw [hA95, hc95, hy95]; exact hr95); have HE95 : Aside0 ((Value.slice A95 y337.length c95).ownBlock = (.slice (some ad332) wA.length FB : Value).ownBlock) := ⟨by rw [hA95]; split <;> (cases ((some ad332) : Option Addr) <;> rfl)⟩; clear hy95 hi095 hsz95 vA hA95 hc95; have HF := Aside0.mk hr95; clear hr95; replace q95 := eq_true q95; have n_ := Aside0.mk (Kd.R_mono (ok' := fun k_ => ((some k_ ≠ (.slice A95 y337.length c95 : Value).ownBlock ∧ some k_ ≠ (dA : Value).ownBlock) ∧ some k_ ≠ (sD : Value).ownBlock)) tA.out (fun k_ hk => ⟨⟨(by rw [HE95.out]; exact hk.1.1), hk.1.2⟩, hk.2⟩)); clear tA; have tA := n_; clear n_; have n_ := Aside0.mk (Kd.R_mono (ok' := fun k_ => ((some k_ ≠ (.slice A95 y337.length c95 : Value).ownBlock ∧ some k_ ≠ (.slice (some ad284) qA.length IA : Value).ownBlock) ∧ some k_ ≠ (sD : Value).ownBlock)) cA.out (fun k_ hk => ⟨⟨(by rw [HE95.out]; exact hk.1.1), hk.1.2⟩, hk.2⟩)); clear cA; have cA := n_; clear n_; have n_ := Aside0.mk (Kd.R_mono (ok' := fun k_ => (some k_ ≠ (.slice A95 y337.length c95 : Value).ownBlock ∧ (some k_ ≠ (.slice (some ad284) qA.length IA : Value).ownBlock ∧ some k_ ≠ (dA : Value).ownBlock))) uC.out (fun k_ hk => ⟨(by rw [HE95.out]; exact hk.1), ⟨hk.2.1, hk.2.2⟩⟩)); clear uC; have uC := n_; clear n_))
                            repeat (go_quiet (first | ((with_reducible refine gate_builtin (b := .append) (xs := #[.tmp 93, .tmp 97]) rfl ?_); (try (refine gate_guard (by rfl) ?_; dsimp only)); at_builtin; refine Kd.R_append (Kd.int .i64) (w0 := w) w.heap.size rfl (.tmp 93) (.tmp 97) 27 3 (.int .i64 0) 8 rfl Try.underlying27 info3 rfl (by decide) (by omega) u7 zA (rd wA 0) [.int .i64 (rd wA 0)] (fun k_ => some k_ ≠ (.slice (some ad332) wA.length FB : Value).ownBlock ∧ some k_ ≠ (.slice (some ad284) qA.length IA : Value).ownBlock ∧ some k_ ≠ (dA : Value).ownBlock) (fun _ => False) rfl rfl ?aP (fun _ hk => hk.elim) ?aF ?aO ?aB ?aS ?aL ?_; (case aP => exact rfl); (case aB => exact q7_0); (case aF => exact (fun k_ hk => ⟨Kd.fresh' (Kd.Q_lt q7_3) k_ hk, Kd.fresh' (Kd.R_lt q7_6) k_ hk, Kd.fresh' (Kd.R_lt q7_2) k_ hk⟩)); (case aO => exact q7_7); (case aS => exact (below_size q7_0)); (case aL => have := LMc89.out; omega); intro sD hI ho hb hg hat; rw [← Ny334.out] at ho; have CA := Aside0.mk (Kd.Q_after (ok := (fun k_ => some k_ ≠ (.slice (some ad284) qA.length IA : Value).ownBlock ∧ some k_ ≠ (dA : Value).ownBlock)) q7_34 hg hat); have DA := Aside0.mk (Kd.R_after (ok := (fun k_ => some k_ ≠ (.slice (some ad332) wA.length FB : Value).ownBlock ∧ some k_ ≠ (dA : Value).ownBlock)) q7_33 hg hat); have FA := Aside0.mk (Kd.R_after (ok := (fun k_ => some k_ ≠ (.slice (some ad332) wA.length FB : Value).ownBlock ∧ some k_ ≠ (.slice (some ad284) qA.length IA : Value).ownBlock)) q7_32 hg hat); have GA := Aside0.mk (blk_grown (g := sA) (o := .cells #[dA] 29 (0, 0)) q7_1 hg (Kd.R_ne yA.out hA.out (by decide))); have JA := Aside0.mk (blk_grown (g := bA) (o := .cells #[.int .i64 iA, .int .i64 fA, .int .i64 oA, .int .i64 nA, .int .i64 mA, .int .i64 lA, .int .i64 kA, .int .i64 eA, .int .i64 gA, .bool true] 23 (0, 0)) q7_5 hg (Kd.R_ne yA.out aA.out (by decide))); have QA := Aside0.mk (hb); have RA := Aside0.mk (ho); clear vA; clear tA; clear cA; clear hA; clear aA; clear HB; clear yA; have vA := CA; have tA := DA; have cA := FA; have hA := GA; have aA := JA; have HB := QA; have uC := RA; clear CA DA FA GA JA QA RA; clear ho hb hg hat; have n_ := Aside0.mk (Kd.Q_mono (ok' := (fun k_ => some k_ ≠ (.slice (some ad284) qA.length IA : Value).ownBlock ∧ some k_ ≠ (dA : Value).ownBlock ∧ some k_ ≠ (sD : Value).ownBlock)) vA.out (fun k_ hk => ⟨hk.1.1, ⟨hk.1.2, hk.2⟩⟩)); clear vA; have vA := n_; clear n_; have q95 : (1 : Int) ≤ ((wA.length : Int) : Int) := of_decide_eq_true q7_21; obtain ⟨i095, hi095, _, hsz95, _⟩ := info_parts info3; have hcut95 := cut_from (P := Try.prog) 27 3 .i64 Try.underlying27 hi095 1 hsz95 (some ad332) wA.length FB 1 (by omega) q95; have hr95 := Kd.Q_drop (k := (1 : Int).toNat) vA.out (by omega); obtain ⟨A95, hA95⟩ : ∃ A1, A1 = (if FB = (1 : Int).toNat then (some ad332) else ((some ad332) : Option Addr).map (·.add ((1 : Int).toNat * 1))) := ⟨_, rfl⟩; obtain ⟨c95, hc95⟩ : ∃ c1, c1 = FB - (1 : Int).toNat := ⟨_, rfl⟩; have hy95 : y337.length = wA.length - (1 : Int).toNat := (by rw [Ny337.out, List.length_drop]); rw [← Ny337.out] at hr95; rw [← hy95, ← hA95, ← hc95] at hcut95; replace hr95 : Kd.Q (Kd.int .i64) 3 hI w.heap.size (fun k_ => some k_ ≠ (.slice (some ad284) qA.length IA : Value).ownBlock ∧ some k_ ≠ (dA : Value).ownBlock ∧ some k_ ≠ (sD : Value).ownBlock) (.slice A95 y337.length c95) y337 := (by rw [hA95, hc95, hy95]; exact hr95); have HE95 : Aside0 ((Value.slice A95 y337.length c95).ownBlock = (.slice (some ad332) wA.length FB : Value).ownBlock) := ⟨by rw [hA95]; split <;> (cases ((some ad332) : Option Addr) <;> rfl)⟩; clear hy95 hi095 hsz95 vA hA95 hc95; have HF := Aside0.mk hr95; clear hr95; replace q95 := eq_true q95; have n_ := Aside0.mk (Kd.R_mono (ok' := fun k_ => ((some k_ ≠ (.slice A95 y337.length c95 : Value).ownBlock ∧ some k_ ≠ (dA : Value).ownBlock) ∧ some k_ ≠ (sD : Value).ownBlock)) tA.out (fun k_ hk => ⟨⟨(by rw [HE95.out]; exact hk.1.1), hk.1.2⟩, hk.2⟩)); clear tA; have tA := n_; clear n_; have n_ := Aside0.mk (Kd.R_mono (ok' := fun k_ => ((some k_ ≠ (.slice A95 y337.length c95 : Value).ownBlock ∧ some k_ ≠ (.slice (some ad284) qA.length IA : Value).ownBlock) ∧ some k_ ≠ (sD : Value).ownBlock)) cA.out (fun k_ hk => ⟨⟨(by rw [HE95.out]; exact hk.1.1), hk.1.2⟩, hk.2⟩)); clear cA; have cA := n_; clear n_; have n_ := Aside0.mk (Kd.R_mono (ok' := fun k_ => (some k_ ≠ (.slice A95 y337.length c95 : Value).ownBlock ∧ (some k_ ≠ (.slice (some ad284) qA.length IA : Value).ownBlock ∧ some k_ ≠ (dA : Value).ownBlock))) uC.out (fun k_ hk => ⟨(by rw [HE95.out]; exact hk.1), ⟨hk.2.1, hk.2.2⟩⟩)); clear uC; have uC := n_; clear n_)); try go_wp2_with (first | ((with_reducible refine gate_builtin (b := .append) (xs := #[.tmp 93, .tmp 97]) rfl ?_); (try (refine gate_guard (by rfl) ?_; dsimp only)); at_builtin; refine Kd.R_append (Kd.int .i64) (w0 := w) w.heap.size rfl (.tmp 93) (.tmp 97) 27 3 (.int .i64 0) 8 rfl Try.underlying27 info3 rfl (by decide) (by omega) u7 zA (rd wA 0) [.int .i64 (rd wA 0)] (fun k_ => some k_ ≠ (.slice (some ad332) wA.length FB : Value).ownBlock ∧ some k_ ≠ (.slice (some ad284) qA.length IA : Value).ownBlock ∧ some k_ ≠ (dA : Value).ownBlock) (fun _ => False) rfl rfl ?aP (fun _ hk => hk.elim) ?aF ?aO ?aB ?aS ?aL ?_; (case aP => exact rfl); (case aB => exact q7_0); (case aF => exact (fun k_ hk => ⟨Kd.fresh' (Kd.Q_lt q7_3) k_ hk, Kd.fresh' (Kd.R_lt q7_6) k_ hk, Kd.fresh' (Kd.R_lt q7_2) k_ hk⟩)); (case aO => exact q7_7); (case aS => exact (below_size q7_0)); (case aL => have := LMc89.out; omega); intro sD hI ho hb hg hat; rw [← Ny334.out] at ho; have CA := Aside0.mk (Kd.Q_after (ok := (fun k_ => some k_ ≠ (.slice (some ad284) qA.length IA : Value).ownBlock ∧ some k_ ≠ (dA : Value).ownBlock)) q7_34 hg hat); have DA := Aside0.mk (Kd.R_after (ok := (fun k_ => some k_ ≠ (.slice (some ad332) wA.length FB : Value).ownBlock ∧ some k_ ≠ (dA : Value).ownBlock)) q7_33 hg hat); have FA := Aside0.mk (Kd.R_after (ok := (fun k_ => some k_ ≠ (.slice (some ad332) wA.length FB : Value).ownBlock ∧ some k_ ≠ (.slice (some ad284) qA.length IA : Value).ownBlock)) q7_32 hg hat); have GA := Aside0.mk (blk_grown (g := sA) (o := .cells #[dA] 29 (0, 0)) q7_1 hg (Kd.R_ne yA.out hA.out (by decide))); have JA := Aside0.mk (blk_grown (g := bA) (o := .cells #[.int .i64 iA, .int .i64 fA, .int .i64 oA, .int .i64 nA, .int .i64 mA, .int .i64 lA, .int .i64 kA, .int .i64 eA, .int .i64 gA, .bool true] 23 (0, 0)) q7_5 hg (Kd.R_ne yA.out aA.out (by decide))); have QA := Aside0.mk (hb); have RA := Aside0.mk (ho); clear vA; clear tA; clear cA; clear hA; clear aA; clear HB; clear yA; have vA := CA; have tA := DA; have cA := FA; have hA := GA; have aA := JA; have HB := QA; have uC := RA; clear CA DA FA GA JA QA RA; clear ho hb hg hat; have n_ := Aside0.mk (Kd.Q_mono (ok' := (fun k_ => some k_ ≠ (.slice (some ad284) qA.length IA : Value).ownBlock ∧ some k_ ≠ (dA : Value).ownBlock ∧ some k_ ≠ (sD : Value).ownBlock)) vA.out (fun k_ hk => ⟨hk.1.1, ⟨hk.1.2, hk.2⟩⟩)); clear vA; have vA := n_; clear n_; have q95 : (1 : Int) ≤ ((wA.length : Int) : Int) := of_decide_eq_true q7_21; obtain ⟨i095, hi095, _, hsz95, _⟩ := info_parts info3; have hcut95 := cut_from (P := Try.prog) 27 3 .i64 Try.underlying27 hi095 1 hsz95 (some ad332) wA.length FB 1 (by omega) q95; have hr95 := Kd.Q_drop (k := (1 : Int).toNat) vA.out (by omega); obtain ⟨A95, hA95⟩ : ∃ A1, A1 = (if FB = (1 : Int).toNat then (some ad332) else ((some ad332) : Option Addr).map (·.add ((1 : Int).toNat * 1))) := ⟨_, rfl⟩; obtain ⟨c95, hc95⟩ : ∃ c1, c1 = FB - (1 : Int).toNat := ⟨_, rfl⟩; have hy95 : y337.length = wA.length - (1 : Int).toNat := (by rw [Ny337.out, List.length_drop]); rw [← Ny337.out] at hr95; rw [← hy95, ← hA95, ← hc95] at hcut95; replace hr95 : Kd.Q (Kd.int .i64) 3 hI w.heap.size (fun k_ => some k_ ≠ (.slice (some ad284) qA.length IA : Value).ownBlock ∧ some k_ ≠ (dA : Value).ownBlock ∧ some k_ ≠ (sD : Value).ownBlock) (.slice A95 y337.length c95) y337 := (by rw [hA95, hc95, hy95]; exact hr95); have HE95 : Aside0 ((Value.slice A95 y337.length c95).ownBlock = (.slice (some ad332) wA.length FB : Value).ownBlock) := ⟨by rw [hA95]; split <;> (cases ((some ad332) : Option Addr) <;> rfl)⟩; clear hy95 hi095 hsz95 vA hA95 hc95; have HF := Aside0.mk hr95; clear hr95; replace q95 := eq_true q95; have n_ := Aside0.mk (Kd.R_mono (ok' := fun k_ => ((some k_ ≠ (.slice A95 y337.length c95 : Value).ownBlock ∧ some k_ ≠ (dA : Value).ownBlock) ∧ some k_ ≠ (sD : Value).ownBlock)) tA.out (fun k_ hk => ⟨⟨(by rw [HE95.out]; exact hk.1.1), hk.1.2⟩, hk.2⟩)); clear tA; have tA := n_; clear n_; have n_ := Aside0.mk (Kd.R_mono (ok' := fun k_ => ((some k_ ≠ (.slice A95 y337.length c95 : Value).ownBlock ∧ some k_ ≠ (.slice (some ad284) qA.length IA : Value).ownBlock) ∧ some k_ ≠ (sD : Value).ownBlock)) cA.out (fun k_ hk => ⟨⟨(by rw [HE95.out]; exact hk.1.1), hk.1.2⟩, hk.2⟩)); clear cA; have cA := n_; clear n_; have n_ := Aside0.mk (Kd.R_mono (ok' := fun k_ => (some k_ ≠ (.slice A95 y337.length c95 : Value).ownBlock ∧ (some k_ ≠ (.slice (some ad284) qA.length IA : Value).ownBlock ∧ some k_ ≠ (dA : Value).ownBlock))) uC.out (fun k_ hk => ⟨(by rw [HE95.out]; exact hk.1), ⟨hk.2.1, hk.2.2⟩⟩)); clear uC; have uC := n_; clear n_)))
                            go_meet
                            case rel => exact ⟨_, (y337), (y334), H', ⟨q7_36⟩, ⟨by (with_reducible repeat (first | apply Kd.Q_alloc | apply Kd.Q_drewN | apply Kd.Q_drew)); exact Kd.Q_mono HF.out (fun _ hk => ⟨hk.2.2, ⟨hk.1, hk.2.1⟩⟩)⟩, ⟨by (with_reducible repeat (first | apply Kd.R_alloc | apply Kd.R_drewN | apply Kd.R_drew)); exact uC.out⟩, ⟨by (with_reducible repeat (first | apply Kd.R_alloc | apply Kd.R_drewN | apply Kd.R_drew)); exact Kd.R_mono tA.out (fun _ hk => ⟨hk.1.1, ⟨hk.2, hk.1.2⟩⟩)⟩, ⟨by (with_reducible repeat (first | apply Kd.R_alloc | apply Kd.R_drewN | apply Kd.R_drew)); exact Kd.R_mono cA.out (fun _ hk => ⟨hk.1.1, ⟨hk.2, hk.1.2⟩⟩)⟩, ⟨q7_1⟩, ⟨q7_5⟩, ⟨q7_0⟩⟩
                           ·rw [if_neg c90] at H
                            exact absurd H (by simp)
                          ·rw [if_neg c89] at H
                           exact absurd H (by simp)
                         ·rw [if_neg c88] at H
                          have MH : (gA == (rd wA 0)) = false := beq_eq_false_iff_ne.mpr c88
                          have NH : (gA != (rd wA 0)) = true := bne_iff_ne.mpr c88
                          exact absurd H (by simp)
                        ·rw [if_neg c87] at H
                         exact absurd H (by simp)
                       ·rw [if_neg c86] at H
                        have KH : (eA == 1) = false := beq_eq_false_iff_ne.mpr c86
                        have LH : (eA != 1) = true := bne_iff_ne.mpr c86
                        exact absurd H (by simp)
                    ·replace c67 := Bool.eq_false_iff.mpr c67
                     subst c67
                     have H1 : (some false) = some true := by rw [if_neg (show ¬ (false = true) by decide)] at H; exact H
                     clear H
                     have H := H1
                     clear H1
                     exact absurd H (by simp)
                   case rest =>
                    clear HC66
                    (try clear c1); (try clear c2); (try clear JE); (try clear KE); (try clear p2); (try clear q2); (try clear hx2); (try clear c3); (try clear p3); (try clear q3); (try clear hx3); (try clear qi3); (try clear c4); (try clear c5); (try clear c6); (try clear p6); (try clear c7); (try clear c8); (try clear q8); (try clear c9); (try clear q9); (try clear c13); (try clear c15); (try clear c21); (try clear GD); (try clear c22); (try clear LE); (try clear c23); (try clear ME); (try clear c28); (try clear p28); (try clear q28); (try clear hx28); (try clear p29); (try clear q29); (try clear hx29); (try clear c30); (try clear fD); (try clear HD); (try clear c33); (try clear p33); (try clear q33); (try clear hx33); (try clear qi33); (try clear c35); (try clear ID); (try clear c36); (try clear VE); (try clear c40); (try clear c43); (try clear zD); (try clear c44); (try clear c46); (try clear c48); (try clear c49); (try clear c57); (try clear c58); (try clear c59); (try clear c61); (try clear c62); (try clear p64); (try clear c67); (try clear c68); (try clear JD); (try clear FH); (try clear c69); (try clear c71); (try clear XH); (try clear YH); (try clear c72); (try clear ZH); (try clear aI); (try clear c73); (try clear q80); (try clear c81); (try clear GH); (try clear HH); (try clear cI); (try clear c82); (try clear IH); (try clear JH); (try clear c83); (try clear c86); (try clear KH); (try clear LH); (try clear c87); (try clear dI); (try clear eI); (try clear c88); (try clear MH); (try clear NH); (try clear c89); (try clear c90); (try clear fI); (try clear gI); (try clear c91); (try clear c95); (try clear q95); (try clear sB); (try clear OB); (try clear PB); (try clear QB); (try clear RB); (try clear SB); (try clear TB); (try clear UB); (try clear VB); (try clear WB); (try clear XB); (try clear GC); (try clear HC); (try clear IC); (try clear JC); (try clear KC); (try clear LC); (try clear MC); (try clear NC); (try clear OC); (try clear PC); (try clear WE); (try clear XE); (try clear YE); (try clear ZE); (try clear bF); (try clear cF); (try clear dF); (try clear eF); (try clear fF); (try clear gF); (try clear JF); (try clear LF); (try clear MF); (try clear NF); (try clear OF); (try clear PF); (try clear QF); (try clear RF); (try clear SF); (try clear TF); (try clear UF); (try clear OD); (try clear QD); (try clear RD); (try clear SD); (try clear TD); (try clear UD); (try clear VD); (try clear WD); (try clear XD); (try clear YD); (try clear ZD); (try clear kE); (try clear mE); (try clear nE); (try clear oE); (try clear pE); (try clear qE); (try clear rE); (try clear sE); (try clear tE); (try clear uE); (try clear vE); (try clear fG); (try clear gG); (try clear hG); (try clear iG); (try clear jG); (try clear kG); (try clear lG); (try clear mG); (try clear nG); (try clear oG); (try clear zG); (try clear AG); (try clear BG); (try clear CG); (try clear DG); (try clear EG); (try clear FG); (try clear GG); (try clear HG); (try clear IG); (try clear TG); (try clear UG); (try clear VG); (try clear WG); (try clear XG); (try clear YG); (try clear ZG); (try clear aH); (try clear bH); (try clear cH); (try clear tB); (try clear YB); (try clear ZB); (try clear aC); (try clear bC); (try clear cC); (try clear dC); (try clear eC); (try clear fC); (try clear gC); (try clear hC); (try clear QC); (try clear RC); (try clear SC); (try clear TC); (try clear UC); (try clear VC); (try clear WC); (try clear XC); (try clear YC); (try clear ZC); (try clear hF); (try clear iF); (try clear jF); (try clear kF); (try clear lF); (try clear mF); (try clear nF); (try clear oF); (try clear pF); (try clear qF); (try clear KF); (try clear VF); (try clear WF); (try clear XF); (try clear YF); (try clear ZF); (try clear aG); (try clear bG); (try clear cG); (try clear dG); (try clear eG); (try clear PD); (try clear aE); (try clear bE); (try clear cE); (try clear dE); (try clear eE); (try clear fE); (try clear gE); (try clear hE); (try clear iE); (try clear jE); (try clear lE); (try clear wE); (try clear xE); (try clear yE); (try clear zE); (try clear AE); (try clear BE); (try clear CE); (try clear DE); (try clear EE); (try clear FE); (try clear pG); (try clear qG); (try clear rG); (try clear sG); (try clear tG); (try clear uG); (try clear vG); (try clear wG); (try clear xG); (try clear yG); (try clear JG); (try clear KG); (try clear LG); (try clear MG); (try clear NG); (try clear OG); (try clear PG); (try clear QG); (try clear RG); (try clear SG); (try clear dH); (try clear eH); (try clear fH); (try clear gH); (try clear hH); (try clear iH); (try clear jH); (try clear kH); (try clear lH); (try clear mH); (try clear nD); (try clear xD); (try clear GE); (try clear HE); (try clear p2); (try clear p28); (try clear p284); (try clear p29); (try clear p296); (try clear p332); (try clear p333); (try clear p6); (try clear q2); (try clear q28); (try clear q284); (try clear q29); (try clear q296); (try clear q332); (try clear q333); (try clear q80); (try clear q95)
                    obtain ⟨kq, FC, CD, HA, HJ65, vA, yA, tA, cA, hA, aA, HB⟩ := hcut
                    cases kq with
                    | zero => exact absurd HA.out (by simp [laws_FnStackOne.j6])
                    | succ kj65 =>
                     have H := HA.out
                     clear HA
                     simp only [laws_FnStackOne.j6] at H
                     replace H := Option.bind_eq_some_iff.mp H
                     obtain ⟨KD, A960, H⟩ := H
                     replace H : ((laws_sameInts.f kj65 KD FC).bind fun tF => (if tF = true then (laws_FnStackOne.l0 kj65 (wrap64 (1 + AA)) FC CD qA (qA.length : Int) (wrap64 (BA + 1)) jA) else (some false))) = some true := H
                     have A96 := Aside0.mk A960
                     clear A960
                     replace H := Option.bind_eq_some_iff.mp H
                     obtain ⟨tF, A970, H⟩ := H
                     replace H : (if tF = true then (laws_FnStackOne.l0 kj65 (wrap64 (1 + AA)) FC CD qA (qA.length : Int) (wrap64 (BA + 1)) jA) else (some false)) = some true := H
                     have A97 := Aside0.mk A970
                     clear A970
                     by_cases c98 : tF = true
                     ·subst c98
                      have H1 : (laws_FnStackOne.l0 kj65 (wrap64 (1 + AA)) FC CD qA (qA.length : Int) (wrap64 (BA + 1)) jA) = some true := by rw [if_pos rfl] at H; exact H
                      clear H
                      have H := H1
                      clear H1
                      have H' := Aside0.mk H
                      clear H
                      have PI := uA.out
                      have QI := KA.out
                      have iI : wc.cell? ⟨sA, 0, none⟩ = some (dA) := (blk_cell hA.out 0).trans rfl
                      have jI := blk_frozen hA.out 0
                      obtain ⟨rF, sF, kI⟩ := Kd.R_slice cA.out
                      subst kI
                      go_wp2_with (first | (go_at_call 32; (with_reducible refine (impl_StItems.calls kj65 (wrap64 (1 + AA)) _ _ jA KD _ ?side1 ?side2 A96.out).mono ?_); (case side1 => exact q7_20); (case side2 => exact (Kd.R_reads' cA.out).2.1); rintro e lI ⟨mI, rfl, ho0, hb⟩; have CA := Aside0.mk (Kd.Q_elder' q7_3 (Kd.R_base ho0) hb); have DA := Aside0.mk (Kd.R_elder' q7_7 (Kd.R_base ho0) hb); have FA := Aside0.mk (Kd.R_elder' q7_6 (Kd.R_base ho0) hb); have GA := Aside0.mk (Kd.R_elder' q7_2 (Kd.R_base ho0) hb); have JA := Aside0.mk (Kd.R_lower (Kd.R_new' (Kd.R_new' (Kd.R_new' (Kd.R_new' ho0 (Kd.Q_lt q7_3)) (Kd.R_lt q7_7)) (Kd.R_lt q7_6)) (Kd.R_lt q7_2)) (below_size q7_0)); have QA := Aside0.mk (blk_below (g := sA) (o := .cells #[.slice rF jA.length sF] 29 (0, 0)) q7_1 hb); have RA := Aside0.mk (blk_below (g := bA) (o := .cells #[.int .i64 iA, .int .i64 fA, .int .i64 oA, .int .i64 nA, .int .i64 mA, .int .i64 lA, .int .i64 kA, .int .i64 eA, .int .i64 gA, .bool pA] 23 (0, 0)) q7_5 hb); have YA := Aside0.mk (below_step q7_0 hb); clear vA; clear yA; clear tA; clear cA; clear hA; clear aA; clear HB; have vA := CA; have yA := DA; have tA := FA; have cA := GA; have mD := JA; have hA := QA; have aA := RA; have HB := YA; clear CA DA FA GA JA QA RA YA; (try clear hb); (try clear hb2); (try clear hk); (try clear hi); (try clear ho0); obtain ⟨OH, PH, QE⟩ := Kd.R_slice mD.out; subst QE; obtain ⟨QH, RH, RE, _⟩ := Kd.Q_slice vA.out; subst RE) | (go_at_call 48; (with_reducible refine (laws_sameInts.calls kj65 _ _ KD _ _ FC true _ ?side1 ?side2 ?side3 ?side4 A97.out).mono ?_); (case side1 => exact q7_30); (case side2 => exact (Kd.R_reads' mD.out).2.1); (case side3 => exact q7_31); (case side4 => exact (Kd.Q_reads' vA.out).2.1); rintro e w' ⟨rfl, ⟨nd, rfl⟩⟩; (try first | exact ⟨rfl, _, World.drewN_drewN _ _ _⟩ | exact ⟨rfl, _, Eq.trans (World.drewN_drewN _ _ _) (congrArg (World.drewN _) (Nat.add_assoc _ _ _))⟩)))
                      repeat (go_quiet (first | (go_at_call 32; (with_reducible refine (impl_StItems.calls kj65 (wrap64 (1 + AA)) _ _ jA KD _ ?side1 ?side2 A96.out).mono ?_); (case side1 => exact q7_20); (case side2 => exact (Kd.R_reads' cA.out).2.1); rintro e lI ⟨mI, rfl, ho0, hb⟩; have CA := Aside0.mk (Kd.Q_elder' q7_3 (Kd.R_base ho0) hb); have DA := Aside0.mk (Kd.R_elder' q7_7 (Kd.R_base ho0) hb); have FA := Aside0.mk (Kd.R_elder' q7_6 (Kd.R_base ho0) hb); have GA := Aside0.mk (Kd.R_elder' q7_2 (Kd.R_base ho0) hb); have JA := Aside0.mk (Kd.R_lower (Kd.R_new' (Kd.R_new' (Kd.R_new' (Kd.R_new' ho0 (Kd.Q_lt q7_3)) (Kd.R_lt q7_7)) (Kd.R_lt q7_6)) (Kd.R_lt q7_2)) (below_size q7_0)); have QA := Aside0.mk (blk_below (g := sA) (o := .cells #[.slice rF jA.length sF] 29 (0, 0)) q7_1 hb); have RA := Aside0.mk (blk_below (g := bA) (o := .cells #[.int .i64 iA, .int .i64 fA, .int .i64 oA, .int .i64 nA, .int .i64 mA, .int .i64 lA, .int .i64 kA, .int .i64 eA, .int .i64 gA, .bool pA] 23 (0, 0)) q7_5 hb); have YA := Aside0.mk (below_step q7_0 hb); clear vA; clear yA; clear tA; clear cA; clear hA; clear aA; clear HB; have vA := CA; have yA := DA; have tA := FA; have cA := GA; have mD := JA; have hA := QA; have aA := RA; have HB := YA; clear CA DA FA GA JA QA RA YA; (try clear hb); (try clear hb2); (try clear hk); (try clear hi); (try clear ho0); obtain ⟨OH, PH, QE⟩ := Kd.R_slice mD.out; subst QE; obtain ⟨QH, RH, RE, _⟩ := Kd.Q_slice vA.out; subst RE) | (go_at_call 48; (with_reducible refine (laws_sameInts.calls kj65 _ _ KD _ _ FC true _ ?side1 ?side2 ?side3 ?side4 A97.out).mono ?_); (case side1 => exact q7_30); (case side2 => exact (Kd.R_reads' mD.out).2.1); (case side3 => exact q7_31); (case side4 => exact (Kd.Q_reads' vA.out).2.1); rintro e w' ⟨rfl, ⟨nd, rfl⟩⟩; (try first | exact ⟨rfl, _, World.drewN_drewN _ _ _⟩ | exact ⟨rfl, _, Eq.trans (World.drewN_drewN _ _ _) (congrArg (World.drewN _) (Nat.add_assoc _ _ _))⟩))); try go_wp2_with (first | (go_at_call 32; (with_reducible refine (impl_StItems.calls kj65 (wrap64 (1 + AA)) _ _ jA KD _ ?side1 ?side2 A96.out).mono ?_); (case side1 => exact q7_20); (case side2 => exact (Kd.R_reads' cA.out).2.1); rintro e lI ⟨mI, rfl, ho0, hb⟩; have CA := Aside0.mk (Kd.Q_elder' q7_3 (Kd.R_base ho0) hb); have DA := Aside0.mk (Kd.R_elder' q7_7 (Kd.R_base ho0) hb); have FA := Aside0.mk (Kd.R_elder' q7_6 (Kd.R_base ho0) hb); have GA := Aside0.mk (Kd.R_elder' q7_2 (Kd.R_base ho0) hb); have JA := Aside0.mk (Kd.R_lower (Kd.R_new' (Kd.R_new' (Kd.R_new' (Kd.R_new' ho0 (Kd.Q_lt q7_3)) (Kd.R_lt q7_7)) (Kd.R_lt q7_6)) (Kd.R_lt q7_2)) (below_size q7_0)); have QA := Aside0.mk (blk_below (g := sA) (o := .cells #[.slice rF jA.length sF] 29 (0, 0)) q7_1 hb); have RA := Aside0.mk (blk_below (g := bA) (o := .cells #[.int .i64 iA, .int .i64 fA, .int .i64 oA, .int .i64 nA, .int .i64 mA, .int .i64 lA, .int .i64 kA, .int .i64 eA, .int .i64 gA, .bool pA] 23 (0, 0)) q7_5 hb); have YA := Aside0.mk (below_step q7_0 hb); clear vA; clear yA; clear tA; clear cA; clear hA; clear aA; clear HB; have vA := CA; have yA := DA; have tA := FA; have cA := GA; have mD := JA; have hA := QA; have aA := RA; have HB := YA; clear CA DA FA GA JA QA RA YA; (try clear hb); (try clear hb2); (try clear hk); (try clear hi); (try clear ho0); obtain ⟨OH, PH, QE⟩ := Kd.R_slice mD.out; subst QE; obtain ⟨QH, RH, RE, _⟩ := Kd.Q_slice vA.out; subst RE) | (go_at_call 48; (with_reducible refine (laws_sameInts.calls kj65 _ _ KD _ _ FC true _ ?side1 ?side2 ?side3 ?side4 A97.out).mono ?_); (case side1 => exact q7_30); (case side2 => exact (Kd.R_reads' mD.out).2.1); (case side3 => exact q7_31); (case side4 => exact (Kd.Q_reads' vA.out).2.1); rintro e w' ⟨rfl, ⟨nd, rfl⟩⟩; (try first | exact ⟨rfl, _, World.drewN_drewN _ _ _⟩ | exact ⟨rfl, _, Eq.trans (World.drewN_drewN _ _ _) (congrArg (World.drewN _) (Nat.add_assoc _ _ _))⟩))))
                      go_roundg kj65
                      case measure => have := HJ5.out; have := HK2.out; have := HJ24.out; have := HJ31.out; have := HK5.out; have := HJ41.out; have := HJ65.out; omega
                      case rel => exact ⟨(FC), (CD), (wrap64 (BA + 1)), (jA), (.slice rF jA.length sF), q7_28, H', ⟨by have := HJ5.out; have := HK2.out; have := HJ24.out; have := HJ31.out; have := HK5.out; have := HJ41.out; have := HJ65.out; omega⟩, ⟨by (with_reducible repeat (first | apply Kd.Q_alloc | apply Kd.Q_drewN | apply Kd.Q_drew)); exact Kd.Q_mono vA.out (fun _ hk => ⟨hk.1.1, ⟨hk.1.2.1, hk.1.2.2⟩⟩)⟩, ⟨by (with_reducible repeat (first | apply Kd.R_alloc | apply Kd.R_drewN | apply Kd.R_drew)); exact Kd.R_mono yA.out (fun _ hk => ⟨hk.1.1, ⟨hk.1.2.1, hk.1.2.2⟩⟩)⟩, ⟨by (with_reducible repeat (first | apply Kd.R_alloc | apply Kd.R_drewN | apply Kd.R_drew)); exact Kd.R_mono tA.out (fun _ hk => ⟨hk.1.1, ⟨hk.1.2.1, hk.1.2.2⟩⟩)⟩, ⟨by (with_reducible repeat (first | apply Kd.R_alloc | apply Kd.R_drewN | apply Kd.R_drew)); exact Kd.R_mono cA.out (fun _ hk => ⟨hk.1.1, ⟨hk.1.2.1, hk.1.2.2⟩⟩)⟩, ⟨q7_1⟩, ⟨q7_0⟩⟩
                     ·replace c98 := Bool.eq_false_iff.mpr c98
                      subst c98
                      have H1 : (some false) = some true := by rw [if_neg (show ¬ (false = true) by decide)] at H; exact H
                      clear H
                      have H := H1
                      clear H1
                      exact absurd H (by simp)
         ·rw [if_neg c23] at H
          exact absurd H (by simp)
        ·rw [if_neg c22] at H
         exact absurd H (by simp)
       ·rw [if_neg c21] at H
        have GD : decide (BA < (qA.length : Int)) = false := decide_eq_false c21
        clear c21
        clear H
        (try clear H)
        go_wp2
        repeat (go_quiet (fail); try go_wp2)
        go_ret
        exact ⟨by first | rfl | (simp [errW_none, errW_some] <;> rfl) | (simp [*, errW_none, errW_some] <;> rfl), q7_4⟩

/-- THE ONE PURE STATEMENT of laws_FnStackOne: yours. -/
def laws_FnStackOne.Pure : Prop := ∀ (l0 : List Int), l0.length ≤ maxLen → l0.length * 1 ≤ 140737488351232 → (∀ x ∈ l0, (Lit.int .u8 x).wf = true) → ∃ k, laws_FnStackOne.f k l0 = some true
theorem laws_FnStackOne.walk (P : laws_FnStackOne.Pure) (a0 : Option Addr) (len0 cap0 : Nat) (z0 : List Int) (w : World) (w0 : (a0 = none ∧ len0 = 0 ∧ cap0 = 0 ∧ z0 = []) ∨ ∃ x, a0 = some x ∧ len0 ≤ cap0 ∧ cap0 ≤ maxLen ∧ z0.length = cap0 ∧ (∀ i, i < z0.length → w.cell? (x.add i) = some (.int .u8 (z0.getD i 0))) ∧ ∀ n ∈ z0, (Lit.int .u8 n).wf = true) (y0 : len0 * 1 ≤ 140737488351232) :
  Calls Try.prog 13 #[.slice a0 len0 cap0] w fun e w' => e = .returned (.bool true) ∧ Below w.heap.size w w' := by
 obtain ⟨l0, rfl, hr0, hm0, hw0, hc0⟩ := ReadsInt.ofRowC w0
 obtain ⟨k, h⟩ := P l0 hm0 y0 hw0
 refine (laws_FnStackOne.calls k _ _ l0 true w (Kd.C_of_reads (d := (0 : Int)) (h1 := fun _ => rfl) hr0) hc0 h).mono ?_
 rintro e w' ⟨rfl, hd⟩
 exact ⟨rfl, hd⟩

end Go.Proofs.Ytfahmmlkcmadeaa.PFnStackOne
