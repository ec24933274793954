-- Written by the session's own patched copy of the printer (wip/patch_print.py).
import Derived.Test.YtjikobdblohphaaPFnListOnex0
import Derived.Test.YtjikobdblohphaaPFnListOnex1
import Derived.Test.YtjikobdblohphaaPFnListOnex5
import Derived.Test.YtjikobdblohphaaPFnListOnex6
import Derived.Test.YtjikobdblohphaaPFnListOnex7
import Derived.Test.YtjikobdblohphaaPFnListOnex8
namespace Go.Proofs.Ytjikobdblohphaa.PFnListOne
open Go.RowKit Go.Proofs.YtjikobdblohphaaW.PrintWords Go.Proofs.YtjikobdblohphaaW.PrintLast Go.Proofs.YtjikobdblohphaaW.PrintMore
attribute [local go_sem] max2_int min2_int max_two min_two max_three min_three max_four min_four   -- for this text's walks alone
set_option linter.unusedVariables false
set_option linter.unusedSimpArgs false

theorem Z9b {p : Prop} (h : p := by repeat (first | (with_reducible first | exact HB.out | apply below_alloc | apply pw_below_drewN | apply below_drew1 | refine below_set ?_ gE.out | refine below_set ?_ uE.out | refine below_set ?_ bF.out) | exact HB.out)) : p := h
theorem q9_1 {p : Prop} (h : p := by (with_reducible repeat (first | refine blk_drewN ?_ _ | refine blk_drew ?_ | refine blk_alloc ?_ _)); refine blk_put (cs := #[.int .i64 0, .int .i64 (wrap64 (1 + (Int.tmod (rd eA cA) 3))), .int .i64 (wrap64 (Int.tdiv (rd eA cA) 3)), .int .i64 1, .int .i64 0, .int .i64 0, .int .i64 0, .int .i64 0]) ?_ 7 _ rfl; (with_reducible repeat (first | refine blk_drewN ?_ _ | refine blk_drew ?_ | refine blk_alloc ?_ _)); refine blk_put (cs := #[.int .i64 0, .int .i64 (wrap64 (1 + (Int.tmod (rd eA cA) 3))), .int .i64 (wrap64 (Int.tdiv (rd eA cA) 3)), .int .i64 1, .int .i64 0, .int .i64 0, .int .i64 0, .int .i64 0]) ?_ 6 _ rfl; (with_reducible repeat (first | refine blk_drewN ?_ _ | refine blk_drew ?_ | refine blk_alloc ?_ _)); refine blk_put (cs := #[.int .i64 0, .int .i64 (wrap64 (1 + (Int.tmod (rd eA cA) 3))), .int .i64 (wrap64 (Int.tdiv (rd eA cA) 3)), .int .i64 1, .int .i64 0, .int .i64 0, .int .i64 0, .int .i64 0]) ?_ 5 _ rfl; (with_reducible repeat (first | refine blk_drewN ?_ _ | refine blk_drew ?_ | refine blk_alloc ?_ _)); refine blk_put (cs := #[.int .i64 0, .int .i64 (wrap64 (1 + (Int.tmod (rd eA cA) 3))), .int .i64 (wrap64 (Int.tdiv (rd eA cA) 3)), .int .i64 1, .int .i64 0, .int .i64 0, .int .i64 0, .int .i64 0]) ?_ 4 _ rfl; (with_reducible repeat (first | refine blk_drewN ?_ _ | refine blk_drew ?_ | refine blk_alloc ?_ _)); refine blk_put (cs := #[.int .i64 0, .int .i64 (wrap64 (1 + (Int.tmod (rd eA cA) 3))), .int .i64 (wrap64 (Int.tdiv (rd eA cA) 3)), .int .i64 0, .int .i64 0, .int .i64 0, .int .i64 0, .int .i64 0]) ?_ 3 _ rfl; (with_reducible repeat (first | refine blk_drewN ?_ _ | refine blk_drew ?_ | refine blk_alloc ?_ _)); refine blk_put (cs := #[.int .i64 0, .int .i64 (wrap64 (1 + (Int.tmod (rd eA cA) 3))), .int .i64 0, .int .i64 0, .int .i64 0, .int .i64 0, .int .i64 0, .int .i64 0]) ?_ 2 _ rfl; (with_reducible repeat (first | refine blk_drewN ?_ _ | refine blk_drew ?_ | refine blk_alloc ?_ _)); refine blk_put (cs := #[.int .i64 0, .int .i64 0, .int .i64 0, .int .i64 0, .int .i64 0, .int .i64 0, .int .i64 0, .int .i64 0]) ?_ 1 _ rfl; (with_reducible repeat (first | refine blk_drewN ?_ _ | refine blk_drew ?_ | refine blk_alloc ?_ _)); refine blk_put (cs := #[.int .i64 0, .int .i64 0, .int .i64 0, .int .i64 0, .int .i64 0, .int .i64 0, .int .i64 0, .int .i64 0]) ?_ 0 _ rfl; (with_reducible repeat (first | refine blk_drewN ?_ _ | refine blk_drew ?_ | refine blk_alloc ?_ _)); exact dA.out) : p := h
theorem Z9a {p : Prop} (h : p := by (with_reducible repeat (first | refine blk_drewN ?_ _ | refine blk_drew ?_ | refine blk_alloc ?_ _)); exact wA.out) : p := h
theorem Z9f {p : Prop} (h : p := by (with_reducible repeat (first | refine blk_drewN ?_ _ | refine blk_drew ?_ | refine blk_alloc ?_ _)); exact dA.out) : p := h
theorem Z9i {p : Prop} (h : p := by repeat (first | (with_reducible first | exact HB.out | apply below_alloc | apply pw_below_drewN | apply below_drew1 | refine below_set ?_ gE.out) | exact HB.out)) : p := h
theorem Z9t {p : Prop} (h : p := by (with_reducible repeat (first | refine blk_drewN ?_ _ | refine blk_drew ?_ | refine blk_alloc ?_ _)); refine blk_far ?_ yA.out _; (with_reducible repeat (first | refine blk_drewN ?_ _ | refine blk_drew ?_ | refine blk_alloc ?_ _)); refine blk_far ?_ yA.out _; (with_reducible repeat (first | refine blk_drewN ?_ _ | refine blk_drew ?_ | refine blk_alloc ?_ _)); refine blk_far ?_ yA.out _; (with_reducible repeat (first | refine blk_drewN ?_ _ | refine blk_drew ?_ | refine blk_alloc ?_ _)); refine blk_far ?_ yA.out _; (with_reducible repeat (first | refine blk_drewN ?_ _ | refine blk_drew ?_ | refine blk_alloc ?_ _)); refine blk_far ?_ yA.out _; (with_reducible repeat (first | refine blk_drewN ?_ _ | refine blk_drew ?_ | refine blk_alloc ?_ _)); refine blk_far ?_ yA.out _; (with_reducible repeat (first | refine blk_drewN ?_ _ | refine blk_drew ?_ | refine blk_alloc ?_ _)); refine blk_far ?_ yA.out _; (with_reducible repeat (first | refine blk_drewN ?_ _ | refine blk_drew ?_ | refine blk_alloc ?_ _)); refine blk_far ?_ yA.out _; (with_reducible repeat (first | refine blk_drewN ?_ _ | refine blk_drew ?_ | refine blk_alloc ?_ _)); exact wA.out) : p := h
theorem Z9d {p : Prop} (h : p := by (with_reducible repeat (first | apply Kd.R_alloc | apply Kd.R_drewN | apply Kd.R_drew)); exact jA.out) : p := h
theorem Z9k {p : Prop} (h : p := by repeat (first | (with_reducible first | exact HB.out | apply below_alloc | apply pw_below_drewN | apply below_drew1 | refine below_set ?_ gE.out | refine below_set ?_ uE.out) | exact HB.out)) : p := h
theorem Z9h {p : Prop} (h : p := by (with_reducible repeat (first | refine blk_drewN ?_ _ | refine blk_drew ?_ | refine blk_alloc ?_ _)); exact aA.out) : p := h
theorem Z9e {p : Prop} (h : p := by (with_reducible repeat (first | apply Kd.R_alloc | apply Kd.R_drewN | apply Kd.R_drew)); exact zA.out) : p := h
theorem Z9j {p : Prop} (h : p := by (try simp only [List.map_toArray, List.map_cons, List.map_nil]); first | done | rfl | (simp only [List.length_drop, List.length_take]; rfl)) : p := h
theorem Z9g {p : Prop} (h : p := by (with_reducible repeat (first | apply Kd.R_alloc | apply Kd.R_drewN | apply Kd.R_drew)); exact OA.out) : p := h
theorem Z9aa {p : Prop} (h : p := by (with_reducible repeat (first | apply Kd.R_alloc | apply Kd.R_drewN | apply Kd.R_drew)); exact Kd.R_mono (Kd.R_far (p := ⟨fA, 7, none⟩) (Kd.R_far (p := ⟨fA, 6, none⟩) (Kd.R_far (p := ⟨fA, 5, none⟩) (Kd.R_far (p := ⟨fA, 4, none⟩) (Kd.R_far (p := ⟨fA, 3, none⟩) (Kd.R_far (p := ⟨fA, 2, none⟩) (Kd.R_far (p := ⟨fA, 1, none⟩) (Kd.R_far (p := ⟨fA, 0, none⟩) (Kd.R_types jA.out dA.out (by decide)) (fun _ hk => hk.2) (.int .i64 0)) (fun _ hk => hk.2) (.int .i64 (wrap64 (1 + (Int.tmod (rd eA cA) 3))))) (fun _ hk => hk.2) (.int .i64 (wrap64 (Int.tdiv (rd eA cA) 3)))) (fun _ hk => hk.2) (.int .i64 1)) (fun _ hk => hk.2) (.int .i64 0)) (fun _ hk => hk.2) (.int .i64 0)) (fun _ hk => hk.2) (.int .i64 0)) (fun _ hk => hk.2) (.int .i64 0)) (fun _ hk => ⟨hk.1.1, hk.1.2⟩)) : p := h
theorem Z9w {p : Prop} (h : p := by (with_reducible repeat (first | apply Kd.R_alloc | apply Kd.R_drewN | apply Kd.R_drew)); exact Kd.R_mono (Kd.R_far (p := ⟨fA, 7, none⟩) (Kd.R_far (p := ⟨fA, 6, none⟩) (Kd.R_far (p := ⟨fA, 5, none⟩) (Kd.R_far (p := ⟨fA, 4, none⟩) (Kd.R_far (p := ⟨fA, 3, none⟩) (Kd.R_far (p := ⟨fA, 2, none⟩) (Kd.R_far (p := ⟨fA, 1, none⟩) (Kd.R_far (p := ⟨fA, 0, none⟩) (Kd.R_types zA.out dA.out (by decide)) (fun _ hk => hk.2) (.int .i64 0)) (fun _ hk => hk.2) (.int .i64 (wrap64 (1 + (Int.tmod (rd eA cA) 3))))) (fun _ hk => hk.2) (.int .i64 (wrap64 (Int.tdiv (rd eA cA) 3)))) (fun _ hk => hk.2) (.int .i64 1)) (fun _ hk => hk.2) (.int .i64 0)) (fun _ hk => hk.2) (.int .i64 0)) (fun _ hk => hk.2) (.int .i64 0)) (fun _ hk => hk.2) (.int .i64 0)) (fun _ hk => ⟨hk.1.1, hk.1.2⟩)) : p := h
theorem Z9x {p : Prop} (h : p := by (with_reducible repeat (first | apply Kd.R_alloc | apply Kd.R_drewN | apply Kd.R_drew)); exact Kd.R_mono (Kd.R_far (p := ⟨fA, 7, none⟩) (Kd.R_far (p := ⟨fA, 6, none⟩) (Kd.R_far (p := ⟨fA, 5, none⟩) (Kd.R_far (p := ⟨fA, 4, none⟩) (Kd.R_far (p := ⟨fA, 3, none⟩) (Kd.R_far (p := ⟨fA, 2, none⟩) (Kd.R_far (p := ⟨fA, 1, none⟩) (Kd.R_far (p := ⟨fA, 0, none⟩) (Kd.R_types OA.out dA.out (by decide)) (fun _ hk => hk.2) (.int .i64 0)) (fun _ hk => hk.2) (.int .i64 (wrap64 (1 + (Int.tmod (rd eA cA) 3))))) (fun _ hk => hk.2) (.int .i64 (wrap64 (Int.tdiv (rd eA cA) 3)))) (fun _ hk => hk.2) (.int .i64 1)) (fun _ hk => hk.2) (.int .i64 0)) (fun _ hk => hk.2) (.int .i64 0)) (fun _ hk => hk.2) (.int .i64 0)) (fun _ hk => hk.2) (.int .i64 0)) (fun _ hk => ⟨hk.1.1, hk.1.2⟩)) : p := h
theorem Z9l {p : Prop} (h : p := by repeat (first | (with_reducible first | exact HB.out | apply below_alloc | apply pw_below_drewN | apply below_drew1) | exact HB.out)) : p := h
theorem Z9c {p : Prop} (h : p := by first | rfl | (simp; done) | (simp [*]; done)) : p := h
theorem Z9p {p : Prop} (h : p := by rw [hg]; exact Nat.ne_of_lt (blk_lt (g := fA) (o := .cells #[.int .i64 0, .int .i64 (wrap64 (1 + (Int.tmod (rd eA cA) 3))), .int .i64 (wrap64 (Int.tdiv (rd eA cA) 3)), .int .i64 1, .int .i64 0, .int .i64 0, .int .i64 0, .int .i64 0] 58 (0, 0)) Z9f)) : p := h
theorem Z9r {p : Prop} (h : p := by rw [hg]; exact Nat.ne_of_gt (blk_lt (g := fA) (o := .cells #[.int .i64 0, .int .i64 (wrap64 (1 + (Int.tmod (rd eA cA) 3))), .int .i64 (wrap64 (Int.tdiv (rd eA cA) 3)), .int .i64 1, .int .i64 0, .int .i64 0, .int .i64 0, .int .i64 0] 58 (0, 0)) Z9f)) : p := h
theorem Z9m {p : Prop} (h : p := by repeat (first | (with_reducible first | exact HB.out | apply below_alloc | apply pw_below_drewN | apply below_drew1 | refine below_set ?_ gE.out | refine below_set ?_ uE.out | refine below_set ?_ bF.out | refine below_set ?_ DH.out) | exact HB.out)) : p := h
theorem Z9q {p : Prop} (h : p := by (with_reducible repeat (first | apply Kd.R_alloc | apply Kd.R_drewN | apply Kd.R_drew)); exact (Kd.R_mono (Kd.R_far (p := ⟨fA, 3, none⟩) (Kd.R_types OA.out dA.out (by decide)) (fun _ hk => hk.2) (.int .i64 gA)) (fun _ h_ => h_.1))) : p := h
theorem Z9v {p : Prop} (h : p := by rw [hg]; exact Nat.ne_of_lt (blk_lt (g := bA) (o := .cells #[.int .i64 uA, .int .i64 tA, .int .i64 sA, .int .i64 qA, .int .i64 oA, .int .i64 mA, .int .i64 lA, .int .i64 gA, .int .i64 kA, .bool iA] 23 (0, 0)) Z9h)) : p := h
theorem Z9u {p : Prop} (h : p := by rw [hg]; exact Nat.ne_of_gt (blk_lt (g := bA) (o := .cells #[.int .i64 uA, .int .i64 tA, .int .i64 sA, .int .i64 qA, .int .i64 oA, .int .i64 mA, .int .i64 lA, .int .i64 gA, .int .i64 kA, .bool iA] 23 (0, 0)) Z9h)) : p := h
theorem Z9z {p : Prop} (h : p := by (with_reducible repeat (first | apply Kd.R_alloc | apply Kd.R_drewN | apply Kd.R_drew)); exact (Kd.R_mono (Kd.R_far (p := ⟨xA, 0, none⟩) (Kd.R_types kB.out wA.out (by decide)) (fun _ hk => hk.2) (.slice RH RC.length SH)) (fun _ h_ => h_.1))) : p := h
theorem Z9y {p : Prop} (h : p := by (with_reducible repeat (first | apply Kd.R_alloc | apply Kd.R_drewN | apply Kd.R_drew)); exact (Kd.R_mono (Kd.R_far (p := ⟨fA, 3, none⟩) (Kd.R_types jA.out dA.out (by decide)) (fun _ hk => hk.2) (.int .i64 gA)) (fun _ h_ => h_.1))) : p := h
theorem Z9s {p : Prop} (h : p := by (with_reducible repeat (first | apply Kd.R_alloc | apply Kd.R_drewN | apply Kd.R_drew)); exact (Kd.R_mono (Kd.R_far (p := ⟨fA, 3, none⟩) (Kd.R_types zA.out dA.out (by decide)) (fun _ hk => hk.2) (.int .i64 gA)) (fun _ h_ => h_.1))) : p := h
theorem Z9o {p : Prop} (h : p := by (with_reducible repeat (first | refine blk_drewN ?_ _ | refine blk_drew ?_ | refine blk_alloc ?_ _)); exact wB.out) : p := h
theorem Z9n {p : Prop} (h : p := by (with_reducible repeat (first | apply Kd.R_alloc | apply Kd.R_drewN | apply Kd.R_drew)); exact kB.out) : p := h
/-! ### laws_FnListOne: function 10 -/
mutual
def laws_FnListOne.l0 : Nat → Int → List Int → Int → List Int → Int → Int → List Int → Option (Bool)
 | 0, _, _, _, _, _, _, _ => none
 | k + 1, x3, x6, x7, x30, x31, x32, AA => if x32 < x31 then (if 0 ≤ x32 then (if x32 < (x30.length : Int) then (if (wrap64 (1 + (Int.tmod (rd x30 x32) 3))) = 1 then (laws_FnListOne.j1 k x3 x6 x7 x30 x31 x32 (x7 == x3) AA 0 (wrap64 (1 + (Int.tmod (rd x30 x32) 3))) (wrap64 (Int.tdiv (rd x30 x32) 3)) 1 0 0 0 0) else (laws_FnListOne.j1 k x3 x6 x7 x30 x31 x32 false AA 0 (wrap64 (1 + (Int.tmod (rd x30 x32) 3))) (wrap64 (Int.tdiv (rd x30 x32) 3)) 1 0 0 0 0)) else (none)) else (none)) else (some ((AA.length : Int) == (wrap64 (1 + (wrap64 (2 * x3))))))
def laws_FnListOne.j1 : Nat → Int → List Int → Int → List Int → Int → Int → Bool → List Int → Int → Int → Int → Int → Int → Int → Int → Int → Option (Bool)
 | 0, _, _, _, _, _, _, _, _, _, _, _, _, _, _, _, _ => none
 | k + 1, x3, x6, x7, x30, x31, x32, x49, AA, TA, PA, RA, eB, UA, VA, WA, XA => if x49 = true then (laws_FnListOne.l0 k x3 x6 x7 x30 x31 (wrap64 (x32 + 1)) AA) else ((impl_LiCall.f PA RA x7).bind fun IA => ((laws_less.f (PA == 1)).bind fun NA => (laws_FnListOne.l1 k x3 x6 (wrap64 (x7 + NA)) 0 x30 x31 x32 AA TA PA RA eB UA VA WA XA IA.1 IA.2.1 IA.2.2.1 IA.2.2.2.1 IA.2.2.2.2.1 IA.2.2.2.2.2.1 IA.2.2.2.2.2.2.1 IA.2.2.2.2.2.2.2.1 IA.2.2.2.2.2.2.2.2.1 IA.2.2.2.2.2.2.2.2.2)))
def laws_FnListOne.l1 : Nat → Int → List Int → Int → Int → List Int → Int → Int → List Int → Int → Int → Int → Int → Int → Int → Int → Int → Int → Int → Int → Int → Int → Int → Int → Int → Int → Bool → Option (Bool)
 | 0, _, _, _, _, _, _, _, _, _, _, _, _, _, _, _, _, _, _, _, _, _, _, _, _, _, _ => none
 | k + 1, x3, x6, x7, x12, x30, x31, x32, AA, TA, PA, RA, eB, UA, VA, WA, XA, BB, CB, DB, EB, FB, GB, IB, pB, JB, fB => if x12 < 60 then (laws_FnListOne.j3 k x3 x6 x7 x12 x30 x31 x32 (!fB) AA TA PA RA eB UA VA WA XA BB CB DB EB FB GB IB pB JB fB) else (laws_FnListOne.j3 k x3 x6 x7 x12 x30 x31 x32 false AA TA PA RA eB UA VA WA XA BB CB DB EB FB GB IB pB JB fB)
def laws_FnListOne.j3 : Nat → Int → List Int → Int → Int → List Int → Int → Int → Bool → List Int → Int → Int → Int → Int → Int → Int → Int → Int → Int → Int → Int → Int → Int → Int → Int → Int → Int → Bool → Option (Bool)
 | 0, _, _, _, _, _, _, _, _, _, _, _, _, _, _, _, _, _, _, _, _, _, _, _, _, _, _, _ => none
 | k + 1, x3, x6, x7, x12, x30, x31, x32, x68, AA, TA, PA, RA, eB, UA, VA, WA, XA, BB, CB, DB, EB, FB, GB, IB, pB, JB, fB => if x68 = true then ((impl_LiStep.f k x3 AA BB CB DB EB FB GB IB pB JB fB).bind fun FA => (if FA.2.2.2.2.2.2.2.2.2.2.2 = true then (laws_FnListOne.l1 k x3 x6 x7 (wrap64 (x12 + 1)) x30 x31 x32 FA.1 TA PA RA eB UA VA WA XA FA.2.1 FA.2.2.1 FA.2.2.2.1 FA.2.2.2.2.1 FA.2.2.2.2.2.1 FA.2.2.2.2.2.2.1 FA.2.2.2.2.2.2.2.1 FA.2.2.2.2.2.2.2.2.1 FA.2.2.2.2.2.2.2.2.2.1 FA.2.2.2.2.2.2.2.2.2.2.1) else (some false))) else ((impl_LiApply.f x6 TA PA RA pB UA VA WA XA).bind fun IC => (if fB = true then (laws_FnListOne.j4 k x3 x7 IC.1 x30 x31 x32 (!IC.2) AA) else (laws_FnListOne.j4 k x3 x7 IC.1 x30 x31 x32 true AA)))
def laws_FnListOne.j4 : Nat → Int → Int → List Int → List Int → Int → Int → Bool → List Int → Option (Bool)
 | 0, _, _, _, _, _, _, _, _ => none
 | k + 1, x3, x7, x16, x30, x31, x32, x98, AA => if x98 = true then (some false) else ((impl_LiKeys.f x3 AA).bind fun hE => ((laws_sameInts.f k hE x16).bind fun iE => (if iE = true then (laws_FnListOne.l0 k x3 x16 x7 x30 x31 (wrap64 (x32 + 1)) AA) else (some false))))
end
def laws_FnListOne.f (k : Nat) (l0 : List Int) : Option (Bool) := if (l0.length : Int) > 1048576 then (some true) else ((impl_LiNew.f 12).bind fun jE => (if jE.2 = true then ((spec_MakePicks.f k l0 20).bind fun eA => (laws_FnListOne.l0 k 12 (([] : List Int)) 0 eA (eA.length : Int) 0 jE.1)) else (some false)))
theorem laws_FnListOne.mono_l : ∀ k, (∀ y0 y1 y2 y3 y4 y5 y6, LeO (laws_FnListOne.l0 k y0 y1 y2 y3 y4 y5 y6) (laws_FnListOne.l0 (k + 1) y0 y1 y2 y3 y4 y5 y6)) ∧ (∀ y0 y1 y2 y3 y4 y5 y6 y7 y8 y9 y10 y11 y12 y13 y14 y15, LeO (laws_FnListOne.j1 k y0 y1 y2 y3 y4 y5 y6 y7 y8 y9 y10 y11 y12 y13 y14 y15) (laws_FnListOne.j1 (k + 1) y0 y1 y2 y3 y4 y5 y6 y7 y8 y9 y10 y11 y12 y13 y14 y15)) ∧ (∀ y0 y1 y2 y3 y4 y5 y6 y7 y8 y9 y10 y11 y12 y13 y14 y15 y16 y17 y18 y19 y20 y21 y22 y23 y24 y25, LeO (laws_FnListOne.l1 k y0 y1 y2 y3 y4 y5 y6 y7 y8 y9 y10 y11 y12 y13 y14 y15 y16 y17 y18 y19 y20 y21 y22 y23 y24 y25) (laws_FnListOne.l1 (k + 1) y0 y1 y2 y3 y4 y5 y6 y7 y8 y9 y10 y11 y12 y13 y14 y15 y16 y17 y18 y19 y20 y21 y22 y23 y24 y25)) ∧ (∀ y0 y1 y2 y3 y4 y5 y6 y7 y8 y9 y10 y11 y12 y13 y14 y15 y16 y17 y18 y19 y20 y21 y22 y23 y24 y25 y26, LeO (laws_FnListOne.j3 k y0 y1 y2 y3 y4 y5 y6 y7 y8 y9 y10 y11 y12 y13 y14 y15 y16 y17 y18 y19 y20 y21 y22 y23 y24 y25 y26) (laws_FnListOne.j3 (k + 1) y0 y1 y2 y3 y4 y5 y6 y7 y8 y9 y10 y11 y12 y13 y14 y15 y16 y17 y18 y19 y20 y21 y22 y23 y24 y25 y26)) ∧ (∀ y0 y1 y2 y3 y4 y5 y6 y7, LeO (laws_FnListOne.j4 k y0 y1 y2 y3 y4 y5 y6 y7) (laws_FnListOne.j4 (k + 1) y0 y1 y2 y3 y4 y5 y6 y7))
 | 0 => ⟨fun _ _ _ _ _ _ _ r h => by simp [laws_FnListOne.l0] at h, fun _ _ _ _ _ _ _ _ _ _ _ _ _ _ _ _ r h => by simp [laws_FnListOne.j1] at h, fun _ _ _ _ _ _ _ _ _ _ _ _ _ _ _ _ _ _ _ _ _ _ _ _ _ _ r h => by simp [laws_FnListOne.l1] at h, fun _ _ _ _ _ _ _ _ _ _ _ _ _ _ _ _ _ _ _ _ _ _ _ _ _ _ _ r h => by simp [laws_FnListOne.j3] at h, fun _ _ _ _ _ _ _ _ r h => by simp [laws_FnListOne.j4] at h⟩
 | k + 1 => by
  obtain ⟨ih0, ih1, ih2, ih3, ih4⟩ := laws_FnListOne.mono_l k
  refine ⟨?_, ?_, ?_, ?_, ?_⟩
  ·intro y0 y1 y2 y3 y4 y5 y6
   unfold laws_FnListOne.l0
   repeat' first
   | (with_reducible exact ih0 _ _ _ _ _ _ _)
   | (with_reducible exact ih1 _ _ _ _ _ _ _ _ _ _ _ _ _ _ _ _)
   | (with_reducible exact ih2 _ _ _ _ _ _ _ _ _ _ _ _ _ _ _ _ _ _ _ _ _ _ _ _ _ _)
   | (with_reducible exact ih3 _ _ _ _ _ _ _ _ _ _ _ _ _ _ _ _ _ _ _ _ _ _ _ _ _ _ _)
   | (with_reducible exact ih4 _ _ _ _ _ _ _ _)
   | (with_reducible exact impl_LiStep.mono _ _ _ _ _ _ _ _ _ _ _ _ _)
   | (with_reducible exact laws_sameInts.mono _ _ _)
   | (with_reducible exact spec_MakePicks.mono _ _ _)
   | (with_reducible exact LeO.refl _)
   | (with_reducible exact LeO.none _)
   | (with_reducible refine LeO.ite ?_ ?_)
   | (with_reducible refine LeO.bind ?_ (fun _ => ?_))
   | exact ih0 _ _ _ _ _ _ _
   | exact ih1 _ _ _ _ _ _ _ _ _ _ _ _ _ _ _ _
   | exact ih2 _ _ _ _ _ _ _ _ _ _ _ _ _ _ _ _ _ _ _ _ _ _ _ _ _ _
   | exact ih3 _ _ _ _ _ _ _ _ _ _ _ _ _ _ _ _ _ _ _ _ _ _ _ _ _ _ _
   | exact ih4 _ _ _ _ _ _ _ _
   | exact impl_LiStep.mono _ _ _ _ _ _ _ _ _ _ _ _ _
   | exact laws_sameInts.mono _ _ _
   | exact spec_MakePicks.mono _ _ _
   | exact LeO.none _
   | refine LeO.ite ?_ ?_
   | refine LeO.bind ?_ (fun _ => ?_)
  ·intro y0 y1 y2 y3 y4 y5 y6 y7 y8 y9 y10 y11 y12 y13 y14 y15
   unfold laws_FnListOne.j1
   repeat' first
   | (with_reducible exact ih0 _ _ _ _ _ _ _)
   | (with_reducible exact ih1 _ _ _ _ _ _ _ _ _ _ _ _ _ _ _ _)
   | (with_reducible exact ih2 _ _ _ _ _ _ _ _ _ _ _ _ _ _ _ _ _ _ _ _ _ _ _ _ _ _)
   | (with_reducible exact ih3 _ _ _ _ _ _ _ _ _ _ _ _ _ _ _ _ _ _ _ _ _ _ _ _ _ _ _)
   | (with_reducible exact ih4 _ _ _ _ _ _ _ _)
   | (with_reducible exact impl_LiStep.mono _ _ _ _ _ _ _ _ _ _ _ _ _)
   | (with_reducible exact laws_sameInts.mono _ _ _)
   | (with_reducible exact spec_MakePicks.mono _ _ _)
   | (with_reducible exact LeO.refl _)
   | (with_reducible exact LeO.none _)
   | (with_reducible refine LeO.ite ?_ ?_)
   | (with_reducible refine LeO.bind ?_ (fun _ => ?_))
   | exact ih0 _ _ _ _ _ _ _
   | exact ih1 _ _ _ _ _ _ _ _ _ _ _ _ _ _ _ _
   | exact ih2 _ _ _ _ _ _ _ _ _ _ _ _ _ _ _ _ _ _ _ _ _ _ _ _ _ _
   | exact ih3 _ _ _ _ _ _ _ _ _ _ _ _ _ _ _ _ _ _ _ _ _ _ _ _ _ _ _
   | exact ih4 _ _ _ _ _ _ _ _
   | exact impl_LiStep.mono _ _ _ _ _ _ _ _ _ _ _ _ _
   | exact laws_sameInts.mono _ _ _
   | exact spec_MakePicks.mono _ _ _
   | exact LeO.none _
   | refine LeO.ite ?_ ?_
   | refine LeO.bind ?_ (fun _ => ?_)
  ·intro y0 y1 y2 y3 y4 y5 y6 y7 y8 y9 y10 y11 y12 y13 y14 y15 y16 y17 y18 y19 y20 y21 y22 y23 y24 y25
   unfold laws_FnListOne.l1
   repeat' first
   | (with_reducible exact ih0 _ _ _ _ _ _ _)
   | (with_reducible exact ih1 _ _ _ _ _ _ _ _ _ _ _ _ _ _ _ _)
   | (with_reducible exact ih2 _ _ _ _ _ _ _ _ _ _ _ _ _ _ _ _ _ _ _ _ _ _ _ _ _ _)
   | (with_reducible exact ih3 _ _ _ _ _ _ _ _ _ _ _ _ _ _ _ _ _ _ _ _ _ _ _ _ _ _ _)
   | (with_reducible exact ih4 _ _ _ _ _ _ _ _)
   | (with_reducible exact impl_LiStep.mono _ _ _ _ _ _ _ _ _ _ _ _ _)
   | (with_reducible exact laws_sameInts.mono _ _ _)
   | (with_reducible exact spec_MakePicks.mono _ _ _)
   | (with_reducible exact LeO.refl _)
   | (with_reducible exact LeO.none _)
   | (with_reducible refine LeO.ite ?_ ?_)
   | (with_reducible refine LeO.bind ?_ (fun _ => ?_))
   | exact ih0 _ _ _ _ _ _ _
   | exact ih1 _ _ _ _ _ _ _ _ _ _ _ _ _ _ _ _
   | exact ih2 _ _ _ _ _ _ _ _ _ _ _ _ _ _ _ _ _ _ _ _ _ _ _ _ _ _
   | exact ih3 _ _ _ _ _ _ _ _ _ _ _ _ _ _ _ _ _ _ _ _ _ _ _ _ _ _ _
   | exact ih4 _ _ _ _ _ _ _ _
   | exact impl_LiStep.mono _ _ _ _ _ _ _ _ _ _ _ _ _
   | exact laws_sameInts.mono _ _ _
   | exact spec_MakePicks.mono _ _ _
   | exact LeO.none _
   | refine LeO.ite ?_ ?_
   | refine LeO.bind ?_ (fun _ => ?_)
  ·intro y0 y1 y2 y3 y4 y5 y6 y7 y8 y9 y10 y11 y12 y13 y14 y15 y16 y17 y18 y19 y20 y21 y22 y23 y24 y25 y26
   unfold laws_FnListOne.j3
   repeat' first
   | (with_reducible exact ih0 _ _ _ _ _ _ _)
   | (with_reducible exact ih1 _ _ _ _ _ _ _ _ _ _ _ _ _ _ _ _)
   | (with_reducible exact ih2 _ _ _ _ _ _ _ _ _ _ _ _ _ _ _ _ _ _ _ _ _ _ _ _ _ _)
   | (with_reducible exact ih3 _ _ _ _ _ _ _ _ _ _ _ _ _ _ _ _ _ _ _ _ _ _ _ _ _ _ _)
   | (with_reducible exact ih4 _ _ _ _ _ _ _ _)
   | (with_reducible exact impl_LiStep.mono _ _ _ _ _ _ _ _ _ _ _ _ _)
   | (with_reducible exact laws_sameInts.mono _ _ _)
   | (with_reducible exact spec_MakePicks.mono _ _ _)
   | (with_reducible exact LeO.refl _)
   | (with_reducible exact LeO.none _)
   | (with_reducible refine LeO.ite ?_ ?_)
   | (with_reducible refine LeO.bind ?_ (fun _ => ?_))
   | exact ih0 _ _ _ _ _ _ _
   | exact ih1 _ _ _ _ _ _ _ _ _ _ _ _ _ _ _ _
   | exact ih2 _ _ _ _ _ _ _ _ _ _ _ _ _ _ _ _ _ _ _ _ _ _ _ _ _ _
   | exact ih3 _ _ _ _ _ _ _ _ _ _ _ _ _ _ _ _ _ _ _ _ _ _ _ _ _ _ _
   | exact ih4 _ _ _ _ _ _ _ _
   | exact impl_LiStep.mono _ _ _ _ _ _ _ _ _ _ _ _ _
   | exact laws_sameInts.mono _ _ _
   | exact spec_MakePicks.mono _ _ _
   | exact LeO.none _
   | refine LeO.ite ?_ ?_
   | refine LeO.bind ?_ (fun _ => ?_)
  ·intro y0 y1 y2 y3 y4 y5 y6 y7
   unfold laws_FnListOne.j4
   repeat' first
   | (with_reducible exact ih0 _ _ _ _ _ _ _)
   | (with_reducible exact ih1 _ _ _ _ _ _ _ _ _ _ _ _ _ _ _ _)
   | (with_reducible exact ih2 _ _ _ _ _ _ _ _ _ _ _ _ _ _ _ _ _ _ _ _ _ _ _ _ _ _)
   | (with_reducible exact ih3 _ _ _ _ _ _ _ _ _ _ _ _ _ _ _ _ _ _ _ _ _ _ _ _ _ _ _)
   | (with_reducible exact ih4 _ _ _ _ _ _ _ _)
   | (with_reducible exact impl_LiStep.mono _ _ _ _ _ _ _ _ _ _ _ _ _)
   | (with_reducible exact laws_sameInts.mono _ _ _)
   | (with_reducible exact spec_MakePicks.mono _ _ _)
   | (with_reducible exact LeO.refl _)
   | (with_reducible exact LeO.none _)
   | (with_reducible refine LeO.ite ?_ ?_)
   | (with_reducible refine LeO.bind ?_ (fun _ => ?_))
   | exact ih0 _ _ _ _ _ _ _
   | exact ih1 _ _ _ _ _ _ _ _ _ _ _ _ _ _ _ _
   | exact ih2 _ _ _ _ _ _ _ _ _ _ _ _ _ _ _ _ _ _ _ _ _ _ _ _ _ _
   | exact ih3 _ _ _ _ _ _ _ _ _ _ _ _ _ _ _ _ _ _ _ _ _ _ _ _ _ _ _
   | exact ih4 _ _ _ _ _ _ _ _
   | exact impl_LiStep.mono _ _ _ _ _ _ _ _ _ _ _ _ _
   | exact laws_sameInts.mono _ _ _
   | exact spec_MakePicks.mono _ _ _
   | exact LeO.none _
   | refine LeO.ite ?_ ?_
   | refine LeO.bind ?_ (fun _ => ?_)
theorem laws_FnListOne.mono : ∀ a0 k, LeO (laws_FnListOne.f k a0) (laws_FnListOne.f (k + 1) a0) := by
 intro a0 k
 obtain ⟨ih0, ih1, ih2, ih3, ih4⟩ := laws_FnListOne.mono_l k
 unfold laws_FnListOne.f
 repeat' first
   | (with_reducible exact ih0 _ _ _ _ _ _ _)
   | (with_reducible exact ih1 _ _ _ _ _ _ _ _ _ _ _ _ _ _ _ _)
   | (with_reducible exact ih2 _ _ _ _ _ _ _ _ _ _ _ _ _ _ _ _ _ _ _ _ _ _ _ _ _ _)
   | (with_reducible exact ih3 _ _ _ _ _ _ _ _ _ _ _ _ _ _ _ _ _ _ _ _ _ _ _ _ _ _ _)
   | (with_reducible exact ih4 _ _ _ _ _ _ _ _)
   | (with_reducible exact impl_LiStep.mono _ _ _ _ _ _ _ _ _ _ _ _ _)
   | (with_reducible exact laws_sameInts.mono _ _ _)
   | (with_reducible exact spec_MakePicks.mono _ _ _)
   | (with_reducible exact LeO.refl _)
   | (with_reducible exact LeO.none _)
   | (with_reducible refine LeO.ite ?_ ?_)
   | (with_reducible refine LeO.bind ?_ (fun _ => ?_))
   | exact ih0 _ _ _ _ _ _ _
   | exact ih1 _ _ _ _ _ _ _ _ _ _ _ _ _ _ _ _
   | exact ih2 _ _ _ _ _ _ _ _ _ _ _ _ _ _ _ _ _ _ _ _ _ _ _ _ _ _
   | exact ih3 _ _ _ _ _ _ _ _ _ _ _ _ _ _ _ _ _ _ _ _ _ _ _ _ _ _ _
   | exact ih4 _ _ _ _ _ _ _ _
   | exact impl_LiStep.mono _ _ _ _ _ _ _ _ _ _ _ _ _
   | exact laws_sameInts.mono _ _ _
   | exact spec_MakePicks.mono _ _ _
   | exact LeO.none _
   | refine LeO.ite ?_ ?_
   | refine LeO.bind ?_ (fun _ => ?_)
set_option maxHeartbeats 8000000 in
set_option maxRecDepth 100000 in
theorem laws_FnListOne.calls (k : Nat) (A0 : Option Addr) (c0 : Nat) (l0 : List Int) (r_ : Bool) (w : World) (hr0 : Kd.C (Kd.int .u8) w A0 l0.length l0) (hc0 : l0.length ≤ c0) (h : laws_FnListOne.f k l0 = some true) :
  Calls Try.prog 10 #[.slice A0 l0.length c0] w fun e w' => e = .returned (.bool true) ∧ Below w.heap.size w w' := by
 have hu29 := Try.underlying29
 have hu58 := Try.underlying58
 have hu23 := Try.underlying23
 have HR0 := Aside0.mk hr0
 have HC0 := Aside0.mk hc0
 clear hr0 hc0
 have HB := Aside0.mk (Below.refl w.heap.size w)
 have H : (if (l0.length : Int) > 1048576 then (some true) else ((impl_LiNew.f 12).bind fun jE => (if jE.2 = true then ((spec_MakePicks.f k l0 20).bind fun eA => (laws_FnListOne.l0 k 12 (([] : List Int)) 0 eA (eA.length : Int) 0 jE.1)) else (some false)))) = some true := h
 clear h
 by_cases c2 : (l0.length : Int) > 1048576
 ·rw [if_pos c2] at H
  have RE : decide (1048576 < (l0.length : Int)) = true := decide_eq_true c2
  have SE : decide (1048576 < l0.length) = true := decide_eq_true (by omega)
  clear c2
  clear H
  (try clear H)
  go_enter Try.func10, Try.ntmps10
  go_wp2
  go_ret
  exact ⟨by first | rfl | (simp [errW_none, errW_some] <;> rfl) | (simp [*, errW_none, errW_some] <;> rfl), Z9l⟩
 ·rw [if_neg c2] at H
  have RE : decide (1048576 < (l0.length : Int)) = false := decide_eq_false c2
  have SE : decide (1048576 < l0.length) = false := decide_eq_false (by omega)
  clear c2
  replace H := Option.bind_eq_some_iff.mp H
  obtain ⟨⟨RC, FH⟩, A30, H⟩ := H
  replace H : (if FH = true then ((spec_MakePicks.f k l0 20).bind fun eA => (laws_FnListOne.l0 k 12 (([] : List Int)) 0 eA (eA.length : Int) 0 RC)) else (some false)) = some true := H
  have A3 := Aside0.mk A30
  clear A30
  obtain ⟨y337, hy337⟩ : ∃ y_ : List Int, y_ = (([] : List Int)) := ⟨_, rfl⟩
  replace H : (if FH = true then ((spec_MakePicks.f k l0 20).bind fun eA => (laws_FnListOne.l0 k 12 y337 0 eA (eA.length : Int) 0 RC)) else (some false)) = some true := by first | (rw [hy337]; with_reducible exact H) | (have H2_ := (Option.bind_some _ _).symm.trans H; rw [hy337]; with_reducible exact H2_) | (have H2_ := (Option.bind_some _ _).symm.trans H; with_reducible exact H2_) | with_reducible exact H | (rw [hy337]; exact H) | exact H
  have Ny337 := Aside0.mk hy337
  clear hy337
  by_cases c4 : FH = true
  ·subst c4
   have H1 : ((spec_MakePicks.f k l0 20).bind fun eA => (laws_FnListOne.l0 k 12 y337 0 eA (eA.length : Int) 0 RC)) = some true := by rw [if_pos rfl] at H; exact H
   clear H
   have H := H1
   clear H1
   replace H := Option.bind_eq_some_iff.mp H
   obtain ⟨eA, A50, H⟩ := H
   replace H : (laws_FnListOne.l0 k 12 y337 0 eA (eA.length : Int) 0 RC) = some true := H
   have A5 := Aside0.mk A50
   clear A50
   have H' := Aside0.mk H
   clear H
   go_enter Try.func10, Try.ntmps10
   go_wp2_with (first | ((with_reducible refine gate_callee (f := 15) rfl ?_); refine goesL_ (some 23) rfl rfl Try.func15 (by kernel_rfl) rfl #[.int .i64 12] rfl Z9j ?_; (with_reducible refine (impl_LiNew.calls 12 RC true _ A3.out).mono ?_); rintro e w6 ⟨oJ, rfl, ho0, hb⟩; refine ⟨_, rfl, ?_⟩; have aB := Aside0.mk (Kd.R_lower ho0 (below_size Z9l)); have bB := Aside0.mk (below_step Z9l hb); clear HB; have kB := aB; have HB := bB; clear aB bB; (try clear hb); (try clear hb2); (try clear hk); (try clear hi); (try clear ho0)) | ((with_reducible refine gate_dst (N := 4) rfl ?_); refine box_event ?hg (N := 4) ?hd (cs := #[.slice none 0 0]) (t := 29) ?hr ?_; (case hd => rfl); (case hg => rfl); (case hr => first | (go_simp; done) | (go_simp; rfl)); intro xA hg w7 hbox hb; have aB := Aside0.mk (Kd.R_below Z9n hb); have bB := Aside0.mk (below_step Z9l hb); have lB := Aside0.mk (hbox); have mB := Aside0.mk ((by rw [hg]; exact (below_size Z9l) : w.heap.size ≤ xA)); have qB := Aside0.mk ((by rw [hg]; exact (below_size Z9l) : w.heap.size ≤ xA)); clear kB; clear HB; have kB := aB; have HB := bB; have wA := lB; have lI := mB; have gE := qB; clear aB bB lB mB qB; clear hb hbox hg; obtain ⟨RH, SH, pJ⟩ := Kd.R_slice kB.out; subst pJ; have JC : w7.cell? ⟨xA, 0, none⟩ = some (.slice none 0 0) := (blk_cell wA.out 0).trans rfl; have KC := blk_frozen wA.out 0) | ((with_reducible refine gate_dst (N := 26) rfl ?_); refine Kd.R_lit (Kd.int .i64) _ 3 ?hg (N := 26) ?hd (xs := ([] : List Int)) (inner := []) (ok := fun _ => True) (okp := fun _ => True) ?hr ?hp (fun _ hk => hk) trivial (Below.refl _ _) (Nat.le_refl _) (by simp) ?_; (case hd => rfl); (case hg => rfl); (case hr => first | (go_simp; done) | (go_simp; rfl)); (case hp => exact (Reps.none _ _)); intro qJ wJ ho11 hb hg_ hnew_; clear hg_ hnew_; (first | rw [← Ny337.out] at ho11 | (simp only [Int.reduceToNat] at ho11; rw [← Ny337.out] at ho11)); have aB := Aside0.mk (Kd.R_elder' Z9z (Kd.R_base ho11) hb); have bB := Aside0.mk (Kd.R_lower (Kd.R_new' ho11 (Kd.R_lt Z9z)) (below_size Z9i)); have lB := Aside0.mk (blk_below (g := xA) (o := .cells #[.slice RH RC.length SH] 29 (0, 0)) (by (with_reducible repeat (first | refine blk_drewN ?_ _ | refine blk_drew ?_ | refine blk_alloc ?_ _)); refine blk_put (cs := #[.slice none 0 0]) ?_ 0 _ rfl; (with_reducible repeat (first | refine blk_drewN ?_ _ | refine blk_drew ?_ | refine blk_alloc ?_ _)); exact wA.out) hb); have mB := Aside0.mk (below_step Z9i hb); clear kB; clear wA; clear HB; have kB := aB; have kE := bB; have wA := lB; have HB := mB; clear aB bB lB mB; clear hb ho11) | ((with_reducible refine gate_callee (f := 38) rfl ?_); refine goesL_ (some 30) rfl rfl Try.func38 (by kernel_rfl) rfl #[.slice A0 l0.length c0, .int .i64 20] rfl Z9j ?_; (with_reducible refine (spec_MakePicks.calls k _ _ l0 20 eA _ ?side1 ?side2 A5.out).mono ?_); (case side1 => repeat (first | exact (Kd.C_below HR0.out HB.out) | (with_reducible refine Kd.C_alloc ?_ _) | (with_reducible refine Kd.C_drewN ?_ _) | (with_reducible refine Kd.C_drew ?_))); (case side2 => exact HC0.out); rintro e xJ ⟨rJ, rfl, ho0, hb⟩; refine ⟨_, rfl, ?_⟩; have aB := Aside0.mk (Kd.R_elder' Z9n (Kd.R_base ho0) hb); have bB := Aside0.mk (Kd.R_elder' (by (with_reducible repeat (first | apply Kd.R_alloc | apply Kd.R_drewN | apply Kd.R_drew)); exact kE.out) (Kd.R_base ho0) hb); have lB := Aside0.mk (Kd.R_lower (Kd.R_new' (Kd.R_new' ho0 (Kd.R_lt Z9n)) (Kd.R_lt (by (with_reducible repeat (first | apply Kd.R_alloc | apply Kd.R_drewN | apply Kd.R_drew)); exact kE.out))) (below_size Z9i)); have mB := Aside0.mk (blk_below (g := xA) (o := .cells #[.slice RH RC.length SH] 29 (0, 0)) Z9a hb); have qB := Aside0.mk (below_step Z9i hb); clear kB; clear kE; clear wA; clear HB; have kB := aB; have kE := bB; have EH := lB; have wA := mB; have HB := qB; clear aB bB lB mB qB; (try clear hb); (try clear hb2); (try clear hk); (try clear hi); (try clear ho0); obtain ⟨GH, gB, XH⟩ := Kd.R_slice EH.out; subst XH))
   go_loopg [6, 7, 32] k (fun kq v6 v7 v32 w' => ∃ (SA : List Int) (KA : Int) (cA : Int) (BA : List Int) (nA : Value), v7 = .int .i64 KA ∧ v32 = .int .i64 cA ∧ Aside0 (laws_FnListOne.l0 kq 12 SA KA eA (eA.length : Int) cA BA = some true) ∧ Aside0 (kq ≤ k) ∧ Aside0 (Kd.R (Kd.int .i64) 3 w' w.heap.size (fun k_ => some k_ ≠ ((.slice GH eA.length gB) : Value).ownBlock ∧ some k_ ≠ (nA : Value).ownBlock) v6 SA) ∧ Aside0 (Kd.R (Kd.int .i64) 3 w' w.heap.size (fun k_ => some k_ ≠ (v6 : Value).ownBlock ∧ some k_ ≠ (nA : Value).ownBlock) (.slice GH eA.length gB) eA) ∧ Aside0 (Kd.R (Kd.int .i64) 3 w' w.heap.size (fun k_ => some k_ ≠ (v6 : Value).ownBlock ∧ some k_ ≠ ((.slice GH eA.length gB) : Value).ownBlock) nA BA) ∧ Aside0 (w'.heap[xA]? = some (.cells #[nA] 29 (0, 0))) ∧ Aside0 (Below w.heap.size w w'))
   case atStart => exact ⟨(y337), (0), (0), (RC), (.slice RH RC.length SH), Z9c, Z9c, H', ⟨Nat.le_refl _⟩, ⟨by (with_reducible repeat (first | apply Kd.R_alloc | apply Kd.R_drewN | apply Kd.R_drew)); exact Kd.R_mono kE.out (fun _ hk => ⟨hk.2, hk.1.2⟩)⟩, ⟨by (with_reducible repeat (first | apply Kd.R_alloc | apply Kd.R_drewN | apply Kd.R_drew)); exact Kd.R_mono EH.out (fun _ hk => ⟨hk.2, hk.1.2⟩)⟩, ⟨by (with_reducible repeat (first | apply Kd.R_alloc | apply Kd.R_drewN | apply Kd.R_drew)); exact Kd.R_mono kB.out (fun _ hk => ⟨hk.1.2, hk.2⟩)⟩, ⟨Z9a⟩, ⟨Z9i⟩⟩
   case round =>
    clear H'
    (try clear c1); (try clear c2); (try clear RE); (try clear SE); (try clear p2); (try clear c3); (try clear c4); (try clear c10); (try clear JC); (try clear KC)
    obtain ⟨SA, KA, cA, BA, nA, rfl, rfl, HA, HK1, OA, zA, jA, wA, HB⟩ := hrel
    cases gk with
    | zero => exact absurd HA.out (by simp [laws_FnListOne.l0])
    | succ k1 =>
     have H := HA.out
     clear HA
     simp only [laws_FnListOne.l0] at H
     by_cases c14 : cA < (eA.length : Int)
     ·rw [if_pos c14] at H
      have lE : decide (cA < (eA.length : Int)) = true := decide_eq_true c14
      clear c14
      by_cases c15 : 0 ≤ cA
      ·rw [if_pos c15] at H
       have vE : decide (0 ≤ cA) = true := decide_eq_true c15
       clear c15
       by_cases c16 : cA < (eA.length : Int)
       ·rw [if_pos c16] at H
        have wE : decide (cA < (eA.length : Int)) = true := decide_eq_true c16
        clear c16
        have HC17 := Aside0.mk H
        clear H
        have p343 : 0 ≤ (cA : Int) := of_decide_eq_true (by first | (with_reducible assumption) | assumption)
        have q343 : cA < (eA.length : Int) := of_decide_eq_true (by first | (with_reducible assumption) | assumption)
        obtain ⟨ad343, YH, KB⟩ := Kd.at_int (Kd.R_reads' zA.out).2.2 cA p343 q343
        cases YH
        replace p343 := eq_true p343
        replace q343 := eq_true q343
        go_upto_region 13 with (first | ((with_reducible refine gate_dst (N := 10) rfl ?_); refine box_event ?hg (N := 10) ?hd (cs := #[.int .i64 0, .int .i64 0, .int .i64 0, .int .i64 0, .int .i64 0, .int .i64 0, .int .i64 0, .int .i64 0]) (t := 58) ?hr ?_; (case hd => rfl); (case hg => rfl); (case hr => first | (go_simp; done) | (go_simp; rfl)); intro fA hg LB hbox hb; have aB := Aside0.mk (Kd.R_below Z9g hb); have bB := Aside0.mk (Kd.R_below Z9e hb); have lB := Aside0.mk (Kd.R_below Z9d hb); have mB := Aside0.mk (blk_below (g := xA) (o := .cells #[nA] 29 (0, 0)) Z9a hb); have qB := Aside0.mk (below_step Z9i hb); have LC := Aside0.mk (hbox); have WC := Aside0.mk ((by rw [hg]; exact (below_size Z9i) : w.heap.size ≤ fA)); have XC := Aside0.mk ((by rw [hg]; exact (below_size Z9i) : w.heap.size ≤ fA)); have cF := Aside0.mk ((by rw [hg]; exact Nat.ne_of_lt (blk_lt (g := xA) (o := .cells #[nA] 29 (0, 0)) Z9a) : xA ≠ fA)); have dF := Aside0.mk ((by rw [hg]; exact Nat.ne_of_gt (blk_lt (g := xA) (o := .cells #[nA] 29 (0, 0)) Z9a) : fA ≠ xA)); clear OA; clear zA; clear jA; clear wA; clear HB; have OA := aB; have zA := bB; have jA := lB; have wA := mB; have HB := qB; have dA := LC; have mI := WC; have uE := XC; have yA := cF; have JA := dF; clear aB bB lB mB qB LC WC XC cF dF; clear hb hbox hg; have nI := JA.out; have oI := yA.out; have MB : LB.cell? ⟨fA, 0, none⟩ = some (.int .i64 0) := (blk_cell dA.out 0).trans rfl; have NB : LB.cell? ⟨fA, 1, none⟩ = some (.int .i64 0) := (blk_cell dA.out 1).trans rfl; have OB : LB.cell? ⟨fA, 2, none⟩ = some (.int .i64 0) := (blk_cell dA.out 2).trans rfl; have PB : LB.cell? ⟨fA, 3, none⟩ = some (.int .i64 0) := (blk_cell dA.out 3).trans rfl; have QB : LB.cell? ⟨fA, 4, none⟩ = some (.int .i64 0) := (blk_cell dA.out 4).trans rfl; have RB : LB.cell? ⟨fA, 5, none⟩ = some (.int .i64 0) := (blk_cell dA.out 5).trans rfl; have SB : LB.cell? ⟨fA, 6, none⟩ = some (.int .i64 0) := (blk_cell dA.out 6).trans rfl; have TB : LB.cell? ⟨fA, 7, none⟩ = some (.int .i64 0) := (blk_cell dA.out 7).trans rfl; have UB := blk_frozen dA.out 0; have VB := blk_frozen dA.out 1; have WB := blk_frozen dA.out 2; have XB := blk_frozen dA.out 3; have YB := blk_frozen dA.out 4; have ZB := blk_frozen dA.out 5; have aC := blk_frozen dA.out 6; have bC := blk_frozen dA.out 7))
        (try simp only [Act.put, List.setIfInBounds_toArray, List.set_cons_zero, List.set_cons_succ])
        go_cut [49] (fun v49 wc => ∃ (kq : Nat) (bD : Bool), v49 = .bool bD ∧ Aside0 (laws_FnListOne.j1 kq 12 SA KA eA (eA.length : Int) cA bD BA 0 (wrap64 (1 + (Int.tmod (rd eA cA) 3))) (wrap64 (Int.tdiv (rd eA cA) 3)) 1 0 0 0 0 = some true) ∧ Aside0 (kq ≤ k1) ∧ Aside0 (Kd.R (Kd.int .i64) 3 wc w.heap.size (fun k_ => some k_ ≠ ((.slice (some ad343) eA.length gB) : Value).ownBlock ∧ some k_ ≠ (nA : Value).ownBlock) u6 SA) ∧ Aside0 (Kd.R (Kd.int .i64) 3 wc w.heap.size (fun k_ => some k_ ≠ (u6 : Value).ownBlock ∧ some k_ ≠ (nA : Value).ownBlock) (.slice (some ad343) eA.length gB) eA) ∧ Aside0 (Kd.R (Kd.int .i64) 3 wc w.heap.size (fun k_ => some k_ ≠ (u6 : Value).ownBlock ∧ some k_ ≠ ((.slice (some ad343) eA.length gB) : Value).ownBlock) nA BA) ∧ Aside0 (wc.heap[xA]? = some (.cells #[nA] 29 (0, 0))) ∧ Aside0 (wc.heap[fA]? = some (.cells #[.int .i64 0, .int .i64 (wrap64 (1 + (Int.tmod (rd eA cA) 3))), .int .i64 (wrap64 (Int.tdiv (rd eA cA) 3)), .int .i64 1, .int .i64 0, .int .i64 0, .int .i64 0, .int .i64 0] 58 (0, 0))) ∧ Aside0 (Below w.heap.size w wc))
        case first =>
         have H := HC17.out
         clear HC17
         by_cases c21 : (wrap64 (1 + (Int.tmod (rd eA cA) 3))) = 1
         ·rw [if_pos c21] at H
          have rB : ((wrap64 (1 + (Int.tmod (rd eA cA) 3))) == 1) = true := beq_iff_eq.mpr c21
          have mE : ((wrap64 (1 + (Int.tmod (rd eA cA) 3))) != 1) = false := bne_eq_false_iff_eq.mpr c21
          clear c21
          (first | rw [rB] | (simp only [i64_w, i32_w]; rw [rB]) | skip)
          have H' := Aside0.mk H
          clear H
          have pI := JA.out
          have qI := yA.out
          have cC : LB.cell? ⟨fA, 0, none⟩ = some (.int .i64 0) := (blk_cell dA.out 0).trans rfl
          have dC : LB.cell? ⟨fA, 1, none⟩ = some (.int .i64 0) := (blk_cell dA.out 1).trans rfl
          have eC : LB.cell? ⟨fA, 2, none⟩ = some (.int .i64 0) := (blk_cell dA.out 2).trans rfl
          have fC : LB.cell? ⟨fA, 3, none⟩ = some (.int .i64 0) := (blk_cell dA.out 3).trans rfl
          have gC : LB.cell? ⟨fA, 4, none⟩ = some (.int .i64 0) := (blk_cell dA.out 4).trans rfl
          have hC : LB.cell? ⟨fA, 5, none⟩ = some (.int .i64 0) := (blk_cell dA.out 5).trans rfl
          have iC : LB.cell? ⟨fA, 6, none⟩ = some (.int .i64 0) := (blk_cell dA.out 6).trans rfl
          have jC : LB.cell? ⟨fA, 7, none⟩ = some (.int .i64 0) := (blk_cell dA.out 7).trans rfl
          have kC := blk_frozen dA.out 0
          have lC := blk_frozen dA.out 1
          have mC := blk_frozen dA.out 2
          have nC := blk_frozen dA.out 3
          have oC := blk_frozen dA.out 4
          have pC := blk_frozen dA.out 5
          have qC := blk_frozen dA.out 6
          have rC := blk_frozen dA.out 7
          go_wp2
          go_meet
          case rel => exact ⟨_, ((KA == 12)), Z9c, H', ⟨by have := HK1.out; first | omega | exact Nat.le_refl _⟩, ⟨Z9x⟩, ⟨Z9w⟩, ⟨Z9aa⟩, ⟨Z9t⟩, ⟨q9_1⟩, ⟨Z9k⟩⟩
         ·rw [if_neg c21] at H
          have rB : ((wrap64 (1 + (Int.tmod (rd eA cA) 3))) == 1) = false := beq_eq_false_iff_ne.mpr c21
          have mE : ((wrap64 (1 + (Int.tmod (rd eA cA) 3))) != 1) = true := bne_iff_ne.mpr c21
          (first | rw [rB] | (simp only [i64_w, i32_w]; rw [rB]) | skip)
          have H' := Aside0.mk H
          clear H
          have rI := JA.out
          have sI := yA.out
          have sC : LB.cell? ⟨fA, 0, none⟩ = some (.int .i64 0) := (blk_cell dA.out 0).trans rfl
          have tC : LB.cell? ⟨fA, 1, none⟩ = some (.int .i64 0) := (blk_cell dA.out 1).trans rfl
          have uC : LB.cell? ⟨fA, 2, none⟩ = some (.int .i64 0) := (blk_cell dA.out 2).trans rfl
          have vC : LB.cell? ⟨fA, 3, none⟩ = some (.int .i64 0) := (blk_cell dA.out 3).trans rfl
          have wC : LB.cell? ⟨fA, 4, none⟩ = some (.int .i64 0) := (blk_cell dA.out 4).trans rfl
          have xC : LB.cell? ⟨fA, 5, none⟩ = some (.int .i64 0) := (blk_cell dA.out 5).trans rfl
          have yC : LB.cell? ⟨fA, 6, none⟩ = some (.int .i64 0) := (blk_cell dA.out 6).trans rfl
          have zC : LB.cell? ⟨fA, 7, none⟩ = some (.int .i64 0) := (blk_cell dA.out 7).trans rfl
          have AC := blk_frozen dA.out 0
          have BC := blk_frozen dA.out 1
          have CC := blk_frozen dA.out 2
          have DC := blk_frozen dA.out 3
          have EC := blk_frozen dA.out 4
          have FC := blk_frozen dA.out 5
          have GC := blk_frozen dA.out 6
          have HC := blk_frozen dA.out 7
          go_wp2
          go_meet
          case rel => exact ⟨_, (false), Z9c, H', ⟨by have := HK1.out; first | omega | exact Nat.le_refl _⟩, ⟨Z9x⟩, ⟨Z9w⟩, ⟨Z9aa⟩, ⟨Z9t⟩, ⟨q9_1⟩, ⟨Z9k⟩⟩
        case rest =>
         clear HC17
         (try clear c1); (try clear c2); (try clear RE); (try clear SE); (try clear p2); (try clear c3); (try clear p3); (try clear q3); (try clear hx3); (try clear c4); (try clear p6); (try clear c10); (try clear c14); (try clear lE); (try clear c15); (try clear vE); (try clear c16); (try clear wE); (try clear c19); (try clear c21); (try clear rB); (try clear mE); (try clear c22); (try clear c24); (try clear MB); (try clear NB); (try clear OB); (try clear PB); (try clear QB); (try clear RB); (try clear SB); (try clear TB); (try clear cC); (try clear dC); (try clear eC); (try clear fC); (try clear gC); (try clear hC); (try clear iC); (try clear jC); (try clear sC); (try clear tC); (try clear uC); (try clear vC); (try clear wC); (try clear xC); (try clear yC); (try clear zC); (try clear JC); (try clear UB); (try clear VB); (try clear WB); (try clear XB); (try clear YB); (try clear ZB); (try clear aC); (try clear bC); (try clear kC); (try clear lC); (try clear mC); (try clear nC); (try clear oC); (try clear pC); (try clear qC); (try clear rC); (try clear AC); (try clear BC); (try clear CC); (try clear DC); (try clear EC); (try clear FC); (try clear GC); (try clear HC); (try clear KC); (try clear KB); (try clear p2); (try clear p343); (try clear q343)
         obtain ⟨kq, bD, rfl, HA, HJ16, OA, zA, jA, wA, dA, HB⟩ := hcut
         cases kq with
         | zero => exact absurd HA.out (by simp [laws_FnListOne.j1])
         | succ kj16 =>
          have H := HA.out
          clear HA
          simp only [laws_FnListOne.j1] at H
          by_cases c26 : bD = true
          ·subst c26
           have H1 : (laws_FnListOne.l0 kj16 12 SA KA eA (eA.length : Int) (wrap64 (cA + 1)) BA) = some true := by rw [if_pos rfl] at H; exact H
           clear H
           have H := H1
           clear H1
           have H' := Aside0.mk H
           clear H
           go_wp2
           go_roundg kj16
           case measure => have := HK1.out; have := HJ16.out; omega
           case rel => exact ⟨(SA), (KA), (wrap64 (cA + 1)), (BA), (nA), Z9c, Z9c, H', ⟨by have := HK1.out; have := HJ16.out; omega⟩, ⟨Z9g⟩, ⟨Z9e⟩, ⟨Z9d⟩, ⟨Z9a⟩, ⟨Z9k⟩⟩
          ·replace c26 := Bool.eq_false_iff.mpr c26
           subst c26
           have H1 : ((impl_LiCall.f (wrap64 (1 + (Int.tmod (rd eA cA) 3))) (wrap64 (Int.tdiv (rd eA cA) 3)) KA).bind fun IA => ((laws_less.f ((wrap64 (1 + (Int.tmod (rd eA cA) 3))) == 1)).bind fun NA => (laws_FnListOne.l1 kj16 12 SA (wrap64 (KA + NA)) 0 eA (eA.length : Int) cA BA 0 (wrap64 (1 + (Int.tmod (rd eA cA) 3))) (wrap64 (Int.tdiv (rd eA cA) 3)) 1 0 0 0 0 IA.1 IA.2.1 IA.2.2.1 IA.2.2.2.1 IA.2.2.2.2.1 IA.2.2.2.2.2.1 IA.2.2.2.2.2.2.1 IA.2.2.2.2.2.2.2.1 IA.2.2.2.2.2.2.2.2.1 IA.2.2.2.2.2.2.2.2.2))) = some true := by rw [if_neg (show ¬ (false = true) by decide)] at H; exact H
           clear H
           have H := H1
           clear H1
           replace H := Option.bind_eq_some_iff.mp H
           obtain ⟨⟨hB, nB, sB, uB, zB, MC, SC, cD, nE, rE⟩, A270, H⟩ := H
           replace H : ((laws_less.f ((wrap64 (1 + (Int.tmod (rd eA cA) 3))) == 1)).bind fun NA => (laws_FnListOne.l1 kj16 12 SA (wrap64 (KA + NA)) 0 eA (eA.length : Int) cA BA 0 (wrap64 (1 + (Int.tmod (rd eA cA) 3))) (wrap64 (Int.tdiv (rd eA cA) 3)) 1 0 0 0 0 hB nB sB uB zB MC SC cD nE rE)) = some true := H
           have A27 := Aside0.mk A270
           clear A270
           replace H := Option.bind_eq_some_iff.mp H
           obtain ⟨NA, A280, H⟩ := H
           replace H : (laws_FnListOne.l1 kj16 12 SA (wrap64 (KA + NA)) 0 eA (eA.length : Int) cA BA 0 (wrap64 (1 + (Int.tmod (rd eA cA) 3))) (wrap64 (Int.tdiv (rd eA cA) 3)) 1 0 0 0 0 hB nB sB uB zB MC SC cD nE rE) = some true := H
           have A28 := Aside0.mk A280
           clear A280
           have H' := Aside0.mk H
           clear H
           have tI := JA.out
           have uI := yA.out
           have dD : wc.cell? ⟨fA, 0, none⟩ = some (.int .i64 0) := (blk_cell dA.out 0).trans rfl
           have eD : wc.cell? ⟨fA, 1, none⟩ = some (.int .i64 (wrap64 (1 + (Int.tmod (rd eA cA) 3)))) := (blk_cell dA.out 1).trans rfl
           have fD : wc.cell? ⟨fA, 2, none⟩ = some (.int .i64 (wrap64 (Int.tdiv (rd eA cA) 3))) := (blk_cell dA.out 2).trans rfl
           have gD : wc.cell? ⟨fA, 3, none⟩ = some (.int .i64 1) := (blk_cell dA.out 3).trans rfl
           have hD : wc.cell? ⟨fA, 4, none⟩ = some (.int .i64 0) := (blk_cell dA.out 4).trans rfl
           have iD : wc.cell? ⟨fA, 5, none⟩ = some (.int .i64 0) := (blk_cell dA.out 5).trans rfl
           have jD : wc.cell? ⟨fA, 6, none⟩ = some (.int .i64 0) := (blk_cell dA.out 6).trans rfl
           have kD : wc.cell? ⟨fA, 7, none⟩ = some (.int .i64 0) := (blk_cell dA.out 7).trans rfl
           have lD := blk_frozen dA.out 0
           have mD := blk_frozen dA.out 1
           have nD := blk_frozen dA.out 2
           have oD := blk_frozen dA.out 3
           have pD := blk_frozen dA.out 4
           have qD := blk_frozen dA.out 5
           have rD := blk_frozen dA.out 6
           have sD := blk_frozen dA.out 7
           go_wp2_with (first | ((with_reducible refine gate_callee (f := 12) rfl ?_); refine goesL_ (some 55) rfl rfl Try.func12 (by kernel_rfl) rfl #[.int .i64 (wrap64 (1 + (Int.tmod (rd eA cA) 3))), .int .i64 (wrap64 (Int.tdiv (rd eA cA) 3)), .int .i64 KA] rfl Z9j ?_; (with_reducible refine (impl_LiCall.calls (wrap64 (1 + (Int.tmod (rd eA cA) 3))) (wrap64 (Int.tdiv (rd eA cA) 3)) KA hB nB sB uB zB MC SC cD nE rE _ A27.out).mono ?_); rintro e yJ ⟨rfl, hb⟩; refine ⟨_, rfl, ?_⟩; have aB := Aside0.mk (Kd.R_below Z9g hb); have bB := Aside0.mk (Kd.R_below Z9e hb); have lB := Aside0.mk (Kd.R_below Z9d hb); have mB := Aside0.mk (blk_below (g := xA) (o := .cells #[nA] 29 (0, 0)) Z9a hb); have qB := Aside0.mk (blk_below (g := fA) (o := .cells #[.int .i64 0, .int .i64 (wrap64 (1 + (Int.tmod (rd eA cA) 3))), .int .i64 (wrap64 (Int.tdiv (rd eA cA) 3)), .int .i64 1, .int .i64 0, .int .i64 0, .int .i64 0, .int .i64 0] 58 (0, 0)) Z9f hb); have LC := Aside0.mk (below_step Z9k hb); clear OA; clear zA; clear jA; clear wA; clear dA; clear HB; have OA := aB; have zA := bB; have jA := lB; have wA := mB; have dA := qB; have HB := LC; clear aB bB lB mB qB LC; (try clear hb); (try clear hb2); (try clear hk); (try clear hi)) | ((with_reducible refine gate_dst (N := 11) rfl ?_); refine box_event ?hg (N := 11) ?hd (cs := #[.int .i64 0, .int .i64 0, .int .i64 0, .int .i64 0, .int .i64 0, .int .i64 0, .int .i64 0, .int .i64 0, .int .i64 0, .bool false]) (t := 23) ?hr ?_; (case hd => rfl); (case hg => rfl); (case hr => first | (go_simp; done) | (go_simp; rfl)); intro bA hg fE hbox hb; have aB := Aside0.mk (Kd.R_below Z9g hb); have bB := Aside0.mk (Kd.R_below Z9e hb); have lB := Aside0.mk (Kd.R_below Z9d hb); have mB := Aside0.mk (blk_below (g := xA) (o := .cells #[nA] 29 (0, 0)) Z9a hb); have qB := Aside0.mk (blk_below (g := fA) (o := .cells #[.int .i64 0, .int .i64 (wrap64 (1 + (Int.tmod (rd eA cA) 3))), .int .i64 (wrap64 (Int.tdiv (rd eA cA) 3)), .int .i64 1, .int .i64 0, .int .i64 0, .int .i64 0, .int .i64 0] 58 (0, 0)) Z9f hb); have LC := Aside0.mk (below_step Z9k hb); have WC := Aside0.mk (hbox); have XC := Aside0.mk ((by rw [hg]; exact (below_size Z9k) : w.heap.size ≤ bA)); have cF := Aside0.mk ((by rw [hg]; exact (below_size Z9k) : w.heap.size ≤ bA)); have dF := Aside0.mk ((by rw [hg]; exact Nat.ne_of_lt (blk_lt (g := xA) (o := .cells #[nA] 29 (0, 0)) Z9a) : xA ≠ bA)); have oE := Aside0.mk ((by rw [hg]; exact Nat.ne_of_gt (blk_lt (g := xA) (o := .cells #[nA] 29 (0, 0)) Z9a) : bA ≠ xA)); have pE := Aside0.mk ((Z9p : fA ≠ bA)); have qE := Aside0.mk ((Z9r : bA ≠ fA)); clear OA; clear zA; clear jA; clear wA; clear dA; clear HB; have OA := aB; have zA := bB; have jA := lB; have wA := mB; have dA := qB; have HB := LC; have aA := WC; have vI := XC; have bF := cF; have pA := dF; have LA := oE; have rA := pE; have QA := qE; clear aB bB lB mB qB LC WC XC cF dF oE pE qE; clear hb hbox hg; have wI := LA.out; have xI := pA.out; have yI := QA.out; have zI := rA.out; have tD : fE.cell? ⟨bA, 0, none⟩ = some (.int .i64 0) := (blk_cell aA.out 0).trans rfl; have uD : fE.cell? ⟨bA, 1, none⟩ = some (.int .i64 0) := (blk_cell aA.out 1).trans rfl; have vD : fE.cell? ⟨bA, 2, none⟩ = some (.int .i64 0) := (blk_cell aA.out 2).trans rfl; have wD : fE.cell? ⟨bA, 3, none⟩ = some (.int .i64 0) := (blk_cell aA.out 3).trans rfl; have xD : fE.cell? ⟨bA, 4, none⟩ = some (.int .i64 0) := (blk_cell aA.out 4).trans rfl; have yD : fE.cell? ⟨bA, 5, none⟩ = some (.int .i64 0) := (blk_cell aA.out 5).trans rfl; have zD : fE.cell? ⟨bA, 6, none⟩ = some (.int .i64 0) := (blk_cell aA.out 6).trans rfl; have AD : fE.cell? ⟨bA, 7, none⟩ = some (.int .i64 0) := (blk_cell aA.out 7).trans rfl; have BD : fE.cell? ⟨bA, 8, none⟩ = some (.int .i64 0) := (blk_cell aA.out 8).trans rfl; have CD : fE.cell? ⟨bA, 9, none⟩ = some (.bool false) := (blk_cell aA.out 9).trans rfl; have DD := blk_frozen aA.out 0; have ED := blk_frozen aA.out 1; have FD := blk_frozen aA.out 2; have GD := blk_frozen aA.out 3; have HD := blk_frozen aA.out 4; have ID := blk_frozen aA.out 5; have JD := blk_frozen aA.out 6; have KD := blk_frozen aA.out 7; have LD := blk_frozen aA.out 8; have MD := blk_frozen aA.out 9; have ND : fE.cell? ⟨fA, 0, none⟩ = some (.int .i64 0) := (blk_cell dA.out 0).trans rfl; have OD : fE.cell? ⟨fA, 1, none⟩ = some (.int .i64 (wrap64 (1 + (Int.tmod (rd eA cA) 3)))) := (blk_cell dA.out 1).trans rfl; have PD : fE.cell? ⟨fA, 2, none⟩ = some (.int .i64 (wrap64 (Int.tdiv (rd eA cA) 3))) := (blk_cell dA.out 2).trans rfl; have QD : fE.cell? ⟨fA, 3, none⟩ = some (.int .i64 1) := (blk_cell dA.out 3).trans rfl; have RD : fE.cell? ⟨fA, 4, none⟩ = some (.int .i64 0) := (blk_cell dA.out 4).trans rfl; have SD : fE.cell? ⟨fA, 5, none⟩ = some (.int .i64 0) := (blk_cell dA.out 5).trans rfl; have TD : fE.cell? ⟨fA, 6, none⟩ = some (.int .i64 0) := (blk_cell dA.out 6).trans rfl; have UD : fE.cell? ⟨fA, 7, none⟩ = some (.int .i64 0) := (blk_cell dA.out 7).trans rfl; have VD := blk_frozen dA.out 0; have WD := blk_frozen dA.out 1; have XD := blk_frozen dA.out 2; have YD := blk_frozen dA.out 3; have ZD := blk_frozen dA.out 4; have aE := blk_frozen dA.out 5; have bE := blk_frozen dA.out 6; have cE := blk_frozen dA.out 7) | ((with_reducible refine gate_callee (f := 39) rfl ?_); refine goesL_ (some 60) rfl rfl Try.func39 (by kernel_rfl) rfl #[.bool ((wrap64 (1 + (Int.tmod (rd eA cA) 3))) == 1)] rfl Z9j ?_; (with_reducible refine (laws_less.calls ((wrap64 (1 + (Int.tmod (rd eA cA) 3))) == 1) NA _ A28.out).mono ?_); rintro e w' ⟨rfl, ⟨nd, rfl⟩⟩; refine ⟨_, rfl, ?_⟩))
           go_loopg [12] kj16 (fun kq v12 w' => ∃ (cB : Int) (hA : List Int) (uA : Int) (tA : Int) (sA : Int) (qA : Int) (oA : Int) (mA : Int) (lA : Int) (gA : Int) (kA : Int) (iA : Bool) (nA : Value), v12 = .int .i64 cB ∧ Aside0 (laws_FnListOne.l1 kq 12 SA (wrap64 (KA + NA)) cB eA (eA.length : Int) cA hA 0 (wrap64 (1 + (Int.tmod (rd eA cA) 3))) (wrap64 (Int.tdiv (rd eA cA) 3)) 1 0 0 0 0 uA tA sA qA oA mA lA gA kA iA = some true) ∧ Aside0 (kq ≤ kj16) ∧ Aside0 (Kd.R (Kd.int .i64) 3 w' w.heap.size (fun k_ => some k_ ≠ ((.slice (some ad343) eA.length gB) : Value).ownBlock ∧ some k_ ≠ (nA : Value).ownBlock) u6 SA) ∧ Aside0 (Kd.R (Kd.int .i64) 3 w' w.heap.size (fun k_ => some k_ ≠ (u6 : Value).ownBlock ∧ some k_ ≠ (nA : Value).ownBlock) (.slice (some ad343) eA.length gB) eA) ∧ Aside0 (Kd.R (Kd.int .i64) 3 w' w.heap.size (fun k_ => some k_ ≠ (u6 : Value).ownBlock ∧ some k_ ≠ ((.slice (some ad343) eA.length gB) : Value).ownBlock) nA hA) ∧ Aside0 (w'.heap[xA]? = some (.cells #[nA] 29 (0, 0))) ∧ Aside0 (w'.heap[fA]? = some (.cells #[.int .i64 0, .int .i64 (wrap64 (1 + (Int.tmod (rd eA cA) 3))), .int .i64 (wrap64 (Int.tdiv (rd eA cA) 3)), .int .i64 1, .int .i64 0, .int .i64 0, .int .i64 0, .int .i64 0] 58 (0, 0))) ∧ Aside0 (w'.heap[bA]? = some (.cells #[.int .i64 uA, .int .i64 tA, .int .i64 sA, .int .i64 qA, .int .i64 oA, .int .i64 mA, .int .i64 lA, .int .i64 gA, .int .i64 kA, .bool iA] 23 (0, 0))) ∧ Aside0 (Below w.heap.size w w'))
           case atStart => exact ⟨(0), (BA), (hB), (nB), (sB), (uB), (zB), (MC), (SC), (cD), (nE), (rE), (nA), Z9c, H', ⟨Nat.le_refl _⟩, ⟨by (with_reducible repeat (first | apply Kd.R_alloc | apply Kd.R_drewN | apply Kd.R_drew)); exact Kd.R_mono (Kd.R_far (p := ⟨bA, 9, none⟩) (Kd.R_far (p := ⟨bA, 8, none⟩) (Kd.R_far (p := ⟨bA, 7, none⟩) (Kd.R_far (p := ⟨bA, 6, none⟩) (Kd.R_far (p := ⟨bA, 5, none⟩) (Kd.R_far (p := ⟨bA, 4, none⟩) (Kd.R_far (p := ⟨bA, 3, none⟩) (Kd.R_far (p := ⟨bA, 2, none⟩) (Kd.R_far (p := ⟨bA, 1, none⟩) (Kd.R_far (p := ⟨bA, 0, none⟩) (Kd.R_types OA.out aA.out (by decide)) (fun _ hk => hk.2) (.int .i64 hB)) (fun _ hk => hk.2) (.int .i64 nB)) (fun _ hk => hk.2) (.int .i64 sB)) (fun _ hk => hk.2) (.int .i64 uB)) (fun _ hk => hk.2) (.int .i64 zB)) (fun _ hk => hk.2) (.int .i64 MC)) (fun _ hk => hk.2) (.int .i64 SC)) (fun _ hk => hk.2) (.int .i64 cD)) (fun _ hk => hk.2) (.int .i64 nE)) (fun _ hk => hk.2) (.bool rE)) (fun _ hk => ⟨hk.1.1, hk.1.2⟩)⟩, ⟨by (with_reducible repeat (first | apply Kd.R_alloc | apply Kd.R_drewN | apply Kd.R_drew)); exact Kd.R_mono (Kd.R_far (p := ⟨bA, 9, none⟩) (Kd.R_far (p := ⟨bA, 8, none⟩) (Kd.R_far (p := ⟨bA, 7, none⟩) (Kd.R_far (p := ⟨bA, 6, none⟩) (Kd.R_far (p := ⟨bA, 5, none⟩) (Kd.R_far (p := ⟨bA, 4, none⟩) (Kd.R_far (p := ⟨bA, 3, none⟩) (Kd.R_far (p := ⟨bA, 2, none⟩) (Kd.R_far (p := ⟨bA, 1, none⟩) (Kd.R_far (p := ⟨bA, 0, none⟩) (Kd.R_types zA.out aA.out (by decide)) (fun _ hk => hk.2) (.int .i64 hB)) (fun _ hk => hk.2) (.int .i64 nB)) (fun _ hk => hk.2) (.int .i64 sB)) (fun _ hk => hk.2) (.int .i64 uB)) (fun _ hk => hk.2) (.int .i64 zB)) (fun _ hk => hk.2) (.int .i64 MC)) (fun _ hk => hk.2) (.int .i64 SC)) (fun _ hk => hk.2) (.int .i64 cD)) (fun _ hk => hk.2) (.int .i64 nE)) (fun _ hk => hk.2) (.bool rE)) (fun _ hk => ⟨hk.1.1, hk.1.2⟩)⟩, ⟨by (with_reducible repeat (first | apply Kd.R_alloc | apply Kd.R_drewN | apply Kd.R_drew)); exact Kd.R_mono (Kd.R_far (p := ⟨bA, 9, none⟩) (Kd.R_far (p := ⟨bA, 8, none⟩) (Kd.R_far (p := ⟨bA, 7, none⟩) (Kd.R_far (p := ⟨bA, 6, none⟩) (Kd.R_far (p := ⟨bA, 5, none⟩) (Kd.R_far (p := ⟨bA, 4, none⟩) (Kd.R_far (p := ⟨bA, 3, none⟩) (Kd.R_far (p := ⟨bA, 2, none⟩) (Kd.R_far (p := ⟨bA, 1, none⟩) (Kd.R_far (p := ⟨bA, 0, none⟩) (Kd.R_types jA.out aA.out (by decide)) (fun _ hk => hk.2) (.int .i64 hB)) (fun _ hk => hk.2) (.int .i64 nB)) (fun _ hk => hk.2) (.int .i64 sB)) (fun _ hk => hk.2) (.int .i64 uB)) (fun _ hk => hk.2) (.int .i64 zB)) (fun _ hk => hk.2) (.int .i64 MC)) (fun _ hk => hk.2) (.int .i64 SC)) (fun _ hk => hk.2) (.int .i64 cD)) (fun _ hk => hk.2) (.int .i64 nE)) (fun _ hk => hk.2) (.bool rE)) (fun _ hk => ⟨hk.1.1, hk.1.2⟩)⟩, ⟨by (with_reducible repeat (first | refine blk_drewN ?_ _ | refine blk_drew ?_ | refine blk_alloc ?_ _)); refine blk_far ?_ pA.out _; (with_reducible repeat (first | refine blk_drewN ?_ _ | refine blk_drew ?_ | refine blk_alloc ?_ _)); refine blk_far ?_ pA.out _; (with_reducible repeat (first | refine blk_drewN ?_ _ | refine blk_drew ?_ | refine blk_alloc ?_ _)); refine blk_far ?_ pA.out _; (with_reducible repeat (first | refine blk_drewN ?_ _ | refine blk_drew ?_ | refine blk_alloc ?_ _)); refine blk_far ?_ pA.out _; (with_reducible repeat (first | refine blk_drewN ?_ _ | refine blk_drew ?_ | refine blk_alloc ?_ _)); refine blk_far ?_ pA.out _; (with_reducible repeat (first | refine blk_drewN ?_ _ | refine blk_drew ?_ | refine blk_alloc ?_ _)); refine blk_far ?_ pA.out _; (with_reducible repeat (first | refine blk_drewN ?_ _ | refine blk_drew ?_ | refine blk_alloc ?_ _)); refine blk_far ?_ pA.out _; (with_reducible repeat (first | refine blk_drewN ?_ _ | refine blk_drew ?_ | refine blk_alloc ?_ _)); refine blk_far ?_ pA.out _; (with_reducible repeat (first | refine blk_drewN ?_ _ | refine blk_drew ?_ | refine blk_alloc ?_ _)); refine blk_far ?_ pA.out _; (with_reducible repeat (first | refine blk_drewN ?_ _ | refine blk_drew ?_ | refine blk_alloc ?_ _)); refine blk_far ?_ pA.out _; (with_reducible repeat (first | refine blk_drewN ?_ _ | refine blk_drew ?_ | refine blk_alloc ?_ _)); exact wA.out⟩, ⟨by (with_reducible repeat (first | refine blk_drewN ?_ _ | refine blk_drew ?_ | refine blk_alloc ?_ _)); refine blk_far ?_ rA.out _; (with_reducible repeat (first | refine blk_drewN ?_ _ | refine blk_drew ?_ | refine blk_alloc ?_ _)); refine blk_far ?_ rA.out _; (with_reducible repeat (first | refine blk_drewN ?_ _ | refine blk_drew ?_ | refine blk_alloc ?_ _)); refine blk_far ?_ rA.out _; (with_reducible repeat (first | refine blk_drewN ?_ _ | refine blk_drew ?_ | refine blk_alloc ?_ _)); refine blk_far ?_ rA.out _; (with_reducible repeat (first | refine blk_drewN ?_ _ | refine blk_drew ?_ | refine blk_alloc ?_ _)); refine blk_far ?_ rA.out _; (with_reducible repeat (first | refine blk_drewN ?_ _ | refine blk_drew ?_ | refine blk_alloc ?_ _)); refine blk_far ?_ rA.out _; (with_reducible repeat (first | refine blk_drewN ?_ _ | refine blk_drew ?_ | refine blk_alloc ?_ _)); refine blk_far ?_ rA.out _; (with_reducible repeat (first | refine blk_drewN ?_ _ | refine blk_drew ?_ | refine blk_alloc ?_ _)); refine blk_far ?_ rA.out _; (with_reducible repeat (first | refine blk_drewN ?_ _ | refine blk_drew ?_ | refine blk_alloc ?_ _)); refine blk_far ?_ rA.out _; (with_reducible repeat (first | refine blk_drewN ?_ _ | refine blk_drew ?_ | refine blk_alloc ?_ _)); refine blk_far ?_ rA.out _; (with_reducible repeat (first | refine blk_drewN ?_ _ | refine blk_drew ?_ | refine blk_alloc ?_ _)); exact dA.out⟩, ⟨by (with_reducible repeat (first | refine blk_drewN ?_ _ | refine blk_drew ?_ | refine blk_alloc ?_ _)); refine blk_put (cs := #[.int .i64 hB, .int .i64 nB, .int .i64 sB, .int .i64 uB, .int .i64 zB, .int .i64 MC, .int .i64 SC, .int .i64 cD, .int .i64 nE, .bool false]) ?_ 9 _ rfl; (with_reducible repeat (first | refine blk_drewN ?_ _ | refine blk_drew ?_ | refine blk_alloc ?_ _)); refine blk_put (cs := #[.int .i64 hB, .int .i64 nB, .int .i64 sB, .int .i64 uB, .int .i64 zB, .int .i64 MC, .int .i64 SC, .int .i64 cD, .int .i64 0, .bool false]) ?_ 8 _ rfl; (with_reducible repeat (first | refine blk_drewN ?_ _ | refine blk_drew ?_ | refine blk_alloc ?_ _)); refine blk_put (cs := #[.int .i64 hB, .int .i64 nB, .int .i64 sB, .int .i64 uB, .int .i64 zB, .int .i64 MC, .int .i64 SC, .int .i64 0, .int .i64 0, .bool false]) ?_ 7 _ rfl; (with_reducible repeat (first | refine blk_drewN ?_ _ | refine blk_drew ?_ | refine blk_alloc ?_ _)); refine blk_put (cs := #[.int .i64 hB, .int .i64 nB, .int .i64 sB, .int .i64 uB, .int .i64 zB, .int .i64 MC, .int .i64 0, .int .i64 0, .int .i64 0, .bool false]) ?_ 6 _ rfl; (with_reducible repeat (first | refine blk_drewN ?_ _ | refine blk_drew ?_ | refine blk_alloc ?_ _)); refine blk_put (cs := #[.int .i64 hB, .int .i64 nB, .int .i64 sB, .int .i64 uB, .int .i64 zB, .int .i64 0, .int .i64 0, .int .i64 0, .int .i64 0, .bool false]) ?_ 5 _ rfl; (with_reducible repeat (first | refine blk_drewN ?_ _ | refine blk_drew ?_ | refine blk_alloc ?_ _)); refine blk_put (cs := #[.int .i64 hB, .int .i64 nB, .int .i64 sB, .int .i64 uB, .int .i64 0, .int .i64 0, .int .i64 0, .int .i64 0, .int .i64 0, .bool false]) ?_ 4 _ rfl; (with_reducible repeat (first | refine blk_drewN ?_ _ | refine blk_drew ?_ | refine blk_alloc ?_ _)); refine blk_put (cs := #[.int .i64 hB, .int .i64 nB, .int .i64 sB, .int .i64 0, .int .i64 0, .int .i64 0, .int .i64 0, .int .i64 0, .int .i64 0, .bool false]) ?_ 3 _ rfl; (with_reducible repeat (first | refine blk_drewN ?_ _ | refine blk_drew ?_ | refine blk_alloc ?_ _)); refine blk_put (cs := #[.int .i64 hB, .int .i64 nB, .int .i64 0, .int .i64 0, .int .i64 0, .int .i64 0, .int .i64 0, .int .i64 0, .int .i64 0, .bool false]) ?_ 2 _ rfl; (with_reducible repeat (first | refine blk_drewN ?_ _ | refine blk_drew ?_ | refine blk_alloc ?_ _)); refine blk_put (cs := #[.int .i64 hB, .int .i64 0, .int .i64 0, .int .i64 0, .int .i64 0, .int .i64 0, .int .i64 0, .int .i64 0, .int .i64 0, .bool false]) ?_ 1 _ rfl; (with_reducible repeat (first | refine blk_drewN ?_ _ | refine blk_drew ?_ | refine blk_alloc ?_ _)); refine blk_put (cs := #[.int .i64 0, .int .i64 0, .int .i64 0, .int .i64 0, .int .i64 0, .int .i64 0, .int .i64 0, .int .i64 0, .int .i64 0, .bool false]) ?_ 0 _ rfl; (with_reducible repeat (first | refine blk_drewN ?_ _ | refine blk_drew ?_ | refine blk_alloc ?_ _)); exact aA.out⟩, ⟨Z9b⟩⟩
           case round =>
            clear H'
            (try clear c1); (try clear c2); (try clear RE); (try clear SE); (try clear p2); (try clear c3); (try clear p3); (try clear q3); (try clear hx3); (try clear c4); (try clear p6); (try clear c10); (try clear c12); (try clear c14); (try clear lE); (try clear c15); (try clear vE); (try clear c16); (try clear wE); (try clear c19); (try clear c21); (try clear rB); (try clear mE); (try clear c22); (try clear c24); (try clear c26); (try clear c29); (try clear c33); (try clear c34); (try clear p34); (try clear q34); (try clear hx34); (try clear MB); (try clear NB); (try clear OB); (try clear PB); (try clear QB); (try clear RB); (try clear SB); (try clear TB); (try clear cC); (try clear dC); (try clear eC); (try clear fC); (try clear gC); (try clear hC); (try clear iC); (try clear jC); (try clear sC); (try clear tC); (try clear uC); (try clear vC); (try clear wC); (try clear xC); (try clear yC); (try clear zC); (try clear dD); (try clear eD); (try clear fD); (try clear gD); (try clear hD); (try clear iD); (try clear jD); (try clear kD); (try clear tD); (try clear uD); (try clear vD); (try clear wD); (try clear xD); (try clear yD); (try clear zD); (try clear AD); (try clear BD); (try clear CD); (try clear ND); (try clear OD); (try clear PD); (try clear QD); (try clear RD); (try clear SD); (try clear TD); (try clear UD); (try clear JC); (try clear UB); (try clear VB); (try clear WB); (try clear XB); (try clear YB); (try clear ZB); (try clear aC); (try clear bC); (try clear kC); (try clear lC); (try clear mC); (try clear nC); (try clear oC); (try clear pC); (try clear qC); (try clear rC); (try clear AC); (try clear BC); (try clear CC); (try clear DC); (try clear EC); (try clear FC); (try clear GC); (try clear HC); (try clear lD); (try clear mD); (try clear nD); (try clear oD); (try clear pD); (try clear qD); (try clear rD); (try clear sD); (try clear DD); (try clear ED); (try clear FD); (try clear GD); (try clear HD); (try clear ID); (try clear JD); (try clear KD); (try clear LD); (try clear MD); (try clear VD); (try clear WD); (try clear XD); (try clear YD); (try clear ZD); (try clear aE); (try clear bE); (try clear cE); (try clear KC); (try clear KB); (try clear p2); (try clear p3); (try clear p343); (try clear p6); (try clear q3); (try clear q343)
            obtain ⟨cB, hA, uA, tA, sA, qA, oA, mA, lA, gA, kA, iA, nA, rfl, HA, HK3, OA, zA, jA, wA, dA, aA, HB⟩ := hrel
            cases gk with
            | zero => exact absurd HA.out (by simp [laws_FnListOne.l1])
            | succ k3 =>
             have H := HA.out
             clear HA
             simp only [laws_FnListOne.l1] at H
             have HC37 := Aside0.mk H
             clear H
             go_upto_region 17 with (fail)
             go_cut [68] (fun v68 wc => ∃ (kq : Nat) (dE : Bool), v68 = .bool dE ∧ Aside0 (laws_FnListOne.j3 kq 12 SA (wrap64 (KA + NA)) cB eA (eA.length : Int) cA dE hA 0 (wrap64 (1 + (Int.tmod (rd eA cA) 3))) (wrap64 (Int.tdiv (rd eA cA) 3)) 1 0 0 0 0 uA tA sA qA oA mA lA gA kA iA = some true) ∧ Aside0 (kq ≤ k3) ∧ Aside0 (Kd.R (Kd.int .i64) 3 wc w.heap.size (fun k_ => some k_ ≠ ((.slice (some ad343) eA.length gB) : Value).ownBlock ∧ some k_ ≠ (nA : Value).ownBlock) u6 SA) ∧ Aside0 (Kd.R (Kd.int .i64) 3 wc w.heap.size (fun k_ => some k_ ≠ (u6 : Value).ownBlock ∧ some k_ ≠ (nA : Value).ownBlock) (.slice (some ad343) eA.length gB) eA) ∧ Aside0 (Kd.R (Kd.int .i64) 3 wc w.heap.size (fun k_ => some k_ ≠ (u6 : Value).ownBlock ∧ some k_ ≠ ((.slice (some ad343) eA.length gB) : Value).ownBlock) nA hA) ∧ Aside0 (wc.heap[xA]? = some (.cells #[nA] 29 (0, 0))) ∧ Aside0 (wc.heap[fA]? = some (.cells #[.int .i64 0, .int .i64 (wrap64 (1 + (Int.tmod (rd eA cA) 3))), .int .i64 (wrap64 (Int.tdiv (rd eA cA) 3)), .int .i64 1, .int .i64 0, .int .i64 0, .int .i64 0, .int .i64 0] 58 (0, 0))) ∧ Aside0 (wc.heap[bA]? = some (.cells #[.int .i64 uA, .int .i64 tA, .int .i64 sA, .int .i64 qA, .int .i64 oA, .int .i64 mA, .int .i64 lA, .int .i64 gA, .int .i64 kA, .bool iA] 23 (0, 0))) ∧ Aside0 (Below w.heap.size w wc))
             case first =>
              have H := HC37.out
              clear HC37
              by_cases c38 : cB < 60
              ·rw [if_pos c38] at H
               have NC : decide (cB < 60) = true := decide_eq_true c38
               clear c38
               (first | rw [NC] | (simp only [i64_w, i32_w]; rw [NC]) | skip)
               have H' := Aside0.mk H
               clear H
               have AI := LA.out
               have BI := pA.out
               have CI := QA.out
               have DI := rA.out
               have xE : wr.cell? ⟨bA, 0, none⟩ = some (.int .i64 uA) := (blk_cell aA.out 0).trans rfl
               have yE : wr.cell? ⟨bA, 1, none⟩ = some (.int .i64 tA) := (blk_cell aA.out 1).trans rfl
               have zE : wr.cell? ⟨bA, 2, none⟩ = some (.int .i64 sA) := (blk_cell aA.out 2).trans rfl
               have AE : wr.cell? ⟨bA, 3, none⟩ = some (.int .i64 qA) := (blk_cell aA.out 3).trans rfl
               have BE : wr.cell? ⟨bA, 4, none⟩ = some (.int .i64 oA) := (blk_cell aA.out 4).trans rfl
               have CE : wr.cell? ⟨bA, 5, none⟩ = some (.int .i64 mA) := (blk_cell aA.out 5).trans rfl
               have DE : wr.cell? ⟨bA, 6, none⟩ = some (.int .i64 lA) := (blk_cell aA.out 6).trans rfl
               have EE : wr.cell? ⟨bA, 7, none⟩ = some (.int .i64 gA) := (blk_cell aA.out 7).trans rfl
               have FE : wr.cell? ⟨bA, 8, none⟩ = some (.int .i64 kA) := (blk_cell aA.out 8).trans rfl
               have GE : wr.cell? ⟨bA, 9, none⟩ = some (.bool iA) := (blk_cell aA.out 9).trans rfl
               have HE := blk_frozen aA.out 0
               have IE := blk_frozen aA.out 1
               have JE := blk_frozen aA.out 2
               have KE := blk_frozen aA.out 3
               have LE := blk_frozen aA.out 4
               have ME := blk_frozen aA.out 5
               have NE := blk_frozen aA.out 6
               have OE := blk_frozen aA.out 7
               have PE := blk_frozen aA.out 8
               have QE := blk_frozen aA.out 9
               go_wp2
               go_meet
               case rel => exact ⟨_, (!iA), Z9c, H', ⟨by have := HK1.out; have := HJ16.out; have := HK3.out; first | omega | exact Nat.le_refl _⟩, ⟨Z9g⟩, ⟨Z9e⟩, ⟨Z9d⟩, ⟨Z9a⟩, ⟨Z9f⟩, ⟨Z9h⟩, ⟨Z9b⟩⟩
              ·rw [if_neg c38] at H
               have NC : decide (cB < 60) = false := decide_eq_false c38
               clear c38
               (first | rw [NC] | (simp only [i64_w, i32_w]; rw [NC]) | skip)
               have H' := Aside0.mk H
               clear H
               go_wp2
               go_meet
               case rel => exact ⟨_, (false), Z9c, H', ⟨by have := HK1.out; have := HJ16.out; have := HK3.out; first | omega | exact Nat.le_refl _⟩, ⟨Z9g⟩, ⟨Z9e⟩, ⟨Z9d⟩, ⟨Z9a⟩, ⟨Z9f⟩, ⟨Z9h⟩, ⟨Z9b⟩⟩
             case rest =>
              clear HC37
              (try clear c1); (try clear c2); (try clear RE); (try clear SE); (try clear p2); (try clear c3); (try clear p3); (try clear q3); (try clear hx3); (try clear c4); (try clear p6); (try clear c10); (try clear c12); (try clear c14); (try clear lE); (try clear c15); (try clear vE); (try clear c16); (try clear wE); (try clear c19); (try clear c21); (try clear rB); (try clear mE); (try clear c22); (try clear c24); (try clear c26); (try clear c29); (try clear c33); (try clear c34); (try clear p34); (try clear q34); (try clear hx34); (try clear c38); (try clear NC); (try clear c39); (try clear c40); (try clear MB); (try clear NB); (try clear OB); (try clear PB); (try clear QB); (try clear RB); (try clear SB); (try clear TB); (try clear cC); (try clear dC); (try clear eC); (try clear fC); (try clear gC); (try clear hC); (try clear iC); (try clear jC); (try clear sC); (try clear tC); (try clear uC); (try clear vC); (try clear wC); (try clear xC); (try clear yC); (try clear zC); (try clear dD); (try clear eD); (try clear fD); (try clear gD); (try clear hD); (try clear iD); (try clear jD); (try clear kD); (try clear tD); (try clear uD); (try clear vD); (try clear wD); (try clear xD); (try clear yD); (try clear zD); (try clear AD); (try clear BD); (try clear CD); (try clear ND); (try clear OD); (try clear PD); (try clear QD); (try clear RD); (try clear SD); (try clear TD); (try clear UD); (try clear xE); (try clear yE); (try clear zE); (try clear AE); (try clear BE); (try clear CE); (try clear DE); (try clear EE); (try clear FE); (try clear GE); (try clear JC); (try clear UB); (try clear VB); (try clear WB); (try clear XB); (try clear YB); (try clear ZB); (try clear aC); (try clear bC); (try clear kC); (try clear lC); (try clear mC); (try clear nC); (try clear oC); (try clear pC); (try clear qC); (try clear rC); (try clear AC); (try clear BC); (try clear CC); (try clear DC); (try clear EC); (try clear FC); (try clear GC); (try clear HC); (try clear lD); (try clear mD); (try clear nD); (try clear oD); (try clear pD); (try clear qD); (try clear rD); (try clear sD); (try clear DD); (try clear ED); (try clear FD); (try clear GD); (try clear HD); (try clear ID); (try clear JD); (try clear KD); (try clear LD); (try clear MD); (try clear VD); (try clear WD); (try clear XD); (try clear YD); (try clear ZD); (try clear aE); (try clear bE); (try clear cE); (try clear HE); (try clear IE); (try clear JE); (try clear KE); (try clear LE); (try clear ME); (try clear NE); (try clear OE); (try clear PE); (try clear QE); (try clear KC); (try clear KB); (try clear p2); (try clear p3); (try clear p34); (try clear p343); (try clear p6); (try clear q3); (try clear q34); (try clear q343)
              obtain ⟨kq, dE, rfl, HA, HJ36, OA, zA, jA, wA, dA, aA, HB⟩ := hcut
              cases kq with
              | zero => exact absurd HA.out (by simp [laws_FnListOne.j3])
              | succ kj36 =>
               have H := HA.out
               clear HA
               simp only [laws_FnListOne.j3] at H
               by_cases c42 : dE = true
               ·subst c42
                have H1 : ((impl_LiStep.f kj36 12 hA uA tA sA qA oA mA lA gA kA iA).bind fun FA => (if FA.2.2.2.2.2.2.2.2.2.2.2 = true then (laws_FnListOne.l1 kj36 12 SA (wrap64 (KA + NA)) (wrap64 (cB + 1)) eA (eA.length : Int) cA FA.1 0 (wrap64 (1 + (Int.tmod (rd eA cA) 3))) (wrap64 (Int.tdiv (rd eA cA) 3)) 1 0 0 0 0 FA.2.1 FA.2.2.1 FA.2.2.2.1 FA.2.2.2.2.1 FA.2.2.2.2.2.1 FA.2.2.2.2.2.2.1 FA.2.2.2.2.2.2.2.1 FA.2.2.2.2.2.2.2.2.1 FA.2.2.2.2.2.2.2.2.2.1 FA.2.2.2.2.2.2.2.2.2.2.1) else (some false))) = some true := by rw [if_pos rfl] at H; exact H
                clear H
                have H := H1
                clear H1
                replace H := Option.bind_eq_some_iff.mp H
                obtain ⟨⟨OC, YA, ZA, dB, iB, oB, tB, vB, AB, PC, TC, KH⟩, A430, H⟩ := H
                replace H : (if KH = true then (laws_FnListOne.l1 kj36 12 SA (wrap64 (KA + NA)) (wrap64 (cB + 1)) eA (eA.length : Int) cA OC 0 (wrap64 (1 + (Int.tmod (rd eA cA) 3))) (wrap64 (Int.tdiv (rd eA cA) 3)) 1 0 0 0 0 YA ZA dB iB oB tB vB AB PC TC) else (some false)) = some true := H
                have A43 := Aside0.mk A430
                clear A430
                by_cases c44 : KH = true
                ·subst c44
                 have H1 : (laws_FnListOne.l1 kj36 12 SA (wrap64 (KA + NA)) (wrap64 (cB + 1)) eA (eA.length : Int) cA OC 0 (wrap64 (1 + (Int.tmod (rd eA cA) 3))) (wrap64 (Int.tdiv (rd eA cA) 3)) 1 0 0 0 0 YA ZA dB iB oB tB vB AB PC TC) = some true := by rw [if_pos rfl] at H; exact H
                 clear H
                 have H := H1
                 clear H1
                 have H' := Aside0.mk H
                 clear H
                 have EI := yA.out
                 have FI := JA.out
                 have GI := pA.out
                 have HI := LA.out
                 have kF : wc.cell? ⟨xA, 0, none⟩ = some (nA) := (blk_cell wA.out 0).trans rfl
                 have lF := blk_frozen wA.out 0
                 have II := QA.out
                 have JI := rA.out
                 have mF : wc.cell? ⟨bA, 0, none⟩ = some (.int .i64 uA) := (blk_cell aA.out 0).trans rfl
                 have nF : wc.cell? ⟨bA, 1, none⟩ = some (.int .i64 tA) := (blk_cell aA.out 1).trans rfl
                 have oF : wc.cell? ⟨bA, 2, none⟩ = some (.int .i64 sA) := (blk_cell aA.out 2).trans rfl
                 have pF : wc.cell? ⟨bA, 3, none⟩ = some (.int .i64 qA) := (blk_cell aA.out 3).trans rfl
                 have qF : wc.cell? ⟨bA, 4, none⟩ = some (.int .i64 oA) := (blk_cell aA.out 4).trans rfl
                 have rF : wc.cell? ⟨bA, 5, none⟩ = some (.int .i64 mA) := (blk_cell aA.out 5).trans rfl
                 have sF : wc.cell? ⟨bA, 6, none⟩ = some (.int .i64 lA) := (blk_cell aA.out 6).trans rfl
                 have tF : wc.cell? ⟨bA, 7, none⟩ = some (.int .i64 gA) := (blk_cell aA.out 7).trans rfl
                 have uF : wc.cell? ⟨bA, 8, none⟩ = some (.int .i64 kA) := (blk_cell aA.out 8).trans rfl
                 have vF : wc.cell? ⟨bA, 9, none⟩ = some (.bool iA) := (blk_cell aA.out 9).trans rfl
                 have wF := blk_frozen aA.out 0
                 have xF := blk_frozen aA.out 1
                 have yF := blk_frozen aA.out 2
                 have zF := blk_frozen aA.out 3
                 have AF := blk_frozen aA.out 4
                 have BF := blk_frozen aA.out 5
                 have CF := blk_frozen aA.out 6
                 have DF := blk_frozen aA.out 7
                 have EF := blk_frozen aA.out 8
                 have FF := blk_frozen aA.out 9
                 obtain ⟨UC, VC, ZH⟩ := Kd.R_slice jA.out
                 subst ZH
                 go_wp2_with (first | ((with_reducible refine gate_callee (f := 26) rfl ?_); refine goesL_ (some 75) rfl rfl Try.func26 (by kernel_rfl) rfl #[.int .i64 12, .agg #[.slice UC hA.length VC], .agg #[.int .i64 uA, .int .i64 tA, .int .i64 sA, .int .i64 qA, .int .i64 oA, .int .i64 mA, .int .i64 lA, .int .i64 gA, .int .i64 kA, .bool iA]] rfl Z9j ?_; (with_reducible refine (impl_LiStep.calls kj36 12 _ _ hA uA tA sA qA oA mA lA gA kA iA OC YA ZA dB iB oB tB vB AB PC TC true _ ?side1 ?side2 A43.out).mono ?_); (case side1 => repeat (first | exact (Kd.R_reads' jA.out).2.2 | (with_reducible refine Kd.C_alloc ?_ _) | (with_reducible refine Kd.C_drewN ?_ _) | (with_reducible refine Kd.C_drew ?_))); (case side2 => exact (Kd.R_reads' jA.out).2.1); rintro e zJ ⟨sJ, rfl, ho0, hb⟩; refine ⟨_, rfl, ?_⟩; have aB := Aside0.mk (Kd.R_elder' Z9g (Kd.R_base ho0) hb); have bB := Aside0.mk (Kd.R_elder' Z9e (Kd.R_base ho0) hb); have lB := Aside0.mk (Kd.R_elder' Z9d (Kd.R_base ho0) hb); have mB := Aside0.mk (Kd.R_lower (Kd.R_new' (Kd.R_new' (Kd.R_new' ho0 (Kd.R_lt Z9g)) (Kd.R_lt Z9e)) (Kd.R_lt Z9d)) (below_size Z9b)); have qB := Aside0.mk (blk_below (g := xA) (o := .cells #[.slice UC hA.length VC] 29 (0, 0)) Z9a hb); have LC := Aside0.mk (blk_below (g := fA) (o := .cells #[.int .i64 0, .int .i64 (wrap64 (1 + (Int.tmod (rd eA cA) 3))), .int .i64 (wrap64 (Int.tdiv (rd eA cA) 3)), .int .i64 1, .int .i64 0, .int .i64 0, .int .i64 0, .int .i64 0] 58 (0, 0)) Z9f hb); have WC := Aside0.mk (blk_below (g := bA) (o := .cells #[.int .i64 uA, .int .i64 tA, .int .i64 sA, .int .i64 qA, .int .i64 oA, .int .i64 mA, .int .i64 lA, .int .i64 gA, .int .i64 kA, .bool iA] 23 (0, 0)) Z9h hb); have XC := Aside0.mk (below_step Z9b hb); clear OA; clear zA; clear jA; clear wA; clear dA; clear aA; clear HB; have OA := aB; have zA := bB; have jA := lB; have xB := mB; have wA := qB; have dA := LC; have aA := WC; have HB := XC; clear aB bB lB mB qB LC WC XC; (try clear hb); (try clear hb2); (try clear hk); (try clear hi); (try clear ho0)) | ((with_reducible refine gate_dst (N := 13) rfl ?_); refine box_event ?hg (N := 13) ?hd (cs := #[.slice none 0 0]) (t := 29) ?hr ?_; (case hd => rfl); (case hg => rfl); (case hr => first | (go_simp; done) | (go_simp; rfl)); intro MA hg AJ hbox hb; have aB := Aside0.mk (Kd.R_below Z9g hb); have bB := Aside0.mk (Kd.R_below Z9e hb); have lB := Aside0.mk (Kd.R_below Z9d hb); have mB := Aside0.mk (Kd.R_below (by (with_reducible repeat (first | apply Kd.R_alloc | apply Kd.R_drewN | apply Kd.R_drew)); exact xB.out) hb); have qB := Aside0.mk (blk_below (g := xA) (o := .cells #[.slice UC hA.length VC] 29 (0, 0)) Z9a hb); have LC := Aside0.mk (blk_below (g := fA) (o := .cells #[.int .i64 0, .int .i64 (wrap64 (1 + (Int.tmod (rd eA cA) 3))), .int .i64 (wrap64 (Int.tdiv (rd eA cA) 3)), .int .i64 1, .int .i64 0, .int .i64 0, .int .i64 0, .int .i64 0] 58 (0, 0)) Z9f hb); have WC := Aside0.mk (blk_below (g := bA) (o := .cells #[.int .i64 uA, .int .i64 tA, .int .i64 sA, .int .i64 qA, .int .i64 oA, .int .i64 mA, .int .i64 lA, .int .i64 gA, .int .i64 kA, .bool iA] 23 (0, 0)) Z9h hb); have XC := Aside0.mk (below_step Z9b hb); have cF := Aside0.mk (hbox); have dF := Aside0.mk ((by rw [hg]; exact (below_size Z9b) : w.heap.size ≤ MA)); have oE := Aside0.mk ((by rw [hg]; exact (below_size Z9b) : w.heap.size ≤ MA)); have pE := Aside0.mk ((by rw [hg]; exact Nat.ne_of_lt (blk_lt (g := xA) (o := .cells #[.slice UC hA.length VC] 29 (0, 0)) Z9a) : xA ≠ MA)); have qE := Aside0.mk ((by rw [hg]; exact Nat.ne_of_gt (blk_lt (g := xA) (o := .cells #[.slice UC hA.length VC] 29 (0, 0)) Z9a) : MA ≠ xA)); have eF := Aside0.mk ((Z9p : fA ≠ MA)); have fF := Aside0.mk ((Z9r : MA ≠ fA)); have gF := Aside0.mk ((Z9v : bA ≠ MA)); have hF := Aside0.mk ((Z9u : MA ≠ bA)); clear OA; clear zA; clear jA; clear xB; clear wA; clear dA; clear aA; clear HB; have OA := aB; have zA := bB; have jA := lB; have xB := mB; have wA := qB; have dA := LC; have aA := WC; have HB := XC; have wB := cF; have KI := dF; have DH := oE; have YC := pE; have TE := qE; have ZC := eF; have UE := fF; have aD := gF; have VE := hF; clear aB bB lB mB qB LC WC XC cF dF oE pE qE eF fF gF hF; clear hb hbox hg) | ((with_reducible refine gate_dst (N := 14) rfl ?_); refine box_event ?hg (N := 14) ?hd (cs := #[.int .i64 0, .int .i64 0, .int .i64 0, .int .i64 0, .int .i64 0, .int .i64 0, .int .i64 0, .int .i64 0, .int .i64 0, .bool false]) (t := 23) ?hr ?_; (case hd => rfl); (case hg => rfl); (case hr => first | (go_simp; done) | (go_simp; rfl)); intro vA hg QC hbox hb; have aB := Aside0.mk (Kd.R_below Z9g hb); have bB := Aside0.mk (Kd.R_below Z9e hb); have lB := Aside0.mk (Kd.R_below Z9d hb); have mB := Aside0.mk (Kd.R_below (by (with_reducible repeat (first | apply Kd.R_alloc | apply Kd.R_drewN | apply Kd.R_drew)); exact xB.out) hb); have qB := Aside0.mk (blk_below (g := xA) (o := .cells #[.slice UC hA.length VC] 29 (0, 0)) Z9a hb); have LC := Aside0.mk (blk_below (g := fA) (o := .cells #[.int .i64 0, .int .i64 (wrap64 (1 + (Int.tmod (rd eA cA) 3))), .int .i64 (wrap64 (Int.tdiv (rd eA cA) 3)), .int .i64 1, .int .i64 0, .int .i64 0, .int .i64 0, .int .i64 0] 58 (0, 0)) Z9f hb); have WC := Aside0.mk (blk_below (g := bA) (o := .cells #[.int .i64 uA, .int .i64 tA, .int .i64 sA, .int .i64 qA, .int .i64 oA, .int .i64 mA, .int .i64 lA, .int .i64 gA, .int .i64 kA, .bool iA] 23 (0, 0)) Z9h hb); have XC := Aside0.mk (blk_below (g := MA) (o := .cells #[.slice none 0 0] 29 (0, 0)) Z9o hb); have cF := Aside0.mk (below_step Z9m hb); have dF := Aside0.mk (hbox); have oE := Aside0.mk ((by rw [hg]; exact (below_size Z9m) : w.heap.size ≤ vA)); have pE := Aside0.mk ((by rw [hg]; exact (below_size Z9m) : w.heap.size ≤ vA)); have qE := Aside0.mk ((by rw [hg]; exact Nat.ne_of_lt (blk_lt (g := xA) (o := .cells #[.slice UC hA.length VC] 29 (0, 0)) Z9a) : xA ≠ vA)); have eF := Aside0.mk ((by rw [hg]; exact Nat.ne_of_gt (blk_lt (g := xA) (o := .cells #[.slice UC hA.length VC] 29 (0, 0)) Z9a) : vA ≠ xA)); have fF := Aside0.mk ((Z9p : fA ≠ vA)); have gF := Aside0.mk ((Z9r : vA ≠ fA)); have hF := Aside0.mk ((Z9v : bA ≠ vA)); have LH := Aside0.mk ((Z9u : vA ≠ bA)); have MH := Aside0.mk ((by rw [hg]; exact Nat.ne_of_lt (blk_lt (g := MA) (o := .cells #[.slice none 0 0] 29 (0, 0)) Z9o) : MA ≠ vA)); have NH := Aside0.mk ((by rw [hg]; exact Nat.ne_of_gt (blk_lt (g := MA) (o := .cells #[.slice none 0 0] 29 (0, 0)) Z9o) : vA ≠ MA)); clear OA; clear zA; clear jA; clear xB; clear wA; clear dA; clear aA; clear wB; clear HB; have OA := aB; have zA := bB; have jA := lB; have xB := mB; have wA := qB; have dA := LC; have aA := WC; have wB := XC; have HB := cF; have GA := dF; have LI := oE; have OH := pE; have CA := qE; have WE := eF; have DA := fF; have XE := gF; have EA := hF; have YE := LH; have ZE := MH; have aF := NH; clear aB bB lB mB qB LC WC XC cF dF oE pE qE eF fF gF hF LH MH NH; clear hb hbox hg; obtain ⟨sE, tE, aI⟩ := Kd.R_slice xB.out; subst aI; have MI := TE.out; have NI := YC.out; have OI := UE.out; have PI := ZC.out; have QI := VE.out; have RI := aD.out; have SI := ZE.out; have TI := aF.out; have GF : QC.cell? ⟨MA, 0, none⟩ = some (.slice none 0 0) := (blk_cell wB.out 0).trans rfl; have HF := blk_frozen wB.out 0; have UI := WE.out; have VI := CA.out; have WI := XE.out; have XI := DA.out; have YI := YE.out; have ZI := EA.out; have IF : QC.cell? ⟨vA, 0, none⟩ = some (.int .i64 0) := (blk_cell GA.out 0).trans rfl; have JF : QC.cell? ⟨vA, 1, none⟩ = some (.int .i64 0) := (blk_cell GA.out 1).trans rfl; have KF : QC.cell? ⟨vA, 2, none⟩ = some (.int .i64 0) := (blk_cell GA.out 2).trans rfl; have LF : QC.cell? ⟨vA, 3, none⟩ = some (.int .i64 0) := (blk_cell GA.out 3).trans rfl; have MF : QC.cell? ⟨vA, 4, none⟩ = some (.int .i64 0) := (blk_cell GA.out 4).trans rfl; have NF : QC.cell? ⟨vA, 5, none⟩ = some (.int .i64 0) := (blk_cell GA.out 5).trans rfl; have OF : QC.cell? ⟨vA, 6, none⟩ = some (.int .i64 0) := (blk_cell GA.out 6).trans rfl; have PF : QC.cell? ⟨vA, 7, none⟩ = some (.int .i64 0) := (blk_cell GA.out 7).trans rfl; have QF : QC.cell? ⟨vA, 8, none⟩ = some (.int .i64 0) := (blk_cell GA.out 8).trans rfl; have RF : QC.cell? ⟨vA, 9, none⟩ = some (.bool false) := (blk_cell GA.out 9).trans rfl; have SF := blk_frozen GA.out 0; have TF := blk_frozen GA.out 1; have UF := blk_frozen GA.out 2; have VF := blk_frozen GA.out 3; have WF := blk_frozen GA.out 4; have XF := blk_frozen GA.out 5; have YF := blk_frozen GA.out 6; have ZF := blk_frozen GA.out 7; have aG := blk_frozen GA.out 8; have bG := blk_frozen GA.out 9; have cG : QC.cell? ⟨xA, 0, none⟩ = some (.slice UC hA.length VC) := (blk_cell wA.out 0).trans rfl; have dG := blk_frozen wA.out 0; have eG : QC.cell? ⟨bA, 0, none⟩ = some (.int .i64 uA) := (blk_cell aA.out 0).trans rfl; have fG : QC.cell? ⟨bA, 1, none⟩ = some (.int .i64 tA) := (blk_cell aA.out 1).trans rfl; have gG : QC.cell? ⟨bA, 2, none⟩ = some (.int .i64 sA) := (blk_cell aA.out 2).trans rfl; have hG : QC.cell? ⟨bA, 3, none⟩ = some (.int .i64 qA) := (blk_cell aA.out 3).trans rfl; have iG : QC.cell? ⟨bA, 4, none⟩ = some (.int .i64 oA) := (blk_cell aA.out 4).trans rfl; have jG : QC.cell? ⟨bA, 5, none⟩ = some (.int .i64 mA) := (blk_cell aA.out 5).trans rfl; have kG : QC.cell? ⟨bA, 6, none⟩ = some (.int .i64 lA) := (blk_cell aA.out 6).trans rfl; have lG : QC.cell? ⟨bA, 7, none⟩ = some (.int .i64 gA) := (blk_cell aA.out 7).trans rfl; have mG : QC.cell? ⟨bA, 8, none⟩ = some (.int .i64 kA) := (blk_cell aA.out 8).trans rfl; have nG : QC.cell? ⟨bA, 9, none⟩ = some (.bool iA) := (blk_cell aA.out 9).trans rfl; have oG := blk_frozen aA.out 0; have pG := blk_frozen aA.out 1; have qG := blk_frozen aA.out 2; have rG := blk_frozen aA.out 3; have sG := blk_frozen aA.out 4; have tG := blk_frozen aA.out 5; have uG := blk_frozen aA.out 6; have vG := blk_frozen aA.out 7; have wG := blk_frozen aA.out 8; have xG := blk_frozen aA.out 9))
                 go_roundg kj36
                 case measure => have := HK1.out; have := HJ16.out; have := HK3.out; have := HJ36.out; omega
                 case rel => exact ⟨(wrap64 (cB + 1)), (OC), (YA), (ZA), (dB), (iB), (oB), (tB), (vB), (AB), (PC), (TC), (.slice sE OC.length tE), Z9c, H', ⟨by have := HK1.out; have := HJ16.out; have := HK3.out; have := HJ36.out; omega⟩, ⟨by (with_reducible repeat (first | apply Kd.R_alloc | apply Kd.R_drewN | apply Kd.R_drew)); exact Kd.R_mono (Kd.R_far (p := ⟨bA, 9, none⟩) (Kd.R_far (p := ⟨bA, 8, none⟩) (Kd.R_far (p := ⟨bA, 7, none⟩) (Kd.R_far (p := ⟨bA, 6, none⟩) (Kd.R_far (p := ⟨bA, 5, none⟩) (Kd.R_far (p := ⟨bA, 4, none⟩) (Kd.R_far (p := ⟨bA, 3, none⟩) (Kd.R_far (p := ⟨bA, 2, none⟩) (Kd.R_far (p := ⟨bA, 1, none⟩) (Kd.R_far (p := ⟨bA, 0, none⟩) (Kd.R_far (p := ⟨xA, 0, none⟩) (Kd.R_far (p := ⟨vA, 9, none⟩) (Kd.R_far (p := ⟨vA, 8, none⟩) (Kd.R_far (p := ⟨vA, 7, none⟩) (Kd.R_far (p := ⟨vA, 6, none⟩) (Kd.R_far (p := ⟨vA, 5, none⟩) (Kd.R_far (p := ⟨vA, 4, none⟩) (Kd.R_far (p := ⟨vA, 3, none⟩) (Kd.R_far (p := ⟨vA, 2, none⟩) (Kd.R_far (p := ⟨vA, 1, none⟩) (Kd.R_far (p := ⟨vA, 0, none⟩) (Kd.R_far (p := ⟨MA, 0, none⟩) (Kd.R_types (Kd.R_types (Kd.R_types (Kd.R_types OA.out wB.out (by decide)) GA.out (by decide)) wA.out (by decide)) aA.out (by decide)) (fun _ hk => hk.1.1.1.2) (.slice sE OC.length tE)) (fun _ hk => hk.1.1.2) (.int .i64 YA)) (fun _ hk => hk.1.1.2) (.int .i64 ZA)) (fun _ hk => hk.1.1.2) (.int .i64 dB)) (fun _ hk => hk.1.1.2) (.int .i64 iB)) (fun _ hk => hk.1.1.2) (.int .i64 oB)) (fun _ hk => hk.1.1.2) (.int .i64 tB)) (fun _ hk => hk.1.1.2) (.int .i64 vB)) (fun _ hk => hk.1.1.2) (.int .i64 AB)) (fun _ hk => hk.1.1.2) (.int .i64 PC)) (fun _ hk => hk.1.1.2) (.bool TC)) (fun _ hk => hk.1.2) (.slice sE OC.length tE)) (fun _ hk => hk.2) (.int .i64 YA)) (fun _ hk => hk.2) (.int .i64 ZA)) (fun _ hk => hk.2) (.int .i64 dB)) (fun _ hk => hk.2) (.int .i64 iB)) (fun _ hk => hk.2) (.int .i64 oB)) (fun _ hk => hk.2) (.int .i64 tB)) (fun _ hk => hk.2) (.int .i64 vB)) (fun _ hk => hk.2) (.int .i64 AB)) (fun _ hk => hk.2) (.int .i64 PC)) (fun _ hk => hk.2) (.bool TC)) (fun _ hk => ⟨hk.1.1.1.1.1.1, hk.1.1.1.1.2⟩)⟩, ⟨by (with_reducible repeat (first | apply Kd.R_alloc | apply Kd.R_drewN | apply Kd.R_drew)); exact Kd.R_mono (Kd.R_far (p := ⟨bA, 9, none⟩) (Kd.R_far (p := ⟨bA, 8, none⟩) (Kd.R_far (p := ⟨bA, 7, none⟩) (Kd.R_far (p := ⟨bA, 6, none⟩) (Kd.R_far (p := ⟨bA, 5, none⟩) (Kd.R_far (p := ⟨bA, 4, none⟩) (Kd.R_far (p := ⟨bA, 3, none⟩) (Kd.R_far (p := ⟨bA, 2, none⟩) (Kd.R_far (p := ⟨bA, 1, none⟩) (Kd.R_far (p := ⟨bA, 0, none⟩) (Kd.R_far (p := ⟨xA, 0, none⟩) (Kd.R_far (p := ⟨vA, 9, none⟩) (Kd.R_far (p := ⟨vA, 8, none⟩) (Kd.R_far (p := ⟨vA, 7, none⟩) (Kd.R_far (p := ⟨vA, 6, none⟩) (Kd.R_far (p := ⟨vA, 5, none⟩) (Kd.R_far (p := ⟨vA, 4, none⟩) (Kd.R_far (p := ⟨vA, 3, none⟩) (Kd.R_far (p := ⟨vA, 2, none⟩) (Kd.R_far (p := ⟨vA, 1, none⟩) (Kd.R_far (p := ⟨vA, 0, none⟩) (Kd.R_far (p := ⟨MA, 0, none⟩) (Kd.R_types (Kd.R_types (Kd.R_types (Kd.R_types zA.out wB.out (by decide)) GA.out (by decide)) wA.out (by decide)) aA.out (by decide)) (fun _ hk => hk.1.1.1.2) (.slice sE OC.length tE)) (fun _ hk => hk.1.1.2) (.int .i64 YA)) (fun _ hk => hk.1.1.2) (.int .i64 ZA)) (fun _ hk => hk.1.1.2) (.int .i64 dB)) (fun _ hk => hk.1.1.2) (.int .i64 iB)) (fun _ hk => hk.1.1.2) (.int .i64 oB)) (fun _ hk => hk.1.1.2) (.int .i64 tB)) (fun _ hk => hk.1.1.2) (.int .i64 vB)) (fun _ hk => hk.1.1.2) (.int .i64 AB)) (fun _ hk => hk.1.1.2) (.int .i64 PC)) (fun _ hk => hk.1.1.2) (.bool TC)) (fun _ hk => hk.1.2) (.slice sE OC.length tE)) (fun _ hk => hk.2) (.int .i64 YA)) (fun _ hk => hk.2) (.int .i64 ZA)) (fun _ hk => hk.2) (.int .i64 dB)) (fun _ hk => hk.2) (.int .i64 iB)) (fun _ hk => hk.2) (.int .i64 oB)) (fun _ hk => hk.2) (.int .i64 tB)) (fun _ hk => hk.2) (.int .i64 vB)) (fun _ hk => hk.2) (.int .i64 AB)) (fun _ hk => hk.2) (.int .i64 PC)) (fun _ hk => hk.2) (.bool TC)) (fun _ hk => ⟨hk.1.1.1.1.1.1, hk.1.1.1.1.2⟩)⟩, ⟨by (with_reducible repeat (first | apply Kd.R_alloc | apply Kd.R_drewN | apply Kd.R_drew)); exact Kd.R_mono (Kd.R_far (p := ⟨bA, 9, none⟩) (Kd.R_far (p := ⟨bA, 8, none⟩) (Kd.R_far (p := ⟨bA, 7, none⟩) (Kd.R_far (p := ⟨bA, 6, none⟩) (Kd.R_far (p := ⟨bA, 5, none⟩) (Kd.R_far (p := ⟨bA, 4, none⟩) (Kd.R_far (p := ⟨bA, 3, none⟩) (Kd.R_far (p := ⟨bA, 2, none⟩) (Kd.R_far (p := ⟨bA, 1, none⟩) (Kd.R_far (p := ⟨bA, 0, none⟩) (Kd.R_far (p := ⟨xA, 0, none⟩) (Kd.R_far (p := ⟨vA, 9, none⟩) (Kd.R_far (p := ⟨vA, 8, none⟩) (Kd.R_far (p := ⟨vA, 7, none⟩) (Kd.R_far (p := ⟨vA, 6, none⟩) (Kd.R_far (p := ⟨vA, 5, none⟩) (Kd.R_far (p := ⟨vA, 4, none⟩) (Kd.R_far (p := ⟨vA, 3, none⟩) (Kd.R_far (p := ⟨vA, 2, none⟩) (Kd.R_far (p := ⟨vA, 1, none⟩) (Kd.R_far (p := ⟨vA, 0, none⟩) (Kd.R_far (p := ⟨MA, 0, none⟩) (Kd.R_types (Kd.R_types (Kd.R_types (Kd.R_types xB.out wB.out (by decide)) GA.out (by decide)) wA.out (by decide)) aA.out (by decide)) (fun _ hk => hk.1.1.1.2) (.slice sE OC.length tE)) (fun _ hk => hk.1.1.2) (.int .i64 YA)) (fun _ hk => hk.1.1.2) (.int .i64 ZA)) (fun _ hk => hk.1.1.2) (.int .i64 dB)) (fun _ hk => hk.1.1.2) (.int .i64 iB)) (fun _ hk => hk.1.1.2) (.int .i64 oB)) (fun _ hk => hk.1.1.2) (.int .i64 tB)) (fun _ hk => hk.1.1.2) (.int .i64 vB)) (fun _ hk => hk.1.1.2) (.int .i64 AB)) (fun _ hk => hk.1.1.2) (.int .i64 PC)) (fun _ hk => hk.1.1.2) (.bool TC)) (fun _ hk => hk.1.2) (.slice sE OC.length tE)) (fun _ hk => hk.2) (.int .i64 YA)) (fun _ hk => hk.2) (.int .i64 ZA)) (fun _ hk => hk.2) (.int .i64 dB)) (fun _ hk => hk.2) (.int .i64 iB)) (fun _ hk => hk.2) (.int .i64 oB)) (fun _ hk => hk.2) (.int .i64 tB)) (fun _ hk => hk.2) (.int .i64 vB)) (fun _ hk => hk.2) (.int .i64 AB)) (fun _ hk => hk.2) (.int .i64 PC)) (fun _ hk => hk.2) (.bool TC)) (fun _ hk => ⟨hk.1.1.1.1.1.1.2, hk.1.1.1.1.1.2⟩)⟩, ⟨by (with_reducible repeat (first | refine blk_drewN ?_ _ | refine blk_drew ?_ | refine blk_alloc ?_ _)); refine blk_far ?_ pA.out _; (with_reducible repeat (first | refine blk_drewN ?_ _ | refine blk_drew ?_ | refine blk_alloc ?_ _)); refine blk_far ?_ pA.out _; (with_reducible repeat (first | refine blk_drewN ?_ _ | refine blk_drew ?_ | refine blk_alloc ?_ _)); refine blk_far ?_ pA.out _; (with_reducible repeat (first | refine blk_drewN ?_ _ | refine blk_drew ?_ | refine blk_alloc ?_ _)); refine blk_far ?_ pA.out _; (with_reducible repeat (first | refine blk_drewN ?_ _ | refine blk_drew ?_ | refine blk_alloc ?_ _)); refine blk_far ?_ pA.out _; (with_reducible repeat (first | refine blk_drewN ?_ _ | refine blk_drew ?_ | refine blk_alloc ?_ _)); refine blk_far ?_ pA.out _; (with_reducible repeat (first | refine blk_drewN ?_ _ | refine blk_drew ?_ | refine blk_alloc ?_ _)); refine blk_far ?_ pA.out _; (with_reducible repeat (first | refine blk_drewN ?_ _ | refine blk_drew ?_ | refine blk_alloc ?_ _)); refine blk_far ?_ pA.out _; (with_reducible repeat (first | refine blk_drewN ?_ _ | refine blk_drew ?_ | refine blk_alloc ?_ _)); refine blk_far ?_ pA.out _; (with_reducible repeat (first | refine blk_drewN ?_ _ | refine blk_drew ?_ | refine blk_alloc ?_ _)); refine blk_far ?_ pA.out _; (with_reducible repeat (first | refine blk_drewN ?_ _ | refine blk_drew ?_ | refine blk_alloc ?_ _)); refine blk_put (cs := #[.slice UC hA.length VC]) ?_ 0 _ rfl; (with_reducible repeat (first | refine blk_drewN ?_ _ | refine blk_drew ?_ | refine blk_alloc ?_ _)); refine blk_far ?_ CA.out _; (with_reducible repeat (first | refine blk_drewN ?_ _ | refine blk_drew ?_ | refine blk_alloc ?_ _)); refine blk_far ?_ CA.out _; (with_reducible repeat (first | refine blk_drewN ?_ _ | refine blk_drew ?_ | refine blk_alloc ?_ _)); refine blk_far ?_ CA.out _; (with_reducible repeat (first | refine blk_drewN ?_ _ | refine blk_drew ?_ | refine blk_alloc ?_ _)); refine blk_far ?_ CA.out _; (with_reducible repeat (first | refine blk_drewN ?_ _ | refine blk_drew ?_ | refine blk_alloc ?_ _)); refine blk_far ?_ CA.out _; (with_reducible repeat (first | refine blk_drewN ?_ _ | refine blk_drew ?_ | refine blk_alloc ?_ _)); refine blk_far ?_ CA.out _; (with_reducible repeat (first | refine blk_drewN ?_ _ | refine blk_drew ?_ | refine blk_alloc ?_ _)); refine blk_far ?_ CA.out _; (with_reducible repeat (first | refine blk_drewN ?_ _ | refine blk_drew ?_ | refine blk_alloc ?_ _)); refine blk_far ?_ CA.out _; (with_reducible repeat (first | refine blk_drewN ?_ _ | refine blk_drew ?_ | refine blk_alloc ?_ _)); refine blk_far ?_ CA.out _; (with_reducible repeat (first | refine blk_drewN ?_ _ | refine blk_drew ?_ | refine blk_alloc ?_ _)); refine blk_far ?_ CA.out _; (with_reducible repeat (first | refine blk_drewN ?_ _ | refine blk_drew ?_ | refine blk_alloc ?_ _)); refine blk_far ?_ YC.out _; (with_reducible repeat (first | refine blk_drewN ?_ _ | refine blk_drew ?_ | refine blk_alloc ?_ _)); exact wA.out⟩, ⟨by (with_reducible repeat (first | refine blk_drewN ?_ _ | refine blk_drew ?_ | refine blk_alloc ?_ _)); refine blk_far ?_ rA.out _; (with_reducible repeat (first | refine blk_drewN ?_ _ | refine blk_drew ?_ | refine blk_alloc ?_ _)); refine blk_far ?_ rA.out _; (with_reducible repeat (first | refine blk_drewN ?_ _ | refine blk_drew ?_ | refine blk_alloc ?_ _)); refine blk_far ?_ rA.out _; (with_reducible repeat (first | refine blk_drewN ?_ _ | refine blk_drew ?_ | refine blk_alloc ?_ _)); refine blk_far ?_ rA.out _; (with_reducible repeat (first | refine blk_drewN ?_ _ | refine blk_drew ?_ | refine blk_alloc ?_ _)); refine blk_far ?_ rA.out _; (with_reducible repeat (first | refine blk_drewN ?_ _ | refine blk_drew ?_ | refine blk_alloc ?_ _)); refine blk_far ?_ rA.out _; (with_reducible repeat (first | refine blk_drewN ?_ _ | refine blk_drew ?_ | refine blk_alloc ?_ _)); refine blk_far ?_ rA.out _; (with_reducible repeat (first | refine blk_drewN ?_ _ | refine blk_drew ?_ | refine blk_alloc ?_ _)); refine blk_far ?_ rA.out _; (with_reducible repeat (first | refine blk_drewN ?_ _ | refine blk_drew ?_ | refine blk_alloc ?_ _)); refine blk_far ?_ rA.out _; (with_reducible repeat (first | refine blk_drewN ?_ _ | refine blk_drew ?_ | refine blk_alloc ?_ _)); refine blk_far ?_ rA.out _; (with_reducible repeat (first | refine blk_drewN ?_ _ | refine blk_drew ?_ | refine blk_alloc ?_ _)); refine blk_far ?_ JA.out _; (with_reducible repeat (first | refine blk_drewN ?_ _ | refine blk_drew ?_ | refine blk_alloc ?_ _)); refine blk_far ?_ DA.out _; (with_reducible repeat (first | refine blk_drewN ?_ _ | refine blk_drew ?_ | refine blk_alloc ?_ _)); refine blk_far ?_ DA.out _; (with_reducible repeat (first | refine blk_drewN ?_ _ | refine blk_drew ?_ | refine blk_alloc ?_ _)); refine blk_far ?_ DA.out _; (with_reducible repeat (first | refine blk_drewN ?_ _ | refine blk_drew ?_ | refine blk_alloc ?_ _)); refine blk_far ?_ DA.out _; (with_reducible repeat (first | refine blk_drewN ?_ _ | refine blk_drew ?_ | refine blk_alloc ?_ _)); refine blk_far ?_ DA.out _; (with_reducible repeat (first | refine blk_drewN ?_ _ | refine blk_drew ?_ | refine blk_alloc ?_ _)); refine blk_far ?_ DA.out _; (with_reducible repeat (first | refine blk_drewN ?_ _ | refine blk_drew ?_ | refine blk_alloc ?_ _)); refine blk_far ?_ DA.out _; (with_reducible repeat (first | refine blk_drewN ?_ _ | refine blk_drew ?_ | refine blk_alloc ?_ _)); refine blk_far ?_ DA.out _; (with_reducible repeat (first | refine blk_drewN ?_ _ | refine blk_drew ?_ | refine blk_alloc ?_ _)); refine blk_far ?_ DA.out _; (with_reducible repeat (first | refine blk_drewN ?_ _ | refine blk_drew ?_ | refine blk_alloc ?_ _)); refine blk_far ?_ DA.out _; (with_reducible repeat (first | refine blk_drewN ?_ _ | refine blk_drew ?_ | refine blk_alloc ?_ _)); refine blk_far ?_ ZC.out _; (with_reducible repeat (first | refine blk_drewN ?_ _ | refine blk_drew ?_ | refine blk_alloc ?_ _)); exact dA.out⟩, ⟨by (with_reducible repeat (first | refine blk_drewN ?_ _ | refine blk_drew ?_ | refine blk_alloc ?_ _)); refine blk_put (cs := #[.int .i64 YA, .int .i64 ZA, .int .i64 dB, .int .i64 iB, .int .i64 oB, .int .i64 tB, .int .i64 vB, .int .i64 AB, .int .i64 PC, .bool iA]) ?_ 9 _ rfl; (with_reducible repeat (first | refine blk_drewN ?_ _ | refine blk_drew ?_ | refine blk_alloc ?_ _)); refine blk_put (cs := #[.int .i64 YA, .int .i64 ZA, .int .i64 dB, .int .i64 iB, .int .i64 oB, .int .i64 tB, .int .i64 vB, .int .i64 AB, .int .i64 kA, .bool iA]) ?_ 8 _ rfl; (with_reducible repeat (first | refine blk_drewN ?_ _ | refine blk_drew ?_ | refine blk_alloc ?_ _)); refine blk_put (cs := #[.int .i64 YA, .int .i64 ZA, .int .i64 dB, .int .i64 iB, .int .i64 oB, .int .i64 tB, .int .i64 vB, .int .i64 gA, .int .i64 kA, .bool iA]) ?_ 7 _ rfl; (with_reducible repeat (first | refine blk_drewN ?_ _ | refine blk_drew ?_ | refine blk_alloc ?_ _)); refine blk_put (cs := #[.int .i64 YA, .int .i64 ZA, .int .i64 dB, .int .i64 iB, .int .i64 oB, .int .i64 tB, .int .i64 lA, .int .i64 gA, .int .i64 kA, .bool iA]) ?_ 6 _ rfl; (with_reducible repeat (first | refine blk_drewN ?_ _ | refine blk_drew ?_ | refine blk_alloc ?_ _)); refine blk_put (cs := #[.int .i64 YA, .int .i64 ZA, .int .i64 dB, .int .i64 iB, .int .i64 oB, .int .i64 mA, .int .i64 lA, .int .i64 gA, .int .i64 kA, .bool iA]) ?_ 5 _ rfl; (with_reducible repeat (first | refine blk_drewN ?_ _ | refine blk_drew ?_ | refine blk_alloc ?_ _)); refine blk_put (cs := #[.int .i64 YA, .int .i64 ZA, .int .i64 dB, .int .i64 iB, .int .i64 oA, .int .i64 mA, .int .i64 lA, .int .i64 gA, .int .i64 kA, .bool iA]) ?_ 4 _ rfl; (with_reducible repeat (first | refine blk_drewN ?_ _ | refine blk_drew ?_ | refine blk_alloc ?_ _)); refine blk_put (cs := #[.int .i64 YA, .int .i64 ZA, .int .i64 dB, .int .i64 qA, .int .i64 oA, .int .i64 mA, .int .i64 lA, .int .i64 gA, .int .i64 kA, .bool iA]) ?_ 3 _ rfl; (with_reducible repeat (first | refine blk_drewN ?_ _ | refine blk_drew ?_ | refine blk_alloc ?_ _)); refine blk_put (cs := #[.int .i64 YA, .int .i64 ZA, .int .i64 sA, .int .i64 qA, .int .i64 oA, .int .i64 mA, .int .i64 lA, .int .i64 gA, .int .i64 kA, .bool iA]) ?_ 2 _ rfl; (with_reducible repeat (first | refine blk_drewN ?_ _ | refine blk_drew ?_ | refine blk_alloc ?_ _)); refine blk_put (cs := #[.int .i64 YA, .int .i64 tA, .int .i64 sA, .int .i64 qA, .int .i64 oA, .int .i64 mA, .int .i64 lA, .int .i64 gA, .int .i64 kA, .bool iA]) ?_ 1 _ rfl; (with_reducible repeat (first | refine blk_drewN ?_ _ | refine blk_drew ?_ | refine blk_alloc ?_ _)); refine blk_put (cs := #[.int .i64 uA, .int .i64 tA, .int .i64 sA, .int .i64 qA, .int .i64 oA, .int .i64 mA, .int .i64 lA, .int .i64 gA, .int .i64 kA, .bool iA]) ?_ 0 _ rfl; (with_reducible repeat (first | refine blk_drewN ?_ _ | refine blk_drew ?_ | refine blk_alloc ?_ _)); refine blk_far ?_ LA.out _; (with_reducible repeat (first | refine blk_drewN ?_ _ | refine blk_drew ?_ | refine blk_alloc ?_ _)); refine blk_far ?_ EA.out _; (with_reducible repeat (first | refine blk_drewN ?_ _ | refine blk_drew ?_ | refine blk_alloc ?_ _)); refine blk_far ?_ EA.out _; (with_reducible repeat (first | refine blk_drewN ?_ _ | refine blk_drew ?_ | refine blk_alloc ?_ _)); refine blk_far ?_ EA.out _; (with_reducible repeat (first | refine blk_drewN ?_ _ | refine blk_drew ?_ | refine blk_alloc ?_ _)); refine blk_far ?_ EA.out _; (with_reducible repeat (first | refine blk_drewN ?_ _ | refine blk_drew ?_ | refine blk_alloc ?_ _)); refine blk_far ?_ EA.out _; (with_reducible repeat (first | refine blk_drewN ?_ _ | refine blk_drew ?_ | refine blk_alloc ?_ _)); refine blk_far ?_ EA.out _; (with_reducible repeat (first | refine blk_drewN ?_ _ | refine blk_drew ?_ | refine blk_alloc ?_ _)); refine blk_far ?_ EA.out _; (with_reducible repeat (first | refine blk_drewN ?_ _ | refine blk_drew ?_ | refine blk_alloc ?_ _)); refine blk_far ?_ EA.out _; (with_reducible repeat (first | refine blk_drewN ?_ _ | refine blk_drew ?_ | refine blk_alloc ?_ _)); refine blk_far ?_ EA.out _; (with_reducible repeat (first | refine blk_drewN ?_ _ | refine blk_drew ?_ | refine blk_alloc ?_ _)); refine blk_far ?_ EA.out _; (with_reducible repeat (first | refine blk_drewN ?_ _ | refine blk_drew ?_ | refine blk_alloc ?_ _)); refine blk_far ?_ aD.out _; (with_reducible repeat (first | refine blk_drewN ?_ _ | refine blk_drew ?_ | refine blk_alloc ?_ _)); exact aA.out⟩, ⟨by repeat (first | (with_reducible first | exact HB.out | apply below_alloc | apply pw_below_drewN | apply below_drew1 | refine below_set ?_ gE.out | refine below_set ?_ uE.out | refine below_set ?_ bF.out | refine below_set ?_ DH.out | refine below_set ?_ OH.out) | exact HB.out)⟩⟩
                ·replace c44 := Bool.eq_false_iff.mpr c44
                 subst c44
                 have H1 : (some false) = some true := by rw [if_neg (show ¬ (false = true) by decide)] at H; exact H
                 clear H
                 have H := H1
                 clear H1
                 exact absurd H (by simp)
               ·replace c42 := Bool.eq_false_iff.mpr c42
                subst c42
                have H1 : ((impl_LiApply.f SA 0 (wrap64 (1 + (Int.tmod (rd eA cA) 3))) (wrap64 (Int.tdiv (rd eA cA) 3)) gA 0 0 0 0).bind fun IC => (if iA = true then (laws_FnListOne.j4 kj36 12 (wrap64 (KA + NA)) IC.1 eA (eA.length : Int) cA (!IC.2) hA) else (laws_FnListOne.j4 kj36 12 (wrap64 (KA + NA)) IC.1 eA (eA.length : Int) cA true hA))) = some true := by rw [if_neg (show ¬ (false = true) by decide)] at H; exact H
                clear H
                have H := H1
                clear H1
                replace H := Option.bind_eq_some_iff.mp H
                obtain ⟨⟨jB, yG⟩, A660, H⟩ := H
                replace H : (if iA = true then (laws_FnListOne.j4 kj36 12 (wrap64 (KA + NA)) jB eA (eA.length : Int) cA (!yG) hA) else (laws_FnListOne.j4 kj36 12 (wrap64 (KA + NA)) jB eA (eA.length : Int) cA true hA)) = some true := H
                have A66 := Aside0.mk A660
                clear A660
                have HC67 := Aside0.mk H
                clear H
                have aJ := LA.out
                have bJ := pA.out
                have cJ := QA.out
                have dJ := rA.out
                have zG : wc.cell? ⟨bA, 0, none⟩ = some (.int .i64 uA) := (blk_cell aA.out 0).trans rfl
                have AG : wc.cell? ⟨bA, 1, none⟩ = some (.int .i64 tA) := (blk_cell aA.out 1).trans rfl
                have BG : wc.cell? ⟨bA, 2, none⟩ = some (.int .i64 sA) := (blk_cell aA.out 2).trans rfl
                have CG : wc.cell? ⟨bA, 3, none⟩ = some (.int .i64 qA) := (blk_cell aA.out 3).trans rfl
                have DG : wc.cell? ⟨bA, 4, none⟩ = some (.int .i64 oA) := (blk_cell aA.out 4).trans rfl
                have EG : wc.cell? ⟨bA, 5, none⟩ = some (.int .i64 mA) := (blk_cell aA.out 5).trans rfl
                have FG : wc.cell? ⟨bA, 6, none⟩ = some (.int .i64 lA) := (blk_cell aA.out 6).trans rfl
                have GG : wc.cell? ⟨bA, 7, none⟩ = some (.int .i64 gA) := (blk_cell aA.out 7).trans rfl
                have HG : wc.cell? ⟨bA, 8, none⟩ = some (.int .i64 kA) := (blk_cell aA.out 8).trans rfl
                have IG : wc.cell? ⟨bA, 9, none⟩ = some (.bool iA) := (blk_cell aA.out 9).trans rfl
                have JG := blk_frozen aA.out 0
                have KG := blk_frozen aA.out 1
                have LG := blk_frozen aA.out 2
                have MG := blk_frozen aA.out 3
                have NG := blk_frozen aA.out 4
                have OG := blk_frozen aA.out 5
                have PG := blk_frozen aA.out 6
                have QG := blk_frozen aA.out 7
                have RG := blk_frozen aA.out 8
                have SG := blk_frozen aA.out 9
                have eJ := JA.out
                have fJ := yA.out
                have TG : wc.cell? ⟨fA, 0, none⟩ = some (.int .i64 0) := (blk_cell dA.out 0).trans rfl
                have UG : wc.cell? ⟨fA, 1, none⟩ = some (.int .i64 (wrap64 (1 + (Int.tmod (rd eA cA) 3)))) := (blk_cell dA.out 1).trans rfl
                have VG : wc.cell? ⟨fA, 2, none⟩ = some (.int .i64 (wrap64 (Int.tdiv (rd eA cA) 3))) := (blk_cell dA.out 2).trans rfl
                have WG : wc.cell? ⟨fA, 3, none⟩ = some (.int .i64 1) := (blk_cell dA.out 3).trans rfl
                have XG : wc.cell? ⟨fA, 4, none⟩ = some (.int .i64 0) := (blk_cell dA.out 4).trans rfl
                have YG : wc.cell? ⟨fA, 5, none⟩ = some (.int .i64 0) := (blk_cell dA.out 5).trans rfl
                have ZG : wc.cell? ⟨fA, 6, none⟩ = some (.int .i64 0) := (blk_cell dA.out 6).trans rfl
                have aH : wc.cell? ⟨fA, 7, none⟩ = some (.int .i64 0) := (blk_cell dA.out 7).trans rfl
                have bH := blk_frozen dA.out 0
                have cH := blk_frozen dA.out 1
                have dH := blk_frozen dA.out 2
                have eH := blk_frozen dA.out 3
                have fH := blk_frozen dA.out 4
                have gH := blk_frozen dA.out 5
                have hH := blk_frozen dA.out 6
                have iH := blk_frozen dA.out 7
                obtain ⟨bI, PH, cI⟩ := Kd.R_slice OA.out
                subst cI
                go_upto_region 26 with (first | ((with_reducible refine gate_callee (f := 37) rfl ?_); refine goesL_ (some 89) rfl rfl Try.func37 (by kernel_rfl) rfl #[.slice bI SA.length PH, .agg #[.int .i64 0, .int .i64 (wrap64 (1 + (Int.tmod (rd eA cA) 3))), .int .i64 (wrap64 (Int.tdiv (rd eA cA) 3)), .int .i64 gA, .int .i64 0, .int .i64 0, .int .i64 0, .int .i64 0]] rfl Z9j ?_; (with_reducible refine (impl_LiApply.calls _ _ SA 0 (wrap64 (1 + (Int.tmod (rd eA cA) 3))) (wrap64 (Int.tdiv (rd eA cA) 3)) gA 0 0 0 0 jB yG _ ?side1 ?side2 A66.out).mono ?_); (case side1 => refine (Kd.R_reads' (e := 3) (base := w.heap.size) (ok := fun k_ => (some k_ ≠ (.slice (some ad343) eA.length gB : Value).ownBlock ∧ some k_ ≠ (nA : Value).ownBlock)) (n := SA.length) (c := PH) ?_).2.2; exact Z9q); (case side2 => exact (Kd.R_reads' OA.out).2.1); rintro e jF ⟨HH, rfl, ho0, hb⟩; refine ⟨_, rfl, ?_⟩; have aB := Aside0.mk (Kd.R_elder' Z9q (Kd.R_base ho0) hb); have bB := Aside0.mk (Kd.R_elder' Z9s (Kd.R_base ho0) hb); have lB := Aside0.mk (Kd.R_elder' Z9y (Kd.R_base ho0) hb); have mB := Aside0.mk (Kd.R_lower (Kd.R_new' (Kd.R_new' (Kd.R_new' ho0 (Kd.R_lt Z9q)) (Kd.R_lt Z9s)) (Kd.R_lt Z9y)) (below_size Z9b)); have qB := Aside0.mk (blk_below (g := xA) (o := .cells #[nA] 29 (0, 0)) (by (with_reducible repeat (first | refine blk_drewN ?_ _ | refine blk_drew ?_ | refine blk_alloc ?_ _)); refine blk_far ?_ yA.out _; (with_reducible repeat (first | refine blk_drewN ?_ _ | refine blk_drew ?_ | refine blk_alloc ?_ _)); exact wA.out) hb); have LC := Aside0.mk (blk_below (g := fA) (o := .cells #[.int .i64 0, .int .i64 (wrap64 (1 + (Int.tmod (rd eA cA) 3))), .int .i64 (wrap64 (Int.tdiv (rd eA cA) 3)), .int .i64 gA, .int .i64 0, .int .i64 0, .int .i64 0, .int .i64 0] 58 (0, 0)) (by (with_reducible repeat (first | refine blk_drewN ?_ _ | refine blk_drew ?_ | refine blk_alloc ?_ _)); refine blk_put (cs := #[.int .i64 0, .int .i64 (wrap64 (1 + (Int.tmod (rd eA cA) 3))), .int .i64 (wrap64 (Int.tdiv (rd eA cA) 3)), .int .i64 1, .int .i64 0, .int .i64 0, .int .i64 0, .int .i64 0]) ?_ 3 _ rfl; (with_reducible repeat (first | refine blk_drewN ?_ _ | refine blk_drew ?_ | refine blk_alloc ?_ _)); exact dA.out) hb); have WC := Aside0.mk (blk_below (g := bA) (o := .cells #[.int .i64 uA, .int .i64 tA, .int .i64 sA, .int .i64 qA, .int .i64 oA, .int .i64 mA, .int .i64 lA, .int .i64 gA, .int .i64 kA, .bool iA] 23 (0, 0)) (by (with_reducible repeat (first | refine blk_drewN ?_ _ | refine blk_drew ?_ | refine blk_alloc ?_ _)); refine blk_far ?_ QA.out _; (with_reducible repeat (first | refine blk_drewN ?_ _ | refine blk_drew ?_ | refine blk_alloc ?_ _)); exact aA.out) hb); have XC := Aside0.mk (below_step Z9b hb); clear OA; clear zA; clear jA; clear wA; clear dA; clear aA; clear HB; have OA := aB; have zA := bB; have jA := lB; have QH := mB; have wA := qB; have dA := LC; have aA := WC; have HB := XC; clear aB bB lB mB qB LC WC XC; (try clear hb); (try clear hb2); (try clear hk); (try clear hi); (try clear ho0)))
                (try simp only [Act.put, List.setIfInBounds_toArray, List.set_cons_zero, List.set_cons_succ])
                go_cut [98] (fun v98 wc => ∃ (kq : Nat) (eE : Bool), v98 = .bool eE ∧ Aside0 (laws_FnListOne.j4 kq 12 (wrap64 (KA + NA)) jB eA (eA.length : Int) cA eE hA = some true) ∧ Aside0 (kq ≤ kj36) ∧ Aside0 (Kd.R (Kd.int .i64) 3 wc w.heap.size (fun k_ => some k_ ≠ ((.slice (some ad343) eA.length gB) : Value).ownBlock ∧ some k_ ≠ (nA : Value).ownBlock) HH jB) ∧ Aside0 (Kd.R (Kd.int .i64) 3 wc w.heap.size (fun k_ => some k_ ≠ (HH : Value).ownBlock ∧ some k_ ≠ (nA : Value).ownBlock) (.slice (some ad343) eA.length gB) eA) ∧ Aside0 (Kd.R (Kd.int .i64) 3 wc w.heap.size (fun k_ => some k_ ≠ (HH : Value).ownBlock ∧ some k_ ≠ ((.slice (some ad343) eA.length gB) : Value).ownBlock) nA hA) ∧ Aside0 (wc.heap[xA]? = some (.cells #[nA] 29 (0, 0))) ∧ Aside0 (wc.heap[fA]? = some (.cells #[.int .i64 0, .int .i64 (wrap64 (1 + (Int.tmod (rd eA cA) 3))), .int .i64 (wrap64 (Int.tdiv (rd eA cA) 3)), .int .i64 gA, .int .i64 0, .int .i64 0, .int .i64 0, .int .i64 0] 58 (0, 0))) ∧ Aside0 (wc.heap[bA]? = some (.cells #[.int .i64 uA, .int .i64 tA, .int .i64 sA, .int .i64 qA, .int .i64 oA, .int .i64 mA, .int .i64 lA, .int .i64 gA, .int .i64 kA, .bool iA] 23 (0, 0))) ∧ Aside0 (Below w.heap.size w wc))
                case first =>
                 have H := HC67.out
                 clear HC67
                 by_cases c75 : iA = true
                 ·subst c75
                  have H1 : (laws_FnListOne.j4 kj36 12 (wrap64 (KA + NA)) jB eA (eA.length : Int) cA (!yG) hA) = some true := by rw [if_pos rfl] at H; exact H
                  clear H
                  have H := H1
                  clear H1
                  have H' := Aside0.mk H
                  clear H
                  have gJ := LA.out
                  have hJ := pA.out
                  have iJ := QA.out
                  have jJ := rA.out
                  have jH : jF.cell? ⟨bA, 0, none⟩ = some (.int .i64 uA) := (blk_cell aA.out 0).trans rfl
                  have kH : jF.cell? ⟨bA, 1, none⟩ = some (.int .i64 tA) := (blk_cell aA.out 1).trans rfl
                  have lH : jF.cell? ⟨bA, 2, none⟩ = some (.int .i64 sA) := (blk_cell aA.out 2).trans rfl
                  have mH : jF.cell? ⟨bA, 3, none⟩ = some (.int .i64 qA) := (blk_cell aA.out 3).trans rfl
                  have nH : jF.cell? ⟨bA, 4, none⟩ = some (.int .i64 oA) := (blk_cell aA.out 4).trans rfl
                  have oH : jF.cell? ⟨bA, 5, none⟩ = some (.int .i64 mA) := (blk_cell aA.out 5).trans rfl
                  have pH : jF.cell? ⟨bA, 6, none⟩ = some (.int .i64 lA) := (blk_cell aA.out 6).trans rfl
                  have qH : jF.cell? ⟨bA, 7, none⟩ = some (.int .i64 gA) := (blk_cell aA.out 7).trans rfl
                  have rH : jF.cell? ⟨bA, 8, none⟩ = some (.int .i64 kA) := (blk_cell aA.out 8).trans rfl
                  have sH : jF.cell? ⟨bA, 9, none⟩ = some (.bool true) := (blk_cell aA.out 9).trans rfl
                  have tH := blk_frozen aA.out 0
                  have uH := blk_frozen aA.out 1
                  have vH := blk_frozen aA.out 2
                  have wH := blk_frozen aA.out 3
                  have xH := blk_frozen aA.out 4
                  have yH := blk_frozen aA.out 5
                  have zH := blk_frozen aA.out 6
                  have AH := blk_frozen aA.out 7
                  have BH := blk_frozen aA.out 8
                  have CH := blk_frozen aA.out 9
                  go_wp2
                  go_meet
                  case rel => exact ⟨_, (!yG), Z9c, H', ⟨by have := HK1.out; have := HJ16.out; have := HK3.out; have := HJ36.out; first | omega | exact Nat.le_refl _⟩, ⟨by (with_reducible repeat (first | apply Kd.R_alloc | apply Kd.R_drewN | apply Kd.R_drew)); exact Kd.R_mono QH.out (fun _ hk => ⟨hk.1.2, hk.2⟩)⟩, ⟨by (with_reducible repeat (first | apply Kd.R_alloc | apply Kd.R_drewN | apply Kd.R_drew)); exact Kd.R_mono zA.out (fun _ hk => ⟨hk.2, hk.1.2⟩)⟩, ⟨by (with_reducible repeat (first | apply Kd.R_alloc | apply Kd.R_drewN | apply Kd.R_drew)); exact Kd.R_mono jA.out (fun _ hk => ⟨hk.2, hk.1.2⟩)⟩, ⟨Z9a⟩, ⟨Z9f⟩, ⟨Z9h⟩, ⟨Z9b⟩⟩
                 ·replace c75 := Bool.eq_false_iff.mpr c75
                  subst c75
                  have H1 : (laws_FnListOne.j4 kj36 12 (wrap64 (KA + NA)) jB eA (eA.length : Int) cA true hA) = some true := by rw [if_neg (show ¬ (false = true) by decide)] at H; exact H
                  clear H
                  have H := H1
                  clear H1
                  exact absurd H (by rcases kj36 with _ | _ <;> simp [laws_FnListOne.j4])
                case rest =>
                 clear HC67
                 (try clear c1); (try clear c2); (try clear RE); (try clear SE); (try clear p2); (try clear c3); (try clear p3); (try clear q3); (try clear hx3); (try clear c4); (try clear c5); (try clear c6); (try clear p6); (try clear c7); (try clear c10); (try clear c12); (try clear c14); (try clear lE); (try clear c15); (try clear vE); (try clear c16); (try clear wE); (try clear c19); (try clear c21); (try clear rB); (try clear mE); (try clear c22); (try clear c24); (try clear c26); (try clear c29); (try clear c33); (try clear c34); (try clear p34); (try clear q34); (try clear hx34); (try clear c37); (try clear c38); (try clear NC); (try clear c39); (try clear c40); (try clear c42); (try clear c44); (try clear c45); (try clear c46); (try clear c48); (try clear c55); (try clear c56); (try clear c57); (try clear c58); (try clear c60); (try clear c61); (try clear c62); (try clear p64); (try clear c68); (try clear c69); (try clear c71); (try clear c75); (try clear c76); (try clear c77); (try clear MB); (try clear NB); (try clear OB); (try clear PB); (try clear QB); (try clear RB); (try clear SB); (try clear TB); (try clear cC); (try clear dC); (try clear eC); (try clear fC); (try clear gC); (try clear hC); (try clear iC); (try clear jC); (try clear sC); (try clear tC); (try clear uC); (try clear vC); (try clear wC); (try clear xC); (try clear yC); (try clear zC); (try clear dD); (try clear eD); (try clear fD); (try clear gD); (try clear hD); (try clear iD); (try clear jD); (try clear kD); (try clear tD); (try clear uD); (try clear vD); (try clear wD); (try clear xD); (try clear yD); (try clear zD); (try clear AD); (try clear BD); (try clear CD); (try clear ND); (try clear OD); (try clear PD); (try clear QD); (try clear RD); (try clear SD); (try clear TD); (try clear UD); (try clear xE); (try clear yE); (try clear zE); (try clear AE); (try clear BE); (try clear CE); (try clear DE); (try clear EE); (try clear FE); (try clear GE); (try clear kF); (try clear mF); (try clear nF); (try clear oF); (try clear pF); (try clear qF); (try clear rF); (try clear sF); (try clear tF); (try clear uF); (try clear vF); (try clear GF); (try clear IF); (try clear JF); (try clear KF); (try clear LF); (try clear MF); (try clear NF); (try clear OF); (try clear PF); (try clear QF); (try clear RF); (try clear cG); (try clear eG); (try clear fG); (try clear gG); (try clear hG); (try clear iG); (try clear jG); (try clear kG); (try clear lG); (try clear mG); (try clear nG); (try clear zG); (try clear AG); (try clear BG); (try clear CG); (try clear DG); (try clear EG); (try clear FG); (try clear GG); (try clear HG); (try clear IG); (try clear TG); (try clear UG); (try clear VG); (try clear WG); (try clear XG); (try clear YG); (try clear ZG); (try clear aH); (try clear jH); (try clear kH); (try clear lH); (try clear mH); (try clear nH); (try clear oH); (try clear pH); (try clear qH); (try clear rH); (try clear sH); (try clear JC); (try clear UB); (try clear VB); (try clear WB); (try clear XB); (try clear YB); (try clear ZB); (try clear aC); (try clear bC); (try clear kC); (try clear lC); (try clear mC); (try clear nC); (try clear oC); (try clear pC); (try clear qC); (try clear rC); (try clear AC); (try clear BC); (try clear CC); (try clear DC); (try clear EC); (try clear FC); (try clear GC); (try clear HC); (try clear lD); (try clear mD); (try clear nD); (try clear oD); (try clear pD); (try clear qD); (try clear rD); (try clear sD); (try clear DD); (try clear ED); (try clear FD); (try clear GD); (try clear HD); (try clear ID); (try clear JD); (try clear KD); (try clear LD); (try clear MD); (try clear VD); (try clear WD); (try clear XD); (try clear YD); (try clear ZD); (try clear aE); (try clear bE); (try clear cE); (try clear HE); (try clear IE); (try clear JE); (try clear KE); (try clear LE); (try clear ME); (try clear NE); (try clear OE); (try clear PE); (try clear QE); (try clear lF); (try clear wF); (try clear xF); (try clear yF); (try clear zF); (try clear AF); (try clear BF); (try clear CF); (try clear DF); (try clear EF); (try clear FF); (try clear HF); (try clear SF); (try clear TF); (try clear UF); (try clear VF); (try clear WF); (try clear XF); (try clear YF); (try clear ZF); (try clear aG); (try clear bG); (try clear dG); (try clear oG); (try clear pG); (try clear qG); (try clear rG); (try clear sG); (try clear tG); (try clear uG); (try clear vG); (try clear wG); (try clear xG); (try clear JG); (try clear KG); (try clear LG); (try clear MG); (try clear NG); (try clear OG); (try clear PG); (try clear QG); (try clear RG); (try clear SG); (try clear bH); (try clear cH); (try clear dH); (try clear eH); (try clear fH); (try clear gH); (try clear hH); (try clear iH); (try clear tH); (try clear uH); (try clear vH); (try clear wH); (try clear xH); (try clear yH); (try clear zH); (try clear AH); (try clear BH); (try clear CH); (try clear KC); (try clear KB); (try clear p2); (try clear p3); (try clear p34); (try clear p343); (try clear p6); (try clear q3); (try clear q34); (try clear q343)
                 obtain ⟨kq, eE, rfl, HA, HJ66, yB, zA, jA, wA, dA, aA, HB⟩ := hcut
                 cases kq with
                 | zero => exact absurd HA.out (by simp [laws_FnListOne.j4])
                 | succ kj66 =>
                  have H := HA.out
                  clear HA
                  simp only [laws_FnListOne.j4] at H
                  by_cases c79 : eE = true
                  ·subst c79
                   have H1 : (some false) = some true := by rw [if_pos rfl] at H; exact H
                   clear H
                   have H := H1
                   clear H1
                   exact absurd H (by simp)
                  ·replace c79 := Bool.eq_false_iff.mpr c79
                   subst c79
                   have H1 : ((impl_LiKeys.f 12 hA).bind fun hE => ((laws_sameInts.f kj66 hE jB).bind fun iE => (if iE = true then (laws_FnListOne.l0 kj66 12 jB (wrap64 (KA + NA)) eA (eA.length : Int) (wrap64 (cA + 1)) hA) else (some false)))) = some true := by rw [if_neg (show ¬ (false = true) by decide)] at H; exact H
                   clear H
                   have H := H1
                   clear H1
                   replace H := Option.bind_eq_some_iff.mp H
                   obtain ⟨hE, A800, H⟩ := H
                   replace H : ((laws_sameInts.f kj66 hE jB).bind fun iE => (if iE = true then (laws_FnListOne.l0 kj66 12 jB (wrap64 (KA + NA)) eA (eA.length : Int) (wrap64 (cA + 1)) hA) else (some false))) = some true := H
                   have A80 := Aside0.mk A800
                   clear A800
                   replace H := Option.bind_eq_some_iff.mp H
                   obtain ⟨iE, A810, H⟩ := H
                   replace H : (if iE = true then (laws_FnListOne.l0 kj66 12 jB (wrap64 (KA + NA)) eA (eA.length : Int) (wrap64 (cA + 1)) hA) else (some false)) = some true := H
                   have A81 := Aside0.mk A810
                   clear A810
                   by_cases c82 : iE = true
                   ·subst c82
                    have H1 : (laws_FnListOne.l0 kj66 12 jB (wrap64 (KA + NA)) eA (eA.length : Int) (wrap64 (cA + 1)) hA) = some true := by rw [if_pos rfl] at H; exact H
                    clear H
                    have H := H1
                    clear H1
                    have H' := Aside0.mk H
                    clear H
                    have kJ := yA.out
                    have lJ := JA.out
                    have mJ := pA.out
                    have nJ := LA.out
                    have TH : wc.cell? ⟨xA, 0, none⟩ = some (nA) := (blk_cell wA.out 0).trans rfl
                    have UH := blk_frozen wA.out 0
                    obtain ⟨IH, JH, dI⟩ := Kd.R_slice jA.out
                    subst dI
                    go_wp2_with (first | ((with_reducible refine gate_callee (f := 28) rfl ?_); refine goesL_ (some 102) rfl rfl Try.func28 (by kernel_rfl) rfl #[.int .i64 12, .agg #[.slice IH hA.length JH]] rfl Z9j ?_; (with_reducible refine (impl_LiKeys.calls 12 _ _ hA hE _ ?side1 ?side2 A80.out).mono ?_); (case side1 => repeat (first | exact (Kd.R_reads' jA.out).2.2 | (with_reducible refine Kd.C_alloc ?_ _) | (with_reducible refine Kd.C_drewN ?_ _) | (with_reducible refine Kd.C_drew ?_))); (case side2 => exact (Kd.R_reads' jA.out).2.1); rintro e BJ ⟨tJ, rfl, ho0, hb⟩; refine ⟨_, rfl, ?_⟩; have aB := Aside0.mk (Kd.R_elder' (by (with_reducible repeat (first | apply Kd.R_alloc | apply Kd.R_drewN | apply Kd.R_drew)); exact yB.out) (Kd.R_base ho0) hb); have bB := Aside0.mk (Kd.R_elder' Z9e (Kd.R_base ho0) hb); have lB := Aside0.mk (Kd.R_elder' Z9d (Kd.R_base ho0) hb); have mB := Aside0.mk (Kd.R_lower (Kd.R_new' (Kd.R_new' (Kd.R_new' ho0 (Kd.R_lt (by (with_reducible repeat (first | apply Kd.R_alloc | apply Kd.R_drewN | apply Kd.R_drew)); exact yB.out))) (Kd.R_lt Z9e)) (Kd.R_lt Z9d)) (below_size Z9b)); have qB := Aside0.mk (blk_below (g := xA) (o := .cells #[.slice IH hA.length JH] 29 (0, 0)) Z9a hb); have LC := Aside0.mk (blk_below (g := fA) (o := .cells #[.int .i64 0, .int .i64 (wrap64 (1 + (Int.tmod (rd eA cA) 3))), .int .i64 (wrap64 (Int.tdiv (rd eA cA) 3)), .int .i64 gA, .int .i64 0, .int .i64 0, .int .i64 0, .int .i64 0] 58 (0, 0)) Z9f hb); have WC := Aside0.mk (blk_below (g := bA) (o := .cells #[.int .i64 uA, .int .i64 tA, .int .i64 sA, .int .i64 qA, .int .i64 oA, .int .i64 mA, .int .i64 lA, .int .i64 gA, .int .i64 kA, .bool iA] 23 (0, 0)) Z9h hb); have XC := Aside0.mk (below_step Z9b hb); clear yB; clear zA; clear jA; clear wA; clear dA; clear aA; clear HB; have yB := aB; have zA := bB; have jA := lB; have iF := mB; have wA := qB; have dA := LC; have aA := WC; have HB := XC; clear aB bB lB mB qB LC WC XC; (try clear hb); (try clear hb2); (try clear hk); (try clear hi); (try clear ho0); obtain ⟨eI, fI, gI⟩ := Kd.R_slice iF.out; subst gI; obtain ⟨hI, iI, jI⟩ := Kd.R_slice yB.out; subst jI) | ((with_reducible refine gate_callee (f := 40) rfl ?_); refine goesL_ (some 104) rfl rfl Try.func40 (by kernel_rfl) rfl #[.slice eI hE.length fI, .slice hI jB.length iI] rfl Z9j ?_; (with_reducible refine (laws_sameInts.calls kj66 _ _ hE _ _ jB true _ ?side1 ?side2 ?side3 ?side4 A81.out).mono ?_); (case side1 => repeat (first | exact (Kd.R_reads' iF.out).2.2 | (with_reducible refine Kd.C_alloc ?_ _) | (with_reducible refine Kd.C_drewN ?_ _) | (with_reducible refine Kd.C_drew ?_))); (case side2 => exact (Kd.R_reads' iF.out).2.1); (case side3 => repeat (first | exact (Kd.R_reads' yB.out).2.2 | (with_reducible refine Kd.C_alloc ?_ _) | (with_reducible refine Kd.C_drewN ?_ _) | (with_reducible refine Kd.C_drew ?_))); (case side4 => exact (Kd.R_reads' yB.out).2.1); rintro e w' ⟨rfl, ⟨nd, rfl⟩⟩; refine ⟨_, rfl, ?_⟩))
                    go_roundg kj66
                    case measure => have := HK1.out; have := HJ16.out; have := HK3.out; have := HJ36.out; have := HJ66.out; omega
                    case rel => exact ⟨(jB), ((wrap64 (KA + NA))), (wrap64 (cA + 1)), (hA), (.slice IH hA.length JH), Z9c, Z9c, H', ⟨by have := HK1.out; have := HJ16.out; have := HK3.out; have := HJ36.out; have := HJ66.out; omega⟩, ⟨by (with_reducible repeat (first | apply Kd.R_alloc | apply Kd.R_drewN | apply Kd.R_drew)); exact Kd.R_mono yB.out (fun _ hk => ⟨hk.1.1, hk.1.2⟩)⟩, ⟨by (with_reducible repeat (first | apply Kd.R_alloc | apply Kd.R_drewN | apply Kd.R_drew)); exact Kd.R_mono zA.out (fun _ hk => ⟨hk.1.1, hk.1.2⟩)⟩, ⟨by (with_reducible repeat (first | apply Kd.R_alloc | apply Kd.R_drewN | apply Kd.R_drew)); exact Kd.R_mono jA.out (fun _ hk => ⟨hk.1.1, hk.1.2⟩)⟩, ⟨Z9a⟩, ⟨Z9b⟩⟩
                   ·replace c82 := Bool.eq_false_iff.mpr c82
                    subst c82
                    have H1 : (some false) = some true := by rw [if_neg (show ¬ (false = true) by decide)] at H; exact H
                    clear H
                    have H := H1
                    clear H1
                    exact absurd H (by simp)
       ·rw [if_neg c16] at H
        exact absurd H (by simp)
      ·rw [if_neg c15] at H
       exact absurd H (by simp)
     ·rw [if_neg c14] at H
      have lE : decide (cA < (eA.length : Int)) = false := decide_eq_false c14
      clear c14
      have HRET := Aside0.mk (Option.some.inj H)
      (try clear H)
      have VH : wr.cell? ⟨xA, 0, none⟩ = some (nA) := (blk_cell wA.out 0).trans rfl
      have WH := blk_frozen wA.out 0
      obtain ⟨uJ, vJ, kI⟩ := Kd.R_slice jA.out
      subst kI
      go_wp2
      go_ret
      exact ⟨by first | (have h_ := HRET.out; rw [show wrap64 (1 + wrap64 (2 * (12 : Int))) = 25 from by unfold wrap64; omega] at h_; have h2_ := beq_iff_eq.mp h_; first | (rw [h_]; done) | (simp [h2_]; done) | (simp; omega)) | rfl | (rw [HRET.out]; done) | (simp [HRET.out]; done) | (have h_ := HRET.out; simp_all; done) | (simp [errW_none, errW_some] <;> rfl) | (simp [*, errW_none, errW_some] <;> rfl), Z9i⟩
  ·replace c4 := Bool.eq_false_iff.mpr c4
   subst c4
   have H1 : (some false) = some true := by rw [if_neg (show ¬ (false = true) by decide)] at H; exact H
   clear H
   have H := H1
   clear H1
   exact absurd H (by simp)

/-- THE ONE PURE STATEMENT of laws_FnListOne: yours. -/
def laws_FnListOne.Pure : Prop := ∀ (l0 : List Int), l0.length ≤ maxLen → l0.length * 1 ≤ 140737488351232 → (∀ x ∈ l0, (Lit.int .u8 x).wf = true) → ∃ k, laws_FnListOne.f k l0 = some true
theorem laws_FnListOne.walk (P : laws_FnListOne.Pure) (a0 : Option Addr) (len0 cap0 : Nat) (z0 : List Int) (w : World) (w0 : (a0 = none ∧ len0 = 0 ∧ cap0 = 0 ∧ z0 = []) ∨ ∃ x, a0 = some x ∧ len0 ≤ cap0 ∧ cap0 ≤ maxLen ∧ z0.length = cap0 ∧ (∀ i, i < z0.length → w.cell? (x.add i) = some (.int .u8 (z0.getD i 0))) ∧ ∀ n ∈ z0, (Lit.int .u8 n).wf = true) (y0 : len0 * 1 ≤ 140737488351232) :
  Calls Try.prog 10 #[.slice a0 len0 cap0] w fun e w' => e = .returned (.bool true) ∧ Below w.heap.size w w' := by
 obtain ⟨l0, rfl, hr0, hm0, hw0, hc0⟩ := ReadsInt.ofRowC w0
 obtain ⟨k, h⟩ := P l0 hm0 y0 hw0
 refine (laws_FnListOne.calls k _ _ l0 true w (Kd.C_of_reads (d := (0 : Int)) (h1 := fun _ => rfl) hr0) hc0 h).mono ?_
 rintro e w' ⟨rfl, hd⟩
 exact ⟨rfl, hd⟩

end Go.Proofs.Ytjikobdblohphaa.PFnListOne
