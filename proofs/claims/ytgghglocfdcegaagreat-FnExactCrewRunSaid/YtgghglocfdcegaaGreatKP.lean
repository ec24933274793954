/- Part P of the proof of FnExactCrewStep and FnExactCrewRun (wip/xec, pack.py). No condition. -/
import Derived.Test.YtgghglocfdcegaaGreatKC
namespace Go.Proofs.YtgghglocfdcegaaGreat.PFnExactCrewRun
open Go.RowKit Go.Proofs.YtgghglocfdcegaaGreatW.PrintWords Go.Proofs.YtgghglocfdcegaaGreatW.PrintLast Go.Proofs.YtgghglocfdcegaaGreatW.PrintMore
attribute [local go_sem] max2_int min2_int max_two min_two max_three min_three max_four min_four
set_option linter.unusedVariables false
set_option linter.unusedSimpArgs false
theorem q1_0 {p : Prop} (h : p := by repeat (first | (with_reducible first | exact HB.out | apply below_alloc | apply pw_below_drewN | apply below_drew1) | exact HB.out)) : p := h
theorem q1_1 {p : Prop} (h : p := by (try simp only [List.map_toArray, List.map_cons, List.map_nil]); first | done | rfl | (simp only [List.length_drop, List.length_take]; rfl)) : p := h
theorem q1_2 {p : Prop} (h : p := by first | rfl | (simp [errW_none, errW_some] <;> rfl) | (simp [*, errW_none, errW_some] <;> rfl)) : p := h
theorem q1_3 {p : Prop} (h : p := by first | (with_reducible assumption) | assumption) : p := h
theorem q1_4 {p : Prop} (h : p := by repeat (first | (with_reducible first | exact HB.out | apply below_alloc | apply pw_below_drewN | apply below_drew1 | refine below_set ?_ yF.out) | exact HB.out)) : p := h
theorem q1_5 {p : Prop} (h : p := by repeat (first | (with_reducible first | exact HB.out | apply below_alloc | apply pw_below_drewN | apply below_drew1 | refine below_set ?_ PG.out | refine below_set ?_ uI.out | refine below_set ?_ VJ.out) | exact HB.out)) : p := h
theorem q1_6 {p : Prop} (h : p := by rw [hg]; exact (below_size q1_0)) : p := h
theorem q1_7 {p : Prop} (h : p := by repeat (first | (with_reducible first | exact HB.out | apply below_alloc | apply pw_below_drewN | apply below_drew1 | refine below_set ?_ QG.out) | exact HB.out)) : p := h
theorem q1_8 {p : Prop} (h : p := by repeat (first | (with_reducible first | exact HB.out | apply below_alloc | apply pw_below_drewN | apply below_drew1 | refine below_set ?_ vI.out) | exact HB.out)) : p := h
theorem q1_9 {p : Prop} (h : p := by repeat (first | (with_reducible first | exact HB.out | apply below_alloc | apply pw_below_drewN | apply below_drew1 | refine below_set ?_ zF.out) | exact HB.out)) : p := h
theorem q1_10 {p : Prop} (h : p := by (with_reducible repeat (first | refine blk_drewN ?_ _ | refine blk_drew ?_ | refine blk_alloc ?_ _)); exact DA.out) : p := h
theorem q1_11 {p : Prop} (h : p := by repeat (first | exact (Kd.C_below rD.out HB.out) | (with_reducible refine Kd.C_alloc ?_ _) | (with_reducible refine Kd.C_drewN ?_ _) | (with_reducible refine Kd.C_drew ?_))) : p := h
theorem q1_12 {p : Prop} (h : p := by repeat (first | (with_reducible first | exact HB.out | apply below_alloc | apply pw_below_drewN | apply below_drew1 | refine below_set ?_ RG.out | refine below_set ?_ wI.out | refine below_set ?_ WJ.out) | exact HB.out)) : p := h
theorem q1_13 {p : Prop} (h : p := by repeat (first | (with_reducible first | exact HB.out | apply below_alloc | apply pw_below_drewN | apply below_drew1 | refine below_set ?_ AF.out) | exact HB.out)) : p := h
theorem q1_14 {p : Prop} (h : p := by repeat (first | (with_reducible first | exact HB.out | apply below_alloc | apply pw_below_drewN | apply below_drew1 | refine below_set ?_ SG.out) | exact HB.out)) : p := h
theorem q1_15 {p : Prop} (h : p := by repeat (first | (with_reducible first | exact HB.out | apply below_alloc | apply pw_below_drewN | apply below_drew1 | refine below_set ?_ TG.out) | exact HB.out)) : p := h
theorem q1_16 {p : Prop} (h : p := by (with_reducible repeat (first | apply Kd.R_alloc | apply Kd.R_drewN | apply Kd.R_drew)); exact zA.out) : p := h
theorem q1_17 {p : Prop} (h : p := by first | rfl | (simp; done) | (simp [*]; done)) : p := h
theorem q1_18 {p : Prop} (h : p := by (with_reducible repeat (first | refine blk_drewN ?_ _ | refine blk_drew ?_ | refine blk_alloc ?_ _)); exact EA.out) : p := h
theorem q1_19 {p : Prop} (h : p := by (with_reducible repeat (first | refine blk_drewN ?_ _ | refine blk_drew ?_ | refine blk_alloc ?_ _)); exact dB.out) : p := h
theorem q1_20 {p : Prop} (h : p := by (with_reducible repeat (first | refine blk_drewN ?_ _ | refine blk_drew ?_ | refine blk_alloc ?_ _)); refine blk_put (cs := #[.slice none 0 0]) ?_ 0 _ rfl; (with_reducible repeat (first | refine blk_drewN ?_ _ | refine blk_drew ?_ | refine blk_alloc ?_ _)); exact XA.out) : p := h
theorem q1_21 {p : Prop} (h : p := by repeat (first | (with_reducible first | exact HB.out | apply below_alloc | apply pw_below_drewN | apply below_drew1 | refine below_set ?_ xI.out) | exact HB.out)) : p := h
theorem q1_22 {p : Prop} (h : p := by (with_reducible repeat (first | refine blk_drewN ?_ _ | refine blk_drew ?_ | refine blk_alloc ?_ _)); exact eB.out) : p := h
theorem q1_23 {p : Prop} (h : p := by repeat (first | (with_reducible first | exact HB.out | apply below_alloc | apply pw_below_drewN | apply below_drew1 | refine below_set ?_ yI.out | refine below_set ?_ XJ.out) | exact HB.out)) : p := h
theorem q1_24 {p : Prop} (h : p := by (with_reducible repeat (first | refine blk_drewN ?_ _ | refine blk_drew ?_ | refine blk_alloc ?_ _)); exact KC.out) : p := h
theorem q1_25 {p : Prop} (h : p := by (with_reducible repeat (first | refine blk_drewN ?_ _ | refine blk_drew ?_ | refine blk_alloc ?_ _)); exact yA.out) : p := h
theorem q1_26 {p : Prop} (h : p := by (with_reducible repeat (first | refine blk_drewN ?_ _ | refine blk_drew ?_ | refine blk_alloc ?_ _)); refine blk_far ?_ ZA.out _; (with_reducible repeat (first | refine blk_drewN ?_ _ | refine blk_drew ?_ | refine blk_alloc ?_ _)); refine blk_far ?_ ZA.out _; (with_reducible repeat (first | refine blk_drewN ?_ _ | refine blk_drew ?_ | refine blk_alloc ?_ _)); refine blk_far ?_ ZA.out _; (with_reducible repeat (first | refine blk_drewN ?_ _ | refine blk_drew ?_ | refine blk_alloc ?_ _)); refine blk_far ?_ ZA.out _; (with_reducible repeat (first | refine blk_drewN ?_ _ | refine blk_drew ?_ | refine blk_alloc ?_ _)); exact EA.out) : p := h
theorem q1_27 {p : Prop} (h : p := by (with_reducible repeat (first | refine blk_drewN ?_ _ | refine blk_drew ?_ | refine blk_alloc ?_ _)); refine blk_far ?_ rB.out _; (with_reducible repeat (first | refine blk_drewN ?_ _ | refine blk_drew ?_ | refine blk_alloc ?_ _)); refine blk_far ?_ rB.out _; (with_reducible repeat (first | refine blk_drewN ?_ _ | refine blk_drew ?_ | refine blk_alloc ?_ _)); refine blk_far ?_ rB.out _; (with_reducible repeat (first | refine blk_drewN ?_ _ | refine blk_drew ?_ | refine blk_alloc ?_ _)); refine blk_far ?_ rB.out _; (with_reducible repeat (first | refine blk_drewN ?_ _ | refine blk_drew ?_ | refine blk_alloc ?_ _)); exact dB.out) : p := h
theorem q1_28 {p : Prop} (h : p := by (with_reducible repeat (first | apply Kd.R_alloc | apply Kd.R_drewN | apply Kd.R_drew)); exact Kd.R_mono (Kd.R_far (p := ⟨FA, 3, none⟩) (Kd.R_far (p := ⟨FA, 2, none⟩) (Kd.R_far (p := ⟨FA, 1, none⟩) (Kd.R_far (p := ⟨FA, 0, none⟩) (Kd.R_types zA.out GA.out (by decide)) (fun _ hk => hk.2) (.slice uC ((rd_T52 aA gA).f0).length vC)) (fun _ hk => hk.2) (.int .i64 ((rd_T52 aA gA).f1))) (fun _ hk => hk.2) (.slice lD ((rd_T52 aA gA).f2).length mD)) (fun _ hk => hk.2) (.slice JD ((rd_T52 aA gA).f3).length KD)) (fun _ hk => trivial)) : p := h
theorem q1_29 {p : Prop} (h : p := by (with_reducible repeat (first | apply Kd.R_alloc | apply Kd.R_drewN | apply Kd.R_drew)); exact Kd.R_mono (Kd.R_far (p := ⟨fB, 3, none⟩) (Kd.R_far (p := ⟨fB, 2, none⟩) (Kd.R_far (p := ⟨fB, 1, none⟩) (Kd.R_far (p := ⟨fB, 0, none⟩) (Kd.R_types zA.out gB.out (by decide)) (fun _ hk => hk.2) (.slice bD ((rd_T52 aA gA).f0).length cD)) (fun _ hk => hk.2) (.int .i64 ((rd_T52 aA gA).f1))) (fun _ hk => hk.2) (.slice LD ((rd_T52 aA gA).f2).length MD)) (fun _ hk => hk.2) (.slice EE ((rd_T52 aA gA).f3).length FE)) (fun _ hk => trivial)) : p := h
theorem q1_30 {p : Prop} (h : p := by repeat (first | (with_reducible first | exact HB.out | apply below_alloc | apply pw_below_drewN | apply below_drew1 | refine below_set ?_ QG.out | refine below_set ?_ UG.out) | exact HB.out)) : p := h
theorem q1_31 {p : Prop} (h : p := by repeat (first | (with_reducible first | exact HB.out | apply below_alloc | apply pw_below_drewN | apply below_drew1 | refine below_set ?_ vI.out | refine below_set ?_ zI.out) | exact HB.out)) : p := h
theorem q1_32 {p : Prop} (h : p := by repeat (first | (with_reducible first | exact HB.out | apply below_alloc | apply pw_below_drewN | apply below_drew1 | refine below_set ?_ yF.out | refine below_set ?_ AI.out) | exact HB.out)) : p := h
theorem q1_33 {p : Prop} (h : p := by (with_reducible repeat (first | refine blk_drewN ?_ _ | refine blk_drew ?_ | refine blk_alloc ?_ _)); exact TA.out) : p := h
theorem q1_34 {p : Prop} (h : p := by (with_reducible repeat (first | refine blk_drewN ?_ _ | refine blk_drew ?_ | refine blk_alloc ?_ _)); exact uA.out) : p := h
theorem q1_35 {p : Prop} (h : p := by kernel_rfl) : p := h
theorem q1_36 {p : Prop} (h : p := by (with_reducible repeat (first | refine blk_drewN ?_ _ | refine blk_drew ?_ | refine blk_alloc ?_ _)); exact EC.out) : p := h
theorem q1_37 {p : Prop} (h : p := by (with_reducible repeat (first | refine blk_drewN ?_ _ | refine blk_drew ?_ | refine blk_alloc ?_ _)); exact kA.out) : p := h
theorem q1_38 {p : Prop} (h : p := by repeat (first | (with_reducible first | exact HB.out | apply below_alloc | apply pw_below_drewN | apply below_drew1 | refine below_set ?_ VG.out | refine below_set ?_ BI.out | refine below_set ?_ YJ.out) | exact HB.out)) : p := h
theorem q1_39 {p : Prop} (h : p := by first | exact Kd.R_nil _ _ _ _ _ | exact Kd.N_nil _ _ _ _ _ | exact Kd.V_nil _ _ _ _ _ | exact Kd.Q_nil _ _ _ _ _ | exact Kd.S_nil _ _ _ _ _) : p := h
theorem q1_40 {p : Prop} (h : p := by repeat (first | (with_reducible first | exact HB.out | apply below_alloc | apply pw_below_drewN | apply below_drew1 | refine below_set ?_ CI.out | refine below_set ?_ ZJ.out) | exact HB.out)) : p := h
theorem q1_41 {p : Prop} (h : p := by repeat (first | (with_reducible first | exact HB.out | apply below_alloc | apply pw_below_drewN | apply below_drew1 | refine below_set ?_ VG.out | refine below_set ?_ BI.out) | exact HB.out)) : p := h
theorem q1_42 {p : Prop} (h : p := by repeat (first | (with_reducible first | exact HB.out | apply below_alloc | apply pw_below_drewN | apply below_drew1 | refine below_set ?_ WG.out | refine below_set ?_ DI.out) | exact HB.out)) : p := h
theorem q1_43 {p : Prop} (h : p := by repeat (first | (with_reducible first | exact HB.out | apply below_alloc | apply pw_below_drewN | apply below_drew1 | refine below_set ?_ PG.out | refine below_set ?_ uI.out) | exact HB.out)) : p := h
theorem q1_44 {p : Prop} (h : p := by repeat (first | (with_reducible first | exact HB.out | apply below_alloc | apply pw_below_drewN | apply below_drew1 | refine below_set ?_ RG.out | refine below_set ?_ wI.out) | exact HB.out)) : p := h
theorem q1_45 {p : Prop} (h : p := by repeat (first | (with_reducible first | exact HB.out | apply below_alloc | apply pw_below_drewN | apply below_drew1 | refine below_set ?_ SG.out | refine below_set ?_ aK.out) | exact HB.out)) : p := h
theorem q1_46 {p : Prop} (h : p := by (with_reducible repeat (first | refine blk_drewN ?_ _ | refine blk_drew ?_ | refine blk_alloc ?_ _)); exact sD.out) : p := h
theorem q1_47 {p : Prop} (h : p := by (with_reducible repeat (first | refine blk_drewN ?_ _ | refine blk_drew ?_ | refine blk_alloc ?_ _)); exact LC.out) : p := h
theorem q1_48 {p : Prop} (h : p := by (with_reducible repeat (first | refine blk_drewN ?_ _ | refine blk_drew ?_ | refine blk_alloc ?_ _)); exact bB.out) : p := h
theorem q1_49 {p : Prop} (h : p := by repeat (first | exact (Kd.C_below tD.out HB.out) | (with_reducible refine Kd.C_alloc ?_ _) | (with_reducible refine Kd.C_drewN ?_ _) | (with_reducible refine Kd.C_drew ?_))) : p := h
theorem q1_50 {p : Prop} (h : p := by repeat (first | exact (Kd.C_below tD.out q1_13) | (with_reducible refine Kd.C_alloc ?_ _) | (with_reducible refine Kd.C_drewN ?_ _) | (with_reducible refine Kd.C_drew ?_))) : p := h
theorem q1_51 {p : Prop} (h : p := by repeat (first | (with_reducible first | exact HB.out | apply below_alloc | apply pw_below_drewN | apply below_drew1 | refine below_set ?_ yI.out) | exact HB.out)) : p := h
theorem q1_52 {p : Prop} (h : p := by repeat (first | (with_reducible first | exact HB.out | apply below_alloc | apply pw_below_drewN | apply below_drew1 | refine below_set ?_ CI.out) | exact HB.out)) : p := h
theorem q1_53 {p : Prop} (h : p := by repeat (first | (with_reducible first | exact HB.out | apply below_alloc | apply pw_below_drewN | apply below_drew1 | refine below_set ?_ VG.out) | exact HB.out)) : p := h
theorem q1_54 {p : Prop} (h : p := by repeat (first | (with_reducible first | exact HB.out | apply below_alloc | apply pw_below_drewN | apply below_drew1 | refine below_set ?_ WG.out) | exact HB.out)) : p := h
theorem q1_55 {p : Prop} (h : p := by repeat (first | (with_reducible first | exact HB.out | apply below_alloc | apply pw_below_drewN | apply below_drew1 | refine below_set ?_ PG.out) | exact HB.out)) : p := h
theorem q1_56 {p : Prop} (h : p := by repeat (first | (with_reducible first | exact HB.out | apply below_alloc | apply pw_below_drewN | apply below_drew1 | refine below_set ?_ RG.out) | exact HB.out)) : p := h
theorem q1_57 {p : Prop} (h : p := by decide) : p := h
theorem q1_58 {p : Prop} (h : p := by repeat (first | exact Drawn0.refl _ | apply Drawn0.step)) : p := h
theorem q1_59 {p : Prop} (h : p := by (with_reducible repeat (first | refine blk_drewN ?_ _ | refine blk_drew ?_ | refine blk_alloc ?_ _)); refine blk_put (cs := #[.slice none 0 0]) ?_ 0 _ rfl; (with_reducible repeat (first | refine blk_drewN ?_ _ | refine blk_drew ?_ | refine blk_alloc ?_ _)); exact DA.out) : p := h
def spec_l02Copy.f (hA : List Int) : Option (List Int) := (some (([] : List Int) : List Int)).bind fun y316 => (if y316.length + hA.length < 17592186044416 then (some (y316 ++ hA)) else (none))
set_option maxHeartbeats 8000000 in
set_option maxRecDepth 100000 in
theorem spec_l02Copy.calls (rA : Option Addr) (sA : Nat) (hA : List Int) (r : List Int) (w : World) (tB : Kd.C (Kd.int .i64) w rA hA.length hA) (yB : hA.length ≤ sA) (h : spec_l02Copy.f hA = some r) :
  Calls Tryz.prog 41 #[.agg #[.slice rA hA.length sA]] w fun e w' => ∃ v0_ : Value, e = .returned (.agg #[v0_]) ∧ Kd.R (Kd.int .i64) 3 w' w.heap.size (fun _ => True) v0_ r ∧ Below w.heap.size w w' := by
 have hu29 := Tryz.underlying29
 have rD := Aside0.mk tB
 clear tB yB
 have HB := Aside0.mk (Below.refl w.heap.size w)
 have H : ((some (([] : List Int) : List Int)).bind fun y316 => (if y316.length + hA.length < 17592186044416 then (some (y316 ++ hA)) else (none))) = some r := h
 clear h
 obtain ⟨y316, hy316⟩ : ∃ y_ : List Int, y_ = (([] : List Int)) := ⟨_, rfl⟩
 replace H : (if y316.length + hA.length < 17592186044416 then (some (y316 ++ hA)) else (none)) = some r := by first | (rw [hy316]; with_reducible exact H) | (have H2_ := (Option.bind_some _ _).symm.trans H; rw [hy316]; with_reducible exact H2_) | (have H2_ := (Option.bind_some _ _).symm.trans H; with_reducible exact H2_) | with_reducible exact H | (rw [hy316]; exact H) | exact H
 have Ny316 := Aside0.mk hy316
 clear hy316
 by_cases c2 : y316.length + hA.length < 17592186044416
 ·rw [if_pos c2] at H
  have LMc2 := Aside0.mk c2
  clear c2
  obtain ⟨y319, hy319⟩ : ∃ y_ : List Int, y_ = (y316 ++ hA) := ⟨_, rfl⟩
  replace H : (some y319) = some r := by first | (rw [hy319]; with_reducible exact H) | (have H2_ := (Option.bind_some _ _).symm.trans H; rw [hy319]; with_reducible exact H2_) | (have H2_ := (Option.bind_some _ _).symm.trans H; with_reducible exact H2_) | with_reducible exact H | (rw [hy319]; exact H) | exact H
  have Ny319 := Aside0.mk hy319
  clear hy319
  obtain rfl := Option.some.inj H
  go_enter Tryz.func41, Tryz.ntmps41
  go_wp2_with (first | ((with_reducible refine gate_dst (N := 1) rfl ?_); refine box_event ?hg (N := 1) ?hd (cs := #[.slice rA hA.length sA]) (t := 29) ?hr ?_; (case hd => rfl); (case hg => rfl); (case hr => first | (go_simp; done) | (go_simp; rfl)); intro FC hg w3 hbox hb; have eA := Aside0.mk (below_step q1_0 hb); have fA := Aside0.mk (hbox); have jA := Aside0.mk ((q1_6 : w.heap.size ≤ FC)); have pA := Aside0.mk ((q1_6 : w.heap.size ≤ FC)); clear HB; have HB := eA; have EC := fA; have zN := jA; have yI := pA; clear eA fA jA pA; clear hb hbox hg) | ((with_reducible refine gate_dst (N := 2) rfl ?_); refine box_event ?hg (N := 2) ?hd (cs := #[.slice none 0 0]) (t := 29) ?hr ?_; (case hd => rfl); (case hg => rfl); (case hr => first | (go_simp; done) | (go_simp; rfl)); intro MC hg w4 hbox hb; have eA := Aside0.mk (blk_below (g := FC) (o := .cells #[.slice rA hA.length sA] 29 (0, 0)) q1_36 hb); have fA := Aside0.mk (below_step q1_51 hb); have jA := Aside0.mk (hbox); have pA := Aside0.mk ((by rw [hg]; exact (below_size q1_51) : w.heap.size ≤ MC)); have cB := Aside0.mk ((by rw [hg]; exact (below_size q1_51) : w.heap.size ≤ MC)); have pB := Aside0.mk ((by rw [hg]; exact Nat.ne_of_lt (blk_lt (g := FC) (o := .cells #[.slice rA hA.length sA] 29 (0, 0)) q1_36) : FC ≠ MC)); have uB := Aside0.mk ((by rw [hg]; exact Nat.ne_of_gt (blk_lt (g := FC) (o := .cells #[.slice rA hA.length sA] 29 (0, 0)) q1_36) : MC ≠ FC)); clear EC; clear HB; have EC := eA; have HB := fA; have kC := jA; have AN := pA; have XJ := cB; have qG := pB; have rG := uB; clear eA fA jA pA cB pB uB; clear hb hbox hg) | ((with_reducible refine gate_dst (N := 3) rfl ?_); refine Kd.R_lit (Kd.int .i64) _ 3 ?hg (N := 3) ?hd (xs := ([] : List Int)) (inner := []) (ok := fun _ => True) (okp := fun _ => True) ?hr ?hp (fun _ hk => hk) trivial (Below.refl _ _) (Nat.le_refl _) (by simp) ?_; (case hd => rfl); (case hg => rfl); (case hr => first | (go_simp; done) | (go_simp; rfl)); (case hp => exact (Reps.none _ _)); intro fM w5 ho6 hb hg_ hnew_; clear hg_ hnew_; (first | rw [← Ny316.out] at ho6 | (simp only [Int.reduceToNat] at ho6; rw [← Ny316.out] at ho6)); have eA := Aside0.mk (Kd.R_lower ho6 (below_size q1_23)); have fA := Aside0.mk (blk_below (g := FC) (o := .cells #[.slice rA hA.length sA] 29 (0, 0)) q1_36 hb); have jA := Aside0.mk (blk_below (g := MC) (o := .cells #[.slice none 0 0] 29 (0, 0)) (by (with_reducible repeat (first | refine blk_drewN ?_ _ | refine blk_drew ?_ | refine blk_alloc ?_ _)); exact kC.out) hb); have pA := Aside0.mk (below_step q1_23 hb); clear EC; clear kC; clear HB; have BF := eA; have EC := fA; have kC := jA; have HB := pA; clear eA fA jA pA; clear hb ho6; have bK := qG.out; have cK := rG.out; have XG : w5.cell? ⟨FC, 0, none⟩ = some (.slice rA hA.length sA) := (blk_cell EC.out 0).trans rfl; have YG := blk_frozen EC.out 0) | ((with_reducible refine gate_builtin (b := .append) (xs := #[.tmp 3, .tmp 5]) rfl ?_); at_builtin; refine Kd.R_append_rows (Kd.int .i64) (w0 := w) w.heap.size rfl (.tmp 3) (.tmp 5) 22 3 (.int .i64 0) 8 rfl Tryz.underlying22 info3 rfl q1_57 (by omega) fM y316 hA _ _ _ (fun _ => True) (fun _ => False) rfl rfl ?aO ?aR (fun _ _ h => h) (fun _ h => h.elim) ?aF ?aB ?aS ?aL ?_; (case aR => repeat (first | exact (Kd.C_below rD.out HB.out) | (with_reducible refine Kd.C_alloc ?_ _) | (with_reducible refine Kd.C_drewN ?_ _) | (with_reducible refine Kd.C_drew ?_))); (case aB => exact q1_23); (case aF => exact (fun _ _ => trivial)); (case aO => exact (by (with_reducible repeat (first | apply Kd.R_alloc | apply Kd.R_drewN | apply Kd.R_drew)); exact BF.out)); (case aS => exact (below_size q1_23)); (case aL => have := LMc2.out; omega); intro uO w9 ho hb hg hat; rw [← Ny319.out] at ho; have eA := Aside0.mk (blk_grown (g := FC) (o := .cells #[.slice rA hA.length sA] 29 (0, 0)) q1_36 hg (Kd.R_ne BF.out EC.out q1_57)); have fA := Aside0.mk (blk_grown (g := MC) (o := .cells #[.slice none 0 0] 29 (0, 0)) (by (with_reducible repeat (first | refine blk_drewN ?_ _ | refine blk_drew ?_ | refine blk_alloc ?_ _)); exact kC.out) hg (Kd.R_ne BF.out kC.out q1_57)); have jA := Aside0.mk (hb); have pA := Aside0.mk (ho); clear EC; clear kC; clear HB; clear BF; have EC := eA; have kC := fA; have HB := jA; have EI := pA; clear eA fA jA pA; clear ho hb hg hat; obtain ⟨jD, hC, dD⟩ := Kd.R_slice EI.out; subst dD; have ND : w9.cell? ⟨MC, 0, none⟩ = some (.slice none 0 0) := (blk_cell kC.out 0).trans rfl; have OD := blk_frozen kC.out 0))
  refine bodyPost_ret (results_cell_row rfl _ _ MC 29 #[.slice jD y319.length hC] (0, 0) _ rfl (by (with_reducible repeat (first | refine blk_drewN ?_ _ | refine blk_drew ?_ | refine blk_alloc ?_ _)); refine blk_put (cs := #[.slice none 0 0]) ?_ 0 _ rfl; (with_reducible repeat (first | refine blk_drewN ?_ _ | refine blk_drew ?_ | refine blk_alloc ?_ _)); exact kC.out) Tryz.underlying29 rfl q1_35) rfl ?_
  exact ⟨_, q1_2, by (with_reducible repeat (first | apply Kd.R_alloc | apply Kd.R_drewN | apply Kd.R_drew)); exact Kd.R_mono (Kd.R_far (p := ⟨MC, 0, none⟩) (Kd.R_types EI.out kC.out q1_57) (fun _ hk => hk.2) (.slice jD y319.length hC)) (fun _ hk => trivial), q1_23⟩
 ·rw [if_neg c2] at H
  exact absurd H (by simp)
def impl_copyInts.f (l0 : List Int) : Option (List Int) := if ([] : List Int).length + l0.length < 17592186044416 then (some (([] : List Int) ++ l0)) else (none)
set_option maxHeartbeats 8000000 in
set_option maxRecDepth 100000 in
theorem impl_copyInts.calls (A0 : Option Addr) (c0 : Nat) (l0 : List Int) (r : List Int) (w : World) (hr0 : Kd.C (Kd.int .i64) w A0 l0.length l0) (hc0 : l0.length ≤ c0) (h : impl_copyInts.f l0 = some r) :
  Calls Tryz.prog 60 #[.slice A0 l0.length c0] w fun e w' => ∃ v0_ : Value, e = .returned (v0_) ∧ Kd.R (Kd.int .i64) 3 w' w.heap.size (fun _ => True) v0_ r ∧ Below w.heap.size w w' := by
 have HR0 := Aside0.mk hr0
 clear hr0 hc0
 have HB := Aside0.mk (Below.refl w.heap.size w)
 have H : (if ([] : List Int).length + l0.length < 17592186044416 then (some (([] : List Int) ++ l0)) else (none)) = some r := h
 clear h
 by_cases c2 : ([] : List Int).length + l0.length < 17592186044416
 ·rw [if_pos c2] at H
  have LMc2 := Aside0.mk c2
  clear c2
  obtain ⟨y982, hy982⟩ : ∃ y_ : List Int, y_ = (([] : List Int) ++ l0) := ⟨_, rfl⟩
  replace H : (some y982) = some r := by first | (rw [hy982]; with_reducible exact H) | (have H2_ := (Option.bind_some _ _).symm.trans H; rw [hy982]; with_reducible exact H2_) | (have H2_ := (Option.bind_some _ _).symm.trans H; with_reducible exact H2_) | with_reducible exact H | (rw [hy982]; exact H) | exact H
  have Ny982 := Aside0.mk hy982
  clear hy982
  obtain rfl := Option.some.inj H
  go_enter Tryz.func60, Tryz.ntmps60
  go_wp2_with (first | ((with_reducible refine gate_builtin (b := .append) (xs := #[.const (.slice none 0 0), .tmp 3]) rfl ?_); at_builtin; refine Kd.R_append_rows (Kd.int .i64) (w0 := w) w.heap.size rfl (.const (.slice none 0 0)) (.tmp 3) 22 3 (.int .i64 0) 8 rfl Tryz.underlying22 info3 rfl q1_57 (by omega) (.slice none 0 0) ([] : List Int) l0 _ _ _ (fun _ => True) (fun _ => False) rfl rfl ?aO ?aR (fun _ _ h => h) (fun _ h => h.elim) ?aF ?aB ?aS ?aL ?_; (case aR => repeat (first | exact HR0.out | (with_reducible refine Kd.C_alloc ?_ _) | (with_reducible refine Kd.C_drewN ?_ _) | (with_reducible refine Kd.C_drew ?_))); (case aB => exact q1_0); (case aF => exact (fun _ _ => trivial)); (case aO => exact ((Kd.R_nil _ _ _ _ (fun _ => True)))); (case aS => exact (below_size q1_0)); (case aL => have := LMc2.out; omega); intro vO w3 ho hb hg hat; rw [← Ny982.out] at ho; have eA := Aside0.mk (hb); have fA := Aside0.mk (ho); clear HB; have HB := eA; have dK := fA; clear eA fA; clear ho hb hg hat))
  go_ret
  exact ⟨_, q1_2, by (with_reducible repeat (first | apply Kd.R_alloc | apply Kd.R_drewN | apply Kd.R_drew)); exact dK.out, q1_0⟩
 ·rw [if_neg c2] at H
  exact absurd H (by simp)
def impl_copyMem.f (hA : List Int) : Option (List Int) := (impl_copyInts.f hA).bind fun vE => (some vE)
set_option maxHeartbeats 8000000 in
set_option maxRecDepth 100000 in
theorem impl_copyMem.calls (rA : Option Addr) (sA : Nat) (hA : List Int) (r : List Int) (w : World) (tB : Kd.C (Kd.int .i64) w rA hA.length hA) (yB : hA.length ≤ sA) (h : impl_copyMem.f hA = some r) :
  Calls Tryz.prog 59 #[.agg #[.slice rA hA.length sA]] w fun e w' => ∃ v0_ : Value, e = .returned (.agg #[v0_]) ∧ Kd.R (Kd.int .i64) 3 w' w.heap.size (fun _ => True) v0_ r ∧ Below w.heap.size w w' := by
 have hu29 := Tryz.underlying29
 have rD := Aside0.mk tB
 have RB := Aside0.mk yB
 clear tB yB
 have HB := Aside0.mk (Below.refl w.heap.size w)
 have H : ((impl_copyInts.f hA).bind fun vE => (some vE)) = some r := h
 clear h
 replace H := Option.bind_eq_some_iff.mp H
 obtain ⟨vE, A20, H⟩ := H
 replace H : (some vE) = some r := H
 have A2 := Aside0.mk A20
 clear A20
 obtain rfl := Option.some.inj H
 go_enter Tryz.func59, Tryz.ntmps59
 go_wp2_with (first | ((with_reducible refine gate_dst (N := 1) rfl ?_); refine box_event ?hg (N := 1) ?hd (cs := #[.slice rA hA.length sA]) (t := 29) ?hr ?_; (case hd => rfl); (case hg => rfl); (case hr => first | (go_simp; done) | (go_simp; rfl)); intro NC hg w3 hbox hb; have eA := Aside0.mk (below_step q1_0 hb); have fA := Aside0.mk (hbox); have jA := Aside0.mk ((q1_6 : w.heap.size ≤ NC)); have pA := Aside0.mk ((q1_6 : w.heap.size ≤ NC)); clear HB; have HB := eA; have sD := fA; have BN := jA; have CI := pA; clear eA fA jA pA; clear hb hbox hg) | ((with_reducible refine gate_dst (N := 2) rfl ?_); refine box_event ?hg (N := 2) ?hd (cs := #[.slice none 0 0]) (t := 29) ?hr ?_; (case hd => rfl); (case hg => rfl); (case hr => first | (go_simp; done) | (go_simp; rfl)); intro hD hg w4 hbox hb; have eA := Aside0.mk (blk_below (g := NC) (o := .cells #[.slice rA hA.length sA] 29 (0, 0)) q1_46 hb); have fA := Aside0.mk (below_step q1_52 hb); have jA := Aside0.mk (hbox); have pA := Aside0.mk ((by rw [hg]; exact (below_size q1_52) : w.heap.size ≤ hD)); have cB := Aside0.mk ((by rw [hg]; exact (below_size q1_52) : w.heap.size ≤ hD)); have pB := Aside0.mk ((by rw [hg]; exact Nat.ne_of_lt (blk_lt (g := NC) (o := .cells #[.slice rA hA.length sA] 29 (0, 0)) q1_46) : NC ≠ hD)); have uB := Aside0.mk ((by rw [hg]; exact Nat.ne_of_gt (blk_lt (g := NC) (o := .cells #[.slice rA hA.length sA] 29 (0, 0)) q1_46) : hD ≠ NC)); clear sD; clear HB; have sD := eA; have HB := fA; have uD := jA; have CN := pA; have ZJ := cB; have sG := pB; have tG := uB; clear eA fA jA pA cB pB uB; clear hb hbox hg; have gM := sG.out; have hM := tG.out; have GE : w4.cell? ⟨NC, 0, none⟩ = some (.slice rA hA.length sA) := (blk_cell sD.out 0).trans rfl; have HE := blk_frozen sD.out 0) | ((with_reducible refine gate_callee (f := 60) rfl ?_); refine goesL_ (some 5) rfl rfl Tryz.func60 q1_35 rfl #[.slice rA hA.length sA] rfl q1_1 ?_; (with_reducible refine (impl_copyInts.calls _ _ hA vE _ ?side1 ?side2 A2.out).mono ?_); (case side1 => exact q1_11); (case side2 => exact RB.out); rintro e w7 ⟨wO, rfl, ho0, hb⟩; refine ⟨_, rfl, ?_⟩; have eA := Aside0.mk (Kd.R_lower ho0 (below_size q1_40)); have fA := Aside0.mk (blk_below (g := NC) (o := .cells #[.slice rA hA.length sA] 29 (0, 0)) q1_46 hb); have jA := Aside0.mk (blk_below (g := hD) (o := .cells #[.slice none 0 0] 29 (0, 0)) (by (with_reducible repeat (first | refine blk_drewN ?_ _ | refine blk_drew ?_ | refine blk_alloc ?_ _)); exact uD.out) hb); have pA := Aside0.mk (below_step q1_40 hb); clear sD; clear uD; clear HB; have FI := eA; have sD := fA; have uD := jA; have HB := pA; clear eA fA jA pA; (try clear hb); (try clear hb2); (try clear hk); (try clear hi); (try clear ho0); obtain ⟨eK, fK, iM⟩ := Kd.R_slice FI.out; subst iM; have IE : w7.cell? ⟨hD, 0, none⟩ = some (.slice none 0 0) := (blk_cell uD.out 0).trans rfl; have JE := blk_frozen uD.out 0))
 refine bodyPost_ret (results_cell_row rfl _ _ hD 29 #[.slice eK vE.length fK] (0, 0) _ rfl (by (with_reducible repeat (first | refine blk_drewN ?_ _ | refine blk_drew ?_ | refine blk_alloc ?_ _)); refine blk_put (cs := #[.slice none 0 0]) ?_ 0 _ rfl; (with_reducible repeat (first | refine blk_drewN ?_ _ | refine blk_drew ?_ | refine blk_alloc ?_ _)); exact uD.out) Tryz.underlying29 rfl q1_35) rfl ?_
 exact ⟨_, q1_2, by (with_reducible repeat (first | apply Kd.R_alloc | apply Kd.R_drewN | apply Kd.R_drew)); exact Kd.R_mono (Kd.R_far (p := ⟨hD, 0, none⟩) (Kd.R_types FI.out uD.out q1_57) (fun _ hk => hk.2) (.slice eK vE.length fK)) (fun _ hk => trivial), q1_40⟩
def spec_Able.l0 : Nat → List Int → List (S52) → Int → Int → Option (List Int)
 | 0, _, _, _, _ => none
 | k + 1, x3, x8, x9, x10 => if x10 < x9 then (if 0 ≤ x10 then (if x10 < (x8.length : Int) then (if ((rd_T52 x8 x10).f1) < (((rd_T52 x8 x10).f0).length : Int) then (if x3.length < 17592186044416 then (spec_Able.l0 k (x3 ++ [x10]) x8 x9 (wrap64 (x10 + 1))) else (none)) else (spec_Able.l0 k x3 x8 x9 (wrap64 (x10 + 1)))) else (none)) else (none)) else (some x3)
def spec_Able.f (k : Nat) (iA : Int) (cA : Int) (dA : List Int) (aA : List (S52)) (nA : Int) : Option (List Int) := spec_Able.l0 k (([] : List Int)) aA (aA.length : Int) 0
theorem spec_Able.mono_l : ∀ k, (∀ y0 y1 y2 y3, LeO (spec_Able.l0 k y0 y1 y2 y3) (spec_Able.l0 (k + 1) y0 y1 y2 y3))
 | 0 => fun _ _ _ _ r h => by simp [spec_Able.l0] at h
 | k + 1 => by
  have ih0 := spec_Able.mono_l k
  ·intro y0 y1 y2 y3
   unfold spec_Able.l0
   repeat' first
   | (with_reducible exact ih0 _ _ _ _)
   | (with_reducible exact LeO.refl _)
   | (with_reducible exact LeO.none _)
   | (with_reducible refine LeO.ite ?_ ?_)
   | (with_reducible refine LeO.bind ?_ (fun _ => ?_))
   | exact ih0 _ _ _ _
   | exact LeO.none _
   | refine LeO.ite ?_ ?_
   | refine LeO.bind ?_ (fun _ => ?_)
theorem spec_Able.mono : ∀ a0 a1 a2 a3 a4 k, LeO (spec_Able.f k a0 a1 a2 a3 a4) (spec_Able.f (k + 1) a0 a1 a2 a3 a4) := by
 intro a0 a1 a2 a3 a4 k
 have ih0 := spec_Able.mono_l k
 unfold spec_Able.f
 repeat' first
   | (with_reducible exact ih0 _ _ _ _)
   | (with_reducible exact LeO.refl _)
   | (with_reducible exact LeO.none _)
   | (with_reducible refine LeO.ite ?_ ?_)
   | (with_reducible refine LeO.bind ?_ (fun _ => ?_))
   | exact ih0 _ _ _ _
   | exact LeO.none _
   | refine LeO.ite ?_ ?_
   | refine LeO.bind ?_ (fun _ => ?_)
set_option maxHeartbeats 8000000 in
set_option maxRecDepth 100000 in
theorem spec_Able.calls (k : Nat) (iA : Int) (cA : Int) (lA : Option Addr) (mA : Nat) (dA : List Int) (qA : Option Addr) (oA : Nat) (aA : List (S52)) (nA : Int) (r : List Int) (w : World) (BB : Kd.C (Kd.int .i64) w lA dA.length dA) (CB : dA.length ≤ mA) (vB : Kd.C k52 w qA aA.length aA) (DB : aA.length ≤ oA) (h : spec_Able.f k iA cA dA aA nA = some r) :
  Calls Tryz.prog 19 #[.agg #[.int .i64 iA, .int .i64 cA, .slice lA dA.length mA, .slice qA aA.length oA, .int .i64 nA]] w fun e w' => ∃ v0_ : Value, e = .returned (v0_) ∧ Kd.R (Kd.int .i64) 3 w' w.heap.size (fun _ => True) v0_ r ∧ Below w.heap.size w w' := by
 have hu32 := Tryz.underlying32
 have hu52 := Tryz.underlying52
 clear BB CB
 have EB := Aside0.mk vB
 clear vB DB
 have HB := Aside0.mk (Below.refl w.heap.size w)
 have H : (spec_Able.l0 k (([] : List Int)) aA (aA.length : Int) 0) = some r := h
 clear h
 obtain ⟨y237, hy237⟩ : ∃ y_ : List Int, y_ = (([] : List Int)) := ⟨_, rfl⟩
 replace H : (spec_Able.l0 k y237 aA (aA.length : Int) 0) = some r := by first | (rw [hy237]; with_reducible exact H) | (have H2_ := (Option.bind_some _ _).symm.trans H; rw [hy237]; with_reducible exact H2_) | (have H2_ := (Option.bind_some _ _).symm.trans H; with_reducible exact H2_) | with_reducible exact H | (rw [hy237]; exact H) | exact H
 have Ny237 := Aside0.mk hy237
 clear hy237
 have H' := Aside0.mk H
 clear H
 go_enter Tryz.func19, Tryz.ntmps19
 go_wp2_with (first | ((with_reducible refine gate_dst (N := 1) rfl ?_); refine box_event ?hg (N := 1) ?hd (cs := #[.int .i64 iA, .int .i64 cA, .slice lA dA.length mA, .slice qA aA.length oA, .int .i64 nA]) (t := 32) ?hr ?_; (case hd => rfl); (case hg => rfl); (case hr => first | (go_simp; done) | (go_simp; rfl)); intro kB hg w2 hbox hb; have eA := Aside0.mk (below_step q1_0 hb); have fA := Aside0.mk (hbox); have jA := Aside0.mk ((q1_6 : w.heap.size ≤ kB)); have pA := Aside0.mk ((q1_6 : w.heap.size ≤ kB)); clear HB; have HB := eA; have dB := fA; have DN := jA; have vI := pA; clear eA fA jA pA; clear hb hbox hg) | ((with_reducible refine gate_dst (N := 6) rfl ?_); refine Kd.R_lit (Kd.int .i64) _ 3 ?hg (N := 6) ?hd (xs := ([] : List Int)) (inner := []) (ok := fun _ => True) (okp := fun _ => True) ?hr ?hp (fun _ hk => hk) trivial (Below.refl _ _) (Nat.le_refl _) (by simp) ?_; (case hd => rfl); (case hg => rfl); (case hr => first | (go_simp; done) | (go_simp; rfl)); (case hp => exact (Reps.none _ _)); intro xO w3 ho4 hb hg_ hnew_; clear hg_ hnew_; (first | rw [← Ny237.out] at ho4 | (simp only [Int.reduceToNat] at ho4; rw [← Ny237.out] at ho4)); have eA := Aside0.mk (Kd.R_lower ho4 (below_size q1_8)); have fA := Aside0.mk (blk_below (g := kB) (o := .cells #[.int .i64 iA, .int .i64 cA, .slice lA dA.length mA, .slice qA aA.length oA, .int .i64 nA] 32 (0, 0)) q1_19 hb); have jA := Aside0.mk (below_step q1_8 hb); clear dB; clear HB; have gK := eA; have dB := fA; have HB := jA; clear eA fA jA; clear hb ho4; have KE : w3.cell? ⟨kB, 0, none⟩ = some (.int .i64 iA) := (blk_cell dB.out 0).trans rfl; have LE : w3.cell? ⟨kB, 1, none⟩ = some (.int .i64 cA) := (blk_cell dB.out 1).trans rfl; have ME : w3.cell? ⟨kB, 2, none⟩ = some (.slice lA dA.length mA) := (blk_cell dB.out 2).trans rfl; have NE : w3.cell? ⟨kB, 3, none⟩ = some (.slice qA aA.length oA) := (blk_cell dB.out 3).trans rfl; have OE : w3.cell? ⟨kB, 4, none⟩ = some (.int .i64 nA) := (blk_cell dB.out 4).trans rfl; have PE := blk_frozen dB.out 0; have QE := blk_frozen dB.out 1; have RE := blk_frozen dB.out 2; have SE := blk_frozen dB.out 3; have TE := blk_frozen dB.out 4))
 go_loopg [3, 10] k (fun kq v3 v10 w' => ∃ (tA : List Int) (gA : Int), v10 = .int .i64 gA ∧ Aside0 (spec_Able.l0 kq tA aA (aA.length : Int) gA = some r) ∧ Aside0 (kq ≤ k) ∧ Aside0 (Kd.R (Kd.int .i64) 3 w' w.heap.size (fun _ => True) v3 tA) ∧ Aside0 (w'.heap[kB]? = some (.cells #[.int .i64 iA, .int .i64 cA, (.slice lA dA.length mA), (.slice qA aA.length oA), .int .i64 nA] 32 (0, 0))) ∧ Aside0 (Below w.heap.size w w'))
 case atStart => exact ⟨(y237), (0), q1_17, H', ⟨Nat.le_refl _⟩, ⟨by (with_reducible repeat (first | apply Kd.R_alloc | apply Kd.R_drewN | apply Kd.R_drew)); exact gK.out⟩, ⟨q1_19⟩, ⟨q1_8⟩⟩
 case round =>
  clear H'
  (try clear c1); (try clear p2); (try clear KE); (try clear LE); (try clear ME); (try clear NE); (try clear OE); (try clear PE); (try clear QE); (try clear RE); (try clear SE); (try clear TE)
  obtain ⟨tA, gA, rfl, HA, HK1, zA, dB, HB⟩ := hrel
  cases gk with
  | zero => exact absurd HA.out (by simp [spec_Able.l0])
  | succ k1 =>
   have H := HA.out
   clear HA
   simp only [spec_Able.l0] at H
   by_cases c6 : gA < (aA.length : Int)
   ·rw [if_pos c6] at H
    have OC : decide (gA < (aA.length : Int)) = true := decide_eq_true c6
    clear c6
    by_cases c7 : 0 ≤ gA
    ·rw [if_pos c7] at H
     have wE : decide (0 ≤ gA) = true := decide_eq_true c7
     clear c7
     by_cases c8 : gA < (aA.length : Int)
     ·rw [if_pos c8] at H
      have mH : decide (gA < (aA.length : Int)) = true := decide_eq_true c8
      clear c8
      by_cases c9 : ((rd_T52 aA gA).f1) < (((rd_T52 aA gA).f0).length : Int)
      ·rw [if_pos c9] at H
       have UE : decide (((rd_T52 aA gA).f1) < (((rd_T52 aA gA).f0).length : Int)) = true := decide_eq_true c9
       clear c9
       by_cases c10 : tA.length < 17592186044416
       ·rw [if_pos c10] at H
        have LMc10 := Aside0.mk c10
        clear c10
        obtain ⟨y242, hy242⟩ : ∃ y_ : List Int, y_ = (tA ++ [gA]) := ⟨_, rfl⟩
        replace H : (spec_Able.l0 k1 y242 aA (aA.length : Int) (wrap64 (gA + 1))) = some r := by first | (rw [hy242]; with_reducible exact H) | (have H2_ := (Option.bind_some _ _).symm.trans H; rw [hy242]; with_reducible exact H2_) | (have H2_ := (Option.bind_some _ _).symm.trans H; with_reducible exact H2_) | with_reducible exact H | (rw [hy242]; exact H) | exact H
        have Ny242 := Aside0.mk hy242
        clear hy242
        have H' := Aside0.mk H
        clear H
        have p240 : 0 ≤ (gA : Int) := of_decide_eq_true q1_3
        have q240 : gA < (aA.length : Int) := of_decide_eq_true q1_3
        obtain ⟨ad240, bD, cD, LD, MD, EE, FE, SI, XB, YB, ZB, aC, PD, QD, RD, SD, TD, UD⟩ := at_T52 EB.out gA p240 q240
        cases SI
        replace XB := (HB.out.cell (World.block_lt_of_cell? w _ XB)).trans XB
        replace YB := (HB.out.cell (World.block_lt_of_cell? w _ YB)).trans YB
        replace ZB := (HB.out.cell (World.block_lt_of_cell? w _ ZB)).trans ZB
        replace aC := (HB.out.cell (World.block_lt_of_cell? w _ aC)).trans aC
        clear QD PD
        clear SD RD
        clear UD TD
        replace p240 := eq_true p240
        replace q240 := eq_true q240
        go_wp2_with (first | ((with_reducible refine gate_dst (N := 5) rfl ?_); refine box_event ?hg (N := 5) ?hd (cs := #[.slice none 0 0, .int .i64 0, .slice none 0 0, .slice none 0 0]) (t := 52) ?hr ?_; (case hd => rfl); (case hg => rfl); (case hr => first | (go_simp; done) | (go_simp; rfl)); intro fB hg oB hbox hb; have eA := Aside0.mk (Kd.R_below q1_16 hb); have fA := Aside0.mk (blk_below (g := kB) (o := .cells #[.int .i64 iA, .int .i64 cA, .slice lA dA.length mA, .slice (some ad240) aA.length oA, .int .i64 nA] 32 (0, 0)) q1_19 hb); have jA := Aside0.mk (below_step q1_8 hb); have pA := Aside0.mk (hbox); have cB := Aside0.mk ((by rw [hg]; exact (below_size q1_8) : w.heap.size ≤ fB)); have pB := Aside0.mk ((by rw [hg]; exact (below_size q1_8) : w.heap.size ≤ fB)); have uB := Aside0.mk ((by rw [hg]; exact Nat.ne_of_lt (blk_lt (g := kB) (o := .cells #[.int .i64 iA, .int .i64 cA, .slice lA dA.length mA, .slice (some ad240) aA.length oA, .int .i64 nA] 32 (0, 0)) q1_19) : kB ≠ fB)); have GC := Aside0.mk ((by rw [hg]; exact Nat.ne_of_gt (blk_lt (g := kB) (o := .cells #[.int .i64 iA, .int .i64 cA, .slice lA dA.length mA, .slice (some ad240) aA.length oA, .int .i64 nA] 32 (0, 0)) q1_19) : fB ≠ kB)); clear zA; clear dB; clear HB; have zA := eA; have dB := fA; have HB := jA; have gB := pA; have hK := cB; have zI := pB; have rB := uB; have eD := GC; clear eA fA jA pA cB pB uB GC; clear hb hbox hg; have GI := eD.out; have HI := rB.out; have wC : oB.cell? ⟨fB, 0, none⟩ = some (.slice none 0 0) := (blk_cell gB.out 0).trans rfl; have CF : oB.cell? ⟨fB, 1, none⟩ = some (.int .i64 0) := (blk_cell gB.out 1).trans rfl; have DF : oB.cell? ⟨fB, 2, none⟩ = some (.slice none 0 0) := (blk_cell gB.out 2).trans rfl; have EF : oB.cell? ⟨fB, 3, none⟩ = some (.slice none 0 0) := (blk_cell gB.out 3).trans rfl; have xC := blk_frozen gB.out 0; have FF := blk_frozen gB.out 1; have GF := blk_frozen gB.out 2; have HF := blk_frozen gB.out 3) | ((with_reducible refine gate_builtin (b := .append) (xs := #[.tmp 21, .tmp 23]) rfl ?_); at_builtin; refine Kd.R_append (Kd.int .i64) (w0 := w) w.heap.size rfl (.tmp 21) (.tmp 23) 22 3 (.int .i64 0) 8 rfl Tryz.underlying22 info3 rfl q1_57 (by omega) u3 tA gA [.int .i64 gA] (fun _ => True) (fun _ => False) rfl (by first | (go_simp; done) | (go_simp; rfl)) ?aP (fun _ hk => hk.elim) ?aF ?aO ?aB ?aS ?aL ?_; (case aP => exact rfl); (case aB => exact q1_31); (case aF => exact (fun _ _ => trivial)); (case aO => exact q1_29); (case aS => exact (below_size q1_31)); (case aL => have := LMc10.out; omega); intro yO EN ho hb hg hat; rw [← Ny242.out] at ho; have eA := Aside0.mk (blk_grown (g := kB) (o := .cells #[.int .i64 iA, .int .i64 cA, .slice lA dA.length mA, .slice (some ad240) aA.length oA, .int .i64 nA] 32 (0, 0)) q1_27 hg (Kd.R_ne zA.out dB.out q1_57)); have fA := Aside0.mk (blk_grown (g := fB) (o := .cells #[.slice bD ((rd_T52 aA gA).f0).length cD, .int .i64 ((rd_T52 aA gA).f1), .slice LD ((rd_T52 aA gA).f2).length MD, .slice EE ((rd_T52 aA gA).f3).length FE] 52 (0, 0)) (by (with_reducible repeat (first | refine blk_drewN ?_ _ | refine blk_drew ?_ | refine blk_alloc ?_ _)); refine blk_put (cs := #[.slice bD ((rd_T52 aA gA).f0).length cD, .int .i64 ((rd_T52 aA gA).f1), .slice LD ((rd_T52 aA gA).f2).length MD, .slice none 0 0]) ?_ 3 _ rfl; (with_reducible repeat (first | refine blk_drewN ?_ _ | refine blk_drew ?_ | refine blk_alloc ?_ _)); refine blk_put (cs := #[.slice bD ((rd_T52 aA gA).f0).length cD, .int .i64 ((rd_T52 aA gA).f1), .slice none 0 0, .slice none 0 0]) ?_ 2 _ rfl; (with_reducible repeat (first | refine blk_drewN ?_ _ | refine blk_drew ?_ | refine blk_alloc ?_ _)); refine blk_put (cs := #[.slice bD ((rd_T52 aA gA).f0).length cD, .int .i64 0, .slice none 0 0, .slice none 0 0]) ?_ 1 _ rfl; (with_reducible repeat (first | refine blk_drewN ?_ _ | refine blk_drew ?_ | refine blk_alloc ?_ _)); refine blk_put (cs := #[.slice none 0 0, .int .i64 0, .slice none 0 0, .slice none 0 0]) ?_ 0 _ rfl; (with_reducible repeat (first | refine blk_drewN ?_ _ | refine blk_drew ?_ | refine blk_alloc ?_ _)); exact gB.out) hg (Kd.R_ne zA.out gB.out q1_57)); have jA := Aside0.mk (hb); have pA := Aside0.mk (ho); clear dB; clear gB; clear HB; clear zA; have dB := eA; have gB := fA; have HB := jA; have iK := pA; clear eA fA jA pA; clear ho hb hg hat))
        go_roundg k1
        case measure => have := HK1.out; omega
        case rel => exact ⟨(y242), (wrap64 (gA + 1)), q1_17, H', ⟨by have := HK1.out; omega⟩, ⟨by (with_reducible repeat (first | apply Kd.R_alloc | apply Kd.R_drewN | apply Kd.R_drew)); exact iK.out⟩, ⟨q1_19⟩, ⟨q1_31⟩⟩
       ·rw [if_neg c10] at H
        exact absurd H (by simp)
      ·rw [if_neg c9] at H
       have UE : decide (((rd_T52 aA gA).f1) < (((rd_T52 aA gA).f0).length : Int)) = false := decide_eq_false c9
       clear c9
       have H' := Aside0.mk H
       clear H
       have p240 : 0 ≤ (gA : Int) := of_decide_eq_true q1_3
       have q240 : gA < (aA.length : Int) := of_decide_eq_true q1_3
       obtain ⟨ad240, bD, cD, LD, MD, EE, FE, SI, XB, YB, ZB, aC, PD, QD, RD, SD, TD, UD⟩ := at_T52 EB.out gA p240 q240
       cases SI
       replace XB := (HB.out.cell (World.block_lt_of_cell? w _ XB)).trans XB
       replace YB := (HB.out.cell (World.block_lt_of_cell? w _ YB)).trans YB
       replace ZB := (HB.out.cell (World.block_lt_of_cell? w _ ZB)).trans ZB
       replace aC := (HB.out.cell (World.block_lt_of_cell? w _ aC)).trans aC
       clear QD PD
       clear SD RD
       clear UD TD
       replace p240 := eq_true p240
       replace q240 := eq_true q240
       go_wp2_with (first | ((with_reducible refine gate_dst (N := 5) rfl ?_); refine box_event ?hg (N := 5) ?hd (cs := #[.slice none 0 0, .int .i64 0, .slice none 0 0, .slice none 0 0]) (t := 52) ?hr ?_; (case hd => rfl); (case hg => rfl); (case hr => first | (go_simp; done) | (go_simp; rfl)); intro fB hg ED hbox hb; have eA := Aside0.mk (Kd.R_below q1_16 hb); have fA := Aside0.mk (blk_below (g := kB) (o := .cells #[.int .i64 iA, .int .i64 cA, .slice lA dA.length mA, .slice (some ad240) aA.length oA, .int .i64 nA] 32 (0, 0)) q1_19 hb); have jA := Aside0.mk (below_step q1_8 hb); have pA := Aside0.mk (hbox); have cB := Aside0.mk ((by rw [hg]; exact (below_size q1_8) : w.heap.size ≤ fB)); have pB := Aside0.mk ((by rw [hg]; exact (below_size q1_8) : w.heap.size ≤ fB)); have uB := Aside0.mk ((by rw [hg]; exact Nat.ne_of_lt (blk_lt (g := kB) (o := .cells #[.int .i64 iA, .int .i64 cA, .slice lA dA.length mA, .slice (some ad240) aA.length oA, .int .i64 nA] 32 (0, 0)) q1_19) : kB ≠ fB)); have GC := Aside0.mk ((by rw [hg]; exact Nat.ne_of_gt (blk_lt (g := kB) (o := .cells #[.int .i64 iA, .int .i64 cA, .slice lA dA.length mA, .slice (some ad240) aA.length oA, .int .i64 nA] 32 (0, 0)) q1_19) : fB ≠ kB)); clear zA; clear dB; clear HB; have zA := eA; have dB := fA; have HB := jA; have gB := pA; have hK := cB; have zI := pB; have rB := uB; have eD := GC; clear eA fA jA pA cB pB uB GC; clear hb hbox hg; have jK := eD.out; have kK := rB.out; have nH : ED.cell? ⟨fB, 0, none⟩ = some (.slice none 0 0) := (blk_cell gB.out 0).trans rfl; have oH : ED.cell? ⟨fB, 1, none⟩ = some (.int .i64 0) := (blk_cell gB.out 1).trans rfl; have pH : ED.cell? ⟨fB, 2, none⟩ = some (.slice none 0 0) := (blk_cell gB.out 2).trans rfl; have qH : ED.cell? ⟨fB, 3, none⟩ = some (.slice none 0 0) := (blk_cell gB.out 3).trans rfl; have rH := blk_frozen gB.out 0; have sH := blk_frozen gB.out 1; have tH := blk_frozen gB.out 2; have uH := blk_frozen gB.out 3))
       go_roundg k1
       case measure => have := HK1.out; omega
       case rel => exact ⟨(tA), (wrap64 (gA + 1)), q1_17, H', ⟨by have := HK1.out; omega⟩, ⟨q1_29⟩, ⟨q1_27⟩, ⟨q1_31⟩⟩
     ·rw [if_neg c8] at H
      exact absurd H (by simp)
    ·rw [if_neg c7] at H
     exact absurd H (by simp)
   ·rw [if_neg c6] at H
    have OC : decide (gA < (aA.length : Int)) = false := decide_eq_false c6
    clear c6
    obtain rfl := Option.some.inj H
    go_wp2
    go_ret
    exact ⟨_, q1_2, q1_16, q1_8⟩
def impl_Able.l0 : Nat → List Int → List (S52) → Int → Int → Option (List Int)
 | 0, _, _, _, _ => none
 | k + 1, x3, x8, x9, x10 => if x10 < x9 then (if 0 ≤ x10 then (if x10 < (x8.length : Int) then (if ((rd_T52 x8 x10).f1) < (((rd_T52 x8 x10).f0).length : Int) then (if x3.length < 17592186044416 then (impl_Able.l0 k (x3 ++ [x10]) x8 x9 (wrap64 (x10 + 1))) else (none)) else (impl_Able.l0 k x3 x8 x9 (wrap64 (x10 + 1)))) else (none)) else (none)) else (some x3)
def impl_Able.f (k : Nat) (iA : Int) (cA : Int) (dA : List Int) (aA : List (S52)) (nA : Int) : Option (List Int) := impl_Able.l0 k (([] : List Int)) aA (aA.length : Int) 0
theorem impl_Able.mono_l : ∀ k, (∀ y0 y1 y2 y3, LeO (impl_Able.l0 k y0 y1 y2 y3) (impl_Able.l0 (k + 1) y0 y1 y2 y3))
 | 0 => fun _ _ _ _ r h => by simp [impl_Able.l0] at h
 | k + 1 => by
  have ih0 := impl_Able.mono_l k
  ·intro y0 y1 y2 y3
   unfold impl_Able.l0
   repeat' first
   | (with_reducible exact ih0 _ _ _ _)
   | (with_reducible exact LeO.refl _)
   | (with_reducible exact LeO.none _)
   | (with_reducible refine LeO.ite ?_ ?_)
   | (with_reducible refine LeO.bind ?_ (fun _ => ?_))
   | exact ih0 _ _ _ _
   | exact LeO.none _
   | refine LeO.ite ?_ ?_
   | refine LeO.bind ?_ (fun _ => ?_)
theorem impl_Able.mono : ∀ a0 a1 a2 a3 a4 k, LeO (impl_Able.f k a0 a1 a2 a3 a4) (impl_Able.f (k + 1) a0 a1 a2 a3 a4) := by
 intro a0 a1 a2 a3 a4 k
 have ih0 := impl_Able.mono_l k
 unfold impl_Able.f
 repeat' first
   | (with_reducible exact ih0 _ _ _ _)
   | (with_reducible exact LeO.refl _)
   | (with_reducible exact LeO.none _)
   | (with_reducible refine LeO.ite ?_ ?_)
   | (with_reducible refine LeO.bind ?_ (fun _ => ?_))
   | exact ih0 _ _ _ _
   | exact LeO.none _
   | refine LeO.ite ?_ ?_
   | refine LeO.bind ?_ (fun _ => ?_)
set_option maxHeartbeats 8000000 in
set_option maxRecDepth 100000 in
theorem impl_Able.calls (k : Nat) (iA : Int) (cA : Int) (lA : Option Addr) (mA : Nat) (dA : List Int) (qA : Option Addr) (oA : Nat) (aA : List (S52)) (nA : Int) (r : List Int) (w : World) (BB : Kd.C (Kd.int .i64) w lA dA.length dA) (CB : dA.length ≤ mA) (vB : Kd.C k52 w qA aA.length aA) (DB : aA.length ≤ oA) (h : impl_Able.f k iA cA dA aA nA = some r) :
  Calls Tryz.prog 50 #[.agg #[.int .i64 iA, .int .i64 cA, .slice lA dA.length mA, .slice qA aA.length oA, .int .i64 nA]] w fun e w' => ∃ v0_ : Value, e = .returned (v0_) ∧ Kd.R (Kd.int .i64) 3 w' w.heap.size (fun _ => True) v0_ r ∧ Below w.heap.size w w' := by
 have hu32 := Tryz.underlying32
 have hu52 := Tryz.underlying52
 clear BB CB
 have EB := Aside0.mk vB
 clear vB DB
 have HB := Aside0.mk (Below.refl w.heap.size w)
 have H : (impl_Able.l0 k (([] : List Int)) aA (aA.length : Int) 0) = some r := h
 clear h
 obtain ⟨y1011, hy1011⟩ : ∃ y_ : List Int, y_ = (([] : List Int)) := ⟨_, rfl⟩
 replace H : (impl_Able.l0 k y1011 aA (aA.length : Int) 0) = some r := by first | (rw [hy1011]; with_reducible exact H) | (have H2_ := (Option.bind_some _ _).symm.trans H; rw [hy1011]; with_reducible exact H2_) | (have H2_ := (Option.bind_some _ _).symm.trans H; with_reducible exact H2_) | with_reducible exact H | (rw [hy1011]; exact H) | exact H
 have Ny1011 := Aside0.mk hy1011
 clear hy1011
 have H' := Aside0.mk H
 clear H
 go_enter Tryz.func50, Tryz.ntmps50
 go_wp2_with (first | ((with_reducible refine gate_dst (N := 1) rfl ?_); refine box_event ?hg (N := 1) ?hd (cs := #[.int .i64 iA, .int .i64 cA, .slice lA dA.length mA, .slice qA aA.length oA, .int .i64 nA]) (t := 32) ?hr ?_; (case hd => rfl); (case hg => rfl); (case hr => first | (go_simp; done) | (go_simp; rfl)); intro NA hg w2 hbox hb; have eA := Aside0.mk (below_step q1_0 hb); have fA := Aside0.mk (hbox); have jA := Aside0.mk ((q1_6 : w.heap.size ≤ NA)); have pA := Aside0.mk ((q1_6 : w.heap.size ≤ NA)); clear HB; have HB := eA; have EA := fA; have jM := jA; have QG := pA; clear eA fA jA pA; clear hb hbox hg) | ((with_reducible refine gate_dst (N := 6) rfl ?_); refine Kd.R_lit (Kd.int .i64) _ 3 ?hg (N := 6) ?hd (xs := ([] : List Int)) (inner := []) (ok := fun _ => True) (okp := fun _ => True) ?hr ?hp (fun _ hk => hk) trivial (Below.refl _ _) (Nat.le_refl _) (by simp) ?_; (case hd => rfl); (case hg => rfl); (case hr => first | (go_simp; done) | (go_simp; rfl)); (case hp => exact (Reps.none _ _)); intro FN w3 ho4 hb hg_ hnew_; clear hg_ hnew_; (first | rw [← Ny1011.out] at ho4 | (simp only [Int.reduceToNat] at ho4; rw [← Ny1011.out] at ho4)); have eA := Aside0.mk (Kd.R_lower ho4 (below_size q1_7)); have fA := Aside0.mk (blk_below (g := NA) (o := .cells #[.int .i64 iA, .int .i64 cA, .slice lA dA.length mA, .slice qA aA.length oA, .int .i64 nA] 32 (0, 0)) q1_18 hb); have jA := Aside0.mk (below_step q1_7 hb); clear EA; clear HB; have TI := eA; have EA := fA; have HB := jA; clear eA fA jA; clear hb ho4; have KE : w3.cell? ⟨NA, 0, none⟩ = some (.int .i64 iA) := (blk_cell EA.out 0).trans rfl; have LE : w3.cell? ⟨NA, 1, none⟩ = some (.int .i64 cA) := (blk_cell EA.out 1).trans rfl; have ME : w3.cell? ⟨NA, 2, none⟩ = some (.slice lA dA.length mA) := (blk_cell EA.out 2).trans rfl; have NE : w3.cell? ⟨NA, 3, none⟩ = some (.slice qA aA.length oA) := (blk_cell EA.out 3).trans rfl; have OE : w3.cell? ⟨NA, 4, none⟩ = some (.int .i64 nA) := (blk_cell EA.out 4).trans rfl; have PE := blk_frozen EA.out 0; have QE := blk_frozen EA.out 1; have RE := blk_frozen EA.out 2; have SE := blk_frozen EA.out 3; have TE := blk_frozen EA.out 4))
 go_loopg [3, 10] k (fun kq v3 v10 w' => ∃ (tA : List Int) (gA : Int), v10 = .int .i64 gA ∧ Aside0 (impl_Able.l0 kq tA aA (aA.length : Int) gA = some r) ∧ Aside0 (kq ≤ k) ∧ Aside0 (Kd.R (Kd.int .i64) 3 w' w.heap.size (fun _ => True) v3 tA) ∧ Aside0 (w'.heap[NA]? = some (.cells #[.int .i64 iA, .int .i64 cA, (.slice lA dA.length mA), (.slice qA aA.length oA), .int .i64 nA] 32 (0, 0))) ∧ Aside0 (Below w.heap.size w w'))
 case atStart => exact ⟨(y1011), (0), q1_17, H', ⟨Nat.le_refl _⟩, ⟨by (with_reducible repeat (first | apply Kd.R_alloc | apply Kd.R_drewN | apply Kd.R_drew)); exact TI.out⟩, ⟨q1_18⟩, ⟨q1_7⟩⟩
 case round =>
  clear H'
  (try clear p2); (try clear c5); (try clear KE); (try clear LE); (try clear ME); (try clear NE); (try clear OE); (try clear PE); (try clear QE); (try clear RE); (try clear SE); (try clear TE)
  obtain ⟨tA, gA, rfl, HA, HK1, zA, EA, HB⟩ := hrel
  cases gk with
  | zero => exact absurd HA.out (by simp [impl_Able.l0])
  | succ k1 =>
   have H := HA.out
   clear HA
   simp only [impl_Able.l0] at H
   by_cases c6 : gA < (aA.length : Int)
   ·rw [if_pos c6] at H
    have OC : decide (gA < (aA.length : Int)) = true := decide_eq_true c6
    clear c6
    by_cases c7 : 0 ≤ gA
    ·rw [if_pos c7] at H
     have wE : decide (0 ≤ gA) = true := decide_eq_true c7
     clear c7
     by_cases c8 : gA < (aA.length : Int)
     ·rw [if_pos c8] at H
      have mH : decide (gA < (aA.length : Int)) = true := decide_eq_true c8
      clear c8
      by_cases c9 : ((rd_T52 aA gA).f1) < (((rd_T52 aA gA).f0).length : Int)
      ·rw [if_pos c9] at H
       have UE : decide (((rd_T52 aA gA).f1) < (((rd_T52 aA gA).f0).length : Int)) = true := decide_eq_true c9
       clear c9
       by_cases c10 : tA.length < 17592186044416
       ·rw [if_pos c10] at H
        have LMc10 := Aside0.mk c10
        clear c10
        obtain ⟨y1016, hy1016⟩ : ∃ y_ : List Int, y_ = (tA ++ [gA]) := ⟨_, rfl⟩
        replace H : (impl_Able.l0 k1 y1016 aA (aA.length : Int) (wrap64 (gA + 1))) = some r := by first | (rw [hy1016]; with_reducible exact H) | (have H2_ := (Option.bind_some _ _).symm.trans H; rw [hy1016]; with_reducible exact H2_) | (have H2_ := (Option.bind_some _ _).symm.trans H; with_reducible exact H2_) | with_reducible exact H | (rw [hy1016]; exact H) | exact H
        have Ny1016 := Aside0.mk hy1016
        clear hy1016
        have H' := Aside0.mk H
        clear H
        have p1014 : 0 ≤ (gA : Int) := of_decide_eq_true q1_3
        have q1014 : gA < (aA.length : Int) := of_decide_eq_true q1_3
        obtain ⟨ad1014, uC, vC, lD, mD, JD, KD, ZG, FB, GB, IB, JB, vD, wD, xD, yD, zD, AD⟩ := at_T52 EB.out gA p1014 q1014
        cases ZG
        replace FB := (HB.out.cell (World.block_lt_of_cell? w _ FB)).trans FB
        replace GB := (HB.out.cell (World.block_lt_of_cell? w _ GB)).trans GB
        replace IB := (HB.out.cell (World.block_lt_of_cell? w _ IB)).trans IB
        replace JB := (HB.out.cell (World.block_lt_of_cell? w _ JB)).trans JB
        clear wD vD
        clear yD xD
        clear AD zD
        replace p1014 := eq_true p1014
        replace q1014 := eq_true q1014
        go_wp2_with (first | ((with_reducible refine gate_dst (N := 5) rfl ?_); refine box_event ?hg (N := 5) ?hd (cs := #[.slice none 0 0, .int .i64 0, .slice none 0 0, .slice none 0 0]) (t := 52) ?hr ?_; (case hd => rfl); (case hg => rfl); (case hr => first | (go_simp; done) | (go_simp; rfl)); intro FA hg oB hbox hb; have eA := Aside0.mk (Kd.R_below q1_16 hb); have fA := Aside0.mk (blk_below (g := NA) (o := .cells #[.int .i64 iA, .int .i64 cA, .slice lA dA.length mA, .slice (some ad1014) aA.length oA, .int .i64 nA] 32 (0, 0)) q1_18 hb); have jA := Aside0.mk (below_step q1_7 hb); have pA := Aside0.mk (hbox); have cB := Aside0.mk ((by rw [hg]; exact (below_size q1_7) : w.heap.size ≤ FA)); have pB := Aside0.mk ((by rw [hg]; exact (below_size q1_7) : w.heap.size ≤ FA)); have uB := Aside0.mk ((by rw [hg]; exact Nat.ne_of_lt (blk_lt (g := NA) (o := .cells #[.int .i64 iA, .int .i64 cA, .slice lA dA.length mA, .slice (some ad1014) aA.length oA, .int .i64 nA] 32 (0, 0)) q1_18) : NA ≠ FA)); have GC := Aside0.mk ((by rw [hg]; exact Nat.ne_of_gt (blk_lt (g := NA) (o := .cells #[.int .i64 iA, .int .i64 cA, .slice lA dA.length mA, .slice (some ad1014) aA.length oA, .int .i64 nA] 32 (0, 0)) q1_18) : FA ≠ NA)); clear zA; clear EA; clear HB; have zA := eA; have EA := fA; have HB := jA; have GA := pA; have UI := cB; have UG := pB; have ZA := uB; have lC := GC; clear eA fA jA pA cB pB uB GC; clear hb hbox hg; have GI := lC.out; have HI := ZA.out; have wC : oB.cell? ⟨FA, 0, none⟩ = some (.slice none 0 0) := (blk_cell GA.out 0).trans rfl; have CF : oB.cell? ⟨FA, 1, none⟩ = some (.int .i64 0) := (blk_cell GA.out 1).trans rfl; have DF : oB.cell? ⟨FA, 2, none⟩ = some (.slice none 0 0) := (blk_cell GA.out 2).trans rfl; have EF : oB.cell? ⟨FA, 3, none⟩ = some (.slice none 0 0) := (blk_cell GA.out 3).trans rfl; have xC := blk_frozen GA.out 0; have FF := blk_frozen GA.out 1; have GF := blk_frozen GA.out 2; have HF := blk_frozen GA.out 3) | ((with_reducible refine gate_builtin (b := .append) (xs := #[.tmp 21, .tmp 23]) rfl ?_); at_builtin; refine Kd.R_append (Kd.int .i64) (w0 := w) w.heap.size rfl (.tmp 21) (.tmp 23) 22 3 (.int .i64 0) 8 rfl Tryz.underlying22 info3 rfl q1_57 (by omega) u3 tA gA [.int .i64 gA] (fun _ => True) (fun _ => False) rfl (by first | (go_simp; done) | (go_simp; rfl)) ?aP (fun _ hk => hk.elim) ?aF ?aO ?aB ?aS ?aL ?_; (case aP => exact rfl); (case aB => exact q1_30); (case aF => exact (fun _ _ => trivial)); (case aO => exact q1_28); (case aS => exact (below_size q1_30)); (case aL => have := LMc10.out; omega); intro GN EN ho hb hg hat; rw [← Ny1016.out] at ho; have eA := Aside0.mk (blk_grown (g := NA) (o := .cells #[.int .i64 iA, .int .i64 cA, .slice lA dA.length mA, .slice (some ad1014) aA.length oA, .int .i64 nA] 32 (0, 0)) q1_26 hg (Kd.R_ne zA.out EA.out q1_57)); have fA := Aside0.mk (blk_grown (g := FA) (o := .cells #[.slice uC ((rd_T52 aA gA).f0).length vC, .int .i64 ((rd_T52 aA gA).f1), .slice lD ((rd_T52 aA gA).f2).length mD, .slice JD ((rd_T52 aA gA).f3).length KD] 52 (0, 0)) (by (with_reducible repeat (first | refine blk_drewN ?_ _ | refine blk_drew ?_ | refine blk_alloc ?_ _)); refine blk_put (cs := #[.slice uC ((rd_T52 aA gA).f0).length vC, .int .i64 ((rd_T52 aA gA).f1), .slice lD ((rd_T52 aA gA).f2).length mD, .slice none 0 0]) ?_ 3 _ rfl; (with_reducible repeat (first | refine blk_drewN ?_ _ | refine blk_drew ?_ | refine blk_alloc ?_ _)); refine blk_put (cs := #[.slice uC ((rd_T52 aA gA).f0).length vC, .int .i64 ((rd_T52 aA gA).f1), .slice none 0 0, .slice none 0 0]) ?_ 2 _ rfl; (with_reducible repeat (first | refine blk_drewN ?_ _ | refine blk_drew ?_ | refine blk_alloc ?_ _)); refine blk_put (cs := #[.slice uC ((rd_T52 aA gA).f0).length vC, .int .i64 0, .slice none 0 0, .slice none 0 0]) ?_ 1 _ rfl; (with_reducible repeat (first | refine blk_drewN ?_ _ | refine blk_drew ?_ | refine blk_alloc ?_ _)); refine blk_put (cs := #[.slice none 0 0, .int .i64 0, .slice none 0 0, .slice none 0 0]) ?_ 0 _ rfl; (with_reducible repeat (first | refine blk_drewN ?_ _ | refine blk_drew ?_ | refine blk_alloc ?_ _)); exact GA.out) hg (Kd.R_ne zA.out GA.out q1_57)); have jA := Aside0.mk (hb); have pA := Aside0.mk (ho); clear EA; clear GA; clear HB; clear zA; have EA := eA; have GA := fA; have HB := jA; have VI := pA; clear eA fA jA pA; clear ho hb hg hat))
        go_roundg k1
        case measure => have := HK1.out; omega
        case rel => exact ⟨(y1016), (wrap64 (gA + 1)), q1_17, H', ⟨by have := HK1.out; omega⟩, ⟨by (with_reducible repeat (first | apply Kd.R_alloc | apply Kd.R_drewN | apply Kd.R_drew)); exact VI.out⟩, ⟨q1_18⟩, ⟨q1_30⟩⟩
       ·rw [if_neg c10] at H
        exact absurd H (by simp)
      ·rw [if_neg c9] at H
       have UE : decide (((rd_T52 aA gA).f1) < (((rd_T52 aA gA).f0).length : Int)) = false := decide_eq_false c9
       clear c9
       have H' := Aside0.mk H
       clear H
       have p1014 : 0 ≤ (gA : Int) := of_decide_eq_true q1_3
       have q1014 : gA < (aA.length : Int) := of_decide_eq_true q1_3
       obtain ⟨ad1014, uC, vC, lD, mD, JD, KD, ZG, FB, GB, IB, JB, vD, wD, xD, yD, zD, AD⟩ := at_T52 EB.out gA p1014 q1014
       cases ZG
       replace FB := (HB.out.cell (World.block_lt_of_cell? w _ FB)).trans FB
       replace GB := (HB.out.cell (World.block_lt_of_cell? w _ GB)).trans GB
       replace IB := (HB.out.cell (World.block_lt_of_cell? w _ IB)).trans IB
       replace JB := (HB.out.cell (World.block_lt_of_cell? w _ JB)).trans JB
       clear wD vD
       clear yD xD
       clear AD zD
       replace p1014 := eq_true p1014
       replace q1014 := eq_true q1014
       go_wp2_with (first | ((with_reducible refine gate_dst (N := 5) rfl ?_); refine box_event ?hg (N := 5) ?hd (cs := #[.slice none 0 0, .int .i64 0, .slice none 0 0, .slice none 0 0]) (t := 52) ?hr ?_; (case hd => rfl); (case hg => rfl); (case hr => first | (go_simp; done) | (go_simp; rfl)); intro FA hg ED hbox hb; have eA := Aside0.mk (Kd.R_below q1_16 hb); have fA := Aside0.mk (blk_below (g := NA) (o := .cells #[.int .i64 iA, .int .i64 cA, .slice lA dA.length mA, .slice (some ad1014) aA.length oA, .int .i64 nA] 32 (0, 0)) q1_18 hb); have jA := Aside0.mk (below_step q1_7 hb); have pA := Aside0.mk (hbox); have cB := Aside0.mk ((by rw [hg]; exact (below_size q1_7) : w.heap.size ≤ FA)); have pB := Aside0.mk ((by rw [hg]; exact (below_size q1_7) : w.heap.size ≤ FA)); have uB := Aside0.mk ((by rw [hg]; exact Nat.ne_of_lt (blk_lt (g := NA) (o := .cells #[.int .i64 iA, .int .i64 cA, .slice lA dA.length mA, .slice (some ad1014) aA.length oA, .int .i64 nA] 32 (0, 0)) q1_18) : NA ≠ FA)); have GC := Aside0.mk ((by rw [hg]; exact Nat.ne_of_gt (blk_lt (g := NA) (o := .cells #[.int .i64 iA, .int .i64 cA, .slice lA dA.length mA, .slice (some ad1014) aA.length oA, .int .i64 nA] 32 (0, 0)) q1_18) : FA ≠ NA)); clear zA; clear EA; clear HB; have zA := eA; have EA := fA; have HB := jA; have GA := pA; have UI := cB; have UG := pB; have ZA := uB; have lC := GC; clear eA fA jA pA cB pB uB GC; clear hb hbox hg; have jK := lC.out; have kK := ZA.out; have nH : ED.cell? ⟨FA, 0, none⟩ = some (.slice none 0 0) := (blk_cell GA.out 0).trans rfl; have oH : ED.cell? ⟨FA, 1, none⟩ = some (.int .i64 0) := (blk_cell GA.out 1).trans rfl; have pH : ED.cell? ⟨FA, 2, none⟩ = some (.slice none 0 0) := (blk_cell GA.out 2).trans rfl; have qH : ED.cell? ⟨FA, 3, none⟩ = some (.slice none 0 0) := (blk_cell GA.out 3).trans rfl; have rH := blk_frozen GA.out 0; have sH := blk_frozen GA.out 1; have tH := blk_frozen GA.out 2; have uH := blk_frozen GA.out 3))
       go_roundg k1
       case measure => have := HK1.out; omega
       case rel => exact ⟨(tA), (wrap64 (gA + 1)), q1_17, H', ⟨by have := HK1.out; omega⟩, ⟨q1_28⟩, ⟨q1_26⟩, ⟨q1_30⟩⟩
     ·rw [if_neg c8] at H
      exact absurd H (by simp)
    ·rw [if_neg c7] at H
     exact absurd H (by simp)
   ·rw [if_neg c6] at H
    have OC : decide (gA < (aA.length : Int)) = false := decide_eq_false c6
    clear c6
    obtain rfl := Option.some.inj H
    go_wp2
    go_ret
    exact ⟨_, q1_2, q1_16, q1_7⟩
def impl_within.f (a0 : Int) (a1 : Int) (a2 : Int) : Option (Bool) := if a0 ≥ a1 then (some (decide (a0 ≤ a2))) else (some false)
set_option maxHeartbeats 8000000 in
set_option maxRecDepth 100000 in
theorem impl_within.calls (a0 : Int) (a1 : Int) (a2 : Int) (r : Bool) (w : World) (h : impl_within.f a0 a1 a2 = some r) :
  Calls Tryz.prog 82 #[.int .i64 a0, .int .i64 a1, .int .i64 a2] w fun e w' => e = .returned (.bool r) ∧ Drawn0 w w' := by
 have H : (if a0 ≥ a1 then (some (decide (a0 ≤ a2))) else (some false)) = some r := h
 clear h
 by_cases c4 : a0 ≥ a1
 ·rw [if_pos c4] at H
  have BD : decide (a1 ≤ a0) = true := decide_eq_true c4
  clear c4
  obtain rfl := Option.some.inj H
  go_enter Tryz.func82, Tryz.ntmps82
  go_wp2
  go_ret
  exact ⟨q1_17, q1_58⟩
 ·rw [if_neg c4] at H
  have BD : decide (a1 ≤ a0) = false := decide_eq_false c4
  clear c4
  obtain rfl := Option.some.inj H
  go_enter Tryz.func82, Tryz.ntmps82
  go_wp2
  go_ret
  exact ⟨q1_17, q1_58⟩
def impl_StNew.l0 : Nat → Int → Int → List Int → Option (List Int × Bool)
 | 0, _, _, _ => none
 | k + 1, x17, x18, VD => if x18 < x17 then (if 0 ≤ x18 then (if x18 < (VD.length : Int) then (impl_StNew.l0 k x17 (wrap64 (x18 + 1)) (VD.set (x18 : Int).toNat (wrap64 (x18 + 1)))) else (none)) else (none)) else (some (VD, true))
def impl_StNew.f (k : Nat) (a0 : Int) (a1 : Bool) : Option (List Int × Bool) := (impl_within.f a0 1 16).bind fun uG => (if uG = true then (if 0 ≤ (wrap64 (1 + a0)) then (if (wrap64 (1 + a0) : Int).toNat ≤ 35184372088832 then ((some (List.replicate (wrap64 (1 + a0) : Int).toNat 0 : List Int)).bind fun y887 => (if a1 = true then (impl_StNew.l0 k a0 0 y887) else (some (y887, true)))) else (none)) else (none)) else (some (([] : List Int), false)))
theorem impl_StNew.mono_l : ∀ k, (∀ y0 y1 y2, LeO (impl_StNew.l0 k y0 y1 y2) (impl_StNew.l0 (k + 1) y0 y1 y2))
 | 0 => fun _ _ _ r h => by simp [impl_StNew.l0] at h
 | k + 1 => by
  have ih0 := impl_StNew.mono_l k
  ·intro y0 y1 y2
   unfold impl_StNew.l0
   repeat' first
   | (with_reducible exact ih0 _ _ _)
   | (with_reducible exact LeO.refl _)
   | (with_reducible exact LeO.none _)
   | (with_reducible refine LeO.ite ?_ ?_)
   | (with_reducible refine LeO.bind ?_ (fun _ => ?_))
   | exact ih0 _ _ _
   | exact LeO.none _
   | refine LeO.ite ?_ ?_
   | refine LeO.bind ?_ (fun _ => ?_)
theorem impl_StNew.mono : ∀ a0 a1 k, LeO (impl_StNew.f k a0 a1) (impl_StNew.f (k + 1) a0 a1) := by
 intro a0 a1 k
 have ih0 := impl_StNew.mono_l k
 unfold impl_StNew.f
 repeat' first
   | (with_reducible exact ih0 _ _ _)
   | (with_reducible exact LeO.refl _)
   | (with_reducible exact LeO.none _)
   | (with_reducible refine LeO.ite ?_ ?_)
   | (with_reducible refine LeO.bind ?_ (fun _ => ?_))
   | exact ih0 _ _ _
   | exact LeO.none _
   | refine LeO.ite ?_ ?_
   | refine LeO.bind ?_ (fun _ => ?_)
set_option maxHeartbeats 8000000 in
set_option maxRecDepth 100000 in
theorem impl_StNew.calls (k : Nat) (a0 : Int) (a1 : Bool) (r1 : List Int) (r2 : Bool) (w : World) (h : impl_StNew.f k a0 a1 = some (r1, r2)) :
  Calls Tryz.prog 79 #[.int .i64 a0, .bool a1] w fun e w' => ∃ v0_ : Value, e = .returned (.tuple #[.agg #[v0_], .bool r2]) ∧ Kd.R (Kd.int .i64) 3 w' w.heap.size (fun _ => True) v0_ r1 ∧ Below w.heap.size w w' := by
 have hu29 := Tryz.underlying29
 have HB := Aside0.mk (Below.refl w.heap.size w)
 have H : ((impl_within.f a0 1 16).bind fun uG => (if uG = true then (if 0 ≤ (wrap64 (1 + a0)) then (if (wrap64 (1 + a0) : Int).toNat ≤ 35184372088832 then ((some (List.replicate (wrap64 (1 + a0) : Int).toNat 0 : List Int)).bind fun y887 => (if a1 = true then (impl_StNew.l0 k a0 0 y887) else (some (y887, true)))) else (none)) else (none)) else (some (([] : List Int), false)))) = some (r1, r2) := h
 clear h
 replace H := Option.bind_eq_some_iff.mp H
 obtain ⟨uG, A30, H⟩ := H
 replace H : (if uG = true then (if 0 ≤ (wrap64 (1 + a0)) then (if (wrap64 (1 + a0) : Int).toNat ≤ 35184372088832 then ((some (List.replicate (wrap64 (1 + a0) : Int).toNat 0 : List Int)).bind fun y887 => (if a1 = true then (impl_StNew.l0 k a0 0 y887) else (some (y887, true)))) else (none)) else (none)) else (some (([] : List Int), false))) = some (r1, r2) := H
 have A3 := Aside0.mk A30
 clear A30
 by_cases c4 : uG = true
 ·subst c4
  have H1 : (if 0 ≤ (wrap64 (1 + a0)) then (if (wrap64 (1 + a0) : Int).toNat ≤ 35184372088832 then ((some (List.replicate (wrap64 (1 + a0) : Int).toNat 0 : List Int)).bind fun y887 => (if a1 = true then (impl_StNew.l0 k a0 0 y887) else (some (y887, true)))) else (none)) else (none)) = some (r1, r2) := by rw [if_pos rfl] at H; exact H
  clear H
  have H := H1
  clear H1
  obtain ⟨ji5, hji5⟩ : ∃ j_ : Int, (wrap64 (1 + a0)) = j_ := ⟨_, rfl⟩
  replace H : (if 0 ≤ (ji5) then (if (ji5 : Int).toNat ≤ 35184372088832 then ((some (List.replicate (ji5 : Int).toNat 0 : List Int)).bind fun y887 => (if a1 = true then (impl_StNew.l0 k a0 0 y887) else (some (y887, true)))) else (none)) else (none)) = some (r1, r2) := by first | (rw [hji5] at H; exact H) | (simp only [hji5] at H ⊢; exact H)
  (try rw [hji5] at A3)
  have hji5w : (IntKind.i64.wrap (1 + a0)) = ji5 := (i64_w _).trans hji5
  by_cases c6 : 0 ≤ (ji5)
  ·rw [if_pos c6] at H
   have OC := eq_true c6
   have vH : decide (0 ≤ (ji5)) = true := decide_eq_true c6
   clear c6
   by_cases c7 : (ji5 : Int).toNat ≤ 35184372088832
   ·rw [if_pos c7] at H
    have wE := eq_true c7
    have kM : decide ((ji5 : Int).toNat ≤ 35184372088832) = true := decide_eq_true c7
    clear c7
    obtain ⟨y887, hy887⟩ : ∃ y_ : List Int, y_ = (List.replicate (ji5 : Int).toNat 0) := ⟨_, rfl⟩
    replace H : (if a1 = true then (impl_StNew.l0 k a0 0 y887) else (some (y887, true))) = some (r1, r2) := by first | (rw [hy887]; with_reducible exact H) | (have H2_ := (Option.bind_some _ _).symm.trans H; rw [hy887]; with_reducible exact H2_) | (have H2_ := (Option.bind_some _ _).symm.trans H; with_reducible exact H2_) | with_reducible exact H | (rw [hy887]; exact H) | exact H
    have Ny887 := Aside0.mk hy887
    clear hy887
    by_cases c8 : a1 = true
    ·subst c8
     have H1 : (impl_StNew.l0 k a0 0 y887) = some (r1, r2) := by rw [if_pos rfl] at H; exact H
     clear H
     have H := H1
     clear H1
     have H' := Aside0.mk H
     clear H
     go_enter Tryz.func79, Tryz.ntmps79
     go_wp2_with (first | ((with_reducible refine gate_dst (N := 4) rfl ?_); refine box_event ?hg (N := 4) ?hd (cs := #[.slice none 0 0]) (t := 29) ?hr ?_; (case hd => rfl); (case hg => rfl); (case hr => first | (go_simp; done) | (go_simp; rfl)); intro CA hg w9 hbox hb; have eA := Aside0.mk (below_step q1_0 hb); have fA := Aside0.mk (hbox); have jA := Aside0.mk ((q1_6 : w.heap.size ≤ CA)); have pA := Aside0.mk ((q1_6 : w.heap.size ≤ CA)); clear HB; have HB := eA; have DA := fA; have II := jA; have yF := pA; clear eA fA jA pA; clear hb hbox hg) | ((with_reducible refine gate_callee (f := 82) rfl ?_); refine goesL_ (some 9) rfl rfl Tryz.func82 q1_35 rfl #[.int .i64 a0, .int .i64 1, .int .i64 16] rfl q1_1 ?_; (with_reducible refine (impl_within.calls a0 1 16 true _ A3.out).mono ?_); rintro e w' ⟨rfl, ⟨nd, rfl⟩⟩; refine ⟨_, rfl, ?_⟩; (try (rw [drewN_self w9]; generalize hq_ : World.drewN w9 _ = w9; have eA : Aside0 (w9.heap[CA]? = some (.cells #[.slice none 0 0] 29 (0, 0))) := ⟨by rw [← hq_]; exact q1_10⟩; have fA : Aside0 (Below w.heap.size w w9) := ⟨by rw [← hq_]; exact q1_4⟩; clear DA HB hq_; have DA := eA; have HB := fA; clear eA fA))) | ((with_reducible refine gate_dst (N := 14) rfl ?_); refine Kd.R_make (Kd.int .i64) _ 3 rfl (N := 14) rfl 22 _ _ rfl ji5 rfl rfl Tryz.underlying22 (.int .i64 0) 8 info3 rfl q1_57 (by omega) 0 (ok := fun _ => True) (okp := fun _ => True) rfl (fun _ hk => hk) trivial (of_decide_eq_true q1_3) (Nat.le_trans (Nat.mul_le_mul_right _ (of_decide_eq_true q1_3 : ji5.toNat ≤ 35184372088832)) (by omega)) (Below.refl _ _) (Nat.le_refl _) ?_; intro lM SJ ho11 hb hg_ hnew_; clear hg_ hnew_; (first | rw [← Ny887.out] at ho11 | (simp only [Int.reduceToNat] at ho11; rw [← Ny887.out] at ho11)); have eA := Aside0.mk (Kd.R_lower ho11 (below_size q1_4)); have fA := Aside0.mk (blk_below (g := CA) (o := .cells #[.slice none 0 0] 29 (0, 0)) q1_10 hb); have jA := Aside0.mk (below_step q1_4 hb); clear DA; clear HB; have mC := eA; have DA := fA; have HB := jA; clear eA fA jA; clear hb ho11; obtain ⟨nC, oC, WI⟩ := Kd.R_slice mC.out; subst WI) | ((with_reducible refine gate_dst (N := 6) rfl ?_); refine box_event ?hg (N := 6) ?hd (cs := #[.slice none 0 0]) (t := 29) ?hr ?_; (case hd => rfl); (case hg => rfl); (case hr => first | (go_simp; done) | (go_simp; rfl)); intro wB hg DE hbox hb; have eA := Aside0.mk (Kd.R_below (by (with_reducible repeat (first | apply Kd.R_alloc | apply Kd.R_drewN | apply Kd.R_drew)); exact mC.out) hb); have fA := Aside0.mk (blk_below (g := CA) (o := .cells #[.slice none 0 0] 29 (0, 0)) q1_10 hb); have jA := Aside0.mk (below_step q1_4 hb); have pA := Aside0.mk (hbox); have cB := Aside0.mk ((by rw [hg]; exact (below_size q1_4) : w.heap.size ≤ wB)); have pB := Aside0.mk ((by rw [hg]; exact (below_size q1_4) : w.heap.size ≤ wB)); have uB := Aside0.mk ((by rw [hg]; exact Nat.ne_of_lt (blk_lt (g := CA) (o := .cells #[.slice none 0 0] 29 (0, 0)) q1_10) : CA ≠ wB)); have GC := Aside0.mk ((by rw [hg]; exact Nat.ne_of_gt (blk_lt (g := CA) (o := .cells #[.slice none 0 0] 29 (0, 0)) q1_10) : wB ≠ CA)); clear mC; clear DA; clear HB; have mC := eA; have DA := fA; have HB := jA; have qB := pA; have lK := cB; have AI := pB; have sB := uB; have SB := GC; clear eA fA jA pA cB pB uB GC; clear hb hbox hg; have HN := SB.out; have IN := sB.out; have nD : DE.cell? ⟨wB, 0, none⟩ = some (.slice none 0 0) := (blk_cell qB.out 0).trans rfl; have oD := blk_frozen qB.out 0))
     go_loopg [18] k (fun kq v18 w' => ∃ (iB : Int) (IA : List Int) (PC : Value), v18 = .int .i64 iB ∧ Aside0 (impl_StNew.l0 kq a0 iB IA = some (r1, r2)) ∧ Aside0 (kq ≤ k) ∧ Aside0 (Kd.R (Kd.int .i64) 3 w' w.heap.size (fun _ => True) PC IA) ∧ Aside0 (w'.heap[CA]? = some (.cells #[(.slice none 0 0)] 29 (0, 0))) ∧ Aside0 (w'.heap[wB]? = some (.cells #[PC] 29 (0, 0))) ∧ Aside0 (Below w.heap.size w w'))
     case atStart => exact ⟨(0), (y887), (.slice nC y887.length oC), q1_17, H', ⟨Nat.le_refl _⟩, ⟨by (with_reducible repeat (first | apply Kd.R_alloc | apply Kd.R_drewN | apply Kd.R_drew)); exact Kd.R_mono (Kd.R_far (p := ⟨wB, 0, none⟩) (Kd.R_types mC.out qB.out q1_57) (fun _ hk => hk.2) (.slice nC y887.length oC)) (fun _ hk => trivial)⟩, ⟨by (with_reducible repeat (first | refine blk_drewN ?_ _ | refine blk_drew ?_ | refine blk_alloc ?_ _)); refine blk_far ?_ sB.out _; (with_reducible repeat (first | refine blk_drewN ?_ _ | refine blk_drew ?_ | refine blk_alloc ?_ _)); exact DA.out⟩, ⟨by (with_reducible repeat (first | refine blk_drewN ?_ _ | refine blk_drew ?_ | refine blk_alloc ?_ _)); refine blk_put (cs := #[.slice none 0 0]) ?_ 0 _ rfl; (with_reducible repeat (first | refine blk_drewN ?_ _ | refine blk_drew ?_ | refine blk_alloc ?_ _)); exact qB.out⟩, ⟨q1_32⟩⟩
     case round =>
      clear H'
      (try clear c1); (try clear p2); (try clear c4); (try clear c6); (try clear OC); (try clear vH); (try clear p6); (try clear c7); (try clear wE); (try clear kM); (try clear c8); (try clear c14); (try clear nD); (try clear oD)
      obtain ⟨iB, IA, PC, rfl, HA, HK1, VA, DA, qB, HB⟩ := hrel
      cases gk with
      | zero => exact absurd HA.out (by simp [impl_StNew.l0])
      | succ k1 =>
       have H := HA.out
       clear HA
       simp only [impl_StNew.l0] at H
       by_cases c16 : iB < a0
       ·rw [if_pos c16] at H
        have IF : decide (iB < a0) = true := decide_eq_true c16
        clear c16
        by_cases c17 : 0 ≤ iB
        ·rw [if_pos c17] at H
         have mK : decide (0 ≤ iB) = true := decide_eq_true c17
         clear c17
         by_cases c18 : iB < (IA.length : Int)
         ·rw [if_pos c18] at H
          have JN : decide (iB < (IA.length : Int)) = true := decide_eq_true c18
          clear c18
          obtain ⟨y891, hy891⟩ : ∃ y_ : List Int, y_ = (IA.set (iB : Int).toNat (wrap64 (iB + 1))) := ⟨_, rfl⟩
          replace H : (impl_StNew.l0 k1 a0 (wrap64 (iB + 1)) y891) = some (r1, r2) := by first | (rw [hy891]; with_reducible exact H) | (have H2_ := (Option.bind_some _ _).symm.trans H; rw [hy891]; with_reducible exact H2_) | (have H2_ := (Option.bind_some _ _).symm.trans H; with_reducible exact H2_) | with_reducible exact H | (rw [hy891]; exact H) | exact H
          have Ny891 := Aside0.mk hy891
          clear hy891
          have H' := Aside0.mk H
          clear H
          have KN := SB.out
          have LN := sB.out
          have wH : wr.cell? ⟨wB, 0, none⟩ = some (PC) := (blk_cell qB.out 0).trans rfl
          have xH := blk_frozen qB.out 0
          have p19 : 0 ≤ (iB : Int) := of_decide_eq_true q1_3
          have q19 : (iB : Int) < ((IA.length : Int) : Int) := of_decide_eq_true q1_3
          obtain ⟨go19, XI, nK, oK, gl19, cl19, HG19⟩ := Kd.R_form VA.out (by omega)
          (first | cases nK | (injection nK with ea_ en_ ec_; (first | subst ea_ | (injection ea_ with ea_; subst ea_)); subst ec_; clear en_))
          have GB19 := Aside0.mk oK
          have GG19 := Aside0.mk HG19
          clear oK gl19 HG19
          obtain ⟨mM, nM⟩ := Kd.R_celln 0 VA.out (iB : Int) p19 q19
          replace p19 := eq_true p19
          replace q19 := eq_true q19
          have HP22 := Kd.R_putg VA.out (iB : Int) (wrap64 (iB + 1))
          go_wp2_with (first | ((with_reducible refine gate_store (t := 3) (p := 26) rfl ?_); refine store_event (t := 3) (p := 26) (v := ?vo_w23) (w1 := (wr.setCell ⟨go19, (iB : Int).toNat, none⟩ (.int .i64 (wrap64 (iB + 1))))) ?hg ?ho ?hn ?hr ?_; (case ho => rfl); (case hg => rfl); (case hn => rfl); (case hr => first | (go_simp; done) | (go_simp; rfl)); intro oM hw; have hg : wr.grownBy oM (some go19) := (by rw [hw]; exact HP22.2); have hp_ : Kd.R (Kd.int .i64) 3 oM w.heap.size (fun _ => True) (.slice (some ⟨go19, 0, none⟩) IA.length XI) y891 := (by rw [hw, Ny891.out]; exact HP22.1); clear HP22; have eA := Aside0.mk (hp_); have fA := Aside0.mk (blk_grown (g := CA) (o := .cells #[.slice none 0 0] 29 (0, 0)) q1_10 hg (Kd.R_ne VA.out DA.out q1_57)); have jA := Aside0.mk (blk_grown (g := wB) (o := .cells #[.slice (some ⟨go19, 0, none⟩) IA.length XI] 29 (0, 0)) (by (with_reducible repeat (first | refine blk_drewN ?_ _ | refine blk_drew ?_ | refine blk_alloc ?_ _)); exact qB.out) hg (Kd.R_ne VA.out qB.out q1_57)); have pA := Aside0.mk ((by rw [hw]; exact below_set (HB.out) GB19.out : Below w.heap.size w oM)); clear VA; clear DA; clear qB; clear HB; have VA := eA; have DA := fA; have qB := jA; have HB := pA; clear eA fA jA pA; clear hg hw hp_))
          go_roundg k1
          case measure => have := HK1.out; omega
          case rel => exact ⟨(wrap64 (iB + 1)), (y891), (.slice (some ⟨go19, 0, none⟩) IA.length XI), q1_17, H', ⟨by have := HK1.out; omega⟩, ⟨by (with_reducible repeat (first | apply Kd.R_alloc | apply Kd.R_drewN | apply Kd.R_drew)); exact VA.out⟩, ⟨q1_10⟩, ⟨by (with_reducible repeat (first | refine blk_drewN ?_ _ | refine blk_drew ?_ | refine blk_alloc ?_ _)); exact qB.out⟩, ⟨q1_32⟩⟩
         ·rw [if_neg c18] at H
          exact absurd H (by simp)
        ·rw [if_neg c17] at H
         exact absurd H (by simp)
       ·rw [if_neg c16] at H
        have IF : decide (iB < a0) = false := decide_eq_false c16
        clear c16
        simp only [Option.some.injEq, Prod.mk.injEq] at H
        obtain ⟨rfl, rfl⟩ := H
        have MN := SB.out
        have NN := sB.out
        have UK : wr.cell? ⟨wB, 0, none⟩ = some (PC) := (blk_cell qB.out 0).trans rfl
        have VK := blk_frozen qB.out 0
        obtain ⟨pK, qK, pM⟩ := Kd.R_slice VA.out
        subst pM
        have WK : wr.cell? ⟨CA, 0, none⟩ = some (.slice none 0 0) := (blk_cell DA.out 0).trans rfl
        have XK := blk_frozen DA.out 0
        go_wp2
        refine bodyPost_ret (results_ct rfl _ _ CA 29 #[.slice pK IA.length qK] (0, 0) _ rfl q1_59 Tryz.underlying29 rfl q1_35) rfl ?_
        exact ⟨_, by first | rfl | (simp [errW_none, errW_some] <;> rfl) | (simp only [← hji5]; first | rfl | (simp [errW_none, errW_some] <;> rfl)) | (simp [*, errW_none, errW_some] <;> rfl), by (with_reducible repeat (first | apply Kd.R_alloc | apply Kd.R_drewN | apply Kd.R_drew)); exact Kd.R_mono (Kd.R_far (p := ⟨CA, 0, none⟩) (Kd.R_types VA.out DA.out q1_57) (fun _ hk => hk.2) (.slice pK IA.length qK)) (fun _ hk => trivial), q1_32⟩
    ·replace c8 := Bool.eq_false_iff.mpr c8
     subst c8
     have H1 : (some (y887, true)) = some (r1, r2) := by rw [if_neg (show ¬ (false = true) by decide)] at H; exact H
     clear H
     have H := H1
     clear H1
     simp only [Option.some.injEq, Prod.mk.injEq] at H
     obtain ⟨rfl, rfl⟩ := H
     go_enter Tryz.func79, Tryz.ntmps79
     go_wp2_with (first | ((with_reducible refine gate_dst (N := 4) rfl ?_); refine box_event ?hg (N := 4) ?hd (cs := #[.slice none 0 0]) (t := 29) ?hr ?_; (case hd => rfl); (case hg => rfl); (case hr => first | (go_simp; done) | (go_simp; rfl)); intro CA hg rK hbox hb; have eA := Aside0.mk (below_step q1_0 hb); have fA := Aside0.mk (hbox); have jA := Aside0.mk ((q1_6 : w.heap.size ≤ CA)); have pA := Aside0.mk ((q1_6 : w.heap.size ≤ CA)); clear HB; have HB := eA; have DA := fA; have II := jA; have yF := pA; clear eA fA jA pA; clear hb hbox hg) | ((with_reducible refine gate_callee (f := 82) rfl ?_); refine goesL_ (some 9) rfl rfl Tryz.func82 q1_35 rfl #[.int .i64 a0, .int .i64 1, .int .i64 16] rfl q1_1 ?_; (with_reducible refine (impl_within.calls a0 1 16 true _ A3.out).mono ?_); rintro e w' ⟨rfl, ⟨nd, rfl⟩⟩; refine ⟨_, rfl, ?_⟩; (try (rw [drewN_self rK]; generalize hq_ : World.drewN rK _ = rK; have eA : Aside0 (rK.heap[CA]? = some (.cells #[.slice none 0 0] 29 (0, 0))) := ⟨by rw [← hq_]; exact q1_10⟩; have fA : Aside0 (Below w.heap.size w rK) := ⟨by rw [← hq_]; exact q1_4⟩; clear DA HB hq_; have DA := eA; have HB := fA; clear eA fA))) | ((with_reducible refine gate_dst (N := 14) rfl ?_); refine Kd.R_make (Kd.int .i64) _ 3 rfl (N := 14) rfl 22 _ _ rfl ji5 rfl rfl Tryz.underlying22 (.int .i64 0) 8 info3 rfl q1_57 (by omega) 0 (ok := fun _ => True) (okp := fun _ => True) rfl (fun _ hk => hk) trivial (of_decide_eq_true q1_3) (Nat.le_trans (Nat.mul_le_mul_right _ (of_decide_eq_true q1_3 : ji5.toNat ≤ 35184372088832)) (by omega)) (Below.refl _ _) (Nat.le_refl _) ?_; intro lM NO ho30 hb hg_ hnew_; clear hg_ hnew_; (first | rw [← Ny887.out] at ho30 | (simp only [Int.reduceToNat] at ho30; rw [← Ny887.out] at ho30)); have eA := Aside0.mk (Kd.R_lower ho30 (below_size q1_4)); have fA := Aside0.mk (blk_below (g := CA) (o := .cells #[.slice none 0 0] 29 (0, 0)) q1_10 hb); have jA := Aside0.mk (below_step q1_4 hb); clear DA; clear HB; have mC := eA; have DA := fA; have HB := jA; clear eA fA jA; clear hb ho30; obtain ⟨YI, ZI, qM⟩ := Kd.R_slice mC.out; subst qM) | ((with_reducible refine gate_dst (N := 6) rfl ?_); refine box_event ?hg (N := 6) ?hd (cs := #[.slice none 0 0]) (t := 29) ?hr ?_; (case hd => rfl); (case hg => rfl); (case hr => first | (go_simp; done) | (go_simp; rfl)); intro wB hg ON hbox hb; have eA := Aside0.mk (Kd.R_below (by (with_reducible repeat (first | apply Kd.R_alloc | apply Kd.R_drewN | apply Kd.R_drew)); exact mC.out) hb); have fA := Aside0.mk (blk_below (g := CA) (o := .cells #[.slice none 0 0] 29 (0, 0)) q1_10 hb); have jA := Aside0.mk (below_step q1_4 hb); have pA := Aside0.mk (hbox); have cB := Aside0.mk ((by rw [hg]; exact (below_size q1_4) : w.heap.size ≤ wB)); have pB := Aside0.mk ((by rw [hg]; exact (below_size q1_4) : w.heap.size ≤ wB)); have uB := Aside0.mk ((by rw [hg]; exact Nat.ne_of_lt (blk_lt (g := CA) (o := .cells #[.slice none 0 0] 29 (0, 0)) q1_10) : CA ≠ wB)); have GC := Aside0.mk ((by rw [hg]; exact Nat.ne_of_gt (blk_lt (g := CA) (o := .cells #[.slice none 0 0] 29 (0, 0)) q1_10) : wB ≠ CA)); clear mC; clear DA; clear HB; have mC := eA; have DA := fA; have HB := jA; have qB := pA; have lK := cB; have AI := pB; have sB := uB; have SB := GC; clear eA fA jA pA cB pB uB GC; clear hb hbox hg; have PN := SB.out; have QN := sB.out; have YK : ON.cell? ⟨wB, 0, none⟩ = some (.slice none 0 0) := (blk_cell qB.out 0).trans rfl; have ZK := blk_frozen qB.out 0; have bL : ON.cell? ⟨CA, 0, none⟩ = some (.slice none 0 0) := (blk_cell DA.out 0).trans rfl; have cL := blk_frozen DA.out 0))
     refine bodyPost_ret (results_ct rfl _ _ CA 29 #[.slice YI y887.length ZI] (0, 0) _ rfl (by (with_reducible repeat (first | refine blk_drewN ?_ _ | refine blk_drew ?_ | refine blk_alloc ?_ _)); refine blk_put (cs := #[.slice none 0 0]) ?_ 0 _ rfl; (with_reducible repeat (first | refine blk_drewN ?_ _ | refine blk_drew ?_ | refine blk_alloc ?_ _)); refine blk_far ?_ sB.out _; (with_reducible repeat (first | refine blk_drewN ?_ _ | refine blk_drew ?_ | refine blk_alloc ?_ _)); exact DA.out) Tryz.underlying29 rfl q1_35) rfl ?_
     exact ⟨_, by first | rfl | (simp [errW_none, errW_some] <;> rfl) | (simp only [← hji5]; first | rfl | (simp [errW_none, errW_some] <;> rfl)) | (simp [*, errW_none, errW_some] <;> rfl), by (with_reducible repeat (first | apply Kd.R_alloc | apply Kd.R_drewN | apply Kd.R_drew)); exact Kd.R_mono (Kd.R_far (p := ⟨CA, 0, none⟩) (Kd.R_far (p := ⟨wB, 0, none⟩) (Kd.R_types (Kd.R_types mC.out qB.out q1_57) DA.out q1_57) (fun _ hk => hk.1.2) (.slice YI y887.length ZI)) (fun _ hk => hk.2) (.slice YI y887.length ZI)) (fun _ hk => trivial), q1_32⟩
   ·rw [if_neg c7] at H
    exact absurd H (by simp)
  ·rw [if_neg c6] at H
   exact absurd H (by simp)
 ·replace c4 := Bool.eq_false_iff.mpr c4
  subst c4
  have H1 : (some (([] : List Int), false)) = some (r1, r2) := by rw [if_neg (show ¬ (false = true) by decide)] at H; exact H
  clear H
  have H := H1
  clear H1
  simp only [Option.some.injEq, Prod.mk.injEq] at H
  obtain ⟨rfl, rfl⟩ := H
  go_enter Tryz.func79, Tryz.ntmps79
  go_wp2_with (first | ((with_reducible refine gate_dst (N := 4) rfl ?_); refine box_event ?hg (N := 4) ?hd (cs := #[.slice none 0 0]) (t := 29) ?hr ?_; (case hd => rfl); (case hg => rfl); (case hr => first | (go_simp; done) | (go_simp; rfl)); intro CA hg TJ hbox hb; have eA := Aside0.mk (below_step q1_0 hb); have fA := Aside0.mk (hbox); have jA := Aside0.mk ((q1_6 : w.heap.size ≤ CA)); have pA := Aside0.mk ((q1_6 : w.heap.size ≤ CA)); clear HB; have HB := eA; have DA := fA; have II := jA; have yF := pA; clear eA fA jA pA; clear hb hbox hg) | ((with_reducible refine gate_callee (f := 82) rfl ?_); refine goesL_ (some 9) rfl rfl Tryz.func82 q1_35 rfl #[.int .i64 a0, .int .i64 1, .int .i64 16] rfl q1_1 ?_; (with_reducible refine (impl_within.calls a0 1 16 false _ A3.out).mono ?_); rintro e w' ⟨rfl, ⟨nd, rfl⟩⟩; refine ⟨_, rfl, ?_⟩; (try (rw [drewN_self TJ]; generalize hq_ : World.drewN TJ _ = TJ; have eA : Aside0 (TJ.heap[CA]? = some (.cells #[.slice none 0 0] 29 (0, 0))) := ⟨by rw [← hq_]; exact q1_10⟩; have fA : Aside0 (Below w.heap.size w TJ) := ⟨by rw [← hq_]; exact q1_4⟩; clear DA HB hq_; have DA := eA; have HB := fA; clear eA fA)); have dL : TJ.cell? ⟨CA, 0, none⟩ = some (.slice none 0 0) := (blk_cell DA.out 0).trans rfl; have eL := blk_frozen DA.out 0))
  refine bodyPost_ret (results_ct rfl _ _ CA 29 #[.slice none 0 0] (0, 0) _ rfl q1_59 Tryz.underlying29 rfl q1_35) rfl ?_
  exact ⟨_, q1_2, q1_39, q1_4⟩
def impl_RiNew.l0 : Nat → Int → Int → List Int → Option (List Int × Bool)
 | 0, _, _, _ => none
 | k + 1, x15, x16, WD => if x16 < x15 then (if 0 ≤ (wrap64 (2 + (wrap64 (2 * x16)))) then (if (wrap64 (2 + (wrap64 (2 * x16)))) < (WD.length : Int) then (impl_RiNew.l0 k x15 (wrap64 (x16 + 1)) (WD.set ((wrap64 (2 + (wrap64 (2 * x16)))) : Int).toNat x16)) else (none)) else (none)) else (some (WD, true))
def impl_RiNew.f (k : Nat) (a0 : Int) : Option (List Int × Bool) := (impl_within.f a0 2 16).bind fun vG => (if vG = true then (if 0 ≤ (wrap64 (2 + (wrap64 (2 * a0)))) then (if (wrap64 (2 + (wrap64 (2 * a0))) : Int).toNat ≤ 35184372088832 then (impl_RiNew.l0 k a0 0 (List.replicate (wrap64 (2 + (wrap64 (2 * a0))) : Int).toNat 0)) else (none)) else (none)) else (some (([] : List Int), false)))
theorem impl_RiNew.mono_l : ∀ k, (∀ y0 y1 y2, LeO (impl_RiNew.l0 k y0 y1 y2) (impl_RiNew.l0 (k + 1) y0 y1 y2))
 | 0 => fun _ _ _ r h => by simp [impl_RiNew.l0] at h
 | k + 1 => by
  have ih0 := impl_RiNew.mono_l k
  ·intro y0 y1 y2
   unfold impl_RiNew.l0
   repeat' first
   | (with_reducible exact ih0 _ _ _)
   | (with_reducible exact LeO.refl _)
   | (with_reducible exact LeO.none _)
   | (with_reducible refine LeO.ite ?_ ?_)
   | (with_reducible refine LeO.bind ?_ (fun _ => ?_))
   | exact ih0 _ _ _
   | exact LeO.none _
   | refine LeO.ite ?_ ?_
   | refine LeO.bind ?_ (fun _ => ?_)
theorem impl_RiNew.mono : ∀ a0 k, LeO (impl_RiNew.f k a0) (impl_RiNew.f (k + 1) a0) := by
 intro a0 k
 have ih0 := impl_RiNew.mono_l k
 unfold impl_RiNew.f
 repeat' first
   | (with_reducible exact ih0 _ _ _)
   | (with_reducible exact LeO.refl _)
   | (with_reducible exact LeO.none _)
   | (with_reducible refine LeO.ite ?_ ?_)
   | (with_reducible refine LeO.bind ?_ (fun _ => ?_))
   | exact ih0 _ _ _
   | exact LeO.none _
   | refine LeO.ite ?_ ?_
   | refine LeO.bind ?_ (fun _ => ?_)
set_option maxHeartbeats 8000000 in
set_option maxRecDepth 100000 in
theorem impl_RiNew.calls (k : Nat) (a0 : Int) (r1 : List Int) (r2 : Bool) (w : World) (h : impl_RiNew.f k a0 = some (r1, r2)) :
  Calls Tryz.prog 80 #[.int .i64 a0] w fun e w' => ∃ v0_ : Value, e = .returned (.tuple #[.agg #[v0_], .bool r2]) ∧ Kd.R (Kd.int .i64) 3 w' w.heap.size (fun _ => True) v0_ r1 ∧ Below w.heap.size w w' := by
 have hu29 := Tryz.underlying29
 have HB := Aside0.mk (Below.refl w.heap.size w)
 have H : ((impl_within.f a0 2 16).bind fun vG => (if vG = true then (if 0 ≤ (wrap64 (2 + (wrap64 (2 * a0)))) then (if (wrap64 (2 + (wrap64 (2 * a0))) : Int).toNat ≤ 35184372088832 then (impl_RiNew.l0 k a0 0 (List.replicate (wrap64 (2 + (wrap64 (2 * a0))) : Int).toNat 0)) else (none)) else (none)) else (some (([] : List Int), false)))) = some (r1, r2) := h
 clear h
 replace H := Option.bind_eq_some_iff.mp H
 obtain ⟨vG, A20, H⟩ := H
 replace H : (if vG = true then (if 0 ≤ (wrap64 (2 + (wrap64 (2 * a0)))) then (if (wrap64 (2 + (wrap64 (2 * a0))) : Int).toNat ≤ 35184372088832 then (impl_RiNew.l0 k a0 0 (List.replicate (wrap64 (2 + (wrap64 (2 * a0))) : Int).toNat 0)) else (none)) else (none)) else (some (([] : List Int), false))) = some (r1, r2) := H
 have A2 := Aside0.mk A20
 clear A20
 by_cases c3 : vG = true
 ·subst c3
  have H1 : (if 0 ≤ (wrap64 (2 + (wrap64 (2 * a0)))) then (if (wrap64 (2 + (wrap64 (2 * a0))) : Int).toNat ≤ 35184372088832 then (impl_RiNew.l0 k a0 0 (List.replicate (wrap64 (2 + (wrap64 (2 * a0))) : Int).toNat 0)) else (none)) else (none)) = some (r1, r2) := by rw [if_pos rfl] at H; exact H
  clear H
  have H := H1
  clear H1
  obtain ⟨ji4, hji4⟩ : ∃ j_ : Int, (wrap64 (2 + (wrap64 (2 * a0)))) = j_ := ⟨_, rfl⟩
  replace H : (if 0 ≤ (ji4) then (if (ji4 : Int).toNat ≤ 35184372088832 then (impl_RiNew.l0 k a0 0 (List.replicate (ji4 : Int).toNat 0)) else (none)) else (none)) = some (r1, r2) := by first | (rw [hji4] at H; exact H) | (simp only [hji4] at H ⊢; exact H)
  (try rw [hji4] at A2)
  have hji4w : (IntKind.i64.wrap (2 + (wrap64 (2 * a0)))) = ji4 := (i64_w _).trans hji4
  by_cases c5 : 0 ≤ (ji4)
  ·rw [if_pos c5] at H
   have aJ := eq_true c5
   have sK : decide (0 ≤ (ji4)) = true := decide_eq_true c5
   clear c5
   by_cases c6 : (ji4 : Int).toNat ≤ 35184372088832
   ·rw [if_pos c6] at H
    have OC := eq_true c6
    have vH : decide ((ji4 : Int).toNat ≤ 35184372088832) = true := decide_eq_true c6
    clear c6
    obtain ⟨y894, hy894⟩ : ∃ y_ : List Int, y_ = (List.replicate (ji4 : Int).toNat 0) := ⟨_, rfl⟩
    replace H : (impl_RiNew.l0 k a0 0 y894) = some (r1, r2) := by first | (rw [hy894]; with_reducible exact H) | (have H2_ := (Option.bind_some _ _).symm.trans H; rw [hy894]; with_reducible exact H2_) | (have H2_ := (Option.bind_some _ _).symm.trans H; with_reducible exact H2_) | with_reducible exact H | (rw [hy894]; exact H) | exact H
    have Ny894 := Aside0.mk hy894
    clear hy894
    have H' := Aside0.mk H
    clear H
    go_enter Tryz.func80, Tryz.ntmps80
    go_wp2_with (first | ((with_reducible refine gate_dst (N := 2) rfl ?_); refine box_event ?hg (N := 2) ?hd (cs := #[.slice none 0 0]) (t := 29) ?hr ?_; (case hd => rfl); (case hg => rfl); (case hr => first | (go_simp; done) | (go_simp; rfl)); intro lB hg w7 hbox hb; have eA := Aside0.mk (below_step q1_0 hb); have fA := Aside0.mk (hbox); have jA := Aside0.mk ((q1_6 : w.heap.size ≤ lB)); have pA := Aside0.mk ((q1_6 : w.heap.size ≤ lB)); clear HB; have HB := eA; have eB := fA; have tK := jA; have SG := pA; clear eA fA jA pA; clear hb hbox hg) | ((with_reducible refine gate_callee (f := 82) rfl ?_); refine goesL_ (some 7) rfl rfl Tryz.func82 q1_35 rfl #[.int .i64 a0, .int .i64 2, .int .i64 16] rfl q1_1 ?_; (with_reducible refine (impl_within.calls a0 2 16 true _ A2.out).mono ?_); rintro e w' ⟨rfl, ⟨nd, rfl⟩⟩; refine ⟨_, rfl, ?_⟩; (try (rw [drewN_self w7]; generalize hq_ : World.drewN w7 _ = w7; have eA : Aside0 (w7.heap[lB]? = some (.cells #[.slice none 0 0] 29 (0, 0))) := ⟨by rw [← hq_]; exact q1_22⟩; have fA : Aside0 (Below w.heap.size w w7) := ⟨by rw [← hq_]; exact q1_14⟩; clear eB HB hq_; have eB := eA; have HB := fA; clear eA fA))) | ((with_reducible refine gate_dst (N := 13) rfl ?_); refine Kd.R_make (Kd.int .i64) _ 3 rfl (N := 13) rfl 22 _ _ rfl ji4 rfl rfl Tryz.underlying22 (.int .i64 0) 8 info3 rfl q1_57 (by omega) 0 (ok := fun _ => True) (okp := fun _ => True) rfl (fun _ hk => hk) trivial (of_decide_eq_true q1_3) (Nat.le_trans (Nat.mul_le_mul_right _ (of_decide_eq_true q1_3 : ji4.toNat ≤ 35184372088832)) (by omega)) (Below.refl _ _) (Nat.le_refl _) ?_; intro zO w8 ho9 hb hg_ hnew_; clear hg_ hnew_; (first | rw [← Ny894.out] at ho9 | (simp only [Int.reduceToNat] at ho9; rw [← Ny894.out] at ho9)); have eA := Aside0.mk (Kd.R_lower ho9 (below_size q1_14)); have fA := Aside0.mk (blk_below (g := lB) (o := .cells #[.slice none 0 0] 29 (0, 0)) q1_22 hb); have jA := Aside0.mk (below_step q1_14 hb); clear eB; clear HB; have xE := eA; have eB := fA; have HB := jA; clear eA fA jA; clear hb ho9; obtain ⟨jD, hC, dD⟩ := Kd.R_slice xE.out; subst dD) | ((with_reducible refine gate_dst (N := 4) rfl ?_); refine box_event ?hg (N := 4) ?hd (cs := #[.slice none 0 0]) (t := 29) ?hr ?_; (case hd => rfl); (case hg => rfl); (case hr => first | (go_simp; done) | (go_simp; rfl)); intro HC hg oB hbox hb; have eA := Aside0.mk (Kd.R_below (by (with_reducible repeat (first | apply Kd.R_alloc | apply Kd.R_drewN | apply Kd.R_drew)); exact xE.out) hb); have fA := Aside0.mk (blk_below (g := lB) (o := .cells #[.slice none 0 0] 29 (0, 0)) q1_22 hb); have jA := Aside0.mk (below_step q1_14 hb); have pA := Aside0.mk (hbox); have cB := Aside0.mk ((by rw [hg]; exact (below_size q1_14) : w.heap.size ≤ HC)); have pB := Aside0.mk ((by rw [hg]; exact (below_size q1_14) : w.heap.size ≤ HC)); have uB := Aside0.mk ((by rw [hg]; exact Nat.ne_of_lt (blk_lt (g := lB) (o := .cells #[.slice none 0 0] 29 (0, 0)) q1_22) : lB ≠ HC)); have GC := Aside0.mk ((by rw [hg]; exact Nat.ne_of_gt (blk_lt (g := lB) (o := .cells #[.slice none 0 0] 29 (0, 0)) q1_22) : HC ≠ lB)); clear xE; clear eB; clear HB; have xE := eA; have eB := fA; have HB := jA; have MB := pA; have RN := cB; have aK := pB; have yC := uB; have fD := GC; clear eA fA jA pA cB pB uB GC; clear hb hbox hg; have GI := fD.out; have HI := yC.out; have wC : oB.cell? ⟨HC, 0, none⟩ = some (.slice none 0 0) := (blk_cell MB.out 0).trans rfl; have xC := blk_frozen MB.out 0))
    go_loopg [16] k (fun kq v16 w' => ∃ (KB : Int) (BA : List Int) (QC : Value), v16 = .int .i64 KB ∧ Aside0 (impl_RiNew.l0 kq a0 KB BA = some (r1, r2)) ∧ Aside0 (kq ≤ k) ∧ Aside0 (Kd.R (Kd.int .i64) 3 w' w.heap.size (fun _ => True) QC BA) ∧ Aside0 (w'.heap[lB]? = some (.cells #[(.slice none 0 0)] 29 (0, 0))) ∧ Aside0 (w'.heap[HC]? = some (.cells #[QC] 29 (0, 0))) ∧ Aside0 (Below w.heap.size w w'))
    case atStart => exact ⟨(0), (y894), (.slice jD y894.length hC), q1_17, H', ⟨Nat.le_refl _⟩, ⟨by (with_reducible repeat (first | apply Kd.R_alloc | apply Kd.R_drewN | apply Kd.R_drew)); exact Kd.R_mono (Kd.R_far (p := ⟨HC, 0, none⟩) (Kd.R_types xE.out MB.out q1_57) (fun _ hk => hk.2) (.slice jD y894.length hC)) (fun _ hk => trivial)⟩, ⟨by (with_reducible repeat (first | refine blk_drewN ?_ _ | refine blk_drew ?_ | refine blk_alloc ?_ _)); refine blk_far ?_ yC.out _; (with_reducible repeat (first | refine blk_drewN ?_ _ | refine blk_drew ?_ | refine blk_alloc ?_ _)); exact eB.out⟩, ⟨by (with_reducible repeat (first | refine blk_drewN ?_ _ | refine blk_drew ?_ | refine blk_alloc ?_ _)); refine blk_put (cs := #[.slice none 0 0]) ?_ 0 _ rfl; (with_reducible repeat (first | refine blk_drewN ?_ _ | refine blk_drew ?_ | refine blk_alloc ?_ _)); exact MB.out⟩, ⟨q1_45⟩⟩
    case round =>
     clear H'
     (try clear c1); (try clear p2); (try clear c3); (try clear c5); (try clear aJ); (try clear sK); (try clear c6); (try clear OC); (try clear vH); (try clear p6); (try clear c8); (try clear c12); (try clear wC); (try clear xC)
     obtain ⟨KB, BA, QC, rfl, HA, HK1, WA, eB, MB, HB⟩ := hrel
     cases gk with
     | zero => exact absurd HA.out (by simp [impl_RiNew.l0])
     | succ k1 =>
      have H := HA.out
      clear HA
      simp only [impl_RiNew.l0] at H
      by_cases c14 : KB < a0
      ·rw [if_pos c14] at H
       have uK : decide (KB < a0) = true := decide_eq_true c14
       clear c14
       obtain ⟨ji15, hji15⟩ : ∃ j_ : Int, (wrap64 (2 + (wrap64 (2 * KB)))) = j_ := ⟨_, rfl⟩
       replace H : (if 0 ≤ (ji15) then (if (ji15) < (BA.length : Int) then (impl_RiNew.l0 k1 a0 (wrap64 (KB + 1)) (BA.set ((ji15) : Int).toNat KB)) else (none)) else (none)) = some (r1, r2) := by first | (rw [hji15] at H; exact H) | (simp only [hji15] at H ⊢; exact H)
       have hji15w : (IntKind.i64.wrap (2 + (wrap64 (2 * KB)))) = ji15 := (i64_w _).trans hji15
       by_cases c16 : 0 ≤ (ji15)
       ·rw [if_pos c16] at H
        have IF : decide (0 ≤ (ji15)) = true := decide_eq_true c16
        clear c16
        by_cases c17 : (ji15) < (BA.length : Int)
        ·rw [if_pos c17] at H
         have mK : decide ((ji15) < (BA.length : Int)) = true := decide_eq_true c17
         clear c17
         obtain ⟨y898, hy898⟩ : ∃ y_ : List Int, y_ = (BA.set ((ji15) : Int).toNat KB) := ⟨_, rfl⟩
         replace H : (impl_RiNew.l0 k1 a0 (wrap64 (KB + 1)) y898) = some (r1, r2) := by first | (rw [hy898]; with_reducible exact H) | (have H2_ := (Option.bind_some _ _).symm.trans H; rw [hy898]; with_reducible exact H2_) | (have H2_ := (Option.bind_some _ _).symm.trans H; with_reducible exact H2_) | with_reducible exact H | (rw [hy898]; exact H) | exact H
         have Ny898 := Aside0.mk hy898
         clear hy898
         have H' := Aside0.mk H
         clear H
         have SN := fD.out
         have TN := yC.out
         have yH : wr.cell? ⟨HC, 0, none⟩ = some (QC) := (blk_cell MB.out 0).trans rfl
         have zH := blk_frozen MB.out 0
         have p18 : 0 ≤ ((ji15) : Int) := of_decide_eq_true q1_3
         have q18 : ((ji15) : Int) < ((BA.length : Int) : Int) := of_decide_eq_true q1_3
         obtain ⟨go18, bJ, vK, wK, gl18, cl18, HG18⟩ := Kd.R_form WA.out (by omega)
         (first | cases vK | (injection vK with ea_ en_ ec_; (first | subst ea_ | (injection ea_ with ea_; subst ea_)); subst ec_; clear en_))
         have GB18 := Aside0.mk wK
         have GG18 := Aside0.mk HG18
         clear wK gl18 HG18
         obtain ⟨rM, sM⟩ := Kd.R_celln 0 WA.out ((ji15) : Int) p18 q18
         replace p18 := eq_true p18
         replace q18 := eq_true q18
         have HP21 := Kd.R_putg WA.out ((ji15) : Int) KB
         go_wp2_with (first | ((with_reducible refine gate_store (t := 3) (p := 25) rfl ?_); refine store_event (t := 3) (p := 25) (v := ?vo_w22) (w1 := (wr.setCell ⟨go18, ((ji15) : Int).toNat, none⟩ (.int .i64 KB))) ?hg ?ho ?hn ?hr ?_; (case ho => rfl); (case hg => rfl); (case hn => rfl); (case hr => first | (go_simp; done) | (go_simp; rfl)); intro xK hw; have hg : wr.grownBy xK (some go18) := (by rw [hw]; exact HP21.2); have hp_ : Kd.R (Kd.int .i64) 3 xK w.heap.size (fun _ => True) (.slice (some ⟨go18, 0, none⟩) BA.length bJ) y898 := (by rw [hw, Ny898.out]; exact HP21.1); clear HP21; have eA := Aside0.mk (hp_); have fA := Aside0.mk (blk_grown (g := lB) (o := .cells #[.slice none 0 0] 29 (0, 0)) q1_22 hg (Kd.R_ne WA.out eB.out q1_57)); have jA := Aside0.mk (blk_grown (g := HC) (o := .cells #[.slice (some ⟨go18, 0, none⟩) BA.length bJ] 29 (0, 0)) (by (with_reducible repeat (first | refine blk_drewN ?_ _ | refine blk_drew ?_ | refine blk_alloc ?_ _)); exact MB.out) hg (Kd.R_ne WA.out MB.out q1_57)); have pA := Aside0.mk ((by rw [hw]; exact below_set (HB.out) GB18.out : Below w.heap.size w xK)); clear WA; clear eB; clear MB; clear HB; have WA := eA; have eB := fA; have MB := jA; have HB := pA; clear eA fA jA pA; clear hg hw hp_))
         go_roundg k1
         case measure => have := HK1.out; omega
         case rel => exact ⟨(wrap64 (KB + 1)), (y898), (.slice (some ⟨go18, 0, none⟩) BA.length bJ), q1_17, H', ⟨by have := HK1.out; omega⟩, ⟨by (with_reducible repeat (first | apply Kd.R_alloc | apply Kd.R_drewN | apply Kd.R_drew)); exact WA.out⟩, ⟨q1_22⟩, ⟨by (with_reducible repeat (first | refine blk_drewN ?_ _ | refine blk_drew ?_ | refine blk_alloc ?_ _)); exact MB.out⟩, ⟨q1_45⟩⟩
        ·rw [if_neg c17] at H
         exact absurd H (by simp)
       ·rw [if_neg c16] at H
        exact absurd H (by simp)
      ·rw [if_neg c14] at H
       have uK : decide (KB < a0) = false := decide_eq_false c14
       clear c14
       simp only [Option.some.injEq, Prod.mk.injEq] at H
       obtain ⟨rfl, rfl⟩ := H
       have UN := fD.out
       have VN := yC.out
       have fL : wr.cell? ⟨HC, 0, none⟩ = some (QC) := (blk_cell MB.out 0).trans rfl
       have gL := blk_frozen MB.out 0
       obtain ⟨yK, zK, tM⟩ := Kd.R_slice WA.out
       subst tM
       have hL : wr.cell? ⟨lB, 0, none⟩ = some (.slice none 0 0) := (blk_cell eB.out 0).trans rfl
       have iL := blk_frozen eB.out 0
       go_wp2
       refine bodyPost_ret (results_ct rfl _ _ lB 29 #[.slice yK BA.length zK] (0, 0) _ rfl (by (with_reducible repeat (first | refine blk_drewN ?_ _ | refine blk_drew ?_ | refine blk_alloc ?_ _)); refine blk_put (cs := #[.slice none 0 0]) ?_ 0 _ rfl; (with_reducible repeat (first | refine blk_drewN ?_ _ | refine blk_drew ?_ | refine blk_alloc ?_ _)); exact eB.out) Tryz.underlying29 rfl q1_35) rfl ?_
       exact ⟨_, by first | rfl | (simp [errW_none, errW_some] <;> rfl) | (simp only [← hji4]; first | rfl | (simp [errW_none, errW_some] <;> rfl)) | (simp [*, errW_none, errW_some] <;> rfl), by (with_reducible repeat (first | apply Kd.R_alloc | apply Kd.R_drewN | apply Kd.R_drew)); exact Kd.R_mono (Kd.R_far (p := ⟨lB, 0, none⟩) (Kd.R_types WA.out eB.out q1_57) (fun _ hk => hk.2) (.slice yK BA.length zK)) (fun _ hk => trivial), q1_45⟩
   ·rw [if_neg c6] at H
    exact absurd H (by simp)
  ·rw [if_neg c5] at H
   exact absurd H (by simp)
 ·replace c3 := Bool.eq_false_iff.mpr c3
  subst c3
  have H1 : (some (([] : List Int), false)) = some (r1, r2) := by rw [if_neg (show ¬ (false = true) by decide)] at H; exact H
  clear H
  have H := H1
  clear H1
  simp only [Option.some.injEq, Prod.mk.injEq] at H
  obtain ⟨rfl, rfl⟩ := H
  go_enter Tryz.func80, Tryz.ntmps80
  go_wp2_with (first | ((with_reducible refine gate_dst (N := 2) rfl ?_); refine box_event ?hg (N := 2) ?hd (cs := #[.slice none 0 0]) (t := 29) ?hr ?_; (case hd => rfl); (case hg => rfl); (case hr => first | (go_simp; done) | (go_simp; rfl)); intro lB hg UJ hbox hb; have eA := Aside0.mk (below_step q1_0 hb); have fA := Aside0.mk (hbox); have jA := Aside0.mk ((q1_6 : w.heap.size ≤ lB)); have pA := Aside0.mk ((q1_6 : w.heap.size ≤ lB)); clear HB; have HB := eA; have eB := fA; have tK := jA; have SG := pA; clear eA fA jA pA; clear hb hbox hg) | ((with_reducible refine gate_callee (f := 82) rfl ?_); refine goesL_ (some 7) rfl rfl Tryz.func82 q1_35 rfl #[.int .i64 a0, .int .i64 2, .int .i64 16] rfl q1_1 ?_; (with_reducible refine (impl_within.calls a0 2 16 false _ A2.out).mono ?_); rintro e w' ⟨rfl, ⟨nd, rfl⟩⟩; refine ⟨_, rfl, ?_⟩; (try (rw [drewN_self UJ]; generalize hq_ : World.drewN UJ _ = UJ; have eA : Aside0 (UJ.heap[lB]? = some (.cells #[.slice none 0 0] 29 (0, 0))) := ⟨by rw [← hq_]; exact q1_22⟩; have fA : Aside0 (Below w.heap.size w UJ) := ⟨by rw [← hq_]; exact q1_14⟩; clear eB HB hq_; have eB := eA; have HB := fA; clear eA fA)); have jL : UJ.cell? ⟨lB, 0, none⟩ = some (.slice none 0 0) := (blk_cell eB.out 0).trans rfl; have kL := blk_frozen eB.out 0))
  refine bodyPost_ret (results_ct rfl _ _ lB 29 #[.slice none 0 0] (0, 0) _ rfl (by (with_reducible repeat (first | refine blk_drewN ?_ _ | refine blk_drew ?_ | refine blk_alloc ?_ _)); refine blk_put (cs := #[.slice none 0 0]) ?_ 0 _ rfl; (with_reducible repeat (first | refine blk_drewN ?_ _ | refine blk_drew ?_ | refine blk_alloc ?_ _)); exact eB.out) Tryz.underlying29 rfl q1_35) rfl ?_
  exact ⟨_, q1_2, q1_39, q1_14⟩
def impl_LiNew.f (a0 : Int) : Option (List Int × Bool) := (impl_within.f a0 1 16).bind fun wG => (if wG = true then (if 0 ≤ (wrap64 (1 + (wrap64 (2 * a0)))) then (if (wrap64 (1 + (wrap64 (2 * a0))) : Int).toNat ≤ 35184372088832 then (some ((List.replicate (wrap64 (1 + (wrap64 (2 * a0))) : Int).toNat 0), true)) else (none)) else (none)) else (some (([] : List Int), false)))
set_option maxHeartbeats 8000000 in
set_option maxRecDepth 100000 in
theorem impl_LiNew.calls (a0 : Int) (r1 : List Int) (r2 : Bool) (w : World) (h : impl_LiNew.f a0 = some (r1, r2)) :
  Calls Tryz.prog 81 #[.int .i64 a0] w fun e w' => ∃ v0_ : Value, e = .returned (.tuple #[.agg #[v0_], .bool r2]) ∧ Kd.R (Kd.int .i64) 3 w' w.heap.size (fun _ => True) v0_ r1 ∧ Below w.heap.size w w' := by
 have hu29 := Tryz.underlying29
 have HB := Aside0.mk (Below.refl w.heap.size w)
 have H : ((impl_within.f a0 1 16).bind fun wG => (if wG = true then (if 0 ≤ (wrap64 (1 + (wrap64 (2 * a0)))) then (if (wrap64 (1 + (wrap64 (2 * a0))) : Int).toNat ≤ 35184372088832 then (some ((List.replicate (wrap64 (1 + (wrap64 (2 * a0))) : Int).toNat 0), true)) else (none)) else (none)) else (some (([] : List Int), false)))) = some (r1, r2) := h
 clear h
 replace H := Option.bind_eq_some_iff.mp H
 obtain ⟨wG, A20, H⟩ := H
 replace H : (if wG = true then (if 0 ≤ (wrap64 (1 + (wrap64 (2 * a0)))) then (if (wrap64 (1 + (wrap64 (2 * a0))) : Int).toNat ≤ 35184372088832 then (some ((List.replicate (wrap64 (1 + (wrap64 (2 * a0))) : Int).toNat 0), true)) else (none)) else (none)) else (some (([] : List Int), false))) = some (r1, r2) := H
 have A2 := Aside0.mk A20
 clear A20
 by_cases c3 : wG = true
 ·subst c3
  have H1 : (if 0 ≤ (wrap64 (1 + (wrap64 (2 * a0)))) then (if (wrap64 (1 + (wrap64 (2 * a0))) : Int).toNat ≤ 35184372088832 then (some ((List.replicate (wrap64 (1 + (wrap64 (2 * a0))) : Int).toNat 0), true)) else (none)) else (none)) = some (r1, r2) := by rw [if_pos rfl] at H; exact H
  clear H
  have H := H1
  clear H1
  obtain ⟨ji4, hji4⟩ : ∃ j_ : Int, (wrap64 (1 + (wrap64 (2 * a0)))) = j_ := ⟨_, rfl⟩
  replace H : (if 0 ≤ (ji4) then (if (ji4 : Int).toNat ≤ 35184372088832 then (some ((List.replicate (ji4 : Int).toNat 0), true)) else (none)) else (none)) = some (r1, r2) := by first | (rw [hji4] at H; exact H) | (simp only [hji4] at H ⊢; exact H)
  (try rw [hji4] at A2)
  have hji4w : (IntKind.i64.wrap (1 + (wrap64 (2 * a0)))) = ji4 := (i64_w _).trans hji4
  by_cases c5 : 0 ≤ (ji4)
  ·rw [if_pos c5] at H
   have aJ := eq_true c5
   have sK : decide (0 ≤ (ji4)) = true := decide_eq_true c5
   clear c5
   by_cases c6 : (ji4 : Int).toNat ≤ 35184372088832
   ·rw [if_pos c6] at H
    have OC := eq_true c6
    have vH : decide ((ji4 : Int).toNat ≤ 35184372088832) = true := decide_eq_true c6
    clear c6
    obtain ⟨y901, hy901⟩ : ∃ y_ : List Int, y_ = (List.replicate (ji4 : Int).toNat 0) := ⟨_, rfl⟩
    replace H : (some (y901, true)) = some (r1, r2) := by first | (rw [hy901]; with_reducible exact H) | (have H2_ := (Option.bind_some _ _).symm.trans H; rw [hy901]; with_reducible exact H2_) | (have H2_ := (Option.bind_some _ _).symm.trans H; with_reducible exact H2_) | with_reducible exact H | (rw [hy901]; exact H) | exact H
    have Ny901 := Aside0.mk hy901
    clear hy901
    simp only [Option.some.injEq, Prod.mk.injEq] at H
    obtain ⟨rfl, rfl⟩ := H
    go_enter Tryz.func81, Tryz.ntmps81
    go_wp2_with (first | ((with_reducible refine gate_dst (N := 2) rfl ?_); refine box_event ?hg (N := 2) ?hd (cs := #[.slice none 0 0]) (t := 29) ?hr ?_; (case hd => rfl); (case hg => rfl); (case hr => first | (go_simp; done) | (go_simp; rfl)); intro TB hg w7 hbox hb; have eA := Aside0.mk (below_step q1_0 hb); have fA := Aside0.mk (hbox); have jA := Aside0.mk ((q1_6 : w.heap.size ≤ TB)); have pA := Aside0.mk ((q1_6 : w.heap.size ≤ TB)); clear HB; have HB := eA; have xB := fA; have AK := jA; have xI := pA; clear eA fA jA pA; clear hb hbox hg) | ((with_reducible refine gate_callee (f := 82) rfl ?_); refine goesL_ (some 5) rfl rfl Tryz.func82 q1_35 rfl #[.int .i64 a0, .int .i64 1, .int .i64 16] rfl q1_1 ?_; (with_reducible refine (impl_within.calls a0 1 16 true _ A2.out).mono ?_); rintro e w' ⟨rfl, ⟨nd, rfl⟩⟩; refine ⟨_, rfl, ?_⟩; (try (rw [drewN_self w7]; generalize hq_ : World.drewN w7 _ = w7; have eA : Aside0 (w7.heap[TB]? = some (.cells #[.slice none 0 0] 29 (0, 0))) := ⟨by rw [← hq_]; exact (by (with_reducible repeat (first | refine blk_drewN ?_ _ | refine blk_drew ?_ | refine blk_alloc ?_ _)); exact xB.out)⟩; have fA : Aside0 (Below w.heap.size w w7) := ⟨by rw [← hq_]; exact q1_21⟩; clear xB HB hq_; have xB := eA; have HB := fA; clear eA fA))) | ((with_reducible refine gate_dst (N := 11) rfl ?_); refine Kd.R_make (Kd.int .i64) _ 3 rfl (N := 11) rfl 22 _ _ rfl ji4 rfl rfl Tryz.underlying22 (.int .i64 0) 8 info3 rfl q1_57 (by omega) 0 (ok := fun _ => True) (okp := fun _ => True) rfl (fun _ hk => hk) trivial (of_decide_eq_true q1_3) (Nat.le_trans (Nat.mul_le_mul_right _ (of_decide_eq_true q1_3 : ji4.toNat ≤ 35184372088832)) (by omega)) (Below.refl _ _) (Nat.le_refl _) ?_; intro AO w8 ho9 hb hg_ hnew_; clear hg_ hnew_; (first | rw [← Ny901.out] at ho9 | (simp only [Int.reduceToNat] at ho9; rw [← Ny901.out] at ho9)); have eA := Aside0.mk (Kd.R_lower ho9 (below_size q1_21)); have fA := Aside0.mk (blk_below (g := TB) (o := .cells #[.slice none 0 0] 29 (0, 0)) (by (with_reducible repeat (first | refine blk_drewN ?_ _ | refine blk_drew ?_ | refine blk_alloc ?_ _)); exact xB.out) hb); have jA := Aside0.mk (below_step q1_21 hb); clear xB; clear HB; have JI := eA; have xB := fA; have HB := jA; clear eA fA jA; clear hb ho9; obtain ⟨jD, hC, dD⟩ := Kd.R_slice JI.out; subst dD; have ND : w8.cell? ⟨TB, 0, none⟩ = some (.slice none 0 0) := (blk_cell xB.out 0).trans rfl; have OD := blk_frozen xB.out 0))
    refine bodyPost_ret (results_ct rfl _ _ TB 29 #[.slice jD y901.length hC] (0, 0) _ rfl (by (with_reducible repeat (first | refine blk_drewN ?_ _ | refine blk_drew ?_ | refine blk_alloc ?_ _)); refine blk_put (cs := #[.slice none 0 0]) ?_ 0 _ rfl; (with_reducible repeat (first | refine blk_drewN ?_ _ | refine blk_drew ?_ | refine blk_alloc ?_ _)); exact xB.out) Tryz.underlying29 rfl q1_35) rfl ?_
    exact ⟨_, by first | rfl | (simp [errW_none, errW_some] <;> rfl) | (simp only [← hji4]; first | rfl | (simp [errW_none, errW_some] <;> rfl)) | (simp [*, errW_none, errW_some] <;> rfl), by (with_reducible repeat (first | apply Kd.R_alloc | apply Kd.R_drewN | apply Kd.R_drew)); exact Kd.R_mono (Kd.R_far (p := ⟨TB, 0, none⟩) (Kd.R_types JI.out xB.out q1_57) (fun _ hk => hk.2) (.slice jD y901.length hC)) (fun _ hk => trivial), q1_21⟩
   ·rw [if_neg c6] at H
    exact absurd H (by simp)
  ·rw [if_neg c5] at H
   exact absurd H (by simp)
 ·replace c3 := Bool.eq_false_iff.mpr c3
  subst c3
  have H1 : (some (([] : List Int), false)) = some (r1, r2) := by rw [if_neg (show ¬ (false = true) by decide)] at H; exact H
  clear H
  have H := H1
  clear H1
  simp only [Option.some.injEq, Prod.mk.injEq] at H
  obtain ⟨rfl, rfl⟩ := H
  go_enter Tryz.func81, Tryz.ntmps81
  go_wp2_with (first | ((with_reducible refine gate_dst (N := 2) rfl ?_); refine box_event ?hg (N := 2) ?hd (cs := #[.slice none 0 0]) (t := 29) ?hr ?_; (case hd => rfl); (case hg => rfl); (case hr => first | (go_simp; done) | (go_simp; rfl)); intro TB hg pD hbox hb; have eA := Aside0.mk (below_step q1_0 hb); have fA := Aside0.mk (hbox); have jA := Aside0.mk ((q1_6 : w.heap.size ≤ TB)); have pA := Aside0.mk ((q1_6 : w.heap.size ≤ TB)); clear HB; have HB := eA; have xB := fA; have AK := jA; have xI := pA; clear eA fA jA pA; clear hb hbox hg) | ((with_reducible refine gate_callee (f := 82) rfl ?_); refine goesL_ (some 5) rfl rfl Tryz.func82 q1_35 rfl #[.int .i64 a0, .int .i64 1, .int .i64 16] rfl q1_1 ?_; (with_reducible refine (impl_within.calls a0 1 16 false _ A2.out).mono ?_); rintro e w' ⟨rfl, ⟨nd, rfl⟩⟩; refine ⟨_, rfl, ?_⟩; (try (rw [drewN_self pD]; generalize hq_ : World.drewN pD _ = pD; have eA : Aside0 (pD.heap[TB]? = some (.cells #[.slice none 0 0] 29 (0, 0))) := ⟨by rw [← hq_]; exact (by (with_reducible repeat (first | refine blk_drewN ?_ _ | refine blk_drew ?_ | refine blk_alloc ?_ _)); exact xB.out)⟩; have fA : Aside0 (Below w.heap.size w pD) := ⟨by rw [← hq_]; exact q1_21⟩; clear xB HB hq_; have xB := eA; have HB := fA; clear eA fA)); have wC : pD.cell? ⟨TB, 0, none⟩ = some (.slice none 0 0) := (blk_cell xB.out 0).trans rfl; have xC := blk_frozen xB.out 0))
  refine bodyPost_ret (results_ct rfl _ _ TB 29 #[.slice none 0 0] (0, 0) _ rfl (by (with_reducible repeat (first | refine blk_drewN ?_ _ | refine blk_drew ?_ | refine blk_alloc ?_ _)); refine blk_put (cs := #[.slice none 0 0]) ?_ 0 _ rfl; (with_reducible repeat (first | refine blk_drewN ?_ _ | refine blk_drew ?_ | refine blk_alloc ?_ _)); exact xB.out) Tryz.underlying29 rfl q1_35) rfl ?_
  exact ⟨_, q1_2, q1_39, q1_21⟩
def impl_cellsOf.f (k : Nat) (a0 : Int) (a1 : Int) (a2 : Bool) : Option (List Int × Bool) := if a0 = 1 then ((impl_StNew.f k a1 a2).bind fun yE => (some (yE.1, yE.2))) else (if a0 = 2 then ((impl_RiNew.f k a1).bind fun zE => (some (zE.1, zE.2))) else (if a0 = 3 then ((impl_LiNew.f a1).bind fun AE => (some (AE.1, AE.2))) else (some (([] : List Int), false))))
theorem impl_cellsOf.mono : ∀ a0 a1 a2 k, LeO (impl_cellsOf.f k a0 a1 a2) (impl_cellsOf.f (k + 1) a0 a1 a2) := by
 intro a0 a1 a2 k
 unfold impl_cellsOf.f
 repeat' first
   | (with_reducible exact impl_RiNew.mono _ _)
   | (with_reducible exact impl_StNew.mono _ _ _)
   | (with_reducible exact LeO.refl _)
   | (with_reducible exact LeO.none _)
   | (with_reducible refine LeO.ite ?_ ?_)
   | (with_reducible refine LeO.bind ?_ (fun _ => ?_))
   | exact impl_RiNew.mono _ _
   | exact impl_StNew.mono _ _ _
   | exact LeO.none _
   | refine LeO.ite ?_ ?_
   | refine LeO.bind ?_ (fun _ => ?_)
set_option maxHeartbeats 8000000 in
set_option maxRecDepth 100000 in
theorem impl_cellsOf.calls (k : Nat) (a0 : Int) (a1 : Int) (a2 : Bool) (r1 : List Int) (r2 : Bool) (w : World) (h : impl_cellsOf.f k a0 a1 a2 = some (r1, r2)) :
  Calls Tryz.prog 48 #[.int .i64 a0, .int .i64 a1, .bool a2] w fun e w' => ∃ v0_ : Value, e = .returned (.tuple #[.agg #[v0_], .bool r2]) ∧ Kd.R (Kd.int .i64) 3 w' w.heap.size (fun _ => True) v0_ r1 ∧ Below w.heap.size w w' := by
 have hu29 := Tryz.underlying29
 have HB := Aside0.mk (Below.refl w.heap.size w)
 have H : (if a0 = 1 then ((impl_StNew.f k a1 a2).bind fun yE => (some (yE.1, yE.2))) else (if a0 = 2 then ((impl_RiNew.f k a1).bind fun zE => (some (zE.1, zE.2))) else (if a0 = 3 then ((impl_LiNew.f a1).bind fun AE => (some (AE.1, AE.2))) else (some (([] : List Int), false))))) = some (r1, r2) := h
 clear h
 by_cases c4 : a0 = 1
 ·rw [if_pos c4] at H
  have BD : (a0 == 1) = true := beq_iff_eq.mpr c4
  have uM : (a0 != 1) = false := bne_eq_false_iff_eq.mpr c4
  clear c4
  replace H := Option.bind_eq_some_iff.mp H
  obtain ⟨⟨AH, BK⟩, A50, H⟩ := H
  replace H : (some (AH, BK)) = some (r1, r2) := H
  have A5 := Aside0.mk A50
  clear A50
  simp only [Option.some.injEq, Prod.mk.injEq] at H
  obtain ⟨rfl, rfl⟩ := H
  go_enter Tryz.func48, Tryz.ntmps48
  go_wp2_with (first | ((with_reducible refine gate_dst (N := 6) rfl ?_); refine box_event ?hg (N := 6) ?hd (cs := #[.slice none 0 0]) (t := 29) ?hr ?_; (case hd => rfl); (case hg => rfl); (case hr => first | (go_simp; done) | (go_simp; rfl)); intro UA hg w6 hbox hb; have eA := Aside0.mk (below_step q1_0 hb); have fA := Aside0.mk (hbox); have jA := Aside0.mk ((q1_6 : w.heap.size ≤ UA)); have pA := Aside0.mk ((q1_6 : w.heap.size ≤ UA)); clear HB; have HB := eA; have XA := fA; have aH := jA; have zF := pA; clear eA fA jA pA; clear hb hbox hg) | ((with_reducible refine gate_callee (f := 79) rfl ?_); refine goesL_ (some 13) rfl rfl Tryz.func79 q1_35 rfl #[.int .i64 a1, .bool a2] rfl q1_1 ?_; (with_reducible refine (impl_StNew.calls k a1 a2 AH BK _ A5.out).mono ?_); rintro e w7 ⟨BO, rfl, ho0, hb⟩; refine ⟨_, rfl, ?_⟩; have eA := Aside0.mk (Kd.R_lower ho0 (below_size q1_9)); have fA := Aside0.mk (blk_below (g := UA) (o := .cells #[.slice none 0 0] 29 (0, 0)) (by (with_reducible repeat (first | refine blk_drewN ?_ _ | refine blk_drew ?_ | refine blk_alloc ?_ _)); exact XA.out) hb); have jA := Aside0.mk (below_step q1_9 hb); clear XA; clear HB; have KI := eA; have XA := fA; have HB := jA; clear eA fA jA; (try clear hb); (try clear hb2); (try clear hk); (try clear hi); (try clear ho0); obtain ⟨eK, fK, iM⟩ := Kd.R_slice KI.out; subst iM; have IE : w7.cell? ⟨UA, 0, none⟩ = some (.slice none 0 0) := (blk_cell XA.out 0).trans rfl; have JE := blk_frozen XA.out 0))
  refine bodyPost_ret (results_ct rfl _ _ UA 29 #[.slice eK AH.length fK] (0, 0) _ rfl q1_20 Tryz.underlying29 rfl q1_35) rfl ?_
  exact ⟨_, q1_2, by (with_reducible repeat (first | apply Kd.R_alloc | apply Kd.R_drewN | apply Kd.R_drew)); exact Kd.R_mono (Kd.R_far (p := ⟨UA, 0, none⟩) (Kd.R_types KI.out XA.out q1_57) (fun _ hk => hk.2) (.slice eK AH.length fK)) (fun _ hk => trivial), q1_9⟩
 ·rw [if_neg c4] at H
  have BD : (a0 == 1) = false := beq_eq_false_iff_ne.mpr c4
  have uM : (a0 != 1) = true := bne_iff_ne.mpr c4
  by_cases c10 : a0 = 2
  ·rw [if_pos c10] at H
   have CK : (a0 == 2) = true := beq_iff_eq.mpr c10
   have DK : (a0 != 2) = false := bne_eq_false_iff_eq.mpr c10
   clear c10
   replace H := Option.bind_eq_some_iff.mp H
   obtain ⟨⟨BH, EK⟩, A110, H⟩ := H
   replace H : (some (BH, EK)) = some (r1, r2) := H
   have A11 := Aside0.mk A110
   clear A110
   simp only [Option.some.injEq, Prod.mk.injEq] at H
   obtain ⟨rfl, rfl⟩ := H
   go_enter Tryz.func48, Tryz.ntmps48
   go_wp2_with (first | ((with_reducible refine gate_dst (N := 6) rfl ?_); refine box_event ?hg (N := 6) ?hd (cs := #[.slice none 0 0]) (t := 29) ?hr ?_; (case hd => rfl); (case hg => rfl); (case hr => first | (go_simp; done) | (go_simp; rfl)); intro UA hg pD hbox hb; have eA := Aside0.mk (below_step q1_0 hb); have fA := Aside0.mk (hbox); have jA := Aside0.mk ((q1_6 : w.heap.size ≤ UA)); have pA := Aside0.mk ((q1_6 : w.heap.size ≤ UA)); clear HB; have HB := eA; have XA := fA; have aH := jA; have zF := pA; clear eA fA jA pA; clear hb hbox hg) | ((with_reducible refine gate_callee (f := 80) rfl ?_); refine goesL_ (some 19) rfl rfl Tryz.func80 q1_35 rfl #[.int .i64 a1] rfl q1_1 ?_; (with_reducible refine (impl_RiNew.calls k a1 BH EK _ A11.out).mono ?_); rintro e DE ⟨CO, rfl, ho0, hb⟩; refine ⟨_, rfl, ?_⟩; have eA := Aside0.mk (Kd.R_lower ho0 (below_size q1_9)); have fA := Aside0.mk (blk_below (g := UA) (o := .cells #[.slice none 0 0] 29 (0, 0)) (by (with_reducible repeat (first | refine blk_drewN ?_ _ | refine blk_drew ?_ | refine blk_alloc ?_ _)); exact XA.out) hb); have jA := Aside0.mk (below_step q1_9 hb); clear XA; clear HB; have LI := eA; have XA := fA; have HB := jA; clear eA fA jA; (try clear hb); (try clear hb2); (try clear hk); (try clear hi); (try clear ho0); obtain ⟨FK, GK, vM⟩ := Kd.R_slice LI.out; subst vM; have nD : DE.cell? ⟨UA, 0, none⟩ = some (.slice none 0 0) := (blk_cell XA.out 0).trans rfl; have oD := blk_frozen XA.out 0))
   refine bodyPost_ret (results_ct rfl _ _ UA 29 #[.slice FK BH.length GK] (0, 0) _ rfl q1_20 Tryz.underlying29 rfl q1_35) rfl ?_
   exact ⟨_, q1_2, by (with_reducible repeat (first | apply Kd.R_alloc | apply Kd.R_drewN | apply Kd.R_drew)); exact Kd.R_mono (Kd.R_far (p := ⟨UA, 0, none⟩) (Kd.R_types LI.out XA.out q1_57) (fun _ hk => hk.2) (.slice FK BH.length GK)) (fun _ hk => trivial), q1_9⟩
  ·rw [if_neg c10] at H
   have CK : (a0 == 2) = false := beq_eq_false_iff_ne.mpr c10
   have DK : (a0 != 2) = true := bne_iff_ne.mpr c10
   by_cases c16 : a0 = 3
   ·rw [if_pos c16] at H
    have IF : (a0 == 3) = true := beq_iff_eq.mpr c16
    have HK : (a0 != 3) = false := bne_eq_false_iff_eq.mpr c16
    clear c16
    replace H := Option.bind_eq_some_iff.mp H
    obtain ⟨⟨CH, IK⟩, A170, H⟩ := H
    replace H : (some (CH, IK)) = some (r1, r2) := H
    have A17 := Aside0.mk A170
    clear A170
    simp only [Option.some.injEq, Prod.mk.injEq] at H
    obtain ⟨rfl, rfl⟩ := H
    go_enter Tryz.func48, Tryz.ntmps48
    go_wp2_with (first | ((with_reducible refine gate_dst (N := 6) rfl ?_); refine box_event ?hg (N := 6) ?hd (cs := #[.slice none 0 0]) (t := 29) ?hr ?_; (case hd => rfl); (case hg => rfl); (case hr => first | (go_simp; done) | (go_simp; rfl)); intro UA hg OO hbox hb; have eA := Aside0.mk (below_step q1_0 hb); have fA := Aside0.mk (hbox); have jA := Aside0.mk ((q1_6 : w.heap.size ≤ UA)); have pA := Aside0.mk ((q1_6 : w.heap.size ≤ UA)); clear HB; have HB := eA; have XA := fA; have aH := jA; have zF := pA; clear eA fA jA pA; clear hb hbox hg) | ((with_reducible refine gate_callee (f := 81) rfl ?_); refine goesL_ (some 25) rfl rfl Tryz.func81 q1_35 rfl #[.int .i64 a1] rfl q1_1 ?_; (with_reducible refine (impl_LiNew.calls a1 CH IK _ A17.out).mono ?_); rintro e WN ⟨DO, rfl, ho0, hb⟩; refine ⟨_, rfl, ?_⟩; have eA := Aside0.mk (Kd.R_lower ho0 (below_size q1_9)); have fA := Aside0.mk (blk_below (g := UA) (o := .cells #[.slice none 0 0] 29 (0, 0)) (by (with_reducible repeat (first | refine blk_drewN ?_ _ | refine blk_drew ?_ | refine blk_alloc ?_ _)); exact XA.out) hb); have jA := Aside0.mk (below_step q1_9 hb); clear XA; clear HB; have MI := eA; have XA := fA; have HB := jA; clear eA fA jA; (try clear hb); (try clear hb2); (try clear hk); (try clear hi); (try clear ho0); obtain ⟨JK, KK, wM⟩ := Kd.R_slice MI.out; subst wM; have wH : WN.cell? ⟨UA, 0, none⟩ = some (.slice none 0 0) := (blk_cell XA.out 0).trans rfl; have xH := blk_frozen XA.out 0))
    refine bodyPost_ret (results_ct rfl _ _ UA 29 #[.slice JK CH.length KK] (0, 0) _ rfl q1_20 Tryz.underlying29 rfl q1_35) rfl ?_
    exact ⟨_, q1_2, by (with_reducible repeat (first | apply Kd.R_alloc | apply Kd.R_drewN | apply Kd.R_drew)); exact Kd.R_mono (Kd.R_far (p := ⟨UA, 0, none⟩) (Kd.R_types MI.out XA.out q1_57) (fun _ hk => hk.2) (.slice JK CH.length KK)) (fun _ hk => trivial), q1_9⟩
   ·rw [if_neg c16] at H
    have IF : (a0 == 3) = false := beq_eq_false_iff_ne.mpr c16
    have HK : (a0 != 3) = true := bne_iff_ne.mpr c16
    simp only [Option.some.injEq, Prod.mk.injEq] at H
    obtain ⟨rfl, rfl⟩ := H
    go_enter Tryz.func48, Tryz.ntmps48
    go_wp2_with (first | ((with_reducible refine gate_dst (N := 6) rfl ?_); refine box_event ?hg (N := 6) ?hd (cs := #[.slice none 0 0]) (t := 29) ?hr ?_; (case hd => rfl); (case hg => rfl); (case hr => first | (go_simp; done) | (go_simp; rfl)); intro UA hg xK hbox hb; have eA := Aside0.mk (below_step q1_0 hb); have fA := Aside0.mk (hbox); have jA := Aside0.mk ((q1_6 : w.heap.size ≤ UA)); have pA := Aside0.mk ((q1_6 : w.heap.size ≤ UA)); clear HB; have HB := eA; have XA := fA; have aH := jA; have zF := pA; clear eA fA jA pA; clear hb hbox hg; have DH : xK.cell? ⟨UA, 0, none⟩ = some (.slice none 0 0) := (blk_cell XA.out 0).trans rfl; have EH := blk_frozen XA.out 0))
    refine bodyPost_ret (results_ct rfl _ _ UA 29 #[.slice none 0 0] (0, 0) _ rfl q1_20 Tryz.underlying29 rfl q1_35) rfl ?_
    exact ⟨_, q1_2, q1_39, q1_9⟩
def laws_szIntS.f (l0 : List Int) (a1 : Int) : Option (Int) := if (wrap64 (a1 - (l0.length : Int))) < 0 then (some (-1)) else (some (wrap64 (a1 - (l0.length : Int))))
set_option maxHeartbeats 8000000 in
set_option maxRecDepth 100000 in
theorem laws_szIntS.calls (A0 : Option Addr) (c0 : Nat) (l0 : List Int) (a1 : Int) (r : Int) (w : World) (hr0 : Kd.C (Kd.int .i64) w A0 l0.length l0) (hc0 : l0.length ≤ c0) (h : laws_szIntS.f l0 a1 = some r) :
  Calls Tryz.prog 35 #[.slice A0 l0.length c0, .int .i64 a1] w fun e w' => e = .returned (.int .i64 r) ∧ Drawn0 w w' := by
 clear hr0 hc0
 have H : (if (wrap64 (a1 - (l0.length : Int))) < 0 then (some (-1)) else (some (wrap64 (a1 - (l0.length : Int))))) = some r := h
 clear h
 by_cases c3 : (wrap64 (a1 - (l0.length : Int))) < 0
 ·rw [if_pos c3] at H
  have kD : decide ((wrap64 (a1 - (l0.length : Int))) < 0) = true := decide_eq_true c3
  clear c3
  obtain rfl := Option.some.inj H
  go_enter Tryz.func35, Tryz.ntmps35
  go_wp2
  go_ret
  exact ⟨q1_17, q1_58⟩
 ·rw [if_neg c3] at H
  have kD : decide ((wrap64 (a1 - (l0.length : Int))) < 0) = false := decide_eq_false c3
  clear c3
  obtain rfl := Option.some.inj H
  go_enter Tryz.func35, Tryz.ntmps35
  go_wp2
  go_ret
  exact ⟨q1_17, q1_58⟩
def laws_szMem.f (hA : List Int) (a1 : Int) : Option (Int) := (laws_szIntS.f hA a1).bind fun gD => (if gD < 0 then (some (-1)) else (some gD))
set_option maxHeartbeats 8000000 in
set_option maxRecDepth 100000 in
theorem laws_szMem.calls (rA : Option Addr) (sA : Nat) (hA : List Int) (a1 : Int) (r : Int) (w : World) (tB : Kd.C (Kd.int .i64) w rA hA.length hA) (yB : hA.length ≤ sA) (h : laws_szMem.f hA a1 = some r) :
  Calls Tryz.prog 17 #[.agg #[.slice rA hA.length sA], .int .i64 a1] w fun e w' => e = .returned (.int .i64 r) ∧ Below w.heap.size w w' := by
 have hu24 := Tryz.underlying24
 have rD := Aside0.mk tB
 have RB := Aside0.mk yB
 clear tB yB
 have HB := Aside0.mk (Below.refl w.heap.size w)
 have H : ((laws_szIntS.f hA a1).bind fun gD => (if gD < 0 then (some (-1)) else (some gD))) = some r := h
 clear h
 replace H := Option.bind_eq_some_iff.mp H
 obtain ⟨gD, A30, H⟩ := H
 replace H : (if gD < 0 then (some (-1)) else (some gD)) = some r := H
 have A3 := Aside0.mk A30
 clear A30
 by_cases c4 : gD < 0
 ·rw [if_pos c4] at H
  have BD : decide (gD < 0) = true := decide_eq_true c4
  clear c4
  obtain rfl := Option.some.inj H
  go_enter Tryz.func17, Tryz.ntmps17
  go_wp2_with (first | ((with_reducible refine gate_dst (N := 2) rfl ?_); refine box_event ?hg (N := 2) ?hd (cs := #[.slice rA hA.length sA]) (t := 24) ?hr ?_; (case hd => rfl); (case hg => rfl); (case hr => first | (go_simp; done) | (go_simp; rfl)); intro CD hg w5 hbox hb; have eA := Aside0.mk (below_step q1_0 hb); have fA := Aside0.mk (hbox); have jA := Aside0.mk ((q1_6 : w.heap.size ≤ CD)); have pA := Aside0.mk ((q1_6 : w.heap.size ≤ CD)); clear HB; have HB := eA; have BE := fA; have LK := jA; have bH := pA; clear eA fA jA pA; clear hb hbox hg; have GE : w5.cell? ⟨CD, 0, none⟩ = some (.slice rA hA.length sA) := (blk_cell BE.out 0).trans rfl; have HE := blk_frozen BE.out 0) | ((with_reducible refine gate_callee (f := 35) rfl ?_); refine goesL_ (some 8) rfl rfl Tryz.func35 q1_35 rfl #[.slice rA hA.length sA, .int .i64 a1] rfl q1_1 ?_; (with_reducible refine (laws_szIntS.calls _ _ hA a1 gD _ ?side1 ?side2 A3.out).mono ?_); (case side1 => exact q1_11); (case side2 => exact RB.out); rintro e w' ⟨rfl, ⟨nd, rfl⟩⟩; refine ⟨_, rfl, ?_⟩))
  go_ret
  exact ⟨q1_2, by repeat (first | (with_reducible first | exact HB.out | apply below_alloc | apply pw_below_drewN | apply below_drew1 | refine below_set ?_ bH.out) | exact HB.out)⟩
 ·rw [if_neg c4] at H
  have BD : decide (gD < 0) = false := decide_eq_false c4
  clear c4
  obtain rfl := Option.some.inj H
  go_enter Tryz.func17, Tryz.ntmps17
  go_wp2_with (first | ((with_reducible refine gate_dst (N := 2) rfl ?_); refine box_event ?hg (N := 2) ?hd (cs := #[.slice rA hA.length sA]) (t := 24) ?hr ?_; (case hd => rfl); (case hg => rfl); (case hr => first | (go_simp; done) | (go_simp; rfl)); intro CD hg w7 hbox hb; have eA := Aside0.mk (below_step q1_0 hb); have fA := Aside0.mk (hbox); have jA := Aside0.mk ((q1_6 : w.heap.size ≤ CD)); have pA := Aside0.mk ((q1_6 : w.heap.size ≤ CD)); clear HB; have HB := eA; have BE := fA; have LK := jA; have bH := pA; clear eA fA jA pA; clear hb hbox hg; have XG : w7.cell? ⟨CD, 0, none⟩ = some (.slice rA hA.length sA) := (blk_cell BE.out 0).trans rfl; have YG := blk_frozen BE.out 0) | ((with_reducible refine gate_callee (f := 35) rfl ?_); refine goesL_ (some 8) rfl rfl Tryz.func35 q1_35 rfl #[.slice rA hA.length sA, .int .i64 a1] rfl q1_1 ?_; (with_reducible refine (laws_szIntS.calls _ _ hA a1 gD _ ?side1 ?side2 A3.out).mono ?_); (case side1 => exact q1_11); (case side2 => exact RB.out); rintro e w' ⟨rfl, ⟨nd, rfl⟩⟩; refine ⟨_, rfl, ?_⟩))
  go_ret
  exact ⟨q1_2, by repeat (first | (with_reducible first | exact HB.out | apply below_alloc | apply pw_below_drewN | apply below_drew1 | refine below_set ?_ bH.out) | exact HB.out)⟩
def laws_szCallS.f (l0 : List (S114)) (a1 : Int) : Option (Int) := if (wrap64 (a1 - (l0.length : Int))) < 0 then (some (-1)) else (some (wrap64 (a1 - (l0.length : Int))))
set_option maxHeartbeats 8000000 in
set_option maxRecDepth 100000 in
theorem laws_szCallS.calls (A0 : Option Addr) (c0 : Nat) (l0 : List (S114)) (a1 : Int) (r : Int) (w : World) (hr0 : Kd.C k114 w A0 l0.length l0) (hc0 : l0.length ≤ c0) (h : laws_szCallS.f l0 a1 = some r) :
  Calls Tryz.prog 61 #[.slice A0 l0.length c0, .int .i64 a1] w fun e w' => e = .returned (.int .i64 r) ∧ Drawn0 w w' := by
 clear hr0 hc0
 have H : (if (wrap64 (a1 - (l0.length : Int))) < 0 then (some (-1)) else (some (wrap64 (a1 - (l0.length : Int))))) = some r := h
 clear h
 by_cases c3 : (wrap64 (a1 - (l0.length : Int))) < 0
 ·rw [if_pos c3] at H
  have kD : decide ((wrap64 (a1 - (l0.length : Int))) < 0) = true := decide_eq_true c3
  clear c3
  obtain rfl := Option.some.inj H
  go_enter Tryz.func61, Tryz.ntmps61
  go_wp2
  go_ret
  exact ⟨q1_17, q1_58⟩
 ·rw [if_neg c3] at H
  have kD : decide ((wrap64 (a1 - (l0.length : Int))) < 0) = false := decide_eq_false c3
  clear c3
  obtain rfl := Option.some.inj H
  go_enter Tryz.func61, Tryz.ntmps61
  go_wp2
  go_ret
  exact ⟨q1_17, q1_58⟩
def laws_szThread.f (hA : List (S114)) (cA : Int) (dA : List Int) (aA : List Int) (a1 : Int) : Option (Int) := (laws_szCallS.f hA a1).bind fun OB => (if OB < 0 then (some (-1)) else ((laws_szIntS.f dA OB).bind fun PB => (if PB < 0 then (some (-1)) else ((laws_szIntS.f aA PB).bind fun bC => (if bC < 0 then (some (-1)) else (some bC))))))
set_option maxHeartbeats 8000000 in
set_option maxRecDepth 100000 in
theorem laws_szThread.calls (rA : Option Addr) (sA : Nat) (hA : List (S114)) (cA : Int) (lA : Option Addr) (mA : Nat) (dA : List Int) (qA : Option Addr) (oA : Nat) (aA : List Int) (a1 : Int) (r : Int) (w : World) (tB : Kd.C k114 w rA hA.length hA) (yB : hA.length ≤ sA) (BB : Kd.C (Kd.int .i64) w lA dA.length dA) (CB : dA.length ≤ mA) (vB : Kd.C (Kd.int .i64) w qA aA.length aA) (DB : aA.length ≤ oA) (h : laws_szThread.f hA cA dA aA a1 = some r) :
  Calls Tryz.prog 36 #[.agg #[.slice rA hA.length sA, .int .i64 cA, .slice lA dA.length mA, .slice qA aA.length oA], .int .i64 a1] w fun e w' => e = .returned (.int .i64 r) ∧ Below w.heap.size w w' := by
 have hu66 := Tryz.underlying66
 have rD := Aside0.mk tB
 have RB := Aside0.mk yB
 clear tB yB
 have tD := Aside0.mk BB
 have pC := Aside0.mk CB
 clear BB CB
 have EB := Aside0.mk vB
 have RC := Aside0.mk DB
 clear vB DB
 have HB := Aside0.mk (Below.refl w.heap.size w)
 have H : ((laws_szCallS.f hA a1).bind fun OB => (if OB < 0 then (some (-1)) else ((laws_szIntS.f dA OB).bind fun PB => (if PB < 0 then (some (-1)) else ((laws_szIntS.f aA PB).bind fun bC => (if bC < 0 then (some (-1)) else (some bC))))))) = some r := h
 clear h
 replace H := Option.bind_eq_some_iff.mp H
 obtain ⟨OB, A30, H⟩ := H
 replace H : (if OB < 0 then (some (-1)) else ((laws_szIntS.f dA OB).bind fun PB => (if PB < 0 then (some (-1)) else ((laws_szIntS.f aA PB).bind fun bC => (if bC < 0 then (some (-1)) else (some bC)))))) = some r := H
 have A3 := Aside0.mk A30
 clear A30
 by_cases c4 : OB < 0
 ·rw [if_pos c4] at H
  have BD : decide (OB < 0) = true := decide_eq_true c4
  clear c4
  obtain rfl := Option.some.inj H
  go_enter Tryz.func36, Tryz.ntmps36
  go_wp2_with (first | ((with_reducible refine gate_dst (N := 2) rfl ?_); refine box_event ?hg (N := 2) ?hd (cs := #[.slice rA hA.length sA, .int .i64 cA, .slice lA dA.length mA, .slice qA aA.length oA]) (t := 66) ?hr ?_; (case hd => rfl); (case hg => rfl); (case hr => first | (go_simp; done) | (go_simp; rfl)); intro OA hg w5 hbox hb; have eA := Aside0.mk (below_step q1_0 hb); have fA := Aside0.mk (hbox); have jA := Aside0.mk ((q1_6 : w.heap.size ≤ OA)); have pA := Aside0.mk ((q1_6 : w.heap.size ≤ OA)); clear HB; have HB := eA; have AA := fA; have cH := jA; have AF := pA; clear eA fA jA pA; clear hb hbox hg; have GE : w5.cell? ⟨OA, 0, none⟩ = some (.slice rA hA.length sA) := (blk_cell AA.out 0).trans rfl; have cJ : w5.cell? ⟨OA, 1, none⟩ = some (.int .i64 cA) := (blk_cell AA.out 1).trans rfl; have dJ : w5.cell? ⟨OA, 2, none⟩ = some (.slice lA dA.length mA) := (blk_cell AA.out 2).trans rfl; have eJ : w5.cell? ⟨OA, 3, none⟩ = some (.slice qA aA.length oA) := (blk_cell AA.out 3).trans rfl; have HE := blk_frozen AA.out 0; have fJ := blk_frozen AA.out 1; have gJ := blk_frozen AA.out 2; have hJ := blk_frozen AA.out 3) | ((with_reducible refine gate_callee (f := 61) rfl ?_); refine goesL_ (some 8) rfl rfl Tryz.func61 q1_35 rfl #[.slice rA hA.length sA, .int .i64 a1] rfl q1_1 ?_; (with_reducible refine (laws_szCallS.calls _ _ hA a1 OB _ ?side1 ?side2 A3.out).mono ?_); (case side1 => exact q1_11); (case side2 => exact RB.out); rintro e w' ⟨rfl, ⟨nd, rfl⟩⟩; refine ⟨_, rfl, ?_⟩))
  go_ret
  exact ⟨q1_2, q1_13⟩
 ·rw [if_neg c4] at H
  have BD : decide (OB < 0) = false := decide_eq_false c4
  clear c4
  replace H := Option.bind_eq_some_iff.mp H
  obtain ⟨PB, A70, H⟩ := H
  replace H : (if PB < 0 then (some (-1)) else ((laws_szIntS.f aA PB).bind fun bC => (if bC < 0 then (some (-1)) else (some bC)))) = some r := H
  have A7 := Aside0.mk A70
  clear A70
  by_cases c8 : PB < 0
  ·rw [if_pos c8] at H
   have mH : decide (PB < 0) = true := decide_eq_true c8
   clear c8
   obtain rfl := Option.some.inj H
   go_enter Tryz.func36, Tryz.ntmps36
   go_wp2_with (first | ((with_reducible refine gate_dst (N := 2) rfl ?_); refine box_event ?hg (N := 2) ?hd (cs := #[.slice rA hA.length sA, .int .i64 cA, .slice lA dA.length mA, .slice qA aA.length oA]) (t := 66) ?hr ?_; (case hd => rfl); (case hg => rfl); (case hr => first | (go_simp; done) | (go_simp; rfl)); intro OA hg w9 hbox hb; have eA := Aside0.mk (below_step q1_0 hb); have fA := Aside0.mk (hbox); have jA := Aside0.mk ((q1_6 : w.heap.size ≤ OA)); have pA := Aside0.mk ((q1_6 : w.heap.size ≤ OA)); clear HB; have HB := eA; have AA := fA; have cH := jA; have AF := pA; clear eA fA jA pA; clear hb hbox hg; have JF : w9.cell? ⟨OA, 0, none⟩ = some (.slice rA hA.length sA) := (blk_cell AA.out 0).trans rfl; have KF : w9.cell? ⟨OA, 1, none⟩ = some (.int .i64 cA) := (blk_cell AA.out 1).trans rfl; have LF : w9.cell? ⟨OA, 2, none⟩ = some (.slice lA dA.length mA) := (blk_cell AA.out 2).trans rfl; have MF : w9.cell? ⟨OA, 3, none⟩ = some (.slice qA aA.length oA) := (blk_cell AA.out 3).trans rfl; have NF := blk_frozen AA.out 0; have OF := blk_frozen AA.out 1; have PF := blk_frozen AA.out 2; have QF := blk_frozen AA.out 3) | ((with_reducible refine gate_callee (f := 61) rfl ?_); refine goesL_ (some 8) rfl rfl Tryz.func61 q1_35 rfl #[.slice rA hA.length sA, .int .i64 a1] rfl q1_1 ?_; (with_reducible refine (laws_szCallS.calls _ _ hA a1 OB _ ?side1 ?side2 A3.out).mono ?_); (case side1 => exact q1_11); (case side2 => exact RB.out); rintro e w' ⟨rfl, ⟨nd, rfl⟩⟩; refine ⟨_, rfl, ?_⟩) | ((with_reducible refine gate_callee (f := 35) rfl ?_); refine goesL_ (some 14) rfl rfl Tryz.func35 q1_35 rfl #[.slice lA dA.length mA, .int .i64 OB] rfl q1_1 ?_; (with_reducible refine (laws_szIntS.calls _ _ dA OB PB _ ?side1 ?side2 A7.out).mono ?_); (case side1 => exact q1_50); (case side2 => exact pC.out); rintro e w' ⟨rfl, ⟨nd, rfl⟩⟩; refine ⟨_, rfl, ?_⟩))
   go_ret
   exact ⟨q1_2, q1_13⟩
  ·rw [if_neg c8] at H
   have mH : decide (PB < 0) = false := decide_eq_false c8
   clear c8
   replace H := Option.bind_eq_some_iff.mp H
   obtain ⟨bC, A110, H⟩ := H
   replace H : (if bC < 0 then (some (-1)) else (some bC)) = some r := H
   have A11 := Aside0.mk A110
   clear A110
   by_cases c12 : bC < 0
   ·rw [if_pos c12] at H
    have MK : decide (bC < 0) = true := decide_eq_true c12
    clear c12
    obtain rfl := Option.some.inj H
    go_enter Tryz.func36, Tryz.ntmps36
    go_wp2_with (first | ((with_reducible refine gate_dst (N := 2) rfl ?_); refine box_event ?hg (N := 2) ?hd (cs := #[.slice rA hA.length sA, .int .i64 cA, .slice lA dA.length mA, .slice qA aA.length oA]) (t := 66) ?hr ?_; (case hd => rfl); (case hg => rfl); (case hr => first | (go_simp; done) | (go_simp; rfl)); intro OA hg DE hbox hb; have eA := Aside0.mk (below_step q1_0 hb); have fA := Aside0.mk (hbox); have jA := Aside0.mk ((q1_6 : w.heap.size ≤ OA)); have pA := Aside0.mk ((q1_6 : w.heap.size ≤ OA)); clear HB; have HB := eA; have AA := fA; have cH := jA; have AF := pA; clear eA fA jA pA; clear hb hbox hg; have RF : DE.cell? ⟨OA, 0, none⟩ = some (.slice rA hA.length sA) := (blk_cell AA.out 0).trans rfl; have SF : DE.cell? ⟨OA, 1, none⟩ = some (.int .i64 cA) := (blk_cell AA.out 1).trans rfl; have TF : DE.cell? ⟨OA, 2, none⟩ = some (.slice lA dA.length mA) := (blk_cell AA.out 2).trans rfl; have UF : DE.cell? ⟨OA, 3, none⟩ = some (.slice qA aA.length oA) := (blk_cell AA.out 3).trans rfl; have VF := blk_frozen AA.out 0; have WF := blk_frozen AA.out 1; have XF := blk_frozen AA.out 2; have YF := blk_frozen AA.out 3) | ((with_reducible refine gate_callee (f := 61) rfl ?_); refine goesL_ (some 8) rfl rfl Tryz.func61 q1_35 rfl #[.slice rA hA.length sA, .int .i64 a1] rfl q1_1 ?_; (with_reducible refine (laws_szCallS.calls _ _ hA a1 OB _ ?side1 ?side2 A3.out).mono ?_); (case side1 => exact q1_11); (case side2 => exact RB.out); rintro e w' ⟨rfl, ⟨nd, rfl⟩⟩; refine ⟨_, rfl, ?_⟩) | ((with_reducible refine gate_callee (f := 35) rfl ?_); refine goesL_ (some 14) rfl rfl Tryz.func35 q1_35 rfl #[.slice lA dA.length mA, .int .i64 OB] rfl q1_1 ?_; (with_reducible refine (laws_szIntS.calls _ _ dA OB PB _ ?side1 ?side2 A7.out).mono ?_); (case side1 => exact q1_50); (case side2 => exact pC.out); rintro e w' ⟨rfl, ⟨nd, rfl⟩⟩; refine ⟨_, rfl, ?_⟩) | ((with_reducible refine gate_callee (f := 35) rfl ?_); refine goesL_ (some 20) rfl rfl Tryz.func35 q1_35 rfl #[.slice qA aA.length oA, .int .i64 PB] rfl q1_1 ?_; (with_reducible refine (laws_szIntS.calls _ _ aA PB bC _ ?side1 ?side2 A11.out).mono ?_); (case side1 => repeat (first | exact (Kd.C_below EB.out q1_13) | (with_reducible refine Kd.C_alloc ?_ _) | (with_reducible refine Kd.C_drewN ?_ _) | (with_reducible refine Kd.C_drew ?_))); (case side2 => exact RC.out); rintro e w' ⟨rfl, ⟨nd, rfl⟩⟩; refine ⟨_, rfl, ?_⟩))
    go_ret
    exact ⟨q1_2, q1_13⟩
   ·rw [if_neg c12] at H
    have MK : decide (bC < 0) = false := decide_eq_false c12
    clear c12
    obtain rfl := Option.some.inj H
    go_enter Tryz.func36, Tryz.ntmps36
    go_wp2_with (first | ((with_reducible refine gate_dst (N := 2) rfl ?_); refine box_event ?hg (N := 2) ?hd (cs := #[.slice rA hA.length sA, .int .i64 cA, .slice lA dA.length mA, .slice qA aA.length oA]) (t := 66) ?hr ?_; (case hd => rfl); (case hg => rfl); (case hr => first | (go_simp; done) | (go_simp; rfl)); intro OA hg ED hbox hb; have eA := Aside0.mk (below_step q1_0 hb); have fA := Aside0.mk (hbox); have jA := Aside0.mk ((q1_6 : w.heap.size ≤ OA)); have pA := Aside0.mk ((q1_6 : w.heap.size ≤ OA)); clear HB; have HB := eA; have AA := fA; have cH := jA; have AF := pA; clear eA fA jA pA; clear hb hbox hg; have FH : ED.cell? ⟨OA, 0, none⟩ = some (.slice rA hA.length sA) := (blk_cell AA.out 0).trans rfl; have GH : ED.cell? ⟨OA, 1, none⟩ = some (.int .i64 cA) := (blk_cell AA.out 1).trans rfl; have HH : ED.cell? ⟨OA, 2, none⟩ = some (.slice lA dA.length mA) := (blk_cell AA.out 2).trans rfl; have IH : ED.cell? ⟨OA, 3, none⟩ = some (.slice qA aA.length oA) := (blk_cell AA.out 3).trans rfl; have JH := blk_frozen AA.out 0; have KH := blk_frozen AA.out 1; have LH := blk_frozen AA.out 2; have MH := blk_frozen AA.out 3) | ((with_reducible refine gate_callee (f := 61) rfl ?_); refine goesL_ (some 8) rfl rfl Tryz.func61 q1_35 rfl #[.slice rA hA.length sA, .int .i64 a1] rfl q1_1 ?_; (with_reducible refine (laws_szCallS.calls _ _ hA a1 OB _ ?side1 ?side2 A3.out).mono ?_); (case side1 => exact q1_11); (case side2 => exact RB.out); rintro e w' ⟨rfl, ⟨nd, rfl⟩⟩; refine ⟨_, rfl, ?_⟩) | ((with_reducible refine gate_callee (f := 35) rfl ?_); refine goesL_ (some 14) rfl rfl Tryz.func35 q1_35 rfl #[.slice lA dA.length mA, .int .i64 OB] rfl q1_1 ?_; (with_reducible refine (laws_szIntS.calls _ _ dA OB PB _ ?side1 ?side2 A7.out).mono ?_); (case side1 => exact q1_50); (case side2 => exact pC.out); rintro e w' ⟨rfl, ⟨nd, rfl⟩⟩; refine ⟨_, rfl, ?_⟩) | ((with_reducible refine gate_callee (f := 35) rfl ?_); refine goesL_ (some 20) rfl rfl Tryz.func35 q1_35 rfl #[.slice qA aA.length oA, .int .i64 PB] rfl q1_1 ?_; (with_reducible refine (laws_szIntS.calls _ _ aA PB bC _ ?side1 ?side2 A11.out).mono ?_); (case side1 => repeat (first | exact (Kd.C_below EB.out q1_13) | (with_reducible refine Kd.C_alloc ?_ _) | (with_reducible refine Kd.C_drewN ?_ _) | (with_reducible refine Kd.C_drew ?_))); (case side2 => exact RC.out); rintro e w' ⟨rfl, ⟨nd, rfl⟩⟩; refine ⟨_, rfl, ?_⟩))
    go_ret
    exact ⟨q1_2, q1_13⟩
def laws_szThreadS.l0 : Nat → List (S66) → Int → Int → Option (Int)
 | 0, _, _, _ => none
 | k + 1, x0, x1, x5 => if x5 < (x0.length : Int) then (if 0 ≤ x5 then ((laws_szThread.f ((rd_T66 x0 x5).f0) ((rd_T66 x0 x5).f1) ((rd_T66 x0 x5).f2) ((rd_T66 x0 x5).f3) x1).bind fun DD => (if DD < 0 then (some (-1)) else (laws_szThreadS.l0 k x0 DD (wrap64 (x5 + 1))))) else (none)) else (some x1)
def laws_szThreadS.f (k : Nat) (l0 : List (S66)) (a1 : Int) : Option (Int) := if (wrap64 (a1 - (l0.length : Int))) < 0 then (some (-1)) else (laws_szThreadS.l0 k l0 (wrap64 (a1 - (l0.length : Int))) 0)
theorem laws_szThreadS.mono_l : ∀ k, (∀ y0 y1 y2, LeO (laws_szThreadS.l0 k y0 y1 y2) (laws_szThreadS.l0 (k + 1) y0 y1 y2))
 | 0 => fun _ _ _ r h => by simp [laws_szThreadS.l0] at h
 | k + 1 => by
  have ih0 := laws_szThreadS.mono_l k
  ·intro y0 y1 y2
   unfold laws_szThreadS.l0
   repeat' first
   | (with_reducible exact ih0 _ _ _)
   | (with_reducible exact LeO.refl _)
   | (with_reducible exact LeO.none _)
   | (with_reducible refine LeO.ite ?_ ?_)
   | (with_reducible refine LeO.bind ?_ (fun _ => ?_))
   | exact ih0 _ _ _
   | exact LeO.none _
   | refine LeO.ite ?_ ?_
   | refine LeO.bind ?_ (fun _ => ?_)
theorem laws_szThreadS.mono : ∀ a0 a1 k, LeO (laws_szThreadS.f k a0 a1) (laws_szThreadS.f (k + 1) a0 a1) := by
 intro a0 a1 k
 have ih0 := laws_szThreadS.mono_l k
 unfold laws_szThreadS.f
 repeat' first
   | (with_reducible exact ih0 _ _ _)
   | (with_reducible exact LeO.refl _)
   | (with_reducible exact LeO.none _)
   | (with_reducible refine LeO.ite ?_ ?_)
   | (with_reducible refine LeO.bind ?_ (fun _ => ?_))
   | exact ih0 _ _ _
   | exact LeO.none _
   | refine LeO.ite ?_ ?_
   | refine LeO.bind ?_ (fun _ => ?_)
set_option maxHeartbeats 8000000 in
set_option maxRecDepth 100000 in
theorem laws_szThreadS.calls (k : Nat) (A0 : Option Addr) (c0 : Nat) (l0 : List (S66)) (a1 : Int) (r : Int) (w : World) (hr0 : Kd.C k66 w A0 l0.length l0) (hc0 : l0.length ≤ c0) (h : laws_szThreadS.f k l0 a1 = some r) :
  Calls Tryz.prog 18 #[.slice A0 l0.length c0, .int .i64 a1] w fun e w' => e = .returned (.int .i64 r) ∧ Below w.heap.size w w' := by
 have hu66 := Tryz.underlying66
 have HR0 := Aside0.mk hr0
 clear hr0 hc0
 have HB := Aside0.mk (Below.refl w.heap.size w)
 have H : (if (wrap64 (a1 - (l0.length : Int))) < 0 then (some (-1)) else (laws_szThreadS.l0 k l0 (wrap64 (a1 - (l0.length : Int))) 0)) = some r := h
 clear h
 by_cases c3 : (wrap64 (a1 - (l0.length : Int))) < 0
 ·rw [if_pos c3] at H
  have kD : decide ((wrap64 (a1 - (l0.length : Int))) < 0) = true := decide_eq_true c3
  clear c3
  obtain rfl := Option.some.inj H
  go_enter Tryz.func18, Tryz.ntmps18
  go_wp2
  go_ret
  exact ⟨q1_2, q1_0⟩
 ·rw [if_neg c3] at H
  have kD : decide ((wrap64 (a1 - (l0.length : Int))) < 0) = false := decide_eq_false c3
  clear c3
  have H' := Aside0.mk H
  clear H
  go_enter Tryz.func18, Tryz.ntmps18
  go_wp2
  go_loopg [1, 5] k (fun kq v1 v5 w' => ∃ (VE : Int) (jB : Int), v1 = .int .i64 VE ∧ v5 = .int .i64 jB ∧ Aside0 (laws_szThreadS.l0 kq l0 VE jB = some r) ∧ Aside0 (kq ≤ k) ∧ Aside0 (Below w.heap.size w w'))
  case atStart => exact ⟨(wrap64 (a1 - (l0.length : Int))), (0), q1_17, q1_17, H', ⟨Nat.le_refl _⟩, ⟨q1_0⟩⟩
  case round =>
   clear H'
   (try clear c1); (try clear p2); (try clear c3); (try clear kD)
   obtain ⟨VE, jB, rfl, rfl, HA, HK1, HB⟩ := hrel
   cases gk with
   | zero => exact absurd HA.out (by simp [laws_szThreadS.l0])
   | succ k1 =>
    have H := HA.out
    clear HA
    simp only [laws_szThreadS.l0] at H
    by_cases c4 : jB < (l0.length : Int)
    ·rw [if_pos c4] at H
     have BD : decide (jB < (l0.length : Int)) = true := decide_eq_true c4
     clear c4
     by_cases c5 : 0 ≤ jB
     ·rw [if_pos c5] at H
      have aJ : decide (0 ≤ jB) = true := decide_eq_true c5
      clear c5
      replace H := Option.bind_eq_some_iff.mp H
      obtain ⟨DD, A60, H⟩ := H
      replace H : (if DD < 0 then (some (-1)) else (laws_szThreadS.l0 k1 l0 DD (wrap64 (jB + 1)))) = some r := H
      have A6 := Aside0.mk A60
      clear A60
      by_cases c7 : DD < 0
      ·rw [if_pos c7] at H
       have wE : decide (DD < 0) = true := decide_eq_true c7
       clear c7
       obtain rfl := Option.some.inj H
       have p107 : 0 ≤ (jB : Int) := of_decide_eq_true q1_3
       have q107 : jB < (l0.length : Int) := of_decide_eq_true q1_3
       obtain ⟨ad107, WE, XE, YE, ZE, bF, cF, iJ, cC, dC, eC, fC, SC, TC, UC, VC, WC, XC⟩ := at_T66 HR0.out jB p107 q107
       cases iJ
       replace cC := (HB.out.cell (World.block_lt_of_cell? w _ cC)).trans cC
       replace dC := (HB.out.cell (World.block_lt_of_cell? w _ dC)).trans dC
       replace eC := (HB.out.cell (World.block_lt_of_cell? w _ eC)).trans eC
       replace fC := (HB.out.cell (World.block_lt_of_cell? w _ fC)).trans fC
       have XD := Aside0.mk TC
       have YD := Aside0.mk SC
       clear TC SC
       have ZD := Aside0.mk VC
       have aE := Aside0.mk UC
       clear VC UC
       have bE := Aside0.mk XC
       have cE := Aside0.mk WC
       clear XC WC
       replace p107 := eq_true p107
       replace q107 := eq_true q107
       go_wp2_with (first | ((with_reducible refine gate_callee (f := 36) rfl ?_); refine goesL_ (some 23) rfl rfl Tryz.func36 q1_35 rfl #[.agg #[.slice WE ((rd_T66 l0 jB).f0).length XE, .int .i64 ((rd_T66 l0 jB).f1), .slice YE ((rd_T66 l0 jB).f2).length ZE, .slice bF ((rd_T66 l0 jB).f3).length cF], .int .i64 VE] rfl q1_1 ?_; (with_reducible refine (laws_szThread.calls _ _ ((rd_T66 l0 jB).f0) ((rd_T66 l0 jB).f1) _ _ ((rd_T66 l0 jB).f2) _ _ ((rd_T66 l0 jB).f3) VE DD _ ?side1 ?side2 ?side3 ?side4 ?side5 ?side6 A6.out).mono ?_); (case side1 => repeat (first | exact (Kd.C_below XD.out HB.out) | (with_reducible refine Kd.C_alloc ?_ _) | (with_reducible refine Kd.C_drewN ?_ _) | (with_reducible refine Kd.C_drew ?_))); (case side2 => exact YD.out); (case side3 => repeat (first | exact (Kd.C_below ZD.out HB.out) | (with_reducible refine Kd.C_alloc ?_ _) | (with_reducible refine Kd.C_drewN ?_ _) | (with_reducible refine Kd.C_drew ?_))); (case side4 => exact aE.out); (case side5 => repeat (first | exact (Kd.C_below bE.out HB.out) | (with_reducible refine Kd.C_alloc ?_ _) | (with_reducible refine Kd.C_drewN ?_ _) | (with_reducible refine Kd.C_drew ?_))); (case side6 => exact cE.out); rintro e w8 ⟨rfl, hb⟩; refine ⟨_, rfl, ?_⟩; have eA := Aside0.mk (below_step q1_0 hb); clear HB; have HB := eA; clear eA; (try clear hb); (try clear hb2); (try clear hk); (try clear hi)))
       go_ret
       exact ⟨q1_2, q1_0⟩
      ·rw [if_neg c7] at H
       have wE : decide (DD < 0) = false := decide_eq_false c7
       clear c7
       have H' := Aside0.mk H
       clear H
       have p107 : 0 ≤ (jB : Int) := of_decide_eq_true q1_3
       have q107 : jB < (l0.length : Int) := of_decide_eq_true q1_3
       obtain ⟨ad107, WE, XE, YE, ZE, bF, cF, iJ, cC, dC, eC, fC, SC, TC, UC, VC, WC, XC⟩ := at_T66 HR0.out jB p107 q107
       cases iJ
       replace cC := (HB.out.cell (World.block_lt_of_cell? w _ cC)).trans cC
       replace dC := (HB.out.cell (World.block_lt_of_cell? w _ dC)).trans dC
       replace eC := (HB.out.cell (World.block_lt_of_cell? w _ eC)).trans eC
       replace fC := (HB.out.cell (World.block_lt_of_cell? w _ fC)).trans fC
       have XD := Aside0.mk TC
       have YD := Aside0.mk SC
       clear TC SC
       have ZD := Aside0.mk VC
       have aE := Aside0.mk UC
       clear VC UC
       have bE := Aside0.mk XC
       have cE := Aside0.mk WC
       clear XC WC
       replace p107 := eq_true p107
       replace q107 := eq_true q107
       go_wp2_with (first | ((with_reducible refine gate_callee (f := 36) rfl ?_); refine goesL_ (some 23) rfl rfl Tryz.func36 q1_35 rfl #[.agg #[.slice WE ((rd_T66 l0 jB).f0).length XE, .int .i64 ((rd_T66 l0 jB).f1), .slice YE ((rd_T66 l0 jB).f2).length ZE, .slice bF ((rd_T66 l0 jB).f3).length cF], .int .i64 VE] rfl q1_1 ?_; (with_reducible refine (laws_szThread.calls _ _ ((rd_T66 l0 jB).f0) ((rd_T66 l0 jB).f1) _ _ ((rd_T66 l0 jB).f2) _ _ ((rd_T66 l0 jB).f3) VE DD _ ?side1 ?side2 ?side3 ?side4 ?side5 ?side6 A6.out).mono ?_); (case side1 => repeat (first | exact (Kd.C_below XD.out HB.out) | (with_reducible refine Kd.C_alloc ?_ _) | (with_reducible refine Kd.C_drewN ?_ _) | (with_reducible refine Kd.C_drew ?_))); (case side2 => exact YD.out); (case side3 => repeat (first | exact (Kd.C_below ZD.out HB.out) | (with_reducible refine Kd.C_alloc ?_ _) | (with_reducible refine Kd.C_drewN ?_ _) | (with_reducible refine Kd.C_drew ?_))); (case side4 => exact aE.out); (case side5 => repeat (first | exact (Kd.C_below bE.out HB.out) | (with_reducible refine Kd.C_alloc ?_ _) | (with_reducible refine Kd.C_drewN ?_ _) | (with_reducible refine Kd.C_drew ?_))); (case side6 => exact cE.out); rintro e w9 ⟨rfl, hb⟩; refine ⟨_, rfl, ?_⟩; have eA := Aside0.mk (below_step q1_0 hb); clear HB; have HB := eA; clear eA; (try clear hb); (try clear hb2); (try clear hk); (try clear hi)))
       go_roundg k1
       case measure => have := HK1.out; omega
       case rel => exact ⟨(DD), (wrap64 (jB + 1)), q1_17, q1_17, H', ⟨by have := HK1.out; omega⟩, ⟨q1_0⟩⟩
     ·rw [if_neg c5] at H
      exact absurd H (by simp)
    ·rw [if_neg c4] at H
     have BD : decide (jB < (l0.length : Int)) = false := decide_eq_false c4
     clear c4
     obtain rfl := Option.some.inj H
     go_wp2
     go_ret
     exact ⟨q1_2, q1_0⟩
def laws_szCrew.f (k : Nat) (iA : Int) (cA : Int) (dA : List Int) (aA : List (S66)) (nA : Int) (a1 : Int) : Option (Int) := (laws_szMem.f dA a1).bind fun iC => (if iC < 0 then (some (-1)) else ((laws_szThreadS.f k aA iC).bind fun BC => (if BC < 0 then (some (-1)) else (some BC))))
theorem laws_szCrew.mono : ∀ a0 a1 a2 a3 a4 a5 k, LeO (laws_szCrew.f k a0 a1 a2 a3 a4 a5) (laws_szCrew.f (k + 1) a0 a1 a2 a3 a4 a5) := by
 intro a0 a1 a2 a3 a4 a5 k
 unfold laws_szCrew.f
 repeat' first
   | (with_reducible exact laws_szThreadS.mono _ _ _)
   | (with_reducible exact LeO.refl _)
   | (with_reducible exact LeO.none _)
   | (with_reducible refine LeO.ite ?_ ?_)
   | (with_reducible refine LeO.bind ?_ (fun _ => ?_))
   | exact laws_szThreadS.mono _ _ _
   | exact LeO.none _
   | refine LeO.ite ?_ ?_
   | refine LeO.bind ?_ (fun _ => ?_)
set_option maxHeartbeats 8000000 in
set_option maxRecDepth 100000 in
theorem laws_szCrew.calls (k : Nat) (iA : Int) (cA : Int) (lA : Option Addr) (mA : Nat) (dA : List Int) (qA : Option Addr) (oA : Nat) (aA : List (S66)) (nA : Int) (a1 : Int) (r : Int) (w : World) (BB : Kd.C (Kd.int .i64) w lA dA.length dA) (CB : dA.length ≤ mA) (vB : Kd.C k66 w qA aA.length aA) (DB : aA.length ≤ oA) (h : laws_szCrew.f k iA cA dA aA nA a1 = some r) :
  Calls Tryz.prog 5 #[.agg #[.int .i64 iA, .int .i64 cA, .slice lA dA.length mA, .slice qA aA.length oA, .int .i64 nA], .int .i64 a1] w fun e w' => e = .returned (.int .i64 r) ∧ Below w.heap.size w w' := by
 have hu27 := Tryz.underlying27
 have hu24 := Tryz.underlying24
 have tD := Aside0.mk BB
 have pC := Aside0.mk CB
 clear BB CB
 have EB := Aside0.mk vB
 have RC := Aside0.mk DB
 clear vB DB
 have HB := Aside0.mk (Below.refl w.heap.size w)
 have H : ((laws_szMem.f dA a1).bind fun iC => (if iC < 0 then (some (-1)) else ((laws_szThreadS.f k aA iC).bind fun BC => (if BC < 0 then (some (-1)) else (some BC))))) = some r := h
 clear h
 replace H := Option.bind_eq_some_iff.mp H
 obtain ⟨iC, A30, H⟩ := H
 replace H : (if iC < 0 then (some (-1)) else ((laws_szThreadS.f k aA iC).bind fun BC => (if BC < 0 then (some (-1)) else (some BC)))) = some r := H
 have A3 := Aside0.mk A30
 clear A30
 by_cases c4 : iC < 0
 ·rw [if_pos c4] at H
  have BD : decide (iC < 0) = true := decide_eq_true c4
  clear c4
  obtain rfl := Option.some.inj H
  go_enter Tryz.func5, Tryz.ntmps5
  go_wp2_with (first | ((with_reducible refine gate_dst (N := 2) rfl ?_); refine box_event ?hg (N := 2) ?hd (cs := #[.int .i64 iA, .int .i64 cA, .slice lA dA.length mA, .slice qA aA.length oA, .int .i64 nA]) (t := 27) ?hr ?_; (case hd => rfl); (case hg => rfl); (case hr => first | (go_simp; done) | (go_simp; rfl)); intro xA hg w5 hbox hb; have eA := Aside0.mk (below_step q1_0 hb); have fA := Aside0.mk (hbox); have jA := Aside0.mk ((q1_6 : w.heap.size ≤ xA)); have pA := Aside0.mk ((q1_6 : w.heap.size ≤ xA)); clear HB; have HB := eA; have kA := fA; have NI := jA; have TG := pA; clear eA fA jA pA; clear hb hbox hg; have GE : w5.cell? ⟨xA, 0, none⟩ = some (.int .i64 iA) := (blk_cell kA.out 0).trans rfl; have cJ : w5.cell? ⟨xA, 1, none⟩ = some (.int .i64 cA) := (blk_cell kA.out 1).trans rfl; have dJ : w5.cell? ⟨xA, 2, none⟩ = some (.slice lA dA.length mA) := (blk_cell kA.out 2).trans rfl; have eJ : w5.cell? ⟨xA, 3, none⟩ = some (.slice qA aA.length oA) := (blk_cell kA.out 3).trans rfl; have xM : w5.cell? ⟨xA, 4, none⟩ = some (.int .i64 nA) := (blk_cell kA.out 4).trans rfl; have HE := blk_frozen kA.out 0; have fJ := blk_frozen kA.out 1; have gJ := blk_frozen kA.out 2; have hJ := blk_frozen kA.out 3; have yM := blk_frozen kA.out 4) | ((with_reducible refine gate_callee (f := 17) rfl ?_); refine goesL_ (some 8) rfl rfl Tryz.func17 q1_35 rfl #[.agg #[.slice lA dA.length mA], .int .i64 a1] rfl q1_1 ?_; (with_reducible refine (laws_szMem.calls _ _ dA a1 iC _ ?side1 ?side2 A3.out).mono ?_); (case side1 => exact q1_49); (case side2 => exact pC.out); rintro e w7 ⟨rfl, hb⟩; refine ⟨_, rfl, ?_⟩; have eA := Aside0.mk (blk_below (g := xA) (o := .cells #[.int .i64 iA, .int .i64 cA, .slice lA dA.length mA, .slice qA aA.length oA, .int .i64 nA] 27 (0, 0)) q1_37 hb); have fA := Aside0.mk (below_step q1_15 hb); clear kA; clear HB; have kA := eA; have HB := fA; clear eA fA; (try clear hb); (try clear hb2); (try clear hk); (try clear hi)))
  go_ret
  exact ⟨q1_2, q1_15⟩
 ·rw [if_neg c4] at H
  have BD : decide (iC < 0) = false := decide_eq_false c4
  clear c4
  replace H := Option.bind_eq_some_iff.mp H
  obtain ⟨BC, A80, H⟩ := H
  replace H : (if BC < 0 then (some (-1)) else (some BC)) = some r := H
  have A8 := Aside0.mk A80
  clear A80
  by_cases c9 : BC < 0
  ·rw [if_pos c9] at H
   have UE : decide (BC < 0) = true := decide_eq_true c9
   clear c9
   obtain rfl := Option.some.inj H
   go_enter Tryz.func5, Tryz.ntmps5
   go_wp2_with (first | ((with_reducible refine gate_dst (N := 2) rfl ?_); refine box_event ?hg (N := 2) ?hd (cs := #[.int .i64 iA, .int .i64 cA, .slice lA dA.length mA, .slice qA aA.length oA, .int .i64 nA]) (t := 27) ?hr ?_; (case hd => rfl); (case hg => rfl); (case hr => first | (go_simp; done) | (go_simp; rfl)); intro xA hg SJ hbox hb; have eA := Aside0.mk (below_step q1_0 hb); have fA := Aside0.mk (hbox); have jA := Aside0.mk ((q1_6 : w.heap.size ≤ xA)); have pA := Aside0.mk ((q1_6 : w.heap.size ≤ xA)); clear HB; have HB := eA; have kA := fA; have NI := jA; have TG := pA; clear eA fA jA pA; clear hb hbox hg; have ND : SJ.cell? ⟨xA, 0, none⟩ = some (.int .i64 iA) := (blk_cell kA.out 0).trans rfl; have NH : SJ.cell? ⟨xA, 1, none⟩ = some (.int .i64 cA) := (blk_cell kA.out 1).trans rfl; have OH : SJ.cell? ⟨xA, 2, none⟩ = some (.slice lA dA.length mA) := (blk_cell kA.out 2).trans rfl; have PH : SJ.cell? ⟨xA, 3, none⟩ = some (.slice qA aA.length oA) := (blk_cell kA.out 3).trans rfl; have QH : SJ.cell? ⟨xA, 4, none⟩ = some (.int .i64 nA) := (blk_cell kA.out 4).trans rfl; have OD := blk_frozen kA.out 0; have RH := blk_frozen kA.out 1; have SH := blk_frozen kA.out 2; have TH := blk_frozen kA.out 3; have UH := blk_frozen kA.out 4) | ((with_reducible refine gate_callee (f := 17) rfl ?_); refine goesL_ (some 8) rfl rfl Tryz.func17 q1_35 rfl #[.agg #[.slice lA dA.length mA], .int .i64 a1] rfl q1_1 ?_; (with_reducible refine (laws_szMem.calls _ _ dA a1 iC _ ?side1 ?side2 A3.out).mono ?_); (case side1 => exact q1_49); (case side2 => exact pC.out); rintro e pD ⟨rfl, hb⟩; refine ⟨_, rfl, ?_⟩; have eA := Aside0.mk (blk_below (g := xA) (o := .cells #[.int .i64 iA, .int .i64 cA, .slice lA dA.length mA, .slice qA aA.length oA, .int .i64 nA] 27 (0, 0)) q1_37 hb); have fA := Aside0.mk (below_step q1_15 hb); clear kA; clear HB; have kA := eA; have HB := fA; clear eA fA; (try clear hb); (try clear hb2); (try clear hk); (try clear hi); have wC : pD.cell? ⟨xA, 0, none⟩ = some (.int .i64 iA) := (blk_cell kA.out 0).trans rfl; have CF : pD.cell? ⟨xA, 1, none⟩ = some (.int .i64 cA) := (blk_cell kA.out 1).trans rfl; have DF : pD.cell? ⟨xA, 2, none⟩ = some (.slice lA dA.length mA) := (blk_cell kA.out 2).trans rfl; have EF : pD.cell? ⟨xA, 3, none⟩ = some (.slice qA aA.length oA) := (blk_cell kA.out 3).trans rfl; have lL : pD.cell? ⟨xA, 4, none⟩ = some (.int .i64 nA) := (blk_cell kA.out 4).trans rfl; have xC := blk_frozen kA.out 0; have FF := blk_frozen kA.out 1; have GF := blk_frozen kA.out 2; have HF := blk_frozen kA.out 3; have mL := blk_frozen kA.out 4) | ((with_reducible refine gate_callee (f := 18) rfl ?_); refine goesL_ (some 14) rfl rfl Tryz.func18 q1_35 rfl #[.slice qA aA.length oA, .int .i64 iC] rfl q1_1 ?_; (with_reducible refine (laws_szThreadS.calls k _ _ aA iC BC _ ?side1 ?side2 A8.out).mono ?_); (case side1 => repeat (first | exact (Kd.C_below EB.out HB.out) | (with_reducible refine Kd.C_alloc ?_ _) | (with_reducible refine Kd.C_drewN ?_ _) | (with_reducible refine Kd.C_drew ?_))); (case side2 => exact RC.out); rintro e EN ⟨rfl, hb⟩; refine ⟨_, rfl, ?_⟩; have eA := Aside0.mk (blk_below (g := xA) (o := .cells #[.int .i64 iA, .int .i64 cA, .slice lA dA.length mA, .slice qA aA.length oA, .int .i64 nA] 27 (0, 0)) q1_37 hb); have fA := Aside0.mk (below_step q1_15 hb); clear kA; clear HB; have kA := eA; have HB := fA; clear eA fA; (try clear hb); (try clear hb2); (try clear hk); (try clear hi)))
   go_ret
   exact ⟨q1_2, q1_15⟩
  ·rw [if_neg c9] at H
   have UE : decide (BC < 0) = false := decide_eq_false c9
   clear c9
   obtain rfl := Option.some.inj H
   go_enter Tryz.func5, Tryz.ntmps5
   go_wp2_with (first | ((with_reducible refine gate_dst (N := 2) rfl ?_); refine box_event ?hg (N := 2) ?hd (cs := #[.int .i64 iA, .int .i64 cA, .slice lA dA.length mA, .slice qA aA.length oA, .int .i64 nA]) (t := 27) ?hr ?_; (case hd => rfl); (case hg => rfl); (case hr => first | (go_simp; done) | (go_simp; rfl)); intro xA hg ED hbox hb; have eA := Aside0.mk (below_step q1_0 hb); have fA := Aside0.mk (hbox); have jA := Aside0.mk ((q1_6 : w.heap.size ≤ xA)); have pA := Aside0.mk ((q1_6 : w.heap.size ≤ xA)); clear HB; have HB := eA; have kA := fA; have NI := jA; have TG := pA; clear eA fA jA pA; clear hb hbox hg; have FH : ED.cell? ⟨xA, 0, none⟩ = some (.int .i64 iA) := (blk_cell kA.out 0).trans rfl; have GH : ED.cell? ⟨xA, 1, none⟩ = some (.int .i64 cA) := (blk_cell kA.out 1).trans rfl; have HH : ED.cell? ⟨xA, 2, none⟩ = some (.slice lA dA.length mA) := (blk_cell kA.out 2).trans rfl; have IH : ED.cell? ⟨xA, 3, none⟩ = some (.slice qA aA.length oA) := (blk_cell kA.out 3).trans rfl; have nL : ED.cell? ⟨xA, 4, none⟩ = some (.int .i64 nA) := (blk_cell kA.out 4).trans rfl; have JH := blk_frozen kA.out 0; have KH := blk_frozen kA.out 1; have LH := blk_frozen kA.out 2; have MH := blk_frozen kA.out 3; have oL := blk_frozen kA.out 4) | ((with_reducible refine gate_callee (f := 17) rfl ?_); refine goesL_ (some 8) rfl rfl Tryz.func17 q1_35 rfl #[.agg #[.slice lA dA.length mA], .int .i64 a1] rfl q1_1 ?_; (with_reducible refine (laws_szMem.calls _ _ dA a1 iC _ ?side1 ?side2 A3.out).mono ?_); (case side1 => exact q1_49); (case side2 => exact pC.out); rintro e NK ⟨rfl, hb⟩; refine ⟨_, rfl, ?_⟩; have eA := Aside0.mk (blk_below (g := xA) (o := .cells #[.int .i64 iA, .int .i64 cA, .slice lA dA.length mA, .slice qA aA.length oA, .int .i64 nA] 27 (0, 0)) q1_37 hb); have fA := Aside0.mk (below_step q1_15 hb); clear kA; clear HB; have kA := eA; have HB := fA; clear eA fA; (try clear hb); (try clear hb2); (try clear hk); (try clear hi); have ZF : NK.cell? ⟨xA, 0, none⟩ = some (.int .i64 iA) := (blk_cell kA.out 0).trans rfl; have aG : NK.cell? ⟨xA, 1, none⟩ = some (.int .i64 cA) := (blk_cell kA.out 1).trans rfl; have bG : NK.cell? ⟨xA, 2, none⟩ = some (.slice lA dA.length mA) := (blk_cell kA.out 2).trans rfl; have cG : NK.cell? ⟨xA, 3, none⟩ = some (.slice qA aA.length oA) := (blk_cell kA.out 3).trans rfl; have VH : NK.cell? ⟨xA, 4, none⟩ = some (.int .i64 nA) := (blk_cell kA.out 4).trans rfl; have dG := blk_frozen kA.out 0; have eG := blk_frozen kA.out 1; have fG := blk_frozen kA.out 2; have gG := blk_frozen kA.out 3; have WH := blk_frozen kA.out 4) | ((with_reducible refine gate_callee (f := 18) rfl ?_); refine goesL_ (some 14) rfl rfl Tryz.func18 q1_35 rfl #[.slice qA aA.length oA, .int .i64 iC] rfl q1_1 ?_; (with_reducible refine (laws_szThreadS.calls k _ _ aA iC BC _ ?side1 ?side2 A8.out).mono ?_); (case side1 => repeat (first | exact (Kd.C_below EB.out HB.out) | (with_reducible refine Kd.C_alloc ?_ _) | (with_reducible refine Kd.C_drewN ?_ _) | (with_reducible refine Kd.C_drew ?_))); (case side2 => exact RC.out); rintro e WN ⟨rfl, hb⟩; refine ⟨_, rfl, ?_⟩; have eA := Aside0.mk (blk_below (g := xA) (o := .cells #[.int .i64 iA, .int .i64 cA, .slice lA dA.length mA, .slice qA aA.length oA, .int .i64 nA] 27 (0, 0)) q1_37 hb); have fA := Aside0.mk (below_step q1_15 hb); clear kA; clear HB; have kA := eA; have HB := fA; clear eA fA; (try clear hb); (try clear hb2); (try clear hk); (try clear hi)))
   go_ret
   exact ⟨q1_2, q1_15⟩
def laws_toIntS.l0 : Nat → List Int → List Int → Int → Option (List Int)
 | 0, _, _, _ => none
 | k + 1, x0, x3, x4 => if x4 < (x0.length : Int) then (if 0 ≤ x4 then (if x4 < (x3.length : Int) then (laws_toIntS.l0 k x0 (x3.set (x4 : Int).toNat (rd x0 x4)) (wrap64 (x4 + 1))) else (none)) else (none)) else (some x3)
def laws_toIntS.f (k : Nat) (l0 : List Int) : Option (List Int) := if 0 ≤ (l0.length : Int) then (if ((l0.length : Int) : Int).toNat ≤ 35184372088832 then (laws_toIntS.l0 k l0 (List.replicate ((l0.length : Int) : Int).toNat 0) 0) else (none)) else (none)
theorem laws_toIntS.mono_l : ∀ k, (∀ y0 y1 y2, LeO (laws_toIntS.l0 k y0 y1 y2) (laws_toIntS.l0 (k + 1) y0 y1 y2))
 | 0 => fun _ _ _ r h => by simp [laws_toIntS.l0] at h
 | k + 1 => by
  have ih0 := laws_toIntS.mono_l k
  ·intro y0 y1 y2
   unfold laws_toIntS.l0
   repeat' first
   | (with_reducible exact ih0 _ _ _)
   | (with_reducible exact LeO.refl _)
   | (with_reducible exact LeO.none _)
   | (with_reducible refine LeO.ite ?_ ?_)
   | (with_reducible refine LeO.bind ?_ (fun _ => ?_))
   | exact ih0 _ _ _
   | exact LeO.none _
   | refine LeO.ite ?_ ?_
   | refine LeO.bind ?_ (fun _ => ?_)
theorem laws_toIntS.mono : ∀ a0 k, LeO (laws_toIntS.f k a0) (laws_toIntS.f (k + 1) a0) := by
 intro a0 k
 have ih0 := laws_toIntS.mono_l k
 unfold laws_toIntS.f
 repeat' first
   | (with_reducible exact ih0 _ _ _)
   | (with_reducible exact LeO.refl _)
   | (with_reducible exact LeO.none _)
   | (with_reducible refine LeO.ite ?_ ?_)
   | (with_reducible refine LeO.bind ?_ (fun _ => ?_))
   | exact ih0 _ _ _
   | exact LeO.none _
   | refine LeO.ite ?_ ?_
   | refine LeO.bind ?_ (fun _ => ?_)
set_option maxHeartbeats 8000000 in
set_option maxRecDepth 100000 in
theorem laws_toIntS.calls (k : Nat) (A0 : Option Addr) (c0 : Nat) (l0 : List Int) (r : List Int) (w : World) (hr0 : Kd.C (Kd.int .i64) w A0 l0.length l0) (hc0 : l0.length ≤ c0) (h : laws_toIntS.f k l0 = some r) :
  Calls Tryz.prog 13 #[.slice A0 l0.length c0] w fun e w' => ∃ v0_ : Value, e = .returned (v0_) ∧ Kd.R (Kd.int .i64) 3 w' w.heap.size (fun _ => True) v0_ r ∧ Below w.heap.size w w' := by
 have HR0 := Aside0.mk hr0
 clear hr0 hc0
 have HB := Aside0.mk (Below.refl w.heap.size w)
 have H : (if 0 ≤ (l0.length : Int) then (if ((l0.length : Int) : Int).toNat ≤ 35184372088832 then (laws_toIntS.l0 k l0 (List.replicate ((l0.length : Int) : Int).toNat 0) 0) else (none)) else (none)) = some r := h
 clear h
 by_cases c2 : 0 ≤ (l0.length : Int)
 ·rw [if_pos c2] at H
  have dH := eq_true c2
  have eH : decide (0 ≤ (l0.length : Int)) = true := decide_eq_true c2
  clear c2
  by_cases c3 : ((l0.length : Int) : Int).toNat ≤ 35184372088832
  ·rw [if_pos c3] at H
   have kD := eq_true c3
   have fH : decide (((l0.length : Int) : Int).toNat ≤ 35184372088832) = true := decide_eq_true c3
   clear c3
   obtain ⟨y112, hy112⟩ : ∃ y_ : List Int, y_ = (List.replicate ((l0.length : Int) : Int).toNat 0) := ⟨_, rfl⟩
   replace H : (laws_toIntS.l0 k l0 y112 0) = some r := by first | (rw [hy112]; with_reducible exact H) | (have H2_ := (Option.bind_some _ _).symm.trans H; rw [hy112]; with_reducible exact H2_) | (have H2_ := (Option.bind_some _ _).symm.trans H; with_reducible exact H2_) | with_reducible exact H | (rw [hy112]; exact H) | exact H
   have Ny112 := Aside0.mk hy112
   clear hy112
   have H' := Aside0.mk H
   clear H
   go_enter Tryz.func13, Tryz.ntmps13
   go_wp2_with (first | ((with_reducible refine gate_dst (N := 7) rfl ?_); refine Kd.R_make (Kd.int .i64) _ 3 rfl (N := 7) rfl 22 _ _ rfl (l0.length : Int) rfl rfl Tryz.underlying22 (.int .i64 0) 8 info3 rfl q1_57 (by omega) 0 (ok := fun _ => True) (okp := fun _ => True) rfl (fun _ hk => hk) trivial (of_decide_eq_true q1_3) (Nat.le_trans (Nat.mul_le_mul_right _ (of_decide_eq_true q1_3 : (l0.length : Int).toNat ≤ 35184372088832)) (by omega)) (Below.refl _ _) (Nat.le_refl _) ?_; intro zM w4 ho5 hb hg_ hnew_; clear hg_ hnew_; (first | rw [← Ny112.out] at ho5 | (simp only [Int.reduceToNat] at ho5; rw [← Ny112.out] at ho5)); have eA := Aside0.mk (Kd.R_lower ho5 (below_size q1_0)); have fA := Aside0.mk (below_step q1_0 hb); clear HB; have OK := eA; have HB := fA; clear eA fA; clear hb ho5))
   go_loopg [4] k (fun kq v4 w' => ∃ (tA : List Int) (bA : Int), v4 = .int .i64 bA ∧ Aside0 (laws_toIntS.l0 kq l0 tA bA = some r) ∧ Aside0 (kq ≤ k) ∧ Aside0 (Kd.R (Kd.int .i64) 3 w' w.heap.size (fun _ => True) zM tA) ∧ Aside0 (Below w.heap.size w w'))
   case atStart => exact ⟨(y112), (0), q1_17, H', ⟨Nat.le_refl _⟩, ⟨by (with_reducible repeat (first | apply Kd.R_alloc | apply Kd.R_drewN | apply Kd.R_drew)); exact OK.out⟩, ⟨q1_0⟩⟩
   case round =>
    clear H'
    (try clear c1); (try clear c2); (try clear dH); (try clear eH); (try clear p2); (try clear c3); (try clear kD); (try clear fH)
    obtain ⟨tA, bA, rfl, HA, HK1, zA, HB⟩ := hrel
    cases gk with
    | zero => exact absurd HA.out (by simp [laws_toIntS.l0])
    | succ k1 =>
     have H := HA.out
     clear HA
     simp only [laws_toIntS.l0] at H
     by_cases c6 : bA < (l0.length : Int)
     ·rw [if_pos c6] at H
      have OC : decide (bA < (l0.length : Int)) = true := decide_eq_true c6
      clear c6
      by_cases c7 : 0 ≤ bA
      ·rw [if_pos c7] at H
       have wE : decide (0 ≤ bA) = true := decide_eq_true c7
       clear c7
       by_cases c8 : bA < (tA.length : Int)
       ·rw [if_pos c8] at H
        have mH : decide (bA < (tA.length : Int)) = true := decide_eq_true c8
        clear c8
        obtain ⟨y116, hy116⟩ : ∃ y_ : List Int, y_ = (tA.set (bA : Int).toNat (rd l0 bA)) := ⟨_, rfl⟩
        replace H : (laws_toIntS.l0 k1 l0 y116 (wrap64 (bA + 1))) = some r := by first | (rw [hy116]; with_reducible exact H) | (have H2_ := (Option.bind_some _ _).symm.trans H; rw [hy116]; with_reducible exact H2_) | (have H2_ := (Option.bind_some _ _).symm.trans H; with_reducible exact H2_) | with_reducible exact H | (rw [hy116]; exact H) | exact H
        have Ny116 := Aside0.mk hy116
        clear hy116
        have H' := Aside0.mk H
        clear H
        have p115 : 0 ≤ (bA : Int) := of_decide_eq_true q1_3
        have q115 : bA < (l0.length : Int) := of_decide_eq_true q1_3
        obtain ⟨ad115, AM, dE⟩ := Kd.at_int HR0.out bA p115 q115
        cases AM
        replace dE := (HB.out.cell (World.block_lt_of_cell? w _ dE)).trans dE
        replace p115 := eq_true p115
        replace q115 := eq_true q115
        have p9 : 0 ≤ (bA : Int) := of_decide_eq_true q1_3
        have q9 : (bA : Int) < ((tA.length : Int) : Int) := of_decide_eq_true q1_3
        obtain ⟨go9, EO, XN, YN, gl9, cl9, HG9⟩ := Kd.R_form zA.out (by omega)
        (first | cases XN | (injection XN with ea_ en_ ec_; (first | subst ea_ | (injection ea_ with ea_; subst ea_)); subst ec_; clear en_))
        have GB9 := Aside0.mk YN
        have GG9 := Aside0.mk HG9
        clear YN gl9 HG9
        obtain ⟨ZN, bO⟩ := Kd.R_celln 0 zA.out (bA : Int) p9 q9
        replace p9 := eq_true p9
        replace q9 := eq_true q9
        have HP10 := Kd.R_putg zA.out (bA : Int) (rd l0 bA)
        go_wp2_with (first | ((with_reducible refine gate_store (t := 3) (p := 20) rfl ?_); refine store_event (t := 3) (p := 20) (v := ?vo_w11) (w1 := (wr.setCell ⟨go9, (bA : Int).toNat, none⟩ (.int .i64 (rd l0 bA)))) ?hg ?ho ?hn ?hr ?_; (case ho => rfl); (case hg => rfl); (case hn => rfl); (case hr => first | (go_simp; done) | (go_simp; rfl)); intro oB hw; have hg : wr.grownBy oB (some go9) := (by rw [hw]; exact HP10.2); have hp_ : Kd.R (Kd.int .i64) 3 oB w.heap.size (fun _ => True) (.slice (some ⟨go9, 0, none⟩) tA.length EO) y116 := (by rw [hw, Ny116.out]; exact HP10.1); clear HP10; have eA := Aside0.mk (hp_); have fA := Aside0.mk ((by rw [hw]; exact below_set (HB.out) GB9.out : Below w.heap.size w oB)); clear zA; clear HB; have zA := eA; have HB := fA; clear eA fA; clear hg hw hp_))
        go_roundg k1
        case measure => have := HK1.out; omega
        case rel => exact ⟨(y116), (wrap64 (bA + 1)), q1_17, H', ⟨by have := HK1.out; omega⟩, ⟨q1_16⟩, ⟨q1_0⟩⟩
       ·rw [if_neg c8] at H
        exact absurd H (by simp)
      ·rw [if_neg c7] at H
       exact absurd H (by simp)
     ·rw [if_neg c6] at H
      have OC : decide (bA < (l0.length : Int)) = false := decide_eq_false c6
      clear c6
      obtain rfl := Option.some.inj H
      go_wp2
      go_ret
      exact ⟨_, q1_2, q1_16, q1_0⟩
  ·rw [if_neg c3] at H
   exact absurd H (by simp)
 ·rw [if_neg c2] at H
  exact absurd H (by simp)
def laws_toMem.f (k : Nat) (hA : List Int) : Option (List Int) := (laws_toIntS.f k hA).bind fun eE => (some eE)
theorem laws_toMem.mono : ∀ a0 k, LeO (laws_toMem.f k a0) (laws_toMem.f (k + 1) a0) := by
 intro a0 k
 unfold laws_toMem.f
 repeat' first
   | (with_reducible exact laws_toIntS.mono _ _)
   | (with_reducible exact LeO.refl _)
   | (with_reducible exact LeO.none _)
   | (with_reducible refine LeO.ite ?_ ?_)
   | (with_reducible refine LeO.bind ?_ (fun _ => ?_))
   | exact laws_toIntS.mono _ _
   | exact LeO.none _
   | refine LeO.ite ?_ ?_
   | refine LeO.bind ?_ (fun _ => ?_)
set_option maxHeartbeats 8000000 in
set_option maxRecDepth 100000 in
theorem laws_toMem.calls (k : Nat) (rA : Option Addr) (sA : Nat) (hA : List Int) (r : List Int) (w : World) (tB : Kd.C (Kd.int .i64) w rA hA.length hA) (yB : hA.length ≤ sA) (h : laws_toMem.f k hA = some r) :
  Calls Tryz.prog 24 #[.agg #[.slice rA hA.length sA]] w fun e w' => ∃ v0_ : Value, e = .returned (.agg #[v0_]) ∧ Kd.R (Kd.int .i64) 3 w' w.heap.size (fun _ => True) v0_ r ∧ Below w.heap.size w w' := by
 have hu24 := Tryz.underlying24
 have hu29 := Tryz.underlying29
 have rD := Aside0.mk tB
 have RB := Aside0.mk yB
 clear tB yB
 have HB := Aside0.mk (Below.refl w.heap.size w)
 have H : ((laws_toIntS.f k hA).bind fun eE => (some eE)) = some r := h
 clear h
 replace H := Option.bind_eq_some_iff.mp H
 obtain ⟨eE, A20, H⟩ := H
 replace H : (some eE) = some r := H
 have A2 := Aside0.mk A20
 clear A20
 obtain rfl := Option.some.inj H
 go_enter Tryz.func24, Tryz.ntmps24
 go_wp2_with (first | ((with_reducible refine gate_dst (N := 1) rfl ?_); refine box_event ?hg (N := 1) ?hd (cs := #[.slice rA hA.length sA]) (t := 24) ?hr ?_; (case hd => rfl); (case hg => rfl); (case hr => first | (go_simp; done) | (go_simp; rfl)); intro NB hg w3 hbox hb; have eA := Aside0.mk (below_step q1_0 hb); have fA := Aside0.mk (hbox); have jA := Aside0.mk ((q1_6 : w.heap.size ≤ NB)); have pA := Aside0.mk ((q1_6 : w.heap.size ≤ NB)); clear HB; have HB := eA; have KC := fA; have cO := jA; have VG := pA; clear eA fA jA pA; clear hb hbox hg) | ((with_reducible refine gate_dst (N := 2) rfl ?_); refine box_event ?hg (N := 2) ?hd (cs := #[.slice none 0 0]) (t := 29) ?hr ?_; (case hd => rfl); (case hg => rfl); (case hr => first | (go_simp; done) | (go_simp; rfl)); intro UB hg w4 hbox hb; have eA := Aside0.mk (blk_below (g := NB) (o := .cells #[.slice rA hA.length sA] 24 (0, 0)) q1_24 hb); have fA := Aside0.mk (below_step q1_53 hb); have jA := Aside0.mk (hbox); have pA := Aside0.mk ((by rw [hg]; exact (below_size q1_53) : w.heap.size ≤ UB)); have cB := Aside0.mk ((by rw [hg]; exact (below_size q1_53) : w.heap.size ≤ UB)); have pB := Aside0.mk ((by rw [hg]; exact Nat.ne_of_lt (blk_lt (g := NB) (o := .cells #[.slice rA hA.length sA] 24 (0, 0)) q1_24) : NB ≠ UB)); have uB := Aside0.mk ((by rw [hg]; exact Nat.ne_of_gt (blk_lt (g := NB) (o := .cells #[.slice rA hA.length sA] 24 (0, 0)) q1_24) : UB ≠ NB)); clear KC; clear HB; have KC := eA; have HB := fA; have LC := jA; have dO := pA; have BI := cB; have xG := pB; have yG := uB; clear eA fA jA pA cB pB uB; clear hb hbox hg) | ((with_reducible refine gate_dst (N := 3) rfl ?_); refine box_event ?hg (N := 3) ?hd (cs := #[.slice none 0 0]) (t := 29) ?hr ?_; (case hd => rfl); (case hg => rfl); (case hr => first | (go_simp; done) | (go_simp; rfl)); intro YC hg w5 hbox hb; have eA := Aside0.mk (blk_below (g := NB) (o := .cells #[.slice rA hA.length sA] 24 (0, 0)) q1_24 hb); have fA := Aside0.mk (blk_below (g := UB) (o := .cells #[.slice none 0 0] 29 (0, 0)) q1_47 hb); have jA := Aside0.mk (below_step q1_41 hb); have pA := Aside0.mk (hbox); have cB := Aside0.mk ((by rw [hg]; exact (below_size q1_41) : w.heap.size ≤ YC)); have pB := Aside0.mk ((by rw [hg]; exact (below_size q1_41) : w.heap.size ≤ YC)); have uB := Aside0.mk ((by rw [hg]; exact Nat.ne_of_lt (blk_lt (g := NB) (o := .cells #[.slice rA hA.length sA] 24 (0, 0)) q1_24) : NB ≠ YC)); have GC := Aside0.mk ((by rw [hg]; exact Nat.ne_of_gt (blk_lt (g := NB) (o := .cells #[.slice rA hA.length sA] 24 (0, 0)) q1_24) : YC ≠ NB)); have gH := Aside0.mk ((by rw [hg]; exact Nat.ne_of_lt (blk_lt (g := UB) (o := .cells #[.slice none 0 0] 29 (0, 0)) q1_47) : UB ≠ YC)); have hH := Aside0.mk ((by rw [hg]; exact Nat.ne_of_gt (blk_lt (g := UB) (o := .cells #[.slice none 0 0] 29 (0, 0)) q1_47) : YC ≠ UB)); clear KC; clear LC; clear HB; have KC := eA; have LC := fA; have HB := jA; have FD := pA; have eO := cB; have YJ := pB; have zG := uB; have AG := GC; have GD := gH; have BG := hH; clear eA fA jA pA cB pB uB GC gH hH; clear hb hbox hg; have BM := xG.out; have CM := yG.out; have bK := zG.out; have cK := AG.out; have XG : w5.cell? ⟨NB, 0, none⟩ = some (.slice rA hA.length sA) := (blk_cell KC.out 0).trans rfl; have YG := blk_frozen KC.out 0) | ((with_reducible refine gate_callee (f := 13) rfl ?_); refine goesL_ (some 6) rfl rfl Tryz.func13 q1_35 rfl #[.slice rA hA.length sA] rfl q1_1 ?_; (with_reducible refine (laws_toIntS.calls k _ _ hA eE _ ?side1 ?side2 A2.out).mono ?_); (case side1 => exact q1_11); (case side2 => exact RB.out); rintro e w9 ⟨FO, rfl, ho0, hb⟩; refine ⟨_, rfl, ?_⟩; have eA := Aside0.mk (Kd.R_lower ho0 (below_size q1_38)); have fA := Aside0.mk (blk_below (g := NB) (o := .cells #[.slice rA hA.length sA] 24 (0, 0)) q1_24 hb); have jA := Aside0.mk (blk_below (g := UB) (o := .cells #[.slice none 0 0] 29 (0, 0)) q1_47 hb); have pA := Aside0.mk (blk_below (g := YC) (o := .cells #[.slice none 0 0] 29 (0, 0)) (by (with_reducible repeat (first | refine blk_drewN ?_ _ | refine blk_drew ?_ | refine blk_alloc ?_ _)); exact FD.out) hb); have cB := Aside0.mk (below_step q1_38 hb); clear KC; clear LC; clear FD; clear HB; have OI := eA; have KC := fA; have LC := jA; have FD := pA; have HB := cB; clear eA fA jA pA cB; (try clear hb); (try clear hb2); (try clear hk); (try clear hi); (try clear ho0); obtain ⟨jD, hC, dD⟩ := Kd.R_slice OI.out; subst dD; have fO := BG.out; have gO := GD.out; have pL : w9.cell? ⟨YC, 0, none⟩ = some (.slice none 0 0) := (blk_cell FD.out 0).trans rfl; have qL := blk_frozen FD.out 0; have wC : w9.cell? ⟨UB, 0, none⟩ = some (.slice none 0 0) := (blk_cell LC.out 0).trans rfl; have xC := blk_frozen LC.out 0))
 refine bodyPost_ret (results_cell_row rfl _ _ UB 29 #[.slice jD eE.length hC] (0, 0) _ rfl (by (with_reducible repeat (first | refine blk_drewN ?_ _ | refine blk_drew ?_ | refine blk_alloc ?_ _)); refine blk_put (cs := #[.slice none 0 0]) ?_ 0 _ rfl; (with_reducible repeat (first | refine blk_drewN ?_ _ | refine blk_drew ?_ | refine blk_alloc ?_ _)); refine blk_far ?_ GD.out _; (with_reducible repeat (first | refine blk_drewN ?_ _ | refine blk_drew ?_ | refine blk_alloc ?_ _)); exact LC.out) Tryz.underlying29 rfl q1_35) rfl ?_
 exact ⟨_, q1_2, by (with_reducible repeat (first | apply Kd.R_alloc | apply Kd.R_drewN | apply Kd.R_drew)); exact Kd.R_mono (Kd.R_far (p := ⟨UB, 0, none⟩) (Kd.R_far (p := ⟨YC, 0, none⟩) (Kd.R_types (Kd.R_types OI.out FD.out q1_57) LC.out q1_57) (fun _ hk => hk.1.2) (.slice jD eE.length hC)) (fun _ hk => hk.2) (.slice jD eE.length hC)) (fun _ hk => trivial), q1_38⟩
def laws_toCall.f (iA : Int) (cA : Int) (QB : Int) (VB : Int) (nA : Int) (jC : Int) (qC : Int) (CC : Int) (JC : Int) (ZC : Bool) : Option (Int × Int × Int × Int × Int × Int × Int × Int × Int × Bool) := some (iA, cA, QB, VB, nA, jC, qC, CC, JC, ZC)
set_option maxHeartbeats 8000000 in
set_option maxRecDepth 100000 in
theorem laws_toCall.calls (iA : Int) (cA : Int) (QB : Int) (VB : Int) (nA : Int) (jC : Int) (qC : Int) (CC : Int) (JC : Int) (ZC : Bool) (r1 : Int) (r2 : Int) (r3 : Int) (r4 : Int) (r5 : Int) (r6 : Int) (r7 : Int) (r8 : Int) (r9 : Int) (r10 : Bool) (w : World) (h : laws_toCall.f iA cA QB VB nA jC qC CC JC ZC = some (r1, r2, r3, r4, r5, r6, r7, r8, r9, r10)) :
  Calls Tryz.prog 103 #[.agg #[.int .i64 iA, .int .i64 cA, .int .i64 QB, .int .i64 VB, .int .i64 nA, .int .i64 jC, .int .i64 qC, .int .i64 CC, .int .i64 JC, .bool ZC]] w fun e w' => e = .returned (.agg #[.int .i64 r1, .int .i64 r2, .int .i64 r3, .int .i64 r4, .int .i64 r5, .int .i64 r6, .int .i64 r7, .int .i64 r8, .int .i64 r9, .bool r10]) ∧ Below w.heap.size w w' := by
 have hu114 := Tryz.underlying114
 have hu54 := Tryz.underlying54
 have HB := Aside0.mk (Below.refl w.heap.size w)
 have H : (some (iA, cA, QB, VB, nA, jC, qC, CC, JC, ZC)) = some (r1, r2, r3, r4, r5, r6, r7, r8, r9, r10) := h
 clear h
 simp only [Option.some.injEq, Prod.mk.injEq] at H
 obtain ⟨rfl, rfl, rfl, rfl, rfl, rfl, rfl, rfl, rfl, rfl⟩ := H
 go_enter Tryz.func103, Tryz.ntmps103
 go_wp2_with (first | ((with_reducible refine gate_dst (N := 1) rfl ?_); refine box_event ?hg (N := 1) ?hd (cs := #[.int .i64 iA, .int .i64 cA, .int .i64 QB, .int .i64 VB, .int .i64 nA, .int .i64 jC, .int .i64 qC, .int .i64 CC, .int .i64 JC, .bool ZC]) (t := 114) ?hr ?_; (case hd => rfl); (case hg => rfl); (case hr => first | (go_simp; done) | (go_simp; rfl)); intro hB hg w2 hbox hb; have eA := Aside0.mk (below_step q1_0 hb); have fA := Aside0.mk (hbox); have jA := Aside0.mk ((q1_6 : w.heap.size ≤ hB)); have pA := Aside0.mk ((q1_6 : w.heap.size ≤ hB)); clear HB; have HB := eA; have TA := fA; have hO := jA; have WG := pA; clear eA fA jA pA; clear hb hbox hg) | ((with_reducible refine gate_dst (N := 2) rfl ?_); refine box_event ?hg (N := 2) ?hd (cs := #[.int .i64 0, .int .i64 0, .int .i64 0, .int .i64 0, .int .i64 0, .int .i64 0, .int .i64 0, .int .i64 0, .int .i64 0, .bool false]) (t := 54) ?hr ?_; (case hd => rfl); (case hg => rfl); (case hr => first | (go_simp; done) | (go_simp; rfl)); intro mB hg w3 hbox hb; have eA := Aside0.mk (blk_below (g := hB) (o := .cells #[.int .i64 iA, .int .i64 cA, .int .i64 QB, .int .i64 VB, .int .i64 nA, .int .i64 jC, .int .i64 qC, .int .i64 CC, .int .i64 JC, .bool ZC] 114 (0, 0)) q1_33 hb); have fA := Aside0.mk (below_step q1_54 hb); have jA := Aside0.mk (hbox); have pA := Aside0.mk ((by rw [hg]; exact (below_size q1_54) : w.heap.size ≤ mB)); have cB := Aside0.mk ((by rw [hg]; exact (below_size q1_54) : w.heap.size ≤ mB)); have pB := Aside0.mk ((by rw [hg]; exact Nat.ne_of_lt (blk_lt (g := hB) (o := .cells #[.int .i64 iA, .int .i64 cA, .int .i64 QB, .int .i64 VB, .int .i64 nA, .int .i64 jC, .int .i64 qC, .int .i64 CC, .int .i64 JC, .bool ZC] 114 (0, 0)) q1_33) : hB ≠ mB)); have uB := Aside0.mk ((by rw [hg]; exact Nat.ne_of_gt (blk_lt (g := hB) (o := .cells #[.int .i64 iA, .int .i64 cA, .int .i64 QB, .int .i64 VB, .int .i64 nA, .int .i64 jC, .int .i64 qC, .int .i64 CC, .int .i64 JC, .bool ZC] 114 (0, 0)) q1_33) : mB ≠ hB)); clear TA; clear HB; have TA := eA; have HB := fA; have SA := jA; have iO := pA; have DI := cB; have CG := pB; have DG := uB; clear eA fA jA pA cB pB uB; clear hb hbox hg) | ((with_reducible refine gate_dst (N := 3) rfl ?_); refine box_event ?hg (N := 3) ?hd (cs := #[.int .i64 0, .int .i64 0, .int .i64 0, .int .i64 0, .int .i64 0, .int .i64 0, .int .i64 0, .int .i64 0, .int .i64 0, .bool false]) (t := 54) ?hr ?_; (case hd => rfl); (case hg => rfl); (case hr => first | (go_simp; done) | (go_simp; rfl)); intro zB hg w4 hbox hb; have eA := Aside0.mk (blk_below (g := hB) (o := .cells #[.int .i64 iA, .int .i64 cA, .int .i64 QB, .int .i64 VB, .int .i64 nA, .int .i64 jC, .int .i64 qC, .int .i64 CC, .int .i64 JC, .bool ZC] 114 (0, 0)) q1_33 hb); have fA := Aside0.mk (blk_below (g := mB) (o := .cells #[.int .i64 0, .int .i64 0, .int .i64 0, .int .i64 0, .int .i64 0, .int .i64 0, .int .i64 0, .int .i64 0, .int .i64 0, .bool false] 54 (0, 0)) (by (with_reducible repeat (first | refine blk_drewN ?_ _ | refine blk_drew ?_ | refine blk_alloc ?_ _)); exact SA.out) hb); have jA := Aside0.mk (below_step q1_42 hb); have pA := Aside0.mk (hbox); have cB := Aside0.mk ((by rw [hg]; exact (below_size q1_42) : w.heap.size ≤ zB)); have pB := Aside0.mk ((by rw [hg]; exact (below_size q1_42) : w.heap.size ≤ zB)); have uB := Aside0.mk ((by rw [hg]; exact Nat.ne_of_lt (blk_lt (g := hB) (o := .cells #[.int .i64 iA, .int .i64 cA, .int .i64 QB, .int .i64 VB, .int .i64 nA, .int .i64 jC, .int .i64 qC, .int .i64 CC, .int .i64 JC, .bool ZC] 114 (0, 0)) q1_33) : hB ≠ zB)); have GC := Aside0.mk ((by rw [hg]; exact Nat.ne_of_gt (blk_lt (g := hB) (o := .cells #[.int .i64 iA, .int .i64 cA, .int .i64 QB, .int .i64 VB, .int .i64 nA, .int .i64 jC, .int .i64 qC, .int .i64 CC, .int .i64 JC, .bool ZC] 114 (0, 0)) q1_33) : zB ≠ hB)); have gH := Aside0.mk ((by rw [hg]; exact Nat.ne_of_lt (blk_lt (g := mB) (o := .cells #[.int .i64 0, .int .i64 0, .int .i64 0, .int .i64 0, .int .i64 0, .int .i64 0, .int .i64 0, .int .i64 0, .int .i64 0, .bool false] 54 (0, 0)) (by (with_reducible repeat (first | refine blk_drewN ?_ _ | refine blk_drew ?_ | refine blk_alloc ?_ _)); exact SA.out)) : mB ≠ zB)); have hH := Aside0.mk ((by rw [hg]; exact Nat.ne_of_gt (blk_lt (g := mB) (o := .cells #[.int .i64 0, .int .i64 0, .int .i64 0, .int .i64 0, .int .i64 0, .int .i64 0, .int .i64 0, .int .i64 0, .int .i64 0, .bool false] 54 (0, 0)) (by (with_reducible repeat (first | refine blk_drewN ?_ _ | refine blk_drew ?_ | refine blk_alloc ?_ _)); exact SA.out)) : zB ≠ mB)); clear TA; clear SA; clear HB; have TA := eA; have SA := fA; have HB := jA; have nB := pA; have jO := cB; have PK := pB; have EG := uB; have FG := GC; have PA := gH; have GG := hH; clear eA fA jA pA cB pB uB GC gH hH; clear hb hbox hg; have gM := CG.out; have hM := DG.out; have BM := EG.out; have CM := FG.out; have DM : w4.cell? ⟨hB, 0, none⟩ = some (.int .i64 iA) := (blk_cell TA.out 0).trans rfl; have EM : w4.cell? ⟨hB, 1, none⟩ = some (.int .i64 cA) := (blk_cell TA.out 1).trans rfl; have FM : w4.cell? ⟨hB, 2, none⟩ = some (.int .i64 QB) := (blk_cell TA.out 2).trans rfl; have GM : w4.cell? ⟨hB, 3, none⟩ = some (.int .i64 VB) := (blk_cell TA.out 3).trans rfl; have HM : w4.cell? ⟨hB, 4, none⟩ = some (.int .i64 nA) := (blk_cell TA.out 4).trans rfl; have IM : w4.cell? ⟨hB, 5, none⟩ = some (.int .i64 jC) := (blk_cell TA.out 5).trans rfl; have JM : w4.cell? ⟨hB, 6, none⟩ = some (.int .i64 qC) := (blk_cell TA.out 6).trans rfl; have KM : w4.cell? ⟨hB, 7, none⟩ = some (.int .i64 CC) := (blk_cell TA.out 7).trans rfl; have LM : w4.cell? ⟨hB, 8, none⟩ = some (.int .i64 JC) := (blk_cell TA.out 8).trans rfl; have MM : w4.cell? ⟨hB, 9, none⟩ = some (.bool ZC) := (blk_cell TA.out 9).trans rfl; have NM := blk_frozen TA.out 0; have OM := blk_frozen TA.out 1; have PM := blk_frozen TA.out 2; have QM := blk_frozen TA.out 3; have RM := blk_frozen TA.out 4; have SM := blk_frozen TA.out 5; have TM := blk_frozen TA.out 6; have UM := blk_frozen TA.out 7; have VM := blk_frozen TA.out 8; have WM := blk_frozen TA.out 9; have QK := GG.out; have RK := PA.out; have IE : w4.cell? ⟨zB, 0, none⟩ = some (.int .i64 0) := (blk_cell nB.out 0).trans rfl; have jJ : w4.cell? ⟨zB, 1, none⟩ = some (.int .i64 0) := (blk_cell nB.out 1).trans rfl; have kJ : w4.cell? ⟨zB, 2, none⟩ = some (.int .i64 0) := (blk_cell nB.out 2).trans rfl; have lJ : w4.cell? ⟨zB, 3, none⟩ = some (.int .i64 0) := (blk_cell nB.out 3).trans rfl; have mJ : w4.cell? ⟨zB, 4, none⟩ = some (.int .i64 0) := (blk_cell nB.out 4).trans rfl; have XM : w4.cell? ⟨zB, 5, none⟩ = some (.int .i64 0) := (blk_cell nB.out 5).trans rfl; have YM : w4.cell? ⟨zB, 6, none⟩ = some (.int .i64 0) := (blk_cell nB.out 6).trans rfl; have ZM : w4.cell? ⟨zB, 7, none⟩ = some (.int .i64 0) := (blk_cell nB.out 7).trans rfl; have aN : w4.cell? ⟨zB, 8, none⟩ = some (.int .i64 0) := (blk_cell nB.out 8).trans rfl; have bN : w4.cell? ⟨zB, 9, none⟩ = some (.bool false) := (blk_cell nB.out 9).trans rfl; have JE := blk_frozen nB.out 0; have nJ := blk_frozen nB.out 1; have oJ := blk_frozen nB.out 2; have pJ := blk_frozen nB.out 3; have qJ := blk_frozen nB.out 4; have cN := blk_frozen nB.out 5; have dN := blk_frozen nB.out 6; have eN := blk_frozen nB.out 7; have fN := blk_frozen nB.out 8; have gN := blk_frozen nB.out 9; have JF : w4.cell? ⟨mB, 0, none⟩ = some (.int .i64 0) := (blk_cell SA.out 0).trans rfl; have KF : w4.cell? ⟨mB, 1, none⟩ = some (.int .i64 0) := (blk_cell SA.out 1).trans rfl; have LF : w4.cell? ⟨mB, 2, none⟩ = some (.int .i64 0) := (blk_cell SA.out 2).trans rfl; have MF : w4.cell? ⟨mB, 3, none⟩ = some (.int .i64 0) := (blk_cell SA.out 3).trans rfl; have rL : w4.cell? ⟨mB, 4, none⟩ = some (.int .i64 0) := (blk_cell SA.out 4).trans rfl; have sL : w4.cell? ⟨mB, 5, none⟩ = some (.int .i64 0) := (blk_cell SA.out 5).trans rfl; have tL : w4.cell? ⟨mB, 6, none⟩ = some (.int .i64 0) := (blk_cell SA.out 6).trans rfl; have uL : w4.cell? ⟨mB, 7, none⟩ = some (.int .i64 0) := (blk_cell SA.out 7).trans rfl; have vL : w4.cell? ⟨mB, 8, none⟩ = some (.int .i64 0) := (blk_cell SA.out 8).trans rfl; have wL : w4.cell? ⟨mB, 9, none⟩ = some (.bool false) := (blk_cell SA.out 9).trans rfl; have NF := blk_frozen SA.out 0; have OF := blk_frozen SA.out 1; have PF := blk_frozen SA.out 2; have QF := blk_frozen SA.out 3; have xL := blk_frozen SA.out 4; have yL := blk_frozen SA.out 5; have zL := blk_frozen SA.out 6; have AL := blk_frozen SA.out 7; have BL := blk_frozen SA.out 8; have CL := blk_frozen SA.out 9))
 refine bodyPost_ret (results_cell_row rfl _ _ mB 54 #[.int .i64 iA, .int .i64 cA, .int .i64 QB, .int .i64 VB, .int .i64 nA, .int .i64 jC, .int .i64 qC, .int .i64 CC, .int .i64 JC, .bool ZC] (0, 0) _ rfl (by (with_reducible repeat (first | refine blk_drewN ?_ _ | refine blk_drew ?_ | refine blk_alloc ?_ _)); refine blk_put (cs := #[.int .i64 iA, .int .i64 cA, .int .i64 QB, .int .i64 VB, .int .i64 nA, .int .i64 jC, .int .i64 qC, .int .i64 CC, .int .i64 JC, .bool false]) ?_ 9 _ rfl; (with_reducible repeat (first | refine blk_drewN ?_ _ | refine blk_drew ?_ | refine blk_alloc ?_ _)); refine blk_put (cs := #[.int .i64 iA, .int .i64 cA, .int .i64 QB, .int .i64 VB, .int .i64 nA, .int .i64 jC, .int .i64 qC, .int .i64 CC, .int .i64 0, .bool false]) ?_ 8 _ rfl; (with_reducible repeat (first | refine blk_drewN ?_ _ | refine blk_drew ?_ | refine blk_alloc ?_ _)); refine blk_put (cs := #[.int .i64 iA, .int .i64 cA, .int .i64 QB, .int .i64 VB, .int .i64 nA, .int .i64 jC, .int .i64 qC, .int .i64 0, .int .i64 0, .bool false]) ?_ 7 _ rfl; (with_reducible repeat (first | refine blk_drewN ?_ _ | refine blk_drew ?_ | refine blk_alloc ?_ _)); refine blk_put (cs := #[.int .i64 iA, .int .i64 cA, .int .i64 QB, .int .i64 VB, .int .i64 nA, .int .i64 jC, .int .i64 0, .int .i64 0, .int .i64 0, .bool false]) ?_ 6 _ rfl; (with_reducible repeat (first | refine blk_drewN ?_ _ | refine blk_drew ?_ | refine blk_alloc ?_ _)); refine blk_put (cs := #[.int .i64 iA, .int .i64 cA, .int .i64 QB, .int .i64 VB, .int .i64 nA, .int .i64 0, .int .i64 0, .int .i64 0, .int .i64 0, .bool false]) ?_ 5 _ rfl; (with_reducible repeat (first | refine blk_drewN ?_ _ | refine blk_drew ?_ | refine blk_alloc ?_ _)); refine blk_put (cs := #[.int .i64 iA, .int .i64 cA, .int .i64 QB, .int .i64 VB, .int .i64 0, .int .i64 0, .int .i64 0, .int .i64 0, .int .i64 0, .bool false]) ?_ 4 _ rfl; (with_reducible repeat (first | refine blk_drewN ?_ _ | refine blk_drew ?_ | refine blk_alloc ?_ _)); refine blk_put (cs := #[.int .i64 iA, .int .i64 cA, .int .i64 QB, .int .i64 0, .int .i64 0, .int .i64 0, .int .i64 0, .int .i64 0, .int .i64 0, .bool false]) ?_ 3 _ rfl; (with_reducible repeat (first | refine blk_drewN ?_ _ | refine blk_drew ?_ | refine blk_alloc ?_ _)); refine blk_put (cs := #[.int .i64 iA, .int .i64 cA, .int .i64 0, .int .i64 0, .int .i64 0, .int .i64 0, .int .i64 0, .int .i64 0, .int .i64 0, .bool false]) ?_ 2 _ rfl; (with_reducible repeat (first | refine blk_drewN ?_ _ | refine blk_drew ?_ | refine blk_alloc ?_ _)); refine blk_put (cs := #[.int .i64 iA, .int .i64 0, .int .i64 0, .int .i64 0, .int .i64 0, .int .i64 0, .int .i64 0, .int .i64 0, .int .i64 0, .bool false]) ?_ 1 _ rfl; (with_reducible repeat (first | refine blk_drewN ?_ _ | refine blk_drew ?_ | refine blk_alloc ?_ _)); refine blk_put (cs := #[.int .i64 0, .int .i64 0, .int .i64 0, .int .i64 0, .int .i64 0, .int .i64 0, .int .i64 0, .int .i64 0, .int .i64 0, .bool false]) ?_ 0 _ rfl; (with_reducible repeat (first | refine blk_drewN ?_ _ | refine blk_drew ?_ | refine blk_alloc ?_ _)); refine blk_far ?_ PA.out _; (with_reducible repeat (first | refine blk_drewN ?_ _ | refine blk_drew ?_ | refine blk_alloc ?_ _)); refine blk_far ?_ PA.out _; (with_reducible repeat (first | refine blk_drewN ?_ _ | refine blk_drew ?_ | refine blk_alloc ?_ _)); refine blk_far ?_ PA.out _; (with_reducible repeat (first | refine blk_drewN ?_ _ | refine blk_drew ?_ | refine blk_alloc ?_ _)); refine blk_far ?_ PA.out _; (with_reducible repeat (first | refine blk_drewN ?_ _ | refine blk_drew ?_ | refine blk_alloc ?_ _)); refine blk_far ?_ PA.out _; (with_reducible repeat (first | refine blk_drewN ?_ _ | refine blk_drew ?_ | refine blk_alloc ?_ _)); refine blk_far ?_ PA.out _; (with_reducible repeat (first | refine blk_drewN ?_ _ | refine blk_drew ?_ | refine blk_alloc ?_ _)); refine blk_far ?_ PA.out _; (with_reducible repeat (first | refine blk_drewN ?_ _ | refine blk_drew ?_ | refine blk_alloc ?_ _)); refine blk_far ?_ PA.out _; (with_reducible repeat (first | refine blk_drewN ?_ _ | refine blk_drew ?_ | refine blk_alloc ?_ _)); refine blk_far ?_ PA.out _; (with_reducible repeat (first | refine blk_drewN ?_ _ | refine blk_drew ?_ | refine blk_alloc ?_ _)); refine blk_far ?_ PA.out _; (with_reducible repeat (first | refine blk_drewN ?_ _ | refine blk_drew ?_ | refine blk_alloc ?_ _)); exact SA.out) Tryz.underlying54 rfl q1_35) rfl ?_
 exact ⟨q1_2, by repeat (first | (with_reducible first | exact HB.out | apply below_alloc | apply pw_below_drewN | apply below_drew1 | refine below_set ?_ WG.out | refine below_set ?_ DI.out | refine below_set ?_ PK.out) | exact HB.out)⟩
def laws_toCallS.l0 : Nat → List (S114) → List (S54) → Int → Option ((List (S54)))
 | 0, _, _, _ => none
 | k + 1, x0, x3, x4 => if x4 < (x0.length : Int) then (if 0 ≤ x4 then ((laws_toCall.f ((rd_T114 x0 x4).f0) ((rd_T114 x0 x4).f1) ((rd_T114 x0 x4).f2) ((rd_T114 x0 x4).f3) ((rd_T114 x0 x4).f4) ((rd_T114 x0 x4).f5) ((rd_T114 x0 x4).f6) ((rd_T114 x0 x4).f7) ((rd_T114 x0 x4).f8) ((rd_T114 x0 x4).f9)).bind fun IC => (if x4 < (x3.length : Int) then (laws_toCallS.l0 k x0 (x3.set (x4 : Int).toNat (⟨IC.1, IC.2.1, IC.2.2.1, IC.2.2.2.1, IC.2.2.2.2.1, IC.2.2.2.2.2.1, IC.2.2.2.2.2.2.1, IC.2.2.2.2.2.2.2.1, IC.2.2.2.2.2.2.2.2.1, IC.2.2.2.2.2.2.2.2.2⟩ : S54)) (wrap64 (x4 + 1))) else (none))) else (none)) else (some x3)
def laws_toCallS.f (k : Nat) (l0 : List (S114)) : Option ((List (S54))) := if 0 ≤ (l0.length : Int) then (if ((l0.length : Int) : Int).toNat ≤ 3518437208883 then (laws_toCallS.l0 k l0 (List.replicate ((l0.length : Int) : Int).toNat z54) 0) else (none)) else (none)
theorem laws_toCallS.mono_l : ∀ k, (∀ y0 y1 y2, LeO (laws_toCallS.l0 k y0 y1 y2) (laws_toCallS.l0 (k + 1) y0 y1 y2))
 | 0 => fun _ _ _ r h => by simp [laws_toCallS.l0] at h
 | k + 1 => by
  have ih0 := laws_toCallS.mono_l k
  ·intro y0 y1 y2
   unfold laws_toCallS.l0
   repeat' first
   | (with_reducible exact ih0 _ _ _)
   | (with_reducible exact LeO.refl _)
   | (with_reducible exact LeO.none _)
   | (with_reducible refine LeO.ite ?_ ?_)
   | (with_reducible refine LeO.bind ?_ (fun _ => ?_))
   | exact ih0 _ _ _
   | exact LeO.none _
   | refine LeO.ite ?_ ?_
   | refine LeO.bind ?_ (fun _ => ?_)
theorem laws_toCallS.mono : ∀ a0 k, LeO (laws_toCallS.f k a0) (laws_toCallS.f (k + 1) a0) := by
 intro a0 k
 have ih0 := laws_toCallS.mono_l k
 unfold laws_toCallS.f
 repeat' first
   | (with_reducible exact ih0 _ _ _)
   | (with_reducible exact LeO.refl _)
   | (with_reducible exact LeO.none _)
   | (with_reducible refine LeO.ite ?_ ?_)
   | (with_reducible refine LeO.bind ?_ (fun _ => ?_))
   | exact ih0 _ _ _
   | exact LeO.none _
   | refine LeO.ite ?_ ?_
   | refine LeO.bind ?_ (fun _ => ?_)
set_option maxHeartbeats 8000000 in
set_option maxRecDepth 100000 in
theorem laws_toCallS.calls (k : Nat) (A0 : Option Addr) (c0 : Nat) (l0 : List (S114)) (r : List (S54)) (w : World) (hr0 : Kd.C k114 w A0 l0.length l0) (hc0 : l0.length ≤ c0) (h : laws_toCallS.f k l0 = some r) :
  Calls Tryz.prog 78 #[.slice A0 l0.length c0] w fun e w' => ∃ v0_ : Value, e = .returned (v0_) ∧ Kd.R k54 54 w' w.heap.size (fun _ => True) v0_ r ∧ Below w.heap.size w w' := by
 have hu114 := Tryz.underlying114
 have hu54 := Tryz.underlying54
 have HR0 := Aside0.mk hr0
 clear hr0 hc0
 have HB := Aside0.mk (Below.refl w.heap.size w)
 have H : (if 0 ≤ (l0.length : Int) then (if ((l0.length : Int) : Int).toNat ≤ 3518437208883 then (laws_toCallS.l0 k l0 (List.replicate ((l0.length : Int) : Int).toNat z54) 0) else (none)) else (none)) = some r := h
 clear h
 by_cases c2 : 0 ≤ (l0.length : Int)
 ·rw [if_pos c2] at H
  have dH := eq_true c2
  have eH : decide (0 ≤ (l0.length : Int)) = true := decide_eq_true c2
  clear c2
  by_cases c3 : ((l0.length : Int) : Int).toNat ≤ 3518437208883
  ·rw [if_pos c3] at H
   have kD := eq_true c3
   have fH : decide (((l0.length : Int) : Int).toNat ≤ 3518437208883) = true := decide_eq_true c3
   clear c3
   obtain ⟨y126, hy126⟩ : ∃ y_ : List (S54), y_ = (List.replicate ((l0.length : Int) : Int).toNat z54) := ⟨_, rfl⟩
   replace H : (laws_toCallS.l0 k l0 y126 0) = some r := by first | (rw [hy126]; with_reducible exact H) | (have H2_ := (Option.bind_some _ _).symm.trans H; rw [hy126]; with_reducible exact H2_) | (have H2_ := (Option.bind_some _ _).symm.trans H; with_reducible exact H2_) | with_reducible exact H | (rw [hy126]; exact H) | exact H
   have Ny126 := Aside0.mk hy126
   clear hy126
   have H' := Aside0.mk H
   clear H
   go_enter Tryz.func78, Tryz.ntmps78
   go_wp2_with (first | ((with_reducible refine gate_dst (N := 7) rfl ?_); refine Kd.R_make k54 _ 54 rfl (N := 7) rfl 50 _ _ rfl (l0.length : Int) rfl rfl Tryz.underlying50 (.agg #[(.int .i64 0), (.int .i64 0), (.int .i64 0), (.int .i64 0), (.int .i64 0), (.int .i64 0), (.int .i64 0), (.int .i64 0), (.int .i64 0), (.bool false)]) 80 info54 rfl q1_57 (by omega) z54 (ok := fun _ => True) (okp := fun _ => True) (k54_mkM _ _ _ z54 ) (fun _ hk => hk) trivial (of_decide_eq_true q1_3) (Nat.le_trans (Nat.mul_le_mul_right _ (of_decide_eq_true q1_3 : (l0.length : Int).toNat ≤ 3518437208883)) (by omega)) (Below.refl _ _) (Nat.le_refl _) ?_; intro hN w4 ho5 hb hg_ hnew_; clear hg_ hnew_; (first | rw [← Ny126.out] at ho5 | (simp only [Int.reduceToNat] at ho5; rw [← Ny126.out] at ho5)); have eA := Aside0.mk (Kd.R_lower ho5 (below_size q1_0)); have fA := Aside0.mk (below_step q1_0 hb); clear HB; have SK := eA; have HB := fA; clear eA fA; clear hb ho5))
   go_loopg [4] k (fun kq v4 w' => ∃ (tA : List (S54)) (bA : Int), v4 = .int .i64 bA ∧ Aside0 (laws_toCallS.l0 kq l0 tA bA = some r) ∧ Aside0 (kq ≤ k) ∧ Aside0 (Kd.R k54 54 w' w.heap.size (fun _ => True) hN tA) ∧ Aside0 (Below w.heap.size w w'))
   case atStart => exact ⟨(y126), (0), q1_17, H', ⟨Nat.le_refl _⟩, ⟨by (with_reducible repeat (first | apply Kd.R_alloc | apply Kd.R_drewN | apply Kd.R_drew)); exact SK.out⟩, ⟨q1_0⟩⟩
   case round =>
    clear H'
    (try clear c2); (try clear dH); (try clear eH); (try clear p2); (try clear c3); (try clear kD); (try clear fH)
    obtain ⟨tA, bA, rfl, HA, HK1, zA, HB⟩ := hrel
    cases gk with
    | zero => exact absurd HA.out (by simp [laws_toCallS.l0])
    | succ k1 =>
     have H := HA.out
     clear HA
     simp only [laws_toCallS.l0] at H
     by_cases c6 : bA < (l0.length : Int)
     ·rw [if_pos c6] at H
      have OC : decide (bA < (l0.length : Int)) = true := decide_eq_true c6
      clear c6
      by_cases c7 : 0 ≤ bA
      ·rw [if_pos c7] at H
       have wE : decide (0 ≤ bA) = true := decide_eq_true c7
       clear c7
       replace H := Option.bind_eq_some_iff.mp H
       obtain ⟨⟨dF, eF, fF, gF, hF, iF, jF, kF, lF, mF⟩, A80, H⟩ := H
       replace H : (if bA < (tA.length : Int) then (laws_toCallS.l0 k1 l0 (tA.set (bA : Int).toNat (⟨dF, eF, fF, gF, hF, iF, jF, kF, lF, mF⟩ : S54)) (wrap64 (bA + 1))) else (none)) = some r := H
       have A8 := Aside0.mk A80
       clear A80
       by_cases c9 : bA < (tA.length : Int)
       ·rw [if_pos c9] at H
        have UE : decide (bA < (tA.length : Int)) = true := decide_eq_true c9
        clear c9
        obtain ⟨y140, hy140⟩ : ∃ y_ : List (S54), y_ = (tA.set (bA : Int).toNat (⟨dF, eF, fF, gF, hF, iF, jF, kF, lF, mF⟩ : S54)) := ⟨_, rfl⟩
        replace H : (laws_toCallS.l0 k1 l0 y140 (wrap64 (bA + 1))) = some r := by first | (rw [hy140]; with_reducible exact H) | (have H2_ := (Option.bind_some _ _).symm.trans H; rw [hy140]; with_reducible exact H2_) | (have H2_ := (Option.bind_some _ _).symm.trans H; with_reducible exact H2_) | with_reducible exact H | (rw [hy140]; exact H) | exact H
        have Ny140 := Aside0.mk hy140
        clear hy140
        have H' := Aside0.mk H
        clear H
        have p129 : 0 ≤ (bA : Int) := of_decide_eq_true q1_3
        have q129 : bA < (l0.length : Int) := of_decide_eq_true q1_3
        obtain ⟨ad129, iN, fE, gE, hE, iE, jE, kE, lE, mE, nE, oE⟩ := at_T114 HR0.out bA p129 q129
        cases iN
        replace fE := (HB.out.cell (World.block_lt_of_cell? w _ fE)).trans fE
        replace gE := (HB.out.cell (World.block_lt_of_cell? w _ gE)).trans gE
        replace hE := (HB.out.cell (World.block_lt_of_cell? w _ hE)).trans hE
        replace iE := (HB.out.cell (World.block_lt_of_cell? w _ iE)).trans iE
        replace jE := (HB.out.cell (World.block_lt_of_cell? w _ jE)).trans jE
        replace kE := (HB.out.cell (World.block_lt_of_cell? w _ kE)).trans kE
        replace lE := (HB.out.cell (World.block_lt_of_cell? w _ lE)).trans lE
        replace mE := (HB.out.cell (World.block_lt_of_cell? w _ mE)).trans mE
        replace nE := (HB.out.cell (World.block_lt_of_cell? w _ nE)).trans nE
        replace oE := (HB.out.cell (World.block_lt_of_cell? w _ oE)).trans oE
        replace p129 := eq_true p129
        replace q129 := eq_true q129
        go_wp2_with (first | ((with_reducible refine gate_callee (f := 103) rfl ?_); refine goesL_ (some 20) rfl rfl Tryz.func103 q1_35 rfl #[.agg #[.int .i64 ((rd_T114 l0 bA).f0), .int .i64 ((rd_T114 l0 bA).f1), .int .i64 ((rd_T114 l0 bA).f2), .int .i64 ((rd_T114 l0 bA).f3), .int .i64 ((rd_T114 l0 bA).f4), .int .i64 ((rd_T114 l0 bA).f5), .int .i64 ((rd_T114 l0 bA).f6), .int .i64 ((rd_T114 l0 bA).f7), .int .i64 ((rd_T114 l0 bA).f8), .bool ((rd_T114 l0 bA).f9)]] rfl q1_1 ?_; (with_reducible refine (laws_toCall.calls ((rd_T114 l0 bA).f0) ((rd_T114 l0 bA).f1) ((rd_T114 l0 bA).f2) ((rd_T114 l0 bA).f3) ((rd_T114 l0 bA).f4) ((rd_T114 l0 bA).f5) ((rd_T114 l0 bA).f6) ((rd_T114 l0 bA).f7) ((rd_T114 l0 bA).f8) ((rd_T114 l0 bA).f9) dF eF fF gF hF iF jF kF lF mF _ A8.out).mono ?_); rintro e oB ⟨rfl, hb⟩; refine ⟨_, rfl, ?_⟩; have eA := Aside0.mk (Kd.R_below q1_16 hb); have fA := Aside0.mk (below_step q1_0 hb); clear zA; clear HB; have zA := eA; have HB := fA; clear eA fA; (try clear hb); (try clear hb2); (try clear hk); (try clear hi); have p10 : 0 ≤ (bA : Int) := of_decide_eq_true q1_3; have q10 : (bA : Int) < ((tA.length : Int) : Int) := of_decide_eq_true q1_3; obtain ⟨go10, hC, dD, iH, gl10, cl10, HG10⟩ := Kd.R_form zA.out (by omega); (first | cases dD | (injection dD with ea_ en_ ec_; (first | subst ea_ | (injection ea_ with ea_; subst ea_)); subst ec_; clear en_)); have GB10 := Aside0.mk iH; have GG10 := Aside0.mk HG10; clear iH gl10 HG10; obtain ⟨ce10, hcl10, hM10, hcc10, hfr10⟩ := Kd.R_elem zA.out z54 (bA : Int) p10 q10; obtain rfl := k54_openM hM10; have rJ : oB.cell? ⟨go10, (bA : Int).toNat * 10, none⟩ = some (.int .i64 ((rd_T54 tA bA).f0)) := hcc10 0 _ rfl; have sJ : oB.cell? ⟨go10, (bA : Int).toNat * 10 + 1, none⟩ = some (.int .i64 ((rd_T54 tA bA).f1)) := hcc10 1 _ rfl; have tJ : oB.cell? ⟨go10, (bA : Int).toNat * 10 + 2, none⟩ = some (.int .i64 ((rd_T54 tA bA).f2)) := hcc10 2 _ rfl; have uJ : oB.cell? ⟨go10, (bA : Int).toNat * 10 + 3, none⟩ = some (.int .i64 ((rd_T54 tA bA).f3)) := hcc10 3 _ rfl; have jN : oB.cell? ⟨go10, (bA : Int).toNat * 10 + 4, none⟩ = some (.int .i64 ((rd_T54 tA bA).f4)) := hcc10 4 _ rfl; have kN : oB.cell? ⟨go10, (bA : Int).toNat * 10 + 5, none⟩ = some (.int .i64 ((rd_T54 tA bA).f5)) := hcc10 5 _ rfl; have lN : oB.cell? ⟨go10, (bA : Int).toNat * 10 + 6, none⟩ = some (.int .i64 ((rd_T54 tA bA).f6)) := hcc10 6 _ rfl; have mN : oB.cell? ⟨go10, (bA : Int).toNat * 10 + 7, none⟩ = some (.int .i64 ((rd_T54 tA bA).f7)) := hcc10 7 _ rfl; have nN : oB.cell? ⟨go10, (bA : Int).toNat * 10 + 8, none⟩ = some (.int .i64 ((rd_T54 tA bA).f8)) := hcc10 8 _ rfl; have oN : oB.cell? ⟨go10, (bA : Int).toNat * 10 + 9, none⟩ = some (.bool ((rd_T54 tA bA).f9)) := hcc10 9 _ rfl; have vJ : oB.frozen? ⟨go10, (bA : Int).toNat * 10, none⟩ = false := hfr10 0; have wJ : oB.frozen? ⟨go10, (bA : Int).toNat * 10 + 1, none⟩ = false := hfr10 1; have xJ : oB.frozen? ⟨go10, (bA : Int).toNat * 10 + 2, none⟩ = false := hfr10 2; have yJ : oB.frozen? ⟨go10, (bA : Int).toNat * 10 + 3, none⟩ = false := hfr10 3; have pN : oB.frozen? ⟨go10, (bA : Int).toNat * 10 + 4, none⟩ = false := hfr10 4; have qN : oB.frozen? ⟨go10, (bA : Int).toNat * 10 + 5, none⟩ = false := hfr10 5; have rN : oB.frozen? ⟨go10, (bA : Int).toNat * 10 + 6, none⟩ = false := hfr10 6; have sN : oB.frozen? ⟨go10, (bA : Int).toNat * 10 + 7, none⟩ = false := hfr10 7; have tN : oB.frozen? ⟨go10, (bA : Int).toNat * 10 + 8, none⟩ = false := hfr10 8; have uN : oB.frozen? ⟨go10, (bA : Int).toNat * 10 + 9, none⟩ = false := hfr10 9; clear hcl10 hcc10 hfr10 hM10; replace p10 := eq_true p10; replace q10 := eq_true q10; have HX12 := Aside0.mk (show Kd.R k54 54 oB w.heap.size (fun _ => True) (.slice (some ⟨go10, 0, none⟩) tA.length hC) tA from q1_16); obtain ⟨ce12, hcl12, hM12, hcc12, hfr12⟩ := Kd.R_elem HX12.out z54 (bA : Int) (of_decide_eq_true q1_3) (by have h_ : (bA : Int) < ((tA.length : Int) : Int) := of_decide_eq_true q1_3; first | exact h_ | (have e_ := (Kd.R_reads' zA.out).1; omega) | simpa using h_); obtain rfl := k54_openM hM12; have HP12 := Kd.R_seg HX12.out (bA : Int) (of_decide_eq_true q1_3) (by have h_ : (bA : Int) < ((tA.length : Int) : Int) := of_decide_eq_true q1_3; first | exact h_ | (have e_ := (Kd.R_reads' zA.out).1; omega) | simpa using h_) (seg := [.int .i64 dF, .int .i64 eF, .int .i64 fF, .int .i64 gF, .int .i64 hF, .int .i64 iF, .int .i64 jF, .int .i64 kF, .int .i64 lF, .bool mF]) (j := 0) hcl12 hcc12 (show 10 ≤ 10 from by decide) (x' := (⟨dF, eF, fF, gF, hF, iF, jF, kF, lF, mF⟩ : S54)) (k54_mkM _ _ _ (⟨dF, eF, fF, gF, hF, iF, jF, kF, lF, mF⟩ : S54) ) (fun _ hk => hk); have nF := hcc12 0 _ rfl; (try simp only [show (k54).sz = 10 from rfl, Nat.mul_one, Nat.add_zero] at nF); have oF := hfr12 0; (try simp only [show (k54).sz = 10 from rfl, Nat.mul_one, Nat.add_zero] at oF); have pF := hcc12 1 _ rfl; (try simp only [show (k54).sz = 10 from rfl, Nat.mul_one, Nat.add_zero] at pF); have qF := hfr12 1; (try simp only [show (k54).sz = 10 from rfl, Nat.mul_one, Nat.add_zero] at qF); have rF := hcc12 2 _ rfl; (try simp only [show (k54).sz = 10 from rfl, Nat.mul_one, Nat.add_zero] at rF); have sF := hfr12 2; (try simp only [show (k54).sz = 10 from rfl, Nat.mul_one, Nat.add_zero] at sF); have tF := hcc12 3 _ rfl; (try simp only [show (k54).sz = 10 from rfl, Nat.mul_one, Nat.add_zero] at tF); have uF := hfr12 3; (try simp only [show (k54).sz = 10 from rfl, Nat.mul_one, Nat.add_zero] at uF); have zJ := hcc12 4 _ rfl; (try simp only [show (k54).sz = 10 from rfl, Nat.mul_one, Nat.add_zero] at zJ); have AJ := hfr12 4; (try simp only [show (k54).sz = 10 from rfl, Nat.mul_one, Nat.add_zero] at AJ); have BJ := hcc12 5 _ rfl; (try simp only [show (k54).sz = 10 from rfl, Nat.mul_one, Nat.add_zero] at BJ); have CJ := hfr12 5; (try simp only [show (k54).sz = 10 from rfl, Nat.mul_one, Nat.add_zero] at CJ); have DJ := hcc12 6 _ rfl; (try simp only [show (k54).sz = 10 from rfl, Nat.mul_one, Nat.add_zero] at DJ); have EJ := hfr12 6; (try simp only [show (k54).sz = 10 from rfl, Nat.mul_one, Nat.add_zero] at EJ); have FJ := hcc12 7 _ rfl; (try simp only [show (k54).sz = 10 from rfl, Nat.mul_one, Nat.add_zero] at FJ); have GJ := hfr12 7; (try simp only [show (k54).sz = 10 from rfl, Nat.mul_one, Nat.add_zero] at GJ); have HJ := hcc12 8 _ rfl; (try simp only [show (k54).sz = 10 from rfl, Nat.mul_one, Nat.add_zero] at HJ); have IJ := hfr12 8; (try simp only [show (k54).sz = 10 from rfl, Nat.mul_one, Nat.add_zero] at IJ); have JJ := hcc12 9 _ rfl; (try simp only [show (k54).sz = 10 from rfl, Nat.mul_one, Nat.add_zero] at JJ); have KJ := hfr12 9; (try simp only [show (k54).sz = 10 from rfl, Nat.mul_one, Nat.add_zero] at KJ); clear hcl12 hcc12 hfr12 hM12) | ((with_reducible refine gate_store (t := 54) (p := 21) rfl ?_); refine store_event (t := 54) (p := 21) (v := ?vo_w13) (w1 := ((((((((((oB.setCell ⟨go10, (bA : Int).toNat * 10, none⟩ (.int .i64 dF)).setCell ⟨go10, (bA : Int).toNat * 10 + 1, none⟩ (.int .i64 eF)).setCell ⟨go10, (bA : Int).toNat * 10 + 2, none⟩ (.int .i64 fF)).setCell ⟨go10, (bA : Int).toNat * 10 + 3, none⟩ (.int .i64 gF)).setCell ⟨go10, (bA : Int).toNat * 10 + 4, none⟩ (.int .i64 hF)).setCell ⟨go10, (bA : Int).toNat * 10 + 5, none⟩ (.int .i64 iF)).setCell ⟨go10, (bA : Int).toNat * 10 + 6, none⟩ (.int .i64 jF)).setCell ⟨go10, (bA : Int).toNat * 10 + 7, none⟩ (.int .i64 kF)).setCell ⟨go10, (bA : Int).toNat * 10 + 8, none⟩ (.int .i64 lF)).setCell ⟨go10, (bA : Int).toNat * 10 + 9, none⟩ (.bool mF))) ?hg ?ho ?hn ?hr ?_; (case ho => rfl); (case hg => rfl); (case hn => rfl); (case hr => first | (go_simp; done) | (go_simp; rfl)); intro DE hw; have hg : oB.grownBy DE (some go10) := (by rw [hw]; exact HP12.2); have hp_ : Kd.R k54 54 DE w.heap.size (fun _ => True) (.slice (some ⟨go10, 0, none⟩) tA.length hC) y140 := (by rw [hw, Ny140.out]; exact HP12.1); clear HP12; have eA := Aside0.mk (hp_); have fA := Aside0.mk ((by rw [hw]; exact below_set (below_set (below_set (below_set (below_set (below_set (below_set (below_set (below_set (below_set (HB.out) GB10.out) GB10.out) GB10.out) GB10.out) GB10.out) GB10.out) GB10.out) GB10.out) GB10.out) GB10.out : Below w.heap.size w DE)); clear zA; clear HB; have zA := eA; have HB := fA; clear eA fA; clear hg hw hp_))
        go_roundg k1
        case measure => have := HK1.out; omega
        case rel => exact ⟨(y140), (wrap64 (bA + 1)), q1_17, H', ⟨by have := HK1.out; omega⟩, ⟨q1_16⟩, ⟨q1_0⟩⟩
       ·rw [if_neg c9] at H
        exact absurd H (by simp)
      ·rw [if_neg c7] at H
       exact absurd H (by simp)
     ·rw [if_neg c6] at H
      have OC : decide (bA < (l0.length : Int)) = false := decide_eq_false c6
      clear c6
      obtain rfl := Option.some.inj H
      go_wp2
      go_ret
      exact ⟨_, q1_2, q1_16, q1_0⟩
  ·rw [if_neg c3] at H
   exact absurd H (by simp)
 ·rw [if_neg c2] at H
  exact absurd H (by simp)
def laws_toThread.f (k : Nat) (hA : List (S114)) (cA : Int) (dA : List Int) (aA : List Int) : Option ((List (S54)) × Int × List Int × List Int) := (laws_toCallS.f k hA).bind fun LB => ((laws_toIntS.f k dA).bind fun gC => ((laws_toIntS.f k aA).bind fun rC => (some (LB, cA, gC, rC))))
theorem laws_toThread.mono : ∀ a0 a1 a2 a3 k, LeO (laws_toThread.f k a0 a1 a2 a3) (laws_toThread.f (k + 1) a0 a1 a2 a3) := by
 intro a0 a1 a2 a3 k
 unfold laws_toThread.f
 repeat' first
   | (with_reducible exact laws_toCallS.mono _ _)
   | (with_reducible exact laws_toIntS.mono _ _)
   | (with_reducible exact LeO.refl _)
   | (with_reducible exact LeO.none _)
   | (with_reducible refine LeO.ite ?_ ?_)
   | (with_reducible refine LeO.bind ?_ (fun _ => ?_))
   | exact laws_toCallS.mono _ _
   | exact laws_toIntS.mono _ _
   | exact LeO.none _
   | refine LeO.ite ?_ ?_
   | refine LeO.bind ?_ (fun _ => ?_)
set_option maxHeartbeats 8000000 in
set_option maxRecDepth 100000 in
theorem laws_toThread.calls (k : Nat) (rA : Option Addr) (sA : Nat) (hA : List (S114)) (cA : Int) (lA : Option Addr) (mA : Nat) (dA : List Int) (qA : Option Addr) (oA : Nat) (aA : List Int) (r1 : List (S54)) (r2 : Int) (r3 : List Int) (r4 : List Int) (w : World) (tB : Kd.C k114 w rA hA.length hA) (yB : hA.length ≤ sA) (BB : Kd.C (Kd.int .i64) w lA dA.length dA) (CB : dA.length ≤ mA) (vB : Kd.C (Kd.int .i64) w qA aA.length aA) (DB : aA.length ≤ oA) (h : laws_toThread.f k hA cA dA aA = some (r1, r2, r3, r4)) :
  Calls Tryz.prog 47 #[.agg #[.slice rA hA.length sA, .int .i64 cA, .slice lA dA.length mA, .slice qA aA.length oA]] w fun e w' => ∃ v0_ v2_ v3_ : Value, e = .returned (.agg #[v0_, .int .i64 r2, v2_, v3_]) ∧ Kd.R k54 54 w' w.heap.size (fun _ => True) v0_ r1 ∧ Kd.R (Kd.int .i64) 3 w' w.heap.size (fun k_ => some k_ ≠ (v3_ : Value).ownBlock) v2_ r3 ∧ Kd.R (Kd.int .i64) 3 w' w.heap.size (fun k_ => some k_ ≠ (v2_ : Value).ownBlock) v3_ r4 ∧ Below w.heap.size w w' := by
 have hu66 := Tryz.underlying66
 have hu52 := Tryz.underlying52
 have rD := Aside0.mk tB
 have RB := Aside0.mk yB
 clear tB yB
 have tD := Aside0.mk BB
 have pC := Aside0.mk CB
 clear BB CB
 have EB := Aside0.mk vB
 have RC := Aside0.mk DB
 clear vB DB
 have HB := Aside0.mk (Below.refl w.heap.size w)
 have H : ((laws_toCallS.f k hA).bind fun LB => ((laws_toIntS.f k dA).bind fun gC => ((laws_toIntS.f k aA).bind fun rC => (some (LB, cA, gC, rC))))) = some (r1, r2, r3, r4) := h
 clear h
 replace H := Option.bind_eq_some_iff.mp H
 obtain ⟨LB, A20, H⟩ := H
 replace H : ((laws_toIntS.f k dA).bind fun gC => ((laws_toIntS.f k aA).bind fun rC => (some (LB, cA, gC, rC)))) = some (r1, r2, r3, r4) := H
 have A2 := Aside0.mk A20
 clear A20
 replace H := Option.bind_eq_some_iff.mp H
 obtain ⟨gC, A30, H⟩ := H
 replace H : ((laws_toIntS.f k aA).bind fun rC => (some (LB, cA, gC, rC))) = some (r1, r2, r3, r4) := H
 have A3 := Aside0.mk A30
 clear A30
 replace H := Option.bind_eq_some_iff.mp H
 obtain ⟨rC, A40, H⟩ := H
 replace H : (some (LB, cA, gC, rC)) = some (r1, r2, r3, r4) := H
 have A4 := Aside0.mk A40
 clear A40
 simp only [Option.some.injEq, Prod.mk.injEq] at H
 obtain ⟨rfl, rfl, rfl, rfl⟩ := H
 go_enter Tryz.func47, Tryz.ntmps47
 go_wp2_with (first | ((with_reducible refine gate_dst (N := 1) rfl ?_); refine box_event ?hg (N := 1) ?hd (cs := #[.slice rA hA.length sA, .int .i64 cA, .slice lA dA.length mA, .slice qA aA.length oA]) (t := 66) ?hr ?_; (case hd => rfl); (case hg => rfl); (case hr => first | (go_simp; done) | (go_simp; rfl)); intro QA hg w5 hbox hb; have eA := Aside0.mk (below_step q1_0 hb); have fA := Aside0.mk (hbox); have jA := Aside0.mk ((q1_6 : w.heap.size ≤ QA)); have pA := Aside0.mk ((q1_6 : w.heap.size ≤ QA)); clear HB; have HB := eA; have yA := fA; have kO := jA; have PG := pA; clear eA fA jA pA; clear hb hbox hg) | ((with_reducible refine gate_dst (N := 2) rfl ?_); refine box_event ?hg (N := 2) ?hd (cs := #[.slice none 0 0, .int .i64 0, .slice none 0 0, .slice none 0 0]) (t := 52) ?hr ?_; (case hd => rfl); (case hg => rfl); (case hr => first | (go_simp; done) | (go_simp; rfl)); intro JA hg w6 hbox hb; have eA := Aside0.mk (blk_below (g := QA) (o := .cells #[.slice rA hA.length sA, .int .i64 cA, .slice lA dA.length mA, .slice qA aA.length oA] 66 (0, 0)) q1_25 hb); have fA := Aside0.mk (below_step q1_55 hb); have jA := Aside0.mk (hbox); have pA := Aside0.mk ((by rw [hg]; exact (below_size q1_55) : w.heap.size ≤ JA)); have cB := Aside0.mk ((by rw [hg]; exact (below_size q1_55) : w.heap.size ≤ JA)); have pB := Aside0.mk ((by rw [hg]; exact Nat.ne_of_lt (blk_lt (g := QA) (o := .cells #[.slice rA hA.length sA, .int .i64 cA, .slice lA dA.length mA, .slice qA aA.length oA] 66 (0, 0)) q1_25) : QA ≠ JA)); have uB := Aside0.mk ((by rw [hg]; exact Nat.ne_of_gt (blk_lt (g := QA) (o := .cells #[.slice rA hA.length sA, .int .i64 cA, .slice lA dA.length mA, .slice qA aA.length oA] 66 (0, 0)) q1_25) : JA ≠ QA)); clear yA; clear HB; have yA := eA; have HB := fA; have bB := jA; have lO := pA; have uI := cB; have HG := pB; have IG := uB; clear eA fA jA pA cB pB uB; clear hb hbox hg) | ((with_reducible refine gate_dst (N := 3) rfl ?_); refine box_event ?hg (N := 3) ?hd (cs := #[.slice none 0 0, .int .i64 0, .slice none 0 0, .slice none 0 0]) (t := 52) ?hr ?_; (case hd => rfl); (case hg => rfl); (case hr => first | (go_simp; done) | (go_simp; rfl)); intro KA hg w7 hbox hb; have eA := Aside0.mk (blk_below (g := QA) (o := .cells #[.slice rA hA.length sA, .int .i64 cA, .slice lA dA.length mA, .slice qA aA.length oA] 66 (0, 0)) q1_25 hb); have fA := Aside0.mk (blk_below (g := JA) (o := .cells #[.slice none 0 0, .int .i64 0, .slice none 0 0, .slice none 0 0] 52 (0, 0)) q1_48 hb); have jA := Aside0.mk (below_step q1_43 hb); have pA := Aside0.mk (hbox); have cB := Aside0.mk ((by rw [hg]; exact (below_size q1_43) : w.heap.size ≤ KA)); have pB := Aside0.mk ((by rw [hg]; exact (below_size q1_43) : w.heap.size ≤ KA)); have uB := Aside0.mk ((by rw [hg]; exact Nat.ne_of_lt (blk_lt (g := QA) (o := .cells #[.slice rA hA.length sA, .int .i64 cA, .slice lA dA.length mA, .slice qA aA.length oA] 66 (0, 0)) q1_25) : QA ≠ KA)); have GC := Aside0.mk ((by rw [hg]; exact Nat.ne_of_gt (blk_lt (g := QA) (o := .cells #[.slice rA hA.length sA, .int .i64 cA, .slice lA dA.length mA, .slice qA aA.length oA] 66 (0, 0)) q1_25) : KA ≠ QA)); have gH := Aside0.mk ((by rw [hg]; exact Nat.ne_of_lt (blk_lt (g := JA) (o := .cells #[.slice none 0 0, .int .i64 0, .slice none 0 0, .slice none 0 0] 52 (0, 0)) q1_48) : JA ≠ KA)); have hH := Aside0.mk ((by rw [hg]; exact Nat.ne_of_gt (blk_lt (g := JA) (o := .cells #[.slice none 0 0, .int .i64 0, .slice none 0 0, .slice none 0 0] 52 (0, 0)) q1_48) : KA ≠ JA)); clear yA; clear bB; clear HB; have yA := eA; have bB := fA; have HB := jA; have vA := pA; have mO := cB; have VJ := pB; have zC := uB; have JG := GC; have WB := gH; have KG := hH; clear eA fA jA pA cB pB uB GC gH hH; clear hb hbox hg; have QK := HG.out; have RK := IG.out; have GO := zC.out; have HO := JG.out; have JF : w7.cell? ⟨QA, 0, none⟩ = some (.slice rA hA.length sA) := (blk_cell yA.out 0).trans rfl; have KF : w7.cell? ⟨QA, 1, none⟩ = some (.int .i64 cA) := (blk_cell yA.out 1).trans rfl; have LF : w7.cell? ⟨QA, 2, none⟩ = some (.slice lA dA.length mA) := (blk_cell yA.out 2).trans rfl; have MF : w7.cell? ⟨QA, 3, none⟩ = some (.slice qA aA.length oA) := (blk_cell yA.out 3).trans rfl; have NF := blk_frozen yA.out 0; have OF := blk_frozen yA.out 1; have PF := blk_frozen yA.out 2; have QF := blk_frozen yA.out 3) | ((with_reducible refine gate_callee (f := 78) rfl ?_); refine goesL_ (some 6) rfl rfl Tryz.func78 q1_35 rfl #[.slice rA hA.length sA] rfl q1_1 ?_; (with_reducible refine (laws_toCallS.calls k _ _ hA LB _ ?side1 ?side2 A2.out).mono ?_); (case side1 => exact q1_11); (case side2 => exact RB.out); rintro e oB ⟨IO, rfl, ho0, hb⟩; refine ⟨_, rfl, ?_⟩; have eA := Aside0.mk (Kd.R_lower ho0 (below_size q1_5)); have fA := Aside0.mk (blk_below (g := QA) (o := .cells #[.slice rA hA.length sA, .int .i64 cA, .slice lA dA.length mA, .slice qA aA.length oA] 66 (0, 0)) q1_25 hb); have jA := Aside0.mk (blk_below (g := JA) (o := .cells #[.slice none 0 0, .int .i64 0, .slice none 0 0, .slice none 0 0] 52 (0, 0)) q1_48 hb); have pA := Aside0.mk (blk_below (g := KA) (o := .cells #[.slice none 0 0, .int .i64 0, .slice none 0 0, .slice none 0 0] 52 (0, 0)) (by (with_reducible repeat (first | refine blk_drewN ?_ _ | refine blk_drew ?_ | refine blk_alloc ?_ _)); exact vA.out) hb); have cB := Aside0.mk (below_step q1_5 hb); clear yA; clear bB; clear vA; clear HB; have iD := eA; have yA := fA; have bB := jA; have vA := pA; have HB := cB; clear eA fA jA pA cB; (try clear hb); (try clear hb2); (try clear hk); (try clear hi); (try clear ho0); obtain ⟨nC, oC, WI⟩ := Kd.R_slice iD.out; subst WI; have nO := KG.out; have oO := WB.out; have RF : oB.cell? ⟨KA, 0, none⟩ = some (.slice none 0 0) := (blk_cell vA.out 0).trans rfl; have SF : oB.cell? ⟨KA, 1, none⟩ = some (.int .i64 0) := (blk_cell vA.out 1).trans rfl; have TF : oB.cell? ⟨KA, 2, none⟩ = some (.slice none 0 0) := (blk_cell vA.out 2).trans rfl; have UF : oB.cell? ⟨KA, 3, none⟩ = some (.slice none 0 0) := (blk_cell vA.out 3).trans rfl; have VF := blk_frozen vA.out 0; have WF := blk_frozen vA.out 1; have XF := blk_frozen vA.out 2; have YF := blk_frozen vA.out 3; have nD : oB.cell? ⟨QA, 0, none⟩ = some (.slice rA hA.length sA) := (blk_cell yA.out 0).trans rfl; have XH : oB.cell? ⟨QA, 1, none⟩ = some (.int .i64 cA) := (blk_cell yA.out 1).trans rfl; have YH : oB.cell? ⟨QA, 2, none⟩ = some (.slice lA dA.length mA) := (blk_cell yA.out 2).trans rfl; have ZH : oB.cell? ⟨QA, 3, none⟩ = some (.slice qA aA.length oA) := (blk_cell yA.out 3).trans rfl; have oD := blk_frozen yA.out 0; have aI := blk_frozen yA.out 1; have bI := blk_frozen yA.out 2; have cI := blk_frozen yA.out 3) | ((with_reducible refine gate_callee (f := 13) rfl ?_); refine goesL_ (some 13) rfl rfl Tryz.func13 q1_35 rfl #[.slice lA dA.length mA] rfl q1_1 ?_; (with_reducible refine (laws_toIntS.calls k _ _ dA gC _ ?side1 ?side2 A3.out).mono ?_); (case side1 => exact Kd.C_below tD.out q1_5); (case side2 => exact pC.out); rintro e qD ⟨JO, rfl, ho0, hb⟩; refine ⟨_, rfl, ?_⟩; have eA := Aside0.mk (Kd.R_below (by (with_reducible repeat (first | apply Kd.R_alloc | apply Kd.R_drewN | apply Kd.R_drew)); exact (Kd.R_mono (Kd.R_far (p := ⟨KA, 1, none⟩) (Kd.R_far (p := ⟨KA, 0, none⟩) (Kd.R_types iD.out vA.out q1_57) (fun _ hk => hk.2) (.slice nC LB.length oC)) (fun _ hk => hk.2) (.int .i64 cA)) (fun _ h_ => h_.1))) hb); have fA := Aside0.mk (Kd.R_lower ho0 (below_size q1_5)); have jA := Aside0.mk (blk_below (g := QA) (o := .cells #[.slice rA hA.length sA, .int .i64 cA, .slice lA dA.length mA, .slice qA aA.length oA] 66 (0, 0)) (by (with_reducible repeat (first | refine blk_drewN ?_ _ | refine blk_drew ?_ | refine blk_alloc ?_ _)); refine blk_far ?_ zC.out _; (with_reducible repeat (first | refine blk_drewN ?_ _ | refine blk_drew ?_ | refine blk_alloc ?_ _)); refine blk_far ?_ zC.out _; (with_reducible repeat (first | refine blk_drewN ?_ _ | refine blk_drew ?_ | refine blk_alloc ?_ _)); exact yA.out) hb); have pA := Aside0.mk (blk_below (g := JA) (o := .cells #[.slice none 0 0, .int .i64 0, .slice none 0 0, .slice none 0 0] 52 (0, 0)) (by (with_reducible repeat (first | refine blk_drewN ?_ _ | refine blk_drew ?_ | refine blk_alloc ?_ _)); refine blk_far ?_ WB.out _; (with_reducible repeat (first | refine blk_drewN ?_ _ | refine blk_drew ?_ | refine blk_alloc ?_ _)); refine blk_far ?_ WB.out _; (with_reducible repeat (first | refine blk_drewN ?_ _ | refine blk_drew ?_ | refine blk_alloc ?_ _)); exact bB.out) hb); have cB := Aside0.mk (blk_below (g := KA) (o := .cells #[.slice nC LB.length oC, .int .i64 cA, .slice none 0 0, .slice none 0 0] 52 (0, 0)) (by (with_reducible repeat (first | refine blk_drewN ?_ _ | refine blk_drew ?_ | refine blk_alloc ?_ _)); refine blk_put (cs := #[.slice nC LB.length oC, .int .i64 0, .slice none 0 0, .slice none 0 0]) ?_ 1 _ rfl; (with_reducible repeat (first | refine blk_drewN ?_ _ | refine blk_drew ?_ | refine blk_alloc ?_ _)); refine blk_put (cs := #[.slice none 0 0, .int .i64 0, .slice none 0 0, .slice none 0 0]) ?_ 0 _ rfl; (with_reducible repeat (first | refine blk_drewN ?_ _ | refine blk_drew ?_ | refine blk_alloc ?_ _)); exact vA.out) hb); have pB := Aside0.mk (below_step q1_5 hb); clear iD; clear yA; clear bB; clear vA; clear HB; have iD := eA; have HD := fA; have yA := jA; have bB := pA; have vA := cB; have HB := pB; clear eA fA jA pA cB pB; (try clear hb); (try clear hb2); (try clear hk); (try clear hi); (try clear ho0); obtain ⟨sC, tC, LJ⟩ := Kd.R_slice HD.out; subst LJ; have ZF : qD.cell? ⟨KA, 0, none⟩ = some (.slice nC LB.length oC) := (blk_cell vA.out 0).trans rfl; have aG : qD.cell? ⟨KA, 1, none⟩ = some (.int .i64 cA) := (blk_cell vA.out 1).trans rfl; have bG : qD.cell? ⟨KA, 2, none⟩ = some (.slice none 0 0) := (blk_cell vA.out 2).trans rfl; have cG : qD.cell? ⟨KA, 3, none⟩ = some (.slice none 0 0) := (blk_cell vA.out 3).trans rfl; have dG := blk_frozen vA.out 0; have eG := blk_frozen vA.out 1; have fG := blk_frozen vA.out 2; have gG := blk_frozen vA.out 3; have dI : qD.cell? ⟨QA, 0, none⟩ = some (.slice rA hA.length sA) := (blk_cell yA.out 0).trans rfl; have eI : qD.cell? ⟨QA, 1, none⟩ = some (.int .i64 cA) := (blk_cell yA.out 1).trans rfl; have fI : qD.cell? ⟨QA, 2, none⟩ = some (.slice lA dA.length mA) := (blk_cell yA.out 2).trans rfl; have gI : qD.cell? ⟨QA, 3, none⟩ = some (.slice qA aA.length oA) := (blk_cell yA.out 3).trans rfl; have hI := blk_frozen yA.out 0; have iI := blk_frozen yA.out 1; have jI := blk_frozen yA.out 2; have kI := blk_frozen yA.out 3) | ((with_reducible refine gate_callee (f := 13) rfl ?_); refine goesL_ (some 17) rfl rfl Tryz.func13 q1_35 rfl #[.slice qA aA.length oA] rfl q1_1 ?_; (with_reducible refine (laws_toIntS.calls k _ _ aA rC _ ?side1 ?side2 A4.out).mono ?_); (case side1 => exact Kd.C_below EB.out q1_5); (case side2 => exact RC.out); rintro e PI ⟨KO, rfl, ho0, hb⟩; refine ⟨_, rfl, ?_⟩; have eA := Aside0.mk (Kd.R_below (by (with_reducible repeat (first | apply Kd.R_alloc | apply Kd.R_drewN | apply Kd.R_drew)); exact (Kd.R_mono (Kd.R_far (p := ⟨KA, 2, none⟩) (Kd.R_types iD.out vA.out q1_57) (fun _ hk => hk.2) (.slice sC gC.length tC)) (fun _ h_ => h_.1))) hb); have fA := Aside0.mk (Kd.R_elder' (by (with_reducible repeat (first | apply Kd.R_alloc | apply Kd.R_drewN | apply Kd.R_drew)); exact (Kd.R_mono (Kd.R_far (p := ⟨KA, 2, none⟩) (Kd.R_types HD.out vA.out q1_57) (fun _ hk => hk.2) (.slice sC gC.length tC)) (fun _ h_ => h_.1))) (Kd.R_base ho0) hb); have jA := Aside0.mk (Kd.R_lower (Kd.R_new' ho0 (Kd.R_lt (by (with_reducible repeat (first | apply Kd.R_alloc | apply Kd.R_drewN | apply Kd.R_drew)); exact (Kd.R_mono (Kd.R_far (p := ⟨KA, 2, none⟩) (Kd.R_types HD.out vA.out q1_57) (fun _ hk => hk.2) (.slice sC gC.length tC)) (fun _ h_ => h_.1))))) (below_size q1_5)); have pA := Aside0.mk (blk_below (g := QA) (o := .cells #[.slice rA hA.length sA, .int .i64 cA, .slice lA dA.length mA, .slice qA aA.length oA] 66 (0, 0)) (by (with_reducible repeat (first | refine blk_drewN ?_ _ | refine blk_drew ?_ | refine blk_alloc ?_ _)); refine blk_far ?_ zC.out _; (with_reducible repeat (first | refine blk_drewN ?_ _ | refine blk_drew ?_ | refine blk_alloc ?_ _)); exact yA.out) hb); have cB := Aside0.mk (blk_below (g := JA) (o := .cells #[.slice none 0 0, .int .i64 0, .slice none 0 0, .slice none 0 0] 52 (0, 0)) (by (with_reducible repeat (first | refine blk_drewN ?_ _ | refine blk_drew ?_ | refine blk_alloc ?_ _)); refine blk_far ?_ WB.out _; (with_reducible repeat (first | refine blk_drewN ?_ _ | refine blk_drew ?_ | refine blk_alloc ?_ _)); exact bB.out) hb); have pB := Aside0.mk (blk_below (g := KA) (o := .cells #[.slice nC LB.length oC, .int .i64 cA, .slice sC gC.length tC, .slice none 0 0] 52 (0, 0)) (by (with_reducible repeat (first | refine blk_drewN ?_ _ | refine blk_drew ?_ | refine blk_alloc ?_ _)); refine blk_put (cs := #[.slice nC LB.length oC, .int .i64 cA, .slice none 0 0, .slice none 0 0]) ?_ 2 _ rfl; (with_reducible repeat (first | refine blk_drewN ?_ _ | refine blk_drew ?_ | refine blk_alloc ?_ _)); exact vA.out) hb); have uB := Aside0.mk (below_step q1_5 hb); clear iD; clear HD; clear yA; clear bB; clear vA; clear HB; have iD := eA; have HD := fA; have QI := jA; have yA := pA; have bB := cB; have vA := pB; have HB := uB; clear eA fA jA pA cB pB uB; (try clear hb); (try clear hb2); (try clear hk); (try clear hi); (try clear ho0); obtain ⟨vF, wF, vN⟩ := Kd.R_slice QI.out; subst vN; have DL : PI.cell? ⟨KA, 0, none⟩ = some (.slice nC LB.length oC) := (blk_cell vA.out 0).trans rfl; have EL : PI.cell? ⟨KA, 1, none⟩ = some (.int .i64 cA) := (blk_cell vA.out 1).trans rfl; have FL : PI.cell? ⟨KA, 2, none⟩ = some (.slice sC gC.length tC) := (blk_cell vA.out 2).trans rfl; have GL : PI.cell? ⟨KA, 3, none⟩ = some (.slice none 0 0) := (blk_cell vA.out 3).trans rfl; have HL := blk_frozen vA.out 0; have IL := blk_frozen vA.out 1; have JL := blk_frozen vA.out 2; have KL := blk_frozen vA.out 3; have DH : PI.cell? ⟨JA, 0, none⟩ = some (.slice none 0 0) := (blk_cell bB.out 0).trans rfl; have LL : PI.cell? ⟨JA, 1, none⟩ = some (.int .i64 0) := (blk_cell bB.out 1).trans rfl; have ML : PI.cell? ⟨JA, 2, none⟩ = some (.slice none 0 0) := (blk_cell bB.out 2).trans rfl; have NL : PI.cell? ⟨JA, 3, none⟩ = some (.slice none 0 0) := (blk_cell bB.out 3).trans rfl; have EH := blk_frozen bB.out 0; have OL := blk_frozen bB.out 1; have PL := blk_frozen bB.out 2; have QL := blk_frozen bB.out 3))
 refine bodyPost_ret (results_cell_row rfl _ _ JA 52 #[.slice nC LB.length oC, .int .i64 cA, .slice sC gC.length tC, .slice vF rC.length wF] (0, 0) _ rfl (by (with_reducible repeat (first | refine blk_drewN ?_ _ | refine blk_drew ?_ | refine blk_alloc ?_ _)); refine blk_put (cs := #[.slice nC LB.length oC, .int .i64 cA, .slice sC gC.length tC, .slice none 0 0]) ?_ 3 _ rfl; (with_reducible repeat (first | refine blk_drewN ?_ _ | refine blk_drew ?_ | refine blk_alloc ?_ _)); refine blk_put (cs := #[.slice nC LB.length oC, .int .i64 cA, .slice none 0 0, .slice none 0 0]) ?_ 2 _ rfl; (with_reducible repeat (first | refine blk_drewN ?_ _ | refine blk_drew ?_ | refine blk_alloc ?_ _)); refine blk_put (cs := #[.slice nC LB.length oC, .int .i64 0, .slice none 0 0, .slice none 0 0]) ?_ 1 _ rfl; (with_reducible repeat (first | refine blk_drewN ?_ _ | refine blk_drew ?_ | refine blk_alloc ?_ _)); refine blk_put (cs := #[.slice none 0 0, .int .i64 0, .slice none 0 0, .slice none 0 0]) ?_ 0 _ rfl; (with_reducible repeat (first | refine blk_drewN ?_ _ | refine blk_drew ?_ | refine blk_alloc ?_ _)); refine blk_far ?_ WB.out _; (with_reducible repeat (first | refine blk_drewN ?_ _ | refine blk_drew ?_ | refine blk_alloc ?_ _)); exact bB.out) Tryz.underlying52 rfl q1_35) rfl ?_
 exact ⟨_, _, _, q1_2, by (with_reducible repeat (first | apply Kd.R_alloc | apply Kd.R_drewN | apply Kd.R_drew)); exact Kd.R_mono (Kd.R_far (p := ⟨JA, 3, none⟩) (Kd.R_far (p := ⟨JA, 2, none⟩) (Kd.R_far (p := ⟨JA, 1, none⟩) (Kd.R_far (p := ⟨JA, 0, none⟩) (Kd.R_far (p := ⟨KA, 3, none⟩) (Kd.R_types (Kd.R_types iD.out vA.out q1_57) bB.out q1_57) (fun _ hk => hk.1.2) (.slice vF rC.length wF)) (fun _ hk => hk.2) (.slice nC LB.length oC)) (fun _ hk => hk.2) (.int .i64 cA)) (fun _ hk => hk.2) (.slice sC gC.length tC)) (fun _ hk => hk.2) (.slice vF rC.length wF)) (fun _ hk => trivial), by (with_reducible repeat (first | apply Kd.R_alloc | apply Kd.R_drewN | apply Kd.R_drew)); exact Kd.R_mono (Kd.R_far (p := ⟨JA, 3, none⟩) (Kd.R_far (p := ⟨JA, 2, none⟩) (Kd.R_far (p := ⟨JA, 1, none⟩) (Kd.R_far (p := ⟨JA, 0, none⟩) (Kd.R_far (p := ⟨KA, 3, none⟩) (Kd.R_types (Kd.R_types HD.out vA.out q1_57) bB.out q1_57) (fun _ hk => hk.1.2) (.slice vF rC.length wF)) (fun _ hk => hk.2) (.slice nC LB.length oC)) (fun _ hk => hk.2) (.int .i64 cA)) (fun _ hk => hk.2) (.slice sC gC.length tC)) (fun _ hk => hk.2) (.slice vF rC.length wF)) (fun _ hk => hk.1.1.2), by (with_reducible repeat (first | apply Kd.R_alloc | apply Kd.R_drewN | apply Kd.R_drew)); exact Kd.R_mono (Kd.R_far (p := ⟨JA, 3, none⟩) (Kd.R_far (p := ⟨JA, 2, none⟩) (Kd.R_far (p := ⟨JA, 1, none⟩) (Kd.R_far (p := ⟨JA, 0, none⟩) (Kd.R_far (p := ⟨KA, 3, none⟩) (Kd.R_types (Kd.R_types QI.out vA.out q1_57) bB.out q1_57) (fun _ hk => hk.1.2) (.slice vF rC.length wF)) (fun _ hk => hk.2) (.slice nC LB.length oC)) (fun _ hk => hk.2) (.int .i64 cA)) (fun _ hk => hk.2) (.slice sC gC.length tC)) (fun _ hk => hk.2) (.slice vF rC.length wF)) (fun _ hk => hk.1.1.2), q1_5⟩
def laws_toThreadS.l0 : Nat → List (S66) → List (S52) → Int → Option ((List (S52)))
 | 0, _, _, _ => none
 | k + 1, x0, x3, x4 => if x4 < (x0.length : Int) then (if 0 ≤ x4 then ((laws_toThread.f k ((rd_T66 x0 x4).f0) ((rd_T66 x0 x4).f1) ((rd_T66 x0 x4).f2) ((rd_T66 x0 x4).f3)).bind fun hG => (if x4 < (x3.length : Int) then (laws_toThreadS.l0 k x0 (x3.set (x4 : Int).toNat (⟨hG.1, hG.2.1, hG.2.2.1, hG.2.2.2⟩ : S52)) (wrap64 (x4 + 1))) else (none))) else (none)) else (some x3)
def laws_toThreadS.f (k : Nat) (l0 : List (S66)) : Option ((List (S52))) := if 0 ≤ (l0.length : Int) then (if ((l0.length : Int) : Int).toNat ≤ 3518437208883 then (laws_toThreadS.l0 k l0 (List.replicate ((l0.length : Int) : Int).toNat z52) 0) else (none)) else (none)
theorem laws_toThreadS.mono_l : ∀ k, (∀ y0 y1 y2, LeO (laws_toThreadS.l0 k y0 y1 y2) (laws_toThreadS.l0 (k + 1) y0 y1 y2))
 | 0 => fun _ _ _ r h => by simp [laws_toThreadS.l0] at h
 | k + 1 => by
  have ih0 := laws_toThreadS.mono_l k
  ·intro y0 y1 y2
   unfold laws_toThreadS.l0
   repeat' first
   | (with_reducible exact ih0 _ _ _)
   | (with_reducible exact laws_toThread.mono _ _ _ _ _)
   | (with_reducible exact LeO.refl _)
   | (with_reducible exact LeO.none _)
   | (with_reducible refine LeO.ite ?_ ?_)
   | (with_reducible refine LeO.bind ?_ (fun _ => ?_))
   | exact ih0 _ _ _
   | exact laws_toThread.mono _ _ _ _ _
   | exact LeO.none _
   | refine LeO.ite ?_ ?_
   | refine LeO.bind ?_ (fun _ => ?_)
theorem laws_toThreadS.mono : ∀ a0 k, LeO (laws_toThreadS.f k a0) (laws_toThreadS.f (k + 1) a0) := by
 intro a0 k
 have ih0 := laws_toThreadS.mono_l k
 unfold laws_toThreadS.f
 repeat' first
   | (with_reducible exact ih0 _ _ _)
   | (with_reducible exact laws_toThread.mono _ _ _ _ _)
   | (with_reducible exact LeO.refl _)
   | (with_reducible exact LeO.none _)
   | (with_reducible refine LeO.ite ?_ ?_)
   | (with_reducible refine LeO.bind ?_ (fun _ => ?_))
   | exact ih0 _ _ _
   | exact laws_toThread.mono _ _ _ _ _
   | exact LeO.none _
   | refine LeO.ite ?_ ?_
   | refine LeO.bind ?_ (fun _ => ?_)
set_option maxHeartbeats 8000000 in
set_option maxRecDepth 100000 in
theorem laws_toThreadS.calls (k : Nat) (A0 : Option Addr) (c0 : Nat) (l0 : List (S66)) (r : List (S52)) (w : World) (hr0 : Kd.C k66 w A0 l0.length l0) (hc0 : l0.length ≤ c0) (h : laws_toThreadS.f k l0 = some r) :
  Calls Tryz.prog 25 #[.slice A0 l0.length c0] w fun e w' => ∃ v0_ : Value, e = .returned (v0_) ∧ Kd.S k52 52 w' w.heap.size (fun _ => True) v0_ r ∧ Below w.heap.size w w' := by
 have hu66 := Tryz.underlying66
 have hu52 := Tryz.underlying52
 have HR0 := Aside0.mk hr0
 clear hr0 hc0
 have HB := Aside0.mk (Below.refl w.heap.size w)
 have H : (if 0 ≤ (l0.length : Int) then (if ((l0.length : Int) : Int).toNat ≤ 3518437208883 then (laws_toThreadS.l0 k l0 (List.replicate ((l0.length : Int) : Int).toNat z52) 0) else (none)) else (none)) = some r := h
 clear h
 by_cases c2 : 0 ≤ (l0.length : Int)
 ·rw [if_pos c2] at H
  have dH := eq_true c2
  have eH : decide (0 ≤ (l0.length : Int)) = true := decide_eq_true c2
  clear c2
  by_cases c3 : ((l0.length : Int) : Int).toNat ≤ 3518437208883
  ·rw [if_pos c3] at H
   have kD := eq_true c3
   have fH : decide (((l0.length : Int) : Int).toNat ≤ 3518437208883) = true := decide_eq_true c3
   clear c3
   obtain ⟨y153, hy153⟩ : ∃ y_ : List (S52), y_ = (List.replicate ((l0.length : Int) : Int).toNat z52) := ⟨_, rfl⟩
   replace H : (laws_toThreadS.l0 k l0 y153 0) = some r := by first | (rw [hy153]; with_reducible exact H) | (have H2_ := (Option.bind_some _ _).symm.trans H; rw [hy153]; with_reducible exact H2_) | (have H2_ := (Option.bind_some _ _).symm.trans H; with_reducible exact H2_) | with_reducible exact H | (rw [hy153]; exact H) | exact H
   have Ny153 := Aside0.mk hy153
   clear hy153
   have H' := Aside0.mk H
   clear H
   go_enter Tryz.func25, Tryz.ntmps25
   go_wp2_with (first | ((with_reducible refine gate_dst (N := 7) rfl ?_); refine Kd.S_make k52 _ 52 rfl (N := 7) rfl 30 _ _ rfl (l0.length : Int) rfl rfl Tryz.underlying30 (.agg #[(.slice none 0 0), (.int .i64 0), (.slice none 0 0), (.slice none 0 0)]) 80 info52 rfl q1_57 (by omega) z52 (ok := fun _ => True) (okp := fun _ => True) (k52_mkM _ _ _ z52 (Kd.R_nil _ _ _ _ _) (Kd.R_nil _ _ _ _ _) (Kd.R_nil _ _ _ _ _) (fun k_ hk_ => by simp [Value.ownBlock] at hk_)) (fun _ hk => hk) trivial (of_decide_eq_true q1_3) (Nat.le_trans (Nat.mul_le_mul_right _ (of_decide_eq_true q1_3 : (l0.length : Int).toNat ≤ 3518437208883)) (by omega)) (Below.refl _ _) (Nat.le_refl _) ?_; intro wN w4 ho5 hb hg_ hnew_; clear hg_ hnew_; (first | rw [← Ny153.out] at ho5 | (simp only [Int.reduceToNat] at ho5; rw [← Ny153.out] at ho5)); have eA := Aside0.mk (Kd.S_lower ho5 (below_size q1_0)); have fA := Aside0.mk (below_step q1_0 hb); clear HB; have TK := eA; have HB := fA; clear eA fA; clear hb ho5))
   go_loopg [4] k (fun kq v4 w' => ∃ (tA : List (S52)) (bA : Int), v4 = .int .i64 bA ∧ Aside0 (laws_toThreadS.l0 kq l0 tA bA = some r) ∧ Aside0 (kq ≤ k) ∧ Aside0 (Kd.S k52 52 w' w.heap.size (fun _ => True) wN tA) ∧ Aside0 (Below w.heap.size w w'))
   case atStart => exact ⟨(y153), (0), q1_17, H', ⟨Nat.le_refl _⟩, ⟨by (with_reducible repeat (first | apply Kd.S_alloc | apply Kd.S_drewN | apply Kd.S_drew)); exact TK.out⟩, ⟨q1_0⟩⟩
   case round =>
    clear H'
    (try clear c2); (try clear dH); (try clear eH); (try clear p2); (try clear c3); (try clear kD); (try clear fH)
    obtain ⟨tA, bA, rfl, HA, HK1, zA, HB⟩ := hrel
    cases gk with
    | zero => exact absurd HA.out (by simp [laws_toThreadS.l0])
    | succ k1 =>
     have H := HA.out
     clear HA
     simp only [laws_toThreadS.l0] at H
     by_cases c6 : bA < (l0.length : Int)
     ·rw [if_pos c6] at H
      have OC : decide (bA < (l0.length : Int)) = true := decide_eq_true c6
      clear c6
      by_cases c7 : 0 ≤ bA
      ·rw [if_pos c7] at H
       have wE : decide (0 ≤ bA) = true := decide_eq_true c7
       clear c7
       replace H := Option.bind_eq_some_iff.mp H
       obtain ⟨⟨jH, xF, kH, lH⟩, A80, H⟩ := H
       replace H : (if bA < (tA.length : Int) then (laws_toThreadS.l0 k1 l0 (tA.set (bA : Int).toNat (⟨jH, xF, kH, lH⟩ : S52)) (wrap64 (bA + 1))) else (none)) = some r := H
       have A8 := Aside0.mk A80
       clear A80
       by_cases c9 : bA < (tA.length : Int)
       ·rw [if_pos c9] at H
        have UE : decide (bA < (tA.length : Int)) = true := decide_eq_true c9
        clear c9
        obtain ⟨y167, hy167⟩ : ∃ y_ : List (S52), y_ = (tA.set (bA : Int).toNat (⟨jH, xF, kH, lH⟩ : S52)) := ⟨_, rfl⟩
        replace H : (laws_toThreadS.l0 k1 l0 y167 (wrap64 (bA + 1))) = some r := by first | (rw [hy167]; with_reducible exact H) | (have H2_ := (Option.bind_some _ _).symm.trans H; rw [hy167]; with_reducible exact H2_) | (have H2_ := (Option.bind_some _ _).symm.trans H; with_reducible exact H2_) | with_reducible exact H | (rw [hy167]; exact H) | exact H
        have Ny167 := Aside0.mk hy167
        clear hy167
        have H' := Aside0.mk H
        clear H
        have p156 : 0 ≤ (bA : Int) := of_decide_eq_true q1_3
        have q156 : bA < (l0.length : Int) := of_decide_eq_true q1_3
        obtain ⟨ad156, MJ, NJ, OJ, PJ, QJ, RJ, xN, pE, qE, rE, sE, iG, jG, kG, lG, mG, nG⟩ := at_T66 HR0.out bA p156 q156
        cases xN
        replace pE := (HB.out.cell (World.block_lt_of_cell? w _ pE)).trans pE
        replace qE := (HB.out.cell (World.block_lt_of_cell? w _ qE)).trans qE
        replace rE := (HB.out.cell (World.block_lt_of_cell? w _ rE)).trans rE
        replace sE := (HB.out.cell (World.block_lt_of_cell? w _ sE)).trans sE
        have lI := Aside0.mk jG
        have mI := Aside0.mk iG
        clear jG iG
        have nI := Aside0.mk lG
        have oI := Aside0.mk kG
        clear lG kG
        have pI := Aside0.mk nG
        have qI := Aside0.mk mG
        clear nG mG
        replace p156 := eq_true p156
        replace q156 := eq_true q156
        go_wp2_with (first | ((with_reducible refine gate_callee (f := 47) rfl ?_); refine goesL_ (some 20) rfl rfl Tryz.func47 q1_35 rfl #[.agg #[.slice MJ ((rd_T66 l0 bA).f0).length NJ, .int .i64 ((rd_T66 l0 bA).f1), .slice OJ ((rd_T66 l0 bA).f2).length PJ, .slice QJ ((rd_T66 l0 bA).f3).length RJ]] rfl q1_1 ?_; (with_reducible refine (laws_toThread.calls k1 _ _ ((rd_T66 l0 bA).f0) ((rd_T66 l0 bA).f1) _ _ ((rd_T66 l0 bA).f2) _ _ ((rd_T66 l0 bA).f3) jH xF kH lH _ ?side1 ?side2 ?side3 ?side4 ?side5 ?side6 A8.out).mono ?_); (case side1 => repeat (first | exact (Kd.C_below lI.out HB.out) | (with_reducible refine Kd.C_alloc ?_ _) | (with_reducible refine Kd.C_drewN ?_ _) | (with_reducible refine Kd.C_drew ?_))); (case side2 => exact mI.out); (case side3 => repeat (first | exact (Kd.C_below nI.out HB.out) | (with_reducible refine Kd.C_alloc ?_ _) | (with_reducible refine Kd.C_drewN ?_ _) | (with_reducible refine Kd.C_drew ?_))); (case side4 => exact oI.out); (case side5 => repeat (first | exact (Kd.C_below pI.out HB.out) | (with_reducible refine Kd.C_alloc ?_ _) | (with_reducible refine Kd.C_drewN ?_ _) | (with_reducible refine Kd.C_drew ?_))); (case side6 => exact qI.out); rintro e oB ⟨rI, sI, tI, rfl, ho0, ho1, ho2, hb⟩; refine ⟨_, rfl, ?_⟩; have eA := Aside0.mk (Kd.S_mono (Kd.S_told (Kd.S_told (Kd.S_told (Kd.S_old (by (with_reducible repeat (first | apply Kd.S_alloc | apply Kd.S_drewN | apply Kd.S_drew)); exact zA.out) hb) (Kd.R_base ho0)) (Kd.R_base ho1)) (Kd.R_base ho2)) (fun _ h_ => h_.1)); have fA := Aside0.mk (Kd.R_lower ho0 (below_size q1_0)); have jA := Aside0.mk (Kd.R_lower ho1 (below_size q1_0)); have pA := Aside0.mk (Kd.R_lower ho2 (below_size q1_0)); have cB := Aside0.mk (below_step q1_0 hb); clear zA; clear HB; have zA := eA; have oG := fA; have pG := jA; have CE := pA; have HB := cB; clear eA fA jA pA cB; (try clear hb); (try clear hb2); (try clear hk); (try clear hi); (try clear ho0); (try clear ho1); (try clear ho2); have p10 : 0 ≤ (bA : Int) := of_decide_eq_true q1_3; have q10 : (bA : Int) < ((tA.length : Int) : Int) := of_decide_eq_true q1_3; obtain ⟨go10, hC, dD, iH, gl10, cl10, HG10⟩ := Kd.S_form zA.out (by omega); (first | cases dD | (injection dD with ea_ en_ ec_; (first | subst ea_ | (injection ea_ with ea_; subst ea_)); subst ec_; clear en_)); have GB10 := Aside0.mk iH; have GG10 := Aside0.mk HG10; clear iH gl10 HG10; obtain ⟨_, ce10, hcl10, hM10, hcc10, hfr10, _, _⟩ := Kd.S_elem zA.out z52 (bA : Int) p10 q10; obtain ⟨ve10_0, ve10_2, ve10_3, rfl, ge10_0, ge10_2, ge10_3⟩ := k52_openM hM10; have rJ : oB.cell? ⟨go10, (bA : Int).toNat * 4, none⟩ = some (ve10_0) := hcc10 0 _ rfl; have sJ : oB.cell? ⟨go10, (bA : Int).toNat * 4 + 1, none⟩ = some (.int .i64 ((rd_T52 tA bA).f1)) := hcc10 1 _ rfl; have tJ : oB.cell? ⟨go10, (bA : Int).toNat * 4 + 2, none⟩ = some (ve10_2) := hcc10 2 _ rfl; have uJ : oB.cell? ⟨go10, (bA : Int).toNat * 4 + 3, none⟩ = some (ve10_3) := hcc10 3 _ rfl; have vJ : oB.frozen? ⟨go10, (bA : Int).toNat * 4, none⟩ = false := hfr10 0; have wJ : oB.frozen? ⟨go10, (bA : Int).toNat * 4 + 1, none⟩ = false := hfr10 1; have xJ : oB.frozen? ⟨go10, (bA : Int).toNat * 4 + 2, none⟩ = false := hfr10 2; have yJ : oB.frozen? ⟨go10, (bA : Int).toNat * 4 + 3, none⟩ = false := hfr10 3; clear hcl10 hcc10 hfr10 hM10; replace p10 := eq_true p10; replace q10 := eq_true q10; have n_ := Aside0.mk (Kd.S_mono (ok' := (fun k_ => some k_ ≠ (rI : Value).ownBlock ∧ some k_ ≠ (sI : Value).ownBlock ∧ some k_ ≠ (tI : Value).ownBlock)) zA.out (fun k_ hk => ⟨hk.1.1.2, ⟨hk.1.2, hk.2⟩⟩)); clear zA; have zA := n_; clear n_; have HX12 := Aside0.mk (show Kd.S k52 52 oB w.heap.size (fun k_ => ((fun _ => True)) k_ ∧ ¬ ((fun k_ => some k_ = (rI : Value).ownBlock ∨ some k_ = (sI : Value).ownBlock ∨ some k_ = (tI : Value).ownBlock)) k_) (.slice (some ⟨go10, 0, none⟩) tA.length hC) tA from (by (with_reducible repeat (first | apply Kd.S_alloc | apply Kd.S_drewN | apply Kd.S_drew)); exact Kd.S_mono zA.out (fun k_ hk => ⟨trivial, fun e_ => e_.elim (fun h_ => hk.1 h_) (fun h_ => h_.elim (fun h_ => hk.2.1 h_) (fun h_ => hk.2.2 h_))⟩))); obtain ⟨oki12, ce12, hcl12, hM12, hcc12, hfr12, hoki12, hH12⟩ := Kd.S_elem HX12.out z52 (bA : Int) (of_decide_eq_true q1_3) (by have h_ : (bA : Int) < ((tA.length : Int) : Int) := of_decide_eq_true q1_3; first | exact h_ | (have e_ := (Kd.S_reads' zA.out).1; omega) | simpa using h_); obtain ⟨ve12_0, ve12_2, ve12_3, rfl, ge12_0, ge12_2, ge12_3⟩ := k52_openM hM12; have HP12 := Kd.S_seg hH12 (of_decide_eq_true q1_3) (by have h_ : (bA : Int) < ((tA.length : Int) : Int) := of_decide_eq_true q1_3; first | exact h_ | (have e_ := (Kd.S_reads' zA.out).1; omega) | simpa using h_) (seg := [rI, .int .i64 xF, sI, tI]) (j := 0) (show 4 ≤ 4 from by decide) (x' := (⟨jH, xF, kH, lH⟩ : S52)) (k52_mkM _ _ _ (⟨jH, xF, kH, lH⟩ : S52) (Kd.R_mono (Kd.R_tight rfl (Kd.R_mono (ok' := fun k_ => ((fun _ => True)) k_ ∧ k_ ≠ go10) (Kd.R_apart' (oG.out) (Kd.S_typed zA.out) q1_57) (fun k_ hk => ⟨trivial, fun e_ => (hk.2) (by rw [e_]; rfl)⟩))) (fun _ h_ => Or.inr (Or.inl h_))) (Kd.R_mono (Kd.R_tight rfl (Kd.R_mono (ok' := fun k_ => ((fun _ => True)) k_ ∧ k_ ≠ go10) (Kd.R_apart' (pG.out) (Kd.S_typed zA.out) q1_57) (fun k_ hk => ⟨trivial, fun e_ => (hk.2) (by rw [e_]; rfl)⟩))) (fun _ h_ => Or.inr (Or.inr (Or.inl h_)))) (Kd.R_mono (Kd.R_tight rfl (Kd.R_mono (ok' := fun k_ => ((fun _ => True)) k_ ∧ k_ ≠ go10) (Kd.R_apart' (CE.out) (Kd.S_typed zA.out) q1_57) (fun k_ hk => ⟨trivial, fun e_ => (hk.2) (by rw [e_]; rfl)⟩))) (fun _ h_ => Or.inr (Or.inr (Or.inr (h_))))) (fun k_ hk_ he_ => CE.out.1 k_ he_ hk_.symm)) (fun _ hk => hk) (fun k_ hk_ => hk_.elim (fun h_ => ((Kd.R_mono (ok' := fun k_ => ((fun _ => True)) k_ ∧ k_ ≠ go10) (Kd.R_apart' (oG.out) (Kd.S_typed zA.out) q1_57) (fun k_ hk => ⟨trivial, fun e_ => (hk.2) (by rw [e_]; rfl)⟩))).1 k_ h_.symm) (fun h_ => h_.elim (fun h_ => ((Kd.R_mono (ok' := fun k_ => ((fun _ => True)) k_ ∧ k_ ≠ go10) (Kd.R_apart' (pG.out) (Kd.S_typed zA.out) q1_57) (fun k_ hk => ⟨trivial, fun e_ => (hk.2) (by rw [e_]; rfl)⟩))).1 k_ h_.symm) (fun h_ => ((Kd.R_mono (ok' := fun k_ => ((fun _ => True)) k_ ∧ k_ ≠ go10) (Kd.R_apart' (CE.out) (Kd.S_typed zA.out) q1_57) (fun k_ hk => ⟨trivial, fun e_ => (hk.2) (by rw [e_]; rfl)⟩))).1 k_ h_.symm))); have nF := hcc12 0 _ rfl; (try simp only [show (k52).sz = 4 from rfl, Nat.mul_one, Nat.add_zero] at nF); have oF := hfr12 0; (try simp only [show (k52).sz = 4 from rfl, Nat.mul_one, Nat.add_zero] at oF); have pF := hcc12 1 _ rfl; (try simp only [show (k52).sz = 4 from rfl, Nat.mul_one, Nat.add_zero] at pF); have qF := hfr12 1; (try simp only [show (k52).sz = 4 from rfl, Nat.mul_one, Nat.add_zero] at qF); have rF := hcc12 2 _ rfl; (try simp only [show (k52).sz = 4 from rfl, Nat.mul_one, Nat.add_zero] at rF); have sF := hfr12 2; (try simp only [show (k52).sz = 4 from rfl, Nat.mul_one, Nat.add_zero] at sF); have tF := hcc12 3 _ rfl; (try simp only [show (k52).sz = 4 from rfl, Nat.mul_one, Nat.add_zero] at tF); have uF := hfr12 3; (try simp only [show (k52).sz = 4 from rfl, Nat.mul_one, Nat.add_zero] at uF); clear hcl12 hcc12 hfr12 hM12 hoki12 hH12) | ((with_reducible refine gate_store (t := 52) (p := 21) rfl ?_); obtain ⟨Aq0_, cq0_, eq0_⟩ := Kd.R_slice oG.out; obtain ⟨Aq1_, cq1_, eq1_⟩ := Kd.R_slice pG.out; obtain ⟨Aq2_, cq2_, eq2_⟩ := Kd.R_slice CE.out; refine store_event (t := 52) (p := 21) (v := ?vo_w13) (w1 := ((((oB.setCell ⟨go10, (bA : Int).toNat * 4, none⟩ (rI)).setCell ⟨go10, (bA : Int).toNat * 4 + 1, none⟩ (.int .i64 xF)).setCell ⟨go10, (bA : Int).toNat * 4 + 2, none⟩ (sI)).setCell ⟨go10, (bA : Int).toNat * 4 + 3, none⟩ (tI))) ?hg ?ho ?hn ?hr ?_; (case ho => rfl); (case hg => rfl); (case hn => rfl); (case hr => first | (go_simp; done) | (go_simp; rfl) | (simp only [eq0_, eq1_, eq2_]; go_simp; done) | (simp only [eq0_, eq1_, eq2_]; go_simp; rfl)); intro DE hw; have hg : oB.grownBy DE (some go10) := (by rw [hw]; exact HP12.2); have hp_ : Kd.S k52 52 DE w.heap.size (fun _ => True) (.slice (some ⟨go10, 0, none⟩) tA.length hC) y167 := (by rw [hw, Ny167.out]; exact HP12.1); clear HP12; have eA := Aside0.mk (hp_); have fA := Aside0.mk ((by rw [hw]; exact below_set (below_set (below_set (below_set (HB.out) GB10.out) GB10.out) GB10.out) GB10.out : Below w.heap.size w DE)); clear zA; clear HB; clear oG; clear pG; clear CE; have zA := eA; have HB := fA; clear eA fA; clear hg hw hp_))
        go_roundg k1
        case measure => have := HK1.out; omega
        case rel => exact ⟨(y167), (wrap64 (bA + 1)), q1_17, H', ⟨by have := HK1.out; omega⟩, ⟨by (with_reducible repeat (first | apply Kd.S_alloc | apply Kd.S_drewN | apply Kd.S_drew)); exact zA.out⟩, ⟨q1_0⟩⟩
       ·rw [if_neg c9] at H
        exact absurd H (by simp)
      ·rw [if_neg c7] at H
       exact absurd H (by simp)
     ·rw [if_neg c6] at H
      have OC : decide (bA < (l0.length : Int)) = false := decide_eq_false c6
      clear c6
      obtain rfl := Option.some.inj H
      go_wp2
      go_ret
      exact ⟨_, q1_2, by (with_reducible repeat (first | apply Kd.S_alloc | apply Kd.S_drewN | apply Kd.S_drew)); exact zA.out, q1_0⟩
  ·rw [if_neg c3] at H
   exact absurd H (by simp)
 ·rw [if_neg c2] at H
  exact absurd H (by simp)
def laws_toCrew.f (k : Nat) (iA : Int) (cA : Int) (dA : List Int) (aA : List (S66)) (nA : Int) : Option (Int × Int × List Int × (List (S52)) × Int) := (laws_toMem.f k dA).bind fun DC => ((laws_toThreadS.f k aA).bind fun aD => (some (iA, cA, DC, aD, nA)))
theorem laws_toCrew.mono : ∀ a0 a1 a2 a3 a4 k, LeO (laws_toCrew.f k a0 a1 a2 a3 a4) (laws_toCrew.f (k + 1) a0 a1 a2 a3 a4) := by
 intro a0 a1 a2 a3 a4 k
 unfold laws_toCrew.f
 repeat' first
   | (with_reducible exact laws_toMem.mono _ _)
   | (with_reducible exact laws_toThreadS.mono _ _)
   | (with_reducible exact LeO.refl _)
   | (with_reducible exact LeO.none _)
   | (with_reducible refine LeO.ite ?_ ?_)
   | (with_reducible refine LeO.bind ?_ (fun _ => ?_))
   | exact laws_toMem.mono _ _
   | exact laws_toThreadS.mono _ _
   | exact LeO.none _
   | refine LeO.ite ?_ ?_
   | refine LeO.bind ?_ (fun _ => ?_)
set_option maxHeartbeats 8000000 in
set_option maxRecDepth 100000 in
theorem laws_toCrew.calls (k : Nat) (iA : Int) (cA : Int) (lA : Option Addr) (mA : Nat) (dA : List Int) (qA : Option Addr) (oA : Nat) (aA : List (S66)) (nA : Int) (r1 : Int) (r2 : Int) (r3 : List Int) (r4 : List (S52)) (r5 : Int) (w : World) (BB : Kd.C (Kd.int .i64) w lA dA.length dA) (CB : dA.length ≤ mA) (vB : Kd.C k66 w qA aA.length aA) (DB : aA.length ≤ oA) (h : laws_toCrew.f k iA cA dA aA nA = some (r1, r2, r3, r4, r5)) :
  Calls Tryz.prog 7 #[.agg #[.int .i64 iA, .int .i64 cA, .slice lA dA.length mA, .slice qA aA.length oA, .int .i64 nA]] w fun e w' => ∃ v2_ v3_ : Value, e = .returned (.agg #[.int .i64 r1, .int .i64 r2, v2_, v3_, .int .i64 r5]) ∧ Kd.R (Kd.int .i64) 3 w' w.heap.size (fun _ => True) v2_ r3 ∧ Kd.S k52 52 w' w.heap.size (fun k_ => some k_ ≠ (v2_ : Value).ownBlock) v3_ r4 ∧ Below w.heap.size w w' := by
 have hu27 := Tryz.underlying27
 have hu32 := Tryz.underlying32
 have hu24 := Tryz.underlying24
 have hu29 := Tryz.underlying29
 have tD := Aside0.mk BB
 have pC := Aside0.mk CB
 clear BB CB
 have EB := Aside0.mk vB
 have RC := Aside0.mk DB
 clear vB DB
 have HB := Aside0.mk (Below.refl w.heap.size w)
 have H : ((laws_toMem.f k dA).bind fun DC => ((laws_toThreadS.f k aA).bind fun aD => (some (iA, cA, DC, aD, nA)))) = some (r1, r2, r3, r4, r5) := h
 clear h
 replace H := Option.bind_eq_some_iff.mp H
 obtain ⟨DC, A20, H⟩ := H
 replace H : ((laws_toThreadS.f k aA).bind fun aD => (some (iA, cA, DC, aD, nA))) = some (r1, r2, r3, r4, r5) := H
 have A2 := Aside0.mk A20
 clear A20
 replace H := Option.bind_eq_some_iff.mp H
 obtain ⟨aD, A30, H⟩ := H
 replace H : (some (iA, cA, DC, aD, nA)) = some (r1, r2, r3, r4, r5) := H
 have A3 := Aside0.mk A30
 clear A30
 simp only [Option.some.injEq, Prod.mk.injEq] at H
 obtain ⟨rfl, rfl, rfl, rfl, rfl⟩ := H
 go_enter Tryz.func7, Tryz.ntmps7
 go_wp2_with (first | ((with_reducible refine gate_dst (N := 1) rfl ?_); refine box_event ?hg (N := 1) ?hd (cs := #[.int .i64 iA, .int .i64 cA, .slice lA dA.length mA, .slice qA aA.length oA, .int .i64 nA]) (t := 27) ?hr ?_; (case hd => rfl); (case hg => rfl); (case hr => first | (go_simp; done) | (go_simp; rfl)); intro LA hg w4 hbox hb; have eA := Aside0.mk (below_step q1_0 hb); have fA := Aside0.mk (hbox); have jA := Aside0.mk ((q1_6 : w.heap.size ≤ LA)); have pA := Aside0.mk ((q1_6 : w.heap.size ≤ LA)); clear HB; have HB := eA; have uA := fA; have pO := jA; have RG := pA; clear eA fA jA pA; clear hb hbox hg) | ((with_reducible refine gate_dst (N := 2) rfl ?_); refine box_event ?hg (N := 2) ?hd (cs := #[.int .i64 0, .int .i64 0, .slice none 0 0, .slice none 0 0, .int .i64 0]) (t := 32) ?hr ?_; (case hd => rfl); (case hg => rfl); (case hr => first | (go_simp; done) | (go_simp; rfl)); intro RA hg w5 hbox hb; have eA := Aside0.mk (blk_below (g := LA) (o := .cells #[.int .i64 iA, .int .i64 cA, .slice lA dA.length mA, .slice qA aA.length oA, .int .i64 nA] 27 (0, 0)) q1_34 hb); have fA := Aside0.mk (below_step q1_56 hb); have jA := Aside0.mk (hbox); have pA := Aside0.mk ((by rw [hg]; exact (below_size q1_56) : w.heap.size ≤ RA)); have cB := Aside0.mk ((by rw [hg]; exact (below_size q1_56) : w.heap.size ≤ RA)); have pB := Aside0.mk ((by rw [hg]; exact Nat.ne_of_lt (blk_lt (g := LA) (o := .cells #[.int .i64 iA, .int .i64 cA, .slice lA dA.length mA, .slice qA aA.length oA, .int .i64 nA] 27 (0, 0)) q1_34) : LA ≠ RA)); have uB := Aside0.mk ((by rw [hg]; exact Nat.ne_of_gt (blk_lt (g := LA) (o := .cells #[.int .i64 iA, .int .i64 cA, .slice lA dA.length mA, .slice qA aA.length oA, .int .i64 nA] 27 (0, 0)) q1_34) : RA ≠ LA)); clear uA; clear HB; have uA := eA; have HB := fA; have YA := jA; have qO := pA; have wI := cB; have LG := pB; have MG := uB; clear eA fA jA pA cB pB uB; clear hb hbox hg) | ((with_reducible refine gate_dst (N := 3) rfl ?_); refine box_event ?hg (N := 3) ?hd (cs := #[.int .i64 0, .int .i64 0, .slice none 0 0, .slice none 0 0, .int .i64 0]) (t := 32) ?hr ?_; (case hd => rfl); (case hg => rfl); (case hr => first | (go_simp; done) | (go_simp; rfl)); intro MA hg w6 hbox hb; have eA := Aside0.mk (blk_below (g := LA) (o := .cells #[.int .i64 iA, .int .i64 cA, .slice lA dA.length mA, .slice qA aA.length oA, .int .i64 nA] 27 (0, 0)) q1_34 hb); have fA := Aside0.mk (blk_below (g := RA) (o := .cells #[.int .i64 0, .int .i64 0, .slice none 0 0, .slice none 0 0, .int .i64 0] 32 (0, 0)) (by (with_reducible repeat (first | refine blk_drewN ?_ _ | refine blk_drew ?_ | refine blk_alloc ?_ _)); exact YA.out) hb); have jA := Aside0.mk (below_step q1_44 hb); have pA := Aside0.mk (hbox); have cB := Aside0.mk ((by rw [hg]; exact (below_size q1_44) : w.heap.size ≤ MA)); have pB := Aside0.mk ((by rw [hg]; exact (below_size q1_44) : w.heap.size ≤ MA)); have uB := Aside0.mk ((by rw [hg]; exact Nat.ne_of_lt (blk_lt (g := LA) (o := .cells #[.int .i64 iA, .int .i64 cA, .slice lA dA.length mA, .slice qA aA.length oA, .int .i64 nA] 27 (0, 0)) q1_34) : LA ≠ MA)); have GC := Aside0.mk ((by rw [hg]; exact Nat.ne_of_gt (blk_lt (g := LA) (o := .cells #[.int .i64 iA, .int .i64 cA, .slice lA dA.length mA, .slice qA aA.length oA, .int .i64 nA] 27 (0, 0)) q1_34) : MA ≠ LA)); have gH := Aside0.mk ((by rw [hg]; exact Nat.ne_of_lt (blk_lt (g := RA) (o := .cells #[.int .i64 0, .int .i64 0, .slice none 0 0, .slice none 0 0, .int .i64 0] 32 (0, 0)) (by (with_reducible repeat (first | refine blk_drewN ?_ _ | refine blk_drew ?_ | refine blk_alloc ?_ _)); exact YA.out)) : RA ≠ MA)); have hH := Aside0.mk ((by rw [hg]; exact Nat.ne_of_gt (blk_lt (g := RA) (o := .cells #[.int .i64 0, .int .i64 0, .slice none 0 0, .slice none 0 0, .int .i64 0] 32 (0, 0)) (by (with_reducible repeat (first | refine blk_drewN ?_ _ | refine blk_drew ?_ | refine blk_alloc ?_ _)); exact YA.out)) : MA ≠ RA)); clear uA; clear YA; clear HB; have uA := eA; have YA := fA; have HB := jA; have wA := pA; have rO := cB; have WJ := pB; have AC := uB; have NG := GC; have AB := gH; have OG := hH; clear eA fA jA pA cB pB uB GC gH hH; clear hb hbox hg; have bK := LG.out; have cK := MG.out; have QK := AC.out; have RK := NG.out; have IE : w6.cell? ⟨LA, 0, none⟩ = some (.int .i64 iA) := (blk_cell uA.out 0).trans rfl; have jJ : w6.cell? ⟨LA, 1, none⟩ = some (.int .i64 cA) := (blk_cell uA.out 1).trans rfl; have kJ : w6.cell? ⟨LA, 2, none⟩ = some (.slice lA dA.length mA) := (blk_cell uA.out 2).trans rfl; have lJ : w6.cell? ⟨LA, 3, none⟩ = some (.slice qA aA.length oA) := (blk_cell uA.out 3).trans rfl; have mJ : w6.cell? ⟨LA, 4, none⟩ = some (.int .i64 nA) := (blk_cell uA.out 4).trans rfl; have JE := blk_frozen uA.out 0; have nJ := blk_frozen uA.out 1; have oJ := blk_frozen uA.out 2; have pJ := blk_frozen uA.out 3; have qJ := blk_frozen uA.out 4; have sO := OG.out; have tO := AB.out; have ND : w6.cell? ⟨MA, 0, none⟩ = some (.int .i64 0) := (blk_cell wA.out 0).trans rfl; have NH : w6.cell? ⟨MA, 1, none⟩ = some (.int .i64 0) := (blk_cell wA.out 1).trans rfl; have OH : w6.cell? ⟨MA, 2, none⟩ = some (.slice none 0 0) := (blk_cell wA.out 2).trans rfl; have PH : w6.cell? ⟨MA, 3, none⟩ = some (.slice none 0 0) := (blk_cell wA.out 3).trans rfl; have QH : w6.cell? ⟨MA, 4, none⟩ = some (.int .i64 0) := (blk_cell wA.out 4).trans rfl; have OD := blk_frozen wA.out 0; have RH := blk_frozen wA.out 1; have SH := blk_frozen wA.out 2; have TH := blk_frozen wA.out 3; have UH := blk_frozen wA.out 4) | ((with_reducible refine gate_callee (f := 24) rfl ?_); refine goesL_ (some 12) rfl rfl Tryz.func24 q1_35 rfl #[.agg #[.slice lA dA.length mA]] rfl q1_1 ?_; (with_reducible refine (laws_toMem.calls k _ _ dA DC _ ?side1 ?side2 A2.out).mono ?_); (case side1 => exact Kd.C_below tD.out q1_12); (case side2 => exact pC.out); rintro e pD ⟨LO, rfl, ho0, hb⟩; refine ⟨_, rfl, ?_⟩; have eA := Aside0.mk (Kd.R_lower ho0 (below_size q1_12)); have fA := Aside0.mk (blk_below (g := LA) (o := .cells #[.int .i64 iA, .int .i64 cA, .slice lA dA.length mA, .slice qA aA.length oA, .int .i64 nA] 27 (0, 0)) (by (with_reducible repeat (first | refine blk_drewN ?_ _ | refine blk_drew ?_ | refine blk_alloc ?_ _)); refine blk_far ?_ AC.out _; (with_reducible repeat (first | refine blk_drewN ?_ _ | refine blk_drew ?_ | refine blk_alloc ?_ _)); refine blk_far ?_ AC.out _; (with_reducible repeat (first | refine blk_drewN ?_ _ | refine blk_drew ?_ | refine blk_alloc ?_ _)); exact uA.out) hb); have jA := Aside0.mk (blk_below (g := RA) (o := .cells #[.int .i64 0, .int .i64 0, .slice none 0 0, .slice none 0 0, .int .i64 0] 32 (0, 0)) (by (with_reducible repeat (first | refine blk_drewN ?_ _ | refine blk_drew ?_ | refine blk_alloc ?_ _)); refine blk_far ?_ AB.out _; (with_reducible repeat (first | refine blk_drewN ?_ _ | refine blk_drew ?_ | refine blk_alloc ?_ _)); refine blk_far ?_ AB.out _; (with_reducible repeat (first | refine blk_drewN ?_ _ | refine blk_drew ?_ | refine blk_alloc ?_ _)); exact YA.out) hb); have pA := Aside0.mk (blk_below (g := MA) (o := .cells #[.int .i64 iA, .int .i64 cA, .slice none 0 0, .slice none 0 0, .int .i64 0] 32 (0, 0)) (by (with_reducible repeat (first | refine blk_drewN ?_ _ | refine blk_drew ?_ | refine blk_alloc ?_ _)); refine blk_put (cs := #[.int .i64 iA, .int .i64 0, .slice none 0 0, .slice none 0 0, .int .i64 0]) ?_ 1 _ rfl; (with_reducible repeat (first | refine blk_drewN ?_ _ | refine blk_drew ?_ | refine blk_alloc ?_ _)); refine blk_put (cs := #[.int .i64 0, .int .i64 0, .slice none 0 0, .slice none 0 0, .int .i64 0]) ?_ 0 _ rfl; (with_reducible repeat (first | refine blk_drewN ?_ _ | refine blk_drew ?_ | refine blk_alloc ?_ _)); exact wA.out) hb); have cB := Aside0.mk (below_step q1_12 hb); clear uA; clear YA; clear wA; clear HB; have ID := eA; have uA := fA; have YA := jA; have wA := pA; have HB := cB; clear eA fA jA pA cB; (try clear hb); (try clear hb2); (try clear hk); (try clear hi); (try clear ho0); obtain ⟨tE, uE, yN⟩ := Kd.R_slice ID.out; subst yN; have RF : pD.cell? ⟨MA, 0, none⟩ = some (.int .i64 iA) := (blk_cell wA.out 0).trans rfl; have SF : pD.cell? ⟨MA, 1, none⟩ = some (.int .i64 cA) := (blk_cell wA.out 1).trans rfl; have TF : pD.cell? ⟨MA, 2, none⟩ = some (.slice none 0 0) := (blk_cell wA.out 2).trans rfl; have UF : pD.cell? ⟨MA, 3, none⟩ = some (.slice none 0 0) := (blk_cell wA.out 3).trans rfl; have RL : pD.cell? ⟨MA, 4, none⟩ = some (.int .i64 0) := (blk_cell wA.out 4).trans rfl; have VF := blk_frozen wA.out 0; have WF := blk_frozen wA.out 1; have XF := blk_frozen wA.out 2; have YF := blk_frozen wA.out 3; have SL := blk_frozen wA.out 4; have nD : pD.cell? ⟨LA, 0, none⟩ = some (.int .i64 iA) := (blk_cell uA.out 0).trans rfl; have XH : pD.cell? ⟨LA, 1, none⟩ = some (.int .i64 cA) := (blk_cell uA.out 1).trans rfl; have YH : pD.cell? ⟨LA, 2, none⟩ = some (.slice lA dA.length mA) := (blk_cell uA.out 2).trans rfl; have ZH : pD.cell? ⟨LA, 3, none⟩ = some (.slice qA aA.length oA) := (blk_cell uA.out 3).trans rfl; have TL : pD.cell? ⟨LA, 4, none⟩ = some (.int .i64 nA) := (blk_cell uA.out 4).trans rfl; have oD := blk_frozen uA.out 0; have aI := blk_frozen uA.out 1; have bI := blk_frozen uA.out 2; have cI := blk_frozen uA.out 3; have UL := blk_frozen uA.out 4) | ((with_reducible refine gate_callee (f := 25) rfl ?_); refine goesL_ (some 16) rfl rfl Tryz.func25 q1_35 rfl #[.slice qA aA.length oA] rfl q1_1 ?_; (with_reducible refine (laws_toThreadS.calls k _ _ aA aD _ ?side1 ?side2 A3.out).mono ?_); (case side1 => exact Kd.C_below EB.out q1_12); (case side2 => exact RC.out); rintro e qD ⟨MO, rfl, ho0, hb⟩; refine ⟨_, rfl, ?_⟩; have eA := Aside0.mk (Kd.R_below (by (with_reducible repeat (first | apply Kd.R_alloc | apply Kd.R_drewN | apply Kd.R_drew)); exact (Kd.R_mono (Kd.R_far (p := ⟨MA, 2, none⟩) (Kd.R_types ID.out wA.out q1_57) (fun _ hk => hk.2) (.slice tE DC.length uE)) (fun _ h_ => h_.1))) hb); have fA := Aside0.mk (Kd.S_lower (Kd.S_new' ho0 (Kd.R_lt (by (with_reducible repeat (first | apply Kd.R_alloc | apply Kd.R_drewN | apply Kd.R_drew)); exact (Kd.R_mono (Kd.R_far (p := ⟨MA, 2, none⟩) (Kd.R_types ID.out wA.out q1_57) (fun _ hk => hk.2) (.slice tE DC.length uE)) (fun _ h_ => h_.1))))) (below_size q1_12)); have jA := Aside0.mk (blk_below (g := LA) (o := .cells #[.int .i64 iA, .int .i64 cA, .slice lA dA.length mA, .slice qA aA.length oA, .int .i64 nA] 27 (0, 0)) (by (with_reducible repeat (first | refine blk_drewN ?_ _ | refine blk_drew ?_ | refine blk_alloc ?_ _)); refine blk_far ?_ AC.out _; (with_reducible repeat (first | refine blk_drewN ?_ _ | refine blk_drew ?_ | refine blk_alloc ?_ _)); exact uA.out) hb); have pA := Aside0.mk (blk_below (g := RA) (o := .cells #[.int .i64 0, .int .i64 0, .slice none 0 0, .slice none 0 0, .int .i64 0] 32 (0, 0)) (by (with_reducible repeat (first | refine blk_drewN ?_ _ | refine blk_drew ?_ | refine blk_alloc ?_ _)); refine blk_far ?_ AB.out _; (with_reducible repeat (first | refine blk_drewN ?_ _ | refine blk_drew ?_ | refine blk_alloc ?_ _)); exact YA.out) hb); have cB := Aside0.mk (blk_below (g := MA) (o := .cells #[.int .i64 iA, .int .i64 cA, .slice tE DC.length uE, .slice none 0 0, .int .i64 0] 32 (0, 0)) (by (with_reducible repeat (first | refine blk_drewN ?_ _ | refine blk_drew ?_ | refine blk_alloc ?_ _)); refine blk_put (cs := #[.int .i64 iA, .int .i64 cA, .slice none 0 0, .slice none 0 0, .int .i64 0]) ?_ 2 _ rfl; (with_reducible repeat (first | refine blk_drewN ?_ _ | refine blk_drew ?_ | refine blk_alloc ?_ _)); exact wA.out) hb); have pB := Aside0.mk (below_step q1_12 hb); clear ID; clear uA; clear YA; clear wA; clear HB; have ID := eA; have RI := fA; have uA := jA; have YA := pA; have wA := cB; have HB := pB; clear eA fA jA pA cB pB; (try clear hb); (try clear hb2); (try clear hk); (try clear hi); (try clear ho0); obtain ⟨sC, tC, LJ⟩ := Kd.S_slice RI.out; subst LJ; have ZF : qD.cell? ⟨MA, 0, none⟩ = some (.int .i64 iA) := (blk_cell wA.out 0).trans rfl; have aG : qD.cell? ⟨MA, 1, none⟩ = some (.int .i64 cA) := (blk_cell wA.out 1).trans rfl; have bG : qD.cell? ⟨MA, 2, none⟩ = some (.slice tE DC.length uE) := (blk_cell wA.out 2).trans rfl; have cG : qD.cell? ⟨MA, 3, none⟩ = some (.slice none 0 0) := (blk_cell wA.out 3).trans rfl; have VH : qD.cell? ⟨MA, 4, none⟩ = some (.int .i64 0) := (blk_cell wA.out 4).trans rfl; have dG := blk_frozen wA.out 0; have eG := blk_frozen wA.out 1; have fG := blk_frozen wA.out 2; have gG := blk_frozen wA.out 3; have WH := blk_frozen wA.out 4; have dI : qD.cell? ⟨LA, 0, none⟩ = some (.int .i64 iA) := (blk_cell uA.out 0).trans rfl; have eI : qD.cell? ⟨LA, 1, none⟩ = some (.int .i64 cA) := (blk_cell uA.out 1).trans rfl; have fI : qD.cell? ⟨LA, 2, none⟩ = some (.slice lA dA.length mA) := (blk_cell uA.out 2).trans rfl; have gI : qD.cell? ⟨LA, 3, none⟩ = some (.slice qA aA.length oA) := (blk_cell uA.out 3).trans rfl; have VL : qD.cell? ⟨LA, 4, none⟩ = some (.int .i64 nA) := (blk_cell uA.out 4).trans rfl; have hI := blk_frozen uA.out 0; have iI := blk_frozen uA.out 1; have jI := blk_frozen uA.out 2; have kI := blk_frozen uA.out 3; have WL := blk_frozen uA.out 4; have yH : qD.cell? ⟨RA, 0, none⟩ = some (.int .i64 0) := (blk_cell YA.out 0).trans rfl; have XL : qD.cell? ⟨RA, 1, none⟩ = some (.int .i64 0) := (blk_cell YA.out 1).trans rfl; have YL : qD.cell? ⟨RA, 2, none⟩ = some (.slice none 0 0) := (blk_cell YA.out 2).trans rfl; have ZL : qD.cell? ⟨RA, 3, none⟩ = some (.slice none 0 0) := (blk_cell YA.out 3).trans rfl; have aM : qD.cell? ⟨RA, 4, none⟩ = some (.int .i64 0) := (blk_cell YA.out 4).trans rfl; have zH := blk_frozen YA.out 0; have bM := blk_frozen YA.out 1; have cM := blk_frozen YA.out 2; have dM := blk_frozen YA.out 3; have eM := blk_frozen YA.out 4))
 refine bodyPost_ret (results_cell_row rfl _ _ RA 32 #[.int .i64 iA, .int .i64 cA, .slice tE DC.length uE, .slice sC aD.length tC, .int .i64 nA] (0, 0) _ rfl (by (with_reducible repeat (first | refine blk_drewN ?_ _ | refine blk_drew ?_ | refine blk_alloc ?_ _)); refine blk_put (cs := #[.int .i64 iA, .int .i64 cA, .slice tE DC.length uE, .slice sC aD.length tC, .int .i64 0]) ?_ 4 _ rfl; (with_reducible repeat (first | refine blk_drewN ?_ _ | refine blk_drew ?_ | refine blk_alloc ?_ _)); refine blk_put (cs := #[.int .i64 iA, .int .i64 cA, .slice tE DC.length uE, .slice none 0 0, .int .i64 0]) ?_ 3 _ rfl; (with_reducible repeat (first | refine blk_drewN ?_ _ | refine blk_drew ?_ | refine blk_alloc ?_ _)); refine blk_put (cs := #[.int .i64 iA, .int .i64 cA, .slice none 0 0, .slice none 0 0, .int .i64 0]) ?_ 2 _ rfl; (with_reducible repeat (first | refine blk_drewN ?_ _ | refine blk_drew ?_ | refine blk_alloc ?_ _)); refine blk_put (cs := #[.int .i64 iA, .int .i64 0, .slice none 0 0, .slice none 0 0, .int .i64 0]) ?_ 1 _ rfl; (with_reducible repeat (first | refine blk_drewN ?_ _ | refine blk_drew ?_ | refine blk_alloc ?_ _)); refine blk_put (cs := #[.int .i64 0, .int .i64 0, .slice none 0 0, .slice none 0 0, .int .i64 0]) ?_ 0 _ rfl; (with_reducible repeat (first | refine blk_drewN ?_ _ | refine blk_drew ?_ | refine blk_alloc ?_ _)); refine blk_far ?_ AB.out _; (with_reducible repeat (first | refine blk_drewN ?_ _ | refine blk_drew ?_ | refine blk_alloc ?_ _)); refine blk_far ?_ AB.out _; (with_reducible repeat (first | refine blk_drewN ?_ _ | refine blk_drew ?_ | refine blk_alloc ?_ _)); exact YA.out) Tryz.underlying32 rfl q1_35) rfl ?_
 exact ⟨_, _, q1_2, by (with_reducible repeat (first | apply Kd.R_alloc | apply Kd.R_drewN | apply Kd.R_drew)); exact Kd.R_mono (Kd.R_far (p := ⟨RA, 4, none⟩) (Kd.R_far (p := ⟨RA, 3, none⟩) (Kd.R_far (p := ⟨RA, 2, none⟩) (Kd.R_far (p := ⟨RA, 1, none⟩) (Kd.R_far (p := ⟨RA, 0, none⟩) (Kd.R_far (p := ⟨MA, 4, none⟩) (Kd.R_far (p := ⟨MA, 3, none⟩) (Kd.R_types (Kd.R_types ID.out wA.out q1_57) YA.out q1_57) (fun _ hk => hk.1.2) (.slice sC aD.length tC)) (fun _ hk => hk.1.2) (.int .i64 nA)) (fun _ hk => hk.2) (.int .i64 iA)) (fun _ hk => hk.2) (.int .i64 cA)) (fun _ hk => hk.2) (.slice tE DC.length uE)) (fun _ hk => hk.2) (.slice sC aD.length tC)) (fun _ hk => hk.2) (.int .i64 nA)) (fun _ hk => trivial), by (with_reducible repeat (first | apply Kd.S_alloc | apply Kd.S_drewN | apply Kd.S_drew)); exact Kd.S_mono (Kd.S_far (p := ⟨RA, 4, none⟩) (Kd.S_far (p := ⟨RA, 3, none⟩) (Kd.S_far (p := ⟨RA, 2, none⟩) (Kd.S_far (p := ⟨RA, 1, none⟩) (Kd.S_far (p := ⟨RA, 0, none⟩) (Kd.S_far (p := ⟨MA, 4, none⟩) (Kd.S_far (p := ⟨MA, 3, none⟩) (Kd.S_types (Kd.S_types RI.out wA.out q1_57) YA.out q1_57) (fun _ hk => hk.1.2) (.slice sC aD.length tC)) (fun _ hk => hk.1.2) (.int .i64 nA)) (fun _ hk => hk.2) (.int .i64 iA)) (fun _ hk => hk.2) (.int .i64 cA)) (fun _ hk => hk.2) (.slice tE DC.length uE)) (fun _ hk => hk.2) (.slice sC aD.length tC)) (fun _ hk => hk.2) (.int .i64 nA)) (fun _ hk => hk.1.1.2), q1_12⟩
end Go.Proofs.YtgghglocfdcegaaGreat.PFnExactCrewRun
