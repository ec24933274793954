/- Part P of the proof of FnExactCrewStep and FnExactCrewRun (wip/xec, pack.py). No condition. -/
import Derived.Test.YtgghglocfdcegaaGreatKC
namespace Go.Proofs.YtgghglocfdcegaaGreat.PFnExactCrewRun
open Go.RowKit Go.Proofs.YtgghglocfdcegaaGreatW.PrintWords Go.Proofs.YtgghglocfdcegaaGreatW.PrintLast Go.Proofs.YtgghglocfdcegaaGreatW.PrintMore
attribute [local go_sem] max2_int min2_int max_two min_two max_three min_three max_four min_four
set_option linter.unusedVariables false
set_option linter.unusedSimpArgs false
theorem hl1_step {g : Nat} {w w1 : World} {i : Nat} {u : Value} (h : ∀ k, k ≠ g → w1.heap[k]? = w.heap[k]?) : ∀ k, k ≠ g → (w1.setCell ⟨g, i, none⟩ u).heap[k]? = w.heap[k]? := fun k hk => (Below.heap_setCell w1 ⟨g, i, none⟩ u k hk).trans (h k hk)
theorem hl1_drewN {g : Nat} {w w1 : World} {m : Nat} (h : ∀ k, k ≠ g → w1.heap[k]? = w.heap[k]?) : ∀ k, k ≠ g → (w1.drewN m).heap[k]? = w.heap[k]? := h
theorem hl1_drew {g : Nat} {w w1 : World} (h : ∀ k, k ≠ g → w1.heap[k]? = w.heap[k]?) : ∀ k, k ≠ g → w1.drew.heap[k]? = w.heap[k]? := h
theorem hl1_sets {α : Type} {d : Kd α} {e g : Nat} {w w1 : World} {base : Nat} {ok : Nat → Prop} {v : Value} {xs : List α} (h : d.R e w base (fun k => ok k ∧ k ≠ g) v xs) (hs : ∀ k, k ≠ g → w1.heap[k]? = w.heap[k]? := by repeat (first | (with_reducible exact fun _ _ => rfl) | (with_reducible apply hl1_step) | (with_reducible apply hl1_drewN) | (with_reducible apply hl1_drew))) : d.R e w1 base (fun k => ok k ∧ k ≠ g) v xs := Kd.R_step h (fun k hk _ => hs k hk.2)
theorem q1_0 {p : Prop} (h : p := by repeat (first | (with_reducible first | exact HB.out | apply below_alloc | apply pw_below_drewN | apply below_drew1) | exact HB.out)) : p := h
theorem q1_1 {p : Prop} (h : p := by (try simp only [List.map_toArray, List.map_cons, List.map_nil]); first | done | rfl | (simp only [List.length_drop, List.length_take]; rfl)) : p := h
theorem q1_2 {p : Prop} (h : p := by first | rfl | (simp [errW_none, errW_some] <;> rfl) | (simp [*, errW_none, errW_some] <;> rfl)) : p := h
theorem q1_3 {p : Prop} (h : p := by first | (with_reducible assumption) | assumption) : p := h
theorem q1_4 {p : Prop} (h : p := by repeat (first | (with_reducible first | exact HB.out | apply below_alloc | apply pw_below_drewN | apply below_drew1 | refine below_set ?_ nF.out) | exact HB.out)) : p := h
theorem q1_5 {p : Prop} (h : p := by repeat (first | (with_reducible first | exact HB.out | apply below_alloc | apply pw_below_drewN | apply below_drew1 | refine below_set ?_ MG.out | refine below_set ?_ rI.out | refine below_set ?_ VJ.out) | exact HB.out)) : p := h
theorem q1_6 {p : Prop} (h : p := by rw [hg]; exact (below_size q1_0)) : p := h
theorem q1_7 {p : Prop} (h : p := by repeat (first | (with_reducible first | exact HB.out | apply below_alloc | apply pw_below_drewN | apply below_drew1 | refine below_set ?_ NG.out) | exact HB.out)) : p := h
theorem q1_8 {p : Prop} (h : p := by repeat (first | (with_reducible first | exact HB.out | apply below_alloc | apply pw_below_drewN | apply below_drew1 | refine below_set ?_ sI.out) | exact HB.out)) : p := h
theorem q1_9 {p : Prop} (h : p := by repeat (first | (with_reducible first | exact HB.out | apply below_alloc | apply pw_below_drewN | apply below_drew1 | refine below_set ?_ oF.out) | exact HB.out)) : p := h
theorem q1_10 {p : Prop} (h : p := by (with_reducible repeat (first | refine blk_drewN ?_ _ | refine blk_drew ?_ | refine blk_alloc ?_ _)); exact DA.out) : p := h
theorem q1_11 {p : Prop} (h : p := by repeat (first | exact (Kd.C_below mD.out HB.out) | (with_reducible refine Kd.C_alloc ?_ _) | (with_reducible refine Kd.C_drewN ?_ _) | (with_reducible refine Kd.C_drew ?_))) : p := h
theorem q1_12 {p : Prop} (h : p := by repeat (first | (with_reducible first | exact HB.out | apply below_alloc | apply pw_below_drewN | apply below_drew1 | refine below_set ?_ OG.out | refine below_set ?_ tI.out | refine below_set ?_ WJ.out) | exact HB.out)) : p := h
theorem q1_13 {p : Prop} (h : p := by repeat (first | (with_reducible first | exact HB.out | apply below_alloc | apply pw_below_drewN | apply below_drew1 | refine below_set ?_ pF.out) | exact HB.out)) : p := h
theorem q1_14 {p : Prop} (h : p := by repeat (first | (with_reducible first | exact HB.out | apply below_alloc | apply pw_below_drewN | apply below_drew1 | refine below_set ?_ PG.out) | exact HB.out)) : p := h
theorem q1_15 {p : Prop} (h : p := by repeat (first | (with_reducible first | exact HB.out | apply below_alloc | apply pw_below_drewN | apply below_drew1 | refine below_set ?_ QG.out) | exact HB.out)) : p := h
theorem q1_16 {p : Prop} (h : p := by (with_reducible repeat (first | apply Kd.R_alloc | apply Kd.R_drewN | apply Kd.R_drew)); exact yA.out) : p := h
theorem q1_17 {p : Prop} (h : p := by first | rfl | (simp; done) | (simp [*]; done)) : p := h
theorem q1_18 {p : Prop} (h : p := by (with_reducible repeat (first | refine blk_drewN ?_ _ | refine blk_drew ?_ | refine blk_alloc ?_ _)); exact FA.out) : p := h
theorem q1_19 {p : Prop} (h : p := by (with_reducible repeat (first | refine blk_drewN ?_ _ | refine blk_drew ?_ | refine blk_alloc ?_ _)); exact cB.out) : p := h
theorem q1_20 {p : Prop} (h : p := by (with_reducible repeat (first | refine blk_drewN ?_ _ | refine blk_drew ?_ | refine blk_alloc ?_ _)); refine blk_put (cs := #[.slice none 0 0]) ?_ 0 _ rfl; (with_reducible repeat (first | refine blk_drewN ?_ _ | refine blk_drew ?_ | refine blk_alloc ?_ _)); exact WA.out) : p := h
theorem q1_21 {p : Prop} (h : p := by repeat (first | (with_reducible first | exact HB.out | apply below_alloc | apply pw_below_drewN | apply below_drew1 | refine below_set ?_ uI.out) | exact HB.out)) : p := h
theorem q1_22 {p : Prop} (h : p := by (with_reducible repeat (first | refine blk_drewN ?_ _ | refine blk_drew ?_ | refine blk_alloc ?_ _)); exact fB.out) : p := h
theorem q1_23 {p : Prop} (h : p := by repeat (first | (with_reducible first | exact HB.out | apply below_alloc | apply pw_below_drewN | apply below_drew1 | refine below_set ?_ vI.out | refine below_set ?_ XJ.out) | exact HB.out)) : p := h
theorem q1_24 {p : Prop} (h : p := by (with_reducible repeat (first | refine blk_drewN ?_ _ | refine blk_drew ?_ | refine blk_alloc ?_ _)); exact DC.out) : p := h
theorem q1_25 {p : Prop} (h : p := by (with_reducible repeat (first | refine blk_drewN ?_ _ | refine blk_drew ?_ | refine blk_alloc ?_ _)); exact zA.out) : p := h
theorem q1_26 {p : Prop} (h : p := by repeat (first | (with_reducible first | exact HB.out | apply below_alloc | apply pw_below_drewN | apply below_drew1 | refine below_set ?_ NG.out | refine below_set ?_ RG.out) | exact HB.out)) : p := h
theorem q1_27 {p : Prop} (h : p := by repeat (first | (with_reducible first | exact HB.out | apply below_alloc | apply pw_below_drewN | apply below_drew1 | refine below_set ?_ sI.out | refine below_set ?_ wI.out) | exact HB.out)) : p := h
theorem q1_28 {p : Prop} (h : p := by repeat (first | (with_reducible first | exact HB.out | apply below_alloc | apply pw_below_drewN | apply below_drew1 | refine below_set ?_ nF.out | refine below_set ?_ xI.out) | exact HB.out)) : p := h
theorem q1_29 {p : Prop} (h : p := by (with_reducible repeat (first | refine blk_drewN ?_ _ | refine blk_drew ?_ | refine blk_alloc ?_ _)); exact SA.out) : p := h
theorem q1_30 {p : Prop} (h : p := by (with_reducible repeat (first | refine blk_drewN ?_ _ | refine blk_drew ?_ | refine blk_alloc ?_ _)); exact tA.out) : p := h
theorem q1_31 {p : Prop} (h : p := by kernel_rfl) : p := h
theorem q1_32 {p : Prop} (h : p := by (with_reducible repeat (first | refine blk_drewN ?_ _ | refine blk_drew ?_ | refine blk_alloc ?_ _)); exact wC.out) : p := h
theorem q1_33 {p : Prop} (h : p := by (with_reducible repeat (first | refine blk_drewN ?_ _ | refine blk_drew ?_ | refine blk_alloc ?_ _)); exact kA.out) : p := h
theorem q1_34 {p : Prop} (h : p := by repeat (first | (with_reducible first | exact HB.out | apply below_alloc | apply pw_below_drewN | apply below_drew1 | refine below_set ?_ SG.out | refine below_set ?_ yI.out | refine below_set ?_ YJ.out) | exact HB.out)) : p := h
theorem q1_35 {p : Prop} (h : p := by first | exact Kd.R_nil _ _ _ _ _ | exact Kd.N_nil _ _ _ _ _ | exact Kd.V_nil _ _ _ _ _ | exact Kd.Q_nil _ _ _ _ _ | exact Kd.S_nil _ _ _ _ _) : p := h
theorem q1_36 {p : Prop} (h : p := by repeat (first | (with_reducible first | exact HB.out | apply below_alloc | apply pw_below_drewN | apply below_drew1 | refine below_set ?_ zI.out | refine below_set ?_ ZJ.out) | exact HB.out)) : p := h
theorem q1_37 {p : Prop} (h : p := by repeat (first | (with_reducible first | exact HB.out | apply below_alloc | apply pw_below_drewN | apply below_drew1 | refine below_set ?_ SG.out | refine below_set ?_ yI.out) | exact HB.out)) : p := h
theorem q1_38 {p : Prop} (h : p := by repeat (first | (with_reducible first | exact HB.out | apply below_alloc | apply pw_below_drewN | apply below_drew1 | refine below_set ?_ TG.out | refine below_set ?_ AI.out) | exact HB.out)) : p := h
theorem q1_39 {p : Prop} (h : p := by repeat (first | (with_reducible first | exact HB.out | apply below_alloc | apply pw_below_drewN | apply below_drew1 | refine below_set ?_ MG.out | refine below_set ?_ rI.out) | exact HB.out)) : p := h
theorem q1_40 {p : Prop} (h : p := by repeat (first | (with_reducible first | exact HB.out | apply below_alloc | apply pw_below_drewN | apply below_drew1 | refine below_set ?_ OG.out | refine below_set ?_ tI.out) | exact HB.out)) : p := h
theorem q1_41 {p : Prop} (h : p := by repeat (first | (with_reducible first | exact HB.out | apply below_alloc | apply pw_below_drewN | apply below_drew1 | refine below_set ?_ PG.out | refine below_set ?_ aK.out) | exact HB.out)) : p := h
theorem q1_42 {p : Prop} (h : p := by (with_reducible repeat (first | refine blk_drewN ?_ _ | refine blk_drew ?_ | refine blk_alloc ?_ _)); exact nD.out) : p := h
theorem q1_43 {p : Prop} (h : p := by (with_reducible repeat (first | refine blk_drewN ?_ _ | refine blk_drew ?_ | refine blk_alloc ?_ _)); exact EC.out) : p := h
theorem q1_44 {p : Prop} (h : p := by (with_reducible repeat (first | refine blk_drewN ?_ _ | refine blk_drew ?_ | refine blk_alloc ?_ _)); exact YA.out) : p := h
theorem q1_45 {p : Prop} (h : p := by repeat (first | exact (Kd.C_below oD.out HB.out) | (with_reducible refine Kd.C_alloc ?_ _) | (with_reducible refine Kd.C_drewN ?_ _) | (with_reducible refine Kd.C_drew ?_))) : p := h
theorem q1_46 {p : Prop} (h : p := by repeat (first | exact (Kd.C_below oD.out q1_13) | (with_reducible refine Kd.C_alloc ?_ _) | (with_reducible refine Kd.C_drewN ?_ _) | (with_reducible refine Kd.C_drew ?_))) : p := h
theorem q1_47 {p : Prop} (h : p := by repeat (first | (with_reducible first | exact HB.out | apply below_alloc | apply pw_below_drewN | apply below_drew1 | refine below_set ?_ vI.out) | exact HB.out)) : p := h
theorem q1_48 {p : Prop} (h : p := by repeat (first | (with_reducible first | exact HB.out | apply below_alloc | apply pw_below_drewN | apply below_drew1 | refine below_set ?_ zI.out) | exact HB.out)) : p := h
theorem q1_49 {p : Prop} (h : p := by repeat (first | (with_reducible first | exact HB.out | apply below_alloc | apply pw_below_drewN | apply below_drew1 | refine below_set ?_ SG.out) | exact HB.out)) : p := h
theorem q1_50 {p : Prop} (h : p := by repeat (first | (with_reducible first | exact HB.out | apply below_alloc | apply pw_below_drewN | apply below_drew1 | refine below_set ?_ TG.out) | exact HB.out)) : p := h
theorem q1_51 {p : Prop} (h : p := by repeat (first | (with_reducible first | exact HB.out | apply below_alloc | apply pw_below_drewN | apply below_drew1 | refine below_set ?_ MG.out) | exact HB.out)) : p := h
theorem q1_52 {p : Prop} (h : p := by repeat (first | (with_reducible first | exact HB.out | apply below_alloc | apply pw_below_drewN | apply below_drew1 | refine below_set ?_ OG.out) | exact HB.out)) : p := h
theorem q1_53 {p : Prop} (h : p := by decide) : p := h
theorem q1_54 {p : Prop} (h : p := by repeat (first | exact Drawn0.refl _ | apply Drawn0.step)) : p := h
theorem q1_55 {p : Prop} (h : p := by (with_reducible repeat (first | refine blk_drewN ?_ _ | refine blk_drew ?_ | refine blk_alloc ?_ _)); refine blk_put (cs := #[.slice none 0 0]) ?_ 0 _ rfl; (with_reducible repeat (first | refine blk_drewN ?_ _ | refine blk_drew ?_ | refine blk_alloc ?_ _)); exact DA.out) : p := h
theorem q1_56 {p : Prop} (h : p := by (with_reducible repeat (first | refine blk_drewN ?_ _ | refine blk_drew ?_ | refine blk_alloc ?_ _)); refine blk_put (cs := #[.slice none 0 0]) ?_ 0 _ rfl; (with_reducible repeat (first | refine blk_drewN ?_ _ | refine blk_drew ?_ | refine blk_alloc ?_ _)); exact fB.out) : p := h
theorem q1_57 {p : Prop} (h : p := by (with_reducible repeat (first | refine blk_drewN ?_ _ | refine blk_drew ?_ | refine blk_alloc ?_ _)); refine blk_put (cs := #[.slice none 0 0]) ?_ 0 _ rfl; (with_reducible repeat (first | refine blk_drewN ?_ _ | refine blk_drew ?_ | refine blk_alloc ?_ _)); exact uB.out) : p := h
theorem q1_58 {p : Prop} (h : p := by (iterate 4 ((with_reducible repeat (first | refine blk_drewN ?_ _ | refine blk_drew ?_ | refine blk_alloc ?_ _)); refine blk_far ?_ GB.out _)); (with_reducible repeat (first | refine blk_drewN ?_ _ | refine blk_drew ?_ | refine blk_alloc ?_ _)); exact FA.out) : p := h
theorem q1_59 {p : Prop} (h : p := by (iterate 4 ((with_reducible repeat (first | refine blk_drewN ?_ _ | refine blk_drew ?_ | refine blk_alloc ?_ _)); refine blk_far ?_ lC.out _)); (with_reducible repeat (first | refine blk_drewN ?_ _ | refine blk_drew ?_ | refine blk_alloc ?_ _)); exact cB.out) : p := h
def spec_l02Copy.f (hA : List Int) : Option (List Int) := (some (([] : List Int) : List Int)).bind fun y316 => (if y316.length + hA.length < 17592186044416 then (some (y316 ++ hA)) else (none))
set_option maxHeartbeats 8000000 in
set_option maxRecDepth 100000 in
theorem spec_l02Copy.calls (rA : Option Addr) (sA : Nat) (hA : List Int) (r : List Int) (w : World) (qB : Kd.C (Kd.int .i64) w rA hA.length hA) (vB : hA.length ≤ sA) (h : spec_l02Copy.f hA = some r) :
  Calls Tryz.prog 41 #[.agg #[.slice rA hA.length sA]] w fun e w' => ∃ v0_ : Value, e = .returned (.agg #[v0_]) ∧ Kd.R (Kd.int .i64) 3 w' w.heap.size (fun _ => True) v0_ r ∧ Below w.heap.size w w' := by
 have hu29 := Tryz.underlying29
 have mD := Aside0.mk qB
 clear qB vB
 have HB := Aside0.mk (Below.refl w.heap.size w)
 have H : ((some (([] : List Int) : List Int)).bind fun y316 => (if y316.length + hA.length < 17592186044416 then (some (y316 ++ hA)) else (none))) = some r := h
 clear h
 obtain ⟨y316, hy316⟩ : ∃ y_ : List Int, y_ = (([] : List Int)) := ⟨_, rfl⟩
 replace H : (if y316.length + hA.length < 17592186044416 then (some (y316 ++ hA)) else (none)) = some r := by first | (rw [hy316]; with_reducible exact H) | (have H2_ := (Option.bind_some _ _).symm.trans H; rw [hy316]; with_reducible exact H2_) | (have H2_ := (Option.bind_some _ _).symm.trans H; with_reducible exact H2_) | with_reducible exact H | (rw [hy316]; exact H) | exact H
 have Ny316 := Aside0.mk hy316
 clear hy316
 by_cases c2 : y316.length + hA.length < 17592186044416
 ·rw [if_pos c2] at H
  have LMc2 := Aside0.mk c2
  clear c2
  obtain ⟨y319, hy319⟩ : ∃ y_ : List Int, y_ = (y316 ++ hA) := ⟨_, rfl⟩
  replace H : (some y319) = some r := by first | (rw [hy319]; with_reducible exact H) | (have H2_ := (Option.bind_some _ _).symm.trans H; rw [hy319]; with_reducible exact H2_) | (have H2_ := (Option.bind_some _ _).symm.trans H; with_reducible exact H2_) | with_reducible exact H | (rw [hy319]; exact H) | exact H
  have Ny319 := Aside0.mk hy319
  clear hy319
  obtain rfl := Option.some.inj H
  go_enter Tryz.func41, Tryz.ntmps41
  go_wp2_with (first | ((with_reducible refine gate_dst (N := 1) rfl ?_); refine box_event ?hg (N := 1) ?hd (cs := #[.slice rA hA.length sA]) (t := 29) ?hr ?_; (case hd => rfl); (case hg => rfl); (case hr => first | (go_simp; done) | (go_simp; rfl)); intro xC hg w3 hbox hb; have dA := Aside0.mk (below_step q1_0 hb); have fA := Aside0.mk (hbox); have iA := Aside0.mk ((q1_6 : w.heap.size ≤ xC)); have pA := Aside0.mk ((q1_6 : w.heap.size ≤ xC)); clear HB; have HB := dA; have wC := fA; have zN := iA; have vI := pA; clear dA fA iA pA; clear hb hbox hg) | ((with_reducible refine gate_dst (N := 2) rfl ?_); refine box_event ?hg (N := 2) ?hd (cs := #[.slice none 0 0]) (t := 29) ?hr ?_; (case hd => rfl); (case hg => rfl); (case hr => first | (go_simp; done) | (go_simp; rfl)); intro FC hg w4 hbox hb; have dA := Aside0.mk (blk_below (g := xC) (o := .cells #[.slice rA hA.length sA] 29 (0, 0)) q1_32 hb); have fA := Aside0.mk (below_step q1_47 hb); have iA := Aside0.mk (hbox); have pA := Aside0.mk ((by rw [hg]; exact (below_size q1_47) : w.heap.size ≤ FC)); have ZA := Aside0.mk ((by rw [hg]; exact (below_size q1_47) : w.heap.size ≤ FC)); have nB := Aside0.mk ((by rw [hg]; exact Nat.ne_of_lt (blk_lt (g := xC) (o := .cells #[.slice rA hA.length sA] 29 (0, 0)) q1_32) : xC ≠ FC)); have rB := Aside0.mk ((by rw [hg]; exact Nat.ne_of_gt (blk_lt (g := xC) (o := .cells #[.slice rA hA.length sA] 29 (0, 0)) q1_32) : FC ≠ xC)); clear wC HB; have wC := dA; have HB := fA; have cC := iA; have AN := pA; have XJ := ZA; have fG := nB; have gG := rB; clear dA fA iA pA ZA nB rB; clear hb hbox hg) | ((with_reducible refine gate_dst (N := 3) rfl ?_); refine Kd.R_lit (Kd.int .i64) _ 3 ?hg (N := 3) ?hd (xs := ([] : List Int)) (inner := []) (ok := fun _ => True) (okp := fun _ => True) ?hr ?hp (fun _ hk => hk) trivial (Below.refl _ _) (Nat.le_refl _) (by simp) ?_; (case hd => rfl); (case hg => rfl); (case hr => first | (go_simp; done) | (go_simp; rfl)); (case hp => exact (Reps.none _ _)); intro cM w5 ho6 hb hg_ hnew_; clear hg_ hnew_; (first | rw [← Ny316.out] at ho6 | (simp only [Int.reduceToNat] at ho6; rw [← Ny316.out] at ho6)); have dA := Aside0.mk (Kd.R_lower ho6 (below_size q1_23)); have fA := Aside0.mk (blk_below (g := xC) (o := .cells #[.slice rA hA.length sA] 29 (0, 0)) q1_32 hb); have iA := Aside0.mk (blk_below (g := FC) (o := .cells #[.slice none 0 0] 29 (0, 0)) (by (with_reducible repeat (first | refine blk_drewN ?_ _ | refine blk_drew ?_ | refine blk_alloc ?_ _)); exact cC.out) hb); have pA := Aside0.mk (below_step q1_23 hb); clear wC cC HB; have qF := dA; have wC := fA; have cC := iA; have HB := pA; clear dA fA iA pA; clear hb ho6; have bK := fG.out; have cK := gG.out; have UG : w5.cell? ⟨xC, 0, none⟩ = some (.slice rA hA.length sA) := (blk_cell wC.out 0).trans rfl; have VG := blk_frozen wC.out 0) | ((with_reducible refine gate_builtin (b := .append) (xs := #[.tmp 3, .tmp 5]) rfl ?_); at_builtin; refine Kd.R_append_rows (Kd.int .i64) (w0 := w) w.heap.size rfl (.tmp 3) (.tmp 5) 22 3 (.int .i64 0) 8 rfl Tryz.underlying22 info3 rfl q1_53 (by omega) cM y316 hA _ _ _ (fun _ => True) (fun _ => False) rfl rfl ?aO ?aR (fun _ _ h => h) (fun _ h => h.elim) ?aF ?aB ?aS ?aL ?_; (case aR => repeat (first | exact (Kd.C_below mD.out HB.out) | (with_reducible refine Kd.C_alloc ?_ _) | (with_reducible refine Kd.C_drewN ?_ _) | (with_reducible refine Kd.C_drew ?_))); (case aB => exact q1_23); (case aF => exact (fun _ _ => trivial)); (case aO => exact (by (with_reducible repeat (first | apply Kd.R_alloc | apply Kd.R_drewN | apply Kd.R_drew)); exact qF.out)); (case aS => exact (below_size q1_23)); (case aL => have := LMc2.out; omega); intro uO w9 ho hb hg hat; rw [← Ny319.out] at ho; have dA := Aside0.mk (blk_grown (g := xC) (o := .cells #[.slice rA hA.length sA] 29 (0, 0)) q1_32 hg (Kd.R_ne qF.out wC.out q1_53)); have fA := Aside0.mk (blk_grown (g := FC) (o := .cells #[.slice none 0 0] 29 (0, 0)) (by (with_reducible repeat (first | refine blk_drewN ?_ _ | refine blk_drew ?_ | refine blk_alloc ?_ _)); exact cC.out) hg (Kd.R_ne qF.out cC.out q1_53)); have iA := Aside0.mk (hb); have pA := Aside0.mk (ho); clear wC cC HB qF; have wC := dA; have cC := fA; have HB := iA; have BI := pA; clear dA fA iA pA; clear ho hb hg hat; obtain ⟨dD, aC, UC⟩ := Kd.R_slice BI.out; subst UC; have ID : w9.cell? ⟨FC, 0, none⟩ = some (.slice none 0 0) := (blk_cell cC.out 0).trans rfl; have JD := blk_frozen cC.out 0))
  refine bodyPost_ret (results_cell_row rfl _ _ FC 29 #[.slice dD y319.length aC] (0, 0) _ rfl (by (with_reducible repeat (first | refine blk_drewN ?_ _ | refine blk_drew ?_ | refine blk_alloc ?_ _)); refine blk_put (cs := #[.slice none 0 0]) ?_ 0 _ rfl; (with_reducible repeat (first | refine blk_drewN ?_ _ | refine blk_drew ?_ | refine blk_alloc ?_ _)); exact cC.out) Tryz.underlying29 rfl q1_31) rfl ?_
  exact ⟨_, q1_2, by (with_reducible repeat (first | apply Kd.R_alloc | apply Kd.R_drewN | apply Kd.R_drew)); exact Kd.R_mono (Kd.R_far (p := ⟨FC, 0, none⟩) (Kd.R_types BI.out cC.out q1_53) (fun _ hk => hk.2) (.slice dD y319.length aC)) (fun _ hk => trivial), q1_23⟩
 ·rw [if_neg c2] at H
  exact absurd H (by simp)
def impl_copyInts.f (l0 : List Int) : Option (List Int) := if ([] : List Int).length + l0.length < 17592186044416 then (some (([] : List Int) ++ l0)) else (none)
set_option maxHeartbeats 8000000 in
set_option maxRecDepth 100000 in
theorem impl_copyInts.calls (A0 : Option Addr) (c0 : Nat) (l0 : List Int) (r : List Int) (w : World) (hr0 : Kd.C (Kd.int .i64) w A0 l0.length l0) (hc0 : l0.length ≤ c0) (h : impl_copyInts.f l0 = some r) :
  Calls Tryz.prog 60 #[.slice A0 l0.length c0] w fun e w' => ∃ v0_ : Value, e = .returned (v0_) ∧ Kd.R (Kd.int .i64) 3 w' w.heap.size (fun _ => True) v0_ r ∧ Below w.heap.size w w' := by
 have HR0 := Aside0.mk hr0
 clear hr0 hc0
 have HB := Aside0.mk (Below.refl w.heap.size w)
 have H : (if ([] : List Int).length + l0.length < 17592186044416 then (some (([] : List Int) ++ l0)) else (none)) = some r := h
 clear h
 by_cases c2 : ([] : List Int).length + l0.length < 17592186044416
 ·rw [if_pos c2] at H
  have LMc2 := Aside0.mk c2
  clear c2
  obtain ⟨y982, hy982⟩ : ∃ y_ : List Int, y_ = (([] : List Int) ++ l0) := ⟨_, rfl⟩
  replace H : (some y982) = some r := by first | (rw [hy982]; with_reducible exact H) | (have H2_ := (Option.bind_some _ _).symm.trans H; rw [hy982]; with_reducible exact H2_) | (have H2_ := (Option.bind_some _ _).symm.trans H; with_reducible exact H2_) | with_reducible exact H | (rw [hy982]; exact H) | exact H
  have Ny982 := Aside0.mk hy982
  clear hy982
  obtain rfl := Option.some.inj H
  go_enter Tryz.func60, Tryz.ntmps60
  go_wp2_with (first | ((with_reducible refine gate_builtin (b := .append) (xs := #[.const (.slice none 0 0), .tmp 3]) rfl ?_); at_builtin; refine Kd.R_append_rows (Kd.int .i64) (w0 := w) w.heap.size rfl (.const (.slice none 0 0)) (.tmp 3) 22 3 (.int .i64 0) 8 rfl Tryz.underlying22 info3 rfl q1_53 (by omega) (.slice none 0 0) ([] : List Int) l0 _ _ _ (fun _ => True) (fun _ => False) rfl rfl ?aO ?aR (fun _ _ h => h) (fun _ h => h.elim) ?aF ?aB ?aS ?aL ?_; (case aR => repeat (first | exact HR0.out | (with_reducible refine Kd.C_alloc ?_ _) | (with_reducible refine Kd.C_drewN ?_ _) | (with_reducible refine Kd.C_drew ?_))); (case aB => exact q1_0); (case aF => exact (fun _ _ => trivial)); (case aO => exact ((Kd.R_nil _ _ _ _ (fun _ => True)))); (case aS => exact (below_size q1_0)); (case aL => have := LMc2.out; omega); intro vO w3 ho hb hg hat; rw [← Ny982.out] at ho; have dA := Aside0.mk (hb); have fA := Aside0.mk (ho); clear HB; have HB := dA; have dK := fA; clear dA fA; clear ho hb hg hat))
  go_ret
  exact ⟨_, q1_2, by (with_reducible repeat (first | apply Kd.R_alloc | apply Kd.R_drewN | apply Kd.R_drew)); exact dK.out, q1_0⟩
 ·rw [if_neg c2] at H
  exact absurd H (by simp)
def impl_copyMem.f (hA : List Int) : Option (List Int) := (impl_copyInts.f hA).bind fun DE => (some DE)
set_option maxHeartbeats 8000000 in
set_option maxRecDepth 100000 in
theorem impl_copyMem.calls (rA : Option Addr) (sA : Nat) (hA : List Int) (r : List Int) (w : World) (qB : Kd.C (Kd.int .i64) w rA hA.length hA) (vB : hA.length ≤ sA) (h : impl_copyMem.f hA = some r) :
  Calls Tryz.prog 59 #[.agg #[.slice rA hA.length sA]] w fun e w' => ∃ v0_ : Value, e = .returned (.agg #[v0_]) ∧ Kd.R (Kd.int .i64) 3 w' w.heap.size (fun _ => True) v0_ r ∧ Below w.heap.size w w' := by
 have hu29 := Tryz.underlying29
 have mD := Aside0.mk qB
 have LB := Aside0.mk vB
 clear qB vB
 have HB := Aside0.mk (Below.refl w.heap.size w)
 have H : ((impl_copyInts.f hA).bind fun DE => (some DE)) = some r := h
 clear h
 replace H := Option.bind_eq_some_iff.mp H
 obtain ⟨DE, A20, H⟩ := H
 (try dsimp only at H)
 have A2 := Aside0.mk A20
 clear A20
 obtain rfl := Option.some.inj H
 go_enter Tryz.func59, Tryz.ntmps59
 go_wp2_with (first | ((with_reducible refine gate_dst (N := 1) rfl ?_); refine box_event ?hg (N := 1) ?hd (cs := #[.slice rA hA.length sA]) (t := 29) ?hr ?_; (case hd => rfl); (case hg => rfl); (case hr => first | (go_simp; done) | (go_simp; rfl)); intro GC hg w3 hbox hb; have dA := Aside0.mk (below_step q1_0 hb); have fA := Aside0.mk (hbox); have iA := Aside0.mk ((q1_6 : w.heap.size ≤ GC)); have pA := Aside0.mk ((q1_6 : w.heap.size ≤ GC)); clear HB; have HB := dA; have nD := fA; have BN := iA; have zI := pA; clear dA fA iA pA; clear hb hbox hg) | ((with_reducible refine gate_dst (N := 2) rfl ?_); refine box_event ?hg (N := 2) ?hd (cs := #[.slice none 0 0]) (t := 29) ?hr ?_; (case hd => rfl); (case hg => rfl); (case hr => first | (go_simp; done) | (go_simp; rfl)); intro bD hg w4 hbox hb; have dA := Aside0.mk (blk_below (g := GC) (o := .cells #[.slice rA hA.length sA] 29 (0, 0)) q1_42 hb); have fA := Aside0.mk (below_step q1_48 hb); have iA := Aside0.mk (hbox); have pA := Aside0.mk ((by rw [hg]; exact (below_size q1_48) : w.heap.size ≤ bD)); have ZA := Aside0.mk ((by rw [hg]; exact (below_size q1_48) : w.heap.size ≤ bD)); have nB := Aside0.mk ((by rw [hg]; exact Nat.ne_of_lt (blk_lt (g := GC) (o := .cells #[.slice rA hA.length sA] 29 (0, 0)) q1_42) : GC ≠ bD)); have rB := Aside0.mk ((by rw [hg]; exact Nat.ne_of_gt (blk_lt (g := GC) (o := .cells #[.slice rA hA.length sA] 29 (0, 0)) q1_42) : bD ≠ GC)); clear nD HB; have nD := dA; have HB := fA; have pD := iA; have CN := pA; have ZJ := ZA; have hG := nB; have iG := rB; clear dA fA iA pA ZA nB rB; clear hb hbox hg; have dM := hG.out; have eM := iG.out; have EE : w4.cell? ⟨GC, 0, none⟩ = some (.slice rA hA.length sA) := (blk_cell nD.out 0).trans rfl; have FE := blk_frozen nD.out 0) | ((with_reducible refine gate_callee (f := 60) rfl ?_); refine goesL_ (some 5) rfl rfl Tryz.func60 q1_31 rfl #[.slice rA hA.length sA] rfl q1_1 ?_; (with_reducible refine (impl_copyInts.calls _ _ hA DE _ ?side1 ?side2 A2.out).mono ?_); (case side1 => exact q1_11); (case side2 => exact LB.out); rintro e w7 ⟨wO, rfl, ho0, hb⟩; refine ⟨_, rfl, ?_⟩; have dA := Aside0.mk (Kd.R_lower ho0 (below_size q1_36)); have fA := Aside0.mk (blk_below (g := GC) (o := .cells #[.slice rA hA.length sA] 29 (0, 0)) q1_42 hb); have iA := Aside0.mk (blk_below (g := bD) (o := .cells #[.slice none 0 0] 29 (0, 0)) (by (with_reducible repeat (first | refine blk_drewN ?_ _ | refine blk_drew ?_ | refine blk_alloc ?_ _)); exact pD.out) hb); have pA := Aside0.mk (below_step q1_36 hb); clear nD pD HB; have CI := dA; have nD := fA; have pD := iA; have HB := pA; clear dA fA iA pA; (try clear hb); (try clear hb2); (try clear hk); (try clear hi); (try clear ho0); obtain ⟨eK, fK, fM⟩ := Kd.R_slice CI.out; subst fM; have GE : w7.cell? ⟨bD, 0, none⟩ = some (.slice none 0 0) := (blk_cell pD.out 0).trans rfl; have HE := blk_frozen pD.out 0))
 refine bodyPost_ret (results_cell_row rfl _ _ bD 29 #[.slice eK DE.length fK] (0, 0) _ rfl (by (with_reducible repeat (first | refine blk_drewN ?_ _ | refine blk_drew ?_ | refine blk_alloc ?_ _)); refine blk_put (cs := #[.slice none 0 0]) ?_ 0 _ rfl; (with_reducible repeat (first | refine blk_drewN ?_ _ | refine blk_drew ?_ | refine blk_alloc ?_ _)); exact pD.out) Tryz.underlying29 rfl q1_31) rfl ?_
 exact ⟨_, q1_2, by (with_reducible repeat (first | apply Kd.R_alloc | apply Kd.R_drewN | apply Kd.R_drew)); exact Kd.R_mono (Kd.R_far (p := ⟨bD, 0, none⟩) (Kd.R_types CI.out pD.out q1_53) (fun _ hk => hk.2) (.slice eK DE.length fK)) (fun _ hk => trivial), q1_36⟩
def spec_Able.l0 : Nat → List Int → List (S52) → Int → Int → Option (List Int)
 | 0, _, _, _, _ => none
 | k + 1, x3, x8, x9, x10 => if x10 < x9 then (if 0 ≤ x10 then (if x10 < (x8.length : Int) then (if ((rd_T52 x8 x10).f1) < (((rd_T52 x8 x10).f0).length : Int) then (if x3.length < 17592186044416 then (spec_Able.l0 k (x3 ++ [x10]) x8 x9 (wrap64 (x10 + 1))) else (none)) else (spec_Able.l0 k x3 x8 x9 (wrap64 (x10 + 1)))) else (none)) else (none)) else (some x3)
def spec_Able.f (k : Nat) (jA : Int) (cA : Int) (eA : List Int) (aA : List (S52)) (oA : Int) : Option (List Int) := spec_Able.l0 k (([] : List Int)) aA (aA.length : Int) 0
theorem spec_Able.mono_l : ∀ k, (∀ y0 y1 y2 y3, LeO (spec_Able.l0 k y0 y1 y2 y3) (spec_Able.l0 (k + 1) y0 y1 y2 y3))
 | 0 => fun _ _ _ _ r h => by simp [spec_Able.l0] at h
 | k + 1 => by
  have ih0 := spec_Able.mono_l k
  ·intro y0 y1 y2 y3
   unfold spec_Able.l0
   repeat' first
   | (with_reducible exact ih0 _ _ _ _)
   | (with_reducible exact LeO.refl _)
   | (with_reducible exact LeO.none _)
   | (with_reducible refine LeO.ite ?_ ?_)
   | (with_reducible refine LeO.bind ?_ (fun _ => ?_))
   | exact ih0 _ _ _ _
   | exact LeO.none _
   | refine LeO.ite ?_ ?_
   | refine LeO.bind ?_ (fun _ => ?_)
theorem spec_Able.mono : ∀ a0 a1 a2 a3 a4 k, LeO (spec_Able.f k a0 a1 a2 a3 a4) (spec_Able.f (k + 1) a0 a1 a2 a3 a4) := by
 intro a0 a1 a2 a3 a4 k
 have ih0 := spec_Able.mono_l k
 unfold spec_Able.f
 repeat' first
   | (with_reducible exact ih0 _ _ _ _)
   | (with_reducible exact LeO.refl _)
   | (with_reducible exact LeO.none _)
   | (with_reducible refine LeO.ite ?_ ?_)
   | (with_reducible refine LeO.bind ?_ (fun _ => ?_))
   | exact ih0 _ _ _ _
   | exact LeO.none _
   | refine LeO.ite ?_ ?_
   | refine LeO.bind ?_ (fun _ => ?_)
set_option maxHeartbeats 8000000 in
set_option maxRecDepth 100000 in
theorem spec_Able.calls (k : Nat) (jA : Int) (cA : Int) (lA : Option Addr) (mA : Nat) (eA : List Int) (qA : Option Addr) (nA : Nat) (aA : List (S52)) (oA : Int) (r : List Int) (w : World) (xB : Kd.C (Kd.int .i64) w lA eA.length eA) (yB : eA.length ≤ mA) (sB : Kd.C k52 w qA aA.length aA) (zB : aA.length ≤ nA) (h : spec_Able.f k jA cA eA aA oA = some r) :
  Calls Tryz.prog 19 #[.agg #[.int .i64 jA, .int .i64 cA, .slice lA eA.length mA, .slice qA aA.length nA, .int .i64 oA]] w fun e w' => ∃ v0_ : Value, e = .returned (v0_) ∧ Kd.R (Kd.int .i64) 3 w' w.heap.size (fun _ => True) v0_ r ∧ Below w.heap.size w w' := by
 have hu32 := Tryz.underlying32
 have hu52 := Tryz.underlying52
 clear xB yB
 have AB := Aside0.mk sB
 clear sB zB
 have HB := Aside0.mk (Below.refl w.heap.size w)
 have H : (spec_Able.l0 k (([] : List Int)) aA (aA.length : Int) 0) = some r := h
 clear h
 obtain ⟨y237, hy237⟩ : ∃ y_ : List Int, y_ = (([] : List Int)) := ⟨_, rfl⟩
 replace H : (spec_Able.l0 k y237 aA (aA.length : Int) 0) = some r := by first | (rw [hy237]; with_reducible exact H) | (have H2_ := (Option.bind_some _ _).symm.trans H; rw [hy237]; with_reducible exact H2_) | (have H2_ := (Option.bind_some _ _).symm.trans H; with_reducible exact H2_) | with_reducible exact H | (rw [hy237]; exact H) | exact H
 have Ny237 := Aside0.mk hy237
 clear hy237
 have H' := Aside0.mk H
 clear H
 go_enter Tryz.func19, Tryz.ntmps19
 go_wp2_with (first | ((with_reducible refine gate_dst (N := 1) rfl ?_); refine box_event ?hg (N := 1) ?hd (cs := #[.int .i64 jA, .int .i64 cA, .slice lA eA.length mA, .slice qA aA.length nA, .int .i64 oA]) (t := 32) ?hr ?_; (case hd => rfl); (case hg => rfl); (case hr => first | (go_simp; done) | (go_simp; rfl)); intro iB hg w2 hbox hb; have dA := Aside0.mk (below_step q1_0 hb); have fA := Aside0.mk (hbox); have iA := Aside0.mk ((q1_6 : w.heap.size ≤ iB)); have pA := Aside0.mk ((q1_6 : w.heap.size ≤ iB)); clear HB; have HB := dA; have cB := fA; have DN := iA; have sI := pA; clear dA fA iA pA; clear hb hbox hg) | ((with_reducible refine gate_dst (N := 6) rfl ?_); refine Kd.R_lit (Kd.int .i64) _ 3 ?hg (N := 6) ?hd (xs := ([] : List Int)) (inner := []) (ok := fun _ => True) (okp := fun _ => True) ?hr ?hp (fun _ hk => hk) trivial (Below.refl _ _) (Nat.le_refl _) (by simp) ?_; (case hd => rfl); (case hg => rfl); (case hr => first | (go_simp; done) | (go_simp; rfl)); (case hp => exact (Reps.none _ _)); intro xO w3 ho4 hb hg_ hnew_; clear hg_ hnew_; (first | rw [← Ny237.out] at ho4 | (simp only [Int.reduceToNat] at ho4; rw [← Ny237.out] at ho4)); have dA := Aside0.mk (Kd.R_lower ho4 (below_size q1_8)); have fA := Aside0.mk (blk_below (g := iB) (o := .cells #[.int .i64 jA, .int .i64 cA, .slice lA eA.length mA, .slice qA aA.length nA, .int .i64 oA] 32 (0, 0)) q1_19 hb); have iA := Aside0.mk (below_step q1_8 hb); clear cB HB; have gK := dA; have cB := fA; have HB := iA; clear dA fA iA; clear hb ho4; have IE : w3.cell? ⟨iB, 0, none⟩ = some (.int .i64 jA) := (blk_cell cB.out 0).trans rfl; have JE : w3.cell? ⟨iB, 1, none⟩ = some (.int .i64 cA) := (blk_cell cB.out 1).trans rfl; have KE : w3.cell? ⟨iB, 2, none⟩ = some (.slice lA eA.length mA) := (blk_cell cB.out 2).trans rfl; have LE : w3.cell? ⟨iB, 3, none⟩ = some (.slice qA aA.length nA) := (blk_cell cB.out 3).trans rfl; have ME : w3.cell? ⟨iB, 4, none⟩ = some (.int .i64 oA) := (blk_cell cB.out 4).trans rfl; have NE := blk_frozen cB.out 0; have OE := blk_frozen cB.out 1; have PE := blk_frozen cB.out 2; have QE := blk_frozen cB.out 3; have RE := blk_frozen cB.out 4))
 go_loopg [3, 10] k (fun kq v3 v10 w' => ∃ (uA : List Int) (gA : Int), v10 = .int .i64 gA ∧ Aside0 (spec_Able.l0 kq uA aA (aA.length : Int) gA = some r) ∧ Aside0 (kq ≤ k) ∧ Aside0 (Kd.R (Kd.int .i64) 3 w' w.heap.size (fun _ => True) v3 uA) ∧ Aside0 (w'.heap[iB]? = some (.cells #[.int .i64 jA, .int .i64 cA, (.slice lA eA.length mA), (.slice qA aA.length nA), .int .i64 oA] 32 (0, 0))) ∧ Aside0 (Below w.heap.size w w'))
 case atStart => exact ⟨(y237), (0), q1_17, H', ⟨Nat.le_refl _⟩, ⟨by (with_reducible repeat (first | apply Kd.R_alloc | apply Kd.R_drewN | apply Kd.R_drew)); exact gK.out⟩, ⟨q1_19⟩, ⟨q1_8⟩⟩
 case round =>
  clear H'
  (try clear c1); (try clear p2); (try clear IE); (try clear JE); (try clear KE); (try clear LE); (try clear ME); (try clear NE); (try clear OE); (try clear PE); (try clear QE); (try clear RE)
  obtain ⟨uA, gA, rfl, HA, HK1, yA, cB, HB⟩ := hrel
  cases gk with
  | zero => exact absurd HA.out (by simp [spec_Able.l0])
  | succ k1 =>
   have H := HA.out
   clear HA
   simp only [spec_Able.l0] at H
   by_cases c6 : gA < (aA.length : Int)
   ·rw [if_pos c6] at H
    have HC : decide (gA < (aA.length : Int)) = true := decide_eq_true c6
    clear c6
    by_cases c7 : 0 ≤ gA
    ·rw [if_pos c7] at H
     have uE : decide (0 ≤ gA) = true := decide_eq_true c7
     clear c7
     by_cases c8 : gA < (aA.length : Int)
     ·rw [if_pos c8] at H
      have jH : decide (gA < (aA.length : Int)) = true := decide_eq_true c8
      clear c8
      by_cases c9 : ((rd_T52 aA gA).f1) < (((rd_T52 aA gA).f0).length : Int)
      ·rw [if_pos c9] at H
       have SE : decide (((rd_T52 aA gA).f1) < (((rd_T52 aA gA).f0).length : Int)) = true := decide_eq_true c9
       clear c9
       by_cases c10 : uA.length < 17592186044416
       ·rw [if_pos c10] at H
        have LMc10 := Aside0.mk c10
        clear c10
        obtain ⟨y242, hy242⟩ : ∃ y_ : List Int, y_ = (uA ++ [gA]) := ⟨_, rfl⟩
        replace H : (spec_Able.l0 k1 y242 aA (aA.length : Int) (wrap64 (gA + 1))) = some r := by first | (rw [hy242]; with_reducible exact H) | (have H2_ := (Option.bind_some _ _).symm.trans H; rw [hy242]; with_reducible exact H2_) | (have H2_ := (Option.bind_some _ _).symm.trans H; with_reducible exact H2_) | with_reducible exact H | (rw [hy242]; exact H) | exact H
        have Ny242 := Aside0.mk hy242
        clear hy242
        have H' := Aside0.mk H
        clear H
        have p240 : 0 ≤ (gA : Int) := of_decide_eq_true q1_3
        have q240 : gA < (aA.length : Int) := of_decide_eq_true q1_3
        obtain ⟨ad240, VC, WC, KD, LD, TE, UE, PI, QB, RB, SB, TB, MD, ND, OD, PD, QD, RD⟩ := at_T52 AB.out gA p240 q240
        cases PI
        replace QB := (HB.out.cell (World.block_lt_of_cell? w _ QB)).trans QB
        replace RB := (HB.out.cell (World.block_lt_of_cell? w _ RB)).trans RB
        replace SB := (HB.out.cell (World.block_lt_of_cell? w _ SB)).trans SB
        replace TB := (HB.out.cell (World.block_lt_of_cell? w _ TB)).trans TB
        clear ND MD PD OD RD QD
        replace p240 := eq_true p240
        replace q240 := eq_true q240
        go_wp2_with (first | ((with_reducible refine gate_dst (N := 5) rfl ?_); refine box_event ?hg (N := 5) ?hd (cs := #[.slice none 0 0, .int .i64 0, .slice none 0 0, .slice none 0 0]) (t := 52) ?hr ?_; (case hd => rfl); (case hg => rfl); (case hr => first | (go_simp; done) | (go_simp; rfl)); intro dB hg mB hbox hb; have dA := Aside0.mk (Kd.R_below q1_16 hb); have fA := Aside0.mk (blk_below (g := iB) (o := .cells #[.int .i64 jA, .int .i64 cA, .slice lA eA.length mA, .slice (some ad240) aA.length nA, .int .i64 oA] 32 (0, 0)) q1_19 hb); have iA := Aside0.mk (below_step q1_8 hb); have pA := Aside0.mk (hbox); have ZA := Aside0.mk ((by rw [hg]; exact (below_size q1_8) : w.heap.size ≤ dB)); have nB := Aside0.mk ((by rw [hg]; exact (below_size q1_8) : w.heap.size ≤ dB)); have rB := Aside0.mk ((by rw [hg]; exact Nat.ne_of_lt (blk_lt (g := iB) (o := .cells #[.int .i64 jA, .int .i64 cA, .slice lA eA.length mA, .slice (some ad240) aA.length nA, .int .i64 oA] 32 (0, 0)) q1_19) : iB ≠ dB)); have yC := Aside0.mk ((by rw [hg]; exact Nat.ne_of_gt (blk_lt (g := iB) (o := .cells #[.int .i64 jA, .int .i64 cA, .slice lA eA.length mA, .slice (some ad240) aA.length nA, .int .i64 oA] 32 (0, 0)) q1_19) : dB ≠ iB)); clear yA cB HB; have yA := dA; have cB := fA; have HB := iA; have bB := pA; have hK := ZA; have wI := nB; have lC := rB; have XC := yC; clear dA fA iA pA ZA nB rB yC; clear hb hbox hg; have DI := XC.out; have EI := lC.out; have mC : mB.cell? ⟨dB, 0, none⟩ = some (.slice none 0 0) := (blk_cell bB.out 0).trans rfl; have rF : mB.cell? ⟨dB, 1, none⟩ = some (.int .i64 0) := (blk_cell bB.out 1).trans rfl; have sF : mB.cell? ⟨dB, 2, none⟩ = some (.slice none 0 0) := (blk_cell bB.out 2).trans rfl; have tF : mB.cell? ⟨dB, 3, none⟩ = some (.slice none 0 0) := (blk_cell bB.out 3).trans rfl; have nC := blk_frozen bB.out 0; have uF := blk_frozen bB.out 1; have vF := blk_frozen bB.out 2; have wF := blk_frozen bB.out 3) | ((with_reducible refine gate_builtin (b := .append) (xs := #[.tmp 21, .tmp 23]) rfl ?_); at_builtin; refine Kd.R_append (Kd.int .i64) (w0 := w) w.heap.size rfl (.tmp 21) (.tmp 23) 22 3 (.int .i64 0) 8 rfl Tryz.underlying22 info3 rfl q1_53 (by omega) u3 uA gA [.int .i64 gA] (fun _ => True) (fun _ => False) rfl (by first | (go_simp; done) | (go_simp; rfl)) ?aP (fun _ hk => hk.elim) ?aF ?aO ?aB ?aS ?aL ?_; (case aP => exact rfl); (case aB => exact q1_27); (case aF => exact (fun _ _ => trivial)); (case aO => exact (by (with_reducible repeat (first | apply Kd.R_alloc | apply Kd.R_drewN | apply Kd.R_drew)); exact Kd.R_mono (Kd.R_far (p := ⟨dB, 3, none⟩) (Kd.R_far (p := ⟨dB, 2, none⟩) (Kd.R_far (p := ⟨dB, 1, none⟩) (Kd.R_far (p := ⟨dB, 0, none⟩) (Kd.R_types yA.out bB.out q1_53) (fun _ hk => hk.2) (.slice VC ((rd_T52 aA gA).f0).length WC)) (fun _ hk => hk.2) (.int .i64 ((rd_T52 aA gA).f1))) (fun _ hk => hk.2) (.slice KD ((rd_T52 aA gA).f2).length LD)) (fun _ hk => hk.2) (.slice TE ((rd_T52 aA gA).f3).length UE)) (fun _ hk => trivial))); (case aS => exact (below_size q1_27)); (case aL => have := LMc10.out; omega); intro yO EN ho hb hg hat; rw [← Ny242.out] at ho; have dA := Aside0.mk (blk_grown (g := iB) (o := .cells #[.int .i64 jA, .int .i64 cA, .slice lA eA.length mA, .slice (some ad240) aA.length nA, .int .i64 oA] 32 (0, 0)) q1_59 hg (Kd.R_ne yA.out cB.out q1_53)); have fA := Aside0.mk (blk_grown (g := dB) (o := .cells #[.slice VC ((rd_T52 aA gA).f0).length WC, .int .i64 ((rd_T52 aA gA).f1), .slice KD ((rd_T52 aA gA).f2).length LD, .slice TE ((rd_T52 aA gA).f3).length UE] 52 (0, 0)) (by (with_reducible repeat (first | refine blk_drewN ?_ _ | refine blk_drew ?_ | refine blk_alloc ?_ _)); refine blk_put (cs := #[.slice VC ((rd_T52 aA gA).f0).length WC, .int .i64 ((rd_T52 aA gA).f1), .slice KD ((rd_T52 aA gA).f2).length LD, .slice none 0 0]) ?_ 3 _ rfl; (with_reducible repeat (first | refine blk_drewN ?_ _ | refine blk_drew ?_ | refine blk_alloc ?_ _)); refine blk_put (cs := #[.slice VC ((rd_T52 aA gA).f0).length WC, .int .i64 ((rd_T52 aA gA).f1), .slice none 0 0, .slice none 0 0]) ?_ 2 _ rfl; (with_reducible repeat (first | refine blk_drewN ?_ _ | refine blk_drew ?_ | refine blk_alloc ?_ _)); refine blk_put (cs := #[.slice VC ((rd_T52 aA gA).f0).length WC, .int .i64 0, .slice none 0 0, .slice none 0 0]) ?_ 1 _ rfl; (with_reducible repeat (first | refine blk_drewN ?_ _ | refine blk_drew ?_ | refine blk_alloc ?_ _)); refine blk_put (cs := #[.slice none 0 0, .int .i64 0, .slice none 0 0, .slice none 0 0]) ?_ 0 _ rfl; (with_reducible repeat (first | refine blk_drewN ?_ _ | refine blk_drew ?_ | refine blk_alloc ?_ _)); exact bB.out) hg (Kd.R_ne yA.out bB.out q1_53)); have iA := Aside0.mk (hb); have pA := Aside0.mk (ho); clear cB bB HB yA; have cB := dA; have bB := fA; have HB := iA; have iK := pA; clear dA fA iA pA; clear ho hb hg hat))
        go_roundg k1
        case measure => have := HK1.out; omega
        case rel => exact ⟨(y242), (wrap64 (gA + 1)), q1_17, H', ⟨by have := HK1.out; omega⟩, ⟨by (with_reducible repeat (first | apply Kd.R_alloc | apply Kd.R_drewN | apply Kd.R_drew)); exact iK.out⟩, ⟨q1_19⟩, ⟨q1_27⟩⟩
       ·rw [if_neg c10] at H
        exact absurd H (by simp)
      ·rw [if_neg c9] at H
       have SE : decide (((rd_T52 aA gA).f1) < (((rd_T52 aA gA).f0).length : Int)) = false := decide_eq_false c9
       clear c9
       have H' := Aside0.mk H
       clear H
       have p240 : 0 ≤ (gA : Int) := of_decide_eq_true q1_3
       have q240 : gA < (aA.length : Int) := of_decide_eq_true q1_3
       obtain ⟨ad240, VC, WC, KD, LD, TE, UE, PI, QB, RB, SB, TB, MD, ND, OD, PD, QD, RD⟩ := at_T52 AB.out gA p240 q240
       cases PI
       replace QB := (HB.out.cell (World.block_lt_of_cell? w _ QB)).trans QB
       replace RB := (HB.out.cell (World.block_lt_of_cell? w _ RB)).trans RB
       replace SB := (HB.out.cell (World.block_lt_of_cell? w _ SB)).trans SB
       replace TB := (HB.out.cell (World.block_lt_of_cell? w _ TB)).trans TB
       clear ND MD PD OD RD QD
       replace p240 := eq_true p240
       replace q240 := eq_true q240
       go_wp2_with (first | ((with_reducible refine gate_dst (N := 5) rfl ?_); refine box_event ?hg (N := 5) ?hd (cs := #[.slice none 0 0, .int .i64 0, .slice none 0 0, .slice none 0 0]) (t := 52) ?hr ?_; (case hd => rfl); (case hg => rfl); (case hr => first | (go_simp; done) | (go_simp; rfl)); intro dB hg CD hbox hb; have dA := Aside0.mk (Kd.R_below q1_16 hb); have fA := Aside0.mk (blk_below (g := iB) (o := .cells #[.int .i64 jA, .int .i64 cA, .slice lA eA.length mA, .slice (some ad240) aA.length nA, .int .i64 oA] 32 (0, 0)) q1_19 hb); have iA := Aside0.mk (below_step q1_8 hb); have pA := Aside0.mk (hbox); have ZA := Aside0.mk ((by rw [hg]; exact (below_size q1_8) : w.heap.size ≤ dB)); have nB := Aside0.mk ((by rw [hg]; exact (below_size q1_8) : w.heap.size ≤ dB)); have rB := Aside0.mk ((by rw [hg]; exact Nat.ne_of_lt (blk_lt (g := iB) (o := .cells #[.int .i64 jA, .int .i64 cA, .slice lA eA.length mA, .slice (some ad240) aA.length nA, .int .i64 oA] 32 (0, 0)) q1_19) : iB ≠ dB)); have yC := Aside0.mk ((by rw [hg]; exact Nat.ne_of_gt (blk_lt (g := iB) (o := .cells #[.int .i64 jA, .int .i64 cA, .slice lA eA.length mA, .slice (some ad240) aA.length nA, .int .i64 oA] 32 (0, 0)) q1_19) : dB ≠ iB)); clear yA cB HB; have yA := dA; have cB := fA; have HB := iA; have bB := pA; have hK := ZA; have wI := nB; have lC := rB; have XC := yC; clear dA fA iA pA ZA nB rB yC; clear hb hbox hg; have jK := XC.out; have kK := lC.out; have kH : CD.cell? ⟨dB, 0, none⟩ = some (.slice none 0 0) := (blk_cell bB.out 0).trans rfl; have lH : CD.cell? ⟨dB, 1, none⟩ = some (.int .i64 0) := (blk_cell bB.out 1).trans rfl; have mH : CD.cell? ⟨dB, 2, none⟩ = some (.slice none 0 0) := (blk_cell bB.out 2).trans rfl; have nH : CD.cell? ⟨dB, 3, none⟩ = some (.slice none 0 0) := (blk_cell bB.out 3).trans rfl; have oH := blk_frozen bB.out 0; have pH := blk_frozen bB.out 1; have qH := blk_frozen bB.out 2; have rH := blk_frozen bB.out 3))
       go_roundg k1
       case measure => have := HK1.out; omega
       case rel => exact ⟨(uA), (wrap64 (gA + 1)), q1_17, H', ⟨by have := HK1.out; omega⟩, ⟨by (with_reducible repeat (first | apply Kd.R_alloc | apply Kd.R_drewN | apply Kd.R_drew)); exact Kd.R_mono (hl1_sets (Kd.R_types yA.out bB.out q1_53)) (fun _ hk => trivial)⟩, ⟨q1_59⟩, ⟨q1_27⟩⟩
     ·rw [if_neg c8] at H
      exact absurd H (by simp)
    ·rw [if_neg c7] at H
     exact absurd H (by simp)
   ·rw [if_neg c6] at H
    have HC : decide (gA < (aA.length : Int)) = false := decide_eq_false c6
    clear c6
    obtain rfl := Option.some.inj H
    go_wp2
    go_ret
    exact ⟨_, q1_2, q1_16, q1_8⟩
def impl_Able.l0 : Nat → List Int → List (S52) → Int → Int → Option (List Int)
 | 0, _, _, _, _ => none
 | k + 1, x3, x8, x9, x10 => if x10 < x9 then (if 0 ≤ x10 then (if x10 < (x8.length : Int) then (if ((rd_T52 x8 x10).f1) < (((rd_T52 x8 x10).f0).length : Int) then (if x3.length < 17592186044416 then (impl_Able.l0 k (x3 ++ [x10]) x8 x9 (wrap64 (x10 + 1))) else (none)) else (impl_Able.l0 k x3 x8 x9 (wrap64 (x10 + 1)))) else (none)) else (none)) else (some x3)
def impl_Able.f (k : Nat) (jA : Int) (cA : Int) (eA : List Int) (aA : List (S52)) (oA : Int) : Option (List Int) := impl_Able.l0 k (([] : List Int)) aA (aA.length : Int) 0
theorem impl_Able.mono_l : ∀ k, (∀ y0 y1 y2 y3, LeO (impl_Able.l0 k y0 y1 y2 y3) (impl_Able.l0 (k + 1) y0 y1 y2 y3))
 | 0 => fun _ _ _ _ r h => by simp [impl_Able.l0] at h
 | k + 1 => by
  have ih0 := impl_Able.mono_l k
  ·intro y0 y1 y2 y3
   unfold impl_Able.l0
   repeat' first
   | (with_reducible exact ih0 _ _ _ _)
   | (with_reducible exact LeO.refl _)
   | (with_reducible exact LeO.none _)
   | (with_reducible refine LeO.ite ?_ ?_)
   | (with_reducible refine LeO.bind ?_ (fun _ => ?_))
   | exact ih0 _ _ _ _
   | exact LeO.none _
   | refine LeO.ite ?_ ?_
   | refine LeO.bind ?_ (fun _ => ?_)
theorem impl_Able.mono : ∀ a0 a1 a2 a3 a4 k, LeO (impl_Able.f k a0 a1 a2 a3 a4) (impl_Able.f (k + 1) a0 a1 a2 a3 a4) := by
 intro a0 a1 a2 a3 a4 k
 have ih0 := impl_Able.mono_l k
 unfold impl_Able.f
 repeat' first
   | (with_reducible exact ih0 _ _ _ _)
   | (with_reducible exact LeO.refl _)
   | (with_reducible exact LeO.none _)
   | (with_reducible refine LeO.ite ?_ ?_)
   | (with_reducible refine LeO.bind ?_ (fun _ => ?_))
   | exact ih0 _ _ _ _
   | exact LeO.none _
   | refine LeO.ite ?_ ?_
   | refine LeO.bind ?_ (fun _ => ?_)
set_option maxHeartbeats 8000000 in
set_option maxRecDepth 100000 in
theorem impl_Able.calls (k : Nat) (jA : Int) (cA : Int) (lA : Option Addr) (mA : Nat) (eA : List Int) (qA : Option Addr) (nA : Nat) (aA : List (S52)) (oA : Int) (r : List Int) (w : World) (xB : Kd.C (Kd.int .i64) w lA eA.length eA) (yB : eA.length ≤ mA) (sB : Kd.C k52 w qA aA.length aA) (zB : aA.length ≤ nA) (h : impl_Able.f k jA cA eA aA oA = some r) :
  Calls Tryz.prog 50 #[.agg #[.int .i64 jA, .int .i64 cA, .slice lA eA.length mA, .slice qA aA.length nA, .int .i64 oA]] w fun e w' => ∃ v0_ : Value, e = .returned (v0_) ∧ Kd.R (Kd.int .i64) 3 w' w.heap.size (fun _ => True) v0_ r ∧ Below w.heap.size w w' := by
 have hu32 := Tryz.underlying32
 have hu52 := Tryz.underlying52
 clear xB yB
 have AB := Aside0.mk sB
 clear sB zB
 have HB := Aside0.mk (Below.refl w.heap.size w)
 have H : (impl_Able.l0 k (([] : List Int)) aA (aA.length : Int) 0) = some r := h
 clear h
 obtain ⟨y1011, hy1011⟩ : ∃ y_ : List Int, y_ = (([] : List Int)) := ⟨_, rfl⟩
 replace H : (impl_Able.l0 k y1011 aA (aA.length : Int) 0) = some r := by first | (rw [hy1011]; with_reducible exact H) | (have H2_ := (Option.bind_some _ _).symm.trans H; rw [hy1011]; with_reducible exact H2_) | (have H2_ := (Option.bind_some _ _).symm.trans H; with_reducible exact H2_) | with_reducible exact H | (rw [hy1011]; exact H) | exact H
 have Ny1011 := Aside0.mk hy1011
 clear hy1011
 have H' := Aside0.mk H
 clear H
 go_enter Tryz.func50, Tryz.ntmps50
 go_wp2_with (first | ((with_reducible refine gate_dst (N := 1) rfl ?_); refine box_event ?hg (N := 1) ?hd (cs := #[.int .i64 jA, .int .i64 cA, .slice lA eA.length mA, .slice qA aA.length nA, .int .i64 oA]) (t := 32) ?hr ?_; (case hd => rfl); (case hg => rfl); (case hr => first | (go_simp; done) | (go_simp; rfl)); intro NA hg w2 hbox hb; have dA := Aside0.mk (below_step q1_0 hb); have fA := Aside0.mk (hbox); have iA := Aside0.mk ((q1_6 : w.heap.size ≤ NA)); have pA := Aside0.mk ((q1_6 : w.heap.size ≤ NA)); clear HB; have HB := dA; have FA := fA; have gM := iA; have NG := pA; clear dA fA iA pA; clear hb hbox hg) | ((with_reducible refine gate_dst (N := 6) rfl ?_); refine Kd.R_lit (Kd.int .i64) _ 3 ?hg (N := 6) ?hd (xs := ([] : List Int)) (inner := []) (ok := fun _ => True) (okp := fun _ => True) ?hr ?hp (fun _ hk => hk) trivial (Below.refl _ _) (Nat.le_refl _) (by simp) ?_; (case hd => rfl); (case hg => rfl); (case hr => first | (go_simp; done) | (go_simp; rfl)); (case hp => exact (Reps.none _ _)); intro FN w3 ho4 hb hg_ hnew_; clear hg_ hnew_; (first | rw [← Ny1011.out] at ho4 | (simp only [Int.reduceToNat] at ho4; rw [← Ny1011.out] at ho4)); have dA := Aside0.mk (Kd.R_lower ho4 (below_size q1_7)); have fA := Aside0.mk (blk_below (g := NA) (o := .cells #[.int .i64 jA, .int .i64 cA, .slice lA eA.length mA, .slice qA aA.length nA, .int .i64 oA] 32 (0, 0)) q1_18 hb); have iA := Aside0.mk (below_step q1_7 hb); clear FA HB; have QI := dA; have FA := fA; have HB := iA; clear dA fA iA; clear hb ho4; have IE : w3.cell? ⟨NA, 0, none⟩ = some (.int .i64 jA) := (blk_cell FA.out 0).trans rfl; have JE : w3.cell? ⟨NA, 1, none⟩ = some (.int .i64 cA) := (blk_cell FA.out 1).trans rfl; have KE : w3.cell? ⟨NA, 2, none⟩ = some (.slice lA eA.length mA) := (blk_cell FA.out 2).trans rfl; have LE : w3.cell? ⟨NA, 3, none⟩ = some (.slice qA aA.length nA) := (blk_cell FA.out 3).trans rfl; have ME : w3.cell? ⟨NA, 4, none⟩ = some (.int .i64 oA) := (blk_cell FA.out 4).trans rfl; have NE := blk_frozen FA.out 0; have OE := blk_frozen FA.out 1; have PE := blk_frozen FA.out 2; have QE := blk_frozen FA.out 3; have RE := blk_frozen FA.out 4))
 go_loopg [3, 10] k (fun kq v3 v10 w' => ∃ (uA : List Int) (gA : Int), v10 = .int .i64 gA ∧ Aside0 (impl_Able.l0 kq uA aA (aA.length : Int) gA = some r) ∧ Aside0 (kq ≤ k) ∧ Aside0 (Kd.R (Kd.int .i64) 3 w' w.heap.size (fun _ => True) v3 uA) ∧ Aside0 (w'.heap[NA]? = some (.cells #[.int .i64 jA, .int .i64 cA, (.slice lA eA.length mA), (.slice qA aA.length nA), .int .i64 oA] 32 (0, 0))) ∧ Aside0 (Below w.heap.size w w'))
 case atStart => exact ⟨(y1011), (0), q1_17, H', ⟨Nat.le_refl _⟩, ⟨by (with_reducible repeat (first | apply Kd.R_alloc | apply Kd.R_drewN | apply Kd.R_drew)); exact QI.out⟩, ⟨q1_18⟩, ⟨q1_7⟩⟩
 case round =>
  clear H'
  (try clear p2); (try clear c5); (try clear IE); (try clear JE); (try clear KE); (try clear LE); (try clear ME); (try clear NE); (try clear OE); (try clear PE); (try clear QE); (try clear RE)
  obtain ⟨uA, gA, rfl, HA, HK1, yA, FA, HB⟩ := hrel
  cases gk with
  | zero => exact absurd HA.out (by simp [impl_Able.l0])
  | succ k1 =>
   have H := HA.out
   clear HA
   simp only [impl_Able.l0] at H
   by_cases c6 : gA < (aA.length : Int)
   ·rw [if_pos c6] at H
    have HC : decide (gA < (aA.length : Int)) = true := decide_eq_true c6
    clear c6
    by_cases c7 : 0 ≤ gA
    ·rw [if_pos c7] at H
     have uE : decide (0 ≤ gA) = true := decide_eq_true c7
     clear c7
     by_cases c8 : gA < (aA.length : Int)
     ·rw [if_pos c8] at H
      have jH : decide (gA < (aA.length : Int)) = true := decide_eq_true c8
      clear c8
      by_cases c9 : ((rd_T52 aA gA).f1) < (((rd_T52 aA gA).f0).length : Int)
      ·rw [if_pos c9] at H
       have SE : decide (((rd_T52 aA gA).f1) < (((rd_T52 aA gA).f0).length : Int)) = true := decide_eq_true c9
       clear c9
       by_cases c10 : uA.length < 17592186044416
       ·rw [if_pos c10] at H
        have LMc10 := Aside0.mk c10
        clear c10
        obtain ⟨y1016, hy1016⟩ : ∃ y_ : List Int, y_ = (uA ++ [gA]) := ⟨_, rfl⟩
        replace H : (impl_Able.l0 k1 y1016 aA (aA.length : Int) (wrap64 (gA + 1))) = some r := by first | (rw [hy1016]; with_reducible exact H) | (have H2_ := (Option.bind_some _ _).symm.trans H; rw [hy1016]; with_reducible exact H2_) | (have H2_ := (Option.bind_some _ _).symm.trans H; with_reducible exact H2_) | with_reducible exact H | (rw [hy1016]; exact H) | exact H
        have Ny1016 := Aside0.mk hy1016
        clear hy1016
        have H' := Aside0.mk H
        clear H
        have p1014 : 0 ≤ (gA : Int) := of_decide_eq_true q1_3
        have q1014 : gA < (aA.length : Int) := of_decide_eq_true q1_3
        obtain ⟨ad1014, oC, pC, gD, hD, SD, TD, WG, BB, CB, DB, EB, qD, rD, sD, tD, uD, vD⟩ := at_T52 AB.out gA p1014 q1014
        cases WG
        replace BB := (HB.out.cell (World.block_lt_of_cell? w _ BB)).trans BB
        replace CB := (HB.out.cell (World.block_lt_of_cell? w _ CB)).trans CB
        replace DB := (HB.out.cell (World.block_lt_of_cell? w _ DB)).trans DB
        replace EB := (HB.out.cell (World.block_lt_of_cell? w _ EB)).trans EB
        clear rD qD tD sD vD uD
        replace p1014 := eq_true p1014
        replace q1014 := eq_true q1014
        go_wp2_with (first | ((with_reducible refine gate_dst (N := 5) rfl ?_); refine box_event ?hg (N := 5) ?hd (cs := #[.slice none 0 0, .int .i64 0, .slice none 0 0, .slice none 0 0]) (t := 52) ?hr ?_; (case hd => rfl); (case hg => rfl); (case hr => first | (go_simp; done) | (go_simp; rfl)); intro GA hg mB hbox hb; have dA := Aside0.mk (Kd.R_below q1_16 hb); have fA := Aside0.mk (blk_below (g := NA) (o := .cells #[.int .i64 jA, .int .i64 cA, .slice lA eA.length mA, .slice (some ad1014) aA.length nA, .int .i64 oA] 32 (0, 0)) q1_18 hb); have iA := Aside0.mk (below_step q1_7 hb); have pA := Aside0.mk (hbox); have ZA := Aside0.mk ((by rw [hg]; exact (below_size q1_7) : w.heap.size ≤ GA)); have nB := Aside0.mk ((by rw [hg]; exact (below_size q1_7) : w.heap.size ≤ GA)); have rB := Aside0.mk ((by rw [hg]; exact Nat.ne_of_lt (blk_lt (g := NA) (o := .cells #[.int .i64 jA, .int .i64 cA, .slice lA eA.length mA, .slice (some ad1014) aA.length nA, .int .i64 oA] 32 (0, 0)) q1_18) : NA ≠ GA)); have yC := Aside0.mk ((by rw [hg]; exact Nat.ne_of_gt (blk_lt (g := NA) (o := .cells #[.int .i64 jA, .int .i64 cA, .slice lA eA.length mA, .slice (some ad1014) aA.length nA, .int .i64 oA] 32 (0, 0)) q1_18) : GA ≠ NA)); clear yA FA HB; have yA := dA; have FA := fA; have HB := iA; have EA := pA; have RI := ZA; have RG := nB; have GB := rB; have dC := yC; clear dA fA iA pA ZA nB rB yC; clear hb hbox hg; have DI := dC.out; have EI := GB.out; have mC : mB.cell? ⟨GA, 0, none⟩ = some (.slice none 0 0) := (blk_cell EA.out 0).trans rfl; have rF : mB.cell? ⟨GA, 1, none⟩ = some (.int .i64 0) := (blk_cell EA.out 1).trans rfl; have sF : mB.cell? ⟨GA, 2, none⟩ = some (.slice none 0 0) := (blk_cell EA.out 2).trans rfl; have tF : mB.cell? ⟨GA, 3, none⟩ = some (.slice none 0 0) := (blk_cell EA.out 3).trans rfl; have nC := blk_frozen EA.out 0; have uF := blk_frozen EA.out 1; have vF := blk_frozen EA.out 2; have wF := blk_frozen EA.out 3) | ((with_reducible refine gate_builtin (b := .append) (xs := #[.tmp 21, .tmp 23]) rfl ?_); at_builtin; refine Kd.R_append (Kd.int .i64) (w0 := w) w.heap.size rfl (.tmp 21) (.tmp 23) 22 3 (.int .i64 0) 8 rfl Tryz.underlying22 info3 rfl q1_53 (by omega) u3 uA gA [.int .i64 gA] (fun _ => True) (fun _ => False) rfl (by first | (go_simp; done) | (go_simp; rfl)) ?aP (fun _ hk => hk.elim) ?aF ?aO ?aB ?aS ?aL ?_; (case aP => exact rfl); (case aB => exact q1_26); (case aF => exact (fun _ _ => trivial)); (case aO => exact (by (with_reducible repeat (first | apply Kd.R_alloc | apply Kd.R_drewN | apply Kd.R_drew)); exact Kd.R_mono (Kd.R_far (p := ⟨GA, 3, none⟩) (Kd.R_far (p := ⟨GA, 2, none⟩) (Kd.R_far (p := ⟨GA, 1, none⟩) (Kd.R_far (p := ⟨GA, 0, none⟩) (Kd.R_types yA.out EA.out q1_53) (fun _ hk => hk.2) (.slice oC ((rd_T52 aA gA).f0).length pC)) (fun _ hk => hk.2) (.int .i64 ((rd_T52 aA gA).f1))) (fun _ hk => hk.2) (.slice gD ((rd_T52 aA gA).f2).length hD)) (fun _ hk => hk.2) (.slice SD ((rd_T52 aA gA).f3).length TD)) (fun _ hk => trivial))); (case aS => exact (below_size q1_26)); (case aL => have := LMc10.out; omega); intro GN EN ho hb hg hat; rw [← Ny1016.out] at ho; have dA := Aside0.mk (blk_grown (g := NA) (o := .cells #[.int .i64 jA, .int .i64 cA, .slice lA eA.length mA, .slice (some ad1014) aA.length nA, .int .i64 oA] 32 (0, 0)) q1_58 hg (Kd.R_ne yA.out FA.out q1_53)); have fA := Aside0.mk (blk_grown (g := GA) (o := .cells #[.slice oC ((rd_T52 aA gA).f0).length pC, .int .i64 ((rd_T52 aA gA).f1), .slice gD ((rd_T52 aA gA).f2).length hD, .slice SD ((rd_T52 aA gA).f3).length TD] 52 (0, 0)) (by (with_reducible repeat (first | refine blk_drewN ?_ _ | refine blk_drew ?_ | refine blk_alloc ?_ _)); refine blk_put (cs := #[.slice oC ((rd_T52 aA gA).f0).length pC, .int .i64 ((rd_T52 aA gA).f1), .slice gD ((rd_T52 aA gA).f2).length hD, .slice none 0 0]) ?_ 3 _ rfl; (with_reducible repeat (first | refine blk_drewN ?_ _ | refine blk_drew ?_ | refine blk_alloc ?_ _)); refine blk_put (cs := #[.slice oC ((rd_T52 aA gA).f0).length pC, .int .i64 ((rd_T52 aA gA).f1), .slice none 0 0, .slice none 0 0]) ?_ 2 _ rfl; (with_reducible repeat (first | refine blk_drewN ?_ _ | refine blk_drew ?_ | refine blk_alloc ?_ _)); refine blk_put (cs := #[.slice oC ((rd_T52 aA gA).f0).length pC, .int .i64 0, .slice none 0 0, .slice none 0 0]) ?_ 1 _ rfl; (with_reducible repeat (first | refine blk_drewN ?_ _ | refine blk_drew ?_ | refine blk_alloc ?_ _)); refine blk_put (cs := #[.slice none 0 0, .int .i64 0, .slice none 0 0, .slice none 0 0]) ?_ 0 _ rfl; (with_reducible repeat (first | refine blk_drewN ?_ _ | refine blk_drew ?_ | refine blk_alloc ?_ _)); exact EA.out) hg (Kd.R_ne yA.out EA.out q1_53)); have iA := Aside0.mk (hb); have pA := Aside0.mk (ho); clear FA EA HB yA; have FA := dA; have EA := fA; have HB := iA; have SI := pA; clear dA fA iA pA; clear ho hb hg hat))
        go_roundg k1
        case measure => have := HK1.out; omega
        case rel => exact ⟨(y1016), (wrap64 (gA + 1)), q1_17, H', ⟨by have := HK1.out; omega⟩, ⟨by (with_reducible repeat (first | apply Kd.R_alloc | apply Kd.R_drewN | apply Kd.R_drew)); exact SI.out⟩, ⟨q1_18⟩, ⟨q1_26⟩⟩
       ·rw [if_neg c10] at H
        exact absurd H (by simp)
      ·rw [if_neg c9] at H
       have SE : decide (((rd_T52 aA gA).f1) < (((rd_T52 aA gA).f0).length : Int)) = false := decide_eq_false c9
       clear c9
       have H' := Aside0.mk H
       clear H
       have p1014 : 0 ≤ (gA : Int) := of_decide_eq_true q1_3
       have q1014 : gA < (aA.length : Int) := of_decide_eq_true q1_3
       obtain ⟨ad1014, oC, pC, gD, hD, SD, TD, WG, BB, CB, DB, EB, qD, rD, sD, tD, uD, vD⟩ := at_T52 AB.out gA p1014 q1014
       cases WG
       replace BB := (HB.out.cell (World.block_lt_of_cell? w _ BB)).trans BB
       replace CB := (HB.out.cell (World.block_lt_of_cell? w _ CB)).trans CB
       replace DB := (HB.out.cell (World.block_lt_of_cell? w _ DB)).trans DB
       replace EB := (HB.out.cell (World.block_lt_of_cell? w _ EB)).trans EB
       clear rD qD tD sD vD uD
       replace p1014 := eq_true p1014
       replace q1014 := eq_true q1014
       go_wp2_with (first | ((with_reducible refine gate_dst (N := 5) rfl ?_); refine box_event ?hg (N := 5) ?hd (cs := #[.slice none 0 0, .int .i64 0, .slice none 0 0, .slice none 0 0]) (t := 52) ?hr ?_; (case hd => rfl); (case hg => rfl); (case hr => first | (go_simp; done) | (go_simp; rfl)); intro GA hg CD hbox hb; have dA := Aside0.mk (Kd.R_below q1_16 hb); have fA := Aside0.mk (blk_below (g := NA) (o := .cells #[.int .i64 jA, .int .i64 cA, .slice lA eA.length mA, .slice (some ad1014) aA.length nA, .int .i64 oA] 32 (0, 0)) q1_18 hb); have iA := Aside0.mk (below_step q1_7 hb); have pA := Aside0.mk (hbox); have ZA := Aside0.mk ((by rw [hg]; exact (below_size q1_7) : w.heap.size ≤ GA)); have nB := Aside0.mk ((by rw [hg]; exact (below_size q1_7) : w.heap.size ≤ GA)); have rB := Aside0.mk ((by rw [hg]; exact Nat.ne_of_lt (blk_lt (g := NA) (o := .cells #[.int .i64 jA, .int .i64 cA, .slice lA eA.length mA, .slice (some ad1014) aA.length nA, .int .i64 oA] 32 (0, 0)) q1_18) : NA ≠ GA)); have yC := Aside0.mk ((by rw [hg]; exact Nat.ne_of_gt (blk_lt (g := NA) (o := .cells #[.int .i64 jA, .int .i64 cA, .slice lA eA.length mA, .slice (some ad1014) aA.length nA, .int .i64 oA] 32 (0, 0)) q1_18) : GA ≠ NA)); clear yA FA HB; have yA := dA; have FA := fA; have HB := iA; have EA := pA; have RI := ZA; have RG := nB; have GB := rB; have dC := yC; clear dA fA iA pA ZA nB rB yC; clear hb hbox hg; have jK := dC.out; have kK := GB.out; have kH : CD.cell? ⟨GA, 0, none⟩ = some (.slice none 0 0) := (blk_cell EA.out 0).trans rfl; have lH : CD.cell? ⟨GA, 1, none⟩ = some (.int .i64 0) := (blk_cell EA.out 1).trans rfl; have mH : CD.cell? ⟨GA, 2, none⟩ = some (.slice none 0 0) := (blk_cell EA.out 2).trans rfl; have nH : CD.cell? ⟨GA, 3, none⟩ = some (.slice none 0 0) := (blk_cell EA.out 3).trans rfl; have oH := blk_frozen EA.out 0; have pH := blk_frozen EA.out 1; have qH := blk_frozen EA.out 2; have rH := blk_frozen EA.out 3))
       go_roundg k1
       case measure => have := HK1.out; omega
       case rel => exact ⟨(uA), (wrap64 (gA + 1)), q1_17, H', ⟨by have := HK1.out; omega⟩, ⟨by (with_reducible repeat (first | apply Kd.R_alloc | apply Kd.R_drewN | apply Kd.R_drew)); exact Kd.R_mono (hl1_sets (Kd.R_types yA.out EA.out q1_53)) (fun _ hk => trivial)⟩, ⟨q1_58⟩, ⟨q1_26⟩⟩
     ·rw [if_neg c8] at H
      exact absurd H (by simp)
    ·rw [if_neg c7] at H
     exact absurd H (by simp)
   ·rw [if_neg c6] at H
    have HC : decide (gA < (aA.length : Int)) = false := decide_eq_false c6
    clear c6
    obtain rfl := Option.some.inj H
    go_wp2
    go_ret
    exact ⟨_, q1_2, q1_16, q1_7⟩
def impl_within.f (a0 : Int) (a1 : Int) (a2 : Int) : Option (Bool) := if a0 ≥ a1 then (some (decide (a0 ≤ a2))) else (some false)
set_option maxHeartbeats 8000000 in
set_option maxRecDepth 100000 in
theorem impl_within.calls (a0 : Int) (a1 : Int) (a2 : Int) (r : Bool) (w : World) (h : impl_within.f a0 a1 a2 = some r) :
  Calls Tryz.prog 82 #[.int .i64 a0, .int .i64 a1, .int .i64 a2] w fun e w' => e = .returned (.bool r) ∧ Drawn0 w w' := by
 have H : (if a0 ≥ a1 then (some (decide (a0 ≤ a2))) else (some false)) = some r := h
 clear h
 by_cases c4 : a0 ≥ a1
 ·rw [if_pos c4] at H
  have wD : decide (a1 ≤ a0) = true := decide_eq_true c4
  clear c4
  obtain rfl := Option.some.inj H
  go_enter Tryz.func82, Tryz.ntmps82
  go_wp2
  go_ret
  exact ⟨q1_17, q1_54⟩
 ·rw [if_neg c4] at H
  have wD : decide (a1 ≤ a0) = false := decide_eq_false c4
  clear c4
  obtain rfl := Option.some.inj H
  go_enter Tryz.func82, Tryz.ntmps82
  go_wp2
  go_ret
  exact ⟨q1_17, q1_54⟩
def impl_StNew.l0 : Nat → Int → Int → List Int → Option (List Int × Bool)
 | 0, _, _, _ => none
 | k + 1, x17, x18, UD => if x18 < x17 then (if 0 ≤ x18 then (if x18 < (UD.length : Int) then (impl_StNew.l0 k x17 (wrap64 (x18 + 1)) (UD.set (x18 : Int).toNat (wrap64 (x18 + 1)))) else (none)) else (none)) else (some (UD, true))
def impl_StNew.f (k : Nat) (a0 : Int) (a1 : Bool) : Option (List Int × Bool) := (impl_within.f a0 1 16).bind fun XG => (if XG = true then (if 0 ≤ (wrap64 (1 + a0)) then (if (wrap64 (1 + a0) : Int).toNat ≤ 35184372088832 then ((some (List.replicate (wrap64 (1 + a0) : Int).toNat 0 : List Int)).bind fun y887 => (if a1 = true then (impl_StNew.l0 k a0 0 y887) else (some (y887, true)))) else (none)) else (none)) else (some (([] : List Int), false)))
theorem impl_StNew.mono_l : ∀ k, (∀ y0 y1 y2, LeO (impl_StNew.l0 k y0 y1 y2) (impl_StNew.l0 (k + 1) y0 y1 y2))
 | 0 => fun _ _ _ r h => by simp [impl_StNew.l0] at h
 | k + 1 => by
  have ih0 := impl_StNew.mono_l k
  ·intro y0 y1 y2
   unfold impl_StNew.l0
   repeat' first
   | (with_reducible exact ih0 _ _ _)
   | (with_reducible exact LeO.refl _)
   | (with_reducible exact LeO.none _)
   | (with_reducible refine LeO.ite ?_ ?_)
   | (with_reducible refine LeO.bind ?_ (fun _ => ?_))
   | exact ih0 _ _ _
   | exact LeO.none _
   | refine LeO.ite ?_ ?_
   | refine LeO.bind ?_ (fun _ => ?_)
theorem impl_StNew.mono : ∀ a0 a1 k, LeO (impl_StNew.f k a0 a1) (impl_StNew.f (k + 1) a0 a1) := by
 intro a0 a1 k
 have ih0 := impl_StNew.mono_l k
 unfold impl_StNew.f
 repeat' first
   | (with_reducible exact ih0 _ _ _)
   | (with_reducible exact LeO.refl _)
   | (with_reducible exact LeO.none _)
   | (with_reducible refine LeO.ite ?_ ?_)
   | (with_reducible refine LeO.bind ?_ (fun _ => ?_))
   | exact ih0 _ _ _
   | exact LeO.none _
   | refine LeO.ite ?_ ?_
   | refine LeO.bind ?_ (fun _ => ?_)
set_option maxHeartbeats 8000000 in
set_option maxRecDepth 100000 in
theorem impl_StNew.calls (k : Nat) (a0 : Int) (a1 : Bool) (r1 : List Int) (r2 : Bool) (w : World) (h : impl_StNew.f k a0 a1 = some (r1, r2)) :
  Calls Tryz.prog 79 #[.int .i64 a0, .bool a1] w fun e w' => ∃ v0_ : Value, e = .returned (.tuple #[.agg #[v0_], .bool r2]) ∧ Kd.R (Kd.int .i64) 3 w' w.heap.size (fun _ => True) v0_ r1 ∧ Below w.heap.size w w' := by
 have hu29 := Tryz.underlying29
 have HB := Aside0.mk (Below.refl w.heap.size w)
 have H : ((impl_within.f a0 1 16).bind fun XG => (if XG = true then (if 0 ≤ (wrap64 (1 + a0)) then (if (wrap64 (1 + a0) : Int).toNat ≤ 35184372088832 then ((some (List.replicate (wrap64 (1 + a0) : Int).toNat 0 : List Int)).bind fun y887 => (if a1 = true then (impl_StNew.l0 k a0 0 y887) else (some (y887, true)))) else (none)) else (none)) else (some (([] : List Int), false)))) = some (r1, r2) := h
 clear h
 replace H := Option.bind_eq_some_iff.mp H
 obtain ⟨XG, A30, H⟩ := H
 (try dsimp only at H)
 have A3 := Aside0.mk A30
 clear A30
 by_cases c4 : XG = true
 ·subst c4
  rw [if_pos rfl] at H
  obtain ⟨ji5, hji5⟩ : ∃ j_ : Int, (wrap64 (1 + a0)) = j_ := ⟨_, rfl⟩
  replace H : (if 0 ≤ (ji5) then (if (ji5 : Int).toNat ≤ 35184372088832 then ((some (List.replicate (ji5 : Int).toNat 0 : List Int)).bind fun y887 => (if a1 = true then (impl_StNew.l0 k a0 0 y887) else (some (y887, true)))) else (none)) else (none)) = some (r1, r2) := by first | (rw [hji5] at H; exact H) | (simp only [hji5] at H ⊢; exact H)
  (try rw [hji5] at A3)
  have hji5w : (IntKind.i64.wrap (1 + a0)) = ji5 := (i64_w _).trans hji5
  by_cases c6 : 0 ≤ (ji5)
  ·rw [if_pos c6] at H
   have HC := eq_true c6
   have sH : decide (0 ≤ (ji5)) = true := decide_eq_true c6
   clear c6
   by_cases c7 : (ji5 : Int).toNat ≤ 35184372088832
   ·rw [if_pos c7] at H
    have uE := eq_true c7
    have hM : decide ((ji5 : Int).toNat ≤ 35184372088832) = true := decide_eq_true c7
    clear c7
    obtain ⟨y887, hy887⟩ : ∃ y_ : List Int, y_ = (List.replicate (ji5 : Int).toNat 0) := ⟨_, rfl⟩
    replace H : (if a1 = true then (impl_StNew.l0 k a0 0 y887) else (some (y887, true))) = some (r1, r2) := by first | (rw [hy887]; with_reducible exact H) | (have H2_ := (Option.bind_some _ _).symm.trans H; rw [hy887]; with_reducible exact H2_) | (have H2_ := (Option.bind_some _ _).symm.trans H; with_reducible exact H2_) | with_reducible exact H | (rw [hy887]; exact H) | exact H
    have Ny887 := Aside0.mk hy887
    clear hy887
    by_cases c8 : a1 = true
    ·subst c8
     rw [if_pos rfl] at H
     have H' := Aside0.mk H
     clear H
     go_enter Tryz.func79, Tryz.ntmps79
     go_wp2_with (first | ((with_reducible refine gate_dst (N := 4) rfl ?_); refine box_event ?hg (N := 4) ?hd (cs := #[.slice none 0 0]) (t := 29) ?hr ?_; (case hd => rfl); (case hg => rfl); (case hr => first | (go_simp; done) | (go_simp; rfl)); intro CA hg w9 hbox hb; have dA := Aside0.mk (below_step q1_0 hb); have fA := Aside0.mk (hbox); have iA := Aside0.mk ((q1_6 : w.heap.size ≤ CA)); have pA := Aside0.mk ((q1_6 : w.heap.size ≤ CA)); clear HB; have HB := dA; have DA := fA; have FI := iA; have nF := pA; clear dA fA iA pA; clear hb hbox hg) | ((with_reducible refine gate_callee (f := 82) rfl ?_); refine goesL_ (some 9) rfl rfl Tryz.func82 q1_31 rfl #[.int .i64 a0, .int .i64 1, .int .i64 16] rfl q1_1 ?_; (with_reducible refine (impl_within.calls a0 1 16 true _ A3.out).mono ?_); rintro e w' ⟨rfl, ⟨nd, rfl⟩⟩; refine ⟨_, rfl, ?_⟩; (try (rw [drewN_self w9]; generalize hq_ : World.drewN w9 _ = w9; have dA : Aside0 (w9.heap[CA]? = some (.cells #[.slice none 0 0] 29 (0, 0))) := ⟨by rw [← hq_]; exact q1_10⟩; have fA : Aside0 (Below w.heap.size w w9) := ⟨by rw [← hq_]; exact q1_4⟩; clear DA HB hq_; have DA := dA; have HB := fA; clear dA fA))) | ((with_reducible refine gate_dst (N := 14) rfl ?_); refine Kd.R_make (Kd.int .i64) _ 3 rfl (N := 14) rfl 22 _ _ rfl ji5 rfl rfl Tryz.underlying22 (.int .i64 0) 8 info3 rfl q1_53 (by omega) 0 (ok := fun _ => True) (okp := fun _ => True) rfl (fun _ hk => hk) trivial (of_decide_eq_true q1_3) (Nat.le_trans (Nat.mul_le_mul_right _ (of_decide_eq_true q1_3 : ji5.toNat ≤ 35184372088832)) (by omega)) (Below.refl _ _) (Nat.le_refl _) ?_; intro iM SJ ho11 hb hg_ hnew_; clear hg_ hnew_; (first | rw [← Ny887.out] at ho11 | (simp only [Int.reduceToNat] at ho11; rw [← Ny887.out] at ho11)); have dA := Aside0.mk (Kd.R_lower ho11 (below_size q1_4)); have fA := Aside0.mk (blk_below (g := CA) (o := .cells #[.slice none 0 0] 29 (0, 0)) q1_10 hb); have iA := Aside0.mk (below_step q1_4 hb); clear DA HB; have eC := dA; have DA := fA; have HB := iA; clear dA fA iA; clear hb ho11; obtain ⟨fC, gC, TI⟩ := Kd.R_slice eC.out; subst TI) | ((with_reducible refine gate_dst (N := 6) rfl ?_); refine box_event ?hg (N := 6) ?hd (cs := #[.slice none 0 0]) (t := 29) ?hr ?_; (case hd => rfl); (case hg => rfl); (case hr => first | (go_simp; done) | (go_simp; rfl)); intro tB hg CE hbox hb; have dA := Aside0.mk (Kd.R_below (by (with_reducible repeat (first | apply Kd.R_alloc | apply Kd.R_drewN | apply Kd.R_drew)); exact eC.out) hb); have fA := Aside0.mk (blk_below (g := CA) (o := .cells #[.slice none 0 0] 29 (0, 0)) q1_10 hb); have iA := Aside0.mk (below_step q1_4 hb); have pA := Aside0.mk (hbox); have ZA := Aside0.mk ((by rw [hg]; exact (below_size q1_4) : w.heap.size ≤ tB)); have nB := Aside0.mk ((by rw [hg]; exact (below_size q1_4) : w.heap.size ≤ tB)); have rB := Aside0.mk ((by rw [hg]; exact Nat.ne_of_lt (blk_lt (g := CA) (o := .cells #[.slice none 0 0] 29 (0, 0)) q1_10) : CA ≠ tB)); have yC := Aside0.mk ((by rw [hg]; exact Nat.ne_of_gt (blk_lt (g := CA) (o := .cells #[.slice none 0 0] 29 (0, 0)) q1_10) : tB ≠ CA)); clear eC DA HB; have eC := dA; have DA := fA; have HB := iA; have oB := pA; have lK := ZA; have xI := nB; have pB := rB; have MB := yC; clear dA fA iA pA ZA nB rB yC; clear hb hbox hg; have HN := MB.out; have IN := pB.out; have iD : CE.cell? ⟨tB, 0, none⟩ = some (.slice none 0 0) := (blk_cell oB.out 0).trans rfl; have jD := blk_frozen oB.out 0))
     go_loopg [18] k (fun kq v18 w' => ∃ (gB : Int) (IA : List Int) (IC : Value), v18 = .int .i64 gB ∧ Aside0 (impl_StNew.l0 kq a0 gB IA = some (r1, r2)) ∧ Aside0 (kq ≤ k) ∧ Aside0 (Kd.R (Kd.int .i64) 3 w' w.heap.size (fun _ => True) IC IA) ∧ Aside0 (w'.heap[CA]? = some (.cells #[(.slice none 0 0)] 29 (0, 0))) ∧ Aside0 (w'.heap[tB]? = some (.cells #[IC] 29 (0, 0))) ∧ Aside0 (Below w.heap.size w w'))
     case atStart => exact ⟨(0), (y887), (.slice fC y887.length gC), q1_17, H', ⟨Nat.le_refl _⟩, ⟨by (with_reducible repeat (first | apply Kd.R_alloc | apply Kd.R_drewN | apply Kd.R_drew)); exact Kd.R_mono (Kd.R_far (p := ⟨tB, 0, none⟩) (Kd.R_types eC.out oB.out q1_53) (fun _ hk => hk.2) (.slice fC y887.length gC)) (fun _ hk => trivial)⟩, ⟨by (with_reducible repeat (first | refine blk_drewN ?_ _ | refine blk_drew ?_ | refine blk_alloc ?_ _)); refine blk_far ?_ pB.out _; (with_reducible repeat (first | refine blk_drewN ?_ _ | refine blk_drew ?_ | refine blk_alloc ?_ _)); exact DA.out⟩, ⟨by (with_reducible repeat (first | refine blk_drewN ?_ _ | refine blk_drew ?_ | refine blk_alloc ?_ _)); refine blk_put (cs := #[.slice none 0 0]) ?_ 0 _ rfl; (with_reducible repeat (first | refine blk_drewN ?_ _ | refine blk_drew ?_ | refine blk_alloc ?_ _)); exact oB.out⟩, ⟨q1_28⟩⟩
     case round =>
      clear H'
      (try clear c1); (try clear p2); (try clear c4); (try clear c6); (try clear HC); (try clear sH); (try clear p6); (try clear c7); (try clear uE); (try clear hM); (try clear c8); (try clear c14); (try clear iD); (try clear jD)
      obtain ⟨gB, IA, IC, rfl, HA, HK1, UA, DA, oB, HB⟩ := hrel
      cases gk with
      | zero => exact absurd HA.out (by simp [impl_StNew.l0])
      | succ k1 =>
       have H := HA.out
       clear HA
       simp only [impl_StNew.l0] at H
       by_cases c16 : gB < a0
       ·rw [if_pos c16] at H
        have xF : decide (gB < a0) = true := decide_eq_true c16
        clear c16
        by_cases c17 : 0 ≤ gB
        ·rw [if_pos c17] at H
         have mK : decide (0 ≤ gB) = true := decide_eq_true c17
         clear c17
         by_cases c18 : gB < (IA.length : Int)
         ·rw [if_pos c18] at H
          have JN : decide (gB < (IA.length : Int)) = true := decide_eq_true c18
          clear c18
          obtain ⟨y891, hy891⟩ : ∃ y_ : List Int, y_ = (IA.set (gB : Int).toNat (wrap64 (gB + 1))) := ⟨_, rfl⟩
          replace H : (impl_StNew.l0 k1 a0 (wrap64 (gB + 1)) y891) = some (r1, r2) := by first | (rw [hy891]; with_reducible exact H) | (have H2_ := (Option.bind_some _ _).symm.trans H; rw [hy891]; with_reducible exact H2_) | (have H2_ := (Option.bind_some _ _).symm.trans H; with_reducible exact H2_) | with_reducible exact H | (rw [hy891]; exact H) | exact H
          have Ny891 := Aside0.mk hy891
          clear hy891
          have H' := Aside0.mk H
          clear H
          have KN := MB.out
          have LN := pB.out
          have tH : wr.cell? ⟨tB, 0, none⟩ = some (IC) := (blk_cell oB.out 0).trans rfl
          have uH := blk_frozen oB.out 0
          have p19 : 0 ≤ (gB : Int) := of_decide_eq_true q1_3
          have q19 : (gB : Int) < ((IA.length : Int) : Int) := of_decide_eq_true q1_3
          obtain ⟨go19, UI, nK, oK, gl19, cl19, HG19⟩ := Kd.R_form UA.out (by omega)
          (first | cases nK | (injection nK with ea_ en_ ec_; (first | subst ea_ | (injection ea_ with ea_; subst ea_)); subst ec_; clear en_))
          have GB19 := Aside0.mk oK
          have GG19 := Aside0.mk HG19
          clear oK gl19 HG19
          obtain ⟨jM, kM⟩ := Kd.R_celln 0 UA.out (gB : Int) p19 q19
          replace p19 := eq_true p19
          replace q19 := eq_true q19
          have HP22 := Kd.R_putg UA.out (gB : Int) (wrap64 (gB + 1))
          go_wp2_with (first | ((with_reducible refine gate_store (t := 3) (p := 26) rfl ?_); refine store_event (t := 3) (p := 26) (v := ?vo_w23) (w1 := (wr.setCell ⟨go19, (gB : Int).toNat, none⟩ (.int .i64 (wrap64 (gB + 1))))) ?hg ?ho ?hn ?hr ?_; (case ho => rfl); (case hg => rfl); (case hn => rfl); (case hr => first | (go_simp; done) | (go_simp; rfl)); intro lM hw; have hg : wr.grownBy lM (some go19) := (by rw [hw]; exact HP22.2); have hp_ : Kd.R (Kd.int .i64) 3 lM w.heap.size (fun _ => True) (.slice (some ⟨go19, 0, none⟩) IA.length UI) y891 := (by rw [hw, Ny891.out]; exact HP22.1); clear HP22; have dA := Aside0.mk (hp_); have fA := Aside0.mk (blk_grown (g := CA) (o := .cells #[.slice none 0 0] 29 (0, 0)) q1_10 hg (Kd.R_ne UA.out DA.out q1_53)); have iA := Aside0.mk (blk_grown (g := tB) (o := .cells #[.slice (some ⟨go19, 0, none⟩) IA.length UI] 29 (0, 0)) (by (with_reducible repeat (first | refine blk_drewN ?_ _ | refine blk_drew ?_ | refine blk_alloc ?_ _)); exact oB.out) hg (Kd.R_ne UA.out oB.out q1_53)); have pA := Aside0.mk ((by rw [hw]; exact below_set (HB.out) GB19.out : Below w.heap.size w lM)); clear UA DA oB HB; have UA := dA; have DA := fA; have oB := iA; have HB := pA; clear dA fA iA pA; clear hg hw hp_))
          go_roundg k1
          case measure => have := HK1.out; omega
          case rel => exact ⟨(wrap64 (gB + 1)), (y891), (.slice (some ⟨go19, 0, none⟩) IA.length UI), q1_17, H', ⟨by have := HK1.out; omega⟩, ⟨by (with_reducible repeat (first | apply Kd.R_alloc | apply Kd.R_drewN | apply Kd.R_drew)); exact UA.out⟩, ⟨q1_10⟩, ⟨by (with_reducible repeat (first | refine blk_drewN ?_ _ | refine blk_drew ?_ | refine blk_alloc ?_ _)); exact oB.out⟩, ⟨q1_28⟩⟩
         ·rw [if_neg c18] at H
          exact absurd H (by simp)
        ·rw [if_neg c17] at H
         exact absurd H (by simp)
       ·rw [if_neg c16] at H
        have xF : decide (gB < a0) = false := decide_eq_false c16
        clear c16
        simp only [Option.some.injEq, Prod.mk.injEq] at H
        obtain ⟨rfl, rfl⟩ := H
        have MN := MB.out
        have NN := pB.out
        have RK : wr.cell? ⟨tB, 0, none⟩ = some (IC) := (blk_cell oB.out 0).trans rfl
        have SK := blk_frozen oB.out 0
        obtain ⟨pK, qK, mM⟩ := Kd.R_slice UA.out
        subst mM
        have TK : wr.cell? ⟨CA, 0, none⟩ = some (.slice none 0 0) := (blk_cell DA.out 0).trans rfl
        have UK := blk_frozen DA.out 0
        go_wp2
        refine bodyPost_ret (results_ct rfl _ _ CA 29 #[.slice pK IA.length qK] (0, 0) _ rfl q1_55 Tryz.underlying29 rfl q1_31) rfl ?_
        exact ⟨_, by first | rfl | (simp [errW_none, errW_some] <;> rfl) | (simp only [← hji5]; first | rfl | (simp [errW_none, errW_some] <;> rfl)) | (simp [*, errW_none, errW_some] <;> rfl), by (with_reducible repeat (first | apply Kd.R_alloc | apply Kd.R_drewN | apply Kd.R_drew)); exact Kd.R_mono (Kd.R_far (p := ⟨CA, 0, none⟩) (Kd.R_types UA.out DA.out q1_53) (fun _ hk => hk.2) (.slice pK IA.length qK)) (fun _ hk => trivial), q1_28⟩
    ·replace c8 := Bool.eq_false_iff.mpr c8
     subst c8
     rw [if_neg (show ¬ (false = true) by decide)] at H
     simp only [Option.some.injEq, Prod.mk.injEq] at H
     obtain ⟨rfl, rfl⟩ := H
     go_enter Tryz.func79, Tryz.ntmps79
     go_wp2_with (first | ((with_reducible refine gate_dst (N := 4) rfl ?_); refine box_event ?hg (N := 4) ?hd (cs := #[.slice none 0 0]) (t := 29) ?hr ?_; (case hd => rfl); (case hg => rfl); (case hr => first | (go_simp; done) | (go_simp; rfl)); intro CA hg rK hbox hb; have dA := Aside0.mk (below_step q1_0 hb); have fA := Aside0.mk (hbox); have iA := Aside0.mk ((q1_6 : w.heap.size ≤ CA)); have pA := Aside0.mk ((q1_6 : w.heap.size ≤ CA)); clear HB; have HB := dA; have DA := fA; have FI := iA; have nF := pA; clear dA fA iA pA; clear hb hbox hg) | ((with_reducible refine gate_callee (f := 82) rfl ?_); refine goesL_ (some 9) rfl rfl Tryz.func82 q1_31 rfl #[.int .i64 a0, .int .i64 1, .int .i64 16] rfl q1_1 ?_; (with_reducible refine (impl_within.calls a0 1 16 true _ A3.out).mono ?_); rintro e w' ⟨rfl, ⟨nd, rfl⟩⟩; refine ⟨_, rfl, ?_⟩; (try (rw [drewN_self rK]; generalize hq_ : World.drewN rK _ = rK; have dA : Aside0 (rK.heap[CA]? = some (.cells #[.slice none 0 0] 29 (0, 0))) := ⟨by rw [← hq_]; exact q1_10⟩; have fA : Aside0 (Below w.heap.size w rK) := ⟨by rw [← hq_]; exact q1_4⟩; clear DA HB hq_; have DA := dA; have HB := fA; clear dA fA))) | ((with_reducible refine gate_dst (N := 14) rfl ?_); refine Kd.R_make (Kd.int .i64) _ 3 rfl (N := 14) rfl 22 _ _ rfl ji5 rfl rfl Tryz.underlying22 (.int .i64 0) 8 info3 rfl q1_53 (by omega) 0 (ok := fun _ => True) (okp := fun _ => True) rfl (fun _ hk => hk) trivial (of_decide_eq_true q1_3) (Nat.le_trans (Nat.mul_le_mul_right _ (of_decide_eq_true q1_3 : ji5.toNat ≤ 35184372088832)) (by omega)) (Below.refl _ _) (Nat.le_refl _) ?_; intro iM NO ho30 hb hg_ hnew_; clear hg_ hnew_; (first | rw [← Ny887.out] at ho30 | (simp only [Int.reduceToNat] at ho30; rw [← Ny887.out] at ho30)); have dA := Aside0.mk (Kd.R_lower ho30 (below_size q1_4)); have fA := Aside0.mk (blk_below (g := CA) (o := .cells #[.slice none 0 0] 29 (0, 0)) q1_10 hb); have iA := Aside0.mk (below_step q1_4 hb); clear DA HB; have eC := dA; have DA := fA; have HB := iA; clear dA fA iA; clear hb ho30; obtain ⟨VI, WI, nM⟩ := Kd.R_slice eC.out; subst nM) | ((with_reducible refine gate_dst (N := 6) rfl ?_); refine box_event ?hg (N := 6) ?hd (cs := #[.slice none 0 0]) (t := 29) ?hr ?_; (case hd => rfl); (case hg => rfl); (case hr => first | (go_simp; done) | (go_simp; rfl)); intro tB hg ON hbox hb; have dA := Aside0.mk (Kd.R_below (by (with_reducible repeat (first | apply Kd.R_alloc | apply Kd.R_drewN | apply Kd.R_drew)); exact eC.out) hb); have fA := Aside0.mk (blk_below (g := CA) (o := .cells #[.slice none 0 0] 29 (0, 0)) q1_10 hb); have iA := Aside0.mk (below_step q1_4 hb); have pA := Aside0.mk (hbox); have ZA := Aside0.mk ((by rw [hg]; exact (below_size q1_4) : w.heap.size ≤ tB)); have nB := Aside0.mk ((by rw [hg]; exact (below_size q1_4) : w.heap.size ≤ tB)); have rB := Aside0.mk ((by rw [hg]; exact Nat.ne_of_lt (blk_lt (g := CA) (o := .cells #[.slice none 0 0] 29 (0, 0)) q1_10) : CA ≠ tB)); have yC := Aside0.mk ((by rw [hg]; exact Nat.ne_of_gt (blk_lt (g := CA) (o := .cells #[.slice none 0 0] 29 (0, 0)) q1_10) : tB ≠ CA)); clear eC DA HB; have eC := dA; have DA := fA; have HB := iA; have oB := pA; have lK := ZA; have xI := nB; have pB := rB; have MB := yC; clear dA fA iA pA ZA nB rB yC; clear hb hbox hg; have PN := MB.out; have QN := pB.out; have VK : ON.cell? ⟨tB, 0, none⟩ = some (.slice none 0 0) := (blk_cell oB.out 0).trans rfl; have WK := blk_frozen oB.out 0; have XK : ON.cell? ⟨CA, 0, none⟩ = some (.slice none 0 0) := (blk_cell DA.out 0).trans rfl; have YK := blk_frozen DA.out 0))
     refine bodyPost_ret (results_ct rfl _ _ CA 29 #[.slice VI y887.length WI] (0, 0) _ rfl (by (with_reducible repeat (first | refine blk_drewN ?_ _ | refine blk_drew ?_ | refine blk_alloc ?_ _)); refine blk_put (cs := #[.slice none 0 0]) ?_ 0 _ rfl; (with_reducible repeat (first | refine blk_drewN ?_ _ | refine blk_drew ?_ | refine blk_alloc ?_ _)); refine blk_far ?_ pB.out _; (with_reducible repeat (first | refine blk_drewN ?_ _ | refine blk_drew ?_ | refine blk_alloc ?_ _)); exact DA.out) Tryz.underlying29 rfl q1_31) rfl ?_
     exact ⟨_, by first | rfl | (simp [errW_none, errW_some] <;> rfl) | (simp only [← hji5]; first | rfl | (simp [errW_none, errW_some] <;> rfl)) | (simp [*, errW_none, errW_some] <;> rfl), by (with_reducible repeat (first | apply Kd.R_alloc | apply Kd.R_drewN | apply Kd.R_drew)); exact Kd.R_mono (Kd.R_far (p := ⟨CA, 0, none⟩) (Kd.R_far (p := ⟨tB, 0, none⟩) (Kd.R_types (Kd.R_types eC.out oB.out q1_53) DA.out q1_53) (fun _ hk => hk.1.2) (.slice VI y887.length WI)) (fun _ hk => hk.2) (.slice VI y887.length WI)) (fun _ hk => trivial), q1_28⟩
   ·rw [if_neg c7] at H
    exact absurd H (by simp)
  ·rw [if_neg c6] at H
   exact absurd H (by simp)
 ·replace c4 := Bool.eq_false_iff.mpr c4
  subst c4
  rw [if_neg (show ¬ (false = true) by decide)] at H
  simp only [Option.some.injEq, Prod.mk.injEq] at H
  obtain ⟨rfl, rfl⟩ := H
  go_enter Tryz.func79, Tryz.ntmps79
  go_wp2_with (first | ((with_reducible refine gate_dst (N := 4) rfl ?_); refine box_event ?hg (N := 4) ?hd (cs := #[.slice none 0 0]) (t := 29) ?hr ?_; (case hd => rfl); (case hg => rfl); (case hr => first | (go_simp; done) | (go_simp; rfl)); intro CA hg TJ hbox hb; have dA := Aside0.mk (below_step q1_0 hb); have fA := Aside0.mk (hbox); have iA := Aside0.mk ((q1_6 : w.heap.size ≤ CA)); have pA := Aside0.mk ((q1_6 : w.heap.size ≤ CA)); clear HB; have HB := dA; have DA := fA; have FI := iA; have nF := pA; clear dA fA iA pA; clear hb hbox hg) | ((with_reducible refine gate_callee (f := 82) rfl ?_); refine goesL_ (some 9) rfl rfl Tryz.func82 q1_31 rfl #[.int .i64 a0, .int .i64 1, .int .i64 16] rfl q1_1 ?_; (with_reducible refine (impl_within.calls a0 1 16 false _ A3.out).mono ?_); rintro e w' ⟨rfl, ⟨nd, rfl⟩⟩; refine ⟨_, rfl, ?_⟩; (try (rw [drewN_self TJ]; generalize hq_ : World.drewN TJ _ = TJ; have dA : Aside0 (TJ.heap[CA]? = some (.cells #[.slice none 0 0] 29 (0, 0))) := ⟨by rw [← hq_]; exact q1_10⟩; have fA : Aside0 (Below w.heap.size w TJ) := ⟨by rw [← hq_]; exact q1_4⟩; clear DA HB hq_; have DA := dA; have HB := fA; clear dA fA)); have ZK : TJ.cell? ⟨CA, 0, none⟩ = some (.slice none 0 0) := (blk_cell DA.out 0).trans rfl; have bL := blk_frozen DA.out 0))
  refine bodyPost_ret (results_ct rfl _ _ CA 29 #[.slice none 0 0] (0, 0) _ rfl q1_55 Tryz.underlying29 rfl q1_31) rfl ?_
  exact ⟨_, q1_2, q1_35, q1_4⟩
def impl_RiNew.l0 : Nat → Int → Int → List Int → Option (List Int × Bool)
 | 0, _, _, _ => none
 | k + 1, x15, x16, VD => if x16 < x15 then (if 0 ≤ (wrap64 (2 + (wrap64 (2 * x16)))) then (if (wrap64 (2 + (wrap64 (2 * x16)))) < (VD.length : Int) then (impl_RiNew.l0 k x15 (wrap64 (x16 + 1)) (VD.set ((wrap64 (2 + (wrap64 (2 * x16)))) : Int).toNat x16)) else (none)) else (none)) else (some (VD, true))
def impl_RiNew.f (k : Nat) (a0 : Int) : Option (List Int × Bool) := (impl_within.f a0 2 16).bind fun YG => (if YG = true then (if 0 ≤ (wrap64 (2 + (wrap64 (2 * a0)))) then (if (wrap64 (2 + (wrap64 (2 * a0))) : Int).toNat ≤ 35184372088832 then (impl_RiNew.l0 k a0 0 (List.replicate (wrap64 (2 + (wrap64 (2 * a0))) : Int).toNat 0)) else (none)) else (none)) else (some (([] : List Int), false)))
theorem impl_RiNew.mono_l : ∀ k, (∀ y0 y1 y2, LeO (impl_RiNew.l0 k y0 y1 y2) (impl_RiNew.l0 (k + 1) y0 y1 y2))
 | 0 => fun _ _ _ r h => by simp [impl_RiNew.l0] at h
 | k + 1 => by
  have ih0 := impl_RiNew.mono_l k
  ·intro y0 y1 y2
   unfold impl_RiNew.l0
   repeat' first
   | (with_reducible exact ih0 _ _ _)
   | (with_reducible exact LeO.refl _)
   | (with_reducible exact LeO.none _)
   | (with_reducible refine LeO.ite ?_ ?_)
   | (with_reducible refine LeO.bind ?_ (fun _ => ?_))
   | exact ih0 _ _ _
   | exact LeO.none _
   | refine LeO.ite ?_ ?_
   | refine LeO.bind ?_ (fun _ => ?_)
theorem impl_RiNew.mono : ∀ a0 k, LeO (impl_RiNew.f k a0) (impl_RiNew.f (k + 1) a0) := by
 intro a0 k
 have ih0 := impl_RiNew.mono_l k
 unfold impl_RiNew.f
 repeat' first
   | (with_reducible exact ih0 _ _ _)
   | (with_reducible exact LeO.refl _)
   | (with_reducible exact LeO.none _)
   | (with_reducible refine LeO.ite ?_ ?_)
   | (with_reducible refine LeO.bind ?_ (fun _ => ?_))
   | exact ih0 _ _ _
   | exact LeO.none _
   | refine LeO.ite ?_ ?_
   | refine LeO.bind ?_ (fun _ => ?_)
set_option maxHeartbeats 8000000 in
set_option maxRecDepth 100000 in
theorem impl_RiNew.calls (k : Nat) (a0 : Int) (r1 : List Int) (r2 : Bool) (w : World) (h : impl_RiNew.f k a0 = some (r1, r2)) :
  Calls Tryz.prog 80 #[.int .i64 a0] w fun e w' => ∃ v0_ : Value, e = .returned (.tuple #[.agg #[v0_], .bool r2]) ∧ Kd.R (Kd.int .i64) 3 w' w.heap.size (fun _ => True) v0_ r1 ∧ Below w.heap.size w w' := by
 have hu29 := Tryz.underlying29
 have HB := Aside0.mk (Below.refl w.heap.size w)
 have H : ((impl_within.f a0 2 16).bind fun YG => (if YG = true then (if 0 ≤ (wrap64 (2 + (wrap64 (2 * a0)))) then (if (wrap64 (2 + (wrap64 (2 * a0))) : Int).toNat ≤ 35184372088832 then (impl_RiNew.l0 k a0 0 (List.replicate (wrap64 (2 + (wrap64 (2 * a0))) : Int).toNat 0)) else (none)) else (none)) else (some (([] : List Int), false)))) = some (r1, r2) := h
 clear h
 replace H := Option.bind_eq_some_iff.mp H
 obtain ⟨YG, A20, H⟩ := H
 (try dsimp only at H)
 have A2 := Aside0.mk A20
 clear A20
 by_cases c3 : YG = true
 ·subst c3
  rw [if_pos rfl] at H
  obtain ⟨ji4, hji4⟩ : ∃ j_ : Int, (wrap64 (2 + (wrap64 (2 * a0)))) = j_ := ⟨_, rfl⟩
  replace H : (if 0 ≤ (ji4) then (if (ji4 : Int).toNat ≤ 35184372088832 then (impl_RiNew.l0 k a0 0 (List.replicate (ji4 : Int).toNat 0)) else (none)) else (none)) = some (r1, r2) := by first | (rw [hji4] at H; exact H) | (simp only [hji4] at H ⊢; exact H)
  (try rw [hji4] at A2)
  have hji4w : (IntKind.i64.wrap (2 + (wrap64 (2 * a0)))) = ji4 := (i64_w _).trans hji4
  by_cases c5 : 0 ≤ (ji4)
  ·rw [if_pos c5] at H
   have XI := eq_true c5
   have sK : decide (0 ≤ (ji4)) = true := decide_eq_true c5
   clear c5
   by_cases c6 : (ji4 : Int).toNat ≤ 35184372088832
   ·rw [if_pos c6] at H
    have HC := eq_true c6
    have sH : decide ((ji4 : Int).toNat ≤ 35184372088832) = true := decide_eq_true c6
    clear c6
    obtain ⟨y894, hy894⟩ : ∃ y_ : List Int, y_ = (List.replicate (ji4 : Int).toNat 0) := ⟨_, rfl⟩
    replace H : (impl_RiNew.l0 k a0 0 y894) = some (r1, r2) := by first | (rw [hy894]; with_reducible exact H) | (have H2_ := (Option.bind_some _ _).symm.trans H; rw [hy894]; with_reducible exact H2_) | (have H2_ := (Option.bind_some _ _).symm.trans H; with_reducible exact H2_) | with_reducible exact H | (rw [hy894]; exact H) | exact H
    have Ny894 := Aside0.mk hy894
    clear hy894
    have H' := Aside0.mk H
    clear H
    go_enter Tryz.func80, Tryz.ntmps80
    go_wp2_with (first | ((with_reducible refine gate_dst (N := 2) rfl ?_); refine box_event ?hg (N := 2) ?hd (cs := #[.slice none 0 0]) (t := 29) ?hr ?_; (case hd => rfl); (case hg => rfl); (case hr => first | (go_simp; done) | (go_simp; rfl)); intro jB hg w7 hbox hb; have dA := Aside0.mk (below_step q1_0 hb); have fA := Aside0.mk (hbox); have iA := Aside0.mk ((q1_6 : w.heap.size ≤ jB)); have pA := Aside0.mk ((q1_6 : w.heap.size ≤ jB)); clear HB; have HB := dA; have fB := fA; have tK := iA; have PG := pA; clear dA fA iA pA; clear hb hbox hg) | ((with_reducible refine gate_callee (f := 82) rfl ?_); refine goesL_ (some 7) rfl rfl Tryz.func82 q1_31 rfl #[.int .i64 a0, .int .i64 2, .int .i64 16] rfl q1_1 ?_; (with_reducible refine (impl_within.calls a0 2 16 true _ A2.out).mono ?_); rintro e w' ⟨rfl, ⟨nd, rfl⟩⟩; refine ⟨_, rfl, ?_⟩; (try (rw [drewN_self w7]; generalize hq_ : World.drewN w7 _ = w7; have dA : Aside0 (w7.heap[jB]? = some (.cells #[.slice none 0 0] 29 (0, 0))) := ⟨by rw [← hq_]; exact q1_22⟩; have fA : Aside0 (Below w.heap.size w w7) := ⟨by rw [← hq_]; exact q1_14⟩; clear fB HB hq_; have fB := dA; have HB := fA; clear dA fA))) | ((with_reducible refine gate_dst (N := 13) rfl ?_); refine Kd.R_make (Kd.int .i64) _ 3 rfl (N := 13) rfl 22 _ _ rfl ji4 rfl rfl Tryz.underlying22 (.int .i64 0) 8 info3 rfl q1_53 (by omega) 0 (ok := fun _ => True) (okp := fun _ => True) rfl (fun _ hk => hk) trivial (of_decide_eq_true q1_3) (Nat.le_trans (Nat.mul_le_mul_right _ (of_decide_eq_true q1_3 : ji4.toNat ≤ 35184372088832)) (by omega)) (Below.refl _ _) (Nat.le_refl _) ?_; intro zO w8 ho9 hb hg_ hnew_; clear hg_ hnew_; (first | rw [← Ny894.out] at ho9 | (simp only [Int.reduceToNat] at ho9; rw [← Ny894.out] at ho9)); have dA := Aside0.mk (Kd.R_lower ho9 (below_size q1_14)); have fA := Aside0.mk (blk_below (g := jB) (o := .cells #[.slice none 0 0] 29 (0, 0)) q1_22 hb); have iA := Aside0.mk (below_step q1_14 hb); clear fB HB; have vE := dA; have fB := fA; have HB := iA; clear dA fA iA; clear hb ho9; obtain ⟨dD, aC, UC⟩ := Kd.R_slice vE.out; subst UC) | ((with_reducible refine gate_dst (N := 4) rfl ?_); refine box_event ?hg (N := 4) ?hd (cs := #[.slice none 0 0]) (t := 29) ?hr ?_; (case hd => rfl); (case hg => rfl); (case hr => first | (go_simp; done) | (go_simp; rfl)); intro zC hg mB hbox hb; have dA := Aside0.mk (Kd.R_below (by (with_reducible repeat (first | apply Kd.R_alloc | apply Kd.R_drewN | apply Kd.R_drew)); exact vE.out) hb); have fA := Aside0.mk (blk_below (g := jB) (o := .cells #[.slice none 0 0] 29 (0, 0)) q1_22 hb); have iA := Aside0.mk (below_step q1_14 hb); have pA := Aside0.mk (hbox); have ZA := Aside0.mk ((by rw [hg]; exact (below_size q1_14) : w.heap.size ≤ zC)); have nB := Aside0.mk ((by rw [hg]; exact (below_size q1_14) : w.heap.size ≤ zC)); have rB := Aside0.mk ((by rw [hg]; exact Nat.ne_of_lt (blk_lt (g := jB) (o := .cells #[.slice none 0 0] 29 (0, 0)) q1_22) : jB ≠ zC)); have yC := Aside0.mk ((by rw [hg]; exact Nat.ne_of_gt (blk_lt (g := jB) (o := .cells #[.slice none 0 0] 29 (0, 0)) q1_22) : zC ≠ jB)); clear vE fB HB; have vE := dA; have fB := fA; have HB := iA; have IB := pA; have RN := ZA; have aK := nB; have qC := rB; have YC := yC; clear dA fA iA pA ZA nB rB yC; clear hb hbox hg; have DI := YC.out; have EI := qC.out; have mC : mB.cell? ⟨zC, 0, none⟩ = some (.slice none 0 0) := (blk_cell IB.out 0).trans rfl; have nC := blk_frozen IB.out 0))
    go_loopg [16] k (fun kq v16 w' => ∃ (FB : Int) (BA : List Int) (JC : Value), v16 = .int .i64 FB ∧ Aside0 (impl_RiNew.l0 kq a0 FB BA = some (r1, r2)) ∧ Aside0 (kq ≤ k) ∧ Aside0 (Kd.R (Kd.int .i64) 3 w' w.heap.size (fun _ => True) JC BA) ∧ Aside0 (w'.heap[jB]? = some (.cells #[(.slice none 0 0)] 29 (0, 0))) ∧ Aside0 (w'.heap[zC]? = some (.cells #[JC] 29 (0, 0))) ∧ Aside0 (Below w.heap.size w w'))
    case atStart => exact ⟨(0), (y894), (.slice dD y894.length aC), q1_17, H', ⟨Nat.le_refl _⟩, ⟨by (with_reducible repeat (first | apply Kd.R_alloc | apply Kd.R_drewN | apply Kd.R_drew)); exact Kd.R_mono (Kd.R_far (p := ⟨zC, 0, none⟩) (Kd.R_types vE.out IB.out q1_53) (fun _ hk => hk.2) (.slice dD y894.length aC)) (fun _ hk => trivial)⟩, ⟨by (with_reducible repeat (first | refine blk_drewN ?_ _ | refine blk_drew ?_ | refine blk_alloc ?_ _)); refine blk_far ?_ qC.out _; (with_reducible repeat (first | refine blk_drewN ?_ _ | refine blk_drew ?_ | refine blk_alloc ?_ _)); exact fB.out⟩, ⟨by (with_reducible repeat (first | refine blk_drewN ?_ _ | refine blk_drew ?_ | refine blk_alloc ?_ _)); refine blk_put (cs := #[.slice none 0 0]) ?_ 0 _ rfl; (with_reducible repeat (first | refine blk_drewN ?_ _ | refine blk_drew ?_ | refine blk_alloc ?_ _)); exact IB.out⟩, ⟨q1_41⟩⟩
    case round =>
     clear H'
     (try clear c1); (try clear p2); (try clear c3); (try clear c5); (try clear XI); (try clear sK); (try clear c6); (try clear HC); (try clear sH); (try clear p6); (try clear c8); (try clear c12); (try clear mC); (try clear nC)
     obtain ⟨FB, BA, JC, rfl, HA, HK1, VA, fB, IB, HB⟩ := hrel
     cases gk with
     | zero => exact absurd HA.out (by simp [impl_RiNew.l0])
     | succ k1 =>
      have H := HA.out
      clear HA
      simp only [impl_RiNew.l0] at H
      by_cases c14 : FB < a0
      ·rw [if_pos c14] at H
       have uK : decide (FB < a0) = true := decide_eq_true c14
       clear c14
       obtain ⟨ji15, hji15⟩ : ∃ j_ : Int, (wrap64 (2 + (wrap64 (2 * FB)))) = j_ := ⟨_, rfl⟩
       replace H : (if 0 ≤ (ji15) then (if (ji15) < (BA.length : Int) then (impl_RiNew.l0 k1 a0 (wrap64 (FB + 1)) (BA.set ((ji15) : Int).toNat FB)) else (none)) else (none)) = some (r1, r2) := by first | (rw [hji15] at H; exact H) | (simp only [hji15] at H ⊢; exact H)
       have hji15w : (IntKind.i64.wrap (2 + (wrap64 (2 * FB)))) = ji15 := (i64_w _).trans hji15
       by_cases c16 : 0 ≤ (ji15)
       ·rw [if_pos c16] at H
        have xF : decide (0 ≤ (ji15)) = true := decide_eq_true c16
        clear c16
        by_cases c17 : (ji15) < (BA.length : Int)
        ·rw [if_pos c17] at H
         have mK : decide ((ji15) < (BA.length : Int)) = true := decide_eq_true c17
         clear c17
         obtain ⟨y898, hy898⟩ : ∃ y_ : List Int, y_ = (BA.set ((ji15) : Int).toNat FB) := ⟨_, rfl⟩
         replace H : (impl_RiNew.l0 k1 a0 (wrap64 (FB + 1)) y898) = some (r1, r2) := by first | (rw [hy898]; with_reducible exact H) | (have H2_ := (Option.bind_some _ _).symm.trans H; rw [hy898]; with_reducible exact H2_) | (have H2_ := (Option.bind_some _ _).symm.trans H; with_reducible exact H2_) | with_reducible exact H | (rw [hy898]; exact H) | exact H
         have Ny898 := Aside0.mk hy898
         clear hy898
         have H' := Aside0.mk H
         clear H
         have SN := YC.out
         have TN := qC.out
         have vH : wr.cell? ⟨zC, 0, none⟩ = some (JC) := (blk_cell IB.out 0).trans rfl
         have wH := blk_frozen IB.out 0
         have p18 : 0 ≤ ((ji15) : Int) := of_decide_eq_true q1_3
         have q18 : ((ji15) : Int) < ((BA.length : Int) : Int) := of_decide_eq_true q1_3
         obtain ⟨go18, YI, vK, wK, gl18, cl18, HG18⟩ := Kd.R_form VA.out (by omega)
         (first | cases vK | (injection vK with ea_ en_ ec_; (first | subst ea_ | (injection ea_ with ea_; subst ea_)); subst ec_; clear en_))
         have GB18 := Aside0.mk wK
         have GG18 := Aside0.mk HG18
         clear wK gl18 HG18
         obtain ⟨oM, pM⟩ := Kd.R_celln 0 VA.out ((ji15) : Int) p18 q18
         replace p18 := eq_true p18
         replace q18 := eq_true q18
         have HP21 := Kd.R_putg VA.out ((ji15) : Int) FB
         go_wp2_with (first | ((with_reducible refine gate_store (t := 3) (p := 25) rfl ?_); refine store_event (t := 3) (p := 25) (v := ?vo_w22) (w1 := (wr.setCell ⟨go18, ((ji15) : Int).toNat, none⟩ (.int .i64 FB))) ?hg ?ho ?hn ?hr ?_; (case ho => rfl); (case hg => rfl); (case hn => rfl); (case hr => first | (go_simp; done) | (go_simp; rfl)); intro xK hw; have hg : wr.grownBy xK (some go18) := (by rw [hw]; exact HP21.2); have hp_ : Kd.R (Kd.int .i64) 3 xK w.heap.size (fun _ => True) (.slice (some ⟨go18, 0, none⟩) BA.length YI) y898 := (by rw [hw, Ny898.out]; exact HP21.1); clear HP21; have dA := Aside0.mk (hp_); have fA := Aside0.mk (blk_grown (g := jB) (o := .cells #[.slice none 0 0] 29 (0, 0)) q1_22 hg (Kd.R_ne VA.out fB.out q1_53)); have iA := Aside0.mk (blk_grown (g := zC) (o := .cells #[.slice (some ⟨go18, 0, none⟩) BA.length YI] 29 (0, 0)) (by (with_reducible repeat (first | refine blk_drewN ?_ _ | refine blk_drew ?_ | refine blk_alloc ?_ _)); exact IB.out) hg (Kd.R_ne VA.out IB.out q1_53)); have pA := Aside0.mk ((by rw [hw]; exact below_set (HB.out) GB18.out : Below w.heap.size w xK)); clear VA fB IB HB; have VA := dA; have fB := fA; have IB := iA; have HB := pA; clear dA fA iA pA; clear hg hw hp_))
         go_roundg k1
         case measure => have := HK1.out; omega
         case rel => exact ⟨(wrap64 (FB + 1)), (y898), (.slice (some ⟨go18, 0, none⟩) BA.length YI), q1_17, H', ⟨by have := HK1.out; omega⟩, ⟨by (with_reducible repeat (first | apply Kd.R_alloc | apply Kd.R_drewN | apply Kd.R_drew)); exact VA.out⟩, ⟨q1_22⟩, ⟨by (with_reducible repeat (first | refine blk_drewN ?_ _ | refine blk_drew ?_ | refine blk_alloc ?_ _)); exact IB.out⟩, ⟨q1_41⟩⟩
        ·rw [if_neg c17] at H
         exact absurd H (by simp)
       ·rw [if_neg c16] at H
        exact absurd H (by simp)
      ·rw [if_neg c14] at H
       have uK : decide (FB < a0) = false := decide_eq_false c14
       clear c14
       simp only [Option.some.injEq, Prod.mk.injEq] at H
       obtain ⟨rfl, rfl⟩ := H
       have UN := YC.out
       have VN := qC.out
       have cL : wr.cell? ⟨zC, 0, none⟩ = some (JC) := (blk_cell IB.out 0).trans rfl
       have dL := blk_frozen IB.out 0
       obtain ⟨yK, zK, qM⟩ := Kd.R_slice VA.out
       subst qM
       have eL : wr.cell? ⟨jB, 0, none⟩ = some (.slice none 0 0) := (blk_cell fB.out 0).trans rfl
       have fL := blk_frozen fB.out 0
       go_wp2
       refine bodyPost_ret (results_ct rfl _ _ jB 29 #[.slice yK BA.length zK] (0, 0) _ rfl q1_56 Tryz.underlying29 rfl q1_31) rfl ?_
       exact ⟨_, by first | rfl | (simp [errW_none, errW_some] <;> rfl) | (simp only [← hji4]; first | rfl | (simp [errW_none, errW_some] <;> rfl)) | (simp [*, errW_none, errW_some] <;> rfl), by (with_reducible repeat (first | apply Kd.R_alloc | apply Kd.R_drewN | apply Kd.R_drew)); exact Kd.R_mono (Kd.R_far (p := ⟨jB, 0, none⟩) (Kd.R_types VA.out fB.out q1_53) (fun _ hk => hk.2) (.slice yK BA.length zK)) (fun _ hk => trivial), q1_41⟩
   ·rw [if_neg c6] at H
    exact absurd H (by simp)
  ·rw [if_neg c5] at H
   exact absurd H (by simp)
 ·replace c3 := Bool.eq_false_iff.mpr c3
  subst c3
  rw [if_neg (show ¬ (false = true) by decide)] at H
  simp only [Option.some.injEq, Prod.mk.injEq] at H
  obtain ⟨rfl, rfl⟩ := H
  go_enter Tryz.func80, Tryz.ntmps80
  go_wp2_with (first | ((with_reducible refine gate_dst (N := 2) rfl ?_); refine box_event ?hg (N := 2) ?hd (cs := #[.slice none 0 0]) (t := 29) ?hr ?_; (case hd => rfl); (case hg => rfl); (case hr => first | (go_simp; done) | (go_simp; rfl)); intro jB hg UJ hbox hb; have dA := Aside0.mk (below_step q1_0 hb); have fA := Aside0.mk (hbox); have iA := Aside0.mk ((q1_6 : w.heap.size ≤ jB)); have pA := Aside0.mk ((q1_6 : w.heap.size ≤ jB)); clear HB; have HB := dA; have fB := fA; have tK := iA; have PG := pA; clear dA fA iA pA; clear hb hbox hg) | ((with_reducible refine gate_callee (f := 82) rfl ?_); refine goesL_ (some 7) rfl rfl Tryz.func82 q1_31 rfl #[.int .i64 a0, .int .i64 2, .int .i64 16] rfl q1_1 ?_; (with_reducible refine (impl_within.calls a0 2 16 false _ A2.out).mono ?_); rintro e w' ⟨rfl, ⟨nd, rfl⟩⟩; refine ⟨_, rfl, ?_⟩; (try (rw [drewN_self UJ]; generalize hq_ : World.drewN UJ _ = UJ; have dA : Aside0 (UJ.heap[jB]? = some (.cells #[.slice none 0 0] 29 (0, 0))) := ⟨by rw [← hq_]; exact q1_22⟩; have fA : Aside0 (Below w.heap.size w UJ) := ⟨by rw [← hq_]; exact q1_14⟩; clear fB HB hq_; have fB := dA; have HB := fA; clear dA fA)); have gL : UJ.cell? ⟨jB, 0, none⟩ = some (.slice none 0 0) := (blk_cell fB.out 0).trans rfl; have hL := blk_frozen fB.out 0))
  refine bodyPost_ret (results_ct rfl _ _ jB 29 #[.slice none 0 0] (0, 0) _ rfl q1_56 Tryz.underlying29 rfl q1_31) rfl ?_
  exact ⟨_, q1_2, q1_35, q1_14⟩
def impl_LiNew.f (a0 : Int) : Option (List Int × Bool) := (impl_within.f a0 1 16).bind fun ZG => (if ZG = true then (if 0 ≤ (wrap64 (1 + (wrap64 (2 * a0)))) then (if (wrap64 (1 + (wrap64 (2 * a0))) : Int).toNat ≤ 35184372088832 then (some ((List.replicate (wrap64 (1 + (wrap64 (2 * a0))) : Int).toNat 0), true)) else (none)) else (none)) else (some (([] : List Int), false)))
set_option maxHeartbeats 8000000 in
set_option maxRecDepth 100000 in
theorem impl_LiNew.calls (a0 : Int) (r1 : List Int) (r2 : Bool) (w : World) (h : impl_LiNew.f a0 = some (r1, r2)) :
  Calls Tryz.prog 81 #[.int .i64 a0] w fun e w' => ∃ v0_ : Value, e = .returned (.tuple #[.agg #[v0_], .bool r2]) ∧ Kd.R (Kd.int .i64) 3 w' w.heap.size (fun _ => True) v0_ r1 ∧ Below w.heap.size w w' := by
 have hu29 := Tryz.underlying29
 have HB := Aside0.mk (Below.refl w.heap.size w)
 have H : ((impl_within.f a0 1 16).bind fun ZG => (if ZG = true then (if 0 ≤ (wrap64 (1 + (wrap64 (2 * a0)))) then (if (wrap64 (1 + (wrap64 (2 * a0))) : Int).toNat ≤ 35184372088832 then (some ((List.replicate (wrap64 (1 + (wrap64 (2 * a0))) : Int).toNat 0), true)) else (none)) else (none)) else (some (([] : List Int), false)))) = some (r1, r2) := h
 clear h
 replace H := Option.bind_eq_some_iff.mp H
 obtain ⟨ZG, A20, H⟩ := H
 (try dsimp only at H)
 have A2 := Aside0.mk A20
 clear A20
 by_cases c3 : ZG = true
 ·subst c3
  rw [if_pos rfl] at H
  obtain ⟨ji4, hji4⟩ : ∃ j_ : Int, (wrap64 (1 + (wrap64 (2 * a0)))) = j_ := ⟨_, rfl⟩
  replace H : (if 0 ≤ (ji4) then (if (ji4 : Int).toNat ≤ 35184372088832 then (some ((List.replicate (ji4 : Int).toNat 0), true)) else (none)) else (none)) = some (r1, r2) := by first | (rw [hji4] at H; exact H) | (simp only [hji4] at H ⊢; exact H)
  (try rw [hji4] at A2)
  have hji4w : (IntKind.i64.wrap (1 + (wrap64 (2 * a0)))) = ji4 := (i64_w _).trans hji4
  by_cases c5 : 0 ≤ (ji4)
  ·rw [if_pos c5] at H
   have XI := eq_true c5
   have sK : decide (0 ≤ (ji4)) = true := decide_eq_true c5
   clear c5
   by_cases c6 : (ji4 : Int).toNat ≤ 35184372088832
   ·rw [if_pos c6] at H
    have HC := eq_true c6
    have sH : decide ((ji4 : Int).toNat ≤ 35184372088832) = true := decide_eq_true c6
    clear c6
    obtain ⟨y901, hy901⟩ : ∃ y_ : List Int, y_ = (List.replicate (ji4 : Int).toNat 0) := ⟨_, rfl⟩
    replace H : (some (y901, true)) = some (r1, r2) := by first | (rw [hy901]; with_reducible exact H) | (have H2_ := (Option.bind_some _ _).symm.trans H; rw [hy901]; with_reducible exact H2_) | (have H2_ := (Option.bind_some _ _).symm.trans H; with_reducible exact H2_) | with_reducible exact H | (rw [hy901]; exact H) | exact H
    have Ny901 := Aside0.mk hy901
    clear hy901
    simp only [Option.some.injEq, Prod.mk.injEq] at H
    obtain ⟨rfl, rfl⟩ := H
    go_enter Tryz.func81, Tryz.ntmps81
    go_wp2_with (first | ((with_reducible refine gate_dst (N := 2) rfl ?_); refine box_event ?hg (N := 2) ?hd (cs := #[.slice none 0 0]) (t := 29) ?hr ?_; (case hd => rfl); (case hg => rfl); (case hr => first | (go_simp; done) | (go_simp; rfl)); intro NB hg w7 hbox hb; have dA := Aside0.mk (below_step q1_0 hb); have fA := Aside0.mk (hbox); have iA := Aside0.mk ((q1_6 : w.heap.size ≤ NB)); have pA := Aside0.mk ((q1_6 : w.heap.size ≤ NB)); clear HB; have HB := dA; have uB := fA; have AK := iA; have uI := pA; clear dA fA iA pA; clear hb hbox hg) | ((with_reducible refine gate_callee (f := 82) rfl ?_); refine goesL_ (some 5) rfl rfl Tryz.func82 q1_31 rfl #[.int .i64 a0, .int .i64 1, .int .i64 16] rfl q1_1 ?_; (with_reducible refine (impl_within.calls a0 1 16 true _ A2.out).mono ?_); rintro e w' ⟨rfl, ⟨nd, rfl⟩⟩; refine ⟨_, rfl, ?_⟩; (try (rw [drewN_self w7]; generalize hq_ : World.drewN w7 _ = w7; have dA : Aside0 (w7.heap[NB]? = some (.cells #[.slice none 0 0] 29 (0, 0))) := ⟨by rw [← hq_]; exact (by (with_reducible repeat (first | refine blk_drewN ?_ _ | refine blk_drew ?_ | refine blk_alloc ?_ _)); exact uB.out)⟩; have fA : Aside0 (Below w.heap.size w w7) := ⟨by rw [← hq_]; exact q1_21⟩; clear uB HB hq_; have uB := dA; have HB := fA; clear dA fA))) | ((with_reducible refine gate_dst (N := 11) rfl ?_); refine Kd.R_make (Kd.int .i64) _ 3 rfl (N := 11) rfl 22 _ _ rfl ji4 rfl rfl Tryz.underlying22 (.int .i64 0) 8 info3 rfl q1_53 (by omega) 0 (ok := fun _ => True) (okp := fun _ => True) rfl (fun _ hk => hk) trivial (of_decide_eq_true q1_3) (Nat.le_trans (Nat.mul_le_mul_right _ (of_decide_eq_true q1_3 : ji4.toNat ≤ 35184372088832)) (by omega)) (Below.refl _ _) (Nat.le_refl _) ?_; intro AO w8 ho9 hb hg_ hnew_; clear hg_ hnew_; (first | rw [← Ny901.out] at ho9 | (simp only [Int.reduceToNat] at ho9; rw [← Ny901.out] at ho9)); have dA := Aside0.mk (Kd.R_lower ho9 (below_size q1_21)); have fA := Aside0.mk (blk_below (g := NB) (o := .cells #[.slice none 0 0] 29 (0, 0)) (by (with_reducible repeat (first | refine blk_drewN ?_ _ | refine blk_drew ?_ | refine blk_alloc ?_ _)); exact uB.out) hb); have iA := Aside0.mk (below_step q1_21 hb); clear uB HB; have GI := dA; have uB := fA; have HB := iA; clear dA fA iA; clear hb ho9; obtain ⟨dD, aC, UC⟩ := Kd.R_slice GI.out; subst UC; have ID : w8.cell? ⟨NB, 0, none⟩ = some (.slice none 0 0) := (blk_cell uB.out 0).trans rfl; have JD := blk_frozen uB.out 0))
    refine bodyPost_ret (results_ct rfl _ _ NB 29 #[.slice dD y901.length aC] (0, 0) _ rfl q1_57 Tryz.underlying29 rfl q1_31) rfl ?_
    exact ⟨_, by first | rfl | (simp [errW_none, errW_some] <;> rfl) | (simp only [← hji4]; first | rfl | (simp [errW_none, errW_some] <;> rfl)) | (simp [*, errW_none, errW_some] <;> rfl), by (with_reducible repeat (first | apply Kd.R_alloc | apply Kd.R_drewN | apply Kd.R_drew)); exact Kd.R_mono (Kd.R_far (p := ⟨NB, 0, none⟩) (Kd.R_types GI.out uB.out q1_53) (fun _ hk => hk.2) (.slice dD y901.length aC)) (fun _ hk => trivial), q1_21⟩
   ·rw [if_neg c6] at H
    exact absurd H (by simp)
  ·rw [if_neg c5] at H
   exact absurd H (by simp)
 ·replace c3 := Bool.eq_false_iff.mpr c3
  subst c3
  rw [if_neg (show ¬ (false = true) by decide)] at H
  simp only [Option.some.injEq, Prod.mk.injEq] at H
  obtain ⟨rfl, rfl⟩ := H
  go_enter Tryz.func81, Tryz.ntmps81
  go_wp2_with (first | ((with_reducible refine gate_dst (N := 2) rfl ?_); refine box_event ?hg (N := 2) ?hd (cs := #[.slice none 0 0]) (t := 29) ?hr ?_; (case hd => rfl); (case hg => rfl); (case hr => first | (go_simp; done) | (go_simp; rfl)); intro NB hg kD hbox hb; have dA := Aside0.mk (below_step q1_0 hb); have fA := Aside0.mk (hbox); have iA := Aside0.mk ((q1_6 : w.heap.size ≤ NB)); have pA := Aside0.mk ((q1_6 : w.heap.size ≤ NB)); clear HB; have HB := dA; have uB := fA; have AK := iA; have uI := pA; clear dA fA iA pA; clear hb hbox hg) | ((with_reducible refine gate_callee (f := 82) rfl ?_); refine goesL_ (some 5) rfl rfl Tryz.func82 q1_31 rfl #[.int .i64 a0, .int .i64 1, .int .i64 16] rfl q1_1 ?_; (with_reducible refine (impl_within.calls a0 1 16 false _ A2.out).mono ?_); rintro e w' ⟨rfl, ⟨nd, rfl⟩⟩; refine ⟨_, rfl, ?_⟩; (try (rw [drewN_self kD]; generalize hq_ : World.drewN kD _ = kD; have dA : Aside0 (kD.heap[NB]? = some (.cells #[.slice none 0 0] 29 (0, 0))) := ⟨by rw [← hq_]; exact (by (with_reducible repeat (first | refine blk_drewN ?_ _ | refine blk_drew ?_ | refine blk_alloc ?_ _)); exact uB.out)⟩; have fA : Aside0 (Below w.heap.size w kD) := ⟨by rw [← hq_]; exact q1_21⟩; clear uB HB hq_; have uB := dA; have HB := fA; clear dA fA)); have mC : kD.cell? ⟨NB, 0, none⟩ = some (.slice none 0 0) := (blk_cell uB.out 0).trans rfl; have nC := blk_frozen uB.out 0))
  refine bodyPost_ret (results_ct rfl _ _ NB 29 #[.slice none 0 0] (0, 0) _ rfl q1_57 Tryz.underlying29 rfl q1_31) rfl ?_
  exact ⟨_, q1_2, q1_35, q1_21⟩
def impl_cellsOf.f (k : Nat) (a0 : Int) (a1 : Int) (a2 : Bool) : Option (List Int × Bool) := if a0 = 1 then ((impl_StNew.f k a1 a2).bind fun wE => (some (wE.1, wE.2))) else (if a0 = 2 then ((impl_RiNew.f k a1).bind fun xE => (some (xE.1, xE.2))) else (if a0 = 3 then ((impl_LiNew.f a1).bind fun yE => (some (yE.1, yE.2))) else (some (([] : List Int), false))))
theorem impl_cellsOf.mono : ∀ a0 a1 a2 k, LeO (impl_cellsOf.f k a0 a1 a2) (impl_cellsOf.f (k + 1) a0 a1 a2) := by
 intro a0 a1 a2 k
 unfold impl_cellsOf.f
 repeat' first
   | (with_reducible exact impl_RiNew.mono _ _)
   | (with_reducible exact impl_StNew.mono _ _ _)
   | (with_reducible exact LeO.refl _)
   | (with_reducible exact LeO.none _)
   | (with_reducible refine LeO.ite ?_ ?_)
   | (with_reducible refine LeO.bind ?_ (fun _ => ?_))
   | exact impl_RiNew.mono _ _
   | exact impl_StNew.mono _ _ _
   | exact LeO.none _
   | refine LeO.ite ?_ ?_
   | refine LeO.bind ?_ (fun _ => ?_)
set_option maxHeartbeats 8000000 in
set_option maxRecDepth 100000 in
theorem impl_cellsOf.calls (k : Nat) (a0 : Int) (a1 : Int) (a2 : Bool) (r1 : List Int) (r2 : Bool) (w : World) (h : impl_cellsOf.f k a0 a1 a2 = some (r1, r2)) :
  Calls Tryz.prog 48 #[.int .i64 a0, .int .i64 a1, .bool a2] w fun e w' => ∃ v0_ : Value, e = .returned (.tuple #[.agg #[v0_], .bool r2]) ∧ Kd.R (Kd.int .i64) 3 w' w.heap.size (fun _ => True) v0_ r1 ∧ Below w.heap.size w w' := by
 have hu29 := Tryz.underlying29
 have HB := Aside0.mk (Below.refl w.heap.size w)
 have H : (if a0 = 1 then ((impl_StNew.f k a1 a2).bind fun wE => (some (wE.1, wE.2))) else (if a0 = 2 then ((impl_RiNew.f k a1).bind fun xE => (some (xE.1, xE.2))) else (if a0 = 3 then ((impl_LiNew.f a1).bind fun yE => (some (yE.1, yE.2))) else (some (([] : List Int), false))))) = some (r1, r2) := h
 clear h
 by_cases c4 : a0 = 1
 ·rw [if_pos c4] at H
  have wD : (a0 == 1) = true := beq_iff_eq.mpr c4
  have rM : (a0 != 1) = false := bne_eq_false_iff_eq.mpr c4
  clear c4
  replace H := Option.bind_eq_some_iff.mp H
  obtain ⟨⟨ZI, sM⟩, A50, H⟩ := H
  (try dsimp only at H)
  have A5 := Aside0.mk A50
  clear A50
  simp only [Option.some.injEq, Prod.mk.injEq] at H
  obtain ⟨rfl, rfl⟩ := H
  go_enter Tryz.func48, Tryz.ntmps48
  go_wp2_with (first | ((with_reducible refine gate_dst (N := 6) rfl ?_); refine box_event ?hg (N := 6) ?hd (cs := #[.slice none 0 0]) (t := 29) ?hr ?_; (case hd => rfl); (case hg => rfl); (case hr => first | (go_simp; done) | (go_simp; rfl)); intro TA hg w6 hbox hb; have dA := Aside0.mk (below_step q1_0 hb); have fA := Aside0.mk (hbox); have iA := Aside0.mk ((q1_6 : w.heap.size ≤ TA)); have pA := Aside0.mk ((q1_6 : w.heap.size ≤ TA)); clear HB; have HB := dA; have WA := fA; have aH := iA; have oF := pA; clear dA fA iA pA; clear hb hbox hg) | ((with_reducible refine gate_callee (f := 79) rfl ?_); refine goesL_ (some 13) rfl rfl Tryz.func79 q1_31 rfl #[.int .i64 a1, .bool a2] rfl q1_1 ?_; (with_reducible refine (impl_StNew.calls k a1 a2 ZI sM _ A5.out).mono ?_); rintro e w7 ⟨BO, rfl, ho0, hb⟩; refine ⟨_, rfl, ?_⟩; have dA := Aside0.mk (Kd.R_lower ho0 (below_size q1_9)); have fA := Aside0.mk (blk_below (g := TA) (o := .cells #[.slice none 0 0] 29 (0, 0)) (by (with_reducible repeat (first | refine blk_drewN ?_ _ | refine blk_drew ?_ | refine blk_alloc ?_ _)); exact WA.out) hb); have iA := Aside0.mk (below_step q1_9 hb); clear WA HB; have HI := dA; have WA := fA; have HB := iA; clear dA fA iA; (try clear hb); (try clear hb2); (try clear hk); (try clear hi); (try clear ho0); obtain ⟨eK, fK, fM⟩ := Kd.R_slice HI.out; subst fM; have GE : w7.cell? ⟨TA, 0, none⟩ = some (.slice none 0 0) := (blk_cell WA.out 0).trans rfl; have HE := blk_frozen WA.out 0))
  refine bodyPost_ret (results_ct rfl _ _ TA 29 #[.slice eK ZI.length fK] (0, 0) _ rfl q1_20 Tryz.underlying29 rfl q1_31) rfl ?_
  exact ⟨_, q1_2, by (with_reducible repeat (first | apply Kd.R_alloc | apply Kd.R_drewN | apply Kd.R_drew)); exact Kd.R_mono (Kd.R_far (p := ⟨TA, 0, none⟩) (Kd.R_types HI.out WA.out q1_53) (fun _ hk => hk.2) (.slice eK ZI.length fK)) (fun _ hk => trivial), q1_9⟩
 ·rw [if_neg c4] at H
  have wD : (a0 == 1) = false := beq_eq_false_iff_ne.mpr c4
  have rM : (a0 != 1) = true := bne_iff_ne.mpr c4
  by_cases c10 : a0 = 2
  ·rw [if_pos c10] at H
   have BK : (a0 == 2) = true := beq_iff_eq.mpr c10
   have CK : (a0 != 2) = false := bne_eq_false_iff_eq.mpr c10
   clear c10
   replace H := Option.bind_eq_some_iff.mp H
   obtain ⟨⟨aJ, tM⟩, A110, H⟩ := H
   (try dsimp only at H)
   have A11 := Aside0.mk A110
   clear A110
   simp only [Option.some.injEq, Prod.mk.injEq] at H
   obtain ⟨rfl, rfl⟩ := H
   go_enter Tryz.func48, Tryz.ntmps48
   go_wp2_with (first | ((with_reducible refine gate_dst (N := 6) rfl ?_); refine box_event ?hg (N := 6) ?hd (cs := #[.slice none 0 0]) (t := 29) ?hr ?_; (case hd => rfl); (case hg => rfl); (case hr => first | (go_simp; done) | (go_simp; rfl)); intro TA hg kD hbox hb; have dA := Aside0.mk (below_step q1_0 hb); have fA := Aside0.mk (hbox); have iA := Aside0.mk ((q1_6 : w.heap.size ≤ TA)); have pA := Aside0.mk ((q1_6 : w.heap.size ≤ TA)); clear HB; have HB := dA; have WA := fA; have aH := iA; have oF := pA; clear dA fA iA pA; clear hb hbox hg) | ((with_reducible refine gate_callee (f := 80) rfl ?_); refine goesL_ (some 19) rfl rfl Tryz.func80 q1_31 rfl #[.int .i64 a1] rfl q1_1 ?_; (with_reducible refine (impl_RiNew.calls k a1 aJ tM _ A11.out).mono ?_); rintro e CE ⟨CO, rfl, ho0, hb⟩; refine ⟨_, rfl, ?_⟩; have dA := Aside0.mk (Kd.R_lower ho0 (below_size q1_9)); have fA := Aside0.mk (blk_below (g := TA) (o := .cells #[.slice none 0 0] 29 (0, 0)) (by (with_reducible repeat (first | refine blk_drewN ?_ _ | refine blk_drew ?_ | refine blk_alloc ?_ _)); exact WA.out) hb); have iA := Aside0.mk (below_step q1_9 hb); clear WA HB; have II := dA; have WA := fA; have HB := iA; clear dA fA iA; (try clear hb); (try clear hb2); (try clear hk); (try clear hi); (try clear ho0); obtain ⟨DK, EK, uM⟩ := Kd.R_slice II.out; subst uM; have iD : CE.cell? ⟨TA, 0, none⟩ = some (.slice none 0 0) := (blk_cell WA.out 0).trans rfl; have jD := blk_frozen WA.out 0))
   refine bodyPost_ret (results_ct rfl _ _ TA 29 #[.slice DK aJ.length EK] (0, 0) _ rfl q1_20 Tryz.underlying29 rfl q1_31) rfl ?_
   exact ⟨_, q1_2, by (with_reducible repeat (first | apply Kd.R_alloc | apply Kd.R_drewN | apply Kd.R_drew)); exact Kd.R_mono (Kd.R_far (p := ⟨TA, 0, none⟩) (Kd.R_types II.out WA.out q1_53) (fun _ hk => hk.2) (.slice DK aJ.length EK)) (fun _ hk => trivial), q1_9⟩
  ·rw [if_neg c10] at H
   have BK : (a0 == 2) = false := beq_eq_false_iff_ne.mpr c10
   have CK : (a0 != 2) = true := bne_iff_ne.mpr c10
   by_cases c16 : a0 = 3
   ·rw [if_pos c16] at H
    have xF : (a0 == 3) = true := beq_iff_eq.mpr c16
    have FK : (a0 != 3) = false := bne_eq_false_iff_eq.mpr c16
    clear c16
    replace H := Option.bind_eq_some_iff.mp H
    obtain ⟨⟨bJ, vM⟩, A170, H⟩ := H
    (try dsimp only at H)
    have A17 := Aside0.mk A170
    clear A170
    simp only [Option.some.injEq, Prod.mk.injEq] at H
    obtain ⟨rfl, rfl⟩ := H
    go_enter Tryz.func48, Tryz.ntmps48
    go_wp2_with (first | ((with_reducible refine gate_dst (N := 6) rfl ?_); refine box_event ?hg (N := 6) ?hd (cs := #[.slice none 0 0]) (t := 29) ?hr ?_; (case hd => rfl); (case hg => rfl); (case hr => first | (go_simp; done) | (go_simp; rfl)); intro TA hg OO hbox hb; have dA := Aside0.mk (below_step q1_0 hb); have fA := Aside0.mk (hbox); have iA := Aside0.mk ((q1_6 : w.heap.size ≤ TA)); have pA := Aside0.mk ((q1_6 : w.heap.size ≤ TA)); clear HB; have HB := dA; have WA := fA; have aH := iA; have oF := pA; clear dA fA iA pA; clear hb hbox hg) | ((with_reducible refine gate_callee (f := 81) rfl ?_); refine goesL_ (some 25) rfl rfl Tryz.func81 q1_31 rfl #[.int .i64 a1] rfl q1_1 ?_; (with_reducible refine (impl_LiNew.calls a1 bJ vM _ A17.out).mono ?_); rintro e WN ⟨DO, rfl, ho0, hb⟩; refine ⟨_, rfl, ?_⟩; have dA := Aside0.mk (Kd.R_lower ho0 (below_size q1_9)); have fA := Aside0.mk (blk_below (g := TA) (o := .cells #[.slice none 0 0] 29 (0, 0)) (by (with_reducible repeat (first | refine blk_drewN ?_ _ | refine blk_drew ?_ | refine blk_alloc ?_ _)); exact WA.out) hb); have iA := Aside0.mk (below_step q1_9 hb); clear WA HB; have JI := dA; have WA := fA; have HB := iA; clear dA fA iA; (try clear hb); (try clear hb2); (try clear hk); (try clear hi); (try clear ho0); obtain ⟨GK, HK, wM⟩ := Kd.R_slice JI.out; subst wM; have tH : WN.cell? ⟨TA, 0, none⟩ = some (.slice none 0 0) := (blk_cell WA.out 0).trans rfl; have uH := blk_frozen WA.out 0))
    refine bodyPost_ret (results_ct rfl _ _ TA 29 #[.slice GK bJ.length HK] (0, 0) _ rfl q1_20 Tryz.underlying29 rfl q1_31) rfl ?_
    exact ⟨_, q1_2, by (with_reducible repeat (first | apply Kd.R_alloc | apply Kd.R_drewN | apply Kd.R_drew)); exact Kd.R_mono (Kd.R_far (p := ⟨TA, 0, none⟩) (Kd.R_types JI.out WA.out q1_53) (fun _ hk => hk.2) (.slice GK bJ.length HK)) (fun _ hk => trivial), q1_9⟩
   ·rw [if_neg c16] at H
    have xF : (a0 == 3) = false := beq_eq_false_iff_ne.mpr c16
    have FK : (a0 != 3) = true := bne_iff_ne.mpr c16
    simp only [Option.some.injEq, Prod.mk.injEq] at H
    obtain ⟨rfl, rfl⟩ := H
    go_enter Tryz.func48, Tryz.ntmps48
    go_wp2_with (first | ((with_reducible refine gate_dst (N := 6) rfl ?_); refine box_event ?hg (N := 6) ?hd (cs := #[.slice none 0 0]) (t := 29) ?hr ?_; (case hd => rfl); (case hg => rfl); (case hr => first | (go_simp; done) | (go_simp; rfl)); intro TA hg xK hbox hb; have dA := Aside0.mk (below_step q1_0 hb); have fA := Aside0.mk (hbox); have iA := Aside0.mk ((q1_6 : w.heap.size ≤ TA)); have pA := Aside0.mk ((q1_6 : w.heap.size ≤ TA)); clear HB; have HB := dA; have WA := fA; have aH := iA; have oF := pA; clear dA fA iA pA; clear hb hbox hg; have xH : xK.cell? ⟨TA, 0, none⟩ = some (.slice none 0 0) := (blk_cell WA.out 0).trans rfl; have yH := blk_frozen WA.out 0))
    refine bodyPost_ret (results_ct rfl _ _ TA 29 #[.slice none 0 0] (0, 0) _ rfl q1_20 Tryz.underlying29 rfl q1_31) rfl ?_
    exact ⟨_, q1_2, q1_35, q1_9⟩
def laws_szIntS.f (l0 : List Int) (a1 : Int) : Option (Int) := if (wrap64 (a1 - (l0.length : Int))) < 0 then (some (-1)) else (some (wrap64 (a1 - (l0.length : Int))))
set_option maxHeartbeats 8000000 in
set_option maxRecDepth 100000 in
theorem laws_szIntS.calls (A0 : Option Addr) (c0 : Nat) (l0 : List Int) (a1 : Int) (r : Int) (w : World) (hr0 : Kd.C (Kd.int .i64) w A0 l0.length l0) (hc0 : l0.length ≤ c0) (h : laws_szIntS.f l0 a1 = some r) :
  Calls Tryz.prog 35 #[.slice A0 l0.length c0, .int .i64 a1] w fun e w' => e = .returned (.int .i64 r) ∧ Drawn0 w w' := by
 clear hr0 hc0
 have H : (if (wrap64 (a1 - (l0.length : Int))) < 0 then (some (-1)) else (some (wrap64 (a1 - (l0.length : Int))))) = some r := h
 clear h
 by_cases c3 : (wrap64 (a1 - (l0.length : Int))) < 0
 ·rw [if_pos c3] at H
  have eD : decide ((wrap64 (a1 - (l0.length : Int))) < 0) = true := decide_eq_true c3
  clear c3
  obtain rfl := Option.some.inj H
  go_enter Tryz.func35, Tryz.ntmps35
  go_wp2
  go_ret
  exact ⟨q1_17, q1_54⟩
 ·rw [if_neg c3] at H
  have eD : decide ((wrap64 (a1 - (l0.length : Int))) < 0) = false := decide_eq_false c3
  clear c3
  obtain rfl := Option.some.inj H
  go_enter Tryz.func35, Tryz.ntmps35
  go_wp2
  go_ret
  exact ⟨q1_17, q1_54⟩
def laws_szMem.f (hA : List Int) (a1 : Int) : Option (Int) := (laws_szIntS.f hA a1).bind fun xD => (if xD < 0 then (some (-1)) else (some xD))
set_option maxHeartbeats 8000000 in
set_option maxRecDepth 100000 in
theorem laws_szMem.calls (rA : Option Addr) (sA : Nat) (hA : List Int) (a1 : Int) (r : Int) (w : World) (qB : Kd.C (Kd.int .i64) w rA hA.length hA) (vB : hA.length ≤ sA) (h : laws_szMem.f hA a1 = some r) :
  Calls Tryz.prog 17 #[.agg #[.slice rA hA.length sA], .int .i64 a1] w fun e w' => e = .returned (.int .i64 r) ∧ Below w.heap.size w w' := by
 have hu24 := Tryz.underlying24
 have mD := Aside0.mk qB
 have LB := Aside0.mk vB
 clear qB vB
 have HB := Aside0.mk (Below.refl w.heap.size w)
 have H : ((laws_szIntS.f hA a1).bind fun xD => (if xD < 0 then (some (-1)) else (some xD))) = some r := h
 clear h
 replace H := Option.bind_eq_some_iff.mp H
 obtain ⟨xD, A30, H⟩ := H
 (try dsimp only at H)
 have A3 := Aside0.mk A30
 clear A30
 by_cases c4 : xD < 0
 ·rw [if_pos c4] at H
  have wD : decide (xD < 0) = true := decide_eq_true c4
  clear c4
  obtain rfl := Option.some.inj H
  go_enter Tryz.func17, Tryz.ntmps17
  go_wp2_with (first | ((with_reducible refine gate_dst (N := 2) rfl ?_); refine box_event ?hg (N := 2) ?hd (cs := #[.slice rA hA.length sA]) (t := 24) ?hr ?_; (case hd => rfl); (case hg => rfl); (case hr => first | (go_simp; done) | (go_simp; rfl)); intro yD hg w5 hbox hb; have dA := Aside0.mk (below_step q1_0 hb); have fA := Aside0.mk (hbox); have iA := Aside0.mk ((q1_6 : w.heap.size ≤ yD)); have pA := Aside0.mk ((q1_6 : w.heap.size ≤ yD)); clear HB; have HB := dA; have zE := fA; have IK := iA; have bH := pA; clear dA fA iA pA; clear hb hbox hg; have EE : w5.cell? ⟨yD, 0, none⟩ = some (.slice rA hA.length sA) := (blk_cell zE.out 0).trans rfl; have FE := blk_frozen zE.out 0) | ((with_reducible refine gate_callee (f := 35) rfl ?_); refine goesL_ (some 8) rfl rfl Tryz.func35 q1_31 rfl #[.slice rA hA.length sA, .int .i64 a1] rfl q1_1 ?_; (with_reducible refine (laws_szIntS.calls _ _ hA a1 xD _ ?side1 ?side2 A3.out).mono ?_); (case side1 => exact q1_11); (case side2 => exact LB.out); rintro e w' ⟨rfl, ⟨nd, rfl⟩⟩; refine ⟨_, rfl, ?_⟩))
  go_ret
  exact ⟨q1_2, by repeat (first | (with_reducible first | exact HB.out | apply below_alloc | apply pw_below_drewN | apply below_drew1 | refine below_set ?_ bH.out) | exact HB.out)⟩
 ·rw [if_neg c4] at H
  have wD : decide (xD < 0) = false := decide_eq_false c4
  clear c4
  obtain rfl := Option.some.inj H
  go_enter Tryz.func17, Tryz.ntmps17
  go_wp2_with (first | ((with_reducible refine gate_dst (N := 2) rfl ?_); refine box_event ?hg (N := 2) ?hd (cs := #[.slice rA hA.length sA]) (t := 24) ?hr ?_; (case hd => rfl); (case hg => rfl); (case hr => first | (go_simp; done) | (go_simp; rfl)); intro yD hg w7 hbox hb; have dA := Aside0.mk (below_step q1_0 hb); have fA := Aside0.mk (hbox); have iA := Aside0.mk ((q1_6 : w.heap.size ≤ yD)); have pA := Aside0.mk ((q1_6 : w.heap.size ≤ yD)); clear HB; have HB := dA; have zE := fA; have IK := iA; have bH := pA; clear dA fA iA pA; clear hb hbox hg; have UG : w7.cell? ⟨yD, 0, none⟩ = some (.slice rA hA.length sA) := (blk_cell zE.out 0).trans rfl; have VG := blk_frozen zE.out 0) | ((with_reducible refine gate_callee (f := 35) rfl ?_); refine goesL_ (some 8) rfl rfl Tryz.func35 q1_31 rfl #[.slice rA hA.length sA, .int .i64 a1] rfl q1_1 ?_; (with_reducible refine (laws_szIntS.calls _ _ hA a1 xD _ ?side1 ?side2 A3.out).mono ?_); (case side1 => exact q1_11); (case side2 => exact LB.out); rintro e w' ⟨rfl, ⟨nd, rfl⟩⟩; refine ⟨_, rfl, ?_⟩))
  go_ret
  exact ⟨q1_2, by repeat (first | (with_reducible first | exact HB.out | apply below_alloc | apply pw_below_drewN | apply below_drew1 | refine below_set ?_ bH.out) | exact HB.out)⟩
def laws_szCallS.f (l0 : List (S114)) (a1 : Int) : Option (Int) := if (wrap64 (a1 - (l0.length : Int))) < 0 then (some (-1)) else (some (wrap64 (a1 - (l0.length : Int))))
set_option maxHeartbeats 8000000 in
set_option maxRecDepth 100000 in
theorem laws_szCallS.calls (A0 : Option Addr) (c0 : Nat) (l0 : List (S114)) (a1 : Int) (r : Int) (w : World) (hr0 : Kd.C k114 w A0 l0.length l0) (hc0 : l0.length ≤ c0) (h : laws_szCallS.f l0 a1 = some r) :
  Calls Tryz.prog 61 #[.slice A0 l0.length c0, .int .i64 a1] w fun e w' => e = .returned (.int .i64 r) ∧ Drawn0 w w' := by
 clear hr0 hc0
 have H : (if (wrap64 (a1 - (l0.length : Int))) < 0 then (some (-1)) else (some (wrap64 (a1 - (l0.length : Int))))) = some r := h
 clear h
 by_cases c3 : (wrap64 (a1 - (l0.length : Int))) < 0
 ·rw [if_pos c3] at H
  have eD : decide ((wrap64 (a1 - (l0.length : Int))) < 0) = true := decide_eq_true c3
  clear c3
  obtain rfl := Option.some.inj H
  go_enter Tryz.func61, Tryz.ntmps61
  go_wp2
  go_ret
  exact ⟨q1_17, q1_54⟩
 ·rw [if_neg c3] at H
  have eD : decide ((wrap64 (a1 - (l0.length : Int))) < 0) = false := decide_eq_false c3
  clear c3
  obtain rfl := Option.some.inj H
  go_enter Tryz.func61, Tryz.ntmps61
  go_wp2
  go_ret
  exact ⟨q1_17, q1_54⟩
def laws_szThread.f (hA : List (S114)) (cA : Int) (eA : List Int) (aA : List Int) (a1 : Int) : Option (Int) := (laws_szCallS.f hA a1).bind fun UB => (if UB < 0 then (some (-1)) else ((laws_szIntS.f eA UB).bind fun tC => (if tC < 0 then (some (-1)) else ((laws_szIntS.f aA tC).bind fun zD => (if zD < 0 then (some (-1)) else (some zD))))))
set_option maxHeartbeats 8000000 in
set_option maxRecDepth 100000 in
theorem laws_szThread.calls (rA : Option Addr) (sA : Nat) (hA : List (S114)) (cA : Int) (lA : Option Addr) (mA : Nat) (eA : List Int) (qA : Option Addr) (nA : Nat) (aA : List Int) (a1 : Int) (r : Int) (w : World) (qB : Kd.C k114 w rA hA.length hA) (vB : hA.length ≤ sA) (xB : Kd.C (Kd.int .i64) w lA eA.length eA) (yB : eA.length ≤ mA) (sB : Kd.C (Kd.int .i64) w qA aA.length aA) (zB : aA.length ≤ nA) (h : laws_szThread.f hA cA eA aA a1 = some r) :
  Calls Tryz.prog 36 #[.agg #[.slice rA hA.length sA, .int .i64 cA, .slice lA eA.length mA, .slice qA aA.length nA], .int .i64 a1] w fun e w' => e = .returned (.int .i64 r) ∧ Below w.heap.size w w' := by
 have hu66 := Tryz.underlying66
 have mD := Aside0.mk qB
 have LB := Aside0.mk vB
 clear qB vB
 have oD := Aside0.mk xB
 have hC := Aside0.mk yB
 clear xB yB
 have AB := Aside0.mk sB
 have KC := Aside0.mk zB
 clear sB zB
 have HB := Aside0.mk (Below.refl w.heap.size w)
 have H : ((laws_szCallS.f hA a1).bind fun UB => (if UB < 0 then (some (-1)) else ((laws_szIntS.f eA UB).bind fun tC => (if tC < 0 then (some (-1)) else ((laws_szIntS.f aA tC).bind fun zD => (if zD < 0 then (some (-1)) else (some zD))))))) = some r := h
 clear h
 replace H := Option.bind_eq_some_iff.mp H
 obtain ⟨UB, A30, H⟩ := H
 (try dsimp only at H)
 have A3 := Aside0.mk A30
 clear A30
 by_cases c4 : UB < 0
 ·rw [if_pos c4] at H
  have wD : decide (UB < 0) = true := decide_eq_true c4
  clear c4
  obtain rfl := Option.some.inj H
  go_enter Tryz.func36, Tryz.ntmps36
  go_wp2_with (first | ((with_reducible refine gate_dst (N := 2) rfl ?_); refine box_event ?hg (N := 2) ?hd (cs := #[.slice rA hA.length sA, .int .i64 cA, .slice lA eA.length mA, .slice qA aA.length nA]) (t := 66) ?hr ?_; (case hd => rfl); (case hg => rfl); (case hr => first | (go_simp; done) | (go_simp; rfl)); intro OA hg w5 hbox hb; have dA := Aside0.mk (below_step q1_0 hb); have fA := Aside0.mk (hbox); have iA := Aside0.mk ((q1_6 : w.heap.size ≤ OA)); have pA := Aside0.mk ((q1_6 : w.heap.size ≤ OA)); clear HB; have HB := dA; have AA := fA; have cH := iA; have pF := pA; clear dA fA iA pA; clear hb hbox hg; have EE : w5.cell? ⟨OA, 0, none⟩ = some (.slice rA hA.length sA) := (blk_cell AA.out 0).trans rfl; have cJ : w5.cell? ⟨OA, 1, none⟩ = some (.int .i64 cA) := (blk_cell AA.out 1).trans rfl; have dJ : w5.cell? ⟨OA, 2, none⟩ = some (.slice lA eA.length mA) := (blk_cell AA.out 2).trans rfl; have eJ : w5.cell? ⟨OA, 3, none⟩ = some (.slice qA aA.length nA) := (blk_cell AA.out 3).trans rfl; have FE := blk_frozen AA.out 0; have fJ := blk_frozen AA.out 1; have gJ := blk_frozen AA.out 2; have hJ := blk_frozen AA.out 3) | ((with_reducible refine gate_callee (f := 61) rfl ?_); refine goesL_ (some 8) rfl rfl Tryz.func61 q1_31 rfl #[.slice rA hA.length sA, .int .i64 a1] rfl q1_1 ?_; (with_reducible refine (laws_szCallS.calls _ _ hA a1 UB _ ?side1 ?side2 A3.out).mono ?_); (case side1 => exact q1_11); (case side2 => exact LB.out); rintro e w' ⟨rfl, ⟨nd, rfl⟩⟩; refine ⟨_, rfl, ?_⟩))
  go_ret
  exact ⟨q1_2, q1_13⟩
 ·rw [if_neg c4] at H
  have wD : decide (UB < 0) = false := decide_eq_false c4
  clear c4
  replace H := Option.bind_eq_some_iff.mp H
  obtain ⟨tC, A70, H⟩ := H
  (try dsimp only at H)
  have A7 := Aside0.mk A70
  clear A70
  by_cases c8 : tC < 0
  ·rw [if_pos c8] at H
   have jH : decide (tC < 0) = true := decide_eq_true c8
   clear c8
   obtain rfl := Option.some.inj H
   go_enter Tryz.func36, Tryz.ntmps36
   go_wp2_with (first | ((with_reducible refine gate_dst (N := 2) rfl ?_); refine box_event ?hg (N := 2) ?hd (cs := #[.slice rA hA.length sA, .int .i64 cA, .slice lA eA.length mA, .slice qA aA.length nA]) (t := 66) ?hr ?_; (case hd => rfl); (case hg => rfl); (case hr => first | (go_simp; done) | (go_simp; rfl)); intro OA hg w9 hbox hb; have dA := Aside0.mk (below_step q1_0 hb); have fA := Aside0.mk (hbox); have iA := Aside0.mk ((q1_6 : w.heap.size ≤ OA)); have pA := Aside0.mk ((q1_6 : w.heap.size ≤ OA)); clear HB; have HB := dA; have AA := fA; have cH := iA; have pF := pA; clear dA fA iA pA; clear hb hbox hg; have yF : w9.cell? ⟨OA, 0, none⟩ = some (.slice rA hA.length sA) := (blk_cell AA.out 0).trans rfl; have zF : w9.cell? ⟨OA, 1, none⟩ = some (.int .i64 cA) := (blk_cell AA.out 1).trans rfl; have AF : w9.cell? ⟨OA, 2, none⟩ = some (.slice lA eA.length mA) := (blk_cell AA.out 2).trans rfl; have BF : w9.cell? ⟨OA, 3, none⟩ = some (.slice qA aA.length nA) := (blk_cell AA.out 3).trans rfl; have CF := blk_frozen AA.out 0; have DF := blk_frozen AA.out 1; have EF := blk_frozen AA.out 2; have FF := blk_frozen AA.out 3) | ((with_reducible refine gate_callee (f := 61) rfl ?_); refine goesL_ (some 8) rfl rfl Tryz.func61 q1_31 rfl #[.slice rA hA.length sA, .int .i64 a1] rfl q1_1 ?_; (with_reducible refine (laws_szCallS.calls _ _ hA a1 UB _ ?side1 ?side2 A3.out).mono ?_); (case side1 => exact q1_11); (case side2 => exact LB.out); rintro e w' ⟨rfl, ⟨nd, rfl⟩⟩; refine ⟨_, rfl, ?_⟩) | ((with_reducible refine gate_callee (f := 35) rfl ?_); refine goesL_ (some 14) rfl rfl Tryz.func35 q1_31 rfl #[.slice lA eA.length mA, .int .i64 UB] rfl q1_1 ?_; (with_reducible refine (laws_szIntS.calls _ _ eA UB tC _ ?side1 ?side2 A7.out).mono ?_); (case side1 => exact q1_46); (case side2 => exact hC.out); rintro e w' ⟨rfl, ⟨nd, rfl⟩⟩; refine ⟨_, rfl, ?_⟩))
   go_ret
   exact ⟨q1_2, q1_13⟩
  ·rw [if_neg c8] at H
   have jH : decide (tC < 0) = false := decide_eq_false c8
   clear c8
   replace H := Option.bind_eq_some_iff.mp H
   obtain ⟨zD, A110, H⟩ := H
   (try dsimp only at H)
   have A11 := Aside0.mk A110
   clear A110
   by_cases c12 : zD < 0
   ·rw [if_pos c12] at H
    have JK : decide (zD < 0) = true := decide_eq_true c12
    clear c12
    obtain rfl := Option.some.inj H
    go_enter Tryz.func36, Tryz.ntmps36
    go_wp2_with (first | ((with_reducible refine gate_dst (N := 2) rfl ?_); refine box_event ?hg (N := 2) ?hd (cs := #[.slice rA hA.length sA, .int .i64 cA, .slice lA eA.length mA, .slice qA aA.length nA]) (t := 66) ?hr ?_; (case hd => rfl); (case hg => rfl); (case hr => first | (go_simp; done) | (go_simp; rfl)); intro OA hg CE hbox hb; have dA := Aside0.mk (below_step q1_0 hb); have fA := Aside0.mk (hbox); have iA := Aside0.mk ((q1_6 : w.heap.size ≤ OA)); have pA := Aside0.mk ((q1_6 : w.heap.size ≤ OA)); clear HB; have HB := dA; have AA := fA; have cH := iA; have pF := pA; clear dA fA iA pA; clear hb hbox hg; have GF : CE.cell? ⟨OA, 0, none⟩ = some (.slice rA hA.length sA) := (blk_cell AA.out 0).trans rfl; have HF : CE.cell? ⟨OA, 1, none⟩ = some (.int .i64 cA) := (blk_cell AA.out 1).trans rfl; have IF : CE.cell? ⟨OA, 2, none⟩ = some (.slice lA eA.length mA) := (blk_cell AA.out 2).trans rfl; have JF : CE.cell? ⟨OA, 3, none⟩ = some (.slice qA aA.length nA) := (blk_cell AA.out 3).trans rfl; have KF := blk_frozen AA.out 0; have LF := blk_frozen AA.out 1; have MF := blk_frozen AA.out 2; have NF := blk_frozen AA.out 3) | ((with_reducible refine gate_callee (f := 61) rfl ?_); refine goesL_ (some 8) rfl rfl Tryz.func61 q1_31 rfl #[.slice rA hA.length sA, .int .i64 a1] rfl q1_1 ?_; (with_reducible refine (laws_szCallS.calls _ _ hA a1 UB _ ?side1 ?side2 A3.out).mono ?_); (case side1 => exact q1_11); (case side2 => exact LB.out); rintro e w' ⟨rfl, ⟨nd, rfl⟩⟩; refine ⟨_, rfl, ?_⟩) | ((with_reducible refine gate_callee (f := 35) rfl ?_); refine goesL_ (some 14) rfl rfl Tryz.func35 q1_31 rfl #[.slice lA eA.length mA, .int .i64 UB] rfl q1_1 ?_; (with_reducible refine (laws_szIntS.calls _ _ eA UB tC _ ?side1 ?side2 A7.out).mono ?_); (case side1 => exact q1_46); (case side2 => exact hC.out); rintro e w' ⟨rfl, ⟨nd, rfl⟩⟩; refine ⟨_, rfl, ?_⟩) | ((with_reducible refine gate_callee (f := 35) rfl ?_); refine goesL_ (some 20) rfl rfl Tryz.func35 q1_31 rfl #[.slice qA aA.length nA, .int .i64 tC] rfl q1_1 ?_; (with_reducible refine (laws_szIntS.calls _ _ aA tC zD _ ?side1 ?side2 A11.out).mono ?_); (case side1 => repeat (first | exact (Kd.C_below AB.out q1_13) | (with_reducible refine Kd.C_alloc ?_ _) | (with_reducible refine Kd.C_drewN ?_ _) | (with_reducible refine Kd.C_drew ?_))); (case side2 => exact KC.out); rintro e w' ⟨rfl, ⟨nd, rfl⟩⟩; refine ⟨_, rfl, ?_⟩))
    go_ret
    exact ⟨q1_2, q1_13⟩
   ·rw [if_neg c12] at H
    have JK : decide (zD < 0) = false := decide_eq_false c12
    clear c12
    obtain rfl := Option.some.inj H
    go_enter Tryz.func36, Tryz.ntmps36
    go_wp2_with (first | ((with_reducible refine gate_dst (N := 2) rfl ?_); refine box_event ?hg (N := 2) ?hd (cs := #[.slice rA hA.length sA, .int .i64 cA, .slice lA eA.length mA, .slice qA aA.length nA]) (t := 66) ?hr ?_; (case hd => rfl); (case hg => rfl); (case hr => first | (go_simp; done) | (go_simp; rfl)); intro OA hg CD hbox hb; have dA := Aside0.mk (below_step q1_0 hb); have fA := Aside0.mk (hbox); have iA := Aside0.mk ((q1_6 : w.heap.size ≤ OA)); have pA := Aside0.mk ((q1_6 : w.heap.size ≤ OA)); clear HB; have HB := dA; have AA := fA; have cH := iA; have pF := pA; clear dA fA iA pA; clear hb hbox hg; have zH : CD.cell? ⟨OA, 0, none⟩ = some (.slice rA hA.length sA) := (blk_cell AA.out 0).trans rfl; have AH : CD.cell? ⟨OA, 1, none⟩ = some (.int .i64 cA) := (blk_cell AA.out 1).trans rfl; have BH : CD.cell? ⟨OA, 2, none⟩ = some (.slice lA eA.length mA) := (blk_cell AA.out 2).trans rfl; have CH : CD.cell? ⟨OA, 3, none⟩ = some (.slice qA aA.length nA) := (blk_cell AA.out 3).trans rfl; have DH := blk_frozen AA.out 0; have EH := blk_frozen AA.out 1; have FH := blk_frozen AA.out 2; have GH := blk_frozen AA.out 3) | ((with_reducible refine gate_callee (f := 61) rfl ?_); refine goesL_ (some 8) rfl rfl Tryz.func61 q1_31 rfl #[.slice rA hA.length sA, .int .i64 a1] rfl q1_1 ?_; (with_reducible refine (laws_szCallS.calls _ _ hA a1 UB _ ?side1 ?side2 A3.out).mono ?_); (case side1 => exact q1_11); (case side2 => exact LB.out); rintro e w' ⟨rfl, ⟨nd, rfl⟩⟩; refine ⟨_, rfl, ?_⟩) | ((with_reducible refine gate_callee (f := 35) rfl ?_); refine goesL_ (some 14) rfl rfl Tryz.func35 q1_31 rfl #[.slice lA eA.length mA, .int .i64 UB] rfl q1_1 ?_; (with_reducible refine (laws_szIntS.calls _ _ eA UB tC _ ?side1 ?side2 A7.out).mono ?_); (case side1 => exact q1_46); (case side2 => exact hC.out); rintro e w' ⟨rfl, ⟨nd, rfl⟩⟩; refine ⟨_, rfl, ?_⟩) | ((with_reducible refine gate_callee (f := 35) rfl ?_); refine goesL_ (some 20) rfl rfl Tryz.func35 q1_31 rfl #[.slice qA aA.length nA, .int .i64 tC] rfl q1_1 ?_; (with_reducible refine (laws_szIntS.calls _ _ aA tC zD _ ?side1 ?side2 A11.out).mono ?_); (case side1 => repeat (first | exact (Kd.C_below AB.out q1_13) | (with_reducible refine Kd.C_alloc ?_ _) | (with_reducible refine Kd.C_drewN ?_ _) | (with_reducible refine Kd.C_drew ?_))); (case side2 => exact KC.out); rintro e w' ⟨rfl, ⟨nd, rfl⟩⟩; refine ⟨_, rfl, ?_⟩))
    go_ret
    exact ⟨q1_2, q1_13⟩
def laws_szThreadS.l0 : Nat → List (S66) → Int → Int → Option (Int)
 | 0, _, _, _ => none
 | k + 1, x0, x1, x5 => if x5 < (x0.length : Int) then (if 0 ≤ x5 then ((laws_szThread.f ((rd_T66 x0 x5).f0) ((rd_T66 x0 x5).f1) ((rd_T66 x0 x5).f2) ((rd_T66 x0 x5).f3) x1).bind fun WD => (if WD < 0 then (some (-1)) else (laws_szThreadS.l0 k x0 WD (wrap64 (x5 + 1))))) else (none)) else (some x1)
def laws_szThreadS.f (k : Nat) (l0 : List (S66)) (a1 : Int) : Option (Int) := if (wrap64 (a1 - (l0.length : Int))) < 0 then (some (-1)) else (laws_szThreadS.l0 k l0 (wrap64 (a1 - (l0.length : Int))) 0)
theorem laws_szThreadS.mono_l : ∀ k, (∀ y0 y1 y2, LeO (laws_szThreadS.l0 k y0 y1 y2) (laws_szThreadS.l0 (k + 1) y0 y1 y2))
 | 0 => fun _ _ _ r h => by simp [laws_szThreadS.l0] at h
 | k + 1 => by
  have ih0 := laws_szThreadS.mono_l k
  ·intro y0 y1 y2
   unfold laws_szThreadS.l0
   repeat' first
   | (with_reducible exact ih0 _ _ _)
   | (with_reducible exact LeO.refl _)
   | (with_reducible exact LeO.none _)
   | (with_reducible refine LeO.ite ?_ ?_)
   | (with_reducible refine LeO.bind ?_ (fun _ => ?_))
   | exact ih0 _ _ _
   | exact LeO.none _
   | refine LeO.ite ?_ ?_
   | refine LeO.bind ?_ (fun _ => ?_)
theorem laws_szThreadS.mono : ∀ a0 a1 k, LeO (laws_szThreadS.f k a0 a1) (laws_szThreadS.f (k + 1) a0 a1) := by
 intro a0 a1 k
 have ih0 := laws_szThreadS.mono_l k
 unfold laws_szThreadS.f
 repeat' first
   | (with_reducible exact ih0 _ _ _)
   | (with_reducible exact LeO.refl _)
   | (with_reducible exact LeO.none _)
   | (with_reducible refine LeO.ite ?_ ?_)
   | (with_reducible refine LeO.bind ?_ (fun _ => ?_))
   | exact ih0 _ _ _
   | exact LeO.none _
   | refine LeO.ite ?_ ?_
   | refine LeO.bind ?_ (fun _ => ?_)
set_option maxHeartbeats 8000000 in
set_option maxRecDepth 100000 in
theorem laws_szThreadS.calls (k : Nat) (A0 : Option Addr) (c0 : Nat) (l0 : List (S66)) (a1 : Int) (r : Int) (w : World) (hr0 : Kd.C k66 w A0 l0.length l0) (hc0 : l0.length ≤ c0) (h : laws_szThreadS.f k l0 a1 = some r) :
  Calls Tryz.prog 18 #[.slice A0 l0.length c0, .int .i64 a1] w fun e w' => e = .returned (.int .i64 r) ∧ Below w.heap.size w w' := by
 have hu66 := Tryz.underlying66
 have HR0 := Aside0.mk hr0
 clear hr0 hc0
 have HB := Aside0.mk (Below.refl w.heap.size w)
 have H : (if (wrap64 (a1 - (l0.length : Int))) < 0 then (some (-1)) else (laws_szThreadS.l0 k l0 (wrap64 (a1 - (l0.length : Int))) 0)) = some r := h
 clear h
 by_cases c3 : (wrap64 (a1 - (l0.length : Int))) < 0
 ·rw [if_pos c3] at H
  have eD : decide ((wrap64 (a1 - (l0.length : Int))) < 0) = true := decide_eq_true c3
  clear c3
  obtain rfl := Option.some.inj H
  go_enter Tryz.func18, Tryz.ntmps18
  go_wp2
  go_ret
  exact ⟨q1_2, q1_0⟩
 ·rw [if_neg c3] at H
  have eD : decide ((wrap64 (a1 - (l0.length : Int))) < 0) = false := decide_eq_false c3
  clear c3
  have H' := Aside0.mk H
  clear H
  go_enter Tryz.func18, Tryz.ntmps18
  go_wp2
  go_loopg [1, 5] k (fun kq v1 v5 w' => ∃ (VE : Int) (hB : Int), v1 = .int .i64 VE ∧ v5 = .int .i64 hB ∧ Aside0 (laws_szThreadS.l0 kq l0 VE hB = some r) ∧ Aside0 (kq ≤ k) ∧ Aside0 (Below w.heap.size w w'))
  case atStart => exact ⟨(wrap64 (a1 - (l0.length : Int))), (0), q1_17, q1_17, H', ⟨Nat.le_refl _⟩, ⟨q1_0⟩⟩
  case round =>
   clear H'
   (try clear c1); (try clear p2); (try clear c3); (try clear eD)
   obtain ⟨VE, hB, rfl, rfl, HA, HK1, HB⟩ := hrel
   cases gk with
   | zero => exact absurd HA.out (by simp [laws_szThreadS.l0])
   | succ k1 =>
    have H := HA.out
    clear HA
    simp only [laws_szThreadS.l0] at H
    by_cases c4 : hB < (l0.length : Int)
    ·rw [if_pos c4] at H
     have wD : decide (hB < (l0.length : Int)) = true := decide_eq_true c4
     clear c4
     by_cases c5 : 0 ≤ hB
     ·rw [if_pos c5] at H
      have XI : decide (0 ≤ hB) = true := decide_eq_true c5
      clear c5
      replace H := Option.bind_eq_some_iff.mp H
      obtain ⟨WD, A60, H⟩ := H
      (try dsimp only at H)
      have A6 := Aside0.mk A60
      clear A60
      by_cases c7 : WD < 0
      ·rw [if_pos c7] at H
       have uE : decide (WD < 0) = true := decide_eq_true c7
       clear c7
       obtain rfl := Option.some.inj H
       have p107 : 0 ≤ (hB : Int) := of_decide_eq_true q1_3
       have q107 : hB < (l0.length : Int) := of_decide_eq_true q1_3
       obtain ⟨ad107, WE, XE, YE, ZE, bF, cF, iJ, VB, WB, XB, YB, LC, MC, NC, OC, PC, QC⟩ := at_T66 HR0.out hB p107 q107
       cases iJ
       replace VB := (HB.out.cell (World.block_lt_of_cell? w _ VB)).trans VB
       replace WB := (HB.out.cell (World.block_lt_of_cell? w _ WB)).trans WB
       replace XB := (HB.out.cell (World.block_lt_of_cell? w _ XB)).trans XB
       replace YB := (HB.out.cell (World.block_lt_of_cell? w _ YB)).trans YB
       have XD := Aside0.mk MC
       have YD := Aside0.mk LC
       clear MC LC
       have ZD := Aside0.mk OC
       have aE := Aside0.mk NC
       clear OC NC
       have bE := Aside0.mk QC
       have cE := Aside0.mk PC
       clear QC PC
       replace p107 := eq_true p107
       replace q107 := eq_true q107
       go_wp2_with (first | ((with_reducible refine gate_callee (f := 36) rfl ?_); refine goesL_ (some 23) rfl rfl Tryz.func36 q1_31 rfl #[.agg #[.slice WE ((rd_T66 l0 hB).f0).length XE, .int .i64 ((rd_T66 l0 hB).f1), .slice YE ((rd_T66 l0 hB).f2).length ZE, .slice bF ((rd_T66 l0 hB).f3).length cF], .int .i64 VE] rfl q1_1 ?_; (with_reducible refine (laws_szThread.calls _ _ ((rd_T66 l0 hB).f0) ((rd_T66 l0 hB).f1) _ _ ((rd_T66 l0 hB).f2) _ _ ((rd_T66 l0 hB).f3) VE WD _ ?side1 ?side2 ?side3 ?side4 ?side5 ?side6 A6.out).mono ?_); (case side1 => repeat (first | exact (Kd.C_below XD.out HB.out) | (with_reducible refine Kd.C_alloc ?_ _) | (with_reducible refine Kd.C_drewN ?_ _) | (with_reducible refine Kd.C_drew ?_))); (case side2 => exact YD.out); (case side3 => repeat (first | exact (Kd.C_below ZD.out HB.out) | (with_reducible refine Kd.C_alloc ?_ _) | (with_reducible refine Kd.C_drewN ?_ _) | (with_reducible refine Kd.C_drew ?_))); (case side4 => exact aE.out); (case side5 => repeat (first | exact (Kd.C_below bE.out HB.out) | (with_reducible refine Kd.C_alloc ?_ _) | (with_reducible refine Kd.C_drewN ?_ _) | (with_reducible refine Kd.C_drew ?_))); (case side6 => exact cE.out); rintro e w8 ⟨rfl, hb⟩; refine ⟨_, rfl, ?_⟩; have dA := Aside0.mk (below_step q1_0 hb); clear HB; have HB := dA; clear dA; (try clear hb); (try clear hb2); (try clear hk); (try clear hi)))
       go_ret
       exact ⟨q1_2, q1_0⟩
      ·rw [if_neg c7] at H
       have uE : decide (WD < 0) = false := decide_eq_false c7
       clear c7
       have H' := Aside0.mk H
       clear H
       have p107 : 0 ≤ (hB : Int) := of_decide_eq_true q1_3
       have q107 : hB < (l0.length : Int) := of_decide_eq_true q1_3
       obtain ⟨ad107, WE, XE, YE, ZE, bF, cF, iJ, VB, WB, XB, YB, LC, MC, NC, OC, PC, QC⟩ := at_T66 HR0.out hB p107 q107
       cases iJ
       replace VB := (HB.out.cell (World.block_lt_of_cell? w _ VB)).trans VB
       replace WB := (HB.out.cell (World.block_lt_of_cell? w _ WB)).trans WB
       replace XB := (HB.out.cell (World.block_lt_of_cell? w _ XB)).trans XB
       replace YB := (HB.out.cell (World.block_lt_of_cell? w _ YB)).trans YB
       have XD := Aside0.mk MC
       have YD := Aside0.mk LC
       clear MC LC
       have ZD := Aside0.mk OC
       have aE := Aside0.mk NC
       clear OC NC
       have bE := Aside0.mk QC
       have cE := Aside0.mk PC
       clear QC PC
       replace p107 := eq_true p107
       replace q107 := eq_true q107
       go_wp2_with (first | ((with_reducible refine gate_callee (f := 36) rfl ?_); refine goesL_ (some 23) rfl rfl Tryz.func36 q1_31 rfl #[.agg #[.slice WE ((rd_T66 l0 hB).f0).length XE, .int .i64 ((rd_T66 l0 hB).f1), .slice YE ((rd_T66 l0 hB).f2).length ZE, .slice bF ((rd_T66 l0 hB).f3).length cF], .int .i64 VE] rfl q1_1 ?_; (with_reducible refine (laws_szThread.calls _ _ ((rd_T66 l0 hB).f0) ((rd_T66 l0 hB).f1) _ _ ((rd_T66 l0 hB).f2) _ _ ((rd_T66 l0 hB).f3) VE WD _ ?side1 ?side2 ?side3 ?side4 ?side5 ?side6 A6.out).mono ?_); (case side1 => repeat (first | exact (Kd.C_below XD.out HB.out) | (with_reducible refine Kd.C_alloc ?_ _) | (with_reducible refine Kd.C_drewN ?_ _) | (with_reducible refine Kd.C_drew ?_))); (case side2 => exact YD.out); (case side3 => repeat (first | exact (Kd.C_below ZD.out HB.out) | (with_reducible refine Kd.C_alloc ?_ _) | (with_reducible refine Kd.C_drewN ?_ _) | (with_reducible refine Kd.C_drew ?_))); (case side4 => exact aE.out); (case side5 => repeat (first | exact (Kd.C_below bE.out HB.out) | (with_reducible refine Kd.C_alloc ?_ _) | (with_reducible refine Kd.C_drewN ?_ _) | (with_reducible refine Kd.C_drew ?_))); (case side6 => exact cE.out); rintro e w9 ⟨rfl, hb⟩; refine ⟨_, rfl, ?_⟩; have dA := Aside0.mk (below_step q1_0 hb); clear HB; have HB := dA; clear dA; (try clear hb); (try clear hb2); (try clear hk); (try clear hi)))
       go_roundg k1
       case measure => have := HK1.out; omega
       case rel => exact ⟨(WD), (wrap64 (hB + 1)), q1_17, q1_17, H', ⟨by have := HK1.out; omega⟩, ⟨q1_0⟩⟩
     ·rw [if_neg c5] at H
      exact absurd H (by simp)
    ·rw [if_neg c4] at H
     have wD : decide (hB < (l0.length : Int)) = false := decide_eq_false c4
     clear c4
     obtain rfl := Option.some.inj H
     go_wp2
     go_ret
     exact ⟨q1_2, q1_0⟩
def laws_szCrew.f (k : Nat) (jA : Int) (cA : Int) (eA : List Int) (aA : List (S66)) (oA : Int) (a1 : Int) : Option (Int) := (laws_szMem.f eA a1).bind fun uC => (if uC < 0 then (some (-1)) else ((laws_szThreadS.f k aA uC).bind fun AD => (if AD < 0 then (some (-1)) else (some AD))))
theorem laws_szCrew.mono : ∀ a0 a1 a2 a3 a4 a5 k, LeO (laws_szCrew.f k a0 a1 a2 a3 a4 a5) (laws_szCrew.f (k + 1) a0 a1 a2 a3 a4 a5) := by
 intro a0 a1 a2 a3 a4 a5 k
 unfold laws_szCrew.f
 repeat' first
   | (with_reducible exact laws_szThreadS.mono _ _ _)
   | (with_reducible exact LeO.refl _)
   | (with_reducible exact LeO.none _)
   | (with_reducible refine LeO.ite ?_ ?_)
   | (with_reducible refine LeO.bind ?_ (fun _ => ?_))
   | exact laws_szThreadS.mono _ _ _
   | exact LeO.none _
   | refine LeO.ite ?_ ?_
   | refine LeO.bind ?_ (fun _ => ?_)
set_option maxHeartbeats 8000000 in
set_option maxRecDepth 100000 in
theorem laws_szCrew.calls (k : Nat) (jA : Int) (cA : Int) (lA : Option Addr) (mA : Nat) (eA : List Int) (qA : Option Addr) (nA : Nat) (aA : List (S66)) (oA : Int) (a1 : Int) (r : Int) (w : World) (xB : Kd.C (Kd.int .i64) w lA eA.length eA) (yB : eA.length ≤ mA) (sB : Kd.C k66 w qA aA.length aA) (zB : aA.length ≤ nA) (h : laws_szCrew.f k jA cA eA aA oA a1 = some r) :
  Calls Tryz.prog 5 #[.agg #[.int .i64 jA, .int .i64 cA, .slice lA eA.length mA, .slice qA aA.length nA, .int .i64 oA], .int .i64 a1] w fun e w' => e = .returned (.int .i64 r) ∧ Below w.heap.size w w' := by
 have hu27 := Tryz.underlying27
 have hu24 := Tryz.underlying24
 have oD := Aside0.mk xB
 have hC := Aside0.mk yB
 clear xB yB
 have AB := Aside0.mk sB
 have KC := Aside0.mk zB
 clear sB zB
 have HB := Aside0.mk (Below.refl w.heap.size w)
 have H : ((laws_szMem.f eA a1).bind fun uC => (if uC < 0 then (some (-1)) else ((laws_szThreadS.f k aA uC).bind fun AD => (if AD < 0 then (some (-1)) else (some AD))))) = some r := h
 clear h
 replace H := Option.bind_eq_some_iff.mp H
 obtain ⟨uC, A30, H⟩ := H
 (try dsimp only at H)
 have A3 := Aside0.mk A30
 clear A30
 by_cases c4 : uC < 0
 ·rw [if_pos c4] at H
  have wD : decide (uC < 0) = true := decide_eq_true c4
  clear c4
  obtain rfl := Option.some.inj H
  go_enter Tryz.func5, Tryz.ntmps5
  go_wp2_with (first | ((with_reducible refine gate_dst (N := 2) rfl ?_); refine box_event ?hg (N := 2) ?hd (cs := #[.int .i64 jA, .int .i64 cA, .slice lA eA.length mA, .slice qA aA.length nA, .int .i64 oA]) (t := 27) ?hr ?_; (case hd => rfl); (case hg => rfl); (case hr => first | (go_simp; done) | (go_simp; rfl)); intro xA hg w5 hbox hb; have dA := Aside0.mk (below_step q1_0 hb); have fA := Aside0.mk (hbox); have iA := Aside0.mk ((q1_6 : w.heap.size ≤ xA)); have pA := Aside0.mk ((q1_6 : w.heap.size ≤ xA)); clear HB; have HB := dA; have kA := fA; have KI := iA; have QG := pA; clear dA fA iA pA; clear hb hbox hg; have EE : w5.cell? ⟨xA, 0, none⟩ = some (.int .i64 jA) := (blk_cell kA.out 0).trans rfl; have cJ : w5.cell? ⟨xA, 1, none⟩ = some (.int .i64 cA) := (blk_cell kA.out 1).trans rfl; have dJ : w5.cell? ⟨xA, 2, none⟩ = some (.slice lA eA.length mA) := (blk_cell kA.out 2).trans rfl; have eJ : w5.cell? ⟨xA, 3, none⟩ = some (.slice qA aA.length nA) := (blk_cell kA.out 3).trans rfl; have xM : w5.cell? ⟨xA, 4, none⟩ = some (.int .i64 oA) := (blk_cell kA.out 4).trans rfl; have FE := blk_frozen kA.out 0; have fJ := blk_frozen kA.out 1; have gJ := blk_frozen kA.out 2; have hJ := blk_frozen kA.out 3; have yM := blk_frozen kA.out 4) | ((with_reducible refine gate_callee (f := 17) rfl ?_); refine goesL_ (some 8) rfl rfl Tryz.func17 q1_31 rfl #[.agg #[.slice lA eA.length mA], .int .i64 a1] rfl q1_1 ?_; (with_reducible refine (laws_szMem.calls _ _ eA a1 uC _ ?side1 ?side2 A3.out).mono ?_); (case side1 => exact q1_45); (case side2 => exact hC.out); rintro e w7 ⟨rfl, hb⟩; refine ⟨_, rfl, ?_⟩; have dA := Aside0.mk (blk_below (g := xA) (o := .cells #[.int .i64 jA, .int .i64 cA, .slice lA eA.length mA, .slice qA aA.length nA, .int .i64 oA] 27 (0, 0)) q1_33 hb); have fA := Aside0.mk (below_step q1_15 hb); clear kA HB; have kA := dA; have HB := fA; clear dA fA; (try clear hb); (try clear hb2); (try clear hk); (try clear hi)))
  go_ret
  exact ⟨q1_2, q1_15⟩
 ·rw [if_neg c4] at H
  have wD : decide (uC < 0) = false := decide_eq_false c4
  clear c4
  replace H := Option.bind_eq_some_iff.mp H
  obtain ⟨AD, A80, H⟩ := H
  (try dsimp only at H)
  have A8 := Aside0.mk A80
  clear A80
  by_cases c9 : AD < 0
  ·rw [if_pos c9] at H
   have SE : decide (AD < 0) = true := decide_eq_true c9
   clear c9
   obtain rfl := Option.some.inj H
   go_enter Tryz.func5, Tryz.ntmps5
   go_wp2_with (first | ((with_reducible refine gate_dst (N := 2) rfl ?_); refine box_event ?hg (N := 2) ?hd (cs := #[.int .i64 jA, .int .i64 cA, .slice lA eA.length mA, .slice qA aA.length nA, .int .i64 oA]) (t := 27) ?hr ?_; (case hd => rfl); (case hg => rfl); (case hr => first | (go_simp; done) | (go_simp; rfl)); intro xA hg SJ hbox hb; have dA := Aside0.mk (below_step q1_0 hb); have fA := Aside0.mk (hbox); have iA := Aside0.mk ((q1_6 : w.heap.size ≤ xA)); have pA := Aside0.mk ((q1_6 : w.heap.size ≤ xA)); clear HB; have HB := dA; have kA := fA; have KI := iA; have QG := pA; clear dA fA iA pA; clear hb hbox hg; have ID : SJ.cell? ⟨xA, 0, none⟩ = some (.int .i64 jA) := (blk_cell kA.out 0).trans rfl; have HH : SJ.cell? ⟨xA, 1, none⟩ = some (.int .i64 cA) := (blk_cell kA.out 1).trans rfl; have IH : SJ.cell? ⟨xA, 2, none⟩ = some (.slice lA eA.length mA) := (blk_cell kA.out 2).trans rfl; have JH : SJ.cell? ⟨xA, 3, none⟩ = some (.slice qA aA.length nA) := (blk_cell kA.out 3).trans rfl; have KH : SJ.cell? ⟨xA, 4, none⟩ = some (.int .i64 oA) := (blk_cell kA.out 4).trans rfl; have JD := blk_frozen kA.out 0; have LH := blk_frozen kA.out 1; have MH := blk_frozen kA.out 2; have NH := blk_frozen kA.out 3; have OH := blk_frozen kA.out 4) | ((with_reducible refine gate_callee (f := 17) rfl ?_); refine goesL_ (some 8) rfl rfl Tryz.func17 q1_31 rfl #[.agg #[.slice lA eA.length mA], .int .i64 a1] rfl q1_1 ?_; (with_reducible refine (laws_szMem.calls _ _ eA a1 uC _ ?side1 ?side2 A3.out).mono ?_); (case side1 => exact q1_45); (case side2 => exact hC.out); rintro e kD ⟨rfl, hb⟩; refine ⟨_, rfl, ?_⟩; have dA := Aside0.mk (blk_below (g := xA) (o := .cells #[.int .i64 jA, .int .i64 cA, .slice lA eA.length mA, .slice qA aA.length nA, .int .i64 oA] 27 (0, 0)) q1_33 hb); have fA := Aside0.mk (below_step q1_15 hb); clear kA HB; have kA := dA; have HB := fA; clear dA fA; (try clear hb); (try clear hb2); (try clear hk); (try clear hi); have mC : kD.cell? ⟨xA, 0, none⟩ = some (.int .i64 jA) := (blk_cell kA.out 0).trans rfl; have rF : kD.cell? ⟨xA, 1, none⟩ = some (.int .i64 cA) := (blk_cell kA.out 1).trans rfl; have sF : kD.cell? ⟨xA, 2, none⟩ = some (.slice lA eA.length mA) := (blk_cell kA.out 2).trans rfl; have tF : kD.cell? ⟨xA, 3, none⟩ = some (.slice qA aA.length nA) := (blk_cell kA.out 3).trans rfl; have iL : kD.cell? ⟨xA, 4, none⟩ = some (.int .i64 oA) := (blk_cell kA.out 4).trans rfl; have nC := blk_frozen kA.out 0; have uF := blk_frozen kA.out 1; have vF := blk_frozen kA.out 2; have wF := blk_frozen kA.out 3; have jL := blk_frozen kA.out 4) | ((with_reducible refine gate_callee (f := 18) rfl ?_); refine goesL_ (some 14) rfl rfl Tryz.func18 q1_31 rfl #[.slice qA aA.length nA, .int .i64 uC] rfl q1_1 ?_; (with_reducible refine (laws_szThreadS.calls k _ _ aA uC AD _ ?side1 ?side2 A8.out).mono ?_); (case side1 => repeat (first | exact (Kd.C_below AB.out HB.out) | (with_reducible refine Kd.C_alloc ?_ _) | (with_reducible refine Kd.C_drewN ?_ _) | (with_reducible refine Kd.C_drew ?_))); (case side2 => exact KC.out); rintro e EN ⟨rfl, hb⟩; refine ⟨_, rfl, ?_⟩; have dA := Aside0.mk (blk_below (g := xA) (o := .cells #[.int .i64 jA, .int .i64 cA, .slice lA eA.length mA, .slice qA aA.length nA, .int .i64 oA] 27 (0, 0)) q1_33 hb); have fA := Aside0.mk (below_step q1_15 hb); clear kA HB; have kA := dA; have HB := fA; clear dA fA; (try clear hb); (try clear hb2); (try clear hk); (try clear hi)))
   go_ret
   exact ⟨q1_2, q1_15⟩
  ·rw [if_neg c9] at H
   have SE : decide (AD < 0) = false := decide_eq_false c9
   clear c9
   obtain rfl := Option.some.inj H
   go_enter Tryz.func5, Tryz.ntmps5
   go_wp2_with (first | ((with_reducible refine gate_dst (N := 2) rfl ?_); refine box_event ?hg (N := 2) ?hd (cs := #[.int .i64 jA, .int .i64 cA, .slice lA eA.length mA, .slice qA aA.length nA, .int .i64 oA]) (t := 27) ?hr ?_; (case hd => rfl); (case hg => rfl); (case hr => first | (go_simp; done) | (go_simp; rfl)); intro xA hg CD hbox hb; have dA := Aside0.mk (below_step q1_0 hb); have fA := Aside0.mk (hbox); have iA := Aside0.mk ((q1_6 : w.heap.size ≤ xA)); have pA := Aside0.mk ((q1_6 : w.heap.size ≤ xA)); clear HB; have HB := dA; have kA := fA; have KI := iA; have QG := pA; clear dA fA iA pA; clear hb hbox hg; have zH : CD.cell? ⟨xA, 0, none⟩ = some (.int .i64 jA) := (blk_cell kA.out 0).trans rfl; have AH : CD.cell? ⟨xA, 1, none⟩ = some (.int .i64 cA) := (blk_cell kA.out 1).trans rfl; have BH : CD.cell? ⟨xA, 2, none⟩ = some (.slice lA eA.length mA) := (blk_cell kA.out 2).trans rfl; have CH : CD.cell? ⟨xA, 3, none⟩ = some (.slice qA aA.length nA) := (blk_cell kA.out 3).trans rfl; have kL : CD.cell? ⟨xA, 4, none⟩ = some (.int .i64 oA) := (blk_cell kA.out 4).trans rfl; have DH := blk_frozen kA.out 0; have EH := blk_frozen kA.out 1; have FH := blk_frozen kA.out 2; have GH := blk_frozen kA.out 3; have lL := blk_frozen kA.out 4) | ((with_reducible refine gate_callee (f := 17) rfl ?_); refine goesL_ (some 8) rfl rfl Tryz.func17 q1_31 rfl #[.agg #[.slice lA eA.length mA], .int .i64 a1] rfl q1_1 ?_; (with_reducible refine (laws_szMem.calls _ _ eA a1 uC _ ?side1 ?side2 A3.out).mono ?_); (case side1 => exact q1_45); (case side2 => exact hC.out); rintro e KK ⟨rfl, hb⟩; refine ⟨_, rfl, ?_⟩; have dA := Aside0.mk (blk_below (g := xA) (o := .cells #[.int .i64 jA, .int .i64 cA, .slice lA eA.length mA, .slice qA aA.length nA, .int .i64 oA] 27 (0, 0)) q1_33 hb); have fA := Aside0.mk (below_step q1_15 hb); clear kA HB; have kA := dA; have HB := fA; clear dA fA; (try clear hb); (try clear hb2); (try clear hk); (try clear hi); have OF : KK.cell? ⟨xA, 0, none⟩ = some (.int .i64 jA) := (blk_cell kA.out 0).trans rfl; have PF : KK.cell? ⟨xA, 1, none⟩ = some (.int .i64 cA) := (blk_cell kA.out 1).trans rfl; have QF : KK.cell? ⟨xA, 2, none⟩ = some (.slice lA eA.length mA) := (blk_cell kA.out 2).trans rfl; have RF : KK.cell? ⟨xA, 3, none⟩ = some (.slice qA aA.length nA) := (blk_cell kA.out 3).trans rfl; have PH : KK.cell? ⟨xA, 4, none⟩ = some (.int .i64 oA) := (blk_cell kA.out 4).trans rfl; have SF := blk_frozen kA.out 0; have TF := blk_frozen kA.out 1; have UF := blk_frozen kA.out 2; have VF := blk_frozen kA.out 3; have QH := blk_frozen kA.out 4) | ((with_reducible refine gate_callee (f := 18) rfl ?_); refine goesL_ (some 14) rfl rfl Tryz.func18 q1_31 rfl #[.slice qA aA.length nA, .int .i64 uC] rfl q1_1 ?_; (with_reducible refine (laws_szThreadS.calls k _ _ aA uC AD _ ?side1 ?side2 A8.out).mono ?_); (case side1 => repeat (first | exact (Kd.C_below AB.out HB.out) | (with_reducible refine Kd.C_alloc ?_ _) | (with_reducible refine Kd.C_drewN ?_ _) | (with_reducible refine Kd.C_drew ?_))); (case side2 => exact KC.out); rintro e WN ⟨rfl, hb⟩; refine ⟨_, rfl, ?_⟩; have dA := Aside0.mk (blk_below (g := xA) (o := .cells #[.int .i64 jA, .int .i64 cA, .slice lA eA.length mA, .slice qA aA.length nA, .int .i64 oA] 27 (0, 0)) q1_33 hb); have fA := Aside0.mk (below_step q1_15 hb); clear kA HB; have kA := dA; have HB := fA; clear dA fA; (try clear hb); (try clear hb2); (try clear hk); (try clear hi)))
   go_ret
   exact ⟨q1_2, q1_15⟩
def laws_toIntS.l0 : Nat → List Int → List Int → Int → Option (List Int)
 | 0, _, _, _ => none
 | k + 1, x0, x3, x4 => if x4 < (x0.length : Int) then (if 0 ≤ x4 then (if x4 < (x3.length : Int) then (laws_toIntS.l0 k x0 (x3.set (x4 : Int).toNat (rd x0 x4)) (wrap64 (x4 + 1))) else (none)) else (none)) else (some x3)
def laws_toIntS.f (k : Nat) (l0 : List Int) : Option (List Int) := if 0 ≤ (l0.length : Int) then (if ((l0.length : Int) : Int).toNat ≤ 35184372088832 then (laws_toIntS.l0 k l0 (List.replicate ((l0.length : Int) : Int).toNat 0) 0) else (none)) else (none)
theorem laws_toIntS.mono_l : ∀ k, (∀ y0 y1 y2, LeO (laws_toIntS.l0 k y0 y1 y2) (laws_toIntS.l0 (k + 1) y0 y1 y2))
 | 0 => fun _ _ _ r h => by simp [laws_toIntS.l0] at h
 | k + 1 => by
  have ih0 := laws_toIntS.mono_l k
  ·intro y0 y1 y2
   unfold laws_toIntS.l0
   repeat' first
   | (with_reducible exact ih0 _ _ _)
   | (with_reducible exact LeO.refl _)
   | (with_reducible exact LeO.none _)
   | (with_reducible refine LeO.ite ?_ ?_)
   | (with_reducible refine LeO.bind ?_ (fun _ => ?_))
   | exact ih0 _ _ _
   | exact LeO.none _
   | refine LeO.ite ?_ ?_
   | refine LeO.bind ?_ (fun _ => ?_)
theorem laws_toIntS.mono : ∀ a0 k, LeO (laws_toIntS.f k a0) (laws_toIntS.f (k + 1) a0) := by
 intro a0 k
 have ih0 := laws_toIntS.mono_l k
 unfold laws_toIntS.f
 repeat' first
   | (with_reducible exact ih0 _ _ _)
   | (with_reducible exact LeO.refl _)
   | (with_reducible exact LeO.none _)
   | (with_reducible refine LeO.ite ?_ ?_)
   | (with_reducible refine LeO.bind ?_ (fun _ => ?_))
   | exact ih0 _ _ _
   | exact LeO.none _
   | refine LeO.ite ?_ ?_
   | refine LeO.bind ?_ (fun _ => ?_)
set_option maxHeartbeats 8000000 in
set_option maxRecDepth 100000 in
theorem laws_toIntS.calls (k : Nat) (A0 : Option Addr) (c0 : Nat) (l0 : List Int) (r : List Int) (w : World) (hr0 : Kd.C (Kd.int .i64) w A0 l0.length l0) (hc0 : l0.length ≤ c0) (h : laws_toIntS.f k l0 = some r) :
  Calls Tryz.prog 13 #[.slice A0 l0.length c0] w fun e w' => ∃ v0_ : Value, e = .returned (v0_) ∧ Kd.R (Kd.int .i64) 3 w' w.heap.size (fun _ => True) v0_ r ∧ Below w.heap.size w w' := by
 have HR0 := Aside0.mk hr0
 clear hr0 hc0
 have HB := Aside0.mk (Below.refl w.heap.size w)
 have H : (if 0 ≤ (l0.length : Int) then (if ((l0.length : Int) : Int).toNat ≤ 35184372088832 then (laws_toIntS.l0 k l0 (List.replicate ((l0.length : Int) : Int).toNat 0) 0) else (none)) else (none)) = some r := h
 clear h
 by_cases c2 : 0 ≤ (l0.length : Int)
 ·rw [if_pos c2] at H
  have dH := eq_true c2
  have eH : decide (0 ≤ (l0.length : Int)) = true := decide_eq_true c2
  clear c2
  by_cases c3 : ((l0.length : Int) : Int).toNat ≤ 35184372088832
  ·rw [if_pos c3] at H
   have eD := eq_true c3
   have fH : decide (((l0.length : Int) : Int).toNat ≤ 35184372088832) = true := decide_eq_true c3
   clear c3
   obtain ⟨y112, hy112⟩ : ∃ y_ : List Int, y_ = (List.replicate ((l0.length : Int) : Int).toNat 0) := ⟨_, rfl⟩
   replace H : (laws_toIntS.l0 k l0 y112 0) = some r := by first | (rw [hy112]; with_reducible exact H) | (have H2_ := (Option.bind_some _ _).symm.trans H; rw [hy112]; with_reducible exact H2_) | (have H2_ := (Option.bind_some _ _).symm.trans H; with_reducible exact H2_) | with_reducible exact H | (rw [hy112]; exact H) | exact H
   have Ny112 := Aside0.mk hy112
   clear hy112
   have H' := Aside0.mk H
   clear H
   go_enter Tryz.func13, Tryz.ntmps13
   go_wp2_with (first | ((with_reducible refine gate_dst (N := 7) rfl ?_); refine Kd.R_make (Kd.int .i64) _ 3 rfl (N := 7) rfl 22 _ _ rfl (l0.length : Int) rfl rfl Tryz.underlying22 (.int .i64 0) 8 info3 rfl q1_53 (by omega) 0 (ok := fun _ => True) (okp := fun _ => True) rfl (fun _ hk => hk) trivial (of_decide_eq_true q1_3) (Nat.le_trans (Nat.mul_le_mul_right _ (of_decide_eq_true q1_3 : (l0.length : Int).toNat ≤ 35184372088832)) (by omega)) (Below.refl _ _) (Nat.le_refl _) ?_; intro zM w4 ho5 hb hg_ hnew_; clear hg_ hnew_; (first | rw [← Ny112.out] at ho5 | (simp only [Int.reduceToNat] at ho5; rw [← Ny112.out] at ho5)); have dA := Aside0.mk (Kd.R_lower ho5 (below_size q1_0)); have fA := Aside0.mk (below_step q1_0 hb); clear HB; have LK := dA; have HB := fA; clear dA fA; clear hb ho5))
   go_loopg [4] k (fun kq v4 w' => ∃ (uA : List Int) (bA : Int), v4 = .int .i64 bA ∧ Aside0 (laws_toIntS.l0 kq l0 uA bA = some r) ∧ Aside0 (kq ≤ k) ∧ Aside0 (Kd.R (Kd.int .i64) 3 w' w.heap.size (fun _ => True) zM uA) ∧ Aside0 (Below w.heap.size w w'))
   case atStart => exact ⟨(y112), (0), q1_17, H', ⟨Nat.le_refl _⟩, ⟨by (with_reducible repeat (first | apply Kd.R_alloc | apply Kd.R_drewN | apply Kd.R_drew)); exact LK.out⟩, ⟨q1_0⟩⟩
   case round =>
    clear H'
    (try clear c1); (try clear c2); (try clear dH); (try clear eH); (try clear p2); (try clear c3); (try clear eD); (try clear fH)
    obtain ⟨uA, bA, rfl, HA, HK1, yA, HB⟩ := hrel
    cases gk with
    | zero => exact absurd HA.out (by simp [laws_toIntS.l0])
    | succ k1 =>
     have H := HA.out
     clear HA
     simp only [laws_toIntS.l0] at H
     by_cases c6 : bA < (l0.length : Int)
     ·rw [if_pos c6] at H
      have HC : decide (bA < (l0.length : Int)) = true := decide_eq_true c6
      clear c6
      by_cases c7 : 0 ≤ bA
      ·rw [if_pos c7] at H
       have uE : decide (0 ≤ bA) = true := decide_eq_true c7
       clear c7
       by_cases c8 : bA < (uA.length : Int)
       ·rw [if_pos c8] at H
        have jH : decide (bA < (uA.length : Int)) = true := decide_eq_true c8
        clear c8
        obtain ⟨y116, hy116⟩ : ∃ y_ : List Int, y_ = (uA.set (bA : Int).toNat (rd l0 bA)) := ⟨_, rfl⟩
        replace H : (laws_toIntS.l0 k1 l0 y116 (wrap64 (bA + 1))) = some r := by first | (rw [hy116]; with_reducible exact H) | (have H2_ := (Option.bind_some _ _).symm.trans H; rw [hy116]; with_reducible exact H2_) | (have H2_ := (Option.bind_some _ _).symm.trans H; with_reducible exact H2_) | with_reducible exact H | (rw [hy116]; exact H) | exact H
        have Ny116 := Aside0.mk hy116
        clear hy116
        have H' := Aside0.mk H
        clear H
        have p115 : 0 ≤ (bA : Int) := of_decide_eq_true q1_3
        have q115 : bA < (l0.length : Int) := of_decide_eq_true q1_3
        obtain ⟨ad115, AM, dE⟩ := Kd.at_int HR0.out bA p115 q115
        cases AM
        replace dE := (HB.out.cell (World.block_lt_of_cell? w _ dE)).trans dE
        replace p115 := eq_true p115
        replace q115 := eq_true q115
        have p9 : 0 ≤ (bA : Int) := of_decide_eq_true q1_3
        have q9 : (bA : Int) < ((uA.length : Int) : Int) := of_decide_eq_true q1_3
        obtain ⟨go9, EO, XN, YN, gl9, cl9, HG9⟩ := Kd.R_form yA.out (by omega)
        (first | cases XN | (injection XN with ea_ en_ ec_; (first | subst ea_ | (injection ea_ with ea_; subst ea_)); subst ec_; clear en_))
        have GB9 := Aside0.mk YN
        have GG9 := Aside0.mk HG9
        clear YN gl9 HG9
        obtain ⟨ZN, bO⟩ := Kd.R_celln 0 yA.out (bA : Int) p9 q9
        replace p9 := eq_true p9
        replace q9 := eq_true q9
        have HP10 := Kd.R_putg yA.out (bA : Int) (rd l0 bA)
        go_wp2_with (first | ((with_reducible refine gate_store (t := 3) (p := 20) rfl ?_); refine store_event (t := 3) (p := 20) (v := ?vo_w11) (w1 := (wr.setCell ⟨go9, (bA : Int).toNat, none⟩ (.int .i64 (rd l0 bA)))) ?hg ?ho ?hn ?hr ?_; (case ho => rfl); (case hg => rfl); (case hn => rfl); (case hr => first | (go_simp; done) | (go_simp; rfl)); intro mB hw; have hg : wr.grownBy mB (some go9) := (by rw [hw]; exact HP10.2); have hp_ : Kd.R (Kd.int .i64) 3 mB w.heap.size (fun _ => True) (.slice (some ⟨go9, 0, none⟩) uA.length EO) y116 := (by rw [hw, Ny116.out]; exact HP10.1); clear HP10; have dA := Aside0.mk (hp_); have fA := Aside0.mk ((by rw [hw]; exact below_set (HB.out) GB9.out : Below w.heap.size w mB)); clear yA HB; have yA := dA; have HB := fA; clear dA fA; clear hg hw hp_))
        go_roundg k1
        case measure => have := HK1.out; omega
        case rel => exact ⟨(y116), (wrap64 (bA + 1)), q1_17, H', ⟨by have := HK1.out; omega⟩, ⟨q1_16⟩, ⟨q1_0⟩⟩
       ·rw [if_neg c8] at H
        exact absurd H (by simp)
      ·rw [if_neg c7] at H
       exact absurd H (by simp)
     ·rw [if_neg c6] at H
      have HC : decide (bA < (l0.length : Int)) = false := decide_eq_false c6
      clear c6
      obtain rfl := Option.some.inj H
      go_wp2
      go_ret
      exact ⟨_, q1_2, q1_16, q1_0⟩
  ·rw [if_neg c3] at H
   exact absurd H (by simp)
 ·rw [if_neg c2] at H
  exact absurd H (by simp)
def laws_toMem.f (k : Nat) (hA : List Int) : Option (List Int) := (laws_toIntS.f k hA).bind fun AE => (some AE)
theorem laws_toMem.mono : ∀ a0 k, LeO (laws_toMem.f k a0) (laws_toMem.f (k + 1) a0) := by
 intro a0 k
 unfold laws_toMem.f
 repeat' first
   | (with_reducible exact laws_toIntS.mono _ _)
   | (with_reducible exact LeO.refl _)
   | (with_reducible exact LeO.none _)
   | (with_reducible refine LeO.ite ?_ ?_)
   | (with_reducible refine LeO.bind ?_ (fun _ => ?_))
   | exact laws_toIntS.mono _ _
   | exact LeO.none _
   | refine LeO.ite ?_ ?_
   | refine LeO.bind ?_ (fun _ => ?_)
set_option maxHeartbeats 8000000 in
set_option maxRecDepth 100000 in
theorem laws_toMem.calls (k : Nat) (rA : Option Addr) (sA : Nat) (hA : List Int) (r : List Int) (w : World) (qB : Kd.C (Kd.int .i64) w rA hA.length hA) (vB : hA.length ≤ sA) (h : laws_toMem.f k hA = some r) :
  Calls Tryz.prog 24 #[.agg #[.slice rA hA.length sA]] w fun e w' => ∃ v0_ : Value, e = .returned (.agg #[v0_]) ∧ Kd.R (Kd.int .i64) 3 w' w.heap.size (fun _ => True) v0_ r ∧ Below w.heap.size w w' := by
 have hu24 := Tryz.underlying24
 have hu29 := Tryz.underlying29
 have mD := Aside0.mk qB
 have LB := Aside0.mk vB
 clear qB vB
 have HB := Aside0.mk (Below.refl w.heap.size w)
 have H : ((laws_toIntS.f k hA).bind fun AE => (some AE)) = some r := h
 clear h
 replace H := Option.bind_eq_some_iff.mp H
 obtain ⟨AE, A20, H⟩ := H
 (try dsimp only at H)
 have A2 := Aside0.mk A20
 clear A20
 obtain rfl := Option.some.inj H
 go_enter Tryz.func24, Tryz.ntmps24
 go_wp2_with (first | ((with_reducible refine gate_dst (N := 1) rfl ?_); refine box_event ?hg (N := 1) ?hd (cs := #[.slice rA hA.length sA]) (t := 24) ?hr ?_; (case hd => rfl); (case hg => rfl); (case hr => first | (go_simp; done) | (go_simp; rfl)); intro JB hg w3 hbox hb; have dA := Aside0.mk (below_step q1_0 hb); have fA := Aside0.mk (hbox); have iA := Aside0.mk ((q1_6 : w.heap.size ≤ JB)); have pA := Aside0.mk ((q1_6 : w.heap.size ≤ JB)); clear HB; have HB := dA; have DC := fA; have cO := iA; have SG := pA; clear dA fA iA pA; clear hb hbox hg) | ((with_reducible refine gate_dst (N := 2) rfl ?_); refine box_event ?hg (N := 2) ?hd (cs := #[.slice none 0 0]) (t := 29) ?hr ?_; (case hd => rfl); (case hg => rfl); (case hr => first | (go_simp; done) | (go_simp; rfl)); intro OB hg w4 hbox hb; have dA := Aside0.mk (blk_below (g := JB) (o := .cells #[.slice rA hA.length sA] 24 (0, 0)) q1_24 hb); have fA := Aside0.mk (below_step q1_49 hb); have iA := Aside0.mk (hbox); have pA := Aside0.mk ((by rw [hg]; exact (below_size q1_49) : w.heap.size ≤ OB)); have ZA := Aside0.mk ((by rw [hg]; exact (below_size q1_49) : w.heap.size ≤ OB)); have nB := Aside0.mk ((by rw [hg]; exact Nat.ne_of_lt (blk_lt (g := JB) (o := .cells #[.slice rA hA.length sA] 24 (0, 0)) q1_24) : JB ≠ OB)); have rB := Aside0.mk ((by rw [hg]; exact Nat.ne_of_gt (blk_lt (g := JB) (o := .cells #[.slice rA hA.length sA] 24 (0, 0)) q1_24) : OB ≠ JB)); clear DC HB; have DC := dA; have HB := fA; have EC := iA; have dO := pA; have yI := ZA; have jG := nB; have kG := rB; clear dA fA iA pA ZA nB rB; clear hb hbox hg) | ((with_reducible refine gate_dst (N := 3) rfl ?_); refine box_event ?hg (N := 3) ?hd (cs := #[.slice none 0 0]) (t := 29) ?hr ?_; (case hd => rfl); (case hg => rfl); (case hr => first | (go_simp; done) | (go_simp; rfl)); intro RC hg w5 hbox hb; have dA := Aside0.mk (blk_below (g := JB) (o := .cells #[.slice rA hA.length sA] 24 (0, 0)) q1_24 hb); have fA := Aside0.mk (blk_below (g := OB) (o := .cells #[.slice none 0 0] 29 (0, 0)) q1_43 hb); have iA := Aside0.mk (below_step q1_37 hb); have pA := Aside0.mk (hbox); have ZA := Aside0.mk ((by rw [hg]; exact (below_size q1_37) : w.heap.size ≤ RC)); have nB := Aside0.mk ((by rw [hg]; exact (below_size q1_37) : w.heap.size ≤ RC)); have rB := Aside0.mk ((by rw [hg]; exact Nat.ne_of_lt (blk_lt (g := JB) (o := .cells #[.slice rA hA.length sA] 24 (0, 0)) q1_24) : JB ≠ RC)); have yC := Aside0.mk ((by rw [hg]; exact Nat.ne_of_gt (blk_lt (g := JB) (o := .cells #[.slice rA hA.length sA] 24 (0, 0)) q1_24) : RC ≠ JB)); have gH := Aside0.mk ((by rw [hg]; exact Nat.ne_of_lt (blk_lt (g := OB) (o := .cells #[.slice none 0 0] 29 (0, 0)) q1_43) : OB ≠ RC)); have hH := Aside0.mk ((by rw [hg]; exact Nat.ne_of_gt (blk_lt (g := OB) (o := .cells #[.slice none 0 0] 29 (0, 0)) q1_43) : RC ≠ OB)); clear DC EC HB; have DC := dA; have EC := fA; have HB := iA; have DD := pA; have eO := ZA; have YJ := nB; have lG := rB; have mG := yC; have ED := gH; have nG := hH; clear dA fA iA pA ZA nB rB yC gH hH; clear hb hbox hg; have BM := jG.out; have CM := kG.out; have bK := lG.out; have cK := mG.out; have UG : w5.cell? ⟨JB, 0, none⟩ = some (.slice rA hA.length sA) := (blk_cell DC.out 0).trans rfl; have VG := blk_frozen DC.out 0) | ((with_reducible refine gate_callee (f := 13) rfl ?_); refine goesL_ (some 6) rfl rfl Tryz.func13 q1_31 rfl #[.slice rA hA.length sA] rfl q1_1 ?_; (with_reducible refine (laws_toIntS.calls k _ _ hA AE _ ?side1 ?side2 A2.out).mono ?_); (case side1 => exact q1_11); (case side2 => exact LB.out); rintro e w9 ⟨FO, rfl, ho0, hb⟩; refine ⟨_, rfl, ?_⟩; have dA := Aside0.mk (Kd.R_lower ho0 (below_size q1_34)); have fA := Aside0.mk (blk_below (g := JB) (o := .cells #[.slice rA hA.length sA] 24 (0, 0)) q1_24 hb); have iA := Aside0.mk (blk_below (g := OB) (o := .cells #[.slice none 0 0] 29 (0, 0)) q1_43 hb); have pA := Aside0.mk (blk_below (g := RC) (o := .cells #[.slice none 0 0] 29 (0, 0)) (by (with_reducible repeat (first | refine blk_drewN ?_ _ | refine blk_drew ?_ | refine blk_alloc ?_ _)); exact DD.out) hb); have ZA := Aside0.mk (below_step q1_34 hb); clear DC EC DD HB; have LI := dA; have DC := fA; have EC := iA; have DD := pA; have HB := ZA; clear dA fA iA pA ZA; (try clear hb); (try clear hb2); (try clear hk); (try clear hi); (try clear ho0); obtain ⟨dD, aC, UC⟩ := Kd.R_slice LI.out; subst UC; have fO := nG.out; have gO := ED.out; have mL : w9.cell? ⟨RC, 0, none⟩ = some (.slice none 0 0) := (blk_cell DD.out 0).trans rfl; have nL := blk_frozen DD.out 0; have mC : w9.cell? ⟨OB, 0, none⟩ = some (.slice none 0 0) := (blk_cell EC.out 0).trans rfl; have nC := blk_frozen EC.out 0))
 refine bodyPost_ret (results_cell_row rfl _ _ OB 29 #[.slice dD AE.length aC] (0, 0) _ rfl (by (with_reducible repeat (first | refine blk_drewN ?_ _ | refine blk_drew ?_ | refine blk_alloc ?_ _)); refine blk_put (cs := #[.slice none 0 0]) ?_ 0 _ rfl; (with_reducible repeat (first | refine blk_drewN ?_ _ | refine blk_drew ?_ | refine blk_alloc ?_ _)); refine blk_far ?_ ED.out _; (with_reducible repeat (first | refine blk_drewN ?_ _ | refine blk_drew ?_ | refine blk_alloc ?_ _)); exact EC.out) Tryz.underlying29 rfl q1_31) rfl ?_
 exact ⟨_, q1_2, by (with_reducible repeat (first | apply Kd.R_alloc | apply Kd.R_drewN | apply Kd.R_drew)); exact Kd.R_mono (Kd.R_far (p := ⟨OB, 0, none⟩) (Kd.R_far (p := ⟨RC, 0, none⟩) (Kd.R_types (Kd.R_types LI.out DD.out q1_53) EC.out q1_53) (fun _ hk => hk.1.2) (.slice dD AE.length aC)) (fun _ hk => hk.2) (.slice dD AE.length aC)) (fun _ hk => trivial), q1_34⟩
def laws_toCall.f (jA : Int) (cA : Int) (KB : Int) (PB : Int) (oA : Int) (bC : Int) (iC : Int) (vC : Int) (BC : Int) (SC : Bool) : Option (Int × Int × Int × Int × Int × Int × Int × Int × Int × Bool) := some (jA, cA, KB, PB, oA, bC, iC, vC, BC, SC)
set_option maxHeartbeats 8000000 in
set_option maxRecDepth 100000 in
theorem laws_toCall.calls (jA : Int) (cA : Int) (KB : Int) (PB : Int) (oA : Int) (bC : Int) (iC : Int) (vC : Int) (BC : Int) (SC : Bool) (r1 : Int) (r2 : Int) (r3 : Int) (r4 : Int) (r5 : Int) (r6 : Int) (r7 : Int) (r8 : Int) (r9 : Int) (r10 : Bool) (w : World) (h : laws_toCall.f jA cA KB PB oA bC iC vC BC SC = some (r1, r2, r3, r4, r5, r6, r7, r8, r9, r10)) :
  Calls Tryz.prog 103 #[.agg #[.int .i64 jA, .int .i64 cA, .int .i64 KB, .int .i64 PB, .int .i64 oA, .int .i64 bC, .int .i64 iC, .int .i64 vC, .int .i64 BC, .bool SC]] w fun e w' => e = .returned (.agg #[.int .i64 r1, .int .i64 r2, .int .i64 r3, .int .i64 r4, .int .i64 r5, .int .i64 r6, .int .i64 r7, .int .i64 r8, .int .i64 r9, .bool r10]) ∧ Below w.heap.size w w' := by
 have hu114 := Tryz.underlying114
 have hu54 := Tryz.underlying54
 have HB := Aside0.mk (Below.refl w.heap.size w)
 have H : (some (jA, cA, KB, PB, oA, bC, iC, vC, BC, SC)) = some (r1, r2, r3, r4, r5, r6, r7, r8, r9, r10) := h
 clear h
 simp only [Option.some.injEq, Prod.mk.injEq] at H
 obtain ⟨rfl, rfl, rfl, rfl, rfl, rfl, rfl, rfl, rfl, rfl⟩ := H
 go_enter Tryz.func103, Tryz.ntmps103
 go_wp2_with (first | ((with_reducible refine gate_dst (N := 1) rfl ?_); refine box_event ?hg (N := 1) ?hd (cs := #[.int .i64 jA, .int .i64 cA, .int .i64 KB, .int .i64 PB, .int .i64 oA, .int .i64 bC, .int .i64 iC, .int .i64 vC, .int .i64 BC, .bool SC]) (t := 114) ?hr ?_; (case hd => rfl); (case hg => rfl); (case hr => first | (go_simp; done) | (go_simp; rfl)); intro eB hg w2 hbox hb; have dA := Aside0.mk (below_step q1_0 hb); have fA := Aside0.mk (hbox); have iA := Aside0.mk ((q1_6 : w.heap.size ≤ eB)); have pA := Aside0.mk ((q1_6 : w.heap.size ≤ eB)); clear HB; have HB := dA; have SA := fA; have hO := iA; have TG := pA; clear dA fA iA pA; clear hb hbox hg) | ((with_reducible refine gate_dst (N := 2) rfl ?_); refine box_event ?hg (N := 2) ?hd (cs := #[.int .i64 0, .int .i64 0, .int .i64 0, .int .i64 0, .int .i64 0, .int .i64 0, .int .i64 0, .int .i64 0, .int .i64 0, .bool false]) (t := 54) ?hr ?_; (case hd => rfl); (case hg => rfl); (case hr => first | (go_simp; done) | (go_simp; rfl)); intro kB hg w3 hbox hb; have dA := Aside0.mk (blk_below (g := eB) (o := .cells #[.int .i64 jA, .int .i64 cA, .int .i64 KB, .int .i64 PB, .int .i64 oA, .int .i64 bC, .int .i64 iC, .int .i64 vC, .int .i64 BC, .bool SC] 114 (0, 0)) q1_29 hb); have fA := Aside0.mk (below_step q1_50 hb); have iA := Aside0.mk (hbox); have pA := Aside0.mk ((by rw [hg]; exact (below_size q1_50) : w.heap.size ≤ kB)); have ZA := Aside0.mk ((by rw [hg]; exact (below_size q1_50) : w.heap.size ≤ kB)); have nB := Aside0.mk ((by rw [hg]; exact Nat.ne_of_lt (blk_lt (g := eB) (o := .cells #[.int .i64 jA, .int .i64 cA, .int .i64 KB, .int .i64 PB, .int .i64 oA, .int .i64 bC, .int .i64 iC, .int .i64 vC, .int .i64 BC, .bool SC] 114 (0, 0)) q1_29) : eB ≠ kB)); have rB := Aside0.mk ((by rw [hg]; exact Nat.ne_of_gt (blk_lt (g := eB) (o := .cells #[.int .i64 jA, .int .i64 cA, .int .i64 KB, .int .i64 PB, .int .i64 oA, .int .i64 bC, .int .i64 iC, .int .i64 vC, .int .i64 BC, .bool SC] 114 (0, 0)) q1_29) : kB ≠ eB)); clear SA HB; have SA := dA; have HB := fA; have RA := iA; have iO := pA; have AI := ZA; have oG := nB; have pG := rB; clear dA fA iA pA ZA nB rB; clear hb hbox hg) | ((with_reducible refine gate_dst (N := 3) rfl ?_); refine box_event ?hg (N := 3) ?hd (cs := #[.int .i64 0, .int .i64 0, .int .i64 0, .int .i64 0, .int .i64 0, .int .i64 0, .int .i64 0, .int .i64 0, .int .i64 0, .bool false]) (t := 54) ?hr ?_; (case hd => rfl); (case hg => rfl); (case hr => first | (go_simp; done) | (go_simp; rfl)); intro wB hg w4 hbox hb; have dA := Aside0.mk (blk_below (g := eB) (o := .cells #[.int .i64 jA, .int .i64 cA, .int .i64 KB, .int .i64 PB, .int .i64 oA, .int .i64 bC, .int .i64 iC, .int .i64 vC, .int .i64 BC, .bool SC] 114 (0, 0)) q1_29 hb); have fA := Aside0.mk (blk_below (g := kB) (o := .cells #[.int .i64 0, .int .i64 0, .int .i64 0, .int .i64 0, .int .i64 0, .int .i64 0, .int .i64 0, .int .i64 0, .int .i64 0, .bool false] 54 (0, 0)) (by (with_reducible repeat (first | refine blk_drewN ?_ _ | refine blk_drew ?_ | refine blk_alloc ?_ _)); exact RA.out) hb); have iA := Aside0.mk (below_step q1_38 hb); have pA := Aside0.mk (hbox); have ZA := Aside0.mk ((by rw [hg]; exact (below_size q1_38) : w.heap.size ≤ wB)); have nB := Aside0.mk ((by rw [hg]; exact (below_size q1_38) : w.heap.size ≤ wB)); have rB := Aside0.mk ((by rw [hg]; exact Nat.ne_of_lt (blk_lt (g := eB) (o := .cells #[.int .i64 jA, .int .i64 cA, .int .i64 KB, .int .i64 PB, .int .i64 oA, .int .i64 bC, .int .i64 iC, .int .i64 vC, .int .i64 BC, .bool SC] 114 (0, 0)) q1_29) : eB ≠ wB)); have yC := Aside0.mk ((by rw [hg]; exact Nat.ne_of_gt (blk_lt (g := eB) (o := .cells #[.int .i64 jA, .int .i64 cA, .int .i64 KB, .int .i64 PB, .int .i64 oA, .int .i64 bC, .int .i64 iC, .int .i64 vC, .int .i64 BC, .bool SC] 114 (0, 0)) q1_29) : wB ≠ eB)); have gH := Aside0.mk ((by rw [hg]; exact Nat.ne_of_lt (blk_lt (g := kB) (o := .cells #[.int .i64 0, .int .i64 0, .int .i64 0, .int .i64 0, .int .i64 0, .int .i64 0, .int .i64 0, .int .i64 0, .int .i64 0, .bool false] 54 (0, 0)) (by (with_reducible repeat (first | refine blk_drewN ?_ _ | refine blk_drew ?_ | refine blk_alloc ?_ _)); exact RA.out)) : kB ≠ wB)); have hH := Aside0.mk ((by rw [hg]; exact Nat.ne_of_gt (blk_lt (g := kB) (o := .cells #[.int .i64 0, .int .i64 0, .int .i64 0, .int .i64 0, .int .i64 0, .int .i64 0, .int .i64 0, .int .i64 0, .int .i64 0, .bool false] 54 (0, 0)) (by (with_reducible repeat (first | refine blk_drewN ?_ _ | refine blk_drew ?_ | refine blk_alloc ?_ _)); exact RA.out)) : wB ≠ kB)); clear SA RA HB; have SA := dA; have RA := fA; have HB := iA; have lB := pA; have jO := ZA; have MK := nB; have qG := rB; have rG := yC; have FD := gH; have sG := hH; clear dA fA iA pA ZA nB rB yC gH hH; clear hb hbox hg; have dM := oG.out; have eM := pG.out; have BM := qG.out; have CM := rG.out; have DM : w4.cell? ⟨eB, 0, none⟩ = some (.int .i64 jA) := (blk_cell SA.out 0).trans rfl; have EM : w4.cell? ⟨eB, 1, none⟩ = some (.int .i64 cA) := (blk_cell SA.out 1).trans rfl; have FM : w4.cell? ⟨eB, 2, none⟩ = some (.int .i64 KB) := (blk_cell SA.out 2).trans rfl; have GM : w4.cell? ⟨eB, 3, none⟩ = some (.int .i64 PB) := (blk_cell SA.out 3).trans rfl; have HM : w4.cell? ⟨eB, 4, none⟩ = some (.int .i64 oA) := (blk_cell SA.out 4).trans rfl; have IM : w4.cell? ⟨eB, 5, none⟩ = some (.int .i64 bC) := (blk_cell SA.out 5).trans rfl; have JM : w4.cell? ⟨eB, 6, none⟩ = some (.int .i64 iC) := (blk_cell SA.out 6).trans rfl; have KM : w4.cell? ⟨eB, 7, none⟩ = some (.int .i64 vC) := (blk_cell SA.out 7).trans rfl; have LM : w4.cell? ⟨eB, 8, none⟩ = some (.int .i64 BC) := (blk_cell SA.out 8).trans rfl; have MM : w4.cell? ⟨eB, 9, none⟩ = some (.bool SC) := (blk_cell SA.out 9).trans rfl; have NM := blk_frozen SA.out 0; have OM := blk_frozen SA.out 1; have PM := blk_frozen SA.out 2; have QM := blk_frozen SA.out 3; have RM := blk_frozen SA.out 4; have SM := blk_frozen SA.out 5; have TM := blk_frozen SA.out 6; have UM := blk_frozen SA.out 7; have VM := blk_frozen SA.out 8; have WM := blk_frozen SA.out 9; have NK := sG.out; have OK := FD.out; have GE : w4.cell? ⟨wB, 0, none⟩ = some (.int .i64 0) := (blk_cell lB.out 0).trans rfl; have jJ : w4.cell? ⟨wB, 1, none⟩ = some (.int .i64 0) := (blk_cell lB.out 1).trans rfl; have kJ : w4.cell? ⟨wB, 2, none⟩ = some (.int .i64 0) := (blk_cell lB.out 2).trans rfl; have lJ : w4.cell? ⟨wB, 3, none⟩ = some (.int .i64 0) := (blk_cell lB.out 3).trans rfl; have mJ : w4.cell? ⟨wB, 4, none⟩ = some (.int .i64 0) := (blk_cell lB.out 4).trans rfl; have XM : w4.cell? ⟨wB, 5, none⟩ = some (.int .i64 0) := (blk_cell lB.out 5).trans rfl; have YM : w4.cell? ⟨wB, 6, none⟩ = some (.int .i64 0) := (blk_cell lB.out 6).trans rfl; have ZM : w4.cell? ⟨wB, 7, none⟩ = some (.int .i64 0) := (blk_cell lB.out 7).trans rfl; have aN : w4.cell? ⟨wB, 8, none⟩ = some (.int .i64 0) := (blk_cell lB.out 8).trans rfl; have bN : w4.cell? ⟨wB, 9, none⟩ = some (.bool false) := (blk_cell lB.out 9).trans rfl; have HE := blk_frozen lB.out 0; have nJ := blk_frozen lB.out 1; have oJ := blk_frozen lB.out 2; have pJ := blk_frozen lB.out 3; have qJ := blk_frozen lB.out 4; have cN := blk_frozen lB.out 5; have dN := blk_frozen lB.out 6; have eN := blk_frozen lB.out 7; have fN := blk_frozen lB.out 8; have gN := blk_frozen lB.out 9; have yF : w4.cell? ⟨kB, 0, none⟩ = some (.int .i64 0) := (blk_cell RA.out 0).trans rfl; have zF : w4.cell? ⟨kB, 1, none⟩ = some (.int .i64 0) := (blk_cell RA.out 1).trans rfl; have AF : w4.cell? ⟨kB, 2, none⟩ = some (.int .i64 0) := (blk_cell RA.out 2).trans rfl; have BF : w4.cell? ⟨kB, 3, none⟩ = some (.int .i64 0) := (blk_cell RA.out 3).trans rfl; have oL : w4.cell? ⟨kB, 4, none⟩ = some (.int .i64 0) := (blk_cell RA.out 4).trans rfl; have pL : w4.cell? ⟨kB, 5, none⟩ = some (.int .i64 0) := (blk_cell RA.out 5).trans rfl; have qL : w4.cell? ⟨kB, 6, none⟩ = some (.int .i64 0) := (blk_cell RA.out 6).trans rfl; have rL : w4.cell? ⟨kB, 7, none⟩ = some (.int .i64 0) := (blk_cell RA.out 7).trans rfl; have sL : w4.cell? ⟨kB, 8, none⟩ = some (.int .i64 0) := (blk_cell RA.out 8).trans rfl; have tL : w4.cell? ⟨kB, 9, none⟩ = some (.bool false) := (blk_cell RA.out 9).trans rfl; have CF := blk_frozen RA.out 0; have DF := blk_frozen RA.out 1; have EF := blk_frozen RA.out 2; have FF := blk_frozen RA.out 3; have uL := blk_frozen RA.out 4; have vL := blk_frozen RA.out 5; have wL := blk_frozen RA.out 6; have xL := blk_frozen RA.out 7; have yL := blk_frozen RA.out 8; have zL := blk_frozen RA.out 9))
 refine bodyPost_ret (results_cell_row rfl _ _ kB 54 #[.int .i64 jA, .int .i64 cA, .int .i64 KB, .int .i64 PB, .int .i64 oA, .int .i64 bC, .int .i64 iC, .int .i64 vC, .int .i64 BC, .bool SC] (0, 0) _ rfl (by (with_reducible repeat (first | refine blk_drewN ?_ _ | refine blk_drew ?_ | refine blk_alloc ?_ _)); refine blk_put (cs := #[.int .i64 jA, .int .i64 cA, .int .i64 KB, .int .i64 PB, .int .i64 oA, .int .i64 bC, .int .i64 iC, .int .i64 vC, .int .i64 BC, .bool false]) ?_ 9 _ rfl; (with_reducible repeat (first | refine blk_drewN ?_ _ | refine blk_drew ?_ | refine blk_alloc ?_ _)); refine blk_put (cs := #[.int .i64 jA, .int .i64 cA, .int .i64 KB, .int .i64 PB, .int .i64 oA, .int .i64 bC, .int .i64 iC, .int .i64 vC, .int .i64 0, .bool false]) ?_ 8 _ rfl; (with_reducible repeat (first | refine blk_drewN ?_ _ | refine blk_drew ?_ | refine blk_alloc ?_ _)); refine blk_put (cs := #[.int .i64 jA, .int .i64 cA, .int .i64 KB, .int .i64 PB, .int .i64 oA, .int .i64 bC, .int .i64 iC, .int .i64 0, .int .i64 0, .bool false]) ?_ 7 _ rfl; (with_reducible repeat (first | refine blk_drewN ?_ _ | refine blk_drew ?_ | refine blk_alloc ?_ _)); refine blk_put (cs := #[.int .i64 jA, .int .i64 cA, .int .i64 KB, .int .i64 PB, .int .i64 oA, .int .i64 bC, .int .i64 0, .int .i64 0, .int .i64 0, .bool false]) ?_ 6 _ rfl; (with_reducible repeat (first | refine blk_drewN ?_ _ | refine blk_drew ?_ | refine blk_alloc ?_ _)); refine blk_put (cs := #[.int .i64 jA, .int .i64 cA, .int .i64 KB, .int .i64 PB, .int .i64 oA, .int .i64 0, .int .i64 0, .int .i64 0, .int .i64 0, .bool false]) ?_ 5 _ rfl; (with_reducible repeat (first | refine blk_drewN ?_ _ | refine blk_drew ?_ | refine blk_alloc ?_ _)); refine blk_put (cs := #[.int .i64 jA, .int .i64 cA, .int .i64 KB, .int .i64 PB, .int .i64 0, .int .i64 0, .int .i64 0, .int .i64 0, .int .i64 0, .bool false]) ?_ 4 _ rfl; (with_reducible repeat (first | refine blk_drewN ?_ _ | refine blk_drew ?_ | refine blk_alloc ?_ _)); refine blk_put (cs := #[.int .i64 jA, .int .i64 cA, .int .i64 KB, .int .i64 0, .int .i64 0, .int .i64 0, .int .i64 0, .int .i64 0, .int .i64 0, .bool false]) ?_ 3 _ rfl; (with_reducible repeat (first | refine blk_drewN ?_ _ | refine blk_drew ?_ | refine blk_alloc ?_ _)); refine blk_put (cs := #[.int .i64 jA, .int .i64 cA, .int .i64 0, .int .i64 0, .int .i64 0, .int .i64 0, .int .i64 0, .int .i64 0, .int .i64 0, .bool false]) ?_ 2 _ rfl; (with_reducible repeat (first | refine blk_drewN ?_ _ | refine blk_drew ?_ | refine blk_alloc ?_ _)); refine blk_put (cs := #[.int .i64 jA, .int .i64 0, .int .i64 0, .int .i64 0, .int .i64 0, .int .i64 0, .int .i64 0, .int .i64 0, .int .i64 0, .bool false]) ?_ 1 _ rfl; (with_reducible repeat (first | refine blk_drewN ?_ _ | refine blk_drew ?_ | refine blk_alloc ?_ _)); refine blk_put (cs := #[.int .i64 0, .int .i64 0, .int .i64 0, .int .i64 0, .int .i64 0, .int .i64 0, .int .i64 0, .int .i64 0, .int .i64 0, .bool false]) ?_ 0 _ rfl; (iterate 10 ((with_reducible repeat (first | refine blk_drewN ?_ _ | refine blk_drew ?_ | refine blk_alloc ?_ _)); refine blk_far ?_ FD.out _)); (with_reducible repeat (first | refine blk_drewN ?_ _ | refine blk_drew ?_ | refine blk_alloc ?_ _)); exact RA.out) Tryz.underlying54 rfl q1_31) rfl ?_
 exact ⟨q1_2, by repeat (first | (with_reducible first | exact HB.out | apply below_alloc | apply pw_below_drewN | apply below_drew1 | refine below_set ?_ TG.out | refine below_set ?_ AI.out | refine below_set ?_ MK.out) | exact HB.out)⟩
def laws_toCallS.l0 : Nat → List (S114) → List (S54) → Int → Option ((List (S54)))
 | 0, _, _, _ => none
 | k + 1, x0, x3, x4 => if x4 < (x0.length : Int) then (if 0 ≤ x4 then ((laws_toCall.f ((rd_T114 x0 x4).f0) ((rd_T114 x0 x4).f1) ((rd_T114 x0 x4).f2) ((rd_T114 x0 x4).f3) ((rd_T114 x0 x4).f4) ((rd_T114 x0 x4).f5) ((rd_T114 x0 x4).f6) ((rd_T114 x0 x4).f7) ((rd_T114 x0 x4).f8) ((rd_T114 x0 x4).f9)).bind fun AC => (if x4 < (x3.length : Int) then (laws_toCallS.l0 k x0 (x3.set (x4 : Int).toNat (⟨AC.1, AC.2.1, AC.2.2.1, AC.2.2.2.1, AC.2.2.2.2.1, AC.2.2.2.2.2.1, AC.2.2.2.2.2.2.1, AC.2.2.2.2.2.2.2.1, AC.2.2.2.2.2.2.2.2.1, AC.2.2.2.2.2.2.2.2.2⟩ : S54)) (wrap64 (x4 + 1))) else (none))) else (none)) else (some x3)
def laws_toCallS.f (k : Nat) (l0 : List (S114)) : Option ((List (S54))) := if 0 ≤ (l0.length : Int) then (if ((l0.length : Int) : Int).toNat ≤ 3518437208883 then (laws_toCallS.l0 k l0 (List.replicate ((l0.length : Int) : Int).toNat z54) 0) else (none)) else (none)
theorem laws_toCallS.mono_l : ∀ k, (∀ y0 y1 y2, LeO (laws_toCallS.l0 k y0 y1 y2) (laws_toCallS.l0 (k + 1) y0 y1 y2))
 | 0 => fun _ _ _ r h => by simp [laws_toCallS.l0] at h
 | k + 1 => by
  have ih0 := laws_toCallS.mono_l k
  ·intro y0 y1 y2
   unfold laws_toCallS.l0
   repeat' first
   | (with_reducible exact ih0 _ _ _)
   | (with_reducible exact LeO.refl _)
   | (with_reducible exact LeO.none _)
   | (with_reducible refine LeO.ite ?_ ?_)
   | (with_reducible refine LeO.bind ?_ (fun _ => ?_))
   | exact ih0 _ _ _
   | exact LeO.none _
   | refine LeO.ite ?_ ?_
   | refine LeO.bind ?_ (fun _ => ?_)
theorem laws_toCallS.mono : ∀ a0 k, LeO (laws_toCallS.f k a0) (laws_toCallS.f (k + 1) a0) := by
 intro a0 k
 have ih0 := laws_toCallS.mono_l k
 unfold laws_toCallS.f
 repeat' first
   | (with_reducible exact ih0 _ _ _)
   | (with_reducible exact LeO.refl _)
   | (with_reducible exact LeO.none _)
   | (with_reducible refine LeO.ite ?_ ?_)
   | (with_reducible refine LeO.bind ?_ (fun _ => ?_))
   | exact ih0 _ _ _
   | exact LeO.none _
   | refine LeO.ite ?_ ?_
   | refine LeO.bind ?_ (fun _ => ?_)
set_option maxHeartbeats 8000000 in
set_option maxRecDepth 100000 in
theorem laws_toCallS.calls (k : Nat) (A0 : Option Addr) (c0 : Nat) (l0 : List (S114)) (r : List (S54)) (w : World) (hr0 : Kd.C k114 w A0 l0.length l0) (hc0 : l0.length ≤ c0) (h : laws_toCallS.f k l0 = some r) :
  Calls Tryz.prog 78 #[.slice A0 l0.length c0] w fun e w' => ∃ v0_ : Value, e = .returned (v0_) ∧ Kd.R k54 54 w' w.heap.size (fun _ => True) v0_ r ∧ Below w.heap.size w w' := by
 have hu114 := Tryz.underlying114
 have hu54 := Tryz.underlying54
 have HR0 := Aside0.mk hr0
 clear hr0 hc0
 have HB := Aside0.mk (Below.refl w.heap.size w)
 have H : (if 0 ≤ (l0.length : Int) then (if ((l0.length : Int) : Int).toNat ≤ 3518437208883 then (laws_toCallS.l0 k l0 (List.replicate ((l0.length : Int) : Int).toNat z54) 0) else (none)) else (none)) = some r := h
 clear h
 by_cases c2 : 0 ≤ (l0.length : Int)
 ·rw [if_pos c2] at H
  have dH := eq_true c2
  have eH : decide (0 ≤ (l0.length : Int)) = true := decide_eq_true c2
  clear c2
  by_cases c3 : ((l0.length : Int) : Int).toNat ≤ 3518437208883
  ·rw [if_pos c3] at H
   have eD := eq_true c3
   have fH : decide (((l0.length : Int) : Int).toNat ≤ 3518437208883) = true := decide_eq_true c3
   clear c3
   obtain ⟨y126, hy126⟩ : ∃ y_ : List (S54), y_ = (List.replicate ((l0.length : Int) : Int).toNat z54) := ⟨_, rfl⟩
   replace H : (laws_toCallS.l0 k l0 y126 0) = some r := by first | (rw [hy126]; with_reducible exact H) | (have H2_ := (Option.bind_some _ _).symm.trans H; rw [hy126]; with_reducible exact H2_) | (have H2_ := (Option.bind_some _ _).symm.trans H; with_reducible exact H2_) | with_reducible exact H | (rw [hy126]; exact H) | exact H
   have Ny126 := Aside0.mk hy126
   clear hy126
   have H' := Aside0.mk H
   clear H
   go_enter Tryz.func78, Tryz.ntmps78
   go_wp2_with (first | ((with_reducible refine gate_dst (N := 7) rfl ?_); refine Kd.R_make k54 _ 54 rfl (N := 7) rfl 50 _ _ rfl (l0.length : Int) rfl rfl Tryz.underlying50 (.agg #[(.int .i64 0), (.int .i64 0), (.int .i64 0), (.int .i64 0), (.int .i64 0), (.int .i64 0), (.int .i64 0), (.int .i64 0), (.int .i64 0), (.bool false)]) 80 info54 rfl q1_53 (by omega) z54 (ok := fun _ => True) (okp := fun _ => True) (k54_mkM _ _ _ z54 ) (fun _ hk => hk) trivial (of_decide_eq_true q1_3) (Nat.le_trans (Nat.mul_le_mul_right _ (of_decide_eq_true q1_3 : (l0.length : Int).toNat ≤ 3518437208883)) (by omega)) (Below.refl _ _) (Nat.le_refl _) ?_; intro hN w4 ho5 hb hg_ hnew_; clear hg_ hnew_; (first | rw [← Ny126.out] at ho5 | (simp only [Int.reduceToNat] at ho5; rw [← Ny126.out] at ho5)); have dA := Aside0.mk (Kd.R_lower ho5 (below_size q1_0)); have fA := Aside0.mk (below_step q1_0 hb); clear HB; have PK := dA; have HB := fA; clear dA fA; clear hb ho5))
   go_loopg [4] k (fun kq v4 w' => ∃ (uA : List (S54)) (bA : Int), v4 = .int .i64 bA ∧ Aside0 (laws_toCallS.l0 kq l0 uA bA = some r) ∧ Aside0 (kq ≤ k) ∧ Aside0 (Kd.R k54 54 w' w.heap.size (fun _ => True) hN uA) ∧ Aside0 (Below w.heap.size w w'))
   case atStart => exact ⟨(y126), (0), q1_17, H', ⟨Nat.le_refl _⟩, ⟨by (with_reducible repeat (first | apply Kd.R_alloc | apply Kd.R_drewN | apply Kd.R_drew)); exact PK.out⟩, ⟨q1_0⟩⟩
   case round =>
    clear H'
    (try clear c2); (try clear dH); (try clear eH); (try clear p2); (try clear c3); (try clear eD); (try clear fH)
    obtain ⟨uA, bA, rfl, HA, HK1, yA, HB⟩ := hrel
    cases gk with
    | zero => exact absurd HA.out (by simp [laws_toCallS.l0])
    | succ k1 =>
     have H := HA.out
     clear HA
     simp only [laws_toCallS.l0] at H
     by_cases c6 : bA < (l0.length : Int)
     ·rw [if_pos c6] at H
      have HC : decide (bA < (l0.length : Int)) = true := decide_eq_true c6
      clear c6
      by_cases c7 : 0 ≤ bA
      ·rw [if_pos c7] at H
       have uE : decide (0 ≤ bA) = true := decide_eq_true c7
       clear c7
       replace H := Option.bind_eq_some_iff.mp H
       obtain ⟨⟨tG, uG, vG, wG, xG, yG, zG, AG, BG, CG⟩, A80, H⟩ := H
       (try dsimp only at H)
       have A8 := Aside0.mk A80
       clear A80
       by_cases c9 : bA < (uA.length : Int)
       ·rw [if_pos c9] at H
        have SE : decide (bA < (uA.length : Int)) = true := decide_eq_true c9
        clear c9
        obtain ⟨y140, hy140⟩ : ∃ y_ : List (S54), y_ = (uA.set (bA : Int).toNat (⟨tG, uG, vG, wG, xG, yG, zG, AG, BG, CG⟩ : S54)) := ⟨_, rfl⟩
        replace H : (laws_toCallS.l0 k1 l0 y140 (wrap64 (bA + 1))) = some r := by first | (rw [hy140]; with_reducible exact H) | (have H2_ := (Option.bind_some _ _).symm.trans H; rw [hy140]; with_reducible exact H2_) | (have H2_ := (Option.bind_some _ _).symm.trans H; with_reducible exact H2_) | with_reducible exact H | (rw [hy140]; exact H) | exact H
        have Ny140 := Aside0.mk hy140
        clear hy140
        have H' := Aside0.mk H
        clear H
        have p129 : 0 ≤ (bA : Int) := of_decide_eq_true q1_3
        have q129 : bA < (l0.length : Int) := of_decide_eq_true q1_3
        obtain ⟨ad129, iN, eE, fE, gE, hE, iE, jE, kE, lE, mE, nE⟩ := at_T114 HR0.out bA p129 q129
        cases iN
        replace eE := (HB.out.cell (World.block_lt_of_cell? w _ eE)).trans eE
        replace fE := (HB.out.cell (World.block_lt_of_cell? w _ fE)).trans fE
        replace gE := (HB.out.cell (World.block_lt_of_cell? w _ gE)).trans gE
        replace hE := (HB.out.cell (World.block_lt_of_cell? w _ hE)).trans hE
        replace iE := (HB.out.cell (World.block_lt_of_cell? w _ iE)).trans iE
        replace jE := (HB.out.cell (World.block_lt_of_cell? w _ jE)).trans jE
        replace kE := (HB.out.cell (World.block_lt_of_cell? w _ kE)).trans kE
        replace lE := (HB.out.cell (World.block_lt_of_cell? w _ lE)).trans lE
        replace mE := (HB.out.cell (World.block_lt_of_cell? w _ mE)).trans mE
        replace nE := (HB.out.cell (World.block_lt_of_cell? w _ nE)).trans nE
        replace p129 := eq_true p129
        replace q129 := eq_true q129
        go_wp2_with (first | ((with_reducible refine gate_callee (f := 103) rfl ?_); refine goesL_ (some 20) rfl rfl Tryz.func103 q1_31 rfl #[.agg #[.int .i64 ((rd_T114 l0 bA).f0), .int .i64 ((rd_T114 l0 bA).f1), .int .i64 ((rd_T114 l0 bA).f2), .int .i64 ((rd_T114 l0 bA).f3), .int .i64 ((rd_T114 l0 bA).f4), .int .i64 ((rd_T114 l0 bA).f5), .int .i64 ((rd_T114 l0 bA).f6), .int .i64 ((rd_T114 l0 bA).f7), .int .i64 ((rd_T114 l0 bA).f8), .bool ((rd_T114 l0 bA).f9)]] rfl q1_1 ?_; (with_reducible refine (laws_toCall.calls ((rd_T114 l0 bA).f0) ((rd_T114 l0 bA).f1) ((rd_T114 l0 bA).f2) ((rd_T114 l0 bA).f3) ((rd_T114 l0 bA).f4) ((rd_T114 l0 bA).f5) ((rd_T114 l0 bA).f6) ((rd_T114 l0 bA).f7) ((rd_T114 l0 bA).f8) ((rd_T114 l0 bA).f9) tG uG vG wG xG yG zG AG BG CG _ A8.out).mono ?_); rintro e mB ⟨rfl, hb⟩; refine ⟨_, rfl, ?_⟩; have dA := Aside0.mk (Kd.R_below q1_16 hb); have fA := Aside0.mk (below_step q1_0 hb); clear yA HB; have yA := dA; have HB := fA; clear dA fA; (try clear hb); (try clear hb2); (try clear hk); (try clear hi); have p10 : 0 ≤ (bA : Int) := of_decide_eq_true q1_3; have q10 : (bA : Int) < ((uA.length : Int) : Int) := of_decide_eq_true q1_3; obtain ⟨go10, aC, UC, iH, gl10, cl10, HG10⟩ := Kd.R_form yA.out (by omega); (first | cases UC | (injection UC with ea_ en_ ec_; (first | subst ea_ | (injection ea_ with ea_; subst ea_)); subst ec_; clear en_)); have GB10 := Aside0.mk iH; have GG10 := Aside0.mk HG10; clear iH gl10 HG10; obtain ⟨ce10, hcl10, hM10, hcc10, hfr10⟩ := Kd.R_elem yA.out z54 (bA : Int) p10 q10; obtain rfl := k54_openM hM10; have rJ : mB.cell? ⟨go10, (bA : Int).toNat * 10, none⟩ = some (.int .i64 ((rd_T54 uA bA).f0)) := hcc10 0 _ rfl; have sJ : mB.cell? ⟨go10, (bA : Int).toNat * 10 + 1, none⟩ = some (.int .i64 ((rd_T54 uA bA).f1)) := hcc10 1 _ rfl; have tJ : mB.cell? ⟨go10, (bA : Int).toNat * 10 + 2, none⟩ = some (.int .i64 ((rd_T54 uA bA).f2)) := hcc10 2 _ rfl; have uJ : mB.cell? ⟨go10, (bA : Int).toNat * 10 + 3, none⟩ = some (.int .i64 ((rd_T54 uA bA).f3)) := hcc10 3 _ rfl; have jN : mB.cell? ⟨go10, (bA : Int).toNat * 10 + 4, none⟩ = some (.int .i64 ((rd_T54 uA bA).f4)) := hcc10 4 _ rfl; have kN : mB.cell? ⟨go10, (bA : Int).toNat * 10 + 5, none⟩ = some (.int .i64 ((rd_T54 uA bA).f5)) := hcc10 5 _ rfl; have lN : mB.cell? ⟨go10, (bA : Int).toNat * 10 + 6, none⟩ = some (.int .i64 ((rd_T54 uA bA).f6)) := hcc10 6 _ rfl; have mN : mB.cell? ⟨go10, (bA : Int).toNat * 10 + 7, none⟩ = some (.int .i64 ((rd_T54 uA bA).f7)) := hcc10 7 _ rfl; have nN : mB.cell? ⟨go10, (bA : Int).toNat * 10 + 8, none⟩ = some (.int .i64 ((rd_T54 uA bA).f8)) := hcc10 8 _ rfl; have oN : mB.cell? ⟨go10, (bA : Int).toNat * 10 + 9, none⟩ = some (.bool ((rd_T54 uA bA).f9)) := hcc10 9 _ rfl; have vJ : mB.frozen? ⟨go10, (bA : Int).toNat * 10, none⟩ = false := hfr10 0; have wJ : mB.frozen? ⟨go10, (bA : Int).toNat * 10 + 1, none⟩ = false := hfr10 1; have xJ : mB.frozen? ⟨go10, (bA : Int).toNat * 10 + 2, none⟩ = false := hfr10 2; have yJ : mB.frozen? ⟨go10, (bA : Int).toNat * 10 + 3, none⟩ = false := hfr10 3; have pN : mB.frozen? ⟨go10, (bA : Int).toNat * 10 + 4, none⟩ = false := hfr10 4; have qN : mB.frozen? ⟨go10, (bA : Int).toNat * 10 + 5, none⟩ = false := hfr10 5; have rN : mB.frozen? ⟨go10, (bA : Int).toNat * 10 + 6, none⟩ = false := hfr10 6; have sN : mB.frozen? ⟨go10, (bA : Int).toNat * 10 + 7, none⟩ = false := hfr10 7; have tN : mB.frozen? ⟨go10, (bA : Int).toNat * 10 + 8, none⟩ = false := hfr10 8; have uN : mB.frozen? ⟨go10, (bA : Int).toNat * 10 + 9, none⟩ = false := hfr10 9; clear hcl10 hcc10 hfr10 hM10; replace p10 := eq_true p10; replace q10 := eq_true q10; have HX12 := Aside0.mk (show Kd.R k54 54 mB w.heap.size (fun _ => True) (.slice (some ⟨go10, 0, none⟩) uA.length aC) uA from q1_16); obtain ⟨ce12, hcl12, hM12, hcc12, hfr12⟩ := Kd.R_elem HX12.out z54 (bA : Int) (of_decide_eq_true q1_3) (by have h_ : (bA : Int) < ((uA.length : Int) : Int) := of_decide_eq_true q1_3; first | exact h_ | (have e_ := (Kd.R_reads' yA.out).1; omega) | simpa using h_); obtain rfl := k54_openM hM12; have HP12 := Kd.R_seg HX12.out (bA : Int) (of_decide_eq_true q1_3) (by have h_ : (bA : Int) < ((uA.length : Int) : Int) := of_decide_eq_true q1_3; first | exact h_ | (have e_ := (Kd.R_reads' yA.out).1; omega) | simpa using h_) (seg := [.int .i64 tG, .int .i64 uG, .int .i64 vG, .int .i64 wG, .int .i64 xG, .int .i64 yG, .int .i64 zG, .int .i64 AG, .int .i64 BG, .bool CG]) (j := 0) hcl12 hcc12 (show 10 ≤ 10 from by decide) (x' := (⟨tG, uG, vG, wG, xG, yG, zG, AG, BG, CG⟩ : S54)) (k54_mkM _ _ _ (⟨tG, uG, vG, wG, xG, yG, zG, AG, BG, CG⟩ : S54) ) (fun _ hk => hk); have dF := hcc12 0 _ rfl; (try simp only [show (k54).sz = 10 from rfl, Nat.mul_one, Nat.add_zero] at dF); have eF := hfr12 0; (try simp only [show (k54).sz = 10 from rfl, Nat.mul_one, Nat.add_zero] at eF); have fF := hcc12 1 _ rfl; (try simp only [show (k54).sz = 10 from rfl, Nat.mul_one, Nat.add_zero] at fF); have gF := hfr12 1; (try simp only [show (k54).sz = 10 from rfl, Nat.mul_one, Nat.add_zero] at gF); have hF := hcc12 2 _ rfl; (try simp only [show (k54).sz = 10 from rfl, Nat.mul_one, Nat.add_zero] at hF); have iF := hfr12 2; (try simp only [show (k54).sz = 10 from rfl, Nat.mul_one, Nat.add_zero] at iF); have jF := hcc12 3 _ rfl; (try simp only [show (k54).sz = 10 from rfl, Nat.mul_one, Nat.add_zero] at jF); have kF := hfr12 3; (try simp only [show (k54).sz = 10 from rfl, Nat.mul_one, Nat.add_zero] at kF); have zJ := hcc12 4 _ rfl; (try simp only [show (k54).sz = 10 from rfl, Nat.mul_one, Nat.add_zero] at zJ); have AJ := hfr12 4; (try simp only [show (k54).sz = 10 from rfl, Nat.mul_one, Nat.add_zero] at AJ); have BJ := hcc12 5 _ rfl; (try simp only [show (k54).sz = 10 from rfl, Nat.mul_one, Nat.add_zero] at BJ); have CJ := hfr12 5; (try simp only [show (k54).sz = 10 from rfl, Nat.mul_one, Nat.add_zero] at CJ); have DJ := hcc12 6 _ rfl; (try simp only [show (k54).sz = 10 from rfl, Nat.mul_one, Nat.add_zero] at DJ); have EJ := hfr12 6; (try simp only [show (k54).sz = 10 from rfl, Nat.mul_one, Nat.add_zero] at EJ); have FJ := hcc12 7 _ rfl; (try simp only [show (k54).sz = 10 from rfl, Nat.mul_one, Nat.add_zero] at FJ); have GJ := hfr12 7; (try simp only [show (k54).sz = 10 from rfl, Nat.mul_one, Nat.add_zero] at GJ); have HJ := hcc12 8 _ rfl; (try simp only [show (k54).sz = 10 from rfl, Nat.mul_one, Nat.add_zero] at HJ); have IJ := hfr12 8; (try simp only [show (k54).sz = 10 from rfl, Nat.mul_one, Nat.add_zero] at IJ); have JJ := hcc12 9 _ rfl; (try simp only [show (k54).sz = 10 from rfl, Nat.mul_one, Nat.add_zero] at JJ); have KJ := hfr12 9; (try simp only [show (k54).sz = 10 from rfl, Nat.mul_one, Nat.add_zero] at KJ); clear hcl12 hcc12 hfr12 hM12) | ((with_reducible refine gate_store (t := 54) (p := 21) rfl ?_); refine store_event (t := 54) (p := 21) (v := ?vo_w13) (w1 := ((((((((((mB.setCell ⟨go10, (bA : Int).toNat * 10, none⟩ (.int .i64 tG)).setCell ⟨go10, (bA : Int).toNat * 10 + 1, none⟩ (.int .i64 uG)).setCell ⟨go10, (bA : Int).toNat * 10 + 2, none⟩ (.int .i64 vG)).setCell ⟨go10, (bA : Int).toNat * 10 + 3, none⟩ (.int .i64 wG)).setCell ⟨go10, (bA : Int).toNat * 10 + 4, none⟩ (.int .i64 xG)).setCell ⟨go10, (bA : Int).toNat * 10 + 5, none⟩ (.int .i64 yG)).setCell ⟨go10, (bA : Int).toNat * 10 + 6, none⟩ (.int .i64 zG)).setCell ⟨go10, (bA : Int).toNat * 10 + 7, none⟩ (.int .i64 AG)).setCell ⟨go10, (bA : Int).toNat * 10 + 8, none⟩ (.int .i64 BG)).setCell ⟨go10, (bA : Int).toNat * 10 + 9, none⟩ (.bool CG))) ?hg ?ho ?hn ?hr ?_; (case ho => rfl); (case hg => rfl); (case hn => rfl); (case hr => first | (go_simp; done) | (go_simp; rfl)); intro CE hw; have hg : mB.grownBy CE (some go10) := (by rw [hw]; exact HP12.2); have hp_ : Kd.R k54 54 CE w.heap.size (fun _ => True) (.slice (some ⟨go10, 0, none⟩) uA.length aC) y140 := (by rw [hw, Ny140.out]; exact HP12.1); clear HP12; have dA := Aside0.mk (hp_); have fA := Aside0.mk ((by rw [hw]; exact below_set (below_set (below_set (below_set (below_set (below_set (below_set (below_set (below_set (below_set (HB.out) GB10.out) GB10.out) GB10.out) GB10.out) GB10.out) GB10.out) GB10.out) GB10.out) GB10.out) GB10.out : Below w.heap.size w CE)); clear yA HB; have yA := dA; have HB := fA; clear dA fA; clear hg hw hp_))
        go_roundg k1
        case measure => have := HK1.out; omega
        case rel => exact ⟨(y140), (wrap64 (bA + 1)), q1_17, H', ⟨by have := HK1.out; omega⟩, ⟨q1_16⟩, ⟨q1_0⟩⟩
       ·rw [if_neg c9] at H
        exact absurd H (by simp)
      ·rw [if_neg c7] at H
       exact absurd H (by simp)
     ·rw [if_neg c6] at H
      have HC : decide (bA < (l0.length : Int)) = false := decide_eq_false c6
      clear c6
      obtain rfl := Option.some.inj H
      go_wp2
      go_ret
      exact ⟨_, q1_2, q1_16, q1_0⟩
  ·rw [if_neg c3] at H
   exact absurd H (by simp)
 ·rw [if_neg c2] at H
  exact absurd H (by simp)
def laws_toThread.f (k : Nat) (hA : List (S114)) (cA : Int) (eA : List Int) (aA : List Int) : Option ((List (S54)) × Int × List Int × List Int) := (laws_toCallS.f k hA).bind fun ZB => ((laws_toIntS.f k eA).bind fun CC => ((laws_toIntS.f k aA).bind fun fD => (some (ZB, cA, CC, fD))))
theorem laws_toThread.mono : ∀ a0 a1 a2 a3 k, LeO (laws_toThread.f k a0 a1 a2 a3) (laws_toThread.f (k + 1) a0 a1 a2 a3) := by
 intro a0 a1 a2 a3 k
 unfold laws_toThread.f
 repeat' first
   | (with_reducible exact laws_toCallS.mono _ _)
   | (with_reducible exact laws_toIntS.mono _ _)
   | (with_reducible exact LeO.refl _)
   | (with_reducible exact LeO.none _)
   | (with_reducible refine LeO.ite ?_ ?_)
   | (with_reducible refine LeO.bind ?_ (fun _ => ?_))
   | exact laws_toCallS.mono _ _
   | exact laws_toIntS.mono _ _
   | exact LeO.none _
   | refine LeO.ite ?_ ?_
   | refine LeO.bind ?_ (fun _ => ?_)
set_option maxHeartbeats 8000000 in
set_option maxRecDepth 100000 in
theorem laws_toThread.calls (k : Nat) (rA : Option Addr) (sA : Nat) (hA : List (S114)) (cA : Int) (lA : Option Addr) (mA : Nat) (eA : List Int) (qA : Option Addr) (nA : Nat) (aA : List Int) (r1 : List (S54)) (r2 : Int) (r3 : List Int) (r4 : List Int) (w : World) (qB : Kd.C k114 w rA hA.length hA) (vB : hA.length ≤ sA) (xB : Kd.C (Kd.int .i64) w lA eA.length eA) (yB : eA.length ≤ mA) (sB : Kd.C (Kd.int .i64) w qA aA.length aA) (zB : aA.length ≤ nA) (h : laws_toThread.f k hA cA eA aA = some (r1, r2, r3, r4)) :
  Calls Tryz.prog 47 #[.agg #[.slice rA hA.length sA, .int .i64 cA, .slice lA eA.length mA, .slice qA aA.length nA]] w fun e w' => ∃ v0_ v2_ v3_ : Value, e = .returned (.agg #[v0_, .int .i64 r2, v2_, v3_]) ∧ Kd.R k54 54 w' w.heap.size (fun _ => True) v0_ r1 ∧ Kd.R (Kd.int .i64) 3 w' w.heap.size (fun k_ => some k_ ≠ (v3_ : Value).ownBlock) v2_ r3 ∧ Kd.R (Kd.int .i64) 3 w' w.heap.size (fun k_ => some k_ ≠ (v2_ : Value).ownBlock) v3_ r4 ∧ Below w.heap.size w w' := by
 have hu66 := Tryz.underlying66
 have hu52 := Tryz.underlying52
 have mD := Aside0.mk qB
 have LB := Aside0.mk vB
 clear qB vB
 have oD := Aside0.mk xB
 have hC := Aside0.mk yB
 clear xB yB
 have AB := Aside0.mk sB
 have KC := Aside0.mk zB
 clear sB zB
 have HB := Aside0.mk (Below.refl w.heap.size w)
 have H : ((laws_toCallS.f k hA).bind fun ZB => ((laws_toIntS.f k eA).bind fun CC => ((laws_toIntS.f k aA).bind fun fD => (some (ZB, cA, CC, fD))))) = some (r1, r2, r3, r4) := h
 clear h
 replace H := Option.bind_eq_some_iff.mp H
 obtain ⟨ZB, A20, H⟩ := H
 (try dsimp only at H)
 have A2 := Aside0.mk A20
 clear A20
 replace H := Option.bind_eq_some_iff.mp H
 obtain ⟨CC, A30, H⟩ := H
 (try dsimp only at H)
 have A3 := Aside0.mk A30
 clear A30
 replace H := Option.bind_eq_some_iff.mp H
 obtain ⟨fD, A40, H⟩ := H
 (try dsimp only at H)
 have A4 := Aside0.mk A40
 clear A40
 simp only [Option.some.injEq, Prod.mk.injEq] at H
 obtain ⟨rfl, rfl, rfl, rfl⟩ := H
 go_enter Tryz.func47, Tryz.ntmps47
 go_wp2_with (first | ((with_reducible refine gate_dst (N := 1) rfl ?_); refine box_event ?hg (N := 1) ?hd (cs := #[.slice rA hA.length sA, .int .i64 cA, .slice lA eA.length mA, .slice qA aA.length nA]) (t := 66) ?hr ?_; (case hd => rfl); (case hg => rfl); (case hr => first | (go_simp; done) | (go_simp; rfl)); intro PA hg w5 hbox hb; have dA := Aside0.mk (below_step q1_0 hb); have fA := Aside0.mk (hbox); have iA := Aside0.mk ((q1_6 : w.heap.size ≤ PA)); have pA := Aside0.mk ((q1_6 : w.heap.size ≤ PA)); clear HB; have HB := dA; have zA := fA; have kO := iA; have MG := pA; clear dA fA iA pA; clear hb hbox hg) | ((with_reducible refine gate_dst (N := 2) rfl ?_); refine box_event ?hg (N := 2) ?hd (cs := #[.slice none 0 0, .int .i64 0, .slice none 0 0, .slice none 0 0]) (t := 52) ?hr ?_; (case hd => rfl); (case hg => rfl); (case hr => first | (go_simp; done) | (go_simp; rfl)); intro JA hg w6 hbox hb; have dA := Aside0.mk (blk_below (g := PA) (o := .cells #[.slice rA hA.length sA, .int .i64 cA, .slice lA eA.length mA, .slice qA aA.length nA] 66 (0, 0)) q1_25 hb); have fA := Aside0.mk (below_step q1_51 hb); have iA := Aside0.mk (hbox); have pA := Aside0.mk ((by rw [hg]; exact (below_size q1_51) : w.heap.size ≤ JA)); have ZA := Aside0.mk ((by rw [hg]; exact (below_size q1_51) : w.heap.size ≤ JA)); have nB := Aside0.mk ((by rw [hg]; exact Nat.ne_of_lt (blk_lt (g := PA) (o := .cells #[.slice rA hA.length sA, .int .i64 cA, .slice lA eA.length mA, .slice qA aA.length nA] 66 (0, 0)) q1_25) : PA ≠ JA)); have rB := Aside0.mk ((by rw [hg]; exact Nat.ne_of_gt (blk_lt (g := PA) (o := .cells #[.slice rA hA.length sA, .int .i64 cA, .slice lA eA.length mA, .slice qA aA.length nA] 66 (0, 0)) q1_25) : JA ≠ PA)); clear zA HB; have zA := dA; have HB := fA; have YA := iA; have lO := pA; have rI := ZA; have DG := nB; have EG := rB; clear dA fA iA pA ZA nB rB; clear hb hbox hg) | ((with_reducible refine gate_dst (N := 3) rfl ?_); refine box_event ?hg (N := 3) ?hd (cs := #[.slice none 0 0, .int .i64 0, .slice none 0 0, .slice none 0 0]) (t := 52) ?hr ?_; (case hd => rfl); (case hg => rfl); (case hr => first | (go_simp; done) | (go_simp; rfl)); intro KA hg w7 hbox hb; have dA := Aside0.mk (blk_below (g := PA) (o := .cells #[.slice rA hA.length sA, .int .i64 cA, .slice lA eA.length mA, .slice qA aA.length nA] 66 (0, 0)) q1_25 hb); have fA := Aside0.mk (blk_below (g := JA) (o := .cells #[.slice none 0 0, .int .i64 0, .slice none 0 0, .slice none 0 0] 52 (0, 0)) q1_44 hb); have iA := Aside0.mk (below_step q1_39 hb); have pA := Aside0.mk (hbox); have ZA := Aside0.mk ((by rw [hg]; exact (below_size q1_39) : w.heap.size ≤ KA)); have nB := Aside0.mk ((by rw [hg]; exact (below_size q1_39) : w.heap.size ≤ KA)); have rB := Aside0.mk ((by rw [hg]; exact Nat.ne_of_lt (blk_lt (g := PA) (o := .cells #[.slice rA hA.length sA, .int .i64 cA, .slice lA eA.length mA, .slice qA aA.length nA] 66 (0, 0)) q1_25) : PA ≠ KA)); have yC := Aside0.mk ((by rw [hg]; exact Nat.ne_of_gt (blk_lt (g := PA) (o := .cells #[.slice rA hA.length sA, .int .i64 cA, .slice lA eA.length mA, .slice qA aA.length nA] 66 (0, 0)) q1_25) : KA ≠ PA)); have gH := Aside0.mk ((by rw [hg]; exact Nat.ne_of_lt (blk_lt (g := JA) (o := .cells #[.slice none 0 0, .int .i64 0, .slice none 0 0, .slice none 0 0] 52 (0, 0)) q1_44) : JA ≠ KA)); have hH := Aside0.mk ((by rw [hg]; exact Nat.ne_of_gt (blk_lt (g := JA) (o := .cells #[.slice none 0 0, .int .i64 0, .slice none 0 0, .slice none 0 0] 52 (0, 0)) q1_44) : KA ≠ JA)); clear zA YA HB; have zA := dA; have YA := fA; have HB := iA; have vA := pA; have mO := ZA; have VJ := nB; have ZC := rB; have FG := yC; have rC := gH; have GG := hH; clear dA fA iA pA ZA nB rB yC gH hH; clear hb hbox hg; have NK := DG.out; have OK := EG.out; have GO := ZC.out; have HO := FG.out; have yF : w7.cell? ⟨PA, 0, none⟩ = some (.slice rA hA.length sA) := (blk_cell zA.out 0).trans rfl; have zF : w7.cell? ⟨PA, 1, none⟩ = some (.int .i64 cA) := (blk_cell zA.out 1).trans rfl; have AF : w7.cell? ⟨PA, 2, none⟩ = some (.slice lA eA.length mA) := (blk_cell zA.out 2).trans rfl; have BF : w7.cell? ⟨PA, 3, none⟩ = some (.slice qA aA.length nA) := (blk_cell zA.out 3).trans rfl; have CF := blk_frozen zA.out 0; have DF := blk_frozen zA.out 1; have EF := blk_frozen zA.out 2; have FF := blk_frozen zA.out 3) | ((with_reducible refine gate_callee (f := 78) rfl ?_); refine goesL_ (some 6) rfl rfl Tryz.func78 q1_31 rfl #[.slice rA hA.length sA] rfl q1_1 ?_; (with_reducible refine (laws_toCallS.calls k _ _ hA ZB _ ?side1 ?side2 A2.out).mono ?_); (case side1 => exact q1_11); (case side2 => exact LB.out); rintro e mB ⟨IO, rfl, ho0, hb⟩; refine ⟨_, rfl, ?_⟩; have dA := Aside0.mk (Kd.R_lower ho0 (below_size q1_5)); have fA := Aside0.mk (blk_below (g := PA) (o := .cells #[.slice rA hA.length sA, .int .i64 cA, .slice lA eA.length mA, .slice qA aA.length nA] 66 (0, 0)) q1_25 hb); have iA := Aside0.mk (blk_below (g := JA) (o := .cells #[.slice none 0 0, .int .i64 0, .slice none 0 0, .slice none 0 0] 52 (0, 0)) q1_44 hb); have pA := Aside0.mk (blk_below (g := KA) (o := .cells #[.slice none 0 0, .int .i64 0, .slice none 0 0, .slice none 0 0] 52 (0, 0)) (by (with_reducible repeat (first | refine blk_drewN ?_ _ | refine blk_drew ?_ | refine blk_alloc ?_ _)); exact vA.out) hb); have ZA := Aside0.mk (below_step q1_5 hb); clear zA YA vA HB; have cD := dA; have zA := fA; have YA := iA; have vA := pA; have HB := ZA; clear dA fA iA pA ZA; (try clear hb); (try clear hb2); (try clear hk); (try clear hi); (try clear ho0); obtain ⟨fC, gC, TI⟩ := Kd.R_slice cD.out; subst TI; have nO := GG.out; have oO := rC.out; have GF : mB.cell? ⟨KA, 0, none⟩ = some (.slice none 0 0) := (blk_cell vA.out 0).trans rfl; have HF : mB.cell? ⟨KA, 1, none⟩ = some (.int .i64 0) := (blk_cell vA.out 1).trans rfl; have IF : mB.cell? ⟨KA, 2, none⟩ = some (.slice none 0 0) := (blk_cell vA.out 2).trans rfl; have JF : mB.cell? ⟨KA, 3, none⟩ = some (.slice none 0 0) := (blk_cell vA.out 3).trans rfl; have KF := blk_frozen vA.out 0; have LF := blk_frozen vA.out 1; have MF := blk_frozen vA.out 2; have NF := blk_frozen vA.out 3; have iD : mB.cell? ⟨PA, 0, none⟩ = some (.slice rA hA.length sA) := (blk_cell zA.out 0).trans rfl; have RH : mB.cell? ⟨PA, 1, none⟩ = some (.int .i64 cA) := (blk_cell zA.out 1).trans rfl; have SH : mB.cell? ⟨PA, 2, none⟩ = some (.slice lA eA.length mA) := (blk_cell zA.out 2).trans rfl; have TH : mB.cell? ⟨PA, 3, none⟩ = some (.slice qA aA.length nA) := (blk_cell zA.out 3).trans rfl; have jD := blk_frozen zA.out 0; have UH := blk_frozen zA.out 1; have VH := blk_frozen zA.out 2; have WH := blk_frozen zA.out 3) | ((with_reducible refine gate_callee (f := 13) rfl ?_); refine goesL_ (some 13) rfl rfl Tryz.func13 q1_31 rfl #[.slice lA eA.length mA] rfl q1_1 ?_; (with_reducible refine (laws_toIntS.calls k _ _ eA CC _ ?side1 ?side2 A3.out).mono ?_); (case side1 => exact Kd.C_below oD.out q1_5); (case side2 => exact hC.out); rintro e lD ⟨JO, rfl, ho0, hb⟩; refine ⟨_, rfl, ?_⟩; have dA := Aside0.mk (Kd.R_below (by (with_reducible repeat (first | apply Kd.R_alloc | apply Kd.R_drewN | apply Kd.R_drew)); exact (Kd.R_mono (Kd.R_far (p := ⟨KA, 1, none⟩) (Kd.R_far (p := ⟨KA, 0, none⟩) (Kd.R_types cD.out vA.out q1_53) (fun _ hk => hk.2) (.slice fC ZB.length gC)) (fun _ hk => hk.2) (.int .i64 cA)) (fun _ h_ => h_.1))) hb); have fA := Aside0.mk (Kd.R_lower ho0 (below_size q1_5)); have iA := Aside0.mk (blk_below (g := PA) (o := .cells #[.slice rA hA.length sA, .int .i64 cA, .slice lA eA.length mA, .slice qA aA.length nA] 66 (0, 0)) (by (iterate 2 ((with_reducible repeat (first | refine blk_drewN ?_ _ | refine blk_drew ?_ | refine blk_alloc ?_ _)); refine blk_far ?_ ZC.out _)); (with_reducible repeat (first | refine blk_drewN ?_ _ | refine blk_drew ?_ | refine blk_alloc ?_ _)); exact zA.out) hb); have pA := Aside0.mk (blk_below (g := JA) (o := .cells #[.slice none 0 0, .int .i64 0, .slice none 0 0, .slice none 0 0] 52 (0, 0)) (by (iterate 2 ((with_reducible repeat (first | refine blk_drewN ?_ _ | refine blk_drew ?_ | refine blk_alloc ?_ _)); refine blk_far ?_ rC.out _)); (with_reducible repeat (first | refine blk_drewN ?_ _ | refine blk_drew ?_ | refine blk_alloc ?_ _)); exact YA.out) hb); have ZA := Aside0.mk (blk_below (g := KA) (o := .cells #[.slice fC ZB.length gC, .int .i64 cA, .slice none 0 0, .slice none 0 0] 52 (0, 0)) (by (with_reducible repeat (first | refine blk_drewN ?_ _ | refine blk_drew ?_ | refine blk_alloc ?_ _)); refine blk_put (cs := #[.slice fC ZB.length gC, .int .i64 0, .slice none 0 0, .slice none 0 0]) ?_ 1 _ rfl; (with_reducible repeat (first | refine blk_drewN ?_ _ | refine blk_drew ?_ | refine blk_alloc ?_ _)); refine blk_put (cs := #[.slice none 0 0, .int .i64 0, .slice none 0 0, .slice none 0 0]) ?_ 0 _ rfl; (with_reducible repeat (first | refine blk_drewN ?_ _ | refine blk_drew ?_ | refine blk_alloc ?_ _)); exact vA.out) hb); have nB := Aside0.mk (below_step q1_5 hb); clear cD zA YA vA HB; have cD := dA; have GD := fA; have zA := iA; have YA := pA; have vA := ZA; have HB := nB; clear dA fA iA pA ZA nB; (try clear hb); (try clear hb2); (try clear hk); (try clear hi); (try clear ho0); obtain ⟨jC, kC, LJ⟩ := Kd.R_slice GD.out; subst LJ; have OF : lD.cell? ⟨KA, 0, none⟩ = some (.slice fC ZB.length gC) := (blk_cell vA.out 0).trans rfl; have PF : lD.cell? ⟨KA, 1, none⟩ = some (.int .i64 cA) := (blk_cell vA.out 1).trans rfl; have QF : lD.cell? ⟨KA, 2, none⟩ = some (.slice none 0 0) := (blk_cell vA.out 2).trans rfl; have RF : lD.cell? ⟨KA, 3, none⟩ = some (.slice none 0 0) := (blk_cell vA.out 3).trans rfl; have SF := blk_frozen vA.out 0; have TF := blk_frozen vA.out 1; have UF := blk_frozen vA.out 2; have VF := blk_frozen vA.out 3; have XH : lD.cell? ⟨PA, 0, none⟩ = some (.slice rA hA.length sA) := (blk_cell zA.out 0).trans rfl; have YH : lD.cell? ⟨PA, 1, none⟩ = some (.int .i64 cA) := (blk_cell zA.out 1).trans rfl; have ZH : lD.cell? ⟨PA, 2, none⟩ = some (.slice lA eA.length mA) := (blk_cell zA.out 2).trans rfl; have aI : lD.cell? ⟨PA, 3, none⟩ = some (.slice qA aA.length nA) := (blk_cell zA.out 3).trans rfl; have bI := blk_frozen zA.out 0; have cI := blk_frozen zA.out 1; have dI := blk_frozen zA.out 2; have eI := blk_frozen zA.out 3) | ((with_reducible refine gate_callee (f := 13) rfl ?_); refine goesL_ (some 17) rfl rfl Tryz.func13 q1_31 rfl #[.slice qA aA.length nA] rfl q1_1 ?_; (with_reducible refine (laws_toIntS.calls k _ _ aA fD _ ?side1 ?side2 A4.out).mono ?_); (case side1 => exact Kd.C_below AB.out q1_5); (case side2 => exact KC.out); rintro e MI ⟨KO, rfl, ho0, hb⟩; refine ⟨_, rfl, ?_⟩; have dA := Aside0.mk (Kd.R_below (by (with_reducible repeat (first | apply Kd.R_alloc | apply Kd.R_drewN | apply Kd.R_drew)); exact (Kd.R_mono (Kd.R_far (p := ⟨KA, 2, none⟩) (Kd.R_types cD.out vA.out q1_53) (fun _ hk => hk.2) (.slice jC CC.length kC)) (fun _ h_ => h_.1))) hb); have fA := Aside0.mk (Kd.R_elder' (by (with_reducible repeat (first | apply Kd.R_alloc | apply Kd.R_drewN | apply Kd.R_drew)); exact (Kd.R_mono (Kd.R_far (p := ⟨KA, 2, none⟩) (Kd.R_types GD.out vA.out q1_53) (fun _ hk => hk.2) (.slice jC CC.length kC)) (fun _ h_ => h_.1))) (Kd.R_base ho0) hb); have iA := Aside0.mk (Kd.R_lower (Kd.R_new' ho0 (Kd.R_lt (by (with_reducible repeat (first | apply Kd.R_alloc | apply Kd.R_drewN | apply Kd.R_drew)); exact (Kd.R_mono (Kd.R_far (p := ⟨KA, 2, none⟩) (Kd.R_types GD.out vA.out q1_53) (fun _ hk => hk.2) (.slice jC CC.length kC)) (fun _ h_ => h_.1))))) (below_size q1_5)); have pA := Aside0.mk (blk_below (g := PA) (o := .cells #[.slice rA hA.length sA, .int .i64 cA, .slice lA eA.length mA, .slice qA aA.length nA] 66 (0, 0)) (by (with_reducible repeat (first | refine blk_drewN ?_ _ | refine blk_drew ?_ | refine blk_alloc ?_ _)); refine blk_far ?_ ZC.out _; (with_reducible repeat (first | refine blk_drewN ?_ _ | refine blk_drew ?_ | refine blk_alloc ?_ _)); exact zA.out) hb); have ZA := Aside0.mk (blk_below (g := JA) (o := .cells #[.slice none 0 0, .int .i64 0, .slice none 0 0, .slice none 0 0] 52 (0, 0)) (by (with_reducible repeat (first | refine blk_drewN ?_ _ | refine blk_drew ?_ | refine blk_alloc ?_ _)); refine blk_far ?_ rC.out _; (with_reducible repeat (first | refine blk_drewN ?_ _ | refine blk_drew ?_ | refine blk_alloc ?_ _)); exact YA.out) hb); have nB := Aside0.mk (blk_below (g := KA) (o := .cells #[.slice fC ZB.length gC, .int .i64 cA, .slice jC CC.length kC, .slice none 0 0] 52 (0, 0)) (by (with_reducible repeat (first | refine blk_drewN ?_ _ | refine blk_drew ?_ | refine blk_alloc ?_ _)); refine blk_put (cs := #[.slice fC ZB.length gC, .int .i64 cA, .slice none 0 0, .slice none 0 0]) ?_ 2 _ rfl; (with_reducible repeat (first | refine blk_drewN ?_ _ | refine blk_drew ?_ | refine blk_alloc ?_ _)); exact vA.out) hb); have rB := Aside0.mk (below_step q1_5 hb); clear cD GD zA YA vA HB; have cD := dA; have GD := fA; have NI := iA; have zA := pA; have YA := ZA; have vA := nB; have HB := rB; clear dA fA iA pA ZA nB rB; (try clear hb); (try clear hb2); (try clear hk); (try clear hi); (try clear ho0); obtain ⟨lF, mF, vN⟩ := Kd.R_slice NI.out; subst vN; have AL : MI.cell? ⟨KA, 0, none⟩ = some (.slice fC ZB.length gC) := (blk_cell vA.out 0).trans rfl; have BL : MI.cell? ⟨KA, 1, none⟩ = some (.int .i64 cA) := (blk_cell vA.out 1).trans rfl; have CL : MI.cell? ⟨KA, 2, none⟩ = some (.slice jC CC.length kC) := (blk_cell vA.out 2).trans rfl; have DL : MI.cell? ⟨KA, 3, none⟩ = some (.slice none 0 0) := (blk_cell vA.out 3).trans rfl; have EL := blk_frozen vA.out 0; have FL := blk_frozen vA.out 1; have GL := blk_frozen vA.out 2; have HL := blk_frozen vA.out 3; have xH : MI.cell? ⟨JA, 0, none⟩ = some (.slice none 0 0) := (blk_cell YA.out 0).trans rfl; have IL : MI.cell? ⟨JA, 1, none⟩ = some (.int .i64 0) := (blk_cell YA.out 1).trans rfl; have JL : MI.cell? ⟨JA, 2, none⟩ = some (.slice none 0 0) := (blk_cell YA.out 2).trans rfl; have KL : MI.cell? ⟨JA, 3, none⟩ = some (.slice none 0 0) := (blk_cell YA.out 3).trans rfl; have yH := blk_frozen YA.out 0; have LL := blk_frozen YA.out 1; have ML := blk_frozen YA.out 2; have NL := blk_frozen YA.out 3))
 refine bodyPost_ret (results_cell_row rfl _ _ JA 52 #[.slice fC ZB.length gC, .int .i64 cA, .slice jC CC.length kC, .slice lF fD.length mF] (0, 0) _ rfl (by (with_reducible repeat (first | refine blk_drewN ?_ _ | refine blk_drew ?_ | refine blk_alloc ?_ _)); refine blk_put (cs := #[.slice fC ZB.length gC, .int .i64 cA, .slice jC CC.length kC, .slice none 0 0]) ?_ 3 _ rfl; (with_reducible repeat (first | refine blk_drewN ?_ _ | refine blk_drew ?_ | refine blk_alloc ?_ _)); refine blk_put (cs := #[.slice fC ZB.length gC, .int .i64 cA, .slice none 0 0, .slice none 0 0]) ?_ 2 _ rfl; (with_reducible repeat (first | refine blk_drewN ?_ _ | refine blk_drew ?_ | refine blk_alloc ?_ _)); refine blk_put (cs := #[.slice fC ZB.length gC, .int .i64 0, .slice none 0 0, .slice none 0 0]) ?_ 1 _ rfl; (with_reducible repeat (first | refine blk_drewN ?_ _ | refine blk_drew ?_ | refine blk_alloc ?_ _)); refine blk_put (cs := #[.slice none 0 0, .int .i64 0, .slice none 0 0, .slice none 0 0]) ?_ 0 _ rfl; (with_reducible repeat (first | refine blk_drewN ?_ _ | refine blk_drew ?_ | refine blk_alloc ?_ _)); refine blk_far ?_ rC.out _; (with_reducible repeat (first | refine blk_drewN ?_ _ | refine blk_drew ?_ | refine blk_alloc ?_ _)); exact YA.out) Tryz.underlying52 rfl q1_31) rfl ?_
 exact ⟨_, _, _, q1_2, by (with_reducible repeat (first | apply Kd.R_alloc | apply Kd.R_drewN | apply Kd.R_drew)); exact Kd.R_mono (Kd.R_far (p := ⟨JA, 3, none⟩) (Kd.R_far (p := ⟨JA, 2, none⟩) (Kd.R_far (p := ⟨JA, 1, none⟩) (Kd.R_far (p := ⟨JA, 0, none⟩) (Kd.R_far (p := ⟨KA, 3, none⟩) (Kd.R_types (Kd.R_types cD.out vA.out q1_53) YA.out q1_53) (fun _ hk => hk.1.2) (.slice lF fD.length mF)) (fun _ hk => hk.2) (.slice fC ZB.length gC)) (fun _ hk => hk.2) (.int .i64 cA)) (fun _ hk => hk.2) (.slice jC CC.length kC)) (fun _ hk => hk.2) (.slice lF fD.length mF)) (fun _ hk => trivial), by (with_reducible repeat (first | apply Kd.R_alloc | apply Kd.R_drewN | apply Kd.R_drew)); exact Kd.R_mono (Kd.R_far (p := ⟨JA, 3, none⟩) (Kd.R_far (p := ⟨JA, 2, none⟩) (Kd.R_far (p := ⟨JA, 1, none⟩) (Kd.R_far (p := ⟨JA, 0, none⟩) (Kd.R_far (p := ⟨KA, 3, none⟩) (Kd.R_types (Kd.R_types GD.out vA.out q1_53) YA.out q1_53) (fun _ hk => hk.1.2) (.slice lF fD.length mF)) (fun _ hk => hk.2) (.slice fC ZB.length gC)) (fun _ hk => hk.2) (.int .i64 cA)) (fun _ hk => hk.2) (.slice jC CC.length kC)) (fun _ hk => hk.2) (.slice lF fD.length mF)) (fun _ hk => hk.1.1.2), by (with_reducible repeat (first | apply Kd.R_alloc | apply Kd.R_drewN | apply Kd.R_drew)); exact Kd.R_mono (Kd.R_far (p := ⟨JA, 3, none⟩) (Kd.R_far (p := ⟨JA, 2, none⟩) (Kd.R_far (p := ⟨JA, 1, none⟩) (Kd.R_far (p := ⟨JA, 0, none⟩) (Kd.R_far (p := ⟨KA, 3, none⟩) (Kd.R_types (Kd.R_types NI.out vA.out q1_53) YA.out q1_53) (fun _ hk => hk.1.2) (.slice lF fD.length mF)) (fun _ hk => hk.2) (.slice fC ZB.length gC)) (fun _ hk => hk.2) (.int .i64 cA)) (fun _ hk => hk.2) (.slice jC CC.length kC)) (fun _ hk => hk.2) (.slice lF fD.length mF)) (fun _ hk => hk.1.1.2), q1_5⟩
def laws_toThreadS.l0 : Nat → List (S66) → List (S52) → Int → Option ((List (S52)))
 | 0, _, _, _ => none
 | k + 1, x0, x3, x4 => if x4 < (x0.length : Int) then (if 0 ≤ x4 then ((laws_toThread.f k ((rd_T66 x0 x4).f0) ((rd_T66 x0 x4).f1) ((rd_T66 x0 x4).f2) ((rd_T66 x0 x4).f3)).bind fun WF => (if x4 < (x3.length : Int) then (laws_toThreadS.l0 k x0 (x3.set (x4 : Int).toNat (⟨WF.1, WF.2.1, WF.2.2.1, WF.2.2.2⟩ : S52)) (wrap64 (x4 + 1))) else (none))) else (none)) else (some x3)
def laws_toThreadS.f (k : Nat) (l0 : List (S66)) : Option ((List (S52))) := if 0 ≤ (l0.length : Int) then (if ((l0.length : Int) : Int).toNat ≤ 3518437208883 then (laws_toThreadS.l0 k l0 (List.replicate ((l0.length : Int) : Int).toNat z52) 0) else (none)) else (none)
theorem laws_toThreadS.mono_l : ∀ k, (∀ y0 y1 y2, LeO (laws_toThreadS.l0 k y0 y1 y2) (laws_toThreadS.l0 (k + 1) y0 y1 y2))
 | 0 => fun _ _ _ r h => by simp [laws_toThreadS.l0] at h
 | k + 1 => by
  have ih0 := laws_toThreadS.mono_l k
  ·intro y0 y1 y2
   unfold laws_toThreadS.l0
   repeat' first
   | (with_reducible exact ih0 _ _ _)
   | (with_reducible exact laws_toThread.mono _ _ _ _ _)
   | (with_reducible exact LeO.refl _)
   | (with_reducible exact LeO.none _)
   | (with_reducible refine LeO.ite ?_ ?_)
   | (with_reducible refine LeO.bind ?_ (fun _ => ?_))
   | exact ih0 _ _ _
   | exact laws_toThread.mono _ _ _ _ _
   | exact LeO.none _
   | refine LeO.ite ?_ ?_
   | refine LeO.bind ?_ (fun _ => ?_)
theorem laws_toThreadS.mono : ∀ a0 k, LeO (laws_toThreadS.f k a0) (laws_toThreadS.f (k + 1) a0) := by
 intro a0 k
 have ih0 := laws_toThreadS.mono_l k
 unfold laws_toThreadS.f
 repeat' first
   | (with_reducible exact ih0 _ _ _)
   | (with_reducible exact laws_toThread.mono _ _ _ _ _)
   | (with_reducible exact LeO.refl _)
   | (with_reducible exact LeO.none _)
   | (with_reducible refine LeO.ite ?_ ?_)
   | (with_reducible refine LeO.bind ?_ (fun _ => ?_))
   | exact ih0 _ _ _
   | exact laws_toThread.mono _ _ _ _ _
   | exact LeO.none _
   | refine LeO.ite ?_ ?_
   | refine LeO.bind ?_ (fun _ => ?_)
set_option maxHeartbeats 8000000 in
set_option maxRecDepth 100000 in
theorem laws_toThreadS.calls (k : Nat) (A0 : Option Addr) (c0 : Nat) (l0 : List (S66)) (r : List (S52)) (w : World) (hr0 : Kd.C k66 w A0 l0.length l0) (hc0 : l0.length ≤ c0) (h : laws_toThreadS.f k l0 = some r) :
  Calls Tryz.prog 25 #[.slice A0 l0.length c0] w fun e w' => ∃ v0_ : Value, e = .returned (v0_) ∧ Kd.S k52 52 w' w.heap.size (fun _ => True) v0_ r ∧ Below w.heap.size w w' := by
 have hu66 := Tryz.underlying66
 have hu52 := Tryz.underlying52
 have HR0 := Aside0.mk hr0
 clear hr0 hc0
 have HB := Aside0.mk (Below.refl w.heap.size w)
 have H : (if 0 ≤ (l0.length : Int) then (if ((l0.length : Int) : Int).toNat ≤ 3518437208883 then (laws_toThreadS.l0 k l0 (List.replicate ((l0.length : Int) : Int).toNat z52) 0) else (none)) else (none)) = some r := h
 clear h
 by_cases c2 : 0 ≤ (l0.length : Int)
 ·rw [if_pos c2] at H
  have dH := eq_true c2
  have eH : decide (0 ≤ (l0.length : Int)) = true := decide_eq_true c2
  clear c2
  by_cases c3 : ((l0.length : Int) : Int).toNat ≤ 3518437208883
  ·rw [if_pos c3] at H
   have eD := eq_true c3
   have fH : decide (((l0.length : Int) : Int).toNat ≤ 3518437208883) = true := decide_eq_true c3
   clear c3
   obtain ⟨y153, hy153⟩ : ∃ y_ : List (S52), y_ = (List.replicate ((l0.length : Int) : Int).toNat z52) := ⟨_, rfl⟩
   replace H : (laws_toThreadS.l0 k l0 y153 0) = some r := by first | (rw [hy153]; with_reducible exact H) | (have H2_ := (Option.bind_some _ _).symm.trans H; rw [hy153]; with_reducible exact H2_) | (have H2_ := (Option.bind_some _ _).symm.trans H; with_reducible exact H2_) | with_reducible exact H | (rw [hy153]; exact H) | exact H
   have Ny153 := Aside0.mk hy153
   clear hy153
   have H' := Aside0.mk H
   clear H
   go_enter Tryz.func25, Tryz.ntmps25
   go_wp2_with (first | ((with_reducible refine gate_dst (N := 7) rfl ?_); refine Kd.S_make k52 _ 52 rfl (N := 7) rfl 30 _ _ rfl (l0.length : Int) rfl rfl Tryz.underlying30 (.agg #[(.slice none 0 0), (.int .i64 0), (.slice none 0 0), (.slice none 0 0)]) 80 info52 rfl q1_53 (by omega) z52 (ok := fun _ => True) (okp := fun _ => True) (k52_mkM _ _ _ z52 (Kd.R_nil _ _ _ _ _) (Kd.R_nil _ _ _ _ _) (Kd.R_nil _ _ _ _ _) (fun k_ hk_ => by simp [Value.ownBlock] at hk_)) (fun _ hk => hk) trivial (of_decide_eq_true q1_3) (Nat.le_trans (Nat.mul_le_mul_right _ (of_decide_eq_true q1_3 : (l0.length : Int).toNat ≤ 3518437208883)) (by omega)) (Below.refl _ _) (Nat.le_refl _) ?_; intro wN w4 ho5 hb hg_ hnew_; clear hg_ hnew_; (first | rw [← Ny153.out] at ho5 | (simp only [Int.reduceToNat] at ho5; rw [← Ny153.out] at ho5)); have dA := Aside0.mk (Kd.S_lower ho5 (below_size q1_0)); have fA := Aside0.mk (below_step q1_0 hb); clear HB; have QK := dA; have HB := fA; clear dA fA; clear hb ho5))
   go_loopg [4] k (fun kq v4 w' => ∃ (uA : List (S52)) (bA : Int), v4 = .int .i64 bA ∧ Aside0 (laws_toThreadS.l0 kq l0 uA bA = some r) ∧ Aside0 (kq ≤ k) ∧ Aside0 (Kd.S k52 52 w' w.heap.size (fun _ => True) wN uA) ∧ Aside0 (Below w.heap.size w w'))
   case atStart => exact ⟨(y153), (0), q1_17, H', ⟨Nat.le_refl _⟩, ⟨by (with_reducible repeat (first | apply Kd.S_alloc | apply Kd.S_drewN | apply Kd.S_drew)); exact QK.out⟩, ⟨q1_0⟩⟩
   case round =>
    clear H'
    (try clear c2); (try clear dH); (try clear eH); (try clear p2); (try clear c3); (try clear eD); (try clear fH)
    obtain ⟨uA, bA, rfl, HA, HK1, yA, HB⟩ := hrel
    cases gk with
    | zero => exact absurd HA.out (by simp [laws_toThreadS.l0])
    | succ k1 =>
     have H := HA.out
     clear HA
     simp only [laws_toThreadS.l0] at H
     by_cases c6 : bA < (l0.length : Int)
     ·rw [if_pos c6] at H
      have HC : decide (bA < (l0.length : Int)) = true := decide_eq_true c6
      clear c6
      by_cases c7 : 0 ≤ bA
      ·rw [if_pos c7] at H
       have uE : decide (0 ≤ bA) = true := decide_eq_true c7
       clear c7
       replace H := Option.bind_eq_some_iff.mp H
       obtain ⟨⟨fI, HG, gI, hI⟩, A80, H⟩ := H
       (try dsimp only at H)
       have A8 := Aside0.mk A80
       clear A80
       by_cases c9 : bA < (uA.length : Int)
       ·rw [if_pos c9] at H
        have SE : decide (bA < (uA.length : Int)) = true := decide_eq_true c9
        clear c9
        obtain ⟨y167, hy167⟩ : ∃ y_ : List (S52), y_ = (uA.set (bA : Int).toNat (⟨fI, HG, gI, hI⟩ : S52)) := ⟨_, rfl⟩
        replace H : (laws_toThreadS.l0 k1 l0 y167 (wrap64 (bA + 1))) = some r := by first | (rw [hy167]; with_reducible exact H) | (have H2_ := (Option.bind_some _ _).symm.trans H; rw [hy167]; with_reducible exact H2_) | (have H2_ := (Option.bind_some _ _).symm.trans H; with_reducible exact H2_) | with_reducible exact H | (rw [hy167]; exact H) | exact H
        have Ny167 := Aside0.mk hy167
        clear hy167
        have H' := Aside0.mk H
        clear H
        have p156 : 0 ≤ (bA : Int) := of_decide_eq_true q1_3
        have q156 : bA < (l0.length : Int) := of_decide_eq_true q1_3
        obtain ⟨ad156, MJ, NJ, OJ, PJ, QJ, RJ, xN, oE, pE, qE, rE, XF, YF, ZF, aG, bG, cG⟩ := at_T66 HR0.out bA p156 q156
        cases xN
        replace oE := (HB.out.cell (World.block_lt_of_cell? w _ oE)).trans oE
        replace pE := (HB.out.cell (World.block_lt_of_cell? w _ pE)).trans pE
        replace qE := (HB.out.cell (World.block_lt_of_cell? w _ qE)).trans qE
        replace rE := (HB.out.cell (World.block_lt_of_cell? w _ rE)).trans rE
        have iI := Aside0.mk YF
        have jI := Aside0.mk XF
        clear YF XF
        have kI := Aside0.mk aG
        have lI := Aside0.mk ZF
        clear aG ZF
        have mI := Aside0.mk cG
        have nI := Aside0.mk bG
        clear cG bG
        replace p156 := eq_true p156
        replace q156 := eq_true q156
        go_wp2_with (first | ((with_reducible refine gate_callee (f := 47) rfl ?_); refine goesL_ (some 20) rfl rfl Tryz.func47 q1_31 rfl #[.agg #[.slice MJ ((rd_T66 l0 bA).f0).length NJ, .int .i64 ((rd_T66 l0 bA).f1), .slice OJ ((rd_T66 l0 bA).f2).length PJ, .slice QJ ((rd_T66 l0 bA).f3).length RJ]] rfl q1_1 ?_; (with_reducible refine (laws_toThread.calls k1 _ _ ((rd_T66 l0 bA).f0) ((rd_T66 l0 bA).f1) _ _ ((rd_T66 l0 bA).f2) _ _ ((rd_T66 l0 bA).f3) fI HG gI hI _ ?side1 ?side2 ?side3 ?side4 ?side5 ?side6 A8.out).mono ?_); (case side1 => repeat (first | exact (Kd.C_below iI.out HB.out) | (with_reducible refine Kd.C_alloc ?_ _) | (with_reducible refine Kd.C_drewN ?_ _) | (with_reducible refine Kd.C_drew ?_))); (case side2 => exact jI.out); (case side3 => repeat (first | exact (Kd.C_below kI.out HB.out) | (with_reducible refine Kd.C_alloc ?_ _) | (with_reducible refine Kd.C_drewN ?_ _) | (with_reducible refine Kd.C_drew ?_))); (case side4 => exact lI.out); (case side5 => repeat (first | exact (Kd.C_below mI.out HB.out) | (with_reducible refine Kd.C_alloc ?_ _) | (with_reducible refine Kd.C_drewN ?_ _) | (with_reducible refine Kd.C_drew ?_))); (case side6 => exact nI.out); rintro e mB ⟨oI, pI, qI, rfl, ho0, ho1, ho2, hb⟩; refine ⟨_, rfl, ?_⟩; have dA := Aside0.mk (Kd.S_mono (Kd.S_told (Kd.S_told (Kd.S_told (Kd.S_old (by (with_reducible repeat (first | apply Kd.S_alloc | apply Kd.S_drewN | apply Kd.S_drew)); exact yA.out) hb) (Kd.R_base ho0)) (Kd.R_base ho1)) (Kd.R_base ho2)) (fun _ h_ => h_.1)); have fA := Aside0.mk (Kd.R_lower ho0 (below_size q1_0)); have iA := Aside0.mk (Kd.R_lower ho1 (below_size q1_0)); have pA := Aside0.mk (Kd.R_lower ho2 (below_size q1_0)); have ZA := Aside0.mk (below_step q1_0 hb); clear yA HB; have yA := dA; have dG := fA; have eG := iA; have BE := pA; have HB := ZA; clear dA fA iA pA ZA; (try clear hb); (try clear hb2); (try clear hk); (try clear hi); (try clear ho0); (try clear ho1); (try clear ho2); have p10 : 0 ≤ (bA : Int) := of_decide_eq_true q1_3; have q10 : (bA : Int) < ((uA.length : Int) : Int) := of_decide_eq_true q1_3; obtain ⟨go10, aC, UC, iH, gl10, cl10, HG10⟩ := Kd.S_form yA.out (by omega); (first | cases UC | (injection UC with ea_ en_ ec_; (first | subst ea_ | (injection ea_ with ea_; subst ea_)); subst ec_; clear en_)); have GB10 := Aside0.mk iH; have GG10 := Aside0.mk HG10; clear iH gl10 HG10; obtain ⟨_, ce10, hcl10, hM10, hcc10, hfr10, _, _⟩ := Kd.S_elem yA.out z52 (bA : Int) p10 q10; obtain ⟨ve10_0, ve10_2, ve10_3, rfl, ge10_0, ge10_2, ge10_3⟩ := k52_openM hM10; have rJ : mB.cell? ⟨go10, (bA : Int).toNat * 4, none⟩ = some (ve10_0) := hcc10 0 _ rfl; have sJ : mB.cell? ⟨go10, (bA : Int).toNat * 4 + 1, none⟩ = some (.int .i64 ((rd_T52 uA bA).f1)) := hcc10 1 _ rfl; have tJ : mB.cell? ⟨go10, (bA : Int).toNat * 4 + 2, none⟩ = some (ve10_2) := hcc10 2 _ rfl; have uJ : mB.cell? ⟨go10, (bA : Int).toNat * 4 + 3, none⟩ = some (ve10_3) := hcc10 3 _ rfl; have vJ : mB.frozen? ⟨go10, (bA : Int).toNat * 4, none⟩ = false := hfr10 0; have wJ : mB.frozen? ⟨go10, (bA : Int).toNat * 4 + 1, none⟩ = false := hfr10 1; have xJ : mB.frozen? ⟨go10, (bA : Int).toNat * 4 + 2, none⟩ = false := hfr10 2; have yJ : mB.frozen? ⟨go10, (bA : Int).toNat * 4 + 3, none⟩ = false := hfr10 3; clear hcl10 hcc10 hfr10 hM10; replace p10 := eq_true p10; replace q10 := eq_true q10; have n_ := Aside0.mk (Kd.S_mono (ok' := (fun k_ => some k_ ≠ (oI : Value).ownBlock ∧ some k_ ≠ (pI : Value).ownBlock ∧ some k_ ≠ (qI : Value).ownBlock)) yA.out (fun k_ hk => ⟨hk.1.1.2, ⟨hk.1.2, hk.2⟩⟩)); clear yA; have yA := n_; clear n_; have HX12 := Aside0.mk (show Kd.S k52 52 mB w.heap.size (fun k_ => ((fun _ => True)) k_ ∧ ¬ ((fun k_ => some k_ = (oI : Value).ownBlock ∨ some k_ = (pI : Value).ownBlock ∨ some k_ = (qI : Value).ownBlock)) k_) (.slice (some ⟨go10, 0, none⟩) uA.length aC) uA from (by (with_reducible repeat (first | apply Kd.S_alloc | apply Kd.S_drewN | apply Kd.S_drew)); exact Kd.S_mono yA.out (fun k_ hk => ⟨trivial, fun e_ => e_.elim (fun h_ => hk.1 h_) (fun h_ => h_.elim (fun h_ => hk.2.1 h_) (fun h_ => hk.2.2 h_))⟩))); obtain ⟨oki12, ce12, hcl12, hM12, hcc12, hfr12, hoki12, hH12⟩ := Kd.S_elem HX12.out z52 (bA : Int) (of_decide_eq_true q1_3) (by have h_ : (bA : Int) < ((uA.length : Int) : Int) := of_decide_eq_true q1_3; first | exact h_ | (have e_ := (Kd.S_reads' yA.out).1; omega) | simpa using h_); obtain ⟨ve12_0, ve12_2, ve12_3, rfl, ge12_0, ge12_2, ge12_3⟩ := k52_openM hM12; have HP12 := Kd.S_seg hH12 (of_decide_eq_true q1_3) (by have h_ : (bA : Int) < ((uA.length : Int) : Int) := of_decide_eq_true q1_3; first | exact h_ | (have e_ := (Kd.S_reads' yA.out).1; omega) | simpa using h_) (seg := [oI, .int .i64 HG, pI, qI]) (j := 0) (show 4 ≤ 4 from by decide) (x' := (⟨fI, HG, gI, hI⟩ : S52)) (k52_mkM _ _ _ (⟨fI, HG, gI, hI⟩ : S52) (Kd.R_mono (Kd.R_tight rfl (Kd.R_mono (ok' := fun k_ => ((fun _ => True)) k_ ∧ k_ ≠ go10) (Kd.R_apart' (dG.out) (Kd.S_typed yA.out) q1_53) (fun k_ hk => ⟨trivial, fun e_ => (hk.2) (by rw [e_]; rfl)⟩))) (fun _ h_ => Or.inr (Or.inl h_))) (Kd.R_mono (Kd.R_tight rfl (Kd.R_mono (ok' := fun k_ => ((fun _ => True)) k_ ∧ k_ ≠ go10) (Kd.R_apart' (eG.out) (Kd.S_typed yA.out) q1_53) (fun k_ hk => ⟨trivial, fun e_ => (hk.2) (by rw [e_]; rfl)⟩))) (fun _ h_ => Or.inr (Or.inr (Or.inl h_)))) (Kd.R_mono (Kd.R_tight rfl (Kd.R_mono (ok' := fun k_ => ((fun _ => True)) k_ ∧ k_ ≠ go10) (Kd.R_apart' (BE.out) (Kd.S_typed yA.out) q1_53) (fun k_ hk => ⟨trivial, fun e_ => (hk.2) (by rw [e_]; rfl)⟩))) (fun _ h_ => Or.inr (Or.inr (Or.inr (h_))))) (fun k_ hk_ he_ => BE.out.1 k_ he_ hk_.symm)) (fun _ hk => hk) (fun k_ hk_ => hk_.elim (fun h_ => ((Kd.R_mono (ok' := fun k_ => ((fun _ => True)) k_ ∧ k_ ≠ go10) (Kd.R_apart' (dG.out) (Kd.S_typed yA.out) q1_53) (fun k_ hk => ⟨trivial, fun e_ => (hk.2) (by rw [e_]; rfl)⟩))).1 k_ h_.symm) (fun h_ => h_.elim (fun h_ => ((Kd.R_mono (ok' := fun k_ => ((fun _ => True)) k_ ∧ k_ ≠ go10) (Kd.R_apart' (eG.out) (Kd.S_typed yA.out) q1_53) (fun k_ hk => ⟨trivial, fun e_ => (hk.2) (by rw [e_]; rfl)⟩))).1 k_ h_.symm) (fun h_ => ((Kd.R_mono (ok' := fun k_ => ((fun _ => True)) k_ ∧ k_ ≠ go10) (Kd.R_apart' (BE.out) (Kd.S_typed yA.out) q1_53) (fun k_ hk => ⟨trivial, fun e_ => (hk.2) (by rw [e_]; rfl)⟩))).1 k_ h_.symm))); have dF := hcc12 0 _ rfl; (try simp only [show (k52).sz = 4 from rfl, Nat.mul_one, Nat.add_zero] at dF); have eF := hfr12 0; (try simp only [show (k52).sz = 4 from rfl, Nat.mul_one, Nat.add_zero] at eF); have fF := hcc12 1 _ rfl; (try simp only [show (k52).sz = 4 from rfl, Nat.mul_one, Nat.add_zero] at fF); have gF := hfr12 1; (try simp only [show (k52).sz = 4 from rfl, Nat.mul_one, Nat.add_zero] at gF); have hF := hcc12 2 _ rfl; (try simp only [show (k52).sz = 4 from rfl, Nat.mul_one, Nat.add_zero] at hF); have iF := hfr12 2; (try simp only [show (k52).sz = 4 from rfl, Nat.mul_one, Nat.add_zero] at iF); have jF := hcc12 3 _ rfl; (try simp only [show (k52).sz = 4 from rfl, Nat.mul_one, Nat.add_zero] at jF); have kF := hfr12 3; (try simp only [show (k52).sz = 4 from rfl, Nat.mul_one, Nat.add_zero] at kF); clear hcl12 hcc12 hfr12 hM12 hoki12 hH12) | ((with_reducible refine gate_store (t := 52) (p := 21) rfl ?_); obtain ⟨Aq0_, cq0_, eq0_⟩ := Kd.R_slice dG.out; obtain ⟨Aq1_, cq1_, eq1_⟩ := Kd.R_slice eG.out; obtain ⟨Aq2_, cq2_, eq2_⟩ := Kd.R_slice BE.out; refine store_event (t := 52) (p := 21) (v := ?vo_w13) (w1 := ((((mB.setCell ⟨go10, (bA : Int).toNat * 4, none⟩ (oI)).setCell ⟨go10, (bA : Int).toNat * 4 + 1, none⟩ (.int .i64 HG)).setCell ⟨go10, (bA : Int).toNat * 4 + 2, none⟩ (pI)).setCell ⟨go10, (bA : Int).toNat * 4 + 3, none⟩ (qI))) ?hg ?ho ?hn ?hr ?_; (case ho => rfl); (case hg => rfl); (case hn => rfl); (case hr => first | (go_simp; done) | (go_simp; rfl) | (simp only [eq0_, eq1_, eq2_]; go_simp; done) | (simp only [eq0_, eq1_, eq2_]; go_simp; rfl)); intro CE hw; have hg : mB.grownBy CE (some go10) := (by rw [hw]; exact HP12.2); have hp_ : Kd.S k52 52 CE w.heap.size (fun _ => True) (.slice (some ⟨go10, 0, none⟩) uA.length aC) y167 := (by rw [hw, Ny167.out]; exact HP12.1); clear HP12; have dA := Aside0.mk (hp_); have fA := Aside0.mk ((by rw [hw]; exact below_set (below_set (below_set (below_set (HB.out) GB10.out) GB10.out) GB10.out) GB10.out : Below w.heap.size w CE)); clear yA HB dG eG BE; have yA := dA; have HB := fA; clear dA fA; clear hg hw hp_))
        go_roundg k1
        case measure => have := HK1.out; omega
        case rel => exact ⟨(y167), (wrap64 (bA + 1)), q1_17, H', ⟨by have := HK1.out; omega⟩, ⟨by (with_reducible repeat (first | apply Kd.S_alloc | apply Kd.S_drewN | apply Kd.S_drew)); exact yA.out⟩, ⟨q1_0⟩⟩
       ·rw [if_neg c9] at H
        exact absurd H (by simp)
      ·rw [if_neg c7] at H
       exact absurd H (by simp)
     ·rw [if_neg c6] at H
      have HC : decide (bA < (l0.length : Int)) = false := decide_eq_false c6
      clear c6
      obtain rfl := Option.some.inj H
      go_wp2
      go_ret
      exact ⟨_, q1_2, by (with_reducible repeat (first | apply Kd.S_alloc | apply Kd.S_drewN | apply Kd.S_drew)); exact yA.out, q1_0⟩
  ·rw [if_neg c3] at H
   exact absurd H (by simp)
 ·rw [if_neg c2] at H
  exact absurd H (by simp)
def laws_toCrew.f (k : Nat) (jA : Int) (cA : Int) (eA : List Int) (aA : List (S66)) (oA : Int) : Option (Int × Int × List Int × (List (S52)) × Int) := (laws_toMem.f k eA).bind fun TC => ((laws_toThreadS.f k aA).bind fun BD => (some (jA, cA, TC, BD, oA)))
theorem laws_toCrew.mono : ∀ a0 a1 a2 a3 a4 k, LeO (laws_toCrew.f k a0 a1 a2 a3 a4) (laws_toCrew.f (k + 1) a0 a1 a2 a3 a4) := by
 intro a0 a1 a2 a3 a4 k
 unfold laws_toCrew.f
 repeat' first
   | (with_reducible exact laws_toMem.mono _ _)
   | (with_reducible exact laws_toThreadS.mono _ _)
   | (with_reducible exact LeO.refl _)
   | (with_reducible exact LeO.none _)
   | (with_reducible refine LeO.ite ?_ ?_)
   | (with_reducible refine LeO.bind ?_ (fun _ => ?_))
   | exact laws_toMem.mono _ _
   | exact laws_toThreadS.mono _ _
   | exact LeO.none _
   | refine LeO.ite ?_ ?_
   | refine LeO.bind ?_ (fun _ => ?_)
set_option maxHeartbeats 8000000 in
set_option maxRecDepth 100000 in
theorem laws_toCrew.calls (k : Nat) (jA : Int) (cA : Int) (lA : Option Addr) (mA : Nat) (eA : List Int) (qA : Option Addr) (nA : Nat) (aA : List (S66)) (oA : Int) (r1 : Int) (r2 : Int) (r3 : List Int) (r4 : List (S52)) (r5 : Int) (w : World) (xB : Kd.C (Kd.int .i64) w lA eA.length eA) (yB : eA.length ≤ mA) (sB : Kd.C k66 w qA aA.length aA) (zB : aA.length ≤ nA) (h : laws_toCrew.f k jA cA eA aA oA = some (r1, r2, r3, r4, r5)) :
  Calls Tryz.prog 7 #[.agg #[.int .i64 jA, .int .i64 cA, .slice lA eA.length mA, .slice qA aA.length nA, .int .i64 oA]] w fun e w' => ∃ v2_ v3_ : Value, e = .returned (.agg #[.int .i64 r1, .int .i64 r2, v2_, v3_, .int .i64 r5]) ∧ Kd.R (Kd.int .i64) 3 w' w.heap.size (fun _ => True) v2_ r3 ∧ Kd.S k52 52 w' w.heap.size (fun k_ => some k_ ≠ (v2_ : Value).ownBlock) v3_ r4 ∧ Below w.heap.size w w' := by
 have hu27 := Tryz.underlying27
 have hu32 := Tryz.underlying32
 have hu24 := Tryz.underlying24
 have hu29 := Tryz.underlying29
 have oD := Aside0.mk xB
 have hC := Aside0.mk yB
 clear xB yB
 have AB := Aside0.mk sB
 have KC := Aside0.mk zB
 clear sB zB
 have HB := Aside0.mk (Below.refl w.heap.size w)
 have H : ((laws_toMem.f k eA).bind fun TC => ((laws_toThreadS.f k aA).bind fun BD => (some (jA, cA, TC, BD, oA)))) = some (r1, r2, r3, r4, r5) := h
 clear h
 replace H := Option.bind_eq_some_iff.mp H
 obtain ⟨TC, A20, H⟩ := H
 (try dsimp only at H)
 have A2 := Aside0.mk A20
 clear A20
 replace H := Option.bind_eq_some_iff.mp H
 obtain ⟨BD, A30, H⟩ := H
 (try dsimp only at H)
 have A3 := Aside0.mk A30
 clear A30
 simp only [Option.some.injEq, Prod.mk.injEq] at H
 obtain ⟨rfl, rfl, rfl, rfl, rfl⟩ := H
 go_enter Tryz.func7, Tryz.ntmps7
 go_wp2_with (first | ((with_reducible refine gate_dst (N := 1) rfl ?_); refine box_event ?hg (N := 1) ?hd (cs := #[.int .i64 jA, .int .i64 cA, .slice lA eA.length mA, .slice qA aA.length nA, .int .i64 oA]) (t := 27) ?hr ?_; (case hd => rfl); (case hg => rfl); (case hr => first | (go_simp; done) | (go_simp; rfl)); intro LA hg w4 hbox hb; have dA := Aside0.mk (below_step q1_0 hb); have fA := Aside0.mk (hbox); have iA := Aside0.mk ((q1_6 : w.heap.size ≤ LA)); have pA := Aside0.mk ((q1_6 : w.heap.size ≤ LA)); clear HB; have HB := dA; have tA := fA; have pO := iA; have OG := pA; clear dA fA iA pA; clear hb hbox hg) | ((with_reducible refine gate_dst (N := 2) rfl ?_); refine box_event ?hg (N := 2) ?hd (cs := #[.int .i64 0, .int .i64 0, .slice none 0 0, .slice none 0 0, .int .i64 0]) (t := 32) ?hr ?_; (case hd => rfl); (case hg => rfl); (case hr => first | (go_simp; done) | (go_simp; rfl)); intro QA hg w5 hbox hb; have dA := Aside0.mk (blk_below (g := LA) (o := .cells #[.int .i64 jA, .int .i64 cA, .slice lA eA.length mA, .slice qA aA.length nA, .int .i64 oA] 27 (0, 0)) q1_30 hb); have fA := Aside0.mk (below_step q1_52 hb); have iA := Aside0.mk (hbox); have pA := Aside0.mk ((by rw [hg]; exact (below_size q1_52) : w.heap.size ≤ QA)); have ZA := Aside0.mk ((by rw [hg]; exact (below_size q1_52) : w.heap.size ≤ QA)); have nB := Aside0.mk ((by rw [hg]; exact Nat.ne_of_lt (blk_lt (g := LA) (o := .cells #[.int .i64 jA, .int .i64 cA, .slice lA eA.length mA, .slice qA aA.length nA, .int .i64 oA] 27 (0, 0)) q1_30) : LA ≠ QA)); have rB := Aside0.mk ((by rw [hg]; exact Nat.ne_of_gt (blk_lt (g := LA) (o := .cells #[.int .i64 jA, .int .i64 cA, .slice lA eA.length mA, .slice qA aA.length nA, .int .i64 oA] 27 (0, 0)) q1_30) : QA ≠ LA)); clear tA HB; have tA := dA; have HB := fA; have XA := iA; have qO := pA; have tI := ZA; have IG := nB; have JG := rB; clear dA fA iA pA ZA nB rB; clear hb hbox hg) | ((with_reducible refine gate_dst (N := 3) rfl ?_); refine box_event ?hg (N := 3) ?hd (cs := #[.int .i64 0, .int .i64 0, .slice none 0 0, .slice none 0 0, .int .i64 0]) (t := 32) ?hr ?_; (case hd => rfl); (case hg => rfl); (case hr => first | (go_simp; done) | (go_simp; rfl)); intro MA hg w6 hbox hb; have dA := Aside0.mk (blk_below (g := LA) (o := .cells #[.int .i64 jA, .int .i64 cA, .slice lA eA.length mA, .slice qA aA.length nA, .int .i64 oA] 27 (0, 0)) q1_30 hb); have fA := Aside0.mk (blk_below (g := QA) (o := .cells #[.int .i64 0, .int .i64 0, .slice none 0 0, .slice none 0 0, .int .i64 0] 32 (0, 0)) (by (with_reducible repeat (first | refine blk_drewN ?_ _ | refine blk_drew ?_ | refine blk_alloc ?_ _)); exact XA.out) hb); have iA := Aside0.mk (below_step q1_40 hb); have pA := Aside0.mk (hbox); have ZA := Aside0.mk ((by rw [hg]; exact (below_size q1_40) : w.heap.size ≤ MA)); have nB := Aside0.mk ((by rw [hg]; exact (below_size q1_40) : w.heap.size ≤ MA)); have rB := Aside0.mk ((by rw [hg]; exact Nat.ne_of_lt (blk_lt (g := LA) (o := .cells #[.int .i64 jA, .int .i64 cA, .slice lA eA.length mA, .slice qA aA.length nA, .int .i64 oA] 27 (0, 0)) q1_30) : LA ≠ MA)); have yC := Aside0.mk ((by rw [hg]; exact Nat.ne_of_gt (blk_lt (g := LA) (o := .cells #[.int .i64 jA, .int .i64 cA, .slice lA eA.length mA, .slice qA aA.length nA, .int .i64 oA] 27 (0, 0)) q1_30) : MA ≠ LA)); have gH := Aside0.mk ((by rw [hg]; exact Nat.ne_of_lt (blk_lt (g := QA) (o := .cells #[.int .i64 0, .int .i64 0, .slice none 0 0, .slice none 0 0, .int .i64 0] 32 (0, 0)) (by (with_reducible repeat (first | refine blk_drewN ?_ _ | refine blk_drew ?_ | refine blk_alloc ?_ _)); exact XA.out)) : QA ≠ MA)); have hH := Aside0.mk ((by rw [hg]; exact Nat.ne_of_gt (blk_lt (g := QA) (o := .cells #[.int .i64 0, .int .i64 0, .slice none 0 0, .slice none 0 0, .int .i64 0] 32 (0, 0)) (by (with_reducible repeat (first | refine blk_drewN ?_ _ | refine blk_drew ?_ | refine blk_alloc ?_ _)); exact XA.out)) : MA ≠ QA)); clear tA XA HB; have tA := dA; have XA := fA; have HB := iA; have wA := pA; have rO := ZA; have WJ := nB; have aD := rB; have KG := yC; have sC := gH; have LG := hH; clear dA fA iA pA ZA nB rB yC gH hH; clear hb hbox hg; have bK := IG.out; have cK := JG.out; have NK := aD.out; have OK := KG.out; have GE : w6.cell? ⟨LA, 0, none⟩ = some (.int .i64 jA) := (blk_cell tA.out 0).trans rfl; have jJ : w6.cell? ⟨LA, 1, none⟩ = some (.int .i64 cA) := (blk_cell tA.out 1).trans rfl; have kJ : w6.cell? ⟨LA, 2, none⟩ = some (.slice lA eA.length mA) := (blk_cell tA.out 2).trans rfl; have lJ : w6.cell? ⟨LA, 3, none⟩ = some (.slice qA aA.length nA) := (blk_cell tA.out 3).trans rfl; have mJ : w6.cell? ⟨LA, 4, none⟩ = some (.int .i64 oA) := (blk_cell tA.out 4).trans rfl; have HE := blk_frozen tA.out 0; have nJ := blk_frozen tA.out 1; have oJ := blk_frozen tA.out 2; have pJ := blk_frozen tA.out 3; have qJ := blk_frozen tA.out 4; have sO := LG.out; have tO := sC.out; have ID : w6.cell? ⟨MA, 0, none⟩ = some (.int .i64 0) := (blk_cell wA.out 0).trans rfl; have HH : w6.cell? ⟨MA, 1, none⟩ = some (.int .i64 0) := (blk_cell wA.out 1).trans rfl; have IH : w6.cell? ⟨MA, 2, none⟩ = some (.slice none 0 0) := (blk_cell wA.out 2).trans rfl; have JH : w6.cell? ⟨MA, 3, none⟩ = some (.slice none 0 0) := (blk_cell wA.out 3).trans rfl; have KH : w6.cell? ⟨MA, 4, none⟩ = some (.int .i64 0) := (blk_cell wA.out 4).trans rfl; have JD := blk_frozen wA.out 0; have LH := blk_frozen wA.out 1; have MH := blk_frozen wA.out 2; have NH := blk_frozen wA.out 3; have OH := blk_frozen wA.out 4) | ((with_reducible refine gate_callee (f := 24) rfl ?_); refine goesL_ (some 12) rfl rfl Tryz.func24 q1_31 rfl #[.agg #[.slice lA eA.length mA]] rfl q1_1 ?_; (with_reducible refine (laws_toMem.calls k _ _ eA TC _ ?side1 ?side2 A2.out).mono ?_); (case side1 => exact Kd.C_below oD.out q1_12); (case side2 => exact hC.out); rintro e kD ⟨LO, rfl, ho0, hb⟩; refine ⟨_, rfl, ?_⟩; have dA := Aside0.mk (Kd.R_lower ho0 (below_size q1_12)); have fA := Aside0.mk (blk_below (g := LA) (o := .cells #[.int .i64 jA, .int .i64 cA, .slice lA eA.length mA, .slice qA aA.length nA, .int .i64 oA] 27 (0, 0)) (by (iterate 2 ((with_reducible repeat (first | refine blk_drewN ?_ _ | refine blk_drew ?_ | refine blk_alloc ?_ _)); refine blk_far ?_ aD.out _)); (with_reducible repeat (first | refine blk_drewN ?_ _ | refine blk_drew ?_ | refine blk_alloc ?_ _)); exact tA.out) hb); have iA := Aside0.mk (blk_below (g := QA) (o := .cells #[.int .i64 0, .int .i64 0, .slice none 0 0, .slice none 0 0, .int .i64 0] 32 (0, 0)) (by (iterate 2 ((with_reducible repeat (first | refine blk_drewN ?_ _ | refine blk_drew ?_ | refine blk_alloc ?_ _)); refine blk_far ?_ sC.out _)); (with_reducible repeat (first | refine blk_drewN ?_ _ | refine blk_drew ?_ | refine blk_alloc ?_ _)); exact XA.out) hb); have pA := Aside0.mk (blk_below (g := MA) (o := .cells #[.int .i64 jA, .int .i64 cA, .slice none 0 0, .slice none 0 0, .int .i64 0] 32 (0, 0)) (by (with_reducible repeat (first | refine blk_drewN ?_ _ | refine blk_drew ?_ | refine blk_alloc ?_ _)); refine blk_put (cs := #[.int .i64 jA, .int .i64 0, .slice none 0 0, .slice none 0 0, .int .i64 0]) ?_ 1 _ rfl; (with_reducible repeat (first | refine blk_drewN ?_ _ | refine blk_drew ?_ | refine blk_alloc ?_ _)); refine blk_put (cs := #[.int .i64 0, .int .i64 0, .slice none 0 0, .slice none 0 0, .int .i64 0]) ?_ 0 _ rfl; (with_reducible repeat (first | refine blk_drewN ?_ _ | refine blk_drew ?_ | refine blk_alloc ?_ _)); exact wA.out) hb); have ZA := Aside0.mk (below_step q1_12 hb); clear tA XA wA HB; have HD := dA; have tA := fA; have XA := iA; have wA := pA; have HB := ZA; clear dA fA iA pA ZA; (try clear hb); (try clear hb2); (try clear hk); (try clear hi); (try clear ho0); obtain ⟨sE, tE, yN⟩ := Kd.R_slice HD.out; subst yN; have GF : kD.cell? ⟨MA, 0, none⟩ = some (.int .i64 jA) := (blk_cell wA.out 0).trans rfl; have HF : kD.cell? ⟨MA, 1, none⟩ = some (.int .i64 cA) := (blk_cell wA.out 1).trans rfl; have IF : kD.cell? ⟨MA, 2, none⟩ = some (.slice none 0 0) := (blk_cell wA.out 2).trans rfl; have JF : kD.cell? ⟨MA, 3, none⟩ = some (.slice none 0 0) := (blk_cell wA.out 3).trans rfl; have OL : kD.cell? ⟨MA, 4, none⟩ = some (.int .i64 0) := (blk_cell wA.out 4).trans rfl; have KF := blk_frozen wA.out 0; have LF := blk_frozen wA.out 1; have MF := blk_frozen wA.out 2; have NF := blk_frozen wA.out 3; have PL := blk_frozen wA.out 4; have iD : kD.cell? ⟨LA, 0, none⟩ = some (.int .i64 jA) := (blk_cell tA.out 0).trans rfl; have RH : kD.cell? ⟨LA, 1, none⟩ = some (.int .i64 cA) := (blk_cell tA.out 1).trans rfl; have SH : kD.cell? ⟨LA, 2, none⟩ = some (.slice lA eA.length mA) := (blk_cell tA.out 2).trans rfl; have TH : kD.cell? ⟨LA, 3, none⟩ = some (.slice qA aA.length nA) := (blk_cell tA.out 3).trans rfl; have QL : kD.cell? ⟨LA, 4, none⟩ = some (.int .i64 oA) := (blk_cell tA.out 4).trans rfl; have jD := blk_frozen tA.out 0; have UH := blk_frozen tA.out 1; have VH := blk_frozen tA.out 2; have WH := blk_frozen tA.out 3; have RL := blk_frozen tA.out 4) | ((with_reducible refine gate_callee (f := 25) rfl ?_); refine goesL_ (some 16) rfl rfl Tryz.func25 q1_31 rfl #[.slice qA aA.length nA] rfl q1_1 ?_; (with_reducible refine (laws_toThreadS.calls k _ _ aA BD _ ?side1 ?side2 A3.out).mono ?_); (case side1 => exact Kd.C_below AB.out q1_12); (case side2 => exact KC.out); rintro e lD ⟨MO, rfl, ho0, hb⟩; refine ⟨_, rfl, ?_⟩; have dA := Aside0.mk (Kd.R_below (by (with_reducible repeat (first | apply Kd.R_alloc | apply Kd.R_drewN | apply Kd.R_drew)); exact (Kd.R_mono (Kd.R_far (p := ⟨MA, 2, none⟩) (Kd.R_types HD.out wA.out q1_53) (fun _ hk => hk.2) (.slice sE TC.length tE)) (fun _ h_ => h_.1))) hb); have fA := Aside0.mk (Kd.S_lower (Kd.S_new' ho0 (Kd.R_lt (by (with_reducible repeat (first | apply Kd.R_alloc | apply Kd.R_drewN | apply Kd.R_drew)); exact (Kd.R_mono (Kd.R_far (p := ⟨MA, 2, none⟩) (Kd.R_types HD.out wA.out q1_53) (fun _ hk => hk.2) (.slice sE TC.length tE)) (fun _ h_ => h_.1))))) (below_size q1_12)); have iA := Aside0.mk (blk_below (g := LA) (o := .cells #[.int .i64 jA, .int .i64 cA, .slice lA eA.length mA, .slice qA aA.length nA, .int .i64 oA] 27 (0, 0)) (by (with_reducible repeat (first | refine blk_drewN ?_ _ | refine blk_drew ?_ | refine blk_alloc ?_ _)); refine blk_far ?_ aD.out _; (with_reducible repeat (first | refine blk_drewN ?_ _ | refine blk_drew ?_ | refine blk_alloc ?_ _)); exact tA.out) hb); have pA := Aside0.mk (blk_below (g := QA) (o := .cells #[.int .i64 0, .int .i64 0, .slice none 0 0, .slice none 0 0, .int .i64 0] 32 (0, 0)) (by (with_reducible repeat (first | refine blk_drewN ?_ _ | refine blk_drew ?_ | refine blk_alloc ?_ _)); refine blk_far ?_ sC.out _; (with_reducible repeat (first | refine blk_drewN ?_ _ | refine blk_drew ?_ | refine blk_alloc ?_ _)); exact XA.out) hb); have ZA := Aside0.mk (blk_below (g := MA) (o := .cells #[.int .i64 jA, .int .i64 cA, .slice sE TC.length tE, .slice none 0 0, .int .i64 0] 32 (0, 0)) (by (with_reducible repeat (first | refine blk_drewN ?_ _ | refine blk_drew ?_ | refine blk_alloc ?_ _)); refine blk_put (cs := #[.int .i64 jA, .int .i64 cA, .slice none 0 0, .slice none 0 0, .int .i64 0]) ?_ 2 _ rfl; (with_reducible repeat (first | refine blk_drewN ?_ _ | refine blk_drew ?_ | refine blk_alloc ?_ _)); exact wA.out) hb); have nB := Aside0.mk (below_step q1_12 hb); clear HD tA XA wA HB; have HD := dA; have OI := fA; have tA := iA; have XA := pA; have wA := ZA; have HB := nB; clear dA fA iA pA ZA nB; (try clear hb); (try clear hb2); (try clear hk); (try clear hi); (try clear ho0); obtain ⟨jC, kC, LJ⟩ := Kd.S_slice OI.out; subst LJ; have OF : lD.cell? ⟨MA, 0, none⟩ = some (.int .i64 jA) := (blk_cell wA.out 0).trans rfl; have PF : lD.cell? ⟨MA, 1, none⟩ = some (.int .i64 cA) := (blk_cell wA.out 1).trans rfl; have QF : lD.cell? ⟨MA, 2, none⟩ = some (.slice sE TC.length tE) := (blk_cell wA.out 2).trans rfl; have RF : lD.cell? ⟨MA, 3, none⟩ = some (.slice none 0 0) := (blk_cell wA.out 3).trans rfl; have PH : lD.cell? ⟨MA, 4, none⟩ = some (.int .i64 0) := (blk_cell wA.out 4).trans rfl; have SF := blk_frozen wA.out 0; have TF := blk_frozen wA.out 1; have UF := blk_frozen wA.out 2; have VF := blk_frozen wA.out 3; have QH := blk_frozen wA.out 4; have XH : lD.cell? ⟨LA, 0, none⟩ = some (.int .i64 jA) := (blk_cell tA.out 0).trans rfl; have YH : lD.cell? ⟨LA, 1, none⟩ = some (.int .i64 cA) := (blk_cell tA.out 1).trans rfl; have ZH : lD.cell? ⟨LA, 2, none⟩ = some (.slice lA eA.length mA) := (blk_cell tA.out 2).trans rfl; have aI : lD.cell? ⟨LA, 3, none⟩ = some (.slice qA aA.length nA) := (blk_cell tA.out 3).trans rfl; have SL : lD.cell? ⟨LA, 4, none⟩ = some (.int .i64 oA) := (blk_cell tA.out 4).trans rfl; have bI := blk_frozen tA.out 0; have cI := blk_frozen tA.out 1; have dI := blk_frozen tA.out 2; have eI := blk_frozen tA.out 3; have TL := blk_frozen tA.out 4; have vH : lD.cell? ⟨QA, 0, none⟩ = some (.int .i64 0) := (blk_cell XA.out 0).trans rfl; have UL : lD.cell? ⟨QA, 1, none⟩ = some (.int .i64 0) := (blk_cell XA.out 1).trans rfl; have VL : lD.cell? ⟨QA, 2, none⟩ = some (.slice none 0 0) := (blk_cell XA.out 2).trans rfl; have WL : lD.cell? ⟨QA, 3, none⟩ = some (.slice none 0 0) := (blk_cell XA.out 3).trans rfl; have XL : lD.cell? ⟨QA, 4, none⟩ = some (.int .i64 0) := (blk_cell XA.out 4).trans rfl; have wH := blk_frozen XA.out 0; have YL := blk_frozen XA.out 1; have ZL := blk_frozen XA.out 2; have aM := blk_frozen XA.out 3; have bM := blk_frozen XA.out 4))
 refine bodyPost_ret (results_cell_row rfl _ _ QA 32 #[.int .i64 jA, .int .i64 cA, .slice sE TC.length tE, .slice jC BD.length kC, .int .i64 oA] (0, 0) _ rfl (by (with_reducible repeat (first | refine blk_drewN ?_ _ | refine blk_drew ?_ | refine blk_alloc ?_ _)); refine blk_put (cs := #[.int .i64 jA, .int .i64 cA, .slice sE TC.length tE, .slice jC BD.length kC, .int .i64 0]) ?_ 4 _ rfl; (with_reducible repeat (first | refine blk_drewN ?_ _ | refine blk_drew ?_ | refine blk_alloc ?_ _)); refine blk_put (cs := #[.int .i64 jA, .int .i64 cA, .slice sE TC.length tE, .slice none 0 0, .int .i64 0]) ?_ 3 _ rfl; (with_reducible repeat (first | refine blk_drewN ?_ _ | refine blk_drew ?_ | refine blk_alloc ?_ _)); refine blk_put (cs := #[.int .i64 jA, .int .i64 cA, .slice none 0 0, .slice none 0 0, .int .i64 0]) ?_ 2 _ rfl; (with_reducible repeat (first | refine blk_drewN ?_ _ | refine blk_drew ?_ | refine blk_alloc ?_ _)); refine blk_put (cs := #[.int .i64 jA, .int .i64 0, .slice none 0 0, .slice none 0 0, .int .i64 0]) ?_ 1 _ rfl; (with_reducible repeat (first | refine blk_drewN ?_ _ | refine blk_drew ?_ | refine blk_alloc ?_ _)); refine blk_put (cs := #[.int .i64 0, .int .i64 0, .slice none 0 0, .slice none 0 0, .int .i64 0]) ?_ 0 _ rfl; (iterate 2 ((with_reducible repeat (first | refine blk_drewN ?_ _ | refine blk_drew ?_ | refine blk_alloc ?_ _)); refine blk_far ?_ sC.out _)); (with_reducible repeat (first | refine blk_drewN ?_ _ | refine blk_drew ?_ | refine blk_alloc ?_ _)); exact XA.out) Tryz.underlying32 rfl q1_31) rfl ?_
 exact ⟨_, _, q1_2, by (with_reducible repeat (first | apply Kd.R_alloc | apply Kd.R_drewN | apply Kd.R_drew)); exact Kd.R_mono (Kd.R_far (p := ⟨QA, 4, none⟩) (Kd.R_far (p := ⟨QA, 3, none⟩) (Kd.R_far (p := ⟨QA, 2, none⟩) (Kd.R_far (p := ⟨QA, 1, none⟩) (Kd.R_far (p := ⟨QA, 0, none⟩) (Kd.R_far (p := ⟨MA, 4, none⟩) (Kd.R_far (p := ⟨MA, 3, none⟩) (Kd.R_types (Kd.R_types HD.out wA.out q1_53) XA.out q1_53) (fun _ hk => hk.1.2) (.slice jC BD.length kC)) (fun _ hk => hk.1.2) (.int .i64 oA)) (fun _ hk => hk.2) (.int .i64 jA)) (fun _ hk => hk.2) (.int .i64 cA)) (fun _ hk => hk.2) (.slice sE TC.length tE)) (fun _ hk => hk.2) (.slice jC BD.length kC)) (fun _ hk => hk.2) (.int .i64 oA)) (fun _ hk => trivial), by (with_reducible repeat (first | apply Kd.S_alloc | apply Kd.S_drewN | apply Kd.S_drew)); exact Kd.S_mono (Kd.S_far (p := ⟨QA, 4, none⟩) (Kd.S_far (p := ⟨QA, 3, none⟩) (Kd.S_far (p := ⟨QA, 2, none⟩) (Kd.S_far (p := ⟨QA, 1, none⟩) (Kd.S_far (p := ⟨QA, 0, none⟩) (Kd.S_far (p := ⟨MA, 4, none⟩) (Kd.S_far (p := ⟨MA, 3, none⟩) (Kd.S_types (Kd.S_types OI.out wA.out q1_53) XA.out q1_53) (fun _ hk => hk.1.2) (.slice jC BD.length kC)) (fun _ hk => hk.1.2) (.int .i64 oA)) (fun _ hk => hk.2) (.int .i64 jA)) (fun _ hk => hk.2) (.int .i64 cA)) (fun _ hk => hk.2) (.slice sE TC.length tE)) (fun _ hk => hk.2) (.slice jC BD.length kC)) (fun _ hk => hk.2) (.int .i64 oA)) (fun _ hk => hk.1.1.2), q1_12⟩
end Go.Proofs.YtgghglocfdcegaaGreat.PFnExactCrewRun
