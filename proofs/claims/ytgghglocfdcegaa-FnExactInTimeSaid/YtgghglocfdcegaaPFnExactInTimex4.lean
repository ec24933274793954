-- Written by the session's own patched copy of the printer (wip/patch_print.py).
import Derived.Test.YtgghglocfdcegaaStabC
import Derived.Lib.RowBridge
import Derived.Test.YtgghglocfdcegaaPFnExactInTimex0
import Derived.Test.YtgghglocfdcegaaPFnExactInTimex1
import Derived.Test.YtgghglocfdcegaaPFnExactInTimex2
import Derived.Test.YtgghglocfdcegaaPFnExactInTimex3
namespace Go.Proofs.Ytgghglocfdcegaa.PFnExactInTime
open Go.RowKit Go.Proofs.YtgghglocfdcegaaW.PrintWords Go.Proofs.YtgghglocfdcegaaW.PrintLast Go.Proofs.YtgghglocfdcegaaW.PrintMore
attribute [local go_sem] max2_int min2_int max_two min_two max_three min_three max_four min_four   -- for this text's walks alone
set_option linter.unusedVariables false
set_option linter.unusedSimpArgs false

theorem q4_0 {p : Prop} (h : p := by repeat (first | (with_reducible first | exact HB.out | apply below_alloc | apply pw_below_drewN | apply below_drew1) | exact HB.out)) : p := h
theorem q4_1 {p : Prop} (h : p := by (try simp only [List.map_toArray, List.map_cons, List.map_nil]); first | done | rfl | (simp only [List.length_drop, List.length_take]; rfl)) : p := h
theorem q4_2 {p : Prop} (h : p := by (with_reducible repeat (first | apply Kd.R_alloc | apply Kd.R_drewN | apply Kd.R_drew)); exact cA.out) : p := h
theorem q4_3 {p : Prop} (h : p := by (with_reducible repeat (first | apply Kd.R_alloc | apply Kd.R_drewN | apply Kd.R_drew)); exact bA.out) : p := h
theorem q4_4 {p : Prop} (h : p := by (with_reducible repeat (first | apply Kd.R_alloc | apply Kd.R_drewN | apply Kd.R_drew)); exact eA.out) : p := h
theorem q4_5 {p : Prop} (h : p := by (with_reducible repeat (first | refine blk_drewN ?_ _ | refine blk_drew ?_ | refine blk_alloc ?_ _)); exact dA.out) : p := h
theorem q4_6 {p : Prop} (h : p := by first | (with_reducible assumption) | assumption) : p := h
theorem q4_7 {p : Prop} (h : p := by (with_reducible repeat (first | apply Kd.R_alloc | apply Kd.R_drewN | apply Kd.R_drew)); exact jA.out) : p := h
theorem q4_8 {p : Prop} (h : p := by (with_reducible repeat (first | apply Kd.R_alloc | apply Kd.R_drewN | apply Kd.R_drew)); exact FA.out) : p := h
theorem q4_9 {p : Prop} (h : p := by (with_reducible repeat (first | apply Kd.R_alloc | apply Kd.R_drewN | apply Kd.R_drew)); exact vA.out) : p := h
theorem q4_10 {p : Prop} (h : p := by repeat (first | (with_reducible first | exact HB.out | apply below_alloc | apply pw_below_drewN | apply below_drew1 | refine below_set ?_ AB.out | refine below_set ?_ NB.out) | exact HB.out)) : p := h
theorem q4_11 {p : Prop} (h : p := by repeat (first | (with_reducible first | exact HB.out | apply below_alloc | apply pw_below_drewN | apply below_drew1 | refine below_set ?_ AB.out) | exact HB.out)) : p := h
theorem q4_12 {p : Prop} (h : p := by (with_reducible repeat (first | apply Kd.R_alloc | apply Kd.R_drewN | apply Kd.R_drew)); exact SA.out) : p := h
theorem q4_13 {p : Prop} (h : p := by repeat (first | exact HR0.out | (with_reducible refine Kd.C_alloc ?_ _) | (with_reducible refine Kd.C_drewN ?_ _) | (with_reducible refine Kd.C_drew ?_))) : p := h
theorem q4_14 {p : Prop} (h : p := by first | rfl | (simp [errW_none, errW_some] <;> rfl) | (simp [*, errW_none, errW_some] <;> rfl)) : p := h
theorem q4_15 {p : Prop} (h : p := by (with_reducible repeat (first | refine blk_drewN ?_ _ | refine blk_drew ?_ | refine blk_alloc ?_ _)); exact fA.out) : p := h
theorem q4_16 {p : Prop} (h : p := by (try simp only [List.map_toArray, List.map_cons, List.map_nil]); first | done | (rw [show hB.length = gA.length from (Kd.R_reads' vA.out).1.symm] <;> rfl) | rfl | (simp only [List.length_drop, List.length_take]; rfl)) : p := h
theorem q4_17 {p : Prop} (h : p := by rw [hg]; exact Nat.ne_of_lt (blk_lt (g := kA) (o := .cells #[.int .i64 sA, .int .i64 wA, .int .i64 xA, .int .i64 yA, .int .i64 zA, .int .i64 AA, .int .i64 CA, .int .i64 GA] 92 (0, 0)) q4_5)) : p := h
theorem q4_18 {p : Prop} (h : p := by rw [hg]; exact Nat.ne_of_gt (blk_lt (g := kA) (o := .cells #[.int .i64 sA, .int .i64 wA, .int .i64 xA, .int .i64 yA, .int .i64 zA, .int .i64 AA, .int .i64 CA, .int .i64 GA] 92 (0, 0)) q4_5)) : p := h
theorem q4_19 {p : Prop} (h : p := by (with_reducible repeat (first | apply Kd.R_alloc | apply Kd.R_drewN | apply Kd.R_drew)); exact DA.out) : p := h
/-! ### laws_toFact: function 69 -/
def laws_toFact.f (sA : Int) (wA : Int) (xA : Int) (yA : Int) (zA : Int) (AA : Int) (CA : Int) (GA : Int) : Option (Int × Int × Int × Int × Int × Int × Int × Int) := some (sA, wA, xA, yA, zA, AA, CA, GA)
set_option maxHeartbeats 8000000 in
set_option maxRecDepth 100000 in
theorem laws_toFact.calls (sA : Int) (wA : Int) (xA : Int) (yA : Int) (zA : Int) (AA : Int) (CA : Int) (GA : Int) (r1 : Int) (r2 : Int) (r3 : Int) (r4 : Int) (r5 : Int) (r6 : Int) (r7 : Int) (r8 : Int) (w : World) (h : laws_toFact.f sA wA xA yA zA AA CA GA = some (r1, r2, r3, r4, r5, r6, r7, r8)) :
  Calls Try.prog 69 #[.agg #[.int .i64 sA, .int .i64 wA, .int .i64 xA, .int .i64 yA, .int .i64 zA, .int .i64 AA, .int .i64 CA, .int .i64 GA]] w fun e w' => e = .returned (.agg #[.int .i64 r1, .int .i64 r2, .int .i64 r3, .int .i64 r4, .int .i64 r5, .int .i64 r6, .int .i64 r7, .int .i64 r8]) ∧ Below w.heap.size w w' := by
 have hu92 := Try.underlying92
 have hu89 := Try.underlying89
 have HB := Aside0.mk (Below.refl w.heap.size w)
 have H : (some (sA, wA, xA, yA, zA, AA, CA, GA)) = some (r1, r2, r3, r4, r5, r6, r7, r8) := h
 clear h
 simp only [Option.some.injEq, Prod.mk.injEq] at H
 obtain ⟨rfl, rfl, rfl, rfl, rfl, rfl, rfl, rfl⟩ := H
 go_enter Try.func69, Try.ntmps69
 go_wp2_with (first | ((with_reducible refine gate_dst (N := 1) rfl ?_); refine box_event ?hg (N := 1) ?hd (cs := #[.int .i64 sA, .int .i64 wA, .int .i64 xA, .int .i64 yA, .int .i64 zA, .int .i64 AA, .int .i64 CA, .int .i64 GA]) (t := 92) ?hr ?_; (case hd => rfl); (case hg => rfl); (case hr => first | (go_simp; done) | (go_simp; rfl)); intro kA hg w2 hbox hb; have hA := Aside0.mk (below_step q4_0 hb); have iA := Aside0.mk (hbox); have oA := Aside0.mk ((by rw [hg]; exact (below_size q4_0) : w.heap.size ≤ kA)); have tA := Aside0.mk ((by rw [hg]; exact (below_size q4_0) : w.heap.size ≤ kA)); clear HB; have HB := hA; have dA := iA; have XD := oA; have AB := tA; clear hA iA oA tA; clear hb hbox hg) | ((with_reducible refine gate_dst (N := 2) rfl ?_); refine box_event ?hg (N := 2) ?hd (cs := #[.int .i64 0, .int .i64 0, .int .i64 0, .int .i64 0, .int .i64 0, .int .i64 0, .int .i64 0, .int .i64 0]) (t := 89) ?hr ?_; (case hd => rfl); (case hg => rfl); (case hr => first | (go_simp; done) | (go_simp; rfl)); intro lA hg w3 hbox hb; have hA := Aside0.mk (blk_below (g := kA) (o := .cells #[.int .i64 sA, .int .i64 wA, .int .i64 xA, .int .i64 yA, .int .i64 zA, .int .i64 AA, .int .i64 CA, .int .i64 GA] 92 (0, 0)) q4_5 hb); have iA := Aside0.mk (below_step q4_11 hb); have oA := Aside0.mk (hbox); have tA := Aside0.mk ((by rw [hg]; exact (below_size q4_11) : w.heap.size ≤ lA)); have BA := Aside0.mk ((by rw [hg]; exact (below_size q4_11) : w.heap.size ≤ lA)); have iB := Aside0.mk ((q4_17 : kA ≠ lA)); have fC := Aside0.mk ((q4_18 : lA ≠ kA)); clear dA HB; have dA := hA; have HB := iA; have fA := oA; have YD := tA; have NB := BA; have mB := iB; have nB := fC; clear hA iA oA tA BA iB fC; clear hb hbox hg) | ((with_reducible refine gate_dst (N := 3) rfl ?_); refine box_event ?hg (N := 3) ?hd (cs := #[.int .i64 0, .int .i64 0, .int .i64 0, .int .i64 0, .int .i64 0, .int .i64 0, .int .i64 0, .int .i64 0]) (t := 89) ?hr ?_; (case hd => rfl); (case hg => rfl); (case hr => first | (go_simp; done) | (go_simp; rfl)); intro pA hg w4 hbox hb; have hA := Aside0.mk (blk_below (g := kA) (o := .cells #[.int .i64 sA, .int .i64 wA, .int .i64 xA, .int .i64 yA, .int .i64 zA, .int .i64 AA, .int .i64 CA, .int .i64 GA] 92 (0, 0)) q4_5 hb); have iA := Aside0.mk (blk_below (g := lA) (o := .cells #[.int .i64 0, .int .i64 0, .int .i64 0, .int .i64 0, .int .i64 0, .int .i64 0, .int .i64 0, .int .i64 0] 89 (0, 0)) q4_15 hb); have oA := Aside0.mk (below_step q4_10 hb); have tA := Aside0.mk (hbox); have BA := Aside0.mk ((by rw [hg]; exact (below_size q4_10) : w.heap.size ≤ pA)); have iB := Aside0.mk ((by rw [hg]; exact (below_size q4_10) : w.heap.size ≤ pA)); have fC := Aside0.mk ((q4_17 : kA ≠ pA)); have ZD := Aside0.mk ((q4_18 : pA ≠ kA)); have aE := Aside0.mk ((by rw [hg]; exact Nat.ne_of_lt (blk_lt (g := lA) (o := .cells #[.int .i64 0, .int .i64 0, .int .i64 0, .int .i64 0, .int .i64 0, .int .i64 0, .int .i64 0, .int .i64 0] 89 (0, 0)) q4_15) : lA ≠ pA)); have bE := Aside0.mk ((by rw [hg]; exact Nat.ne_of_gt (blk_lt (g := lA) (o := .cells #[.int .i64 0, .int .i64 0, .int .i64 0, .int .i64 0, .int .i64 0, .int .i64 0, .int .i64 0, .int .i64 0] 89 (0, 0)) q4_15) : pA ≠ lA)); clear dA fA HB; have dA := hA; have fA := iA; have HB := oA; have mA := tA; have cE := BA; have gC := iB; have oB := fC; have pB := ZD; have PA := aE; have qB := bE; clear hA iA oA tA BA iB fC ZD aE bE; clear hb hbox hg; have dE := mB.out; have eE := nB.out; have fE := oB.out; have gE := pB.out; have HC : w4.cell? ⟨kA, 0, none⟩ = some (.int .i64 sA) := (blk_cell dA.out 0).trans rfl; have IC : w4.cell? ⟨kA, 1, none⟩ = some (.int .i64 wA) := (blk_cell dA.out 1).trans rfl; have JC : w4.cell? ⟨kA, 2, none⟩ = some (.int .i64 xA) := (blk_cell dA.out 2).trans rfl; have KC : w4.cell? ⟨kA, 3, none⟩ = some (.int .i64 yA) := (blk_cell dA.out 3).trans rfl; have LC : w4.cell? ⟨kA, 4, none⟩ = some (.int .i64 zA) := (blk_cell dA.out 4).trans rfl; have MC : w4.cell? ⟨kA, 5, none⟩ = some (.int .i64 AA) := (blk_cell dA.out 5).trans rfl; have NC : w4.cell? ⟨kA, 6, none⟩ = some (.int .i64 CA) := (blk_cell dA.out 6).trans rfl; have OC : w4.cell? ⟨kA, 7, none⟩ = some (.int .i64 GA) := (blk_cell dA.out 7).trans rfl; have PC := blk_frozen dA.out 0; have QC := blk_frozen dA.out 1; have RC := blk_frozen dA.out 2; have SC := blk_frozen dA.out 3; have TC := blk_frozen dA.out 4; have UC := blk_frozen dA.out 5; have VC := blk_frozen dA.out 6; have WC := blk_frozen dA.out 7; have hE := qB.out; have iE := PA.out; have XC : w4.cell? ⟨pA, 0, none⟩ = some (.int .i64 0) := (blk_cell mA.out 0).trans rfl; have YC : w4.cell? ⟨pA, 1, none⟩ = some (.int .i64 0) := (blk_cell mA.out 1).trans rfl; have ZC : w4.cell? ⟨pA, 2, none⟩ = some (.int .i64 0) := (blk_cell mA.out 2).trans rfl; have aD : w4.cell? ⟨pA, 3, none⟩ = some (.int .i64 0) := (blk_cell mA.out 3).trans rfl; have bD : w4.cell? ⟨pA, 4, none⟩ = some (.int .i64 0) := (blk_cell mA.out 4).trans rfl; have cD : w4.cell? ⟨pA, 5, none⟩ = some (.int .i64 0) := (blk_cell mA.out 5).trans rfl; have dD : w4.cell? ⟨pA, 6, none⟩ = some (.int .i64 0) := (blk_cell mA.out 6).trans rfl; have eD : w4.cell? ⟨pA, 7, none⟩ = some (.int .i64 0) := (blk_cell mA.out 7).trans rfl; have fD := blk_frozen mA.out 0; have gD := blk_frozen mA.out 1; have hD := blk_frozen mA.out 2; have iD := blk_frozen mA.out 3; have jD := blk_frozen mA.out 4; have kD := blk_frozen mA.out 5; have lD := blk_frozen mA.out 6; have mD := blk_frozen mA.out 7; have rC : w4.cell? ⟨lA, 0, none⟩ = some (.int .i64 0) := (blk_cell fA.out 0).trans rfl; have sC : w4.cell? ⟨lA, 1, none⟩ = some (.int .i64 0) := (blk_cell fA.out 1).trans rfl; have tC : w4.cell? ⟨lA, 2, none⟩ = some (.int .i64 0) := (blk_cell fA.out 2).trans rfl; have uC : w4.cell? ⟨lA, 3, none⟩ = some (.int .i64 0) := (blk_cell fA.out 3).trans rfl; have vC : w4.cell? ⟨lA, 4, none⟩ = some (.int .i64 0) := (blk_cell fA.out 4).trans rfl; have wC : w4.cell? ⟨lA, 5, none⟩ = some (.int .i64 0) := (blk_cell fA.out 5).trans rfl; have xC : w4.cell? ⟨lA, 6, none⟩ = some (.int .i64 0) := (blk_cell fA.out 6).trans rfl; have yC : w4.cell? ⟨lA, 7, none⟩ = some (.int .i64 0) := (blk_cell fA.out 7).trans rfl; have zC := blk_frozen fA.out 0; have AC := blk_frozen fA.out 1; have BC := blk_frozen fA.out 2; have CC := blk_frozen fA.out 3; have DC := blk_frozen fA.out 4; have EC := blk_frozen fA.out 5; have FC := blk_frozen fA.out 6; have GC := blk_frozen fA.out 7))
 refine bodyPost_ret (results_cell_row rfl _ _ lA 89 #[.int .i64 sA, .int .i64 wA, .int .i64 xA, .int .i64 yA, .int .i64 zA, .int .i64 AA, .int .i64 CA, .int .i64 GA] (0, 0) _ rfl (by (with_reducible repeat (first | refine blk_drewN ?_ _ | refine blk_drew ?_ | refine blk_alloc ?_ _)); refine blk_put (cs := #[.int .i64 sA, .int .i64 wA, .int .i64 xA, .int .i64 yA, .int .i64 zA, .int .i64 AA, .int .i64 CA, .int .i64 0]) ?_ 7 _ rfl; (with_reducible repeat (first | refine blk_drewN ?_ _ | refine blk_drew ?_ | refine blk_alloc ?_ _)); refine blk_put (cs := #[.int .i64 sA, .int .i64 wA, .int .i64 xA, .int .i64 yA, .int .i64 zA, .int .i64 AA, .int .i64 0, .int .i64 0]) ?_ 6 _ rfl; (with_reducible repeat (first | refine blk_drewN ?_ _ | refine blk_drew ?_ | refine blk_alloc ?_ _)); refine blk_put (cs := #[.int .i64 sA, .int .i64 wA, .int .i64 xA, .int .i64 yA, .int .i64 zA, .int .i64 0, .int .i64 0, .int .i64 0]) ?_ 5 _ rfl; (with_reducible repeat (first | refine blk_drewN ?_ _ | refine blk_drew ?_ | refine blk_alloc ?_ _)); refine blk_put (cs := #[.int .i64 sA, .int .i64 wA, .int .i64 xA, .int .i64 yA, .int .i64 0, .int .i64 0, .int .i64 0, .int .i64 0]) ?_ 4 _ rfl; (with_reducible repeat (first | refine blk_drewN ?_ _ | refine blk_drew ?_ | refine blk_alloc ?_ _)); refine blk_put (cs := #[.int .i64 sA, .int .i64 wA, .int .i64 xA, .int .i64 0, .int .i64 0, .int .i64 0, .int .i64 0, .int .i64 0]) ?_ 3 _ rfl; (with_reducible repeat (first | refine blk_drewN ?_ _ | refine blk_drew ?_ | refine blk_alloc ?_ _)); refine blk_put (cs := #[.int .i64 sA, .int .i64 wA, .int .i64 0, .int .i64 0, .int .i64 0, .int .i64 0, .int .i64 0, .int .i64 0]) ?_ 2 _ rfl; (with_reducible repeat (first | refine blk_drewN ?_ _ | refine blk_drew ?_ | refine blk_alloc ?_ _)); refine blk_put (cs := #[.int .i64 sA, .int .i64 0, .int .i64 0, .int .i64 0, .int .i64 0, .int .i64 0, .int .i64 0, .int .i64 0]) ?_ 1 _ rfl; (with_reducible repeat (first | refine blk_drewN ?_ _ | refine blk_drew ?_ | refine blk_alloc ?_ _)); refine blk_put (cs := #[.int .i64 0, .int .i64 0, .int .i64 0, .int .i64 0, .int .i64 0, .int .i64 0, .int .i64 0, .int .i64 0]) ?_ 0 _ rfl; (iterate 8 ((with_reducible repeat (first | refine blk_drewN ?_ _ | refine blk_drew ?_ | refine blk_alloc ?_ _)); refine blk_far ?_ PA.out _)); (with_reducible repeat (first | refine blk_drewN ?_ _ | refine blk_drew ?_ | refine blk_alloc ?_ _)); exact fA.out) Try.underlying89 rfl (by kernel_rfl)) rfl ?_
 exact ⟨q4_14, by repeat (first | (with_reducible first | exact HB.out | apply below_alloc | apply pw_below_drewN | apply below_drew1 | refine below_set ?_ AB.out | refine below_set ?_ NB.out | refine below_set ?_ gC.out) | exact HB.out)⟩

/-! ### laws_toFactS: function 43 -/
def laws_toFactS.l0 : Nat → List (S92) → List (S89) → Int → Option ((List (S89)))
 | 0, _, _, _ => none
 | k + 1, x0, x3, x4 => if x4 < (x0.length : Int) then (if 0 ≤ x4 then ((laws_toFact.f ((rd_T92 x0 x4).f0) ((rd_T92 x0 x4).f1) ((rd_T92 x0 x4).f2) ((rd_T92 x0 x4).f3) ((rd_T92 x0 x4).f4) ((rd_T92 x0 x4).f5) ((rd_T92 x0 x4).f6) ((rd_T92 x0 x4).f7)).bind fun EA => (if x4 < (x3.length : Int) then (laws_toFactS.l0 k x0 (x3.set (x4 : Int).toNat (⟨EA.1, EA.2.1, EA.2.2.1, EA.2.2.2.1, EA.2.2.2.2.1, EA.2.2.2.2.2.1, EA.2.2.2.2.2.2.1, EA.2.2.2.2.2.2.2⟩ : S89)) (wrap64 (x4 + 1))) else (none))) else (none)) else (some x3)
def laws_toFactS.f (k : Nat) (l0 : List (S92)) : Option ((List (S89))) := if 0 ≤ (l0.length : Int) then (if ((l0.length : Int) : Int).toNat ≤ 4398046511104 then (laws_toFactS.l0 k l0 (List.replicate ((l0.length : Int) : Int).toNat z89) 0) else (none)) else (none)
theorem laws_toFactS.mono_l : ∀ k, (∀ y0 y1 y2, LeO (laws_toFactS.l0 k y0 y1 y2) (laws_toFactS.l0 (k + 1) y0 y1 y2))
 | 0 => fun _ _ _ r h => by simp [laws_toFactS.l0] at h
 | k + 1 => by
  have ih0 := laws_toFactS.mono_l k
  ·intro y0 y1 y2
   unfold laws_toFactS.l0
   repeat' first
   | (with_reducible exact ih0 _ _ _)
   | (with_reducible exact LeO.refl _)
   | (with_reducible exact LeO.none _)
   | (with_reducible refine LeO.ite ?_ ?_)
   | (with_reducible refine LeO.bind ?_ (fun _ => ?_))
   | exact ih0 _ _ _
   | exact LeO.none _
   | refine LeO.ite ?_ ?_
   | refine LeO.bind ?_ (fun _ => ?_)
theorem laws_toFactS.mono : ∀ a0 k, LeO (laws_toFactS.f k a0) (laws_toFactS.f (k + 1) a0) := by
 intro a0 k
 have ih0 := laws_toFactS.mono_l k
 unfold laws_toFactS.f
 repeat' first
   | (with_reducible exact ih0 _ _ _)
   | (with_reducible exact LeO.refl _)
   | (with_reducible exact LeO.none _)
   | (with_reducible refine LeO.ite ?_ ?_)
   | (with_reducible refine LeO.bind ?_ (fun _ => ?_))
   | exact ih0 _ _ _
   | exact LeO.none _
   | refine LeO.ite ?_ ?_
   | refine LeO.bind ?_ (fun _ => ?_)
set_option maxHeartbeats 8000000 in
set_option maxRecDepth 100000 in
theorem laws_toFactS.calls (k : Nat) (A0 : Option Addr) (c0 : Nat) (l0 : List (S92)) (r : List (S89)) (w : World) (hr0 : Kd.C k92 w A0 l0.length l0) (hc0 : l0.length ≤ c0) (h : laws_toFactS.f k l0 = some r) :
  Calls Try.prog 43 #[.slice A0 l0.length c0] w fun e w' => ∃ v0_ : Value, e = .returned (v0_) ∧ Kd.R k89 89 w' w.heap.size (fun _ => True) v0_ r ∧ Below w.heap.size w w' := by
 have hu92 := Try.underlying92
 have hu89 := Try.underlying89
 have HR0 := Aside0.mk hr0
 clear hr0 hc0
 have HB := Aside0.mk (Below.refl w.heap.size w)
 have H : (if 0 ≤ (l0.length : Int) then (if ((l0.length : Int) : Int).toNat ≤ 4398046511104 then (laws_toFactS.l0 k l0 (List.replicate ((l0.length : Int) : Int).toNat z89) 0) else (none)) else (none)) = some r := h
 clear h
 by_cases c2 : 0 ≤ (l0.length : Int)
 ·rw [if_pos c2] at H
  have nD := eq_true c2
  have oD : decide (0 ≤ (l0.length : Int)) = true := decide_eq_true c2
  clear c2
  by_cases c3 : ((l0.length : Int) : Int).toNat ≤ 4398046511104
  ·rw [if_pos c3] at H
   have GB := eq_true c3
   have pD : decide (((l0.length : Int) : Int).toNat ≤ 4398046511104) = true := decide_eq_true c3
   clear c3
   obtain ⟨y150, hy150⟩ : ∃ y_ : List (S89), y_ = (List.replicate ((l0.length : Int) : Int).toNat z89) := ⟨_, rfl⟩
   replace H : (laws_toFactS.l0 k l0 y150 0) = some r := by first | (rw [hy150]; with_reducible exact H) | (have H2_ := (Option.bind_some _ _).symm.trans H; rw [hy150]; with_reducible exact H2_) | (have H2_ := (Option.bind_some _ _).symm.trans H; with_reducible exact H2_) | with_reducible exact H | (rw [hy150]; exact H) | exact H
   have Ny150 := Aside0.mk hy150
   clear hy150
   have H' := Aside0.mk H
   clear H
   go_enter Try.func43, Try.ntmps43
   go_wp2_with (first | ((with_reducible refine gate_dst (N := 7) rfl ?_); refine Kd.R_make k89 _ 89 rfl (N := 7) rfl 60 _ _ rfl (l0.length : Int) rfl rfl Try.underlying60 (.agg #[(.int .i64 0), (.int .i64 0), (.int .i64 0), (.int .i64 0), (.int .i64 0), (.int .i64 0), (.int .i64 0), (.int .i64 0)]) 64 info89 rfl (by decide) (by omega) z89 (ok := fun _ => True) (okp := fun _ => True) (k89_mkM _ _ _ z89 ) (fun _ hk => hk) trivial (of_decide_eq_true q4_6) (Nat.le_trans (Nat.mul_le_mul_right _ (of_decide_eq_true q4_6 : (l0.length : Int).toNat ≤ 4398046511104)) (by omega)) (Below.refl _ _) (Nat.le_refl _) ?_; intro qD w4 ho5 hb hg_ hnew_; clear hg_ hnew_; (first | rw [← Ny150.out] at ho5 | (simp only [Int.reduceToNat] at ho5; rw [← Ny150.out] at ho5)); have hA := Aside0.mk (Kd.R_lower ho5 (below_size q4_0)); have iA := Aside0.mk (below_step q4_0 hb); clear HB; have hC := hA; have HB := iA; clear hA iA; clear hb ho5))
   go_loopg [4] k (fun kq v4 w' => ∃ (rA : List (S89)) (aA : Int), v4 = .int .i64 aA ∧ Aside0 (laws_toFactS.l0 kq l0 rA aA = some r) ∧ Aside0 (kq ≤ k) ∧ Aside0 (Kd.R k89 89 w' w.heap.size (fun _ => True) qD rA) ∧ Aside0 (Below w.heap.size w w'))
   case atStart => exact ⟨(y150), (0), (by first | rfl | (simp; done) | (simp [*]; done)), H', ⟨Nat.le_refl _⟩, ⟨by (with_reducible repeat (first | apply Kd.R_alloc | apply Kd.R_drewN | apply Kd.R_drew)); exact hC.out⟩, ⟨q4_0⟩⟩
   case round =>
    clear H'
    (try clear c2); (try clear nD); (try clear oD); (try clear p2); (try clear c3); (try clear GB); (try clear pD); (try clear c4)
    obtain ⟨rA, aA, rfl, HA, HK1, SA, HB⟩ := hrel
    cases gk with
    | zero => exact absurd HA.out (by simp [laws_toFactS.l0])
    | succ k1 =>
     have H := HA.out
     clear HA
     simp only [laws_toFactS.l0] at H
     by_cases c6 : aA < (l0.length : Int)
     ·rw [if_pos c6] at H
      have rD : decide (aA < (l0.length : Int)) = true := decide_eq_true c6
      clear c6
      by_cases c7 : 0 ≤ aA
      ·rw [if_pos c7] at H
       have jE : decide (0 ≤ aA) = true := decide_eq_true c7
       clear c7
       replace H := Option.bind_eq_some_iff.mp H
       obtain ⟨⟨rB, sB, tB, uB, vB, wB, xB, yB⟩, A80, H⟩ := H
       (try dsimp only at H)
       have A8 := Aside0.mk A80
       clear A80
       by_cases c9 : aA < (rA.length : Int)
       ·rw [if_pos c9] at H
        have kE : decide (aA < (rA.length : Int)) = true := decide_eq_true c9
        clear c9
        obtain ⟨y162, hy162⟩ : ∃ y_ : List (S89), y_ = (rA.set (aA : Int).toNat (⟨rB, sB, tB, uB, vB, wB, xB, yB⟩ : S89)) := ⟨_, rfl⟩
        replace H : (laws_toFactS.l0 k1 l0 y162 (wrap64 (aA + 1))) = some r := by first | (rw [hy162]; with_reducible exact H) | (have H2_ := (Option.bind_some _ _).symm.trans H; rw [hy162]; with_reducible exact H2_) | (have H2_ := (Option.bind_some _ _).symm.trans H; with_reducible exact H2_) | with_reducible exact H | (rw [hy162]; exact H) | exact H
        have Ny162 := Aside0.mk hy162
        clear hy162
        have H' := Aside0.mk H
        clear H
        have p153 : 0 ≤ (aA : Int) := of_decide_eq_true q4_6
        have q153 : aA < (l0.length : Int) := of_decide_eq_true q4_6
        obtain ⟨ad153, sD, TA, UA, VA, WA, XA, YA, ZA, bB⟩ := at_T92 HR0.out aA p153 q153
        cases sD
        replace TA := (HB.out.cell (World.block_lt_of_cell? w _ TA)).trans TA
        replace UA := (HB.out.cell (World.block_lt_of_cell? w _ UA)).trans UA
        replace VA := (HB.out.cell (World.block_lt_of_cell? w _ VA)).trans VA
        replace WA := (HB.out.cell (World.block_lt_of_cell? w _ WA)).trans WA
        replace XA := (HB.out.cell (World.block_lt_of_cell? w _ XA)).trans XA
        replace YA := (HB.out.cell (World.block_lt_of_cell? w _ YA)).trans YA
        replace ZA := (HB.out.cell (World.block_lt_of_cell? w _ ZA)).trans ZA
        replace bB := (HB.out.cell (World.block_lt_of_cell? w _ bB)).trans bB
        replace p153 := eq_true p153
        replace q153 := eq_true q153
        go_wp2_with (first | ((with_reducible refine gate_callee (f := 69) rfl ?_); refine goesL_ (some 20) rfl rfl Try.func69 (by kernel_rfl) rfl #[.agg #[.int .i64 ((rd_T92 l0 aA).f0), .int .i64 ((rd_T92 l0 aA).f1), .int .i64 ((rd_T92 l0 aA).f2), .int .i64 ((rd_T92 l0 aA).f3), .int .i64 ((rd_T92 l0 aA).f4), .int .i64 ((rd_T92 l0 aA).f5), .int .i64 ((rd_T92 l0 aA).f6), .int .i64 ((rd_T92 l0 aA).f7)]] rfl q4_1 ?_; (with_reducible refine (laws_toFact.calls ((rd_T92 l0 aA).f0) ((rd_T92 l0 aA).f1) ((rd_T92 l0 aA).f2) ((rd_T92 l0 aA).f3) ((rd_T92 l0 aA).f4) ((rd_T92 l0 aA).f5) ((rd_T92 l0 aA).f6) ((rd_T92 l0 aA).f7) rB sB tB uB vB wB xB yB _ A8.out).mono ?_); rintro e cB ⟨rfl, hb⟩; refine ⟨_, rfl, ?_⟩; have hA := Aside0.mk (Kd.R_below q4_12 hb); have iA := Aside0.mk (below_step q4_0 hb); clear SA HB; have SA := hA; have HB := iA; clear hA iA; (try clear hb); (try clear hb2); (try clear hk); (try clear hi); have p10 : 0 ≤ (aA : Int) := of_decide_eq_true q4_6; have q10 : (aA : Int) < ((rA.length : Int) : Int) := of_decide_eq_true q4_6; obtain ⟨go10, iC, jC, kC, gl10, cl10, HG10⟩ := Kd.R_form SA.out (by omega); (first | cases jC | (injection jC with ea_ en_ ec_; (first | subst ea_ | (injection ea_ with ea_; subst ea_)); subst ec_; clear en_)); have GB10 := Aside0.mk kC; have GG10 := Aside0.mk HG10; clear kC gl10 HG10; obtain ⟨ce10, hcl10, hM10, hcc10, hfr10⟩ := Kd.R_elem SA.out z89 (aA : Int) p10 q10; obtain rfl := k89_openM hM10; have tD : cB.cell? ⟨go10, (aA : Int).toNat * 8, none⟩ = some (.int .i64 ((rd_T89 rA aA).f0)) := hcc10 0 _ rfl; have uD : cB.cell? ⟨go10, (aA : Int).toNat * 8 + 1, none⟩ = some (.int .i64 ((rd_T89 rA aA).f1)) := hcc10 1 _ rfl; have vD : cB.cell? ⟨go10, (aA : Int).toNat * 8 + 2, none⟩ = some (.int .i64 ((rd_T89 rA aA).f2)) := hcc10 2 _ rfl; have wD : cB.cell? ⟨go10, (aA : Int).toNat * 8 + 3, none⟩ = some (.int .i64 ((rd_T89 rA aA).f3)) := hcc10 3 _ rfl; have xD : cB.cell? ⟨go10, (aA : Int).toNat * 8 + 4, none⟩ = some (.int .i64 ((rd_T89 rA aA).f4)) := hcc10 4 _ rfl; have yD : cB.cell? ⟨go10, (aA : Int).toNat * 8 + 5, none⟩ = some (.int .i64 ((rd_T89 rA aA).f5)) := hcc10 5 _ rfl; have zD : cB.cell? ⟨go10, (aA : Int).toNat * 8 + 6, none⟩ = some (.int .i64 ((rd_T89 rA aA).f6)) := hcc10 6 _ rfl; have AD : cB.cell? ⟨go10, (aA : Int).toNat * 8 + 7, none⟩ = some (.int .i64 ((rd_T89 rA aA).f7)) := hcc10 7 _ rfl; have BD : cB.frozen? ⟨go10, (aA : Int).toNat * 8, none⟩ = false := hfr10 0; have CD : cB.frozen? ⟨go10, (aA : Int).toNat * 8 + 1, none⟩ = false := hfr10 1; have DD : cB.frozen? ⟨go10, (aA : Int).toNat * 8 + 2, none⟩ = false := hfr10 2; have ED : cB.frozen? ⟨go10, (aA : Int).toNat * 8 + 3, none⟩ = false := hfr10 3; have FD : cB.frozen? ⟨go10, (aA : Int).toNat * 8 + 4, none⟩ = false := hfr10 4; have GD : cB.frozen? ⟨go10, (aA : Int).toNat * 8 + 5, none⟩ = false := hfr10 5; have HD : cB.frozen? ⟨go10, (aA : Int).toNat * 8 + 6, none⟩ = false := hfr10 6; have ID : cB.frozen? ⟨go10, (aA : Int).toNat * 8 + 7, none⟩ = false := hfr10 7; clear hcl10 hcc10 hfr10 hM10; replace p10 := eq_true p10; replace q10 := eq_true q10; have HX12 := Aside0.mk (show Kd.R k89 89 cB w.heap.size (fun _ => True) (.slice (some ⟨go10, 0, none⟩) rA.length iC) rA from q4_12); obtain ⟨ce12, hcl12, hM12, hcc12, hfr12⟩ := Kd.R_elem HX12.out z89 (aA : Int) (of_decide_eq_true q4_6) (by have h_ : (aA : Int) < ((rA.length : Int) : Int) := of_decide_eq_true q4_6; first | exact h_ | (have e_ := (Kd.R_reads' SA.out).1; omega) | simpa using h_); obtain rfl := k89_openM hM12; have HP12 := Kd.R_seg HX12.out (aA : Int) (of_decide_eq_true q4_6) (by have h_ : (aA : Int) < ((rA.length : Int) : Int) := of_decide_eq_true q4_6; first | exact h_ | (have e_ := (Kd.R_reads' SA.out).1; omega) | simpa using h_) (seg := [.int .i64 rB, .int .i64 sB, .int .i64 tB, .int .i64 uB, .int .i64 vB, .int .i64 wB, .int .i64 xB, .int .i64 yB]) (j := 0) hcl12 hcc12 (show 8 ≤ 8 from by decide) (x' := (⟨rB, sB, tB, uB, vB, wB, xB, yB⟩ : S89)) (k89_mkM _ _ _ (⟨rB, sB, tB, uB, vB, wB, xB, yB⟩ : S89) ) (fun _ hk => hk); have OB := hcc12 0 _ rfl; (try simp only [show (k89).sz = 8 from rfl, Nat.mul_one, Nat.add_zero] at OB); have PB := hfr12 0; (try simp only [show (k89).sz = 8 from rfl, Nat.mul_one, Nat.add_zero] at PB); have QB := hcc12 1 _ rfl; (try simp only [show (k89).sz = 8 from rfl, Nat.mul_one, Nat.add_zero] at QB); have RB := hfr12 1; (try simp only [show (k89).sz = 8 from rfl, Nat.mul_one, Nat.add_zero] at RB); have SB := hcc12 2 _ rfl; (try simp only [show (k89).sz = 8 from rfl, Nat.mul_one, Nat.add_zero] at SB); have TB := hfr12 2; (try simp only [show (k89).sz = 8 from rfl, Nat.mul_one, Nat.add_zero] at TB); have UB := hcc12 3 _ rfl; (try simp only [show (k89).sz = 8 from rfl, Nat.mul_one, Nat.add_zero] at UB); have VB := hfr12 3; (try simp only [show (k89).sz = 8 from rfl, Nat.mul_one, Nat.add_zero] at VB); have WB := hcc12 4 _ rfl; (try simp only [show (k89).sz = 8 from rfl, Nat.mul_one, Nat.add_zero] at WB); have XB := hfr12 4; (try simp only [show (k89).sz = 8 from rfl, Nat.mul_one, Nat.add_zero] at XB); have YB := hcc12 5 _ rfl; (try simp only [show (k89).sz = 8 from rfl, Nat.mul_one, Nat.add_zero] at YB); have ZB := hfr12 5; (try simp only [show (k89).sz = 8 from rfl, Nat.mul_one, Nat.add_zero] at ZB); have aC := hcc12 6 _ rfl; (try simp only [show (k89).sz = 8 from rfl, Nat.mul_one, Nat.add_zero] at aC); have bC := hfr12 6; (try simp only [show (k89).sz = 8 from rfl, Nat.mul_one, Nat.add_zero] at bC); have cC := hcc12 7 _ rfl; (try simp only [show (k89).sz = 8 from rfl, Nat.mul_one, Nat.add_zero] at cC); have dC := hfr12 7; (try simp only [show (k89).sz = 8 from rfl, Nat.mul_one, Nat.add_zero] at dC); clear hcl12 hcc12 hfr12 hM12) | ((with_reducible refine gate_store (t := 89) (p := 21) rfl ?_); refine store_event (t := 89) (p := 21) (v := ?vo_w13) (w1 := ((((((((cB.setCell ⟨go10, (aA : Int).toNat * 8, none⟩ (.int .i64 rB)).setCell ⟨go10, (aA : Int).toNat * 8 + 1, none⟩ (.int .i64 sB)).setCell ⟨go10, (aA : Int).toNat * 8 + 2, none⟩ (.int .i64 tB)).setCell ⟨go10, (aA : Int).toNat * 8 + 3, none⟩ (.int .i64 uB)).setCell ⟨go10, (aA : Int).toNat * 8 + 4, none⟩ (.int .i64 vB)).setCell ⟨go10, (aA : Int).toNat * 8 + 5, none⟩ (.int .i64 wB)).setCell ⟨go10, (aA : Int).toNat * 8 + 6, none⟩ (.int .i64 xB)).setCell ⟨go10, (aA : Int).toNat * 8 + 7, none⟩ (.int .i64 yB))) ?hg ?ho ?hn ?hr ?_; (case ho => rfl); (case hg => rfl); (case hn => rfl); (case hr => first | (go_simp; done) | (go_simp; rfl)); intro JD hw; have hg : cB.grownBy JD (some go10) := (by rw [hw]; exact HP12.2); have hp_ : Kd.R k89 89 JD w.heap.size (fun _ => True) (.slice (some ⟨go10, 0, none⟩) rA.length iC) y162 := (by rw [hw, Ny162.out]; exact HP12.1); clear HP12; have hA := Aside0.mk (hp_); have iA := Aside0.mk ((by rw [hw]; exact below_set (below_set (below_set (below_set (below_set (below_set (below_set (below_set (HB.out) GB10.out) GB10.out) GB10.out) GB10.out) GB10.out) GB10.out) GB10.out) GB10.out : Below w.heap.size w JD)); clear SA HB; have SA := hA; have HB := iA; clear hA iA; clear hg hw hp_))
        go_roundg k1
        case measure => have := HK1.out; omega
        case rel => exact ⟨(y162), (wrap64 (aA + 1)), (by first | rfl | (simp; done) | (simp [*]; done)), H', ⟨by have := HK1.out; omega⟩, ⟨q4_12⟩, ⟨q4_0⟩⟩
       ·rw [if_neg c9] at H
        exact absurd H (by simp)
      ·rw [if_neg c7] at H
       exact absurd H (by simp)
     ·rw [if_neg c6] at H
      have rD : decide (aA < (l0.length : Int)) = false := decide_eq_false c6
      clear c6
      obtain rfl := Option.some.inj H
      go_wp2
      go_ret
      exact ⟨_, q4_14, q4_12, q4_0⟩
  ·rw [if_neg c3] at H
   exact absurd H (by simp)
 ·rw [if_neg c2] at H
  exact absurd H (by simp)

-- NOT PRINTED: function 98 (impl_Fact_98)

-- NOT PRINTED: function 101 (impl_Fact_101)

-- NOT PRINTED: function 100 (impl_Fact_100)

-- NOT PRINTED: function 99 (impl_Fact_99)

-- NOT PRINTED: function 93 (impl_Fact_93)

-- NOT PRINTED: function 70 (impl_Fact_70)

/-! ### impl_InTime: function 44 (walked by hand) -/
instance : Inhabited S89 := ⟨z89⟩
def enc89 (x : S89) : List Value := [.int .i64 x.f0, .int .i64 x.f1, .int .i64 x.f2, .int .i64 x.f3, .int .i64 x.f4, .int .i64 x.f5, .int .i64 x.f6, .int .i64 x.f7]
theorem enc89_len (x : S89) : (enc89 x).length = 8 := rfl
theorem enc89_one (x : S89) : ∀ v ∈ enc89 x, v.oneCell' = true := by
 intro v hv
 simp only [enc89, List.mem_cons, List.not_mem_nil, or_false] at hv
 rcases hv with rfl | rfl | rfl | rfl | rfl | rfl | rfl | rfl <;> rfl
theorem sort_heap_lt {w : World} {g : Nat} {o : Obj} (h : w.heap[g]? = some o) : g < w.heap.size := by
 rcases Nat.lt_or_ge g w.heap.size with h_ | h_
 ·exact h_
 ·rw [Array.getElem?_eq_none h_] at h
  cases h
theorem below_cellsS {w0 w : World} {g : Nat} (vs : List Value) (o : Nat) (hb : Below w0.heap.size w0 w) (hg : w0.heap.size ≤ g) : Below w0.heap.size w0 (w.setCells g o vs) := by
 induction vs generalizing o w with
 | nil => exact hb
 | cons v r ih => exact ih (o + 1) (below_set hb hg)
theorem below_growS {w0 w : World} (os : Array Obj) (hb : Below w0.heap.size w0 w) (hs : w0.heap.size ≤ w.heap.size) : Below w0.heap.size w0 (Sort.grow w os) :=
 ⟨hb.os, hb.tape, hb.output, by rw [Sort.size_grow]; omega, fun j hj => (Sort.heap_grow_old w os (by omega)).trans (hb.block j hj)⟩
theorem flat_get (d : Array S89) (t : Nat) (h : t < d.size * 8) : (Sort.flatK enc89 8 d).toList[t]? = some ((enc89 d[t / 8]!)[t % 8]!) := by
 have h1 : t < (Sort.flatK enc89 8 d).size := by rw [Sort.size_flatK]; exact h
 have h2 := Sort.get_flatK enc89 8 d t h
 rw [getElem!_pos _ t h1] at h2
 rw [Array.getElem?_toList, Array.getElem?_eq_getElem h1, h2]
theorem flat_seg (d : Array S89) (j : Nat) (h : j < d.size) : ((Sort.flatK enc89 8 d).toList.drop (j * 8)).take 8 = enc89 d[j]! := by
 apply List.ext_getElem?
 intro t
 rw [List.getElem?_take, List.getElem?_drop]
 by_cases ht : t < 8
 ·rw [if_pos ht, flat_get d _ (by omega), show (j * 8 + t) / 8 = j by omega, show (j * 8 + t) % 8 = t by omega, List.getElem?_eq_getElem (by rw [enc89_len]; exact ht), getElem!_pos (enc89 d[j]!) t (by rw [enc89_len]; exact ht)]
 ·rw [if_neg ht, List.getElem?_eq_none (by rw [enc89_len]; omega)]
theorem sort_R (w0 w : World) (v : Value) (xs : List S89) (g : Nat) (cb : Array Value) (cf : S89 → S89 → Int) (HB : Below w0.heap.size w0 w) (HO : Kd.R k89 89 w w0.heap.size (fun _ => True) v xs) (hsz : xs.length < 1152921504606846976)
  (eg : ∀ args w, (callFunc g args).run Try.prog w = .ok (.enter g args) w)
  (hgv : ∀ (W : World) (x y : S89), Calls Try.prog g (#[.agg (enc89 x).toArray, .agg (enc89 y).toArray] ++ cb) W fun e w' => e = .returned (.int .i64 (cf x y)) ∧ ∃ q os', w' = Sort.grow (W.drewN q) os') :
  Calls Try.prog 70 #[v, .func (.func g) #[] cb] w fun e w' => e = .returned (.tuple #[]) ∧ Kd.R k89 89 w' w0.heap.size (fun _ => True) v (Stab.stab (ltOf cf) xs.toArray).toList ∧ Below w0.heap.size w0 w' := by
 obtain ⟨hok, inner, ⟨hl, hcase⟩, hr⟩ := HO
 rcases hcase with ⟨rfl, h0⟩ | ⟨b, cap, cur, rfl, hb, hh, hnc, hcm, hcs, ht⟩
 ·obtain rfl : xs = [] := List.length_eq_zero_iff.1 h0
  have hi : ∀ W, Calls Try.prog 98 #[.slice none 0 0, .int .i64 0, .int .i64 0, .func (.func g) #[] cb] W fun e w' => e = .returned (.tuple #[]) ∧ w' = W := fun W => by
   go_enter Try.func98, Try.ntmps98
   go_wp2
   refine wp_loop_rounds 1 ?_
   rw [rounds_succ]
   go_wp2
   go_end0
   exact ⟨rfl, rfl⟩
  have hs : ∀ W, Calls Try.prog 93 #[.slice none 0 0, .int .i64 0, .func (.func g) #[] cb] W fun e w' => e = .returned (.tuple #[]) ∧ w' = W := fun W => by
   go_enter Try.func93, Try.ntmps93
   go_wp2
   refine wp_loop_rounds 1 ?_
   rw [rounds_succ]
   go_wp2_with fail
   refine (hi _).mono ?_
   rintro e w' ⟨rfl, rfl⟩
   go_wp2
   refine wp_loop_rounds 1 ?_
   rw [rounds_succ]
   go_wp2
   go_end0
   exact ⟨rfl, rfl⟩
  show Calls Try.prog 70 #[.slice none 0 0, .func (.func g) #[] cb] w _
  go_enter Try.func70, Try.ntmps70
  go_wp2_with fail
  refine (hs _).mono ?_
  rintro e w' ⟨rfl, rfl⟩
  go_wp2
  go_end0
  have hz : (Stab.stab (ltOf cf) ([] : List S89).toArray).toList = [] := List.length_eq_zero_iff.1 (by unfold Stab.stab; rw [Array.length_toList, Stab.size_mrg, Stab.size_insB]; rfl)
  rw [hz]
  exact ⟨rfl, Kd.R_nil _ _ _ _ _, HB⟩
 ·have hbl := sort_heap_lt hh
  have hin : inner.length = xs.length * 8 := hl
  have hF : Sort.flatK enc89 8 xs.toArray = inner.toArray := by
   apply Array.ext'
   apply List.ext_getElem?
   intro t
   by_cases htl : t < xs.length * 8
   ·rw [flat_get _ t (by simpa using htl), List.toList_toArray]
    have hj : t / 8 < xs.length := by omega
    have h1 := k89_openM (hr.2 (t / 8) _ (List.getElem?_eq_getElem hj))
    have h2 : ((inner.drop (t / 8 * 8)).take 8)[t % 8]? = inner[t]? := by
     rw [List.getElem?_take, if_pos (by omega), List.getElem?_drop, show t / 8 * 8 + t % 8 = t by omega]
    rw [show (k89.sz) = 8 from rfl] at h1
    rw [← h2, h1, show xs.toArray[t / 8]! = xs[t / 8] by simp [hj], List.getElem?_eq_getElem (by show t % 8 < 8; omega), getElem!_pos (enc89 xs[t / 8]) (t % 8) (by show t % 8 < 8; omega)]
    rfl
   ·rw [List.getElem?_eq_none (by rw [Array.length_toList, Sort.size_flatK, List.size_toArray]; omega), List.getElem?_eq_none (by rw [List.toList_toArray]; omega)]
  have hH : Sort.HoldsK enc89 8 w b 0 xs.toArray := by
   intro j hj
   rw [Sort.size_flatK, List.size_toArray] at hj
   refine ⟨?_, blk_frozen hh _⟩
   have h2 : inner[j]? = some ((Sort.flatK enc89 8 xs.toArray)[j]!) := by
    rw [hF, getElem!_pos _ j (by simpa [hin] using hj), List.getElem_toArray, List.getElem?_eq_getElem]
   rw [← ht, show k89.sz = 8 from rfl, List.getElem?_take, if_pos (by omega), Array.getElem?_toList] at h2
   rw [Nat.zero_add, blk_cell hh, h2]
   rfl
  have hcmp : CmpLays Try.prog g cb enc89 8 cf b 0 xs.toArray.size w := fun m os dk _ x y => hgv _ x y
  have hc := Stab.sortStable_calls Stab.layTry Stab.insLays enc89 w b 0 cap xs.toArray g cb cf enc89_len enc89_one eg hcmp hH hbl (by simpa using hsz)
  rw [List.size_toArray] at hc
  refine Calls.mono hc ?_
  rintro e w' ⟨rfl, n1, os1, rfl⟩
  have hsz2 : (Stab.stab (ltOf cf) xs.toArray).size = xs.length := by
   unfold Stab.stab
   rw [Stab.size_mrg, Stab.size_insB, List.size_toArray]
  generalize Stab.stab (ltOf cf) xs.toArray = d at hsz2 ⊢
  have hput : Sort.putRowK enc89 8 (Sort.ahead w n1) b 0 d = (w.drewN n1).setCells b 0 (Sort.flatK enc89 8 d).toList := by
   have h := Lib.putRow_eq_setCells id w b 0 (Sort.flatK enc89 8 xs.toArray) (Sort.flatK enc89 8 d).toList n1 hH (by rw [Array.length_toList, Sort.size_flatK, Sort.size_flatK, hsz2]; rfl)
   rw [Array.toArray_toList, List.map_id] at h
   exact h
  obtain ⟨cur2, k4, k5, k6⟩ := setCells_row (Sort.flatK enc89 8 d).toList 0 (w.drewN n1) cur hh (by rw [Array.length_toList, Sort.size_flatK, hsz2, hcs, Nat.zero_add]; exact Nat.mul_le_mul_right 8 hnc)
  have hB2 : Below w0.heap.size w0 (Sort.putRowK enc89 8 (Sort.ahead w n1) b 0 d) := by
   rw [hput]
   exact below_cellsS _ _ (pw_below_drewN HB n1) hb
  have hsm : w0.heap.size ≤ (Sort.putRowK enc89 8 (Sort.ahead w n1) b 0 d).heap.size := hB2.size
  have hbig : b < (Sort.putRowK enc89 8 (Sort.ahead w n1) b 0 d).heap.size := by
   rw [hput]
   exact sort_heap_lt k4
  have hrow : (sortWorldK enc89 8 w b 0 n1 d os1).heap[b]? = some (.cells cur2 89 (0, 0)) := by
   show (Sort.grow (Sort.putRowK enc89 8 (Sort.ahead w n1) b 0 d) os1).heap[b]? = _
   rw [Sort.heap_grow_old _ _ hbig, hput]
   exact k4
  refine ⟨rfl, ?_, below_growS os1 hB2 hsm⟩
  refine ⟨fun _ _ => trivial, (Sort.flatK enc89 8 d).toList, ⟨by rw [Array.length_toList, Array.length_toList, Sort.size_flatK]; rfl, .inr ⟨b, cap, cur2, by rw [show d.toList.length = xs.length from (Array.length_toList ..).trans hsz2], hb, hrow, by rw [Array.length_toList, hsz2]; exact hnc, hcm, by rw [k5, hcs], ?_⟩⟩, ?_⟩
  ·rw [k6, List.take_zero, List.nil_append, List.take_append_of_le_length (by rw [Array.length_toList, Array.length_toList, Sort.size_flatK]; exact Nat.le_refl _), List.take_of_length_le (by rw [Array.length_toList, Array.length_toList, Sort.size_flatK]; exact Nat.le_refl _)]
  ·refine ⟨by rw [Array.length_toList, Array.length_toList, Sort.size_flatK]; rfl, fun j p hj => ?_⟩
   have hjl : j < d.size := by
    have := (List.getElem?_eq_some_iff.1 hj).1
    rwa [Array.length_toList] at this
   have hp : d[j]! = p := by
    rw [Array.getElem?_toList, Array.getElem?_eq_getElem hjl] at hj
    rw [getElem!_pos d j hjl]
    injection hj
   rw [show k89.sz = 8 from rfl, flat_seg d j hjl, hp]
   exact k89_mkM _ _ _ p
def cmpEnded (x y : S89) : Int := if x.f7 < y.f7 then -1 else if y.f7 < x.f7 then 1 else 0
theorem gives71 (W : World) (x y : S89) : Calls Try.prog 71 (#[.agg (enc89 x).toArray, .agg (enc89 y).toArray] ++ #[]) W fun e w' => e = .returned (.int .i64 (cmpEnded x y)) ∧ ∃ q os', w' = Sort.grow (W.drewN q) os' := by
 have hu89 := Try.underlying89
 show Calls Try.prog 71 #[.agg #[.int .i64 x.f0, .int .i64 x.f1, .int .i64 x.f2, .int .i64 x.f3, .int .i64 x.f4, .int .i64 x.f5, .int .i64 x.f6, .int .i64 x.f7], .agg #[.int .i64 y.f0, .int .i64 y.f1, .int .i64 y.f2, .int .i64 y.f3, .int .i64 y.f4, .int .i64 y.f5, .int .i64 y.f6, .int .i64 y.f7]] W _
 unfold cmpEnded
 obtain ⟨x0, x1, x2, x3, x4, x5, x6, x7⟩ := x
 obtain ⟨y0, y1, y2, y3, y4, y5, y6, y7⟩ := y
 simp only
 by_cases h1 : x7 < y7
 ·rw [if_pos h1]
  go_enter Try.func71, Try.ntmps71
  go_wp2
  go_ret
  exact ⟨rfl, 0, _, by rw [Sort.alloc_eq_grow, Sort.alloc_eq_grow, Sort.grow_grow]; rfl⟩
 ·rw [if_neg h1]
  by_cases h2 : y7 < x7
  ·rw [if_pos h2]
   go_enter Try.func71, Try.ntmps71
   go_wp2
   go_ret
   exact ⟨rfl, 0, _, by rw [Sort.alloc_eq_grow, Sort.alloc_eq_grow, Sort.grow_grow]; rfl⟩
  ·rw [if_neg h2]
   go_enter Try.func71, Try.ntmps71
   go_wp2
   go_ret
   exact ⟨rfl, 0, _, by rw [Sort.alloc_eq_grow, Sort.alloc_eq_grow, Sort.grow_grow]; rfl⟩
def impl_InTime.f (l0 : List (S89)) : Option ((List (S89))) := if ([] : List (S89)).length + l0.length < 2199023255552 then some (Stab.stab (ltOf cmpEnded) l0.toArray).toList else none
set_option maxHeartbeats 8000000 in
set_option maxRecDepth 100000 in
theorem impl_InTime.calls (A0 : Option Addr) (c0 : Nat) (l0 : List (S89)) (r : List (S89)) (w : World) (hr0 : Kd.C k89 w A0 l0.length l0) (hc0 : l0.length ≤ c0) (h : impl_InTime.f l0 = some r) :
  Calls Try.prog 44 #[.slice A0 l0.length c0] w fun e w' => ∃ v0_ : Value, e = .returned (v0_) ∧ Kd.R k89 89 w' w.heap.size (fun _ => True) v0_ r ∧ Below w.heap.size w w' := by
 have HR0 := Aside0.mk hr0
 clear hr0 hc0
 have HB := Aside0.mk (Below.refl w.heap.size w)
 unfold impl_InTime.f at h
 by_cases c2 : ([] : List (S89)).length + l0.length < 2199023255552
 ·rw [if_pos c2] at h
  obtain rfl := Option.some.inj h
  clear h
  have LMc2 := Aside0.mk c2
  clear c2
  go_enter Try.func44, Try.ntmps44
  go_wp2_with (first | ((with_reducible refine gate_builtin (b := .append) (xs := #[.const (.slice none 0 0), .tmp 4]) rfl ?_); at_builtin; refine Kd.R_append_rows k89 (w0 := w) w.heap.size rfl (.const (.slice none 0 0)) (.tmp 4) 60 89 (.agg #[(.int .i64 0), (.int .i64 0), (.int .i64 0), (.int .i64 0), (.int .i64 0), (.int .i64 0), (.int .i64 0), (.int .i64 0)]) 64 rfl Try.underlying60 info89 rfl (by decide) (by omega) (.slice none 0 0) ([] : List (S89)) l0 _ _ _ (fun _ => True) (fun _ => False) rfl rfl ?aO ?aR (fun _ _ h => h) (fun _ h => h.elim) ?aF ?aB ?aS ?aL ?_; (case aR => repeat (first | exact HR0.out | (with_reducible refine Kd.C_alloc ?_ _) | (with_reducible refine Kd.C_drewN ?_ _) | (with_reducible refine Kd.C_drew ?_))); (case aB => exact HB.out); (case aF => exact (fun _ _ => trivial)); (case aO => exact ((Kd.R_nil _ _ _ _ (fun _ => True)))); (case aS => exact (below_size HB.out)); (case aL => have := LMc2.out; omega); intro KD w3 ho hb hg hat; rw [List.nil_append] at ho; have hA := Aside0.mk (hb); have iA := Aside0.mk (ho); clear HB; have HB := hA; have HO := iA; clear hA iA; clear ho hb hg hat))
  refine (sort_R w w3 KD l0 71 #[] cmpEnded HB.out HO.out (by have := LMc2.out; rw [List.length_nil] at this; omega) (enters_of Try.func71 (by kernel_rfl) rfl) gives71).mono ?_
  rintro e w' ⟨rfl, lE, HB2⟩
  go_wp2
  go_ret
  exact ⟨_, rfl, lE, HB2⟩
 ·rw [if_neg c2] at h
  cases h


/-! ### laws_FnExactInTime: function 9 -/
def laws_FnExactInTime.j0 : Nat → List (S92) → List (S89) → List (S89) → Bool → Option (Bool)
 | 0, _, _, _, _ => none
 | k + 1, x0, x4, x6, x42 => if x42 = true then (some false) else ((laws_markFactS.f k x6 1).bind fun lB => ((laws_heldFactS.f k lB.2 1).bind fun IA => (if IA < 0 then (some false) else (if IA = lB.1 then ((laws_toFactS.f k x0).bind fun BB => ((impl_InTime.f BB).bind fun CB => ((laws_eqFactS.f k CB x4).bind fun eC => (if eC = true then ((laws_heldFactS.f k lB.2 1).bind fun JA => (if JA < 0 then (some false) else (if JA = lB.1 then (some true) else (some false)))) else (some false))))) else (some false)))))
def laws_FnExactInTime.f (k : Nat) (l0 : List (S92)) : Option (Bool) := (laws_szFactS.f l0 1048576).bind fun dB => (if dB < 0 then (some true) else ((laws_toFactS.f k l0).bind fun NA => ((spec_InTime.f k NA).bind fun nA => ((laws_toFactS.f k l0).bind fun qA => ((impl_InTime.f qA).bind fun gA => ((laws_eqFactS.f k gA nA).bind fun DB => (if DB = true then ((laws_toFactS.f k l0).bind fun OA => ((laws_eqFactS.f k qA OA).bind fun EB => (if EB = true then ((laws_markFactS.f k qA 1).bind fun FB => (if FB.1 < 0 then (laws_FnExactInTime.j0 k l0 nA gA true) else ((laws_eqFactS.f k gA nA).bind fun zB => (laws_FnExactInTime.j0 k l0 nA gA (!zB))))) else (some false)))) else (some false))))))))
theorem laws_FnExactInTime.mono_l : ∀ k, (∀ y0 y1 y2 y3, LeO (laws_FnExactInTime.j0 k y0 y1 y2 y3) (laws_FnExactInTime.j0 (k + 1) y0 y1 y2 y3))
 | 0 => fun _ _ _ _ r h => by simp [laws_FnExactInTime.j0] at h
 | k + 1 => by
  have ih0 := laws_FnExactInTime.mono_l k
  ·intro y0 y1 y2 y3
   unfold laws_FnExactInTime.j0
   repeat' first
   | (with_reducible exact ih0 _ _ _ _)
   | (with_reducible exact laws_eqFactS.mono _ _ _)
   | (with_reducible exact laws_heldFactS.mono _ _ _)
   | (with_reducible exact laws_markFactS.mono _ _ _)
   | (with_reducible exact laws_toFactS.mono _ _)
   | (with_reducible exact spec_InTime.mono _ _)
   | (with_reducible exact LeO.refl _)
   | (with_reducible exact LeO.none _)
   | (with_reducible refine LeO.ite ?_ ?_)
   | (with_reducible refine LeO.bind ?_ (fun _ => ?_))
   | exact ih0 _ _ _ _
   | exact laws_eqFactS.mono _ _ _
   | exact laws_heldFactS.mono _ _ _
   | exact laws_markFactS.mono _ _ _
   | exact laws_toFactS.mono _ _
   | exact spec_InTime.mono _ _
   | exact LeO.none _
   | refine LeO.ite ?_ ?_
   | refine LeO.bind ?_ (fun _ => ?_)
theorem laws_FnExactInTime.mono : ∀ a0 k, LeO (laws_FnExactInTime.f k a0) (laws_FnExactInTime.f (k + 1) a0) := by
 intro a0 k
 have ih0 := laws_FnExactInTime.mono_l k
 unfold laws_FnExactInTime.f
 repeat' first
   | (with_reducible exact ih0 _ _ _ _)
   | (with_reducible exact laws_eqFactS.mono _ _ _)
   | (with_reducible exact laws_heldFactS.mono _ _ _)
   | (with_reducible exact laws_markFactS.mono _ _ _)
   | (with_reducible exact laws_toFactS.mono _ _)
   | (with_reducible exact spec_InTime.mono _ _)
   | (with_reducible exact LeO.refl _)
   | (with_reducible exact LeO.none _)
   | (with_reducible refine LeO.ite ?_ ?_)
   | (with_reducible refine LeO.bind ?_ (fun _ => ?_))
   | exact ih0 _ _ _ _
   | exact laws_eqFactS.mono _ _ _
   | exact laws_heldFactS.mono _ _ _
   | exact laws_markFactS.mono _ _ _
   | exact laws_toFactS.mono _ _
   | exact spec_InTime.mono _ _
   | exact LeO.none _
   | refine LeO.ite ?_ ?_
   | refine LeO.bind ?_ (fun _ => ?_)
set_option maxHeartbeats 8000000 in
set_option maxRecDepth 100000 in
theorem laws_FnExactInTime.calls (k : Nat) (A0 : Option Addr) (c0 : Nat) (l0 : List (S92)) (r_ : Bool) (w : World) (hr0 : Kd.C k92 w A0 l0.length l0) (hc0 : l0.length ≤ c0) (h : laws_FnExactInTime.f k l0 = some true) :
  Calls Try.prog 9 #[.slice A0 l0.length c0] w fun e w' => e = .returned (.bool true) ∧ Below w.heap.size w w' := by
 have HR0 := Aside0.mk hr0
 have HC0 := Aside0.mk hc0
 clear hr0 hc0
 have HB := Aside0.mk (Below.refl w.heap.size w)
 have H : ((laws_szFactS.f l0 1048576).bind fun dB => (if dB < 0 then (some true) else ((laws_toFactS.f k l0).bind fun NA => ((spec_InTime.f k NA).bind fun nA => ((laws_toFactS.f k l0).bind fun qA => ((impl_InTime.f qA).bind fun gA => ((laws_eqFactS.f k gA nA).bind fun DB => (if DB = true then ((laws_toFactS.f k l0).bind fun OA => ((laws_eqFactS.f k qA OA).bind fun EB => (if EB = true then ((laws_markFactS.f k qA 1).bind fun FB => (if FB.1 < 0 then (laws_FnExactInTime.j0 k l0 nA gA true) else ((laws_eqFactS.f k gA nA).bind fun zB => (laws_FnExactInTime.j0 k l0 nA gA (!zB))))) else (some false)))) else (some false))))))))) = some true := h
 clear h
 replace H := Option.bind_eq_some_iff.mp H
 obtain ⟨dB, A20, H⟩ := H
 (try dsimp only at H)
 have A2 := Aside0.mk A20
 clear A20
 by_cases c3 : dB < 0
 ·rw [if_pos c3] at H
  have GB : decide (dB < 0) = true := decide_eq_true c3
  clear c3 H
  (try clear H)
  go_enter Try.func9, Try.ntmps9
  go_wp2_with (first | ((with_reducible refine gate_callee (f := 41) rfl ?_); refine goesL_ (some 13) rfl rfl Try.func41 (by kernel_rfl) rfl #[.slice A0 l0.length c0, .int .i64 1048576] rfl q4_1 ?_; (with_reducible refine (laws_szFactS.calls _ _ l0 1048576 dB _ ?side1 ?side2 A2.out).mono ?_); (case side1 => exact q4_13); (case side2 => exact HC0.out); rintro e w' ⟨rfl, ⟨nd, rfl⟩⟩; refine ⟨_, rfl, ?_⟩))
  go_ret
  exact ⟨q4_14, q4_0⟩
 ·rw [if_neg c3] at H
  have GB : decide (dB < 0) = false := decide_eq_false c3
  clear c3
  replace H := Option.bind_eq_some_iff.mp H
  obtain ⟨NA, A40, H⟩ := H
  (try dsimp only at H)
  have A4 := Aside0.mk A40
  clear A40
  replace H := Option.bind_eq_some_iff.mp H
  obtain ⟨nA, A50, H⟩ := H
  (try dsimp only at H)
  have A5 := Aside0.mk A50
  clear A50
  replace H := Option.bind_eq_some_iff.mp H
  obtain ⟨qA, A60, H⟩ := H
  (try dsimp only at H)
  have A6 := Aside0.mk A60
  clear A60
  replace H := Option.bind_eq_some_iff.mp H
  obtain ⟨gA, A70, H⟩ := H
  (try dsimp only at H)
  have A7 := Aside0.mk A70
  clear A70
  replace H := Option.bind_eq_some_iff.mp H
  obtain ⟨DB, A80, H⟩ := H
  (try dsimp only at H)
  have A8 := Aside0.mk A80
  clear A80
  by_cases c9 : DB = true
  ·subst c9
   rw [if_pos rfl] at H
   replace H := Option.bind_eq_some_iff.mp H
   obtain ⟨OA, A100, H⟩ := H
   (try dsimp only at H)
   have A10 := Aside0.mk A100
   clear A100
   replace H := Option.bind_eq_some_iff.mp H
   obtain ⟨EB, A110, H⟩ := H
   (try dsimp only at H)
   have A11 := Aside0.mk A110
   clear A110
   by_cases c12 : EB = true
   ·subst c12
    rw [if_pos rfl] at H
    replace H := Option.bind_eq_some_iff.mp H
    obtain ⟨⟨IB, LD⟩, A130, H⟩ := H
    (try dsimp only at H)
    have A13 := Aside0.mk A130
    clear A130
    have HC14 := Aside0.mk H
    clear H
    go_enter Try.func9, Try.ntmps9
    go_upto_region 14 with (first | ((with_reducible refine gate_callee (f := 41) rfl ?_); refine goesL_ (some 13) rfl rfl Try.func41 (by kernel_rfl) rfl #[.slice A0 l0.length c0, .int .i64 1048576] rfl q4_1 ?_; (with_reducible refine (laws_szFactS.calls _ _ l0 1048576 dB _ ?side1 ?side2 A2.out).mono ?_); (case side1 => exact q4_13); (case side2 => exact HC0.out); rintro e w' ⟨rfl, ⟨nd, rfl⟩⟩; refine ⟨_, rfl, ?_⟩) | ((with_reducible refine gate_callee (f := 43) rfl ?_); refine goesL_ (some 17) rfl rfl Try.func43 (by kernel_rfl) rfl #[.slice A0 l0.length c0] rfl q4_1 ?_; (with_reducible refine (laws_toFactS.calls k _ _ l0 NA _ ?side1 ?side2 A4.out).mono ?_); (case side1 => exact q4_13); (case side2 => exact HC0.out); rintro e tE ⟨mE, rfl, ho0, hb⟩; refine ⟨_, rfl, ?_⟩; have hA := Aside0.mk (Kd.R_lower ho0 (below_size q4_0)); have iA := Aside0.mk (below_step q4_0 hb); clear HB; have cA := hA; have HB := iA; clear hA iA; (try clear hb); (try clear hb2); (try clear hk); (try clear hi); (try clear ho0); obtain ⟨JB, KB, MD⟩ := Kd.R_slice cA.out; subst MD) | ((with_reducible refine gate_callee (f := 42) rfl ?_); refine goesL_ (some 18) rfl rfl Try.func42 (by kernel_rfl) rfl #[.slice JB NA.length KB] rfl q4_1 ?_; (with_reducible refine (spec_InTime.calls k _ _ NA nA _ ?side1 ?side2 A5.out).mono ?_); (case side1 => repeat (first | exact (Kd.R_reads' cA.out).2.2 | (with_reducible refine Kd.C_alloc ?_ _) | (with_reducible refine Kd.C_drewN ?_ _) | (with_reducible refine Kd.C_drew ?_))); (case side2 => exact (Kd.R_reads' cA.out).2.1); rintro e uE ⟨nE, rfl, ho0, hb⟩; refine ⟨_, rfl, ?_⟩; have hA := Aside0.mk (Kd.R_elder' q4_2 (Kd.R_base ho0) hb); have iA := Aside0.mk (Kd.R_lower (Kd.R_new' ho0 (Kd.R_lt q4_2)) (below_size q4_0)); have oA := Aside0.mk (below_step q4_0 hb); clear cA HB; have cA := hA; have bA := iA; have HB := oA; clear hA iA oA; (try clear hb); (try clear hb2); (try clear hk); (try clear hi); (try clear ho0)) | ((with_reducible refine gate_callee (f := 43) rfl ?_); refine goesL_ (some 20) rfl rfl Try.func43 (by kernel_rfl) rfl #[.slice A0 l0.length c0] rfl q4_1 ?_; (with_reducible refine (laws_toFactS.calls k _ _ l0 qA _ ?side1 ?side2 A6.out).mono ?_); (case side1 => repeat (first | exact (Kd.C_below HR0.out HB.out) | (with_reducible refine Kd.C_alloc ?_ _) | (with_reducible refine Kd.C_drewN ?_ _) | (with_reducible refine Kd.C_drew ?_))); (case side2 => exact HC0.out); rintro e vE ⟨oE, rfl, ho0, hb⟩; refine ⟨_, rfl, ?_⟩; have hA := Aside0.mk (Kd.R_elder' q4_2 (Kd.R_base ho0) hb); have iA := Aside0.mk (Kd.R_elder' q4_3 (Kd.R_base ho0) hb); have oA := Aside0.mk (Kd.R_lower (Kd.R_new' (Kd.R_new' ho0 (Kd.R_lt q4_2)) (Kd.R_lt q4_3)) (below_size q4_0)); have tA := Aside0.mk (below_step q4_0 hb); clear cA bA HB; have cA := hA; have bA := iA; have eA := oA; have HB := tA; clear hA iA oA tA; (try clear hb); (try clear hb2); (try clear hk); (try clear hi); (try clear ho0); obtain ⟨eB, fB, ND⟩ := Kd.R_slice eA.out; subst ND) | ((with_reducible refine gate_callee (f := 44) rfl ?_); refine goesL_ (some 22) rfl rfl Try.func44 (by kernel_rfl) rfl #[.slice eB qA.length fB] rfl q4_1 ?_; (with_reducible refine (impl_InTime.calls _ _ qA gA _ ?side1 ?side2 A7.out).mono ?_); (case side1 => repeat (first | exact (Kd.R_reads' eA.out).2.2 | (with_reducible refine Kd.C_alloc ?_ _) | (with_reducible refine Kd.C_drewN ?_ _) | (with_reducible refine Kd.C_drew ?_))); (case side2 => exact (Kd.R_reads' eA.out).2.1); rintro e wE ⟨pE, rfl, ho0, hb⟩; refine ⟨_, rfl, ?_⟩; have hA := Aside0.mk (Kd.R_elder' q4_2 (Kd.R_base ho0) hb); have iA := Aside0.mk (Kd.R_elder' q4_3 (Kd.R_base ho0) hb); have oA := Aside0.mk (Kd.R_elder' q4_4 (Kd.R_base ho0) hb); have tA := Aside0.mk (Kd.R_lower (Kd.R_new' (Kd.R_new' (Kd.R_new' ho0 (Kd.R_lt q4_2)) (Kd.R_lt q4_3)) (Kd.R_lt q4_4)) (below_size q4_0)); have BA := Aside0.mk (below_step q4_0 hb); clear cA bA eA HB; have cA := hA; have bA := iA; have eA := oA; have jA := tA; have HB := BA; clear hA iA oA tA BA; (try clear hb); (try clear hb2); (try clear hk); (try clear hi); (try clear ho0); obtain ⟨KA, LA, OD⟩ := Kd.R_slice jA.out; subst OD; obtain ⟨jB, kB, PD⟩ := Kd.R_slice bA.out; subst PD) | ((with_reducible refine gate_callee (f := 38) rfl ?_); refine goesL_ (some 25) rfl rfl Try.func38 (by kernel_rfl) rfl #[.slice KA gA.length LA, .slice jB nA.length kB] rfl q4_1 ?_; (with_reducible refine (laws_eqFactS.calls k _ _ gA _ _ nA true _ ?side1 ?side2 ?side3 ?side4 A8.out).mono ?_); (case side1 => repeat (first | exact (Kd.R_reads' jA.out).2.2 | (with_reducible refine Kd.C_alloc ?_ _) | (with_reducible refine Kd.C_drewN ?_ _) | (with_reducible refine Kd.C_drew ?_))); (case side2 => exact (Kd.R_reads' jA.out).2.1); (case side3 => repeat (first | exact (Kd.R_reads' bA.out).2.2 | (with_reducible refine Kd.C_alloc ?_ _) | (with_reducible refine Kd.C_drewN ?_ _) | (with_reducible refine Kd.C_drew ?_))); (case side4 => exact (Kd.R_reads' bA.out).2.1); rintro e xE ⟨rfl, hb⟩; refine ⟨_, rfl, ?_⟩; have hA := Aside0.mk (Kd.R_below q4_2 hb); have iA := Aside0.mk (Kd.R_below q4_3 hb); have oA := Aside0.mk (Kd.R_below q4_4 hb); have tA := Aside0.mk (Kd.R_below q4_7 hb); have BA := Aside0.mk (below_step q4_0 hb); clear cA bA eA jA HB; have cA := hA; have bA := iA; have eA := oA; have jA := tA; have HB := BA; clear hA iA oA tA BA; (try clear hb); (try clear hb2); (try clear hk); (try clear hi)) | ((with_reducible refine gate_callee (f := 43) rfl ?_); refine goesL_ (some 29) rfl rfl Try.func43 (by kernel_rfl) rfl #[.slice A0 l0.length c0] rfl q4_1 ?_; (with_reducible refine (laws_toFactS.calls k _ _ l0 OA _ ?side1 ?side2 A10.out).mono ?_); (case side1 => repeat (first | exact (Kd.C_below HR0.out HB.out) | (with_reducible refine Kd.C_alloc ?_ _) | (with_reducible refine Kd.C_drewN ?_ _) | (with_reducible refine Kd.C_drew ?_))); (case side2 => exact HC0.out); rintro e yE ⟨qE, rfl, ho0, hb⟩; refine ⟨_, rfl, ?_⟩; have hA := Aside0.mk (Kd.R_elder' q4_2 (Kd.R_base ho0) hb); have iA := Aside0.mk (Kd.R_elder' q4_3 (Kd.R_base ho0) hb); have oA := Aside0.mk (Kd.R_elder' q4_4 (Kd.R_base ho0) hb); have tA := Aside0.mk (Kd.R_elder' q4_7 (Kd.R_base ho0) hb); have BA := Aside0.mk (Kd.R_lower (Kd.R_new' (Kd.R_new' (Kd.R_new' (Kd.R_new' ho0 (Kd.R_lt q4_2)) (Kd.R_lt q4_3)) (Kd.R_lt q4_4)) (Kd.R_lt q4_7)) (below_size q4_0)); have iB := Aside0.mk (below_step q4_0 hb); clear cA bA eA jA HB; have cA := hA; have bA := iA; have eA := oA; have jA := tA; have uA := BA; have HB := iB; clear hA iA oA tA BA iB; (try clear hb); (try clear hb2); (try clear hk); (try clear hi); (try clear ho0); obtain ⟨LB, MB, QD⟩ := Kd.R_slice uA.out; subst QD) | ((with_reducible refine gate_callee (f := 38) rfl ?_); refine goesL_ (some 30) rfl rfl Try.func38 (by kernel_rfl) rfl #[.slice eB qA.length fB, .slice LB OA.length MB] rfl q4_1 ?_; (with_reducible refine (laws_eqFactS.calls k _ _ qA _ _ OA true _ ?side1 ?side2 ?side3 ?side4 A11.out).mono ?_); (case side1 => repeat (first | exact (Kd.R_reads' eA.out).2.2 | (with_reducible refine Kd.C_alloc ?_ _) | (with_reducible refine Kd.C_drewN ?_ _) | (with_reducible refine Kd.C_drew ?_))); (case side2 => exact (Kd.R_reads' eA.out).2.1); (case side3 => repeat (first | exact (Kd.R_reads' uA.out).2.2 | (with_reducible refine Kd.C_alloc ?_ _) | (with_reducible refine Kd.C_drewN ?_ _) | (with_reducible refine Kd.C_drew ?_))); (case side4 => exact (Kd.R_reads' uA.out).2.1); rintro e zE ⟨rfl, hb⟩; refine ⟨_, rfl, ?_⟩; have hA := Aside0.mk (Kd.R_below q4_2 hb); have iA := Aside0.mk (Kd.R_below q4_3 hb); have oA := Aside0.mk (Kd.R_below q4_4 hb); have tA := Aside0.mk (Kd.R_below q4_7 hb); have BA := Aside0.mk (Kd.R_below (by (with_reducible repeat (first | apply Kd.R_alloc | apply Kd.R_drewN | apply Kd.R_drew)); exact uA.out) hb); have iB := Aside0.mk (below_step q4_0 hb); clear cA bA eA jA uA HB; have cA := hA; have bA := iA; have eA := oA; have jA := tA; have uA := BA; have HB := iB; clear hA iA oA tA BA iB; (try clear hb); (try clear hb2); (try clear hk); (try clear hi)) | ((with_reducible refine gate_callee (f := 39) rfl ?_); refine goesL_ (some 34) rfl rfl Try.func39 (by kernel_rfl) rfl #[.slice eB qA.length fB, .int .i64 1] rfl q4_1 ?_; (with_reducible refine (laws_markFactS.calls k (fun k_ => some k_ = (.slice eB qA.length fB : Value).ownBlock) (.slice eB qA.length fB) qA 1 IB LD w _ ?side1 ?side2 A13.out).mono ?_); (case side1 => exact q4_0); (case side2 => exact Kd.R_tight rfl eA.out); rintro e AE ⟨rfl, hy0, hb, hkp⟩; refine ⟨_, rfl, ?_⟩; have hA := Aside0.mk (Kd.R_mono (ok' := fun k_ => some k_ ≠ (.slice jB nA.length kB : Value).ownBlock ∧ some k_ ≠ (.slice eB qA.length fB : Value).ownBlock ∧ some k_ ≠ (.slice KA gA.length LA : Value).ownBlock ∧ some k_ ≠ (.slice LB OA.length MB : Value).ownBlock) (Kd.R_keptB (cA.out) hkp (fun k_ hk_ hs_ => (hk_.1.1.2) hs_)) (fun k_ hk_ => ⟨hk_.1.1.1.1.2, hk_.1.1.1.2, hk_.1.1.2, hk_.1.2⟩)); have iA := Aside0.mk (Kd.R_mono (ok' := fun k_ => some k_ ≠ (.slice JB NA.length KB : Value).ownBlock ∧ some k_ ≠ (.slice eB qA.length fB : Value).ownBlock ∧ some k_ ≠ (.slice KA gA.length LA : Value).ownBlock ∧ some k_ ≠ (.slice LB OA.length MB : Value).ownBlock) (Kd.R_keptB (bA.out) hkp (fun k_ hk_ hs_ => (hk_.1.1.2) hs_)) (fun k_ hk_ => ⟨hk_.1.1.1.1.2, hk_.1.1.1.2, hk_.1.1.2, hk_.1.2⟩)); have oA := Aside0.mk (Kd.R_reok rfl hy0 (fun k_ e_ => eA.out.1 k_ e_)); have tA := Aside0.mk (Kd.R_mono (ok' := fun k_ => some k_ ≠ (.slice JB NA.length KB : Value).ownBlock ∧ some k_ ≠ (.slice jB nA.length kB : Value).ownBlock ∧ some k_ ≠ (.slice eB qA.length fB : Value).ownBlock ∧ some k_ ≠ (.slice LB OA.length MB : Value).ownBlock) (Kd.R_keptB (jA.out) hkp (fun k_ hk_ hs_ => (hk_.1.2) hs_)) (fun k_ hk_ => ⟨hk_.1.1.1.1.2, hk_.1.1.1.2, hk_.1.1.2, hk_.1.2⟩)); have BA := Aside0.mk (Kd.R_mono (ok' := fun k_ => some k_ ≠ (.slice JB NA.length KB : Value).ownBlock ∧ some k_ ≠ (.slice jB nA.length kB : Value).ownBlock ∧ some k_ ≠ (.slice eB qA.length fB : Value).ownBlock ∧ some k_ ≠ (.slice KA gA.length LA : Value).ownBlock) (Kd.R_keptB (uA.out) hkp (fun k_ hk_ hs_ => (hk_.1.2) hs_)) (fun k_ hk_ => ⟨hk_.1.1.1.1.2, hk_.1.1.1.2, hk_.1.1.2, hk_.1.2⟩)); have iB := Aside0.mk (hb); clear cA bA eA jA uA HB; have cA := hA; have bA := iA; have eA := oA; have jA := tA; have uA := BA; have HB := iB; clear hA iA oA tA BA iB; (try clear hb); (try clear hkp); (try clear hy0)))
    (try simp only [Act.put, List.setIfInBounds_toArray, List.set_cons_zero, List.set_cons_succ])
    go_cut [42] (fun v42 wc => ∃ (kq : Nat) (gB : Bool), v42 = .bool gB ∧ Aside0 (laws_FnExactInTime.j0 kq l0 nA gA gB = some true) ∧ Aside0 (kq ≤ k) ∧ Aside0 (Kd.R k89 89 wc w.heap.size (fun k_ => some k_ ≠ ((.slice KA gA.length LA) : Value).ownBlock) (.slice jB nA.length kB) nA) ∧ Aside0 (Kd.R k89 89 wc w.heap.size (fun k_ => some k_ ≠ ((.slice jB nA.length kB) : Value).ownBlock) (.slice KA gA.length LA) gA) ∧ Aside0 (Below w.heap.size w wc))
    case first =>
     have H := HC14.out
     clear HC14
     by_cases c28 : IB < 0
     ·rw [if_pos c28] at H
      have QA : decide (IB < 0) = true := decide_eq_true c28
      clear c28
      (first | rw [QA] | (simp only [i64_w, i32_w]; rw [QA]) | skip)
      exact absurd H (by rcases k with _ | _ <;> simp [laws_FnExactInTime.j0])
     ·rw [if_neg c28] at H
      have QA : decide (IB < 0) = false := decide_eq_false c28
      clear c28
      (first | rw [QA] | (simp only [i64_w, i32_w]; rw [QA]) | skip)
      replace H := Option.bind_eq_some_iff.mp H
      obtain ⟨zB, A290, H⟩ := H
      (try dsimp only at H)
      have A29 := Aside0.mk A290
      clear A290
      have H' := Aside0.mk H
      clear H
      go_wp2_with (first | (go_at_call 38; (with_reducible refine (laws_eqFactS.calls k _ _ gA _ _ nA zB _ ?side1 ?side2 ?side3 ?side4 A29.out).mono ?_); (case side1 => repeat (first | exact (Kd.R_reads' jA.out).2.2 | (with_reducible refine Kd.C_alloc ?_ _) | (with_reducible refine Kd.C_drewN ?_ _) | (with_reducible refine Kd.C_drew ?_))); (case side2 => exact (Kd.R_reads' jA.out).2.1); (case side3 => repeat (first | exact (Kd.R_reads' bA.out).2.2 | (with_reducible refine Kd.C_alloc ?_ _) | (with_reducible refine Kd.C_drewN ?_ _) | (with_reducible refine Kd.C_drew ?_))); (case side4 => exact (Kd.R_reads' bA.out).2.1); rintro e BE ⟨rfl, hb⟩; have hA := Aside0.mk (Kd.R_below q4_2 hb); have iA := Aside0.mk (Kd.R_below q4_3 hb); have oA := Aside0.mk (Kd.R_below q4_4 hb); have tA := Aside0.mk (Kd.R_below q4_7 hb); have BA := Aside0.mk (Kd.R_below (by (with_reducible repeat (first | apply Kd.R_alloc | apply Kd.R_drewN | apply Kd.R_drew)); exact uA.out) hb); have iB := Aside0.mk (below_step q4_0 hb); clear cA bA eA jA uA HB; have cA := hA; have bA := iA; have eA := oA; have jA := tA; have uA := BA; have HB := iB; clear hA iA oA tA BA iB; (try clear hb); (try clear hb2); (try clear hk); (try clear hi)))
      go_meet
      case rel => exact ⟨_, (!zB), (by first | rfl | (simp; done) | (simp [*]; done)), H', ⟨by first | omega | exact Nat.le_refl _⟩, ⟨by (with_reducible repeat (first | apply Kd.R_alloc | apply Kd.R_drewN | apply Kd.R_drew)); exact Kd.R_mono bA.out (fun _ hk => hk.2.2.1)⟩, ⟨by (with_reducible repeat (first | apply Kd.R_alloc | apply Kd.R_drewN | apply Kd.R_drew)); exact Kd.R_mono jA.out (fun _ hk => hk.2.1)⟩, ⟨q4_0⟩⟩
    case rest =>
     clear HC14
     (try clear c1); (try clear c2); (try clear p2); (try clear c3); (try clear GB); (try clear c4); (try clear c9); (try clear c12); (try clear c28); (try clear QA)
     obtain ⟨kq, gB, rfl, HA, HJ13, FA, vA, HB⟩ := hcut
     cases kq with
     | zero => exact absurd HA.out (by simp [laws_FnExactInTime.j0])
     | succ kj13 =>
      have H := HA.out
      clear HA
      simp only [laws_FnExactInTime.j0] at H
      by_cases c31 : gB = true
      ·subst c31
       rw [if_pos rfl] at H
       exact absurd H (by simp)
      ·replace c31 := Bool.eq_false_iff.mpr c31
       subst c31
       rw [if_neg (show ¬ (false = true) by decide)] at H
       replace H := Option.bind_eq_some_iff.mp H
       obtain ⟨⟨MA, hB⟩, A320, H⟩ := H
       (try dsimp only at H)
       have A32 := Aside0.mk A320
       clear A320
       replace H := Option.bind_eq_some_iff.mp H
       obtain ⟨IA, A330, H⟩ := H
       (try dsimp only at H)
       have A33 := Aside0.mk A330
       clear A330
       by_cases c34 : IA < 0
       ·rw [if_pos c34] at H
        have lC : decide (IA < 0) = true := decide_eq_true c34
        clear c34
        exact absurd H (by simp)
       ·rw [if_neg c34] at H
        have lC : decide (IA < 0) = false := decide_eq_false c34
        clear c34
        by_cases c35 : IA = MA
        ·rw [if_pos c35] at H
         have mC : (IA == MA) = true := beq_iff_eq.mpr c35
         have nC : (IA != MA) = false := bne_eq_false_iff_eq.mpr c35
         clear c35
         replace H := Option.bind_eq_some_iff.mp H
         obtain ⟨BB, A360, H⟩ := H
         (try dsimp only at H)
         have A36 := Aside0.mk A360
         clear A360
         replace H := Option.bind_eq_some_iff.mp H
         obtain ⟨CB, A370, H⟩ := H
         (try dsimp only at H)
         have A37 := Aside0.mk A370
         clear A370
         replace H := Option.bind_eq_some_iff.mp H
         obtain ⟨eC, A380, H⟩ := H
         (try dsimp only at H)
         have A38 := Aside0.mk A380
         clear A380
         by_cases c39 : eC = true
         ·subst c39
          rw [if_pos rfl] at H
          replace H := Option.bind_eq_some_iff.mp H
          obtain ⟨JA, A400, H⟩ := H
          (try dsimp only at H)
          have A40 := Aside0.mk A400
          clear A400
          by_cases c41 : JA < 0
          ·rw [if_pos c41] at H
           have oC : decide (JA < 0) = true := decide_eq_true c41
           clear c41
           exact absurd H (by simp)
          ·rw [if_neg c41] at H
           have oC : decide (JA < 0) = false := decide_eq_false c41
           clear c41
           by_cases c42 : JA = MA
           ·rw [if_pos c42] at H
            have pC : (JA == MA) = true := beq_iff_eq.mpr c42
            have qC : (JA != MA) = false := bne_eq_false_iff_eq.mpr c42
            clear c42 H
            (try clear H)
            go_wp2_with (first | ((with_reducible refine gate_callee (f := 39) rfl ?_); refine goesL_ (some 45) rfl rfl Try.func39 (by kernel_rfl) rfl #[.slice KA gA.length LA, .int .i64 1] rfl q4_1 ?_; (with_reducible refine (laws_markFactS.calls kj13 (fun k_ => some k_ = (.slice KA gA.length LA : Value).ownBlock) (.slice KA gA.length LA) gA 1 MA hB w _ ?side1 ?side2 A32.out).mono ?_); (case side1 => exact q4_0); (case side2 => exact Kd.R_tight rfl vA.out); rintro e CE ⟨rfl, hy0, hb, hkp⟩; refine ⟨_, rfl, ?_⟩; have hA := Aside0.mk (Kd.R_mono (ok' := fun k_ => some k_ ≠ (.slice KA gA.length LA : Value).ownBlock) (Kd.R_keptB (FA.out) hkp (fun k_ hk_ hs_ => (hk_) hs_)) (fun k_ hk_ => hk_.1)); have iA := Aside0.mk (Kd.R_reok rfl hy0 (fun k_ e_ => vA.out.1 k_ e_)); have oA := Aside0.mk (hb); clear FA vA HB; have FA := hA; have vA := iA; have HB := oA; clear hA iA oA; (try clear hb); (try clear hkp); (try clear hy0)) | ((with_reducible refine gate_callee (f := 40) rfl ?_); refine goesL_ (some 48) rfl rfl Try.func40 (by kernel_rfl) rfl #[.slice KA hB.length LA, .int .i64 1] rfl q4_16 ?_; (with_reducible refine (laws_heldFactS.calls kj13 _ _ hB 1 IA _ ?side1 ?side2 A33.out).mono ?_); (case side1 => repeat (first | exact (Kd.R_reads' vA.out).2.2 | (with_reducible refine Kd.C_alloc ?_ _) | (with_reducible refine Kd.C_drewN ?_ _) | (with_reducible refine Kd.C_drew ?_))); (case side2 => rw [show hB.length = gA.length from (Kd.R_reads' vA.out).1.symm]; exact (Kd.R_reads' vA.out).2.1); rintro e w' ⟨rfl, ⟨nd, rfl⟩⟩; refine ⟨_, rfl, ?_⟩) | ((with_reducible refine gate_callee (f := 43) rfl ?_); refine goesL_ (some 55) rfl rfl Try.func43 (by kernel_rfl) rfl #[.slice A0 l0.length c0] rfl q4_1 ?_; (with_reducible refine (laws_toFactS.calls kj13 _ _ l0 BB _ ?side1 ?side2 A36.out).mono ?_); (case side1 => repeat (first | exact (Kd.C_below HR0.out q4_0) | (with_reducible refine Kd.C_alloc ?_ _) | (with_reducible refine Kd.C_drewN ?_ _) | (with_reducible refine Kd.C_drew ?_))); (case side2 => exact HC0.out); rintro e DE ⟨rE, rfl, ho0, hb⟩; refine ⟨_, rfl, ?_⟩; have hA := Aside0.mk (Kd.R_elder' q4_8 (Kd.R_base ho0) hb); have iA := Aside0.mk (Kd.R_elder' q4_9 (Kd.R_base ho0) hb); have oA := Aside0.mk (Kd.R_lower (Kd.R_new' (Kd.R_new' ho0 (Kd.R_lt q4_8)) (Kd.R_lt q4_9)) (below_size q4_0)); have tA := Aside0.mk (below_step q4_0 hb); clear FA vA HB; have FA := hA; have vA := iA; have DA := oA; have HB := tA; clear hA iA oA tA; (try clear hb); (try clear hb2); (try clear hk); (try clear hi); (try clear ho0); obtain ⟨RD, SD, TD⟩ := Kd.R_slice DA.out; subst TD) | ((with_reducible refine gate_callee (f := 44) rfl ?_); refine goesL_ (some 56) rfl rfl Try.func44 (by kernel_rfl) rfl #[.slice RD BB.length SD] rfl q4_1 ?_; (with_reducible refine (impl_InTime.calls _ _ BB CB _ ?side1 ?side2 A37.out).mono ?_); (case side1 => repeat (first | exact (Kd.R_reads' DA.out).2.2 | (with_reducible refine Kd.C_alloc ?_ _) | (with_reducible refine Kd.C_drewN ?_ _) | (with_reducible refine Kd.C_drew ?_))); (case side2 => exact (Kd.R_reads' DA.out).2.1); rintro e EE ⟨sE, rfl, ho0, hb⟩; refine ⟨_, rfl, ?_⟩; have hA := Aside0.mk (Kd.R_elder' q4_8 (Kd.R_base ho0) hb); have iA := Aside0.mk (Kd.R_elder' q4_9 (Kd.R_base ho0) hb); have oA := Aside0.mk (Kd.R_elder' q4_19 (Kd.R_base ho0) hb); have tA := Aside0.mk (Kd.R_lower (Kd.R_new' (Kd.R_new' (Kd.R_new' ho0 (Kd.R_lt q4_8)) (Kd.R_lt q4_9)) (Kd.R_lt q4_19)) (below_size q4_0)); have BA := Aside0.mk (below_step q4_0 hb); clear FA vA DA HB; have FA := hA; have vA := iA; have DA := oA; have RA := tA; have HB := BA; clear hA iA oA tA BA; (try clear hb); (try clear hb2); (try clear hk); (try clear hi); (try clear ho0); obtain ⟨UD, VD, WD⟩ := Kd.R_slice RA.out; subst WD) | ((with_reducible refine gate_callee (f := 38) rfl ?_); refine goesL_ (some 59) rfl rfl Try.func38 (by kernel_rfl) rfl #[.slice UD CB.length VD, .slice jB nA.length kB] rfl q4_1 ?_; (with_reducible refine (laws_eqFactS.calls kj13 _ _ CB _ _ nA true _ ?side1 ?side2 ?side3 ?side4 A38.out).mono ?_); (case side1 => repeat (first | exact (Kd.R_reads' RA.out).2.2 | (with_reducible refine Kd.C_alloc ?_ _) | (with_reducible refine Kd.C_drewN ?_ _) | (with_reducible refine Kd.C_drew ?_))); (case side2 => exact (Kd.R_reads' RA.out).2.1); (case side3 => repeat (first | exact (Kd.R_reads' FA.out).2.2 | (with_reducible refine Kd.C_alloc ?_ _) | (with_reducible refine Kd.C_drewN ?_ _) | (with_reducible refine Kd.C_drew ?_))); (case side4 => exact (Kd.R_reads' FA.out).2.1); rintro e FE ⟨rfl, hb⟩; refine ⟨_, rfl, ?_⟩; have hA := Aside0.mk (Kd.R_below q4_8 hb); have iA := Aside0.mk (Kd.R_below q4_9 hb); have oA := Aside0.mk (Kd.R_below q4_19 hb); have tA := Aside0.mk (Kd.R_below (by (with_reducible repeat (first | apply Kd.R_alloc | apply Kd.R_drewN | apply Kd.R_drew)); exact RA.out) hb); have BA := Aside0.mk (below_step q4_0 hb); clear FA vA DA RA HB; have FA := hA; have vA := iA; have DA := oA; have RA := tA; have HB := BA; clear hA iA oA tA BA; (try clear hb); (try clear hb2); (try clear hk); (try clear hi)) | ((with_reducible refine gate_callee (f := 40) rfl ?_); refine goesL_ (some 63) rfl rfl Try.func40 (by kernel_rfl) rfl #[.slice KA hB.length LA, .int .i64 1] rfl q4_16 ?_; (with_reducible refine (laws_heldFactS.calls kj13 _ _ hB 1 JA _ ?side1 ?side2 A40.out).mono ?_); (case side1 => repeat (first | exact (Kd.R_reads' vA.out).2.2 | (with_reducible refine Kd.C_alloc ?_ _) | (with_reducible refine Kd.C_drewN ?_ _) | (with_reducible refine Kd.C_drew ?_))); (case side2 => rw [show hB.length = gA.length from (Kd.R_reads' vA.out).1.symm]; exact (Kd.R_reads' vA.out).2.1); rintro e w' ⟨rfl, ⟨nd, rfl⟩⟩; refine ⟨_, rfl, ?_⟩))
            go_ret
            exact ⟨q4_14, q4_0⟩
           ·rw [if_neg c42] at H
            have pC : (JA == MA) = false := beq_eq_false_iff_ne.mpr c42
            have qC : (JA != MA) = true := bne_iff_ne.mpr c42
            exact absurd H (by simp)
         ·replace c39 := Bool.eq_false_iff.mpr c39
          subst c39
          rw [if_neg (show ¬ (false = true) by decide)] at H
          exact absurd H (by simp)
        ·rw [if_neg c35] at H
         have mC : (IA == MA) = false := beq_eq_false_iff_ne.mpr c35
         have nC : (IA != MA) = true := bne_iff_ne.mpr c35
         exact absurd H (by simp)
   ·replace c12 := Bool.eq_false_iff.mpr c12
    subst c12
    rw [if_neg (show ¬ (false = true) by decide)] at H
    exact absurd H (by simp)
  ·replace c9 := Bool.eq_false_iff.mpr c9
   subst c9
   rw [if_neg (show ¬ (false = true) by decide)] at H
   exact absurd H (by simp)

/-! What the arguments hold: each number fits, each length is one. -/
def wfT92 (x : S92) : Prop := (Lit.int .i64 x.f0).wf = true ∧ (Lit.int .i64 x.f1).wf = true ∧ (Lit.int .i64 x.f2).wf = true ∧ (Lit.int .i64 x.f3).wf = true ∧ (Lit.int .i64 x.f4).wf = true ∧ (Lit.int .i64 x.f5).wf = true ∧ (Lit.int .i64 x.f6).wf = true ∧ (Lit.int .i64 x.f7).wf = true
/-- THE ONE PURE STATEMENT of laws_FnExactInTime. -/
def laws_FnExactInTime.Pure : Prop := ∀ (l0 : List (S92)), (l0.length ≤ maxLen ∧ ∀ y ∈ l0, wfT92 y) → ∃ k, laws_FnExactInTime.f k l0 = some true

end Go.Proofs.Ytgghglocfdcegaa.PFnExactInTime
