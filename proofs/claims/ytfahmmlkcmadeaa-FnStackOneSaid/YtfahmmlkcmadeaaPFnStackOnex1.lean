-- Written by the session's own patched copy of the printer (wip/patch_print.py).
import Derived.Test.YtfahmmlkcmadeaaPFnStackOnex0
namespace Go.Proofs.Ytfahmmlkcmadeaa.PFnStackOne
open Go.RowKit Go.Proofs.YtfahmmlkcmadeaaW.PrintWords Go.Proofs.YtfahmmlkcmadeaaW.PrintLast Go.Proofs.YtfahmmlkcmadeaaW.PrintMore
attribute [local go_sem] max2_int min2_int max_two min_two max_three min_three max_four min_four   -- for this text's walks alone
set_option linter.unusedVariables false
set_option linter.unusedSimpArgs false

theorem q1_0 {p : Prop} (h : p := by repeat (first | (with_reducible first | exact HB.out | apply below_alloc | apply pw_below_drewN | apply below_drew1) | exact HB.out)) : p := h
theorem q1_1 {p : Prop} (h : p := by repeat (first | (with_reducible first | exact HB.out | apply below_alloc | apply pw_below_drewN | apply below_drew1 | refine below_set ?_ tA.out) | exact HB.out)) : p := h
theorem q1_2 {p : Prop} (h : p := by (with_reducible repeat (first | refine blk_drewN ?_ _ | refine blk_drew ?_ | refine blk_alloc ?_ _)); exact dA.out) : p := h
theorem q1_3 {p : Prop} (h : p := by (try simp only [List.map_toArray, List.map_cons, List.map_nil]); first | done | rfl | (simp only [List.length_drop, List.length_take]; rfl)) : p := h
theorem q1_4 {p : Prop} (h : p := by repeat (first | (with_reducible first | exact HB.out | apply below_alloc | apply pw_below_drewN | apply below_drew1 | refine below_set ?_ tA.out | refine below_set ?_ BA.out) | exact HB.out)) : p := h
theorem q1_5 {p : Prop} (h : p := by repeat (first | exact Drawn0.refl _ | apply Drawn0.step)) : p := h
theorem q1_6 {p : Prop} (h : p := by first | rfl | (simp; done) | (simp [*]; done)) : p := h
theorem q1_7 {p : Prop} (h : p := by rw [hg]; exact (below_size q1_0)) : p := h
theorem q1_8 {p : Prop} (h : p := by repeat (first | (with_reducible first | exact HB.out | apply below_alloc | apply pw_below_drewN | apply below_drew1 | refine below_set ?_ uA.out) | exact HB.out)) : p := h
theorem q1_9 {p : Prop} (h : p := by first | rfl | (simp [errW_none, errW_some] <;> rfl) | (simp [*, errW_none, errW_some] <;> rfl)) : p := h
theorem q1_10 {p : Prop} (h : p := by (with_reducible repeat (first | refine blk_drewN ?_ _ | refine blk_drew ?_ | refine blk_alloc ?_ _)); refine blk_put (cs := #[.slice none 0 0]) ?_ 0 _ rfl; (with_reducible repeat (first | refine blk_drewN ?_ _ | refine blk_drew ?_ | refine blk_alloc ?_ _)); exact dA.out) : p := h
theorem q1_11 {p : Prop} (h : p := by first | (with_reducible assumption) | assumption) : p := h
/-! ### impl_StCall: function 16 -/
def impl_StCall.f (a0 : Int) (a1 : Int) : Option (Int × Int × Int × Int × Int × Int × Int × Int × Int × Bool) := if a0 = 1 then (some (a0, a1, 0, 0, 0, 0, 0, 0, 0, false)) else (if a0 = 2 then (some (a0, 0, 0, 0, 0, 0, 0, 0, 0, false)) else (some (0, 0, 0, 0, 0, 0, 0, 0, 0, false)))
set_option maxHeartbeats 8000000 in
set_option maxRecDepth 100000 in
theorem impl_StCall.calls (a0 : Int) (a1 : Int) (r1 : Int) (r2 : Int) (r3 : Int) (r4 : Int) (r5 : Int) (r6 : Int) (r7 : Int) (r8 : Int) (r9 : Int) (r10 : Bool) (w : World) (h : impl_StCall.f a0 a1 = some (r1, r2, r3, r4, r5, r6, r7, r8, r9, r10)) :
  Calls Try.prog 16 #[.int .i64 a0, .int .i64 a1] w fun e w' => e = .returned (.agg #[.int .i64 r1, .int .i64 r2, .int .i64 r3, .int .i64 r4, .int .i64 r5, .int .i64 r6, .int .i64 r7, .int .i64 r8, .int .i64 r9, .bool r10]) ∧ Below w.heap.size w w' := by
 have hu23 := Try.underlying23
 have HB := Aside0.mk (Below.refl w.heap.size w)
 have H : (if a0 = 1 then (some (a0, a1, 0, 0, 0, 0, 0, 0, 0, false)) else (if a0 = 2 then (some (a0, 0, 0, 0, 0, 0, 0, 0, 0, false)) else (some (0, 0, 0, 0, 0, 0, 0, 0, 0, false)))) = some (r1, r2, r3, r4, r5, r6, r7, r8, r9, r10) := h
 clear h
 by_cases c3 : a0 = 1
 ·rw [if_pos c3] at H
  have EA : (a0 == 1) = true := beq_iff_eq.mpr c3
  have FB : (a0 != 1) = false := bne_eq_false_iff_eq.mpr c3
  clear c3
  simp only [Option.some.injEq, Prod.mk.injEq] at H
  obtain ⟨rfl, rfl, rfl, rfl, rfl, rfl, rfl, rfl, rfl, rfl⟩ := H
  go_enter Try.func16, Try.ntmps16
  go_wp2_with (first | ((with_reducible refine gate_dst (N := 4) rfl ?_); refine box_event ?hg (N := 4) ?hd (cs := #[.int .i64 0, .int .i64 0, .int .i64 0, .int .i64 0, .int .i64 0, .int .i64 0, .int .i64 0, .int .i64 0, .int .i64 0, .bool false]) (t := 23) ?hr ?_; (case hd => rfl); (case hg => rfl); (case hr => first | (go_simp; done) | (go_simp; rfl)); intro bA hg w4 hbox hb; have kA := Aside0.mk (below_step q1_0 hb); have lA := Aside0.mk (hbox); have oA := Aside0.mk ((q1_7 : w.heap.size ≤ bA)); have qA := Aside0.mk ((q1_7 : w.heap.size ≤ bA)); clear HB; have HB := kA; have aA := lA; have CA := oA; have uA := qA; clear kA lA oA qA; clear hb hbox hg; have GB : w4.cell? ⟨bA, 0, none⟩ = some (.int .i64 0) := (blk_cell aA.out 0).trans rfl; have IB : w4.cell? ⟨bA, 1, none⟩ = some (.int .i64 0) := (blk_cell aA.out 1).trans rfl; have JB : w4.cell? ⟨bA, 2, none⟩ = some (.int .i64 0) := (blk_cell aA.out 2).trans rfl; have KB : w4.cell? ⟨bA, 3, none⟩ = some (.int .i64 0) := (blk_cell aA.out 3).trans rfl; have LB : w4.cell? ⟨bA, 4, none⟩ = some (.int .i64 0) := (blk_cell aA.out 4).trans rfl; have MB : w4.cell? ⟨bA, 5, none⟩ = some (.int .i64 0) := (blk_cell aA.out 5).trans rfl; have NB : w4.cell? ⟨bA, 6, none⟩ = some (.int .i64 0) := (blk_cell aA.out 6).trans rfl; have OB : w4.cell? ⟨bA, 7, none⟩ = some (.int .i64 0) := (blk_cell aA.out 7).trans rfl; have PB : w4.cell? ⟨bA, 8, none⟩ = some (.int .i64 0) := (blk_cell aA.out 8).trans rfl; have QB : w4.cell? ⟨bA, 9, none⟩ = some (.bool false) := (blk_cell aA.out 9).trans rfl; have RB := blk_frozen aA.out 0; have SB := blk_frozen aA.out 1; have TB := blk_frozen aA.out 2; have UB := blk_frozen aA.out 3; have VB := blk_frozen aA.out 4; have WB := blk_frozen aA.out 5; have XB := blk_frozen aA.out 6; have YB := blk_frozen aA.out 7; have ZB := blk_frozen aA.out 8; have aC := blk_frozen aA.out 9))
  refine bodyPost_ret (results_cell_row rfl _ _ bA 23 #[.int .i64 a0, .int .i64 a1, .int .i64 0, .int .i64 0, .int .i64 0, .int .i64 0, .int .i64 0, .int .i64 0, .int .i64 0, .bool false] (0, 0) _ rfl (by (with_reducible repeat (first | refine blk_drewN ?_ _ | refine blk_drew ?_ | refine blk_alloc ?_ _)); refine blk_put (cs := #[.int .i64 a0, .int .i64 a1, .int .i64 0, .int .i64 0, .int .i64 0, .int .i64 0, .int .i64 0, .int .i64 0, .int .i64 0, .bool false]) ?_ 9 _ rfl; (with_reducible repeat (first | refine blk_drewN ?_ _ | refine blk_drew ?_ | refine blk_alloc ?_ _)); refine blk_put (cs := #[.int .i64 a0, .int .i64 a1, .int .i64 0, .int .i64 0, .int .i64 0, .int .i64 0, .int .i64 0, .int .i64 0, .int .i64 0, .bool false]) ?_ 8 _ rfl; (with_reducible repeat (first | refine blk_drewN ?_ _ | refine blk_drew ?_ | refine blk_alloc ?_ _)); refine blk_put (cs := #[.int .i64 a0, .int .i64 a1, .int .i64 0, .int .i64 0, .int .i64 0, .int .i64 0, .int .i64 0, .int .i64 0, .int .i64 0, .bool false]) ?_ 7 _ rfl; (with_reducible repeat (first | refine blk_drewN ?_ _ | refine blk_drew ?_ | refine blk_alloc ?_ _)); refine blk_put (cs := #[.int .i64 a0, .int .i64 a1, .int .i64 0, .int .i64 0, .int .i64 0, .int .i64 0, .int .i64 0, .int .i64 0, .int .i64 0, .bool false]) ?_ 6 _ rfl; (with_reducible repeat (first | refine blk_drewN ?_ _ | refine blk_drew ?_ | refine blk_alloc ?_ _)); refine blk_put (cs := #[.int .i64 a0, .int .i64 a1, .int .i64 0, .int .i64 0, .int .i64 0, .int .i64 0, .int .i64 0, .int .i64 0, .int .i64 0, .bool false]) ?_ 5 _ rfl; (with_reducible repeat (first | refine blk_drewN ?_ _ | refine blk_drew ?_ | refine blk_alloc ?_ _)); refine blk_put (cs := #[.int .i64 a0, .int .i64 a1, .int .i64 0, .int .i64 0, .int .i64 0, .int .i64 0, .int .i64 0, .int .i64 0, .int .i64 0, .bool false]) ?_ 4 _ rfl; (with_reducible repeat (first | refine blk_drewN ?_ _ | refine blk_drew ?_ | refine blk_alloc ?_ _)); refine blk_put (cs := #[.int .i64 a0, .int .i64 a1, .int .i64 0, .int .i64 0, .int .i64 0, .int .i64 0, .int .i64 0, .int .i64 0, .int .i64 0, .bool false]) ?_ 3 _ rfl; (with_reducible repeat (first | refine blk_drewN ?_ _ | refine blk_drew ?_ | refine blk_alloc ?_ _)); refine blk_put (cs := #[.int .i64 a0, .int .i64 a1, .int .i64 0, .int .i64 0, .int .i64 0, .int .i64 0, .int .i64 0, .int .i64 0, .int .i64 0, .bool false]) ?_ 2 _ rfl; (with_reducible repeat (first | refine blk_drewN ?_ _ | refine blk_drew ?_ | refine blk_alloc ?_ _)); refine blk_put (cs := #[.int .i64 a0, .int .i64 0, .int .i64 0, .int .i64 0, .int .i64 0, .int .i64 0, .int .i64 0, .int .i64 0, .int .i64 0, .bool false]) ?_ 1 _ rfl; (with_reducible repeat (first | refine blk_drewN ?_ _ | refine blk_drew ?_ | refine blk_alloc ?_ _)); refine blk_put (cs := #[.int .i64 0, .int .i64 0, .int .i64 0, .int .i64 0, .int .i64 0, .int .i64 0, .int .i64 0, .int .i64 0, .int .i64 0, .bool false]) ?_ 0 _ rfl; (with_reducible repeat (first | refine blk_drewN ?_ _ | refine blk_drew ?_ | refine blk_alloc ?_ _)); exact aA.out) Try.underlying23 rfl (by kernel_rfl)) rfl ?_
  exact ⟨q1_9, q1_8⟩
 ·rw [if_neg c3] at H
  have EA : (a0 == 1) = false := beq_eq_false_iff_ne.mpr c3
  have FB : (a0 != 1) = true := bne_iff_ne.mpr c3
  by_cases c6 : a0 = 2
  ·rw [if_pos c6] at H
   have FA : (a0 == 2) = true := beq_iff_eq.mpr c6
   have GA : (a0 != 2) = false := bne_eq_false_iff_eq.mpr c6
   clear c6
   simp only [Option.some.injEq, Prod.mk.injEq] at H
   obtain ⟨rfl, rfl, rfl, rfl, rfl, rfl, rfl, rfl, rfl, rfl⟩ := H
   go_enter Try.func16, Try.ntmps16
   go_wp2_with (first | ((with_reducible refine gate_dst (N := 4) rfl ?_); refine box_event ?hg (N := 4) ?hd (cs := #[.int .i64 0, .int .i64 0, .int .i64 0, .int .i64 0, .int .i64 0, .int .i64 0, .int .i64 0, .int .i64 0, .int .i64 0, .bool false]) (t := 23) ?hr ?_; (case hd => rfl); (case hg => rfl); (case hr => first | (go_simp; done) | (go_simp; rfl)); intro bA hg w7 hbox hb; have kA := Aside0.mk (below_step q1_0 hb); have lA := Aside0.mk (hbox); have oA := Aside0.mk ((q1_7 : w.heap.size ≤ bA)); have qA := Aside0.mk ((q1_7 : w.heap.size ≤ bA)); clear HB; have HB := kA; have aA := lA; have CA := oA; have uA := qA; clear kA lA oA qA; clear hb hbox hg; have bC : w7.cell? ⟨bA, 0, none⟩ = some (.int .i64 0) := (blk_cell aA.out 0).trans rfl; have cC : w7.cell? ⟨bA, 1, none⟩ = some (.int .i64 0) := (blk_cell aA.out 1).trans rfl; have dC : w7.cell? ⟨bA, 2, none⟩ = some (.int .i64 0) := (blk_cell aA.out 2).trans rfl; have eC : w7.cell? ⟨bA, 3, none⟩ = some (.int .i64 0) := (blk_cell aA.out 3).trans rfl; have fC : w7.cell? ⟨bA, 4, none⟩ = some (.int .i64 0) := (blk_cell aA.out 4).trans rfl; have gC : w7.cell? ⟨bA, 5, none⟩ = some (.int .i64 0) := (blk_cell aA.out 5).trans rfl; have hC : w7.cell? ⟨bA, 6, none⟩ = some (.int .i64 0) := (blk_cell aA.out 6).trans rfl; have iC : w7.cell? ⟨bA, 7, none⟩ = some (.int .i64 0) := (blk_cell aA.out 7).trans rfl; have jC : w7.cell? ⟨bA, 8, none⟩ = some (.int .i64 0) := (blk_cell aA.out 8).trans rfl; have kC : w7.cell? ⟨bA, 9, none⟩ = some (.bool false) := (blk_cell aA.out 9).trans rfl; have lC := blk_frozen aA.out 0; have mC := blk_frozen aA.out 1; have nC := blk_frozen aA.out 2; have oC := blk_frozen aA.out 3; have pC := blk_frozen aA.out 4; have qC := blk_frozen aA.out 5; have rC := blk_frozen aA.out 6; have sC := blk_frozen aA.out 7; have tC := blk_frozen aA.out 8; have uC := blk_frozen aA.out 9))
   refine bodyPost_ret (results_cell_row rfl _ _ bA 23 #[.int .i64 a0, .int .i64 0, .int .i64 0, .int .i64 0, .int .i64 0, .int .i64 0, .int .i64 0, .int .i64 0, .int .i64 0, .bool false] (0, 0) _ rfl (by (with_reducible repeat (first | refine blk_drewN ?_ _ | refine blk_drew ?_ | refine blk_alloc ?_ _)); refine blk_put (cs := #[.int .i64 a0, .int .i64 0, .int .i64 0, .int .i64 0, .int .i64 0, .int .i64 0, .int .i64 0, .int .i64 0, .int .i64 0, .bool false]) ?_ 9 _ rfl; (with_reducible repeat (first | refine blk_drewN ?_ _ | refine blk_drew ?_ | refine blk_alloc ?_ _)); refine blk_put (cs := #[.int .i64 a0, .int .i64 0, .int .i64 0, .int .i64 0, .int .i64 0, .int .i64 0, .int .i64 0, .int .i64 0, .int .i64 0, .bool false]) ?_ 8 _ rfl; (with_reducible repeat (first | refine blk_drewN ?_ _ | refine blk_drew ?_ | refine blk_alloc ?_ _)); refine blk_put (cs := #[.int .i64 a0, .int .i64 0, .int .i64 0, .int .i64 0, .int .i64 0, .int .i64 0, .int .i64 0, .int .i64 0, .int .i64 0, .bool false]) ?_ 7 _ rfl; (with_reducible repeat (first | refine blk_drewN ?_ _ | refine blk_drew ?_ | refine blk_alloc ?_ _)); refine blk_put (cs := #[.int .i64 a0, .int .i64 0, .int .i64 0, .int .i64 0, .int .i64 0, .int .i64 0, .int .i64 0, .int .i64 0, .int .i64 0, .bool false]) ?_ 6 _ rfl; (with_reducible repeat (first | refine blk_drewN ?_ _ | refine blk_drew ?_ | refine blk_alloc ?_ _)); refine blk_put (cs := #[.int .i64 a0, .int .i64 0, .int .i64 0, .int .i64 0, .int .i64 0, .int .i64 0, .int .i64 0, .int .i64 0, .int .i64 0, .bool false]) ?_ 5 _ rfl; (with_reducible repeat (first | refine blk_drewN ?_ _ | refine blk_drew ?_ | refine blk_alloc ?_ _)); refine blk_put (cs := #[.int .i64 a0, .int .i64 0, .int .i64 0, .int .i64 0, .int .i64 0, .int .i64 0, .int .i64 0, .int .i64 0, .int .i64 0, .bool false]) ?_ 4 _ rfl; (with_reducible repeat (first | refine blk_drewN ?_ _ | refine blk_drew ?_ | refine blk_alloc ?_ _)); refine blk_put (cs := #[.int .i64 a0, .int .i64 0, .int .i64 0, .int .i64 0, .int .i64 0, .int .i64 0, .int .i64 0, .int .i64 0, .int .i64 0, .bool false]) ?_ 3 _ rfl; (with_reducible repeat (first | refine blk_drewN ?_ _ | refine blk_drew ?_ | refine blk_alloc ?_ _)); refine blk_put (cs := #[.int .i64 a0, .int .i64 0, .int .i64 0, .int .i64 0, .int .i64 0, .int .i64 0, .int .i64 0, .int .i64 0, .int .i64 0, .bool false]) ?_ 2 _ rfl; (with_reducible repeat (first | refine blk_drewN ?_ _ | refine blk_drew ?_ | refine blk_alloc ?_ _)); refine blk_put (cs := #[.int .i64 a0, .int .i64 0, .int .i64 0, .int .i64 0, .int .i64 0, .int .i64 0, .int .i64 0, .int .i64 0, .int .i64 0, .bool false]) ?_ 1 _ rfl; (with_reducible repeat (first | refine blk_drewN ?_ _ | refine blk_drew ?_ | refine blk_alloc ?_ _)); refine blk_put (cs := #[.int .i64 0, .int .i64 0, .int .i64 0, .int .i64 0, .int .i64 0, .int .i64 0, .int .i64 0, .int .i64 0, .int .i64 0, .bool false]) ?_ 0 _ rfl; (with_reducible repeat (first | refine blk_drewN ?_ _ | refine blk_drew ?_ | refine blk_alloc ?_ _)); exact aA.out) Try.underlying23 rfl (by kernel_rfl)) rfl ?_
   exact ⟨q1_9, q1_8⟩
  ·rw [if_neg c6] at H
   have FA : (a0 == 2) = false := beq_eq_false_iff_ne.mpr c6
   have GA : (a0 != 2) = true := bne_iff_ne.mpr c6
   simp only [Option.some.injEq, Prod.mk.injEq] at H
   obtain ⟨rfl, rfl, rfl, rfl, rfl, rfl, rfl, rfl, rfl, rfl⟩ := H
   go_enter Try.func16, Try.ntmps16
   go_wp2_with (first | ((with_reducible refine gate_dst (N := 4) rfl ?_); refine box_event ?hg (N := 4) ?hd (cs := #[.int .i64 0, .int .i64 0, .int .i64 0, .int .i64 0, .int .i64 0, .int .i64 0, .int .i64 0, .int .i64 0, .int .i64 0, .bool false]) (t := 23) ?hr ?_; (case hd => rfl); (case hg => rfl); (case hr => first | (go_simp; done) | (go_simp; rfl)); intro bA hg w9 hbox hb; have kA := Aside0.mk (below_step q1_0 hb); have lA := Aside0.mk (hbox); have oA := Aside0.mk ((q1_7 : w.heap.size ≤ bA)); have qA := Aside0.mk ((q1_7 : w.heap.size ≤ bA)); clear HB; have HB := kA; have aA := lA; have CA := oA; have uA := qA; clear kA lA oA qA; clear hb hbox hg; have ZA : w9.cell? ⟨bA, 0, none⟩ = some (.int .i64 0) := (blk_cell aA.out 0).trans rfl; have aB : w9.cell? ⟨bA, 1, none⟩ = some (.int .i64 0) := (blk_cell aA.out 1).trans rfl; have bB : w9.cell? ⟨bA, 2, none⟩ = some (.int .i64 0) := (blk_cell aA.out 2).trans rfl; have cB : w9.cell? ⟨bA, 3, none⟩ = some (.int .i64 0) := (blk_cell aA.out 3).trans rfl; have dB : w9.cell? ⟨bA, 4, none⟩ = some (.int .i64 0) := (blk_cell aA.out 4).trans rfl; have eB : w9.cell? ⟨bA, 5, none⟩ = some (.int .i64 0) := (blk_cell aA.out 5).trans rfl; have fB : w9.cell? ⟨bA, 6, none⟩ = some (.int .i64 0) := (blk_cell aA.out 6).trans rfl; have gB : w9.cell? ⟨bA, 7, none⟩ = some (.int .i64 0) := (blk_cell aA.out 7).trans rfl; have hB : w9.cell? ⟨bA, 8, none⟩ = some (.int .i64 0) := (blk_cell aA.out 8).trans rfl; have iB : w9.cell? ⟨bA, 9, none⟩ = some (.bool false) := (blk_cell aA.out 9).trans rfl; have jB := blk_frozen aA.out 0; have kB := blk_frozen aA.out 1; have lB := blk_frozen aA.out 2; have mB := blk_frozen aA.out 3; have nB := blk_frozen aA.out 4; have oB := blk_frozen aA.out 5; have pB := blk_frozen aA.out 6; have qB := blk_frozen aA.out 7; have rB := blk_frozen aA.out 8; have sB := blk_frozen aA.out 9))
   refine bodyPost_ret (results_cell_row rfl _ _ bA 23 #[.int .i64 0, .int .i64 0, .int .i64 0, .int .i64 0, .int .i64 0, .int .i64 0, .int .i64 0, .int .i64 0, .int .i64 0, .bool false] (0, 0) _ rfl (by (with_reducible repeat (first | refine blk_drewN ?_ _ | refine blk_drew ?_ | refine blk_alloc ?_ _)); refine blk_put (cs := #[.int .i64 0, .int .i64 0, .int .i64 0, .int .i64 0, .int .i64 0, .int .i64 0, .int .i64 0, .int .i64 0, .int .i64 0, .bool false]) ?_ 9 _ rfl; (with_reducible repeat (first | refine blk_drewN ?_ _ | refine blk_drew ?_ | refine blk_alloc ?_ _)); refine blk_put (cs := #[.int .i64 0, .int .i64 0, .int .i64 0, .int .i64 0, .int .i64 0, .int .i64 0, .int .i64 0, .int .i64 0, .int .i64 0, .bool false]) ?_ 8 _ rfl; (with_reducible repeat (first | refine blk_drewN ?_ _ | refine blk_drew ?_ | refine blk_alloc ?_ _)); refine blk_put (cs := #[.int .i64 0, .int .i64 0, .int .i64 0, .int .i64 0, .int .i64 0, .int .i64 0, .int .i64 0, .int .i64 0, .int .i64 0, .bool false]) ?_ 7 _ rfl; (with_reducible repeat (first | refine blk_drewN ?_ _ | refine blk_drew ?_ | refine blk_alloc ?_ _)); refine blk_put (cs := #[.int .i64 0, .int .i64 0, .int .i64 0, .int .i64 0, .int .i64 0, .int .i64 0, .int .i64 0, .int .i64 0, .int .i64 0, .bool false]) ?_ 6 _ rfl; (with_reducible repeat (first | refine blk_drewN ?_ _ | refine blk_drew ?_ | refine blk_alloc ?_ _)); refine blk_put (cs := #[.int .i64 0, .int .i64 0, .int .i64 0, .int .i64 0, .int .i64 0, .int .i64 0, .int .i64 0, .int .i64 0, .int .i64 0, .bool false]) ?_ 5 _ rfl; (with_reducible repeat (first | refine blk_drewN ?_ _ | refine blk_drew ?_ | refine blk_alloc ?_ _)); refine blk_put (cs := #[.int .i64 0, .int .i64 0, .int .i64 0, .int .i64 0, .int .i64 0, .int .i64 0, .int .i64 0, .int .i64 0, .int .i64 0, .bool false]) ?_ 4 _ rfl; (with_reducible repeat (first | refine blk_drewN ?_ _ | refine blk_drew ?_ | refine blk_alloc ?_ _)); refine blk_put (cs := #[.int .i64 0, .int .i64 0, .int .i64 0, .int .i64 0, .int .i64 0, .int .i64 0, .int .i64 0, .int .i64 0, .int .i64 0, .bool false]) ?_ 3 _ rfl; (with_reducible repeat (first | refine blk_drewN ?_ _ | refine blk_drew ?_ | refine blk_alloc ?_ _)); refine blk_put (cs := #[.int .i64 0, .int .i64 0, .int .i64 0, .int .i64 0, .int .i64 0, .int .i64 0, .int .i64 0, .int .i64 0, .int .i64 0, .bool false]) ?_ 2 _ rfl; (with_reducible repeat (first | refine blk_drewN ?_ _ | refine blk_drew ?_ | refine blk_alloc ?_ _)); refine blk_put (cs := #[.int .i64 0, .int .i64 0, .int .i64 0, .int .i64 0, .int .i64 0, .int .i64 0, .int .i64 0, .int .i64 0, .int .i64 0, .bool false]) ?_ 1 _ rfl; (with_reducible repeat (first | refine blk_drewN ?_ _ | refine blk_drew ?_ | refine blk_alloc ?_ _)); refine blk_put (cs := #[.int .i64 0, .int .i64 0, .int .i64 0, .int .i64 0, .int .i64 0, .int .i64 0, .int .i64 0, .int .i64 0, .int .i64 0, .bool false]) ?_ 0 _ rfl; (with_reducible repeat (first | refine blk_drewN ?_ _ | refine blk_drew ?_ | refine blk_alloc ?_ _)); exact aA.out) Try.underlying23 rfl (by kernel_rfl)) rfl ?_
   exact ⟨q1_9, q1_8⟩

/-! ### impl_within: function 51 -/
def impl_within.f (a0 : Int) (a1 : Int) (a2 : Int) : Option (Bool) := if a0 ≥ a1 then (some (decide (a0 ≤ a2))) else (some false)
set_option maxHeartbeats 8000000 in
set_option maxRecDepth 100000 in
theorem impl_within.calls (a0 : Int) (a1 : Int) (a2 : Int) (r : Bool) (w : World) (h : impl_within.f a0 a1 a2 = some r) :
  Calls Try.prog 51 #[.int .i64 a0, .int .i64 a1, .int .i64 a2] w fun e w' => e = .returned (.bool r) ∧ Drawn0 w w' := by
 have H : (if a0 ≥ a1 then (some (decide (a0 ≤ a2))) else (some false)) = some r := h
 clear h
 by_cases c4 : a0 ≥ a1
 ·rw [if_pos c4] at H
  have vC : decide (a1 ≤ a0) = true := decide_eq_true c4
  clear c4
  obtain rfl := Option.some.inj H
  go_enter Try.func51, Try.ntmps51
  go_wp2
  go_ret
  exact ⟨q1_6, q1_5⟩
 ·rw [if_neg c4] at H
  have vC : decide (a1 ≤ a0) = false := decide_eq_false c4
  clear c4
  obtain rfl := Option.some.inj H
  go_enter Try.func51, Try.ntmps51
  go_wp2
  go_ret
  exact ⟨q1_6, q1_5⟩

/-! ### impl_StNew: function 19 -/
def impl_StNew.l0 : Nat → Int → Int → List Int → Option (List Int × Bool)
 | 0, _, _, _ => none
 | k + 1, x17, x18, rA => if x18 < x17 then (if 0 ≤ x18 then (if x18 < (rA.length : Int) then (impl_StNew.l0 k x17 (wrap64 (x18 + 1)) (rA.set (x18 : Int).toNat (wrap64 (x18 + 1)))) else (none)) else (none)) else (some (rA, true))
def impl_StNew.f (k : Nat) (a0 : Int) (a1 : Bool) : Option (List Int × Bool) := (impl_within.f a0 1 16).bind fun vA => (if vA = true then (if 0 ≤ (wrap64 (1 + a0)) then (if (wrap64 (1 + a0) : Int).toNat ≤ 35184372088832 then ((some (List.replicate (wrap64 (1 + a0) : Int).toNat 0 : List Int)).bind fun y104 => (if a1 = true then (impl_StNew.l0 k a0 0 y104) else (some (y104, true)))) else (none)) else (none)) else (some (([] : List Int), false)))
theorem impl_StNew.mono_l : ∀ k, (∀ y0 y1 y2, LeO (impl_StNew.l0 k y0 y1 y2) (impl_StNew.l0 (k + 1) y0 y1 y2))
 | 0 => fun _ _ _ r h => by simp [impl_StNew.l0] at h
 | k + 1 => by
  have ih0 := impl_StNew.mono_l k
  ·intro y0 y1 y2
   unfold impl_StNew.l0
   repeat' first
   | (with_reducible exact ih0 _ _ _)
   | (with_reducible exact LeO.refl _)
   | (with_reducible exact LeO.none _)
   | (with_reducible refine LeO.ite ?_ ?_)
   | (with_reducible refine LeO.bind ?_ (fun _ => ?_))
   | exact ih0 _ _ _
   | exact LeO.none _
   | refine LeO.ite ?_ ?_
   | refine LeO.bind ?_ (fun _ => ?_)
theorem impl_StNew.mono : ∀ a0 a1 k, LeO (impl_StNew.f k a0 a1) (impl_StNew.f (k + 1) a0 a1) := by
 intro a0 a1 k
 have ih0 := impl_StNew.mono_l k
 unfold impl_StNew.f
 repeat' first
   | (with_reducible exact ih0 _ _ _)
   | (with_reducible exact LeO.refl _)
   | (with_reducible exact LeO.none _)
   | (with_reducible refine LeO.ite ?_ ?_)
   | (with_reducible refine LeO.bind ?_ (fun _ => ?_))
   | exact ih0 _ _ _
   | exact LeO.none _
   | refine LeO.ite ?_ ?_
   | refine LeO.bind ?_ (fun _ => ?_)
set_option maxHeartbeats 8000000 in
set_option maxRecDepth 100000 in
theorem impl_StNew.calls (k : Nat) (a0 : Int) (a1 : Bool) (r1 : List Int) (r2 : Bool) (w : World) (h : impl_StNew.f k a0 a1 = some (r1, r2)) :
  Calls Try.prog 19 #[.int .i64 a0, .bool a1] w fun e w' => ∃ v0_ : Value, e = .returned (.tuple #[.agg #[v0_], .bool r2]) ∧ Kd.R (Kd.int .i64) 3 w' w.heap.size (fun _ => True) v0_ r1 ∧ Below w.heap.size w w' := by
 have hu29 := Try.underlying29
 have HB := Aside0.mk (Below.refl w.heap.size w)
 have H : ((impl_within.f a0 1 16).bind fun vA => (if vA = true then (if 0 ≤ (wrap64 (1 + a0)) then (if (wrap64 (1 + a0) : Int).toNat ≤ 35184372088832 then ((some (List.replicate (wrap64 (1 + a0) : Int).toNat 0 : List Int)).bind fun y104 => (if a1 = true then (impl_StNew.l0 k a0 0 y104) else (some (y104, true)))) else (none)) else (none)) else (some (([] : List Int), false)))) = some (r1, r2) := h
 clear h
 replace H := Option.bind_eq_some_iff.mp H
 obtain ⟨vA, A30, H⟩ := H
 (try dsimp only at H)
 have A3 := Aside0.mk A30
 clear A30
 by_cases c4 : vA = true
 ·subst c4
  rw [if_pos rfl] at H
  obtain ⟨ji5, hji5⟩ : ∃ j_ : Int, (wrap64 (1 + a0)) = j_ := ⟨_, rfl⟩
  replace H : (if 0 ≤ (ji5) then (if (ji5 : Int).toNat ≤ 35184372088832 then ((some (List.replicate (ji5 : Int).toNat 0 : List Int)).bind fun y104 => (if a1 = true then (impl_StNew.l0 k a0 0 y104) else (some (y104, true)))) else (none)) else (none)) = some (r1, r2) := by first | (rw [hji5] at H; exact H) | (simp only [hji5] at H ⊢; exact H)
  (try rw [hji5] at A3)
  have hji5w : (IntKind.i64.wrap (1 + a0)) = ji5 := (i64_w _).trans hji5
  by_cases c6 : 0 ≤ (ji5)
  ·rw [if_pos c6] at H
   have FA := eq_true c6
   have GA : decide (0 ≤ (ji5)) = true := decide_eq_true c6
   clear c6
   by_cases c7 : (ji5 : Int).toNat ≤ 35184372088832
   ·rw [if_pos c7] at H
    have wC := eq_true c7
    have xC : decide ((ji5 : Int).toNat ≤ 35184372088832) = true := decide_eq_true c7
    clear c7
    obtain ⟨y104, hy104⟩ : ∃ y_ : List Int, y_ = (List.replicate (ji5 : Int).toNat 0) := ⟨_, rfl⟩
    replace H : (if a1 = true then (impl_StNew.l0 k a0 0 y104) else (some (y104, true))) = some (r1, r2) := by first | (rw [hy104]; with_reducible exact H) | (have H2_ := (Option.bind_some _ _).symm.trans H; rw [hy104]; with_reducible exact H2_) | (have H2_ := (Option.bind_some _ _).symm.trans H; with_reducible exact H2_) | with_reducible exact H | (rw [hy104]; exact H) | exact H
    have Ny104 := Aside0.mk hy104
    clear hy104
    by_cases c8 : a1 = true
    ·subst c8
     rw [if_pos rfl] at H
     have H' := Aside0.mk H
     clear H
     go_enter Try.func19, Try.ntmps19
     go_wp2_with (first | ((with_reducible refine gate_dst (N := 4) rfl ?_); refine box_event ?hg (N := 4) ?hd (cs := #[.slice none 0 0]) (t := 29) ?hr ?_; (case hd => rfl); (case hg => rfl); (case hr => first | (go_simp; done) | (go_simp; rfl)); intro cA hg w9 hbox hb; have kA := Aside0.mk (below_step q1_0 hb); have lA := Aside0.mk (hbox); have oA := Aside0.mk ((q1_7 : w.heap.size ≤ cA)); have qA := Aside0.mk ((q1_7 : w.heap.size ≤ cA)); clear HB; have HB := kA; have dA := lA; have DA := oA; have tA := qA; clear kA lA oA qA; clear hb hbox hg) | ((with_reducible refine gate_callee (f := 51) rfl ?_); refine goesL_ (some 9) rfl rfl Try.func51 (by kernel_rfl) rfl #[.int .i64 a0, .int .i64 1, .int .i64 16] rfl q1_3 ?_; (with_reducible refine (impl_within.calls a0 1 16 true _ A3.out).mono ?_); rintro e w' ⟨rfl, ⟨nd, rfl⟩⟩; refine ⟨_, rfl, ?_⟩; (try (rw [drewN_self w9]; generalize hq_ : World.drewN w9 _ = w9; have kA : Aside0 (w9.heap[cA]? = some (.cells #[.slice none 0 0] 29 (0, 0))) := ⟨by rw [← hq_]; exact q1_2⟩; have lA : Aside0 (Below w.heap.size w w9) := ⟨by rw [← hq_]; exact q1_1⟩; clear dA HB hq_; have dA := kA; have HB := lA; clear kA lA))) | ((with_reducible refine gate_dst (N := 14) rfl ?_); refine Kd.R_make (Kd.int .i64) _ 3 rfl (N := 14) rfl 27 _ _ rfl ji5 rfl rfl Try.underlying27 (.int .i64 0) 8 info3 rfl (by decide) (by omega) 0 (ok := fun _ => True) (okp := fun _ => True) rfl (fun _ hk => hk) trivial (of_decide_eq_true q1_11) (Nat.le_trans (Nat.mul_le_mul_right _ (of_decide_eq_true q1_11 : ji5.toNat ≤ 35184372088832)) (by omega)) (Below.refl _ _) (Nat.le_refl _) ?_; intro yC VC ho11 hb hg_ hnew_; clear hg_ hnew_; (first | rw [← Ny104.out] at ho11 | (simp only [Int.reduceToNat] at ho11; rw [← Ny104.out] at ho11)); have kA := Aside0.mk (Kd.R_lower ho11 (below_size q1_1)); have lA := Aside0.mk (blk_below (g := cA) (o := .cells #[.slice none 0 0] 29 (0, 0)) q1_2 hb); have oA := Aside0.mk (below_step q1_1 hb); clear dA HB; have nA := kA; have dA := lA; have HB := oA; clear kA lA oA; clear hb ho11; obtain ⟨MA, NA, zC⟩ := Kd.R_slice nA.out; subst zC) | ((with_reducible refine gate_dst (N := 6) rfl ?_); refine box_event ?hg (N := 6) ?hd (cs := #[.slice none 0 0]) (t := 29) ?hr ?_; (case hd => rfl); (case hg => rfl); (case hr => first | (go_simp; done) | (go_simp; rfl)); intro jA hg UC hbox hb; have kA := Aside0.mk (Kd.R_below (by (with_reducible repeat (first | apply Kd.R_alloc | apply Kd.R_drewN | apply Kd.R_drew)); exact nA.out) hb); have lA := Aside0.mk (blk_below (g := cA) (o := .cells #[.slice none 0 0] 29 (0, 0)) q1_2 hb); have oA := Aside0.mk (below_step q1_1 hb); have qA := Aside0.mk (hbox); have OA := Aside0.mk ((by rw [hg]; exact (below_size q1_1) : w.heap.size ≤ jA)); have PA := Aside0.mk ((by rw [hg]; exact (below_size q1_1) : w.heap.size ≤ jA)); have QA := Aside0.mk ((by rw [hg]; exact Nat.ne_of_lt (blk_lt (g := cA) (o := .cells #[.slice none 0 0] 29 (0, 0)) q1_2) : cA ≠ jA)); have RA := Aside0.mk ((by rw [hg]; exact Nat.ne_of_gt (blk_lt (g := cA) (o := .cells #[.slice none 0 0] 29 (0, 0)) q1_2) : jA ≠ cA)); clear nA dA HB; have nA := kA; have dA := lA; have HB := oA; have hA := qA; have SA := OA; have BA := PA; have iA := QA; have mA := RA; clear kA lA oA qA OA PA QA RA; clear hb hbox hg; have JC := mA.out; have KC := iA.out; have zA : UC.cell? ⟨jA, 0, none⟩ = some (.slice none 0 0) := (blk_cell hA.out 0).trans rfl; have AA := blk_frozen hA.out 0))
     go_loopg [18] k (fun kq v18 w' => ∃ (gA : Int) (eA : List Int) (pA : Value), v18 = .int .i64 gA ∧ Aside0 (impl_StNew.l0 kq a0 gA eA = some (r1, r2)) ∧ Aside0 (kq ≤ k) ∧ Aside0 (Kd.R (Kd.int .i64) 3 w' w.heap.size (fun _ => True) pA eA) ∧ Aside0 (w'.heap[cA]? = some (.cells #[(.slice none 0 0)] 29 (0, 0))) ∧ Aside0 (w'.heap[jA]? = some (.cells #[pA] 29 (0, 0))) ∧ Aside0 (Below w.heap.size w w'))
     case atStart => exact ⟨(0), (y104), (.slice MA y104.length NA), q1_6, H', ⟨Nat.le_refl _⟩, ⟨by (with_reducible repeat (first | apply Kd.R_alloc | apply Kd.R_drewN | apply Kd.R_drew)); exact Kd.R_mono (Kd.R_far (p := ⟨jA, 0, none⟩) (Kd.R_types nA.out hA.out (by decide)) (fun _ hk => hk.2) (.slice MA y104.length NA)) (fun _ hk => trivial)⟩, ⟨by (with_reducible repeat (first | refine blk_drewN ?_ _ | refine blk_drew ?_ | refine blk_alloc ?_ _)); refine blk_far ?_ iA.out _; (with_reducible repeat (first | refine blk_drewN ?_ _ | refine blk_drew ?_ | refine blk_alloc ?_ _)); exact dA.out⟩, ⟨by (with_reducible repeat (first | refine blk_drewN ?_ _ | refine blk_drew ?_ | refine blk_alloc ?_ _)); refine blk_put (cs := #[.slice none 0 0]) ?_ 0 _ rfl; (with_reducible repeat (first | refine blk_drewN ?_ _ | refine blk_drew ?_ | refine blk_alloc ?_ _)); exact hA.out⟩, ⟨q1_4⟩⟩
     case round =>
      clear H'
      (try clear c1); (try clear p2); (try clear c4); (try clear c5); (try clear c6); (try clear FA); (try clear GA); (try clear p6); (try clear c7); (try clear wC); (try clear xC); (try clear c8); (try clear c14); (try clear zA); (try clear AA)
      obtain ⟨gA, eA, pA, rfl, HA, HK1, fA, dA, hA, HB⟩ := hrel
      cases gk with
      | zero => exact absurd HA.out (by simp [impl_StNew.l0])
      | succ k1 =>
       have H := HA.out
       clear HA
       simp only [impl_StNew.l0] at H
       by_cases c16 : gA < a0
       ·rw [if_pos c16] at H
        have TA : decide (gA < a0) = true := decide_eq_true c16
        clear c16
        by_cases c17 : 0 ≤ gA
        ·rw [if_pos c17] at H
         have LC : decide (0 ≤ gA) = true := decide_eq_true c17
         clear c17
         by_cases c18 : gA < (eA.length : Int)
         ·rw [if_pos c18] at H
          have MC : decide (gA < (eA.length : Int)) = true := decide_eq_true c18
          clear c18
          obtain ⟨y108, hy108⟩ : ∃ y_ : List Int, y_ = (eA.set (gA : Int).toNat (wrap64 (gA + 1))) := ⟨_, rfl⟩
          replace H : (impl_StNew.l0 k1 a0 (wrap64 (gA + 1)) y108) = some (r1, r2) := by first | (rw [hy108]; with_reducible exact H) | (have H2_ := (Option.bind_some _ _).symm.trans H; rw [hy108]; with_reducible exact H2_) | (have H2_ := (Option.bind_some _ _).symm.trans H; with_reducible exact H2_) | with_reducible exact H | (rw [hy108]; exact H) | exact H
          have Ny108 := Aside0.mk hy108
          clear hy108
          have H' := Aside0.mk H
          clear H
          have NC := mA.out
          have OC := iA.out
          have tB : wr.cell? ⟨jA, 0, none⟩ = some (pA) := (blk_cell hA.out 0).trans rfl
          have uB := blk_frozen hA.out 0
          have p19 : 0 ≤ (gA : Int) := of_decide_eq_true q1_11
          have q19 : (gA : Int) < ((eA.length : Int) : Int) := of_decide_eq_true q1_11
          obtain ⟨go19, IA, UA, VA, gl19, cl19, HG19⟩ := Kd.R_form fA.out (by omega)
          (first | cases UA | (injection UA with ea_ en_ ec_; (first | subst ea_ | (injection ea_ with ea_; subst ea_)); subst ec_; clear en_))
          have GB19 := Aside0.mk VA
          have GG19 := Aside0.mk HG19
          clear VA gl19 HG19
          obtain ⟨AC, BC⟩ := Kd.R_celln 0 fA.out (gA : Int) p19 q19
          replace p19 := eq_true p19
          replace q19 := eq_true q19
          have HP22 := Kd.R_putg fA.out (gA : Int) (wrap64 (gA + 1))
          go_wp2_with (first | ((with_reducible refine gate_store (t := 3) (p := 26) rfl ?_); refine store_event (t := 3) (p := 26) (v := ?vo_w23) (w1 := (wr.setCell ⟨go19, (gA : Int).toNat, none⟩ (.int .i64 (wrap64 (gA + 1))))) ?hg ?ho ?hn ?hr ?_; (case ho => rfl); (case hg => rfl); (case hn => rfl); (case hr => first | (go_simp; done) | (go_simp; rfl)); intro CC hw; have hg : wr.grownBy CC (some go19) := (by rw [hw]; exact HP22.2); have hp_ : Kd.R (Kd.int .i64) 3 CC w.heap.size (fun _ => True) (.slice (some ⟨go19, 0, none⟩) eA.length IA) y108 := (by rw [hw, Ny108.out]; exact HP22.1); clear HP22; have kA := Aside0.mk (hp_); have lA := Aside0.mk (blk_grown (g := cA) (o := .cells #[.slice none 0 0] 29 (0, 0)) q1_2 hg (Kd.R_ne fA.out dA.out (by decide))); have oA := Aside0.mk (blk_grown (g := jA) (o := .cells #[.slice (some ⟨go19, 0, none⟩) eA.length IA] 29 (0, 0)) (by (with_reducible repeat (first | refine blk_drewN ?_ _ | refine blk_drew ?_ | refine blk_alloc ?_ _)); exact hA.out) hg (Kd.R_ne fA.out hA.out (by decide))); have qA := Aside0.mk ((by rw [hw]; exact below_set (HB.out) GB19.out : Below w.heap.size w CC)); clear fA dA hA HB; have fA := kA; have dA := lA; have hA := oA; have HB := qA; clear kA lA oA qA; clear hg hw hp_))
          go_roundg k1
          case measure => have := HK1.out; omega
          case rel => exact ⟨(wrap64 (gA + 1)), (y108), (.slice (some ⟨go19, 0, none⟩) eA.length IA), q1_6, H', ⟨by have := HK1.out; omega⟩, ⟨by (with_reducible repeat (first | apply Kd.R_alloc | apply Kd.R_drewN | apply Kd.R_drew)); exact fA.out⟩, ⟨q1_2⟩, ⟨by (with_reducible repeat (first | refine blk_drewN ?_ _ | refine blk_drew ?_ | refine blk_alloc ?_ _)); exact hA.out⟩, ⟨q1_4⟩⟩
         ·rw [if_neg c18] at H
          exact absurd H (by simp)
        ·rw [if_neg c17] at H
         exact absurd H (by simp)
       ·rw [if_neg c16] at H
        have TA : decide (gA < a0) = false := decide_eq_false c16
        clear c16
        simp only [Option.some.injEq, Prod.mk.injEq] at H
        obtain ⟨rfl, rfl⟩ := H
        have PC := mA.out
        have QC := iA.out
        have vB : wr.cell? ⟨jA, 0, none⟩ = some (pA) := (blk_cell hA.out 0).trans rfl
        have wB := blk_frozen hA.out 0
        obtain ⟨WA, XA, DC⟩ := Kd.R_slice fA.out
        subst DC
        have xB : wr.cell? ⟨cA, 0, none⟩ = some (.slice none 0 0) := (blk_cell dA.out 0).trans rfl
        have yB := blk_frozen dA.out 0
        go_wp2
        refine bodyPost_ret (results_ct rfl _ _ cA 29 #[.slice WA eA.length XA] (0, 0) _ rfl q1_10 Try.underlying29 rfl (by kernel_rfl)) rfl ?_
        exact ⟨_, by first | rfl | (simp [errW_none, errW_some] <;> rfl) | (simp only [← hji5]; first | rfl | (simp [errW_none, errW_some] <;> rfl)) | (simp [*, errW_none, errW_some] <;> rfl), by (with_reducible repeat (first | apply Kd.R_alloc | apply Kd.R_drewN | apply Kd.R_drew)); exact Kd.R_mono (Kd.R_far (p := ⟨cA, 0, none⟩) (Kd.R_types fA.out dA.out (by decide)) (fun _ hk => hk.2) (.slice WA eA.length XA)) (fun _ hk => trivial), q1_4⟩
    ·replace c8 := Bool.eq_false_iff.mpr c8
     subst c8
     rw [if_neg (show ¬ (false = true) by decide)] at H
     simp only [Option.some.injEq, Prod.mk.injEq] at H
     obtain ⟨rfl, rfl⟩ := H
     go_enter Try.func19, Try.ntmps19
     go_wp2_with (first | ((with_reducible refine gate_dst (N := 4) rfl ?_); refine box_event ?hg (N := 4) ?hd (cs := #[.slice none 0 0]) (t := 29) ?hr ?_; (case hd => rfl); (case hg => rfl); (case hr => first | (go_simp; done) | (go_simp; rfl)); intro cA hg YA hbox hb; have kA := Aside0.mk (below_step q1_0 hb); have lA := Aside0.mk (hbox); have oA := Aside0.mk ((q1_7 : w.heap.size ≤ cA)); have qA := Aside0.mk ((q1_7 : w.heap.size ≤ cA)); clear HB; have HB := kA; have dA := lA; have DA := oA; have tA := qA; clear kA lA oA qA; clear hb hbox hg) | ((with_reducible refine gate_callee (f := 51) rfl ?_); refine goesL_ (some 9) rfl rfl Try.func51 (by kernel_rfl) rfl #[.int .i64 a0, .int .i64 1, .int .i64 16] rfl q1_3 ?_; (with_reducible refine (impl_within.calls a0 1 16 true _ A3.out).mono ?_); rintro e w' ⟨rfl, ⟨nd, rfl⟩⟩; refine ⟨_, rfl, ?_⟩; (try (rw [drewN_self YA]; generalize hq_ : World.drewN YA _ = YA; have kA : Aside0 (YA.heap[cA]? = some (.cells #[.slice none 0 0] 29 (0, 0))) := ⟨by rw [← hq_]; exact q1_2⟩; have lA : Aside0 (Below w.heap.size w YA) := ⟨by rw [← hq_]; exact q1_1⟩; clear dA HB hq_; have dA := kA; have HB := lA; clear kA lA))) | ((with_reducible refine gate_dst (N := 14) rfl ?_); refine Kd.R_make (Kd.int .i64) _ 3 rfl (N := 14) rfl 27 _ _ rfl ji5 rfl rfl Try.underlying27 (.int .i64 0) 8 info3 rfl (by decide) (by omega) 0 (ok := fun _ => True) (okp := fun _ => True) rfl (fun _ hk => hk) trivial (of_decide_eq_true q1_11) (Nat.le_trans (Nat.mul_le_mul_right _ (of_decide_eq_true q1_11 : ji5.toNat ≤ 35184372088832)) (by omega)) (Below.refl _ _) (Nat.le_refl _) ?_; intro yC WC ho30 hb hg_ hnew_; clear hg_ hnew_; (first | rw [← Ny104.out] at ho30 | (simp only [Int.reduceToNat] at ho30; rw [← Ny104.out] at ho30)); have kA := Aside0.mk (Kd.R_lower ho30 (below_size q1_1)); have lA := Aside0.mk (blk_below (g := cA) (o := .cells #[.slice none 0 0] 29 (0, 0)) q1_2 hb); have oA := Aside0.mk (below_step q1_1 hb); clear dA HB; have nA := kA; have dA := lA; have HB := oA; clear kA lA oA; clear hb ho30; obtain ⟨JA, KA, EC⟩ := Kd.R_slice nA.out; subst EC) | ((with_reducible refine gate_dst (N := 6) rfl ?_); refine box_event ?hg (N := 6) ?hd (cs := #[.slice none 0 0]) (t := 29) ?hr ?_; (case hd => rfl); (case hg => rfl); (case hr => first | (go_simp; done) | (go_simp; rfl)); intro jA hg RC hbox hb; have kA := Aside0.mk (Kd.R_below (by (with_reducible repeat (first | apply Kd.R_alloc | apply Kd.R_drewN | apply Kd.R_drew)); exact nA.out) hb); have lA := Aside0.mk (blk_below (g := cA) (o := .cells #[.slice none 0 0] 29 (0, 0)) q1_2 hb); have oA := Aside0.mk (below_step q1_1 hb); have qA := Aside0.mk (hbox); have OA := Aside0.mk ((by rw [hg]; exact (below_size q1_1) : w.heap.size ≤ jA)); have PA := Aside0.mk ((by rw [hg]; exact (below_size q1_1) : w.heap.size ≤ jA)); have QA := Aside0.mk ((by rw [hg]; exact Nat.ne_of_lt (blk_lt (g := cA) (o := .cells #[.slice none 0 0] 29 (0, 0)) q1_2) : cA ≠ jA)); have RA := Aside0.mk ((by rw [hg]; exact Nat.ne_of_gt (blk_lt (g := cA) (o := .cells #[.slice none 0 0] 29 (0, 0)) q1_2) : jA ≠ cA)); clear nA dA HB; have nA := kA; have dA := lA; have HB := oA; have hA := qA; have SA := OA; have BA := PA; have iA := QA; have mA := RA; clear kA lA oA qA OA PA QA RA; clear hb hbox hg; have SC := mA.out; have TC := iA.out; have zB : RC.cell? ⟨jA, 0, none⟩ = some (.slice none 0 0) := (blk_cell hA.out 0).trans rfl; have AB := blk_frozen hA.out 0; have BB : RC.cell? ⟨cA, 0, none⟩ = some (.slice none 0 0) := (blk_cell dA.out 0).trans rfl; have CB := blk_frozen dA.out 0))
     refine bodyPost_ret (results_ct rfl _ _ cA 29 #[.slice JA y104.length KA] (0, 0) _ rfl (by (with_reducible repeat (first | refine blk_drewN ?_ _ | refine blk_drew ?_ | refine blk_alloc ?_ _)); refine blk_put (cs := #[.slice none 0 0]) ?_ 0 _ rfl; (with_reducible repeat (first | refine blk_drewN ?_ _ | refine blk_drew ?_ | refine blk_alloc ?_ _)); refine blk_far ?_ iA.out _; (with_reducible repeat (first | refine blk_drewN ?_ _ | refine blk_drew ?_ | refine blk_alloc ?_ _)); exact dA.out) Try.underlying29 rfl (by kernel_rfl)) rfl ?_
     exact ⟨_, by first | rfl | (simp [errW_none, errW_some] <;> rfl) | (simp only [← hji5]; first | rfl | (simp [errW_none, errW_some] <;> rfl)) | (simp [*, errW_none, errW_some] <;> rfl), by (with_reducible repeat (first | apply Kd.R_alloc | apply Kd.R_drewN | apply Kd.R_drew)); exact Kd.R_mono (Kd.R_far (p := ⟨cA, 0, none⟩) (Kd.R_far (p := ⟨jA, 0, none⟩) (Kd.R_types (Kd.R_types nA.out hA.out (by decide)) dA.out (by decide)) (fun _ hk => hk.1.2) (.slice JA y104.length KA)) (fun _ hk => hk.2) (.slice JA y104.length KA)) (fun _ hk => trivial), q1_4⟩
   ·rw [if_neg c7] at H
    exact absurd H (by simp)
  ·rw [if_neg c6] at H
   exact absurd H (by simp)
 ·replace c4 := Bool.eq_false_iff.mpr c4
  subst c4
  rw [if_neg (show ¬ (false = true) by decide)] at H
  simp only [Option.some.injEq, Prod.mk.injEq] at H
  obtain ⟨rfl, rfl⟩ := H
  go_enter Try.func19, Try.ntmps19
  go_wp2_with (first | ((with_reducible refine gate_dst (N := 4) rfl ?_); refine box_event ?hg (N := 4) ?hd (cs := #[.slice none 0 0]) (t := 29) ?hr ?_; (case hd => rfl); (case hg => rfl); (case hr => first | (go_simp; done) | (go_simp; rfl)); intro cA hg LA hbox hb; have kA := Aside0.mk (below_step q1_0 hb); have lA := Aside0.mk (hbox); have oA := Aside0.mk ((q1_7 : w.heap.size ≤ cA)); have qA := Aside0.mk ((q1_7 : w.heap.size ≤ cA)); clear HB; have HB := kA; have dA := lA; have DA := oA; have tA := qA; clear kA lA oA qA; clear hb hbox hg) | ((with_reducible refine gate_callee (f := 51) rfl ?_); refine goesL_ (some 9) rfl rfl Try.func51 (by kernel_rfl) rfl #[.int .i64 a0, .int .i64 1, .int .i64 16] rfl q1_3 ?_; (with_reducible refine (impl_within.calls a0 1 16 false _ A3.out).mono ?_); rintro e w' ⟨rfl, ⟨nd, rfl⟩⟩; refine ⟨_, rfl, ?_⟩; (try (rw [drewN_self LA]; generalize hq_ : World.drewN LA _ = LA; have kA : Aside0 (LA.heap[cA]? = some (.cells #[.slice none 0 0] 29 (0, 0))) := ⟨by rw [← hq_]; exact q1_2⟩; have lA : Aside0 (Below w.heap.size w LA) := ⟨by rw [← hq_]; exact q1_1⟩; clear dA HB hq_; have dA := kA; have HB := lA; clear kA lA)); have DB : LA.cell? ⟨cA, 0, none⟩ = some (.slice none 0 0) := (blk_cell dA.out 0).trans rfl; have EB := blk_frozen dA.out 0))
  refine bodyPost_ret (results_ct rfl _ _ cA 29 #[.slice none 0 0] (0, 0) _ rfl q1_10 Try.underlying29 rfl (by kernel_rfl)) rfl ?_
  exact ⟨_, q1_9, by first | exact Kd.R_nil _ _ _ _ _ | exact Kd.N_nil _ _ _ _ _ | exact Kd.V_nil _ _ _ _ _ | exact Kd.Q_nil _ _ _ _ _ | exact Kd.S_nil _ _ _ _ _, q1_1⟩

/-! ### impl_Unpack: function 73 -/
def impl_Unpack.f (a0 : Int) : Option (Int × Int × Bool) := if a0 < 0 then (some (0, 0, false)) else (if (wrap64 (Int.tdiv a0 1048576)) > 1073741823 then (some (0, 0, false)) else (some (wrap64 (Int.tdiv a0 1048576), Int.tmod a0 1048576, true)))
set_option maxHeartbeats 8000000 in
set_option maxRecDepth 100000 in
theorem impl_Unpack.calls (a0 : Int) (r1 : Int) (r2 : Int) (r3 : Bool) (w : World) (h : impl_Unpack.f a0 = some (r1, r2, r3)) :
  Calls Try.prog 73 #[.int .i64 a0] w fun e w' => e = .returned (.tuple #[.int .i64 r1, .int .i64 r2, .bool r3]) ∧ Drawn0 w w' := by
 have H : (if a0 < 0 then (some (0, 0, false)) else (if (wrap64 (Int.tdiv a0 1048576)) > 1073741823 then (some (0, 0, false)) else (some (wrap64 (Int.tdiv a0 1048576), Int.tmod a0 1048576, true)))) = some (r1, r2, r3) := h
 clear h
 by_cases c2 : a0 < 0
 ·rw [if_pos c2] at H
  have FC : decide (a0 < 0) = true := decide_eq_true c2
  clear c2
  simp only [Option.some.injEq, Prod.mk.injEq] at H
  obtain ⟨rfl, rfl, rfl⟩ := H
  go_enter Try.func73, Try.ntmps73
  go_wp2
  go_ret3
  exact ⟨q1_6, q1_5⟩
 ·rw [if_neg c2] at H
  have FC : decide (a0 < 0) = false := decide_eq_false c2
  clear c2
  by_cases c3 : (wrap64 (Int.tdiv a0 1048576)) > 1073741823
  ·rw [if_pos c3] at H
   have EA : decide (1073741823 < (wrap64 (Int.tdiv a0 1048576))) = true := decide_eq_true c3
   clear c3
   simp only [Option.some.injEq, Prod.mk.injEq] at H
   obtain ⟨rfl, rfl, rfl⟩ := H
   go_enter Try.func73, Try.ntmps73
   go_wp2
   go_ret3
   exact ⟨q1_6, q1_5⟩
  ·rw [if_neg c3] at H
   have EA : decide (1073741823 < (wrap64 (Int.tdiv a0 1048576))) = false := decide_eq_false c3
   clear c3
   simp only [Option.some.injEq, Prod.mk.injEq] at H
   obtain ⟨rfl, rfl, rfl⟩ := H
   go_enter Try.func73, Try.ntmps73
   go_wp2
   go_ret3
   exact ⟨q1_6, q1_5⟩

/-! ### impl_top: function 60 -/
def impl_top.f (a0 : Int) : Option (Int × Int) := (impl_Unpack.f a0).bind fun sA => (some (wrap64 (sA.2.1 - 1), sA.1))
set_option maxHeartbeats 8000000 in
set_option maxRecDepth 100000 in
theorem impl_top.calls (a0 : Int) (r1 : Int) (r2 : Int) (w : World) (h : impl_top.f a0 = some (r1, r2)) :
  Calls Try.prog 60 #[.int .i64 a0] w fun e w' => e = .returned (.tuple #[.int .i64 r1, .int .i64 r2]) ∧ Drawn0 w w' := by
 have H : ((impl_Unpack.f a0).bind fun sA => (some (wrap64 (sA.2.1 - 1), sA.1))) = some (r1, r2) := h
 clear h
 replace H := Option.bind_eq_some_iff.mp H
 obtain ⟨⟨GC, HC, IC⟩, A20, H⟩ := H
 (try dsimp only at H)
 have A2 := Aside0.mk A20
 clear A20
 simp only [Option.some.injEq, Prod.mk.injEq] at H
 obtain ⟨rfl, rfl⟩ := H
 go_enter Try.func60, Try.ntmps60
 go_wp2_with (first | ((with_reducible refine gate_callee (f := 73) rfl ?_); refine goesL_ (some 9) rfl rfl Try.func73 (by kernel_rfl) rfl #[.int .i64 a0] rfl q1_3 ?_; (with_reducible refine (impl_Unpack.calls a0 GC HC IC _ A2.out).mono ?_); rintro e w' ⟨rfl, ⟨nd, rfl⟩⟩; refine ⟨_, rfl, ?_⟩))
 go_ret2
 exact ⟨q1_6, q1_5⟩

/-! ### impl_Pack: function 61 -/
def impl_Pack.f (a0 : Int) (a1 : Int) : Option (Int × Bool) := (impl_within.f a0 0 1073741823).bind fun wA => (if wA = true then ((impl_within.f a1 0 1048575).bind fun xA => (if xA = true then (some (wrap64 ((wrap64 (a0 * 1048576)) + a1), true)) else (some (0, false)))) else (some (0, false)))
set_option maxHeartbeats 8000000 in
set_option maxRecDepth 100000 in
theorem impl_Pack.calls (a0 : Int) (a1 : Int) (r1 : Int) (r2 : Bool) (w : World) (h : impl_Pack.f a0 a1 = some (r1, r2)) :
  Calls Try.prog 61 #[.int .i64 a0, .int .i64 a1] w fun e w' => e = .returned (.tuple #[.int .i64 r1, .bool r2]) ∧ Drawn0 w w' := by
 have H : ((impl_within.f a0 0 1073741823).bind fun wA => (if wA = true then ((impl_within.f a1 0 1048575).bind fun xA => (if xA = true then (some (wrap64 ((wrap64 (a0 * 1048576)) + a1), true)) else (some (0, false)))) else (some (0, false)))) = some (r1, r2) := h
 clear h
 replace H := Option.bind_eq_some_iff.mp H
 obtain ⟨wA, A30, H⟩ := H
 (try dsimp only at H)
 have A3 := Aside0.mk A30
 clear A30
 by_cases c4 : wA = true
 ·subst c4
  rw [if_pos rfl] at H
  replace H := Option.bind_eq_some_iff.mp H
  obtain ⟨xA, A50, H⟩ := H
  (try dsimp only at H)
  have A5 := Aside0.mk A50
  clear A50
  by_cases c6 : xA = true
  ·subst c6
   rw [if_pos rfl] at H
   simp only [Option.some.injEq, Prod.mk.injEq] at H
   obtain ⟨rfl, rfl⟩ := H
   go_enter Try.func61, Try.ntmps61
   go_wp2_with (first | ((with_reducible refine gate_callee (f := 51) rfl ?_); refine goesL_ (some 7) rfl rfl Try.func51 (by kernel_rfl) rfl #[.int .i64 a0, .int .i64 0, .int .i64 1073741823] rfl q1_3 ?_; (with_reducible refine (impl_within.calls a0 0 1073741823 true _ A3.out).mono ?_); rintro e w' ⟨rfl, ⟨nd, rfl⟩⟩; refine ⟨_, rfl, ?_⟩) | (go_at_call 51; (with_reducible refine (impl_within.calls a1 0 1048575 true _ A5.out).mono ?_); rintro e w' ⟨rfl, ⟨nd, rfl⟩⟩))
   go_ret2
   exact ⟨q1_6, q1_5⟩
  ·replace c6 := Bool.eq_false_iff.mpr c6
   subst c6
   rw [if_neg (show ¬ (false = true) by decide)] at H
   simp only [Option.some.injEq, Prod.mk.injEq] at H
   obtain ⟨rfl, rfl⟩ := H
   go_enter Try.func61, Try.ntmps61
   go_wp2_with (first | ((with_reducible refine gate_callee (f := 51) rfl ?_); refine goesL_ (some 7) rfl rfl Try.func51 (by kernel_rfl) rfl #[.int .i64 a0, .int .i64 0, .int .i64 1073741823] rfl q1_3 ?_; (with_reducible refine (impl_within.calls a0 0 1073741823 true _ A3.out).mono ?_); rintro e w' ⟨rfl, ⟨nd, rfl⟩⟩; refine ⟨_, rfl, ?_⟩) | (go_at_call 51; (with_reducible refine (impl_within.calls a1 0 1048575 false _ A5.out).mono ?_); rintro e w' ⟨rfl, ⟨nd, rfl⟩⟩))
   go_ret2
   exact ⟨q1_6, q1_5⟩
 ·replace c4 := Bool.eq_false_iff.mpr c4
  subst c4
  rw [if_neg (show ¬ (false = true) by decide)] at H
  simp only [Option.some.injEq, Prod.mk.injEq] at H
  obtain ⟨rfl, rfl⟩ := H
  go_enter Try.func61, Try.ntmps61
  go_wp2_with (first | ((with_reducible refine gate_callee (f := 51) rfl ?_); refine goesL_ (some 7) rfl rfl Try.func51 (by kernel_rfl) rfl #[.int .i64 a0, .int .i64 0, .int .i64 1073741823] rfl q1_3 ?_; (with_reducible refine (impl_within.calls a0 0 1073741823 false _ A3.out).mono ?_); rintro e w' ⟨rfl, ⟨nd, rfl⟩⟩; refine ⟨_, rfl, ?_⟩))
  go_ret2
  exact ⟨q1_6, q1_5⟩

/-! ### impl_NextTag: function 62 -/
def impl_NextTag.f (a0 : Int) : Option (Int) := (impl_within.f a0 0 1073741822).bind fun yA => (if yA = true then (some (wrap64 (a0 + 1))) else (some 0))
set_option maxHeartbeats 8000000 in
set_option maxRecDepth 100000 in
theorem impl_NextTag.calls (a0 : Int) (r : Int) (w : World) (h : impl_NextTag.f a0 = some r) :
  Calls Try.prog 62 #[.int .i64 a0] w fun e w' => e = .returned (.int .i64 r) ∧ Drawn0 w w' := by
 have H : ((impl_within.f a0 0 1073741822).bind fun yA => (if yA = true then (some (wrap64 (a0 + 1))) else (some 0))) = some r := h
 clear h
 replace H := Option.bind_eq_some_iff.mp H
 obtain ⟨yA, A20, H⟩ := H
 (try dsimp only at H)
 have A2 := Aside0.mk A20
 clear A20
 by_cases c3 : yA = true
 ·subst c3
  rw [if_pos rfl] at H
  obtain rfl := Option.some.inj H
  go_enter Try.func62, Try.ntmps62
  go_wp2_with (first | ((with_reducible refine gate_callee (f := 51) rfl ?_); refine goesL_ (some 4) rfl rfl Try.func51 (by kernel_rfl) rfl #[.int .i64 a0, .int .i64 0, .int .i64 1073741822] rfl q1_3 ?_; (with_reducible refine (impl_within.calls a0 0 1073741822 true _ A2.out).mono ?_); rintro e w' ⟨rfl, ⟨nd, rfl⟩⟩; refine ⟨_, rfl, ?_⟩))
  go_ret
  exact ⟨q1_6, q1_5⟩
 ·replace c3 := Bool.eq_false_iff.mpr c3
  subst c3
  rw [if_neg (show ¬ (false = true) by decide)] at H
  obtain rfl := Option.some.inj H
  go_enter Try.func62, Try.ntmps62
  go_wp2_with (first | ((with_reducible refine gate_callee (f := 51) rfl ?_); refine goesL_ (some 4) rfl rfl Try.func51 (by kernel_rfl) rfl #[.int .i64 a0, .int .i64 0, .int .i64 1073741822] rfl q1_3 ?_; (with_reducible refine (impl_within.calls a0 0 1073741822 false _ A2.out).mono ?_); rintro e w' ⟨rfl, ⟨nd, rfl⟩⟩; refine ⟨_, rfl, ?_⟩))
  go_ret
  exact ⟨q1_6, q1_5⟩

end Go.Proofs.Ytfahmmlkcmadeaa.PFnStackOne
