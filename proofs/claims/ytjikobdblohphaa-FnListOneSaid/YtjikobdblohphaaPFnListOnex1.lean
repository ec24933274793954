-- Written by the session's own patched copy of the printer (wip/patch_print.py).
import Derived.Test.YtjikobdblohphaaPFnListOnex0
namespace Go.Proofs.Ytjikobdblohphaa.PFnListOne
open Go.RowKit Go.Proofs.YtjikobdblohphaaW.PrintWords Go.Proofs.YtjikobdblohphaaW.PrintLast Go.Proofs.YtjikobdblohphaaW.PrintMore
attribute [local go_sem] max2_int min2_int max_two min_two max_three min_three max_four min_four   -- for this text's walks alone
set_option linter.unusedVariables false
set_option linter.unusedSimpArgs false

theorem Z1b {w : World} {g : Nat} {t : TypeId} {cs : Array Value} (h : w.heap[g]? = some (.cells cs t (0, 0))) (i : Nat) (v : Value) (e : cs[i]? = some v := by rfl) : w.cell? ⟨g, i, none⟩ = some v := (blk_cell h i).trans e
theorem Z1c {p : Prop} (h : p) : Aside0 p := ⟨h⟩
theorem Z1a {w : World} {g : Nat} {t : TypeId} {cs : Array Value} (h : w.heap[g]? = some (.cells cs t (0, 0))) (i : Nat) : w.frozen? ⟨g, i, none⟩ = false := blk_frozen h i
theorem Z1n {p : Prop} (h : p := by (with_reducible repeat (first | refine blk_drewN ?_ _ | refine blk_drew ?_ | refine blk_alloc ?_ _)); refine blk_put (cs := #[.int .i64 a0, .int .i64 a1, .int .i64 0, .int .i64 0, .int .i64 0, .int .i64 0, .int .i64 0, .int .i64 0, .int .i64 0, .bool false]) ?_ 9 _ rfl; (with_reducible repeat (first | refine blk_drewN ?_ _ | refine blk_drew ?_ | refine blk_alloc ?_ _)); refine blk_put (cs := #[.int .i64 a0, .int .i64 a1, .int .i64 0, .int .i64 0, .int .i64 0, .int .i64 0, .int .i64 0, .int .i64 0, .int .i64 0, .bool false]) ?_ 8 _ rfl; (with_reducible repeat (first | refine blk_drewN ?_ _ | refine blk_drew ?_ | refine blk_alloc ?_ _)); refine blk_put (cs := #[.int .i64 a0, .int .i64 a1, .int .i64 0, .int .i64 0, .int .i64 0, .int .i64 0, .int .i64 0, .int .i64 0, .int .i64 0, .bool false]) ?_ 7 _ rfl; (with_reducible repeat (first | refine blk_drewN ?_ _ | refine blk_drew ?_ | refine blk_alloc ?_ _)); refine blk_put (cs := #[.int .i64 a0, .int .i64 a1, .int .i64 0, .int .i64 0, .int .i64 0, .int .i64 0, .int .i64 0, .int .i64 0, .int .i64 0, .bool false]) ?_ 6 _ rfl; (with_reducible repeat (first | refine blk_drewN ?_ _ | refine blk_drew ?_ | refine blk_alloc ?_ _)); refine blk_put (cs := #[.int .i64 a0, .int .i64 a1, .int .i64 0, .int .i64 0, .int .i64 0, .int .i64 0, .int .i64 0, .int .i64 0, .int .i64 0, .bool false]) ?_ 5 _ rfl; (with_reducible repeat (first | refine blk_drewN ?_ _ | refine blk_drew ?_ | refine blk_alloc ?_ _)); refine blk_put (cs := #[.int .i64 a0, .int .i64 a1, .int .i64 0, .int .i64 0, .int .i64 0, .int .i64 0, .int .i64 0, .int .i64 0, .int .i64 0, .bool false]) ?_ 4 _ rfl; (with_reducible repeat (first | refine blk_drewN ?_ _ | refine blk_drew ?_ | refine blk_alloc ?_ _)); refine blk_put (cs := #[.int .i64 a0, .int .i64 a1, .int .i64 0, .int .i64 0, .int .i64 0, .int .i64 0, .int .i64 0, .int .i64 0, .int .i64 0, .bool false]) ?_ 3 _ rfl; (with_reducible repeat (first | refine blk_drewN ?_ _ | refine blk_drew ?_ | refine blk_alloc ?_ _)); refine blk_put (cs := #[.int .i64 a0, .int .i64 a1, .int .i64 0, .int .i64 0, .int .i64 0, .int .i64 0, .int .i64 0, .int .i64 0, .int .i64 0, .bool false]) ?_ 2 _ rfl; (with_reducible repeat (first | refine blk_drewN ?_ _ | refine blk_drew ?_ | refine blk_alloc ?_ _)); refine blk_put (cs := #[.int .i64 a0, .int .i64 0, .int .i64 0, .int .i64 0, .int .i64 0, .int .i64 0, .int .i64 0, .int .i64 0, .int .i64 0, .bool false]) ?_ 1 _ rfl; (with_reducible repeat (first | refine blk_drewN ?_ _ | refine blk_drew ?_ | refine blk_alloc ?_ _)); refine blk_put (cs := #[.int .i64 0, .int .i64 0, .int .i64 0, .int .i64 0, .int .i64 0, .int .i64 0, .int .i64 0, .int .i64 0, .int .i64 0, .bool false]) ?_ 0 _ rfl; (with_reducible repeat (first | refine blk_drewN ?_ _ | refine blk_drew ?_ | refine blk_alloc ?_ _)); exact aA.out) : p := h
theorem Z1g {p : Prop} (h : p := by repeat (first | (with_reducible first | exact HB.out | apply below_alloc | apply pw_below_drewN | apply below_drew1) | exact HB.out)) : p := h
theorem Z1h {p : Prop} (h : p := by repeat (first | (with_reducible first | exact HB.out | apply below_alloc | apply pw_below_drewN | apply below_drew1 | refine below_set ?_ pA.out) | exact HB.out)) : p := h
theorem Z1i {p : Prop} (h : p := by (try simp only [List.map_toArray, List.map_cons, List.map_nil]); first | done | rfl | (simp only [List.length_drop, List.length_take]; rfl)) : p := h
theorem Z1f {p : Prop} (h : p := by repeat (first | exact Drawn0.refl _ | apply Drawn0.step)) : p := h
theorem Z1d {p : Prop} (h : p := by first | rfl | (simp; done) | (simp [*]; done)) : p := h
theorem Z1k {p : Prop} (h : p := by repeat (first | (with_reducible first | exact HB.out | apply below_alloc | apply pw_below_drewN | apply below_drew1 | refine below_set ?_ iA.out) | exact HB.out)) : p := h
theorem Z1j {p : Prop} (h : p := by first | rfl | (simp [errW_none, errW_some] <;> rfl) | (simp [*, errW_none, errW_some] <;> rfl)) : p := h
theorem Z1e {p : Prop} (h : p := by rw [hg]; exact (below_size Z1g)) : p := h
theorem Z1m {p : Prop} (h : p := by (with_reducible repeat (first | refine blk_drewN ?_ _ | refine blk_drew ?_ | refine blk_alloc ?_ _)); refine blk_put (cs := #[.slice none 0 0]) ?_ 0 _ rfl; (with_reducible repeat (first | refine blk_drewN ?_ _ | refine blk_drew ?_ | refine blk_alloc ?_ _)); exact cA.out) : p := h
theorem Z1l {p : Prop} (h : p := by (with_reducible repeat (first | refine blk_drewN ?_ _ | refine blk_drew ?_ | refine blk_alloc ?_ _)); exact cA.out) : p := h
/-! ### impl_LiCall: function 12 -/
def impl_LiCall.f (a0 : Int) (a1 : Int) (a2 : Int) : Option (Int × Int × Int × Int × Int × Int × Int × Int × Int × Bool) := if a0 = 1 then (some (a0, a1, a2, 0, 0, 0, 0, 0, 0, false)) else (if a0 = 2 then (some (a0, a1, 0, 0, 0, 0, 0, 0, 0, false)) else (if a0 = 3 then (some (a0, a1, 0, 0, 0, 0, 0, 0, 0, false)) else (some (0, 0, 0, 0, 0, 0, 0, 0, 0, false))))
set_option maxHeartbeats 8000000 in
set_option maxRecDepth 100000 in
theorem impl_LiCall.calls (a0 : Int) (a1 : Int) (a2 : Int) (r1 : Int) (r2 : Int) (r3 : Int) (r4 : Int) (r5 : Int) (r6 : Int) (r7 : Int) (r8 : Int) (r9 : Int) (r10 : Bool) (w : World) (h : impl_LiCall.f a0 a1 a2 = some (r1, r2, r3, r4, r5, r6, r7, r8, r9, r10)) :
  Calls Try.prog 12 #[.int .i64 a0, .int .i64 a1, .int .i64 a2] w fun e w' => e = .returned (.agg #[.int .i64 r1, .int .i64 r2, .int .i64 r3, .int .i64 r4, .int .i64 r5, .int .i64 r6, .int .i64 r7, .int .i64 r8, .int .i64 r9, .bool r10]) ∧ Below w.heap.size w w' := by
 have hu23 := Try.underlying23
 have HB := Z1c (Below.refl w.heap.size w)
 have H : (if a0 = 1 then (some (a0, a1, a2, 0, 0, 0, 0, 0, 0, false)) else (if a0 = 2 then (some (a0, a1, 0, 0, 0, 0, 0, 0, 0, false)) else (if a0 = 3 then (some (a0, a1, 0, 0, 0, 0, 0, 0, 0, false)) else (some (0, 0, 0, 0, 0, 0, 0, 0, 0, false))))) = some (r1, r2, r3, r4, r5, r6, r7, r8, r9, r10) := h
 clear h
 by_cases c4 : a0 = 1
 ·rw [if_pos c4] at H
  have rA : (a0 == 1) = true := beq_iff_eq.mpr c4
  have tB : (a0 != 1) = false := bne_eq_false_iff_eq.mpr c4
  clear c4
  simp only [Option.some.injEq, Prod.mk.injEq] at H
  obtain ⟨rfl, rfl, rfl, rfl, rfl, rfl, rfl, rfl, rfl, rfl⟩ := H
  go_enter Try.func12, Try.ntmps12
  go_wp2_with (first | ((with_reducible refine gate_dst (N := 6) rfl ?_); refine box_event ?hg (N := 6) ?hd (cs := #[.int .i64 0, .int .i64 0, .int .i64 0, .int .i64 0, .int .i64 0, .int .i64 0, .int .i64 0, .int .i64 0, .int .i64 0, .bool false]) (t := 23) ?hr ?_; (case hd => rfl); (case hg => rfl); (case hr => first | (go_simp; done) | (go_simp; rfl)); intro bA hg w5 hbox hb; have eA := Z1c (below_step Z1g hb); have fA := Z1c (hbox); have gA := Z1c ((Z1e : w.heap.size ≤ bA)); have hA := Z1c ((Z1e : w.heap.size ≤ bA)); clear HB; have HB := eA; have aA := fA; have jA := gA; have iA := hA; clear eA fA gA hA; clear hb hbox hg; have uB := Z1b aA.out 0 (.int .i64 0); have vB := Z1b aA.out 1 (.int .i64 0); have wB := Z1b aA.out 2 (.int .i64 0); have xB := Z1b aA.out 3 (.int .i64 0); have yB := Z1b aA.out 4 (.int .i64 0); have zB := Z1b aA.out 5 (.int .i64 0); have AB := Z1b aA.out 6 (.int .i64 0); have BB := Z1b aA.out 7 (.int .i64 0); have CB := Z1b aA.out 8 (.int .i64 0); have DB := Z1b aA.out 9 (.bool false); have EB := Z1a aA.out 0; have FB := Z1a aA.out 1; have GB := Z1a aA.out 2; have IB := Z1a aA.out 3; have JB := Z1a aA.out 4; have KB := Z1a aA.out 5; have LB := Z1a aA.out 6; have MB := Z1a aA.out 7; have NB := Z1a aA.out 8; have OB := Z1a aA.out 9))
  refine bodyPost_ret (results_cell_row rfl _ _ bA 23 #[.int .i64 a0, .int .i64 a1, .int .i64 a2, .int .i64 0, .int .i64 0, .int .i64 0, .int .i64 0, .int .i64 0, .int .i64 0, .bool false] (0, 0) _ rfl (by (with_reducible repeat (first | refine blk_drewN ?_ _ | refine blk_drew ?_ | refine blk_alloc ?_ _)); refine blk_put (cs := #[.int .i64 a0, .int .i64 a1, .int .i64 a2, .int .i64 0, .int .i64 0, .int .i64 0, .int .i64 0, .int .i64 0, .int .i64 0, .bool false]) ?_ 9 _ rfl; (with_reducible repeat (first | refine blk_drewN ?_ _ | refine blk_drew ?_ | refine blk_alloc ?_ _)); refine blk_put (cs := #[.int .i64 a0, .int .i64 a1, .int .i64 a2, .int .i64 0, .int .i64 0, .int .i64 0, .int .i64 0, .int .i64 0, .int .i64 0, .bool false]) ?_ 8 _ rfl; (with_reducible repeat (first | refine blk_drewN ?_ _ | refine blk_drew ?_ | refine blk_alloc ?_ _)); refine blk_put (cs := #[.int .i64 a0, .int .i64 a1, .int .i64 a2, .int .i64 0, .int .i64 0, .int .i64 0, .int .i64 0, .int .i64 0, .int .i64 0, .bool false]) ?_ 7 _ rfl; (with_reducible repeat (first | refine blk_drewN ?_ _ | refine blk_drew ?_ | refine blk_alloc ?_ _)); refine blk_put (cs := #[.int .i64 a0, .int .i64 a1, .int .i64 a2, .int .i64 0, .int .i64 0, .int .i64 0, .int .i64 0, .int .i64 0, .int .i64 0, .bool false]) ?_ 6 _ rfl; (with_reducible repeat (first | refine blk_drewN ?_ _ | refine blk_drew ?_ | refine blk_alloc ?_ _)); refine blk_put (cs := #[.int .i64 a0, .int .i64 a1, .int .i64 a2, .int .i64 0, .int .i64 0, .int .i64 0, .int .i64 0, .int .i64 0, .int .i64 0, .bool false]) ?_ 5 _ rfl; (with_reducible repeat (first | refine blk_drewN ?_ _ | refine blk_drew ?_ | refine blk_alloc ?_ _)); refine blk_put (cs := #[.int .i64 a0, .int .i64 a1, .int .i64 a2, .int .i64 0, .int .i64 0, .int .i64 0, .int .i64 0, .int .i64 0, .int .i64 0, .bool false]) ?_ 4 _ rfl; (with_reducible repeat (first | refine blk_drewN ?_ _ | refine blk_drew ?_ | refine blk_alloc ?_ _)); refine blk_put (cs := #[.int .i64 a0, .int .i64 a1, .int .i64 a2, .int .i64 0, .int .i64 0, .int .i64 0, .int .i64 0, .int .i64 0, .int .i64 0, .bool false]) ?_ 3 _ rfl; (with_reducible repeat (first | refine blk_drewN ?_ _ | refine blk_drew ?_ | refine blk_alloc ?_ _)); refine blk_put (cs := #[.int .i64 a0, .int .i64 a1, .int .i64 0, .int .i64 0, .int .i64 0, .int .i64 0, .int .i64 0, .int .i64 0, .int .i64 0, .bool false]) ?_ 2 _ rfl; (with_reducible repeat (first | refine blk_drewN ?_ _ | refine blk_drew ?_ | refine blk_alloc ?_ _)); refine blk_put (cs := #[.int .i64 a0, .int .i64 0, .int .i64 0, .int .i64 0, .int .i64 0, .int .i64 0, .int .i64 0, .int .i64 0, .int .i64 0, .bool false]) ?_ 1 _ rfl; (with_reducible repeat (first | refine blk_drewN ?_ _ | refine blk_drew ?_ | refine blk_alloc ?_ _)); refine blk_put (cs := #[.int .i64 0, .int .i64 0, .int .i64 0, .int .i64 0, .int .i64 0, .int .i64 0, .int .i64 0, .int .i64 0, .int .i64 0, .bool false]) ?_ 0 _ rfl; (with_reducible repeat (first | refine blk_drewN ?_ _ | refine blk_drew ?_ | refine blk_alloc ?_ _)); exact aA.out) Try.underlying23 rfl (by kernel_rfl)) rfl ?_
  exact ⟨Z1j, Z1k⟩
 ·rw [if_neg c4] at H
  have rA : (a0 == 1) = false := beq_eq_false_iff_ne.mpr c4
  have tB : (a0 != 1) = true := bne_iff_ne.mpr c4
  by_cases c7 : a0 = 2
  ·rw [if_pos c7] at H
   have PB : (a0 == 2) = true := beq_iff_eq.mpr c7
   have QB : (a0 != 2) = false := bne_eq_false_iff_eq.mpr c7
   clear c7
   simp only [Option.some.injEq, Prod.mk.injEq] at H
   obtain ⟨rfl, rfl, rfl, rfl, rfl, rfl, rfl, rfl, rfl, rfl⟩ := H
   go_enter Try.func12, Try.ntmps12
   go_wp2_with (first | ((with_reducible refine gate_dst (N := 6) rfl ?_); refine box_event ?hg (N := 6) ?hd (cs := #[.int .i64 0, .int .i64 0, .int .i64 0, .int .i64 0, .int .i64 0, .int .i64 0, .int .i64 0, .int .i64 0, .int .i64 0, .bool false]) (t := 23) ?hr ?_; (case hd => rfl); (case hg => rfl); (case hr => first | (go_simp; done) | (go_simp; rfl)); intro bA hg w8 hbox hb; have eA := Z1c (below_step Z1g hb); have fA := Z1c (hbox); have gA := Z1c ((Z1e : w.heap.size ≤ bA)); have hA := Z1c ((Z1e : w.heap.size ≤ bA)); clear HB; have HB := eA; have aA := fA; have jA := gA; have iA := hA; clear eA fA gA hA; clear hb hbox hg; have RB := Z1b aA.out 0 (.int .i64 0); have SB := Z1b aA.out 1 (.int .i64 0); have TB := Z1b aA.out 2 (.int .i64 0); have UB := Z1b aA.out 3 (.int .i64 0); have VB := Z1b aA.out 4 (.int .i64 0); have WB := Z1b aA.out 5 (.int .i64 0); have XB := Z1b aA.out 6 (.int .i64 0); have YB := Z1b aA.out 7 (.int .i64 0); have ZB := Z1b aA.out 8 (.int .i64 0); have aC := Z1b aA.out 9 (.bool false); have bC := Z1a aA.out 0; have cC := Z1a aA.out 1; have dC := Z1a aA.out 2; have eC := Z1a aA.out 3; have fC := Z1a aA.out 4; have gC := Z1a aA.out 5; have hC := Z1a aA.out 6; have iC := Z1a aA.out 7; have jC := Z1a aA.out 8; have kC := Z1a aA.out 9))
   refine bodyPost_ret (results_cell_row rfl _ _ bA 23 #[.int .i64 a0, .int .i64 a1, .int .i64 0, .int .i64 0, .int .i64 0, .int .i64 0, .int .i64 0, .int .i64 0, .int .i64 0, .bool false] (0, 0) _ rfl Z1n Try.underlying23 rfl (by kernel_rfl)) rfl ?_
   exact ⟨Z1j, Z1k⟩
  ·rw [if_neg c7] at H
   have PB : (a0 == 2) = false := beq_eq_false_iff_ne.mpr c7
   have QB : (a0 != 2) = true := bne_iff_ne.mpr c7
   by_cases c10 : a0 = 3
   ·rw [if_pos c10] at H
    have tA : (a0 == 3) = true := beq_iff_eq.mpr c10
    have uA : (a0 != 3) = false := bne_eq_false_iff_eq.mpr c10
    clear c10
    simp only [Option.some.injEq, Prod.mk.injEq] at H
    obtain ⟨rfl, rfl, rfl, rfl, rfl, rfl, rfl, rfl, rfl, rfl⟩ := H
    go_enter Try.func12, Try.ntmps12
    go_wp2_with (first | ((with_reducible refine gate_dst (N := 6) rfl ?_); refine box_event ?hg (N := 6) ?hd (cs := #[.int .i64 0, .int .i64 0, .int .i64 0, .int .i64 0, .int .i64 0, .int .i64 0, .int .i64 0, .int .i64 0, .int .i64 0, .bool false]) (t := 23) ?hr ?_; (case hd => rfl); (case hg => rfl); (case hr => first | (go_simp; done) | (go_simp; rfl)); intro bA hg sC hbox hb; have eA := Z1c (below_step Z1g hb); have fA := Z1c (hbox); have gA := Z1c ((Z1e : w.heap.size ≤ bA)); have hA := Z1c ((Z1e : w.heap.size ≤ bA)); clear HB; have HB := eA; have aA := fA; have jA := gA; have iA := hA; clear eA fA gA hA; clear hb hbox hg; have BA := Z1b aA.out 0 (.int .i64 0); have CA := Z1b aA.out 1 (.int .i64 0); have DA := Z1b aA.out 2 (.int .i64 0); have EA := Z1b aA.out 3 (.int .i64 0); have FA := Z1b aA.out 4 (.int .i64 0); have GA := Z1b aA.out 5 (.int .i64 0); have HA := Z1b aA.out 6 (.int .i64 0); have IA := Z1b aA.out 7 (.int .i64 0); have JA := Z1b aA.out 8 (.int .i64 0); have KA := Z1b aA.out 9 (.bool false); have LA := Z1a aA.out 0; have MA := Z1a aA.out 1; have NA := Z1a aA.out 2; have OA := Z1a aA.out 3; have PA := Z1a aA.out 4; have QA := Z1a aA.out 5; have RA := Z1a aA.out 6; have SA := Z1a aA.out 7; have TA := Z1a aA.out 8; have UA := Z1a aA.out 9))
    refine bodyPost_ret (results_cell_row rfl _ _ bA 23 #[.int .i64 a0, .int .i64 a1, .int .i64 0, .int .i64 0, .int .i64 0, .int .i64 0, .int .i64 0, .int .i64 0, .int .i64 0, .bool false] (0, 0) _ rfl Z1n Try.underlying23 rfl (by kernel_rfl)) rfl ?_
    exact ⟨Z1j, Z1k⟩
   ·rw [if_neg c10] at H
    have tA : (a0 == 3) = false := beq_eq_false_iff_ne.mpr c10
    have uA : (a0 != 3) = true := bne_iff_ne.mpr c10
    simp only [Option.some.injEq, Prod.mk.injEq] at H
    obtain ⟨rfl, rfl, rfl, rfl, rfl, rfl, rfl, rfl, rfl, rfl⟩ := H
    go_enter Try.func12, Try.ntmps12
    go_wp2_with (first | ((with_reducible refine gate_dst (N := 6) rfl ?_); refine box_event ?hg (N := 6) ?hd (cs := #[.int .i64 0, .int .i64 0, .int .i64 0, .int .i64 0, .int .i64 0, .int .i64 0, .int .i64 0, .int .i64 0, .int .i64 0, .bool false]) (t := 23) ?hr ?_; (case hd => rfl); (case hg => rfl); (case hr => first | (go_simp; done) | (go_simp; rfl)); intro bA hg tC hbox hb; have eA := Z1c (below_step Z1g hb); have fA := Z1c (hbox); have gA := Z1c ((Z1e : w.heap.size ≤ bA)); have hA := Z1c ((Z1e : w.heap.size ≤ bA)); clear HB; have HB := eA; have aA := fA; have jA := gA; have iA := hA; clear eA fA gA hA; clear hb hbox hg; have VA := Z1b aA.out 0 (.int .i64 0); have WA := Z1b aA.out 1 (.int .i64 0); have XA := Z1b aA.out 2 (.int .i64 0); have YA := Z1b aA.out 3 (.int .i64 0); have ZA := Z1b aA.out 4 (.int .i64 0); have aB := Z1b aA.out 5 (.int .i64 0); have bB := Z1b aA.out 6 (.int .i64 0); have cB := Z1b aA.out 7 (.int .i64 0); have dB := Z1b aA.out 8 (.int .i64 0); have eB := Z1b aA.out 9 (.bool false); have fB := Z1a aA.out 0; have gB := Z1a aA.out 1; have hB := Z1a aA.out 2; have iB := Z1a aA.out 3; have jB := Z1a aA.out 4; have kB := Z1a aA.out 5; have lB := Z1a aA.out 6; have mB := Z1a aA.out 7; have nB := Z1a aA.out 8; have oB := Z1a aA.out 9))
    refine bodyPost_ret (results_cell_row rfl _ _ bA 23 #[.int .i64 0, .int .i64 0, .int .i64 0, .int .i64 0, .int .i64 0, .int .i64 0, .int .i64 0, .int .i64 0, .int .i64 0, .bool false] (0, 0) _ rfl (by (with_reducible repeat (first | refine blk_drewN ?_ _ | refine blk_drew ?_ | refine blk_alloc ?_ _)); refine blk_put (cs := #[.int .i64 0, .int .i64 0, .int .i64 0, .int .i64 0, .int .i64 0, .int .i64 0, .int .i64 0, .int .i64 0, .int .i64 0, .bool false]) ?_ 9 _ rfl; (with_reducible repeat (first | refine blk_drewN ?_ _ | refine blk_drew ?_ | refine blk_alloc ?_ _)); refine blk_put (cs := #[.int .i64 0, .int .i64 0, .int .i64 0, .int .i64 0, .int .i64 0, .int .i64 0, .int .i64 0, .int .i64 0, .int .i64 0, .bool false]) ?_ 8 _ rfl; (with_reducible repeat (first | refine blk_drewN ?_ _ | refine blk_drew ?_ | refine blk_alloc ?_ _)); refine blk_put (cs := #[.int .i64 0, .int .i64 0, .int .i64 0, .int .i64 0, .int .i64 0, .int .i64 0, .int .i64 0, .int .i64 0, .int .i64 0, .bool false]) ?_ 7 _ rfl; (with_reducible repeat (first | refine blk_drewN ?_ _ | refine blk_drew ?_ | refine blk_alloc ?_ _)); refine blk_put (cs := #[.int .i64 0, .int .i64 0, .int .i64 0, .int .i64 0, .int .i64 0, .int .i64 0, .int .i64 0, .int .i64 0, .int .i64 0, .bool false]) ?_ 6 _ rfl; (with_reducible repeat (first | refine blk_drewN ?_ _ | refine blk_drew ?_ | refine blk_alloc ?_ _)); refine blk_put (cs := #[.int .i64 0, .int .i64 0, .int .i64 0, .int .i64 0, .int .i64 0, .int .i64 0, .int .i64 0, .int .i64 0, .int .i64 0, .bool false]) ?_ 5 _ rfl; (with_reducible repeat (first | refine blk_drewN ?_ _ | refine blk_drew ?_ | refine blk_alloc ?_ _)); refine blk_put (cs := #[.int .i64 0, .int .i64 0, .int .i64 0, .int .i64 0, .int .i64 0, .int .i64 0, .int .i64 0, .int .i64 0, .int .i64 0, .bool false]) ?_ 4 _ rfl; (with_reducible repeat (first | refine blk_drewN ?_ _ | refine blk_drew ?_ | refine blk_alloc ?_ _)); refine blk_put (cs := #[.int .i64 0, .int .i64 0, .int .i64 0, .int .i64 0, .int .i64 0, .int .i64 0, .int .i64 0, .int .i64 0, .int .i64 0, .bool false]) ?_ 3 _ rfl; (with_reducible repeat (first | refine blk_drewN ?_ _ | refine blk_drew ?_ | refine blk_alloc ?_ _)); refine blk_put (cs := #[.int .i64 0, .int .i64 0, .int .i64 0, .int .i64 0, .int .i64 0, .int .i64 0, .int .i64 0, .int .i64 0, .int .i64 0, .bool false]) ?_ 2 _ rfl; (with_reducible repeat (first | refine blk_drewN ?_ _ | refine blk_drew ?_ | refine blk_alloc ?_ _)); refine blk_put (cs := #[.int .i64 0, .int .i64 0, .int .i64 0, .int .i64 0, .int .i64 0, .int .i64 0, .int .i64 0, .int .i64 0, .int .i64 0, .bool false]) ?_ 1 _ rfl; (with_reducible repeat (first | refine blk_drewN ?_ _ | refine blk_drew ?_ | refine blk_alloc ?_ _)); refine blk_put (cs := #[.int .i64 0, .int .i64 0, .int .i64 0, .int .i64 0, .int .i64 0, .int .i64 0, .int .i64 0, .int .i64 0, .int .i64 0, .bool false]) ?_ 0 _ rfl; (with_reducible repeat (first | refine blk_drewN ?_ _ | refine blk_drew ?_ | refine blk_alloc ?_ _)); exact aA.out) Try.underlying23 rfl (by kernel_rfl)) rfl ?_
    exact ⟨Z1j, Z1k⟩

/-! ### impl_within: function 43 -/
def impl_within.f (a0 : Int) (a1 : Int) (a2 : Int) : Option (Bool) := if a0 ≥ a1 then (some (decide (a0 ≤ a2))) else (some false)
set_option maxHeartbeats 8000000 in
set_option maxRecDepth 100000 in
theorem impl_within.calls (a0 : Int) (a1 : Int) (a2 : Int) (r : Bool) (w : World) (h : impl_within.f a0 a1 a2 = some r) :
  Calls Try.prog 43 #[.int .i64 a0, .int .i64 a1, .int .i64 a2] w fun e w' => e = .returned (.bool r) ∧ Drawn0 w w' := by
 have H : (if a0 ≥ a1 then (some (decide (a0 ≤ a2))) else (some false)) = some r := h
 clear h
 by_cases c4 : a0 ≥ a1
 ·rw [if_pos c4] at H
  have rA : decide (a1 ≤ a0) = true := decide_eq_true c4
  clear c4
  obtain rfl := Option.some.inj H
  go_enter Try.func43, Try.ntmps43
  go_wp2
  go_ret
  exact ⟨Z1d, Z1f⟩
 ·rw [if_neg c4] at H
  have rA : decide (a1 ≤ a0) = false := decide_eq_false c4
  clear c4
  obtain rfl := Option.some.inj H
  go_enter Try.func43, Try.ntmps43
  go_wp2
  go_ret
  exact ⟨Z1d, Z1f⟩

/-! ### impl_LiNew: function 15 -/
def impl_LiNew.f (a0 : Int) : Option (List Int × Bool) := (impl_within.f a0 1 16).bind fun kA => (if kA = true then (if 0 ≤ (wrap64 (1 + (wrap64 (2 * a0)))) then (if (wrap64 (1 + (wrap64 (2 * a0))) : Int).toNat ≤ 35184372088832 then (some ((List.replicate (wrap64 (1 + (wrap64 (2 * a0))) : Int).toNat 0), true)) else (none)) else (none)) else (some (([] : List Int), false)))
set_option maxHeartbeats 8000000 in
set_option maxRecDepth 100000 in
theorem impl_LiNew.calls (a0 : Int) (r1 : List Int) (r2 : Bool) (w : World) (h : impl_LiNew.f a0 = some (r1, r2)) :
  Calls Try.prog 15 #[.int .i64 a0] w fun e w' => ∃ v0_ : Value, e = .returned (.tuple #[.agg #[v0_], .bool r2]) ∧ Kd.R (Kd.int .i64) 3 w' w.heap.size (fun _ => True) v0_ r1 ∧ Below w.heap.size w w' := by
 have hu29 := Try.underlying29
 have HB := Z1c (Below.refl w.heap.size w)
 have H : ((impl_within.f a0 1 16).bind fun kA => (if kA = true then (if 0 ≤ (wrap64 (1 + (wrap64 (2 * a0)))) then (if (wrap64 (1 + (wrap64 (2 * a0))) : Int).toNat ≤ 35184372088832 then (some ((List.replicate (wrap64 (1 + (wrap64 (2 * a0))) : Int).toNat 0), true)) else (none)) else (none)) else (some (([] : List Int), false)))) = some (r1, r2) := h
 clear h
 replace H := Option.bind_eq_some_iff.mp H
 obtain ⟨kA, A20, H⟩ := H
 (try dsimp only at H)
 have A2 := Z1c A20
 clear A20
 by_cases c3 : kA = true
 ·subst c3
  rw [if_pos rfl] at H
  obtain ⟨ji4, hji4⟩ : ∃ j_ : Int, (wrap64 (1 + (wrap64 (2 * a0)))) = j_ := ⟨_, rfl⟩
  replace H : (if 0 ≤ (ji4) then (if (ji4 : Int).toNat ≤ 35184372088832 then (some ((List.replicate (ji4 : Int).toNat 0), true)) else (none)) else (none)) = some (r1, r2) := by first | (rw [hji4] at H; exact H) | (simp only [hji4] at H ⊢; exact H)
  (try rw [hji4] at A2)
  have hji4w : (IntKind.i64.wrap (1 + (wrap64 (2 * a0)))) = ji4 := (i64_w _).trans hji4
  by_cases c5 : 0 ≤ (ji4)
  ·rw [if_pos c5] at H
   have vA := eq_true c5
   have wA : decide (0 ≤ (ji4)) = true := decide_eq_true c5
   clear c5
   by_cases c6 : (ji4 : Int).toNat ≤ 35184372088832
   ·rw [if_pos c6] at H
    have pC := eq_true c6
    have qC : decide ((ji4 : Int).toNat ≤ 35184372088832) = true := decide_eq_true c6
    clear c6
    obtain ⟨y104, hy104⟩ : ∃ y_ : List Int, y_ = (List.replicate (ji4 : Int).toNat 0) := ⟨_, rfl⟩
    replace H : (some (y104, true)) = some (r1, r2) := by first | (rw [hy104]; with_reducible exact H) | (have H2_ := (Option.bind_some _ _).symm.trans H; rw [hy104]; with_reducible exact H2_) | (have H2_ := (Option.bind_some _ _).symm.trans H; with_reducible exact H2_) | with_reducible exact H | (rw [hy104]; exact H) | exact H
    have Ny104 := Z1c hy104
    clear hy104
    simp only [Option.some.injEq, Prod.mk.injEq] at H
    obtain ⟨rfl, rfl⟩ := H
    go_enter Try.func15, Try.ntmps15
    go_wp2_with (first | ((with_reducible refine gate_dst (N := 2) rfl ?_); refine box_event ?hg (N := 2) ?hd (cs := #[.slice none 0 0]) (t := 29) ?hr ?_; (case hd => rfl); (case hg => rfl); (case hr => first | (go_simp; done) | (go_simp; rfl)); intro dA hg w7 hbox hb; have eA := Z1c (below_step Z1g hb); have fA := Z1c (hbox); have gA := Z1c ((Z1e : w.heap.size ≤ dA)); have hA := Z1c ((Z1e : w.heap.size ≤ dA)); clear HB; have HB := eA; have cA := fA; have xA := gA; have pA := hA; clear eA fA gA hA; clear hb hbox hg) | ((with_reducible refine gate_callee (f := 43) rfl ?_); refine goesL_ (some 5) rfl rfl Try.func43 (by kernel_rfl) rfl #[.int .i64 a0, .int .i64 1, .int .i64 16] rfl Z1i ?_; (with_reducible refine (impl_within.calls a0 1 16 true _ A2.out).mono ?_); rintro e w' ⟨rfl, ⟨nd, rfl⟩⟩; refine ⟨_, rfl, ?_⟩; (try (rw [drewN_self w7]; generalize hq_ : World.drewN w7 _ = w7; have eA : Aside0 (w7.heap[dA]? = some (.cells #[.slice none 0 0] 29 (0, 0))) := ⟨by rw [← hq_]; exact Z1l⟩; have fA : Aside0 (Below w.heap.size w w7) := ⟨by rw [← hq_]; exact Z1h⟩; clear cA HB hq_; have cA := eA; have HB := fA; clear eA fA))) | ((with_reducible refine gate_dst (N := 11) rfl ?_); refine Kd.R_make (Kd.int .i64) _ 3 rfl (N := 11) rfl 27 _ _ rfl ji4 rfl rfl Try.underlying27 (.int .i64 0) 8 info3 rfl (by decide) (by omega) 0 (ok := fun _ => True) (okp := fun _ => True) rfl (fun _ hk => hk) trivial (of_decide_eq_true (by first | (with_reducible assumption) | assumption)) (Nat.le_trans (Nat.mul_le_mul_right _ (of_decide_eq_true (by first | (with_reducible assumption) | assumption) : ji4.toNat ≤ 35184372088832)) (by omega)) (Below.refl _ _) (Nat.le_refl _) ?_; intro rC w8 ho9 hb hg_ hnew_; clear hg_ hnew_; (first | rw [← Ny104.out] at ho9 | (simp only [Int.reduceToNat] at ho9; rw [← Ny104.out] at ho9)); have eA := Z1c (Kd.R_lower ho9 (below_size Z1h)); have fA := Z1c (blk_below (g := dA) (o := .cells #[.slice none 0 0] 29 (0, 0)) Z1l hb); have gA := Z1c (below_step Z1h hb); clear cA HB; have qA := eA; have cA := fA; have HB := gA; clear eA fA gA; clear hb ho9; obtain ⟨yA, zA, lC⟩ := Kd.R_slice qA.out; subst lC; have pB := Z1b cA.out 0 (.slice none 0 0); have qB := Z1a cA.out 0))
    refine bodyPost_ret (results_ct rfl _ _ dA 29 #[.slice yA y104.length zA] (0, 0) _ rfl Z1m Try.underlying29 rfl (by kernel_rfl)) rfl ?_
    exact ⟨_, by first | rfl | (simp [errW_none, errW_some] <;> rfl) | (simp only [← hji4]; first | rfl | (simp [errW_none, errW_some] <;> rfl)) | (simp [*, errW_none, errW_some] <;> rfl), by (with_reducible repeat (first | apply Kd.R_alloc | apply Kd.R_drewN | apply Kd.R_drew)); exact Kd.R_mono (Kd.R_far (p := ⟨dA, 0, none⟩) (Kd.R_types qA.out cA.out (by decide)) (fun _ hk => hk.2) (.slice yA y104.length zA)) (fun _ hk => trivial), Z1h⟩
   ·rw [if_neg c6] at H
    exact absurd H (by simp)
  ·rw [if_neg c5] at H
   exact absurd H (by simp)
 ·replace c3 := Bool.eq_false_iff.mpr c3
  subst c3
  rw [if_neg (show ¬ (false = true) by decide)] at H
  simp only [Option.some.injEq, Prod.mk.injEq] at H
  obtain ⟨rfl, rfl⟩ := H
  go_enter Try.func15, Try.ntmps15
  go_wp2_with (first | ((with_reducible refine gate_dst (N := 2) rfl ?_); refine box_event ?hg (N := 2) ?hd (cs := #[.slice none 0 0]) (t := 29) ?hr ?_; (case hd => rfl); (case hg => rfl); (case hr => first | (go_simp; done) | (go_simp; rfl)); intro dA hg AA hbox hb; have eA := Z1c (below_step Z1g hb); have fA := Z1c (hbox); have gA := Z1c ((Z1e : w.heap.size ≤ dA)); have hA := Z1c ((Z1e : w.heap.size ≤ dA)); clear HB; have HB := eA; have cA := fA; have xA := gA; have pA := hA; clear eA fA gA hA; clear hb hbox hg) | ((with_reducible refine gate_callee (f := 43) rfl ?_); refine goesL_ (some 5) rfl rfl Try.func43 (by kernel_rfl) rfl #[.int .i64 a0, .int .i64 1, .int .i64 16] rfl Z1i ?_; (with_reducible refine (impl_within.calls a0 1 16 false _ A2.out).mono ?_); rintro e w' ⟨rfl, ⟨nd, rfl⟩⟩; refine ⟨_, rfl, ?_⟩; (try (rw [drewN_self AA]; generalize hq_ : World.drewN AA _ = AA; have eA : Aside0 (AA.heap[dA]? = some (.cells #[.slice none 0 0] 29 (0, 0))) := ⟨by rw [← hq_]; exact Z1l⟩; have fA : Aside0 (Below w.heap.size w AA) := ⟨by rw [← hq_]; exact Z1h⟩; clear cA HB hq_; have cA := eA; have HB := fA; clear eA fA)); have rB := Z1b cA.out 0 (.slice none 0 0); have sB := Z1a cA.out 0))
  refine bodyPost_ret (results_ct rfl _ _ dA 29 #[.slice none 0 0] (0, 0) _ rfl Z1m Try.underlying29 rfl (by kernel_rfl)) rfl ?_
  exact ⟨_, Z1j, by first | exact Kd.R_nil _ _ _ _ _ | exact Kd.N_nil _ _ _ _ _ | exact Kd.V_nil _ _ _ _ _ | exact Kd.Q_nil _ _ _ _ _ | exact Kd.S_nil _ _ _ _ _, Z1h⟩

/-! ### impl_isLiStep: function 49 -/
def impl_isLiStep.f (a0 : Int) (a1 : Int) : Option (Bool) := if a0 = 1 then ((impl_within.f a1 0 6).bind fun lA => (some lA)) else (if a0 = 2 then ((impl_within.f a1 0 3).bind fun mA => (if mA = true then (some true) else (some (a1 == 7)))) else (if a0 = 3 then ((impl_within.f a1 0 2).bind fun nA => (some nA)) else (some false)))
set_option maxHeartbeats 8000000 in
set_option maxRecDepth 100000 in
theorem impl_isLiStep.calls (a0 : Int) (a1 : Int) (r : Bool) (w : World) (h : impl_isLiStep.f a0 a1 = some r) :
  Calls Try.prog 49 #[.int .i64 a0, .int .i64 a1] w fun e w' => e = .returned (.bool r) ∧ Drawn0 w w' := by
 have H : (if a0 = 1 then ((impl_within.f a1 0 6).bind fun lA => (some lA)) else (if a0 = 2 then ((impl_within.f a1 0 3).bind fun mA => (if mA = true then (some true) else (some (a1 == 7)))) else (if a0 = 3 then ((impl_within.f a1 0 2).bind fun nA => (some nA)) else (some false)))) = some r := h
 clear h
 by_cases c3 : a0 = 1
 ·rw [if_pos c3] at H
  have sA : (a0 == 1) = true := beq_iff_eq.mpr c3
  have mC : (a0 != 1) = false := bne_eq_false_iff_eq.mpr c3
  clear c3
  replace H := Option.bind_eq_some_iff.mp H
  obtain ⟨lA, A40, H⟩ := H
  (try dsimp only at H)
  have A4 := Z1c A40
  clear A40
  obtain rfl := Option.some.inj H
  go_enter Try.func49, Try.ntmps49
  go_wp2_with (first | ((with_reducible refine gate_callee (f := 43) rfl ?_); refine goesL_ (some 9) rfl rfl Try.func43 (by kernel_rfl) rfl #[.int .i64 a1, .int .i64 0, .int .i64 6] rfl Z1i ?_; (with_reducible refine (impl_within.calls a1 0 6 lA _ A4.out).mono ?_); rintro e w' ⟨rfl, ⟨nd, rfl⟩⟩; refine ⟨_, rfl, ?_⟩))
  go_ret
  exact ⟨Z1d, Z1f⟩
 ·rw [if_neg c3] at H
  have sA : (a0 == 1) = false := beq_eq_false_iff_ne.mpr c3
  have mC : (a0 != 1) = true := bne_iff_ne.mpr c3
  by_cases c5 : a0 = 2
  ·rw [if_pos c5] at H
   have vA : (a0 == 2) = true := beq_iff_eq.mpr c5
   have wA : (a0 != 2) = false := bne_eq_false_iff_eq.mpr c5
   clear c5
   replace H := Option.bind_eq_some_iff.mp H
   obtain ⟨mA, A60, H⟩ := H
   (try dsimp only at H)
   have A6 := Z1c A60
   clear A60
   by_cases c7 : mA = true
   ·subst c7
    rw [if_pos rfl] at H
    obtain rfl := Option.some.inj H
    go_enter Try.func49, Try.ntmps49
    go_wp2_with (first | ((with_reducible refine gate_callee (f := 43) rfl ?_); refine goesL_ (some 13) rfl rfl Try.func43 (by kernel_rfl) rfl #[.int .i64 a1, .int .i64 0, .int .i64 3] rfl Z1i ?_; (with_reducible refine (impl_within.calls a1 0 3 true _ A6.out).mono ?_); rintro e w' ⟨rfl, ⟨nd, rfl⟩⟩; refine ⟨_, rfl, ?_⟩))
    go_ret
    exact ⟨Z1d, Z1f⟩
   ·replace c7 := Bool.eq_false_iff.mpr c7
    subst c7
    rw [if_neg (show ¬ (false = true) by decide)] at H
    obtain rfl := Option.some.inj H
    go_enter Try.func49, Try.ntmps49
    go_wp2_with (first | ((with_reducible refine gate_callee (f := 43) rfl ?_); refine goesL_ (some 13) rfl rfl Try.func43 (by kernel_rfl) rfl #[.int .i64 a1, .int .i64 0, .int .i64 3] rfl Z1i ?_; (with_reducible refine (impl_within.calls a1 0 3 false _ A6.out).mono ?_); rintro e w' ⟨rfl, ⟨nd, rfl⟩⟩; refine ⟨_, rfl, ?_⟩))
    go_ret
    exact ⟨Z1d, Z1f⟩
  ·rw [if_neg c5] at H
   have vA : (a0 == 2) = false := beq_eq_false_iff_ne.mpr c5
   have wA : (a0 != 2) = true := bne_iff_ne.mpr c5
   by_cases c8 : a0 = 3
   ·rw [if_pos c8] at H
    have nC : (a0 == 3) = true := beq_iff_eq.mpr c8
    have oC : (a0 != 3) = false := bne_eq_false_iff_eq.mpr c8
    clear c8
    replace H := Option.bind_eq_some_iff.mp H
    obtain ⟨nA, A90, H⟩ := H
    (try dsimp only at H)
    have A9 := Z1c A90
    clear A90
    obtain rfl := Option.some.inj H
    go_enter Try.func49, Try.ntmps49
    go_wp2_with (first | ((with_reducible refine gate_callee (f := 43) rfl ?_); refine goesL_ (some 21) rfl rfl Try.func43 (by kernel_rfl) rfl #[.int .i64 a1, .int .i64 0, .int .i64 2] rfl Z1i ?_; (with_reducible refine (impl_within.calls a1 0 2 nA _ A9.out).mono ?_); rintro e w' ⟨rfl, ⟨nd, rfl⟩⟩; refine ⟨_, rfl, ?_⟩))
    go_ret
    exact ⟨Z1d, Z1f⟩
   ·rw [if_neg c8] at H
    have nC : (a0 == 3) = false := beq_eq_false_iff_ne.mpr c8
    have oC : (a0 != 3) = true := bne_iff_ne.mpr c8
    obtain rfl := Option.some.inj H
    go_enter Try.func49, Try.ntmps49
    go_wp2
    go_ret
    exact ⟨Z1d, Z1f⟩

/-! ### impl_linkCell: function 50 -/
def impl_linkCell.f (a0 : Int) : Option (Int) := some (wrap64 (2 + (wrap64 (2 * a0))))
set_option maxHeartbeats 8000000 in
set_option maxRecDepth 100000 in
theorem impl_linkCell.calls (a0 : Int) (r : Int) (w : World) (h : impl_linkCell.f a0 = some r) :
  Calls Try.prog 50 #[.int .i64 a0] w fun e w' => e = .returned (.int .i64 r) ∧ Drawn0 w w' := by
 have H : (some (wrap64 (2 + (wrap64 (2 * a0))))) = some r := h
 clear h
 obtain rfl := Option.some.inj H
 go_enter Try.func50, Try.ntmps50
 go_wp2
 go_ret
 exact ⟨Z1d, Z1f⟩

/-! ### impl_nodeOf: function 52 -/
def impl_nodeOf.f (a0 : Int) : Option (Int) := some (wrap64 ((wrap64 (Int.tdiv a0 2)) - 1))
set_option maxHeartbeats 8000000 in
set_option maxRecDepth 100000 in
theorem impl_nodeOf.calls (a0 : Int) (r : Int) (w : World) (h : impl_nodeOf.f a0 = some r) :
  Calls Try.prog 52 #[.int .i64 a0] w fun e w' => e = .returned (.int .i64 r) ∧ Drawn0 w w' := by
 have H : (some (wrap64 ((wrap64 (Int.tdiv a0 2)) - 1))) = some r := h
 clear h
 obtain rfl := Option.some.inj H
 go_enter Try.func52, Try.ntmps52
 go_wp2
 go_ret
 exact ⟨Z1d, Z1f⟩

/-! ### impl_isLink: function 51 -/
def impl_isLink.f (a0 : Int) (a1 : Int) : Option (Bool) := if a0 ≥ 0 then ((impl_nodeOf.f a0).bind fun oA => (some (decide (oA < a1)))) else (some false)
set_option maxHeartbeats 8000000 in
set_option maxRecDepth 100000 in
theorem impl_isLink.calls (a0 : Int) (a1 : Int) (r : Bool) (w : World) (h : impl_isLink.f a0 a1 = some r) :
  Calls Try.prog 51 #[.int .i64 a0, .int .i64 a1] w fun e w' => e = .returned (.bool r) ∧ Drawn0 w w' := by
 have H : (if a0 ≥ 0 then ((impl_nodeOf.f a0).bind fun oA => (some (decide (oA < a1)))) else (some false)) = some r := h
 clear h
 by_cases c3 : a0 ≥ 0
 ·rw [if_pos c3] at H
  have sA : decide (0 ≤ a0) = true := decide_eq_true c3
  clear c3
  replace H := Option.bind_eq_some_iff.mp H
  obtain ⟨oA, A40, H⟩ := H
  (try dsimp only at H)
  have A4 := Z1c A40
  clear A40
  obtain rfl := Option.some.inj H
  go_enter Try.func51, Try.ntmps51
  go_wp2_with (first | (go_at_call 52; (with_reducible refine (impl_nodeOf.calls a0 oA _ A4.out).mono ?_); rintro e w' ⟨rfl, ⟨nd, rfl⟩⟩))
  go_ret
  exact ⟨Z1d, Z1f⟩
 ·rw [if_neg c3] at H
  have sA : decide (0 ≤ a0) = false := decide_eq_false c3
  clear c3
  obtain rfl := Option.some.inj H
  go_enter Try.func51, Try.ntmps51
  go_wp2
  go_ret
  exact ⟨Z1d, Z1f⟩

/-! ### impl_keyCell: function 53 -/
def impl_keyCell.f (a0 : Int) : Option (Int) := some (wrap64 (1 + (wrap64 (2 * a0))))
set_option maxHeartbeats 8000000 in
set_option maxRecDepth 100000 in
theorem impl_keyCell.calls (a0 : Int) (r : Int) (w : World) (h : impl_keyCell.f a0 = some r) :
  Calls Try.prog 53 #[.int .i64 a0] w fun e w' => e = .returned (.int .i64 r) ∧ Drawn0 w w' := by
 have H : (some (wrap64 (1 + (wrap64 (2 * a0))))) = some r := h
 clear h
 obtain rfl := Option.some.inj H
 go_enter Try.func53, Try.ntmps53
 go_wp2
 go_ret
 exact ⟨Z1d, Z1f⟩

end Go.Proofs.Ytjikobdblohphaa.PFnListOne
