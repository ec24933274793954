-- Written by the session's own patched copy of the printer (wip/patch_print.py).
import Derived.Test.YtgghglocfdcegaaPFnExactRingGoodx0
namespace Go.Proofs.Ytgghglocfdcegaa.PFnExactRingGood
open Go.RowKit Go.Proofs.YtgghglocfdcegaaW.PrintWords Go.Proofs.YtgghglocfdcegaaW.PrintLast Go.Proofs.YtgghglocfdcegaaW.PrintMore
attribute [local go_sem] max2_int min2_int max_two min_two max_three min_three max_four min_four   -- for this text's walks alone
set_option linter.unusedVariables false
set_option linter.unusedSimpArgs false

theorem q2_0 {p : Prop} (h : p := by repeat (first | (with_reducible first | exact HB.out | apply below_alloc | apply pw_below_drewN | apply below_drew1) | exact HB.out)) : p := h
theorem q2_1 {p : Prop} (h : p := by (with_reducible repeat (first | refine blk_drewN ?_ _ | refine blk_drew ?_ | refine blk_alloc ?_ _)); refine blk_put (cs := #[.int .i64 BA, .int .i64 CA, .int .i64 vA, .int .i64 GA, .int .i64 IA, .int .i64 LA, .int .i64 MA, .int .i64 0]) ?_ 7 _ rfl; (with_reducible repeat (first | refine blk_drewN ?_ _ | refine blk_drew ?_ | refine blk_alloc ?_ _)); refine blk_put (cs := #[.int .i64 BA, .int .i64 CA, .int .i64 vA, .int .i64 GA, .int .i64 IA, .int .i64 LA, .int .i64 0, .int .i64 0]) ?_ 6 _ rfl; (with_reducible repeat (first | refine blk_drewN ?_ _ | refine blk_drew ?_ | refine blk_alloc ?_ _)); refine blk_put (cs := #[.int .i64 BA, .int .i64 CA, .int .i64 vA, .int .i64 GA, .int .i64 IA, .int .i64 0, .int .i64 0, .int .i64 0]) ?_ 5 _ rfl; (with_reducible repeat (first | refine blk_drewN ?_ _ | refine blk_drew ?_ | refine blk_alloc ?_ _)); refine blk_put (cs := #[.int .i64 BA, .int .i64 CA, .int .i64 vA, .int .i64 GA, .int .i64 0, .int .i64 0, .int .i64 0, .int .i64 0]) ?_ 4 _ rfl; (with_reducible repeat (first | refine blk_drewN ?_ _ | refine blk_drew ?_ | refine blk_alloc ?_ _)); refine blk_put (cs := #[.int .i64 BA, .int .i64 CA, .int .i64 vA, .int .i64 0, .int .i64 0, .int .i64 0, .int .i64 0, .int .i64 0]) ?_ 3 _ rfl; (with_reducible repeat (first | refine blk_drewN ?_ _ | refine blk_drew ?_ | refine blk_alloc ?_ _)); refine blk_put (cs := #[.int .i64 BA, .int .i64 CA, .int .i64 0, .int .i64 0, .int .i64 0, .int .i64 0, .int .i64 0, .int .i64 0]) ?_ 2 _ rfl; (with_reducible repeat (first | refine blk_drewN ?_ _ | refine blk_drew ?_ | refine blk_alloc ?_ _)); refine blk_put (cs := #[.int .i64 BA, .int .i64 0, .int .i64 0, .int .i64 0, .int .i64 0, .int .i64 0, .int .i64 0, .int .i64 0]) ?_ 1 _ rfl; (with_reducible repeat (first | refine blk_drewN ?_ _ | refine blk_drew ?_ | refine blk_alloc ?_ _)); refine blk_put (cs := #[.int .i64 0, .int .i64 0, .int .i64 0, .int .i64 0, .int .i64 0, .int .i64 0, .int .i64 0, .int .i64 0]) ?_ 0 _ rfl; (with_reducible repeat (first | refine blk_drewN ?_ _ | refine blk_drew ?_ | refine blk_alloc ?_ _)); exact aA.out) : p := h
theorem q2_2 {p : Prop} (h : p := by repeat (first | (with_reducible first | exact HB.out | apply below_alloc | apply pw_below_drewN | apply below_drew1 | refine below_set ?_ oB.out) | exact HB.out)) : p := h
theorem q2_3 {p : Prop} (h : p := by have := World.block_lt_of_cell? _ _ cA; first | rwa [add_block] at this | exact this) : p := h
theorem q2_4 {p : Prop} (h : p := by repeat (first | exact (Kd.C_below HR0.out HB.out) | (with_reducible refine Kd.C_alloc ?_ _) | (with_reducible refine Kd.C_drewN ?_ _) | (with_reducible refine Kd.C_drew ?_))) : p := h
theorem q2_5 {p : Prop} (h : p := by repeat (first | (with_reducible first | exact HB.out | apply below_alloc | apply pw_below_drewN | apply below_drew1 | refine below_set ?_ CE.out | refine below_set ?_ LF.out) | exact HB.out)) : p := h
theorem q2_6 {p : Prop} (h : p := by (with_reducible repeat (first | refine blk_drewN ?_ _ | refine blk_drew ?_ | refine blk_alloc ?_ _)); exact aA.out) : p := h
theorem q2_7 {p : Prop} (h : p := by (with_reducible repeat (first | refine blk_drewN ?_ _ | refine blk_drew ?_ | refine blk_alloc ?_ _)); exact yA.out) : p := h
theorem q2_8 {p : Prop} (h : p := by (with_reducible repeat (first | refine blk_drewN ?_ _ | refine blk_drew ?_ | refine blk_alloc ?_ _)); exact hA.out) : p := h
theorem q2_9 {p : Prop} (h : p := by first | (with_reducible assumption) | assumption) : p := h
theorem q2_10 {p : Prop} (h : p := by first | rfl | (simp; done) | (simp [*]; done)) : p := h
theorem q2_11 {p : Prop} (h : p := by rw [hg]; exact (below_size q2_0)) : p := h
theorem q2_12 {p : Prop} (h : p := by rw [hg]; exact Nat.ne_of_lt (blk_lt (g := bA) (o := .cells #[.int .i64 BA, .int .i64 CA, .int .i64 vA, .int .i64 GA, .int .i64 IA, .int .i64 LA, .int .i64 MA, .int .i64 VA] 89 (0, 0)) q2_6)) : p := h
theorem q2_13 {p : Prop} (h : p := by rw [hg]; exact Nat.ne_of_gt (blk_lt (g := bA) (o := .cells #[.int .i64 BA, .int .i64 CA, .int .i64 vA, .int .i64 GA, .int .i64 IA, .int .i64 LA, .int .i64 MA, .int .i64 VA] 89 (0, 0)) q2_6)) : p := h
theorem q2_14 {p : Prop} (h : p := by rw [hg]; exact Nat.ne_of_lt (blk_lt (g := uA) (o := .cells #[.int .i64 kA, .int .i64 lA, .int .i64 mA, .int .i64 nA, .int .i64 oA, .int .i64 pA, .int .i64 qA, .int .i64 rA] 89 (0, 0)) q2_8)) : p := h
theorem q2_15 {p : Prop} (h : p := by rw [hg]; exact Nat.ne_of_gt (blk_lt (g := uA) (o := .cells #[.int .i64 kA, .int .i64 lA, .int .i64 mA, .int .i64 nA, .int .i64 oA, .int .i64 pA, .int .i64 qA, .int .i64 rA] 89 (0, 0)) q2_8)) : p := h
theorem q2_16 {p : Prop} (h : p := by rw [hg]; exact Nat.ne_of_lt (blk_lt (g := DA) (o := .cells #[.int .i64 0, .int .i64 0, .int .i64 0, .int .i64 0, .int .i64 0, .int .i64 0, .int .i64 0, .int .i64 0] 89 (0, 0)) q2_7)) : p := h
theorem q2_17 {p : Prop} (h : p := by rw [hg]; exact Nat.ne_of_gt (blk_lt (g := DA) (o := .cells #[.int .i64 0, .int .i64 0, .int .i64 0, .int .i64 0, .int .i64 0, .int .i64 0, .int .i64 0, .int .i64 0] 89 (0, 0)) q2_7)) : p := h
theorem q2_18 {p : Prop} (h : p := by repeat (first | (with_reducible first | exact HB.out | apply below_alloc | apply pw_below_drewN | apply below_drew1 | refine below_set ?_ CE.out | refine below_set ?_ LF.out | refine below_set ?_ zC.out) | exact HB.out)) : p := h
theorem q2_19 {p : Prop} (h : p := by first | (rw [add_block]; exact hn152_0) | (show (Addr.add _ _).block ≠ _; rw [add_block]; exact hn152_0) | exact hn152_0) : p := h
theorem q2_20 {p : Prop} (h : p := by first | (rw [add_block]; exact hn152_1) | (show (Addr.add _ _).block ≠ _; rw [add_block]; exact hn152_1) | exact hn152_1) : p := h
theorem q2_21 {p : Prop} (h : p := by first | (rw [add_block]; exact hn152_2) | (show (Addr.add _ _).block ≠ _; rw [add_block]; exact hn152_2) | exact hn152_2) : p := h
theorem q2_22 {p : Prop} (h : p := by first | (rw [add_block]; exact hn152_3) | (show (Addr.add _ _).block ≠ _; rw [add_block]; exact hn152_3) | exact hn152_3) : p := h
theorem q2_23 {p : Prop} (h : p := by first | (rw [add_block]; exact hn152_4) | (show (Addr.add _ _).block ≠ _; rw [add_block]; exact hn152_4) | exact hn152_4) : p := h
theorem q2_24 {p : Prop} (h : p := by first | (rw [add_block]; exact hn152_5) | (show (Addr.add _ _).block ≠ _; rw [add_block]; exact hn152_5) | exact hn152_5) : p := h
theorem q2_25 {p : Prop} (h : p := by first | (rw [add_block]; exact hn152_6) | (show (Addr.add _ _).block ≠ _; rw [add_block]; exact hn152_6) | exact hn152_6) : p := h
theorem q2_26 {p : Prop} (h : p := by first | (rw [add_block]; exact hn152_7) | (show (Addr.add _ _).block ≠ _; rw [add_block]; exact hn152_7) | exact hn152_7) : p := h
theorem q2_27 {p : Prop} (h : p := by (iterate 8 ((with_reducible repeat (first | refine blk_drewN ?_ _ | refine blk_drew ?_ | refine blk_alloc ?_ _)); refine blk_far ?_ WA.out _)); (with_reducible repeat (first | refine blk_drewN ?_ _ | refine blk_drew ?_ | refine blk_alloc ?_ _)); exact yA.out) : p := h
theorem q2_28 {p : Prop} (h : p := by (iterate 8 ((with_reducible repeat (first | refine blk_drewN ?_ _ | refine blk_drew ?_ | refine blk_alloc ?_ _)); refine blk_far ?_ XA.out _)); (with_reducible repeat (first | refine blk_drewN ?_ _ | refine blk_drew ?_ | refine blk_alloc ?_ _)); exact hA.out) : p := h
theorem q2_29 {p : Prop} (h : p := by first | rfl | (simp [errW_none, errW_some] <;> rfl) | (simp [*, errW_none, errW_some] <;> rfl)) : p := h
theorem q2_30 {p : Prop} (h : p := by rw [hg]; exact (below_size q2_2)) : p := h
theorem q2_31 {p : Prop} (h : p := by repeat (first | (with_reducible first | exact HB.out | apply below_alloc | apply pw_below_drewN | apply below_drew1 | refine below_set ?_ CE.out) | exact HB.out)) : p := h
theorem q2_32 {p : Prop} (h : p := by repeat (first | (with_reducible first | exact HB.out | apply below_alloc | apply pw_below_drewN | apply below_drew1 | refine below_set ?_ DE.out) | exact HB.out)) : p := h
theorem q2_33 {p : Prop} (h : p := by repeat (first | exact HR0.out | (with_reducible refine Kd.C_alloc ?_ _) | (with_reducible refine Kd.C_drewN ?_ _) | (with_reducible refine Kd.C_drew ?_))) : p := h
theorem q2_34 {p : Prop} (h : p := by exact HC0.out) : p := h
theorem q2_35 {p : Prop} (h : p := by rw [hg]; exact (below_size q2_5)) : p := h
/-! ### spec_l08Turn: function 73 -/
def spec_l08Turn.l0 : Nat → Int → Int → Int → List (S89) → Int → Int → Int → Int → Int → Int → Int → Int → Int → Int → Option (Int × Int × Int × Int × Int × Int × Int × Int × Int)
 | 0, _, _, _, _, _, _, _, _, _, _, _, _, _, _ => none
 | k + 1, x1, x2, x9, x13, x14, x15, zB, AB, BB, CB, DB, EB, FB, GB => if x15 < x14 then (if 0 ≤ x15 then (if x15 < (x13.length : Int) then (if ((rd_T89 x13 x15).f1) = x1 then (if ((rd_T89 x13 x15).f3) = 1 then (if ((rd_T89 x13 x15).f5) = x2 then (spec_l08Turn.l0 k x1 x2 (wrap64 (x9 + 1)) x13 x14 (wrap64 (x15 + 1)) ((rd_T89 x13 x15).f0) ((rd_T89 x13 x15).f1) ((rd_T89 x13 x15).f2) ((rd_T89 x13 x15).f3) ((rd_T89 x13 x15).f4) ((rd_T89 x13 x15).f5) ((rd_T89 x13 x15).f6) ((rd_T89 x13 x15).f7)) else (spec_l08Turn.l0 k x1 x2 x9 x13 x14 (wrap64 (x15 + 1)) zB AB BB CB DB EB FB GB)) else (spec_l08Turn.l0 k x1 x2 x9 x13 x14 (wrap64 (x15 + 1)) zB AB BB CB DB EB FB GB)) else (spec_l08Turn.l0 k x1 x2 x9 x13 x14 (wrap64 (x15 + 1)) zB AB BB CB DB EB FB GB)) else (none)) else (none)) else (some (zB, AB, BB, CB, DB, EB, FB, GB, x9))
def spec_l08Turn.f (k : Nat) (l0 : List (S89)) (a1 : Int) (a2 : Int) : Option (Int × Int × Int × Int × Int × Int × Int × Int × Int) := spec_l08Turn.l0 k a1 a2 0 l0 (l0.length : Int) 0 0 0 0 0 0 0 0 0
theorem spec_l08Turn.mono_l : ∀ k, (∀ y0 y1 y2 y3 y4 y5 y6 y7 y8 y9 y10 y11 y12 y13, LeO (spec_l08Turn.l0 k y0 y1 y2 y3 y4 y5 y6 y7 y8 y9 y10 y11 y12 y13) (spec_l08Turn.l0 (k + 1) y0 y1 y2 y3 y4 y5 y6 y7 y8 y9 y10 y11 y12 y13))
 | 0 => fun _ _ _ _ _ _ _ _ _ _ _ _ _ _ r h => by simp [spec_l08Turn.l0] at h
 | k + 1 => by
  have ih0 := spec_l08Turn.mono_l k
  ·intro y0 y1 y2 y3 y4 y5 y6 y7 y8 y9 y10 y11 y12 y13
   unfold spec_l08Turn.l0
   repeat' first
   | (with_reducible exact ih0 _ _ _ _ _ _ _ _ _ _ _ _ _ _)
   | (with_reducible exact LeO.refl _)
   | (with_reducible exact LeO.none _)
   | (with_reducible refine LeO.ite ?_ ?_)
   | (with_reducible refine LeO.bind ?_ (fun _ => ?_))
   | exact ih0 _ _ _ _ _ _ _ _ _ _ _ _ _ _
   | exact LeO.none _
   | refine LeO.ite ?_ ?_
   | refine LeO.bind ?_ (fun _ => ?_)
theorem spec_l08Turn.mono : ∀ a0 a1 a2 k, LeO (spec_l08Turn.f k a0 a1 a2) (spec_l08Turn.f (k + 1) a0 a1 a2) := by
 intro a0 a1 a2 k
 have ih0 := spec_l08Turn.mono_l k
 unfold spec_l08Turn.f
 repeat' first
   | (with_reducible exact ih0 _ _ _ _ _ _ _ _ _ _ _ _ _ _)
   | (with_reducible exact LeO.refl _)
   | (with_reducible exact LeO.none _)
   | (with_reducible refine LeO.ite ?_ ?_)
   | (with_reducible refine LeO.bind ?_ (fun _ => ?_))
   | exact ih0 _ _ _ _ _ _ _ _ _ _ _ _ _ _
   | exact LeO.none _
   | refine LeO.ite ?_ ?_
   | refine LeO.bind ?_ (fun _ => ?_)
set_option maxHeartbeats 8000000 in
set_option maxRecDepth 100000 in
theorem spec_l08Turn.calls (k : Nat) (A0 : Option Addr) (c0 : Nat) (l0 : List (S89)) (a1 : Int) (a2 : Int) (r1 : Int) (r2 : Int) (r3 : Int) (r4 : Int) (r5 : Int) (r6 : Int) (r7 : Int) (r8 : Int) (r9 : Int) (w : World) (hr0 : Kd.C k89 w A0 l0.length l0) (hc0 : l0.length ≤ c0) (h : spec_l08Turn.f k l0 a1 a2 = some (r1, r2, r3, r4, r5, r6, r7, r8, r9)) :
  Calls Try.prog 73 #[.slice A0 l0.length c0, .int .i64 a1, .int .i64 a2] w fun e w' => e = .returned (.tuple #[.agg #[.int .i64 r1, .int .i64 r2, .int .i64 r3, .int .i64 r4, .int .i64 r5, .int .i64 r6, .int .i64 r7, .int .i64 r8], .int .i64 r9]) ∧ Below w.heap.size w w' := by
 have hu89 := Try.underlying89
 have HR0 := Aside0.mk hr0
 clear hr0 hc0
 have HB := Aside0.mk (Below.refl w.heap.size w)
 have H : (spec_l08Turn.l0 k a1 a2 0 l0 (l0.length : Int) 0 0 0 0 0 0 0 0 0) = some (r1, r2, r3, r4, r5, r6, r7, r8, r9) := h
 clear h
 have H' := Aside0.mk H
 clear H
 go_enter Try.func73, Try.ntmps73
 go_wp2_with (first | ((with_reducible refine gate_dst (N := 6) rfl ?_); refine box_event ?hg (N := 6) ?hd (cs := #[.int .i64 0, .int .i64 0, .int .i64 0, .int .i64 0, .int .i64 0, .int .i64 0, .int .i64 0, .int .i64 0]) (t := 89) ?hr ?_; (case hd => rfl); (case hg => rfl); (case hr => first | (go_simp; done) | (go_simp; rfl)); intro DA hg w4 hbox hb; have sA := Aside0.mk (below_step q2_0 hb); have wA := Aside0.mk (hbox); have EA := Aside0.mk ((q2_11 : w.heap.size ≤ DA)); have FA := Aside0.mk ((q2_11 : w.heap.size ≤ DA)); clear HB; have HB := sA; have yA := wA; have GI := EA; have CE := FA; clear sA wA EA FA; clear hb hbox hg) | ((with_reducible refine gate_dst (N := 8) rfl ?_); refine box_event ?hg (N := 8) ?hd (cs := #[.int .i64 0, .int .i64 0, .int .i64 0, .int .i64 0, .int .i64 0, .int .i64 0, .int .i64 0, .int .i64 0]) (t := 89) ?hr ?_; (case hd => rfl); (case hg => rfl); (case hr => first | (go_simp; done) | (go_simp; rfl)); intro uA hg w5 hbox hb; have sA := Aside0.mk (blk_below (g := DA) (o := .cells #[.int .i64 0, .int .i64 0, .int .i64 0, .int .i64 0, .int .i64 0, .int .i64 0, .int .i64 0, .int .i64 0] 89 (0, 0)) q2_7 hb); have wA := Aside0.mk (below_step q2_31 hb); have EA := Aside0.mk (hbox); have FA := Aside0.mk ((by rw [hg]; exact (below_size q2_31) : w.heap.size ≤ uA)); have sB := Aside0.mk ((by rw [hg]; exact (below_size q2_31) : w.heap.size ≤ uA)); have tB := Aside0.mk ((q2_16 : DA ≠ uA)); have uB := Aside0.mk ((q2_17 : uA ≠ DA)); clear yA HB; have yA := sA; have HB := wA; have hA := EA; have HI := FA; have LF := sB; have pB := tB; have vB := uB; clear sA wA EA FA sB tB uB; clear hb hbox hg; have hJ := vB.out; have iJ := pB.out; have WF : w5.cell? ⟨uA, 0, none⟩ = some (.int .i64 0) := (blk_cell hA.out 0).trans rfl; have XF : w5.cell? ⟨uA, 1, none⟩ = some (.int .i64 0) := (blk_cell hA.out 1).trans rfl; have YF : w5.cell? ⟨uA, 2, none⟩ = some (.int .i64 0) := (blk_cell hA.out 2).trans rfl; have ZF : w5.cell? ⟨uA, 3, none⟩ = some (.int .i64 0) := (blk_cell hA.out 3).trans rfl; have aG : w5.cell? ⟨uA, 4, none⟩ = some (.int .i64 0) := (blk_cell hA.out 4).trans rfl; have bG : w5.cell? ⟨uA, 5, none⟩ = some (.int .i64 0) := (blk_cell hA.out 5).trans rfl; have cG : w5.cell? ⟨uA, 6, none⟩ = some (.int .i64 0) := (blk_cell hA.out 6).trans rfl; have dG : w5.cell? ⟨uA, 7, none⟩ = some (.int .i64 0) := (blk_cell hA.out 7).trans rfl; have eG := blk_frozen hA.out 0; have fG := blk_frozen hA.out 1; have gG := blk_frozen hA.out 2; have hG := blk_frozen hA.out 3; have iG := blk_frozen hA.out 4; have jG := blk_frozen hA.out 5; have kG := blk_frozen hA.out 6; have lG := blk_frozen hA.out 7))
 go_loopg [9, 15] k (fun kq v9 v15 w' => ∃ (wC : Int) (eA : Int) (kA : Int) (lA : Int) (mA : Int) (nA : Int) (oA : Int) (pA : Int) (qA : Int) (rA : Int), v9 = .int .i64 wC ∧ v15 = .int .i64 eA ∧ Aside0 (spec_l08Turn.l0 kq a1 a2 wC l0 (l0.length : Int) eA kA lA mA nA oA pA qA rA = some (r1, r2, r3, r4, r5, r6, r7, r8, r9)) ∧ Aside0 (kq ≤ k) ∧ Aside0 (w'.heap[DA]? = some (.cells #[.int .i64 0, .int .i64 0, .int .i64 0, .int .i64 0, .int .i64 0, .int .i64 0, .int .i64 0, .int .i64 0] 89 (0, 0))) ∧ Aside0 (w'.heap[uA]? = some (.cells #[.int .i64 kA, .int .i64 lA, .int .i64 mA, .int .i64 nA, .int .i64 oA, .int .i64 pA, .int .i64 qA, .int .i64 rA] 89 (0, 0))) ∧ Aside0 (Below w.heap.size w w'))
 case atStart => exact ⟨(0), (0), (0), (0), (0), (0), (0), (0), (0), (0), q2_10, q2_10, H', ⟨Nat.le_refl _⟩, ⟨by (iterate 8 ((with_reducible repeat (first | refine blk_drewN ?_ _ | refine blk_drew ?_ | refine blk_alloc ?_ _)); refine blk_far ?_ pB.out _)); (with_reducible repeat (first | refine blk_drewN ?_ _ | refine blk_drew ?_ | refine blk_alloc ?_ _)); exact yA.out⟩, ⟨by (with_reducible repeat (first | refine blk_drewN ?_ _ | refine blk_drew ?_ | refine blk_alloc ?_ _)); refine blk_put (cs := #[.int .i64 0, .int .i64 0, .int .i64 0, .int .i64 0, .int .i64 0, .int .i64 0, .int .i64 0, .int .i64 0]) ?_ 7 _ rfl; (with_reducible repeat (first | refine blk_drewN ?_ _ | refine blk_drew ?_ | refine blk_alloc ?_ _)); refine blk_put (cs := #[.int .i64 0, .int .i64 0, .int .i64 0, .int .i64 0, .int .i64 0, .int .i64 0, .int .i64 0, .int .i64 0]) ?_ 6 _ rfl; (with_reducible repeat (first | refine blk_drewN ?_ _ | refine blk_drew ?_ | refine blk_alloc ?_ _)); refine blk_put (cs := #[.int .i64 0, .int .i64 0, .int .i64 0, .int .i64 0, .int .i64 0, .int .i64 0, .int .i64 0, .int .i64 0]) ?_ 5 _ rfl; (with_reducible repeat (first | refine blk_drewN ?_ _ | refine blk_drew ?_ | refine blk_alloc ?_ _)); refine blk_put (cs := #[.int .i64 0, .int .i64 0, .int .i64 0, .int .i64 0, .int .i64 0, .int .i64 0, .int .i64 0, .int .i64 0]) ?_ 4 _ rfl; (with_reducible repeat (first | refine blk_drewN ?_ _ | refine blk_drew ?_ | refine blk_alloc ?_ _)); refine blk_put (cs := #[.int .i64 0, .int .i64 0, .int .i64 0, .int .i64 0, .int .i64 0, .int .i64 0, .int .i64 0, .int .i64 0]) ?_ 3 _ rfl; (with_reducible repeat (first | refine blk_drewN ?_ _ | refine blk_drew ?_ | refine blk_alloc ?_ _)); refine blk_put (cs := #[.int .i64 0, .int .i64 0, .int .i64 0, .int .i64 0, .int .i64 0, .int .i64 0, .int .i64 0, .int .i64 0]) ?_ 2 _ rfl; (with_reducible repeat (first | refine blk_drewN ?_ _ | refine blk_drew ?_ | refine blk_alloc ?_ _)); refine blk_put (cs := #[.int .i64 0, .int .i64 0, .int .i64 0, .int .i64 0, .int .i64 0, .int .i64 0, .int .i64 0, .int .i64 0]) ?_ 1 _ rfl; (with_reducible repeat (first | refine blk_drewN ?_ _ | refine blk_drew ?_ | refine blk_alloc ?_ _)); refine blk_put (cs := #[.int .i64 0, .int .i64 0, .int .i64 0, .int .i64 0, .int .i64 0, .int .i64 0, .int .i64 0, .int .i64 0]) ?_ 0 _ rfl; (with_reducible repeat (first | refine blk_drewN ?_ _ | refine blk_drew ?_ | refine blk_alloc ?_ _)); exact hA.out⟩, ⟨q2_5⟩⟩
 case round =>
  clear H'
  (try clear p2); (try clear c6); (try clear c7); (try clear WF); (try clear XF); (try clear YF); (try clear ZF); (try clear aG); (try clear bG); (try clear cG); (try clear dG); (try clear eG); (try clear fG); (try clear gG); (try clear hG); (try clear iG); (try clear jG); (try clear kG); (try clear lG)
  obtain ⟨wC, eA, kA, lA, mA, nA, oA, pA, qA, rA, rfl, rfl, HA, HK1, yA, hA, HB⟩ := hrel
  cases gk with
  | zero => exact absurd HA.out (by simp [spec_l08Turn.l0])
  | succ k1 =>
   have H := HA.out
   clear HA
   simp only [spec_l08Turn.l0] at H
   by_cases c8 : eA < (l0.length : Int)
   ·rw [if_pos c8] at H
    have NB : decide (eA < (l0.length : Int)) = true := decide_eq_true c8
    clear c8
    by_cases c9 : 0 ≤ eA
    ·rw [if_pos c9] at H
     have OE : decide (0 ≤ eA) = true := decide_eq_true c9
     clear c9
     by_cases c10 : eA < (l0.length : Int)
     ·rw [if_pos c10] at H
      have AC : decide (eA < (l0.length : Int)) = true := decide_eq_true c10
      clear c10
      by_cases c11 : ((rd_T89 l0 eA).f1) = a1
      ·rw [if_pos c11] at H
       have CG : (((rd_T89 l0 eA).f1) == a1) = true := beq_iff_eq.mpr c11
       have DG : (((rd_T89 l0 eA).f1) != a1) = false := bne_eq_false_iff_eq.mpr c11
       clear c11
       by_cases c12 : ((rd_T89 l0 eA).f3) = 1
       ·rw [if_pos c12] at H
        have EE : (((rd_T89 l0 eA).f3) == 1) = true := beq_iff_eq.mpr c12
        have EG : (((rd_T89 l0 eA).f3) != 1) = false := bne_eq_false_iff_eq.mpr c12
        clear c12
        by_cases c13 : ((rd_T89 l0 eA).f5) = a2
        ·rw [if_pos c13] at H
         have FG : (((rd_T89 l0 eA).f5) == a2) = true := beq_iff_eq.mpr c13
         have GG : (((rd_T89 l0 eA).f5) != a2) = false := bne_eq_false_iff_eq.mpr c13
         clear c13
         have H' := Aside0.mk H
         clear H
         have p126 : 0 ≤ (eA : Int) := of_decide_eq_true q2_9
         have q126 : eA < (l0.length : Int) := of_decide_eq_true q2_9
         obtain ⟨ad126, xC, NA, OA, PA, QA, RA, SA, TA, UA⟩ := at_T89 HR0.out eA p126 q126
         cases xC
         replace NA := (HB.out.cell (World.block_lt_of_cell? w _ NA)).trans NA
         replace OA := (HB.out.cell (World.block_lt_of_cell? w _ OA)).trans OA
         replace PA := (HB.out.cell (World.block_lt_of_cell? w _ PA)).trans PA
         replace QA := (HB.out.cell (World.block_lt_of_cell? w _ QA)).trans QA
         replace RA := (HB.out.cell (World.block_lt_of_cell? w _ RA)).trans RA
         replace SA := (HB.out.cell (World.block_lt_of_cell? w _ SA)).trans SA
         replace TA := (HB.out.cell (World.block_lt_of_cell? w _ TA)).trans TA
         replace UA := (HB.out.cell (World.block_lt_of_cell? w _ UA)).trans UA
         replace p126 := eq_true p126
         replace q126 := eq_true q126
         go_wp2_with (first | ((with_reducible refine gate_dst (N := 11) rfl ?_); refine box_event ?hg (N := 11) ?hd (cs := #[.int .i64 0, .int .i64 0, .int .i64 0, .int .i64 0, .int .i64 0, .int .i64 0, .int .i64 0, .int .i64 0]) (t := 89) ?hr ?_; (case hd => rfl); (case hg => rfl); (case hr => first | (go_simp; done) | (go_simp; rfl)); intro iA hg vC hbox hb; have sA := Aside0.mk (blk_below (g := DA) (o := .cells #[.int .i64 0, .int .i64 0, .int .i64 0, .int .i64 0, .int .i64 0, .int .i64 0, .int .i64 0, .int .i64 0] 89 (0, 0)) q2_7 hb); have wA := Aside0.mk (blk_below (g := uA) (o := .cells #[.int .i64 kA, .int .i64 lA, .int .i64 mA, .int .i64 nA, .int .i64 oA, .int .i64 pA, .int .i64 qA, .int .i64 rA] 89 (0, 0)) q2_8 hb); have EA := Aside0.mk (below_step q2_5 hb); have FA := Aside0.mk (hbox); have sB := Aside0.mk ((q2_35 : w.heap.size ≤ iA)); have tB := Aside0.mk ((q2_35 : w.heap.size ≤ iA)); have uB := Aside0.mk ((q2_16 : DA ≠ iA)); have FE := Aside0.mk ((q2_17 : iA ≠ DA)); have GE := Aside0.mk ((q2_14 : uA ≠ iA)); have HE := Aside0.mk ((q2_15 : iA ≠ uA)); clear yA hA HB; have yA := sA; have hA := wA; have HB := EA; have gA := FA; have IE := sB; have zC := tB; have WA := uB; have kB := FE; have XA := GE; have lB := HE; clear sA wA EA FA sB tB uB FE GE HE; clear hb hbox hg; have II := kB.out; have JI := WA.out; have KI := lB.out; have LI := XA.out; have cH : vC.cell? ⟨iA, 0, none⟩ = some (.int .i64 0) := (blk_cell gA.out 0).trans rfl; have dH : vC.cell? ⟨iA, 1, none⟩ = some (.int .i64 0) := (blk_cell gA.out 1).trans rfl; have eH : vC.cell? ⟨iA, 2, none⟩ = some (.int .i64 0) := (blk_cell gA.out 2).trans rfl; have fH : vC.cell? ⟨iA, 3, none⟩ = some (.int .i64 0) := (blk_cell gA.out 3).trans rfl; have gH : vC.cell? ⟨iA, 4, none⟩ = some (.int .i64 0) := (blk_cell gA.out 4).trans rfl; have hH : vC.cell? ⟨iA, 5, none⟩ = some (.int .i64 0) := (blk_cell gA.out 5).trans rfl; have iH : vC.cell? ⟨iA, 6, none⟩ = some (.int .i64 0) := (blk_cell gA.out 6).trans rfl; have jH : vC.cell? ⟨iA, 7, none⟩ = some (.int .i64 0) := (blk_cell gA.out 7).trans rfl; have kH := blk_frozen gA.out 0; have lH := blk_frozen gA.out 1; have mH := blk_frozen gA.out 2; have nH := blk_frozen gA.out 3; have oH := blk_frozen gA.out 4; have pH := blk_frozen gA.out 5; have qH := blk_frozen gA.out 6; have rH := blk_frozen gA.out 7; have MI := vB.out; have NI := pB.out; have PE : vC.cell? ⟨uA, 0, none⟩ = some (.int .i64 kA) := (blk_cell hA.out 0).trans rfl; have QE : vC.cell? ⟨uA, 1, none⟩ = some (.int .i64 lA) := (blk_cell hA.out 1).trans rfl; have RE : vC.cell? ⟨uA, 2, none⟩ = some (.int .i64 mA) := (blk_cell hA.out 2).trans rfl; have SE : vC.cell? ⟨uA, 3, none⟩ = some (.int .i64 nA) := (blk_cell hA.out 3).trans rfl; have TE : vC.cell? ⟨uA, 4, none⟩ = some (.int .i64 oA) := (blk_cell hA.out 4).trans rfl; have UE : vC.cell? ⟨uA, 5, none⟩ = some (.int .i64 pA) := (blk_cell hA.out 5).trans rfl; have VE : vC.cell? ⟨uA, 6, none⟩ = some (.int .i64 qA) := (blk_cell hA.out 6).trans rfl; have WE : vC.cell? ⟨uA, 7, none⟩ = some (.int .i64 rA) := (blk_cell hA.out 7).trans rfl; have XE := blk_frozen hA.out 0; have YE := blk_frozen hA.out 1; have ZE := blk_frozen hA.out 2; have aF := blk_frozen hA.out 3; have bF := blk_frozen hA.out 4; have cF := blk_frozen hA.out 5; have dF := blk_frozen hA.out 6; have eF := blk_frozen hA.out 7))
         go_roundg k1
         case measure => have := HK1.out; omega
         case rel => exact ⟨(wrap64 (wC + 1)), (wrap64 (eA + 1)), ((rd_T89 l0 eA).f0), ((rd_T89 l0 eA).f1), ((rd_T89 l0 eA).f2), ((rd_T89 l0 eA).f3), ((rd_T89 l0 eA).f4), ((rd_T89 l0 eA).f5), ((rd_T89 l0 eA).f6), ((rd_T89 l0 eA).f7), q2_10, q2_10, H', ⟨by have := HK1.out; omega⟩, ⟨by (iterate 8 ((with_reducible repeat (first | refine blk_drewN ?_ _ | refine blk_drew ?_ | refine blk_alloc ?_ _)); refine blk_far ?_ pB.out _)); (iterate 8 ((with_reducible repeat (first | refine blk_drewN ?_ _ | refine blk_drew ?_ | refine blk_alloc ?_ _)); refine blk_far ?_ WA.out _)); (with_reducible repeat (first | refine blk_drewN ?_ _ | refine blk_drew ?_ | refine blk_alloc ?_ _)); exact yA.out⟩, ⟨by (with_reducible repeat (first | refine blk_drewN ?_ _ | refine blk_drew ?_ | refine blk_alloc ?_ _)); refine blk_put (cs := #[.int .i64 ((rd_T89 l0 eA).f0), .int .i64 ((rd_T89 l0 eA).f1), .int .i64 ((rd_T89 l0 eA).f2), .int .i64 ((rd_T89 l0 eA).f3), .int .i64 ((rd_T89 l0 eA).f4), .int .i64 ((rd_T89 l0 eA).f5), .int .i64 ((rd_T89 l0 eA).f6), .int .i64 rA]) ?_ 7 _ rfl; (with_reducible repeat (first | refine blk_drewN ?_ _ | refine blk_drew ?_ | refine blk_alloc ?_ _)); refine blk_put (cs := #[.int .i64 ((rd_T89 l0 eA).f0), .int .i64 ((rd_T89 l0 eA).f1), .int .i64 ((rd_T89 l0 eA).f2), .int .i64 ((rd_T89 l0 eA).f3), .int .i64 ((rd_T89 l0 eA).f4), .int .i64 ((rd_T89 l0 eA).f5), .int .i64 qA, .int .i64 rA]) ?_ 6 _ rfl; (with_reducible repeat (first | refine blk_drewN ?_ _ | refine blk_drew ?_ | refine blk_alloc ?_ _)); refine blk_put (cs := #[.int .i64 ((rd_T89 l0 eA).f0), .int .i64 ((rd_T89 l0 eA).f1), .int .i64 ((rd_T89 l0 eA).f2), .int .i64 ((rd_T89 l0 eA).f3), .int .i64 ((rd_T89 l0 eA).f4), .int .i64 pA, .int .i64 qA, .int .i64 rA]) ?_ 5 _ rfl; (with_reducible repeat (first | refine blk_drewN ?_ _ | refine blk_drew ?_ | refine blk_alloc ?_ _)); refine blk_put (cs := #[.int .i64 ((rd_T89 l0 eA).f0), .int .i64 ((rd_T89 l0 eA).f1), .int .i64 ((rd_T89 l0 eA).f2), .int .i64 ((rd_T89 l0 eA).f3), .int .i64 oA, .int .i64 pA, .int .i64 qA, .int .i64 rA]) ?_ 4 _ rfl; (with_reducible repeat (first | refine blk_drewN ?_ _ | refine blk_drew ?_ | refine blk_alloc ?_ _)); refine blk_put (cs := #[.int .i64 ((rd_T89 l0 eA).f0), .int .i64 ((rd_T89 l0 eA).f1), .int .i64 ((rd_T89 l0 eA).f2), .int .i64 nA, .int .i64 oA, .int .i64 pA, .int .i64 qA, .int .i64 rA]) ?_ 3 _ rfl; (with_reducible repeat (first | refine blk_drewN ?_ _ | refine blk_drew ?_ | refine blk_alloc ?_ _)); refine blk_put (cs := #[.int .i64 ((rd_T89 l0 eA).f0), .int .i64 ((rd_T89 l0 eA).f1), .int .i64 mA, .int .i64 nA, .int .i64 oA, .int .i64 pA, .int .i64 qA, .int .i64 rA]) ?_ 2 _ rfl; (with_reducible repeat (first | refine blk_drewN ?_ _ | refine blk_drew ?_ | refine blk_alloc ?_ _)); refine blk_put (cs := #[.int .i64 ((rd_T89 l0 eA).f0), .int .i64 lA, .int .i64 mA, .int .i64 nA, .int .i64 oA, .int .i64 pA, .int .i64 qA, .int .i64 rA]) ?_ 1 _ rfl; (with_reducible repeat (first | refine blk_drewN ?_ _ | refine blk_drew ?_ | refine blk_alloc ?_ _)); refine blk_put (cs := #[.int .i64 kA, .int .i64 lA, .int .i64 mA, .int .i64 nA, .int .i64 oA, .int .i64 pA, .int .i64 qA, .int .i64 rA]) ?_ 0 _ rfl; (iterate 8 ((with_reducible repeat (first | refine blk_drewN ?_ _ | refine blk_drew ?_ | refine blk_alloc ?_ _)); refine blk_far ?_ XA.out _)); (with_reducible repeat (first | refine blk_drewN ?_ _ | refine blk_drew ?_ | refine blk_alloc ?_ _)); exact hA.out⟩, ⟨q2_18⟩⟩
        ·rw [if_neg c13] at H
         have FG : (((rd_T89 l0 eA).f5) == a2) = false := beq_eq_false_iff_ne.mpr c13
         have GG : (((rd_T89 l0 eA).f5) != a2) = true := bne_iff_ne.mpr c13
         have H' := Aside0.mk H
         clear H
         have p126 : 0 ≤ (eA : Int) := of_decide_eq_true q2_9
         have q126 : eA < (l0.length : Int) := of_decide_eq_true q2_9
         obtain ⟨ad126, xC, NA, OA, PA, QA, RA, SA, TA, UA⟩ := at_T89 HR0.out eA p126 q126
         cases xC
         replace NA := (HB.out.cell (World.block_lt_of_cell? w _ NA)).trans NA
         replace OA := (HB.out.cell (World.block_lt_of_cell? w _ OA)).trans OA
         replace PA := (HB.out.cell (World.block_lt_of_cell? w _ PA)).trans PA
         replace QA := (HB.out.cell (World.block_lt_of_cell? w _ QA)).trans QA
         replace RA := (HB.out.cell (World.block_lt_of_cell? w _ RA)).trans RA
         replace SA := (HB.out.cell (World.block_lt_of_cell? w _ SA)).trans SA
         replace TA := (HB.out.cell (World.block_lt_of_cell? w _ TA)).trans TA
         replace UA := (HB.out.cell (World.block_lt_of_cell? w _ UA)).trans UA
         replace p126 := eq_true p126
         replace q126 := eq_true q126
         go_wp2_with (first | ((with_reducible refine gate_dst (N := 11) rfl ?_); refine box_event ?hg (N := 11) ?hd (cs := #[.int .i64 0, .int .i64 0, .int .i64 0, .int .i64 0, .int .i64 0, .int .i64 0, .int .i64 0, .int .i64 0]) (t := 89) ?hr ?_; (case hd => rfl); (case hg => rfl); (case hr => first | (go_simp; done) | (go_simp; rfl)); intro iA hg qB hbox hb; have sA := Aside0.mk (blk_below (g := DA) (o := .cells #[.int .i64 0, .int .i64 0, .int .i64 0, .int .i64 0, .int .i64 0, .int .i64 0, .int .i64 0, .int .i64 0] 89 (0, 0)) q2_7 hb); have wA := Aside0.mk (blk_below (g := uA) (o := .cells #[.int .i64 kA, .int .i64 lA, .int .i64 mA, .int .i64 nA, .int .i64 oA, .int .i64 pA, .int .i64 qA, .int .i64 rA] 89 (0, 0)) q2_8 hb); have EA := Aside0.mk (below_step q2_5 hb); have FA := Aside0.mk (hbox); have sB := Aside0.mk ((q2_35 : w.heap.size ≤ iA)); have tB := Aside0.mk ((q2_35 : w.heap.size ≤ iA)); have uB := Aside0.mk ((q2_16 : DA ≠ iA)); have FE := Aside0.mk ((q2_17 : iA ≠ DA)); have GE := Aside0.mk ((q2_14 : uA ≠ iA)); have HE := Aside0.mk ((q2_15 : iA ≠ uA)); clear yA hA HB; have yA := sA; have hA := wA; have HB := EA; have gA := FA; have IE := sB; have zC := tB; have WA := uB; have kB := FE; have XA := GE; have lB := HE; clear sA wA EA FA sB tB uB FE GE HE; clear hb hbox hg; have OI := kB.out; have PI := WA.out; have QI := lB.out; have RI := XA.out; have sH : qB.cell? ⟨iA, 0, none⟩ = some (.int .i64 0) := (blk_cell gA.out 0).trans rfl; have tH : qB.cell? ⟨iA, 1, none⟩ = some (.int .i64 0) := (blk_cell gA.out 1).trans rfl; have uH : qB.cell? ⟨iA, 2, none⟩ = some (.int .i64 0) := (blk_cell gA.out 2).trans rfl; have vH : qB.cell? ⟨iA, 3, none⟩ = some (.int .i64 0) := (blk_cell gA.out 3).trans rfl; have wH : qB.cell? ⟨iA, 4, none⟩ = some (.int .i64 0) := (blk_cell gA.out 4).trans rfl; have xH : qB.cell? ⟨iA, 5, none⟩ = some (.int .i64 0) := (blk_cell gA.out 5).trans rfl; have yH : qB.cell? ⟨iA, 6, none⟩ = some (.int .i64 0) := (blk_cell gA.out 6).trans rfl; have zH : qB.cell? ⟨iA, 7, none⟩ = some (.int .i64 0) := (blk_cell gA.out 7).trans rfl; have AH := blk_frozen gA.out 0; have BH := blk_frozen gA.out 1; have CH := blk_frozen gA.out 2; have DH := blk_frozen gA.out 3; have EH := blk_frozen gA.out 4; have FH := blk_frozen gA.out 5; have GH := blk_frozen gA.out 6; have HH := blk_frozen gA.out 7))
         go_roundg k1
         case measure => have := HK1.out; omega
         case rel => exact ⟨(wC), (wrap64 (eA + 1)), (kA), (lA), (mA), (nA), (oA), (pA), (qA), (rA), q2_10, q2_10, H', ⟨by have := HK1.out; omega⟩, ⟨q2_27⟩, ⟨q2_28⟩, ⟨q2_18⟩⟩
       ·rw [if_neg c12] at H
        have EE : (((rd_T89 l0 eA).f3) == 1) = false := beq_eq_false_iff_ne.mpr c12
        have EG : (((rd_T89 l0 eA).f3) != 1) = true := bne_iff_ne.mpr c12
        have H' := Aside0.mk H
        clear H
        have p126 : 0 ≤ (eA : Int) := of_decide_eq_true q2_9
        have q126 : eA < (l0.length : Int) := of_decide_eq_true q2_9
        obtain ⟨ad126, xC, NA, OA, PA, QA, RA, SA, TA, UA⟩ := at_T89 HR0.out eA p126 q126
        cases xC
        replace NA := (HB.out.cell (World.block_lt_of_cell? w _ NA)).trans NA
        replace OA := (HB.out.cell (World.block_lt_of_cell? w _ OA)).trans OA
        replace PA := (HB.out.cell (World.block_lt_of_cell? w _ PA)).trans PA
        replace QA := (HB.out.cell (World.block_lt_of_cell? w _ QA)).trans QA
        replace RA := (HB.out.cell (World.block_lt_of_cell? w _ RA)).trans RA
        replace SA := (HB.out.cell (World.block_lt_of_cell? w _ SA)).trans SA
        replace TA := (HB.out.cell (World.block_lt_of_cell? w _ TA)).trans TA
        replace UA := (HB.out.cell (World.block_lt_of_cell? w _ UA)).trans UA
        replace p126 := eq_true p126
        replace q126 := eq_true q126
        go_wp2_with (first | ((with_reducible refine gate_dst (N := 11) rfl ?_); refine box_event ?hg (N := 11) ?hd (cs := #[.int .i64 0, .int .i64 0, .int .i64 0, .int .i64 0, .int .i64 0, .int .i64 0, .int .i64 0, .int .i64 0]) (t := 89) ?hr ?_; (case hd => rfl); (case hg => rfl); (case hr => first | (go_simp; done) | (go_simp; rfl)); intro iA hg MF hbox hb; have sA := Aside0.mk (blk_below (g := DA) (o := .cells #[.int .i64 0, .int .i64 0, .int .i64 0, .int .i64 0, .int .i64 0, .int .i64 0, .int .i64 0, .int .i64 0] 89 (0, 0)) q2_7 hb); have wA := Aside0.mk (blk_below (g := uA) (o := .cells #[.int .i64 kA, .int .i64 lA, .int .i64 mA, .int .i64 nA, .int .i64 oA, .int .i64 pA, .int .i64 qA, .int .i64 rA] 89 (0, 0)) q2_8 hb); have EA := Aside0.mk (below_step q2_5 hb); have FA := Aside0.mk (hbox); have sB := Aside0.mk ((q2_35 : w.heap.size ≤ iA)); have tB := Aside0.mk ((q2_35 : w.heap.size ≤ iA)); have uB := Aside0.mk ((q2_16 : DA ≠ iA)); have FE := Aside0.mk ((q2_17 : iA ≠ DA)); have GE := Aside0.mk ((q2_14 : uA ≠ iA)); have HE := Aside0.mk ((q2_15 : iA ≠ uA)); clear yA hA HB; have yA := sA; have hA := wA; have HB := EA; have gA := FA; have IE := sB; have zC := tB; have WA := uB; have kB := FE; have XA := GE; have lB := HE; clear sA wA EA FA sB tB uB FE GE HE; clear hb hbox hg; have SI := kB.out; have TI := WA.out; have UI := lB.out; have VI := XA.out; have IH : MF.cell? ⟨iA, 0, none⟩ = some (.int .i64 0) := (blk_cell gA.out 0).trans rfl; have JH : MF.cell? ⟨iA, 1, none⟩ = some (.int .i64 0) := (blk_cell gA.out 1).trans rfl; have KH : MF.cell? ⟨iA, 2, none⟩ = some (.int .i64 0) := (blk_cell gA.out 2).trans rfl; have LH : MF.cell? ⟨iA, 3, none⟩ = some (.int .i64 0) := (blk_cell gA.out 3).trans rfl; have MH : MF.cell? ⟨iA, 4, none⟩ = some (.int .i64 0) := (blk_cell gA.out 4).trans rfl; have NH : MF.cell? ⟨iA, 5, none⟩ = some (.int .i64 0) := (blk_cell gA.out 5).trans rfl; have OH : MF.cell? ⟨iA, 6, none⟩ = some (.int .i64 0) := (blk_cell gA.out 6).trans rfl; have PH : MF.cell? ⟨iA, 7, none⟩ = some (.int .i64 0) := (blk_cell gA.out 7).trans rfl; have QH := blk_frozen gA.out 0; have RH := blk_frozen gA.out 1; have SH := blk_frozen gA.out 2; have TH := blk_frozen gA.out 3; have UH := blk_frozen gA.out 4; have VH := blk_frozen gA.out 5; have WH := blk_frozen gA.out 6; have XH := blk_frozen gA.out 7))
        go_roundg k1
        case measure => have := HK1.out; omega
        case rel => exact ⟨(wC), (wrap64 (eA + 1)), (kA), (lA), (mA), (nA), (oA), (pA), (qA), (rA), q2_10, q2_10, H', ⟨by have := HK1.out; omega⟩, ⟨q2_27⟩, ⟨q2_28⟩, ⟨q2_18⟩⟩
      ·rw [if_neg c11] at H
       have CG : (((rd_T89 l0 eA).f1) == a1) = false := beq_eq_false_iff_ne.mpr c11
       have DG : (((rd_T89 l0 eA).f1) != a1) = true := bne_iff_ne.mpr c11
       have H' := Aside0.mk H
       clear H
       have p126 : 0 ≤ (eA : Int) := of_decide_eq_true q2_9
       have q126 : eA < (l0.length : Int) := of_decide_eq_true q2_9
       obtain ⟨ad126, xC, NA, OA, PA, QA, RA, SA, TA, UA⟩ := at_T89 HR0.out eA p126 q126
       cases xC
       replace NA := (HB.out.cell (World.block_lt_of_cell? w _ NA)).trans NA
       replace OA := (HB.out.cell (World.block_lt_of_cell? w _ OA)).trans OA
       replace PA := (HB.out.cell (World.block_lt_of_cell? w _ PA)).trans PA
       replace QA := (HB.out.cell (World.block_lt_of_cell? w _ QA)).trans QA
       replace RA := (HB.out.cell (World.block_lt_of_cell? w _ RA)).trans RA
       replace SA := (HB.out.cell (World.block_lt_of_cell? w _ SA)).trans SA
       replace TA := (HB.out.cell (World.block_lt_of_cell? w _ TA)).trans TA
       replace UA := (HB.out.cell (World.block_lt_of_cell? w _ UA)).trans UA
       replace p126 := eq_true p126
       replace q126 := eq_true q126
       go_wp2_with (first | ((with_reducible refine gate_dst (N := 11) rfl ?_); refine box_event ?hg (N := 11) ?hd (cs := #[.int .i64 0, .int .i64 0, .int .i64 0, .int .i64 0, .int .i64 0, .int .i64 0, .int .i64 0, .int .i64 0]) (t := 89) ?hr ?_; (case hd => rfl); (case hg => rfl); (case hr => first | (go_simp; done) | (go_simp; rfl)); intro iA hg rB hbox hb; have sA := Aside0.mk (blk_below (g := DA) (o := .cells #[.int .i64 0, .int .i64 0, .int .i64 0, .int .i64 0, .int .i64 0, .int .i64 0, .int .i64 0, .int .i64 0] 89 (0, 0)) q2_7 hb); have wA := Aside0.mk (blk_below (g := uA) (o := .cells #[.int .i64 kA, .int .i64 lA, .int .i64 mA, .int .i64 nA, .int .i64 oA, .int .i64 pA, .int .i64 qA, .int .i64 rA] 89 (0, 0)) q2_8 hb); have EA := Aside0.mk (below_step q2_5 hb); have FA := Aside0.mk (hbox); have sB := Aside0.mk ((q2_35 : w.heap.size ≤ iA)); have tB := Aside0.mk ((q2_35 : w.heap.size ≤ iA)); have uB := Aside0.mk ((q2_16 : DA ≠ iA)); have FE := Aside0.mk ((q2_17 : iA ≠ DA)); have GE := Aside0.mk ((q2_14 : uA ≠ iA)); have HE := Aside0.mk ((q2_15 : iA ≠ uA)); clear yA hA HB; have yA := sA; have hA := wA; have HB := EA; have gA := FA; have IE := sB; have zC := tB; have WA := uB; have kB := FE; have XA := GE; have lB := HE; clear sA wA EA FA sB tB uB FE GE HE; clear hb hbox hg; have WI := kB.out; have XI := WA.out; have YI := lB.out; have ZI := XA.out; have YH : rB.cell? ⟨iA, 0, none⟩ = some (.int .i64 0) := (blk_cell gA.out 0).trans rfl; have ZH : rB.cell? ⟨iA, 1, none⟩ = some (.int .i64 0) := (blk_cell gA.out 1).trans rfl; have aI : rB.cell? ⟨iA, 2, none⟩ = some (.int .i64 0) := (blk_cell gA.out 2).trans rfl; have bI : rB.cell? ⟨iA, 3, none⟩ = some (.int .i64 0) := (blk_cell gA.out 3).trans rfl; have cI : rB.cell? ⟨iA, 4, none⟩ = some (.int .i64 0) := (blk_cell gA.out 4).trans rfl; have dI : rB.cell? ⟨iA, 5, none⟩ = some (.int .i64 0) := (blk_cell gA.out 5).trans rfl; have eI : rB.cell? ⟨iA, 6, none⟩ = some (.int .i64 0) := (blk_cell gA.out 6).trans rfl; have fI : rB.cell? ⟨iA, 7, none⟩ = some (.int .i64 0) := (blk_cell gA.out 7).trans rfl; have gI := blk_frozen gA.out 0; have hI := blk_frozen gA.out 1; have iI := blk_frozen gA.out 2; have jI := blk_frozen gA.out 3; have kI := blk_frozen gA.out 4; have lI := blk_frozen gA.out 5; have mI := blk_frozen gA.out 6; have nI := blk_frozen gA.out 7))
       go_roundg k1
       case measure => have := HK1.out; omega
       case rel => exact ⟨(wC), (wrap64 (eA + 1)), (kA), (lA), (mA), (nA), (oA), (pA), (qA), (rA), q2_10, q2_10, H', ⟨by have := HK1.out; omega⟩, ⟨q2_27⟩, ⟨q2_28⟩, ⟨q2_18⟩⟩
     ·rw [if_neg c10] at H
      exact absurd H (by simp)
    ·rw [if_neg c9] at H
     exact absurd H (by simp)
   ·rw [if_neg c8] at H
    have NB : decide (eA < (l0.length : Int)) = false := decide_eq_false c8
    clear c8
    simp only [Option.some.injEq, Prod.mk.injEq] at H
    obtain ⟨rfl, rfl, rfl, rfl, rfl, rfl, rfl, rfl, rfl⟩ := H
    have JE := vB.out
    have KE := pB.out
    have OB : wr.cell? ⟨uA, 0, none⟩ = some (.int .i64 kA) := (blk_cell hA.out 0).trans rfl
    have PB : wr.cell? ⟨uA, 1, none⟩ = some (.int .i64 lA) := (blk_cell hA.out 1).trans rfl
    have QB : wr.cell? ⟨uA, 2, none⟩ = some (.int .i64 mA) := (blk_cell hA.out 2).trans rfl
    have RB : wr.cell? ⟨uA, 3, none⟩ = some (.int .i64 nA) := (blk_cell hA.out 3).trans rfl
    have SB : wr.cell? ⟨uA, 4, none⟩ = some (.int .i64 oA) := (blk_cell hA.out 4).trans rfl
    have TB : wr.cell? ⟨uA, 5, none⟩ = some (.int .i64 pA) := (blk_cell hA.out 5).trans rfl
    have UB : wr.cell? ⟨uA, 6, none⟩ = some (.int .i64 qA) := (blk_cell hA.out 6).trans rfl
    have VB : wr.cell? ⟨uA, 7, none⟩ = some (.int .i64 rA) := (blk_cell hA.out 7).trans rfl
    have WB := blk_frozen hA.out 0
    have XB := blk_frozen hA.out 1
    have YB := blk_frozen hA.out 2
    have ZB := blk_frozen hA.out 3
    have aC := blk_frozen hA.out 4
    have bC := blk_frozen hA.out 5
    have cC := blk_frozen hA.out 6
    have dC := blk_frozen hA.out 7
    have eC : wr.cell? ⟨DA, 0, none⟩ = some (.int .i64 0) := (blk_cell yA.out 0).trans rfl
    have fC : wr.cell? ⟨DA, 1, none⟩ = some (.int .i64 0) := (blk_cell yA.out 1).trans rfl
    have gC : wr.cell? ⟨DA, 2, none⟩ = some (.int .i64 0) := (blk_cell yA.out 2).trans rfl
    have hC : wr.cell? ⟨DA, 3, none⟩ = some (.int .i64 0) := (blk_cell yA.out 3).trans rfl
    have iC : wr.cell? ⟨DA, 4, none⟩ = some (.int .i64 0) := (blk_cell yA.out 4).trans rfl
    have jC : wr.cell? ⟨DA, 5, none⟩ = some (.int .i64 0) := (blk_cell yA.out 5).trans rfl
    have kC : wr.cell? ⟨DA, 6, none⟩ = some (.int .i64 0) := (blk_cell yA.out 6).trans rfl
    have lC : wr.cell? ⟨DA, 7, none⟩ = some (.int .i64 0) := (blk_cell yA.out 7).trans rfl
    have mC := blk_frozen yA.out 0
    have nC := blk_frozen yA.out 1
    have oC := blk_frozen yA.out 2
    have pC := blk_frozen yA.out 3
    have qC := blk_frozen yA.out 4
    have rC := blk_frozen yA.out 5
    have sC := blk_frozen yA.out 6
    have tC := blk_frozen yA.out 7
    go_wp2
    refine bodyPost_ret (results_ct rfl _ _ DA 89 #[.int .i64 kA, .int .i64 lA, .int .i64 mA, .int .i64 nA, .int .i64 oA, .int .i64 pA, .int .i64 qA, .int .i64 rA] (0, 0) _ rfl (by (with_reducible repeat (first | refine blk_drewN ?_ _ | refine blk_drew ?_ | refine blk_alloc ?_ _)); refine blk_put (cs := #[.int .i64 kA, .int .i64 lA, .int .i64 mA, .int .i64 nA, .int .i64 oA, .int .i64 pA, .int .i64 qA, .int .i64 0]) ?_ 7 _ rfl; (with_reducible repeat (first | refine blk_drewN ?_ _ | refine blk_drew ?_ | refine blk_alloc ?_ _)); refine blk_put (cs := #[.int .i64 kA, .int .i64 lA, .int .i64 mA, .int .i64 nA, .int .i64 oA, .int .i64 pA, .int .i64 0, .int .i64 0]) ?_ 6 _ rfl; (with_reducible repeat (first | refine blk_drewN ?_ _ | refine blk_drew ?_ | refine blk_alloc ?_ _)); refine blk_put (cs := #[.int .i64 kA, .int .i64 lA, .int .i64 mA, .int .i64 nA, .int .i64 oA, .int .i64 0, .int .i64 0, .int .i64 0]) ?_ 5 _ rfl; (with_reducible repeat (first | refine blk_drewN ?_ _ | refine blk_drew ?_ | refine blk_alloc ?_ _)); refine blk_put (cs := #[.int .i64 kA, .int .i64 lA, .int .i64 mA, .int .i64 nA, .int .i64 0, .int .i64 0, .int .i64 0, .int .i64 0]) ?_ 4 _ rfl; (with_reducible repeat (first | refine blk_drewN ?_ _ | refine blk_drew ?_ | refine blk_alloc ?_ _)); refine blk_put (cs := #[.int .i64 kA, .int .i64 lA, .int .i64 mA, .int .i64 0, .int .i64 0, .int .i64 0, .int .i64 0, .int .i64 0]) ?_ 3 _ rfl; (with_reducible repeat (first | refine blk_drewN ?_ _ | refine blk_drew ?_ | refine blk_alloc ?_ _)); refine blk_put (cs := #[.int .i64 kA, .int .i64 lA, .int .i64 0, .int .i64 0, .int .i64 0, .int .i64 0, .int .i64 0, .int .i64 0]) ?_ 2 _ rfl; (with_reducible repeat (first | refine blk_drewN ?_ _ | refine blk_drew ?_ | refine blk_alloc ?_ _)); refine blk_put (cs := #[.int .i64 kA, .int .i64 0, .int .i64 0, .int .i64 0, .int .i64 0, .int .i64 0, .int .i64 0, .int .i64 0]) ?_ 1 _ rfl; (with_reducible repeat (first | refine blk_drewN ?_ _ | refine blk_drew ?_ | refine blk_alloc ?_ _)); refine blk_put (cs := #[.int .i64 0, .int .i64 0, .int .i64 0, .int .i64 0, .int .i64 0, .int .i64 0, .int .i64 0, .int .i64 0]) ?_ 0 _ rfl; (with_reducible repeat (first | refine blk_drewN ?_ _ | refine blk_drew ?_ | refine blk_alloc ?_ _)); exact yA.out) Try.underlying89 rfl (by kernel_rfl)) rfl ?_
    exact ⟨q2_29, q2_5⟩

/-! ### spec_l08Turns: function 72 -/
mutual
def spec_l08Turns.l0 : Nat → List (S89) → Int → Int → List (S89) → Int → Int → Option (Int)
 | 0, _, _, _, _, _, _ => none
 | k + 1, x0, x1, x5, x11, x12, x13 => if x13 < x12 then (if 0 ≤ x13 then (if x13 < (x11.length : Int) then (if ((rd_T89 x11 x13).f1) = x1 then (if ((rd_T89 x11 x13).f3) = 1 then (spec_l08Turns.l0 k x0 x1 (wrap64 (x5 + 1)) x11 x12 (wrap64 (x13 + 1))) else (spec_l08Turns.l0 k x0 x1 x5 x11 x12 (wrap64 (x13 + 1)))) else (spec_l08Turns.l0 k x0 x1 x5 x11 x12 (wrap64 (x13 + 1)))) else (none)) else (none)) else (spec_l08Turns.l1 k x0 x1 x5 0)
def spec_l08Turns.l1 : Nat → List (S89) → Int → Int → Int → Option (Int)
 | 0, _, _, _, _ => none
 | k + 1, x0, x1, x5, x8 => if x8 < x5 then ((spec_l08Turn.f k x0 x1 x8).bind fun HG => (if HG.2.2.2.2.2.2.2.2 = 1 then (spec_l08Turns.l1 k x0 x1 x5 (wrap64 (x8 + 1))) else (some (-1)))) else (some x5)
end
def spec_l08Turns.f (k : Nat) (l0 : List (S89)) (a1 : Int) : Option (Int) := spec_l08Turns.l0 k l0 a1 0 l0 (l0.length : Int) 0
theorem spec_l08Turns.mono_l : ∀ k, (∀ y0 y1 y2 y3 y4 y5, LeO (spec_l08Turns.l0 k y0 y1 y2 y3 y4 y5) (spec_l08Turns.l0 (k + 1) y0 y1 y2 y3 y4 y5)) ∧ (∀ y0 y1 y2 y3, LeO (spec_l08Turns.l1 k y0 y1 y2 y3) (spec_l08Turns.l1 (k + 1) y0 y1 y2 y3))
 | 0 => ⟨fun _ _ _ _ _ _ r h => by simp [spec_l08Turns.l0] at h, fun _ _ _ _ r h => by simp [spec_l08Turns.l1] at h⟩
 | k + 1 => by
  obtain ⟨ih0, ih1⟩ := spec_l08Turns.mono_l k
  refine ⟨?_, ?_⟩
  ·intro y0 y1 y2 y3 y4 y5
   unfold spec_l08Turns.l0
   repeat' first
   | (with_reducible exact ih0 _ _ _ _ _ _)
   | (with_reducible exact ih1 _ _ _ _)
   | (with_reducible exact spec_l08Turn.mono _ _ _ _)
   | (with_reducible exact LeO.refl _)
   | (with_reducible exact LeO.none _)
   | (with_reducible refine LeO.ite ?_ ?_)
   | (with_reducible refine LeO.bind ?_ (fun _ => ?_))
   | exact ih0 _ _ _ _ _ _
   | exact ih1 _ _ _ _
   | exact spec_l08Turn.mono _ _ _ _
   | exact LeO.none _
   | refine LeO.ite ?_ ?_
   | refine LeO.bind ?_ (fun _ => ?_)
  ·intro y0 y1 y2 y3
   unfold spec_l08Turns.l1
   repeat' first
   | (with_reducible exact ih0 _ _ _ _ _ _)
   | (with_reducible exact ih1 _ _ _ _)
   | (with_reducible exact spec_l08Turn.mono _ _ _ _)
   | (with_reducible exact LeO.refl _)
   | (with_reducible exact LeO.none _)
   | (with_reducible refine LeO.ite ?_ ?_)
   | (with_reducible refine LeO.bind ?_ (fun _ => ?_))
   | exact ih0 _ _ _ _ _ _
   | exact ih1 _ _ _ _
   | exact spec_l08Turn.mono _ _ _ _
   | exact LeO.none _
   | refine LeO.ite ?_ ?_
   | refine LeO.bind ?_ (fun _ => ?_)
theorem spec_l08Turns.mono : ∀ a0 a1 k, LeO (spec_l08Turns.f k a0 a1) (spec_l08Turns.f (k + 1) a0 a1) := by
 intro a0 a1 k
 obtain ⟨ih0, ih1⟩ := spec_l08Turns.mono_l k
 unfold spec_l08Turns.f
 repeat' first
   | (with_reducible exact ih0 _ _ _ _ _ _)
   | (with_reducible exact ih1 _ _ _ _)
   | (with_reducible exact spec_l08Turn.mono _ _ _ _)
   | (with_reducible exact LeO.refl _)
   | (with_reducible exact LeO.none _)
   | (with_reducible refine LeO.ite ?_ ?_)
   | (with_reducible refine LeO.bind ?_ (fun _ => ?_))
   | exact ih0 _ _ _ _ _ _
   | exact ih1 _ _ _ _
   | exact spec_l08Turn.mono _ _ _ _
   | exact LeO.none _
   | refine LeO.ite ?_ ?_
   | refine LeO.bind ?_ (fun _ => ?_)
set_option maxHeartbeats 8000000 in
set_option maxRecDepth 100000 in
theorem spec_l08Turns.calls (k : Nat) (A0 : Option Addr) (c0 : Nat) (l0 : List (S89)) (a1 : Int) (r : Int) (w : World) (hr0 : Kd.C k89 w A0 l0.length l0) (hc0 : l0.length ≤ c0) (h : spec_l08Turns.f k l0 a1 = some r) :
  Calls Try.prog 72 #[.slice A0 l0.length c0, .int .i64 a1] w fun e w' => e = .returned (.int .i64 r) ∧ Below w.heap.size w w' := by
 have hu89 := Try.underlying89
 have HR0 := Aside0.mk hr0
 have HC0 := Aside0.mk hc0
 clear hr0 hc0
 have HB := Aside0.mk (Below.refl w.heap.size w)
 have H : (spec_l08Turns.l0 k l0 a1 0 l0 (l0.length : Int) 0) = some r := h
 clear h
 have H' := Aside0.mk H
 clear H
 go_enter Try.func72, Try.ntmps72
 go_wp2
 go_loopg [5, 13] k (fun kq v5 v13 w' => ∃ (MB : Int) (zA : Int), v5 = .int .i64 MB ∧ v13 = .int .i64 zA ∧ Aside0 (spec_l08Turns.l0 kq l0 a1 MB l0 (l0.length : Int) zA = some r) ∧ Aside0 (kq ≤ k) ∧ Aside0 (Below w.heap.size w w'))
 case atStart => exact ⟨(0), (0), q2_10, q2_10, H', ⟨Nat.le_refl _⟩, ⟨q2_0⟩⟩
 case round =>
  clear H'
  try clear p2
  obtain ⟨MB, zA, rfl, rfl, HA, HK1, HB⟩ := hrel
  cases gk with
  | zero => exact absurd HA.out (by simp [spec_l08Turns.l0])
  | succ k1 =>
   have H := HA.out
   clear HA
   simp only [spec_l08Turns.l0] at H
   by_cases c3 : zA < (l0.length : Int)
   ·rw [if_pos c3] at H
    have IG : decide (zA < (l0.length : Int)) = true := decide_eq_true c3
    clear c3
    by_cases c4 : 0 ≤ zA
    ·rw [if_pos c4] at H
     have EI : decide (0 ≤ zA) = true := decide_eq_true c4
     clear c4
     by_cases c5 : zA < (l0.length : Int)
     ·rw [if_pos c5] at H
      have FI : decide (zA < (l0.length : Int)) = true := decide_eq_true c5
      clear c5
      by_cases c6 : ((rd_T89 l0 zA).f1) = a1
      ·rw [if_pos c6] at H
       have JG : (((rd_T89 l0 zA).f1) == a1) = true := beq_iff_eq.mpr c6
       have KG : (((rd_T89 l0 zA).f1) != a1) = false := bne_eq_false_iff_eq.mpr c6
       clear c6
       by_cases c7 : ((rd_T89 l0 zA).f3) = 1
       ·rw [if_pos c7] at H
        have LG : (((rd_T89 l0 zA).f3) == 1) = true := beq_iff_eq.mpr c7
        have MG : (((rd_T89 l0 zA).f3) != 1) = false := bne_eq_false_iff_eq.mpr c7
        clear c7
        have H' := Aside0.mk H
        clear H
        have p128 : 0 ≤ (zA : Int) := of_decide_eq_true q2_9
        have q128 : zA < (l0.length : Int) := of_decide_eq_true q2_9
        obtain ⟨ad128, LE, cB, dB, eB, fB, gB, hB, iB, jB⟩ := at_T89 HR0.out zA p128 q128
        cases LE
        replace cB := (HB.out.cell (World.block_lt_of_cell? w _ cB)).trans cB
        replace dB := (HB.out.cell (World.block_lt_of_cell? w _ dB)).trans dB
        replace eB := (HB.out.cell (World.block_lt_of_cell? w _ eB)).trans eB
        replace fB := (HB.out.cell (World.block_lt_of_cell? w _ fB)).trans fB
        replace gB := (HB.out.cell (World.block_lt_of_cell? w _ gB)).trans gB
        replace hB := (HB.out.cell (World.block_lt_of_cell? w _ hB)).trans hB
        replace iB := (HB.out.cell (World.block_lt_of_cell? w _ iB)).trans iB
        replace jB := (HB.out.cell (World.block_lt_of_cell? w _ jB)).trans jB
        replace p128 := eq_true p128
        replace q128 := eq_true q128
        go_wp2_with (first | ((with_reducible refine gate_dst (N := 7) rfl ?_); refine box_event ?hg (N := 7) ?hd (cs := #[.int .i64 0, .int .i64 0, .int .i64 0, .int .i64 0, .int .i64 0, .int .i64 0, .int .i64 0, .int .i64 0]) (t := 89) ?hr ?_; (case hd => rfl); (case hg => rfl); (case hr => first | (go_simp; done) | (go_simp; rfl)); intro AA hg w8 hbox hb; have sA := Aside0.mk (below_step q2_0 hb); have wA := Aside0.mk (hbox); have EA := Aside0.mk ((q2_11 : w.heap.size ≤ AA)); have FA := Aside0.mk ((q2_11 : w.heap.size ≤ AA)); clear HB; have HB := sA; have tA := wA; have NF := EA; have DE := FA; clear sA wA EA FA; clear hb hbox hg; have mG : w8.cell? ⟨AA, 0, none⟩ = some (.int .i64 0) := (blk_cell tA.out 0).trans rfl; have nG : w8.cell? ⟨AA, 1, none⟩ = some (.int .i64 0) := (blk_cell tA.out 1).trans rfl; have oG : w8.cell? ⟨AA, 2, none⟩ = some (.int .i64 0) := (blk_cell tA.out 2).trans rfl; have pG : w8.cell? ⟨AA, 3, none⟩ = some (.int .i64 0) := (blk_cell tA.out 3).trans rfl; have qG : w8.cell? ⟨AA, 4, none⟩ = some (.int .i64 0) := (blk_cell tA.out 4).trans rfl; have rG : w8.cell? ⟨AA, 5, none⟩ = some (.int .i64 0) := (blk_cell tA.out 5).trans rfl; have sG : w8.cell? ⟨AA, 6, none⟩ = some (.int .i64 0) := (blk_cell tA.out 6).trans rfl; have tG : w8.cell? ⟨AA, 7, none⟩ = some (.int .i64 0) := (blk_cell tA.out 7).trans rfl; have uG := blk_frozen tA.out 0; have vG := blk_frozen tA.out 1; have wG := blk_frozen tA.out 2; have xG := blk_frozen tA.out 3; have yG := blk_frozen tA.out 4; have zG := blk_frozen tA.out 5; have AG := blk_frozen tA.out 6; have BG := blk_frozen tA.out 7))
        go_roundg k1
        case measure => have := HK1.out; omega
        case rel => exact ⟨(wrap64 (MB + 1)), (wrap64 (zA + 1)), q2_10, q2_10, H', ⟨by have := HK1.out; omega⟩, ⟨q2_32⟩⟩
       ·rw [if_neg c7] at H
        have LG : (((rd_T89 l0 zA).f3) == 1) = false := beq_eq_false_iff_ne.mpr c7
        have MG : (((rd_T89 l0 zA).f3) != 1) = true := bne_iff_ne.mpr c7
        have H' := Aside0.mk H
        clear H
        have p128 : 0 ≤ (zA : Int) := of_decide_eq_true q2_9
        have q128 : zA < (l0.length : Int) := of_decide_eq_true q2_9
        obtain ⟨ad128, LE, cB, dB, eB, fB, gB, hB, iB, jB⟩ := at_T89 HR0.out zA p128 q128
        cases LE
        replace cB := (HB.out.cell (World.block_lt_of_cell? w _ cB)).trans cB
        replace dB := (HB.out.cell (World.block_lt_of_cell? w _ dB)).trans dB
        replace eB := (HB.out.cell (World.block_lt_of_cell? w _ eB)).trans eB
        replace fB := (HB.out.cell (World.block_lt_of_cell? w _ fB)).trans fB
        replace gB := (HB.out.cell (World.block_lt_of_cell? w _ gB)).trans gB
        replace hB := (HB.out.cell (World.block_lt_of_cell? w _ hB)).trans hB
        replace iB := (HB.out.cell (World.block_lt_of_cell? w _ iB)).trans iB
        replace jB := (HB.out.cell (World.block_lt_of_cell? w _ jB)).trans jB
        replace p128 := eq_true p128
        replace q128 := eq_true q128
        go_wp2_with (first | ((with_reducible refine gate_dst (N := 7) rfl ?_); refine box_event ?hg (N := 7) ?hd (cs := #[.int .i64 0, .int .i64 0, .int .i64 0, .int .i64 0, .int .i64 0, .int .i64 0, .int .i64 0, .int .i64 0]) (t := 89) ?hr ?_; (case hd => rfl); (case hg => rfl); (case hr => first | (go_simp; done) | (go_simp; rfl)); intro AA hg OF hbox hb; have sA := Aside0.mk (below_step q2_0 hb); have wA := Aside0.mk (hbox); have EA := Aside0.mk ((q2_11 : w.heap.size ≤ AA)); have FA := Aside0.mk ((q2_11 : w.heap.size ≤ AA)); clear HB; have HB := sA; have tA := wA; have NF := EA; have DE := FA; clear sA wA EA FA; clear hb hbox hg; have fF : OF.cell? ⟨AA, 0, none⟩ = some (.int .i64 0) := (blk_cell tA.out 0).trans rfl; have gF : OF.cell? ⟨AA, 1, none⟩ = some (.int .i64 0) := (blk_cell tA.out 1).trans rfl; have hF : OF.cell? ⟨AA, 2, none⟩ = some (.int .i64 0) := (blk_cell tA.out 2).trans rfl; have iF : OF.cell? ⟨AA, 3, none⟩ = some (.int .i64 0) := (blk_cell tA.out 3).trans rfl; have jF : OF.cell? ⟨AA, 4, none⟩ = some (.int .i64 0) := (blk_cell tA.out 4).trans rfl; have kF : OF.cell? ⟨AA, 5, none⟩ = some (.int .i64 0) := (blk_cell tA.out 5).trans rfl; have lF : OF.cell? ⟨AA, 6, none⟩ = some (.int .i64 0) := (blk_cell tA.out 6).trans rfl; have mF : OF.cell? ⟨AA, 7, none⟩ = some (.int .i64 0) := (blk_cell tA.out 7).trans rfl; have nF := blk_frozen tA.out 0; have oF := blk_frozen tA.out 1; have pF := blk_frozen tA.out 2; have qF := blk_frozen tA.out 3; have rF := blk_frozen tA.out 4; have sF := blk_frozen tA.out 5; have tF := blk_frozen tA.out 6; have uF := blk_frozen tA.out 7))
        go_roundg k1
        case measure => have := HK1.out; omega
        case rel => exact ⟨(MB), (wrap64 (zA + 1)), q2_10, q2_10, H', ⟨by have := HK1.out; omega⟩, ⟨q2_32⟩⟩
      ·rw [if_neg c6] at H
       have JG : (((rd_T89 l0 zA).f1) == a1) = false := beq_eq_false_iff_ne.mpr c6
       have KG : (((rd_T89 l0 zA).f1) != a1) = true := bne_iff_ne.mpr c6
       have H' := Aside0.mk H
       clear H
       have p128 : 0 ≤ (zA : Int) := of_decide_eq_true q2_9
       have q128 : zA < (l0.length : Int) := of_decide_eq_true q2_9
       obtain ⟨ad128, LE, cB, dB, eB, fB, gB, hB, iB, jB⟩ := at_T89 HR0.out zA p128 q128
       cases LE
       replace cB := (HB.out.cell (World.block_lt_of_cell? w _ cB)).trans cB
       replace dB := (HB.out.cell (World.block_lt_of_cell? w _ dB)).trans dB
       replace eB := (HB.out.cell (World.block_lt_of_cell? w _ eB)).trans eB
       replace fB := (HB.out.cell (World.block_lt_of_cell? w _ fB)).trans fB
       replace gB := (HB.out.cell (World.block_lt_of_cell? w _ gB)).trans gB
       replace hB := (HB.out.cell (World.block_lt_of_cell? w _ hB)).trans hB
       replace iB := (HB.out.cell (World.block_lt_of_cell? w _ iB)).trans iB
       replace jB := (HB.out.cell (World.block_lt_of_cell? w _ jB)).trans jB
       replace p128 := eq_true p128
       replace q128 := eq_true q128
       go_wp2_with (first | ((with_reducible refine gate_dst (N := 7) rfl ?_); refine box_event ?hg (N := 7) ?hd (cs := #[.int .i64 0, .int .i64 0, .int .i64 0, .int .i64 0, .int .i64 0, .int .i64 0, .int .i64 0, .int .i64 0]) (t := 89) ?hr ?_; (case hd => rfl); (case hg => rfl); (case hr => first | (go_simp; done) | (go_simp; rfl)); intro AA hg PF hbox hb; have sA := Aside0.mk (below_step q2_0 hb); have wA := Aside0.mk (hbox); have EA := Aside0.mk ((q2_11 : w.heap.size ≤ AA)); have FA := Aside0.mk ((q2_11 : w.heap.size ≤ AA)); clear HB; have HB := sA; have tA := wA; have NF := EA; have DE := FA; clear sA wA EA FA; clear hb hbox hg; have vF : PF.cell? ⟨AA, 0, none⟩ = some (.int .i64 0) := (blk_cell tA.out 0).trans rfl; have wF : PF.cell? ⟨AA, 1, none⟩ = some (.int .i64 0) := (blk_cell tA.out 1).trans rfl; have xF : PF.cell? ⟨AA, 2, none⟩ = some (.int .i64 0) := (blk_cell tA.out 2).trans rfl; have yF : PF.cell? ⟨AA, 3, none⟩ = some (.int .i64 0) := (blk_cell tA.out 3).trans rfl; have zF : PF.cell? ⟨AA, 4, none⟩ = some (.int .i64 0) := (blk_cell tA.out 4).trans rfl; have AF : PF.cell? ⟨AA, 5, none⟩ = some (.int .i64 0) := (blk_cell tA.out 5).trans rfl; have BF : PF.cell? ⟨AA, 6, none⟩ = some (.int .i64 0) := (blk_cell tA.out 6).trans rfl; have CF : PF.cell? ⟨AA, 7, none⟩ = some (.int .i64 0) := (blk_cell tA.out 7).trans rfl; have DF := blk_frozen tA.out 0; have EF := blk_frozen tA.out 1; have FF := blk_frozen tA.out 2; have GF := blk_frozen tA.out 3; have HF := blk_frozen tA.out 4; have IF := blk_frozen tA.out 5; have JF := blk_frozen tA.out 6; have KF := blk_frozen tA.out 7))
       go_roundg k1
       case measure => have := HK1.out; omega
       case rel => exact ⟨(MB), (wrap64 (zA + 1)), q2_10, q2_10, H', ⟨by have := HK1.out; omega⟩, ⟨q2_32⟩⟩
     ·rw [if_neg c5] at H
      exact absurd H (by simp)
    ·rw [if_neg c4] at H
     exact absurd H (by simp)
   ·rw [if_neg c3] at H
    have IG : decide (zA < (l0.length : Int)) = false := decide_eq_false c3
    clear c3
    have H' := Aside0.mk H
    clear H
    go_wp2
    go_loopg [8] k1 (fun kq v8 w' => ∃ (IB : Int), v8 = .int .i64 IB ∧ Aside0 (spec_l08Turns.l1 kq l0 a1 MB IB = some r) ∧ Aside0 (kq ≤ k1) ∧ Aside0 (Below w.heap.size w w'))
    case atStart => exact ⟨(0), q2_10, H', ⟨Nat.le_refl _⟩, ⟨q2_0⟩⟩
    case round =>
     clear H'
     (try clear p1); (try clear q1); (try clear hx1); (try clear p2); (try clear c3); (try clear IG); (try clear c4); (try clear EI); (try clear c5); (try clear FI); (try clear c6); (try clear JG); (try clear KG); (try clear p6); (try clear c7); (try clear LG); (try clear MG); (try clear p12); (try clear q12); (try clear hx12); (try clear fF); (try clear gF); (try clear hF); (try clear iF); (try clear jF); (try clear kF); (try clear lF); (try clear mF); (try clear vF); (try clear wF); (try clear xF); (try clear yF); (try clear zF); (try clear AF); (try clear BF); (try clear CF); (try clear mG); (try clear nG); (try clear oG); (try clear pG); (try clear qG); (try clear rG); (try clear sG); (try clear tG); (try clear nF); (try clear oF); (try clear pF); (try clear qF); (try clear rF); (try clear sF); (try clear tF); (try clear uF); (try clear DF); (try clear EF); (try clear FF); (try clear GF); (try clear HF); (try clear IF); (try clear JF); (try clear KF); (try clear uG); (try clear vG); (try clear wG); (try clear xG); (try clear yG); (try clear zG); (try clear AG); (try clear BG); (try clear cB); (try clear dB); (try clear eB); (try clear fB); (try clear gB); (try clear hB); (try clear iB); (try clear jB); (try clear p128); (try clear p2); (try clear q128)
     obtain ⟨IB, rfl, HA, HK2, HB⟩ := hrel
     cases gk with
     | zero => exact absurd HA.out (by simp [spec_l08Turns.l1])
     | succ k2 =>
      have H := HA.out
      clear HA
      simp only [spec_l08Turns.l1] at H
      by_cases c14 : IB < MB
      ·rw [if_pos c14] at H
       have ME : decide (IB < MB) = true := decide_eq_true c14
       clear c14
       replace H := Option.bind_eq_some_iff.mp H
       obtain ⟨⟨NG, OG, PG, QG, RG, SG, TG, UG, yC⟩, A150, H⟩ := H
       (try dsimp only at H)
       have A15 := Aside0.mk A150
       clear A150
       by_cases c16 : yC = 1
       ·rw [if_pos c16] at H
        have QF : (yC == 1) = true := beq_iff_eq.mpr c16
        have VG : (yC != 1) = false := bne_eq_false_iff_eq.mpr c16
        clear c16
        have H' := Aside0.mk H
        clear H
        go_wp2_with (first | ((with_reducible refine gate_callee (f := 73) rfl ?_); refine goesL_ (some 38) rfl rfl Try.func73 (by kernel_rfl) rfl #[.slice A0 l0.length c0, .int .i64 a1, .int .i64 IB] rfl (by (try simp only [List.map_toArray, List.map_cons, List.map_nil]); first | done | rfl | (simp only [List.length_drop, List.length_take]; rfl)) ?_; (with_reducible refine (spec_l08Turn.calls k2 _ _ l0 a1 IB NG OG PG QG RG SG TG UG yC _ ?side1 ?side2 A15.out).mono ?_); (case side1 => exact q2_4); (case side2 => exact q2_34); rintro e jJ ⟨rfl, hb⟩; refine ⟨_, rfl, ?_⟩; have sA := Aside0.mk (below_step q2_0 hb); clear HB; have HB := sA; clear sA; (try clear hb); (try clear hb2); (try clear hk); (try clear hi)) | ((with_reducible refine gate_dst (N := 9) rfl ?_); refine box_event ?hg (N := 9) ?hd (cs := #[.int .i64 0, .int .i64 0, .int .i64 0, .int .i64 0, .int .i64 0, .int .i64 0, .int .i64 0, .int .i64 0]) (t := 89) ?hr ?_; (case hd => rfl); (case hg => rfl); (case hr => first | (go_simp; done) | (go_simp; rfl)); intro ZA hg RF hbox hb; have sA := Aside0.mk (below_step q2_0 hb); have wA := Aside0.mk (hbox); have EA := Aside0.mk ((q2_11 : w.heap.size ≤ ZA)); have FA := Aside0.mk ((q2_11 : w.heap.size ≤ ZA)); clear HB; have HB := sA; have xA := wA; have WG := EA; have NE := FA; clear sA wA EA FA; clear hb hbox hg; have PE : RF.cell? ⟨ZA, 0, none⟩ = some (.int .i64 0) := (blk_cell xA.out 0).trans rfl; have QE : RF.cell? ⟨ZA, 1, none⟩ = some (.int .i64 0) := (blk_cell xA.out 1).trans rfl; have RE : RF.cell? ⟨ZA, 2, none⟩ = some (.int .i64 0) := (blk_cell xA.out 2).trans rfl; have SE : RF.cell? ⟨ZA, 3, none⟩ = some (.int .i64 0) := (blk_cell xA.out 3).trans rfl; have TE : RF.cell? ⟨ZA, 4, none⟩ = some (.int .i64 0) := (blk_cell xA.out 4).trans rfl; have UE : RF.cell? ⟨ZA, 5, none⟩ = some (.int .i64 0) := (blk_cell xA.out 5).trans rfl; have VE : RF.cell? ⟨ZA, 6, none⟩ = some (.int .i64 0) := (blk_cell xA.out 6).trans rfl; have WE : RF.cell? ⟨ZA, 7, none⟩ = some (.int .i64 0) := (blk_cell xA.out 7).trans rfl; have XE := blk_frozen xA.out 0; have YE := blk_frozen xA.out 1; have ZE := blk_frozen xA.out 2; have aF := blk_frozen xA.out 3; have bF := blk_frozen xA.out 4; have cF := blk_frozen xA.out 5; have dF := blk_frozen xA.out 6; have eF := blk_frozen xA.out 7))
        go_roundg k2
        case measure => have := HK1.out; have := HK2.out; omega
        case rel => exact ⟨(wrap64 (IB + 1)), q2_10, H', ⟨by have := HK1.out; have := HK2.out; omega⟩, ⟨by repeat (first | (with_reducible first | exact HB.out | apply below_alloc | apply pw_below_drewN | apply below_drew1 | refine below_set ?_ NE.out) | exact HB.out)⟩⟩
       ·rw [if_neg c16] at H
        have QF : (yC == 1) = false := beq_eq_false_iff_ne.mpr c16
        have VG : (yC != 1) = true := bne_iff_ne.mpr c16
        obtain rfl := Option.some.inj H
        go_wp2_with (first | ((with_reducible refine gate_callee (f := 73) rfl ?_); refine goesL_ (some 38) rfl rfl Try.func73 (by kernel_rfl) rfl #[.slice A0 l0.length c0, .int .i64 a1, .int .i64 IB] rfl (by (try simp only [List.map_toArray, List.map_cons, List.map_nil]); first | done | rfl | (simp only [List.length_drop, List.length_take]; rfl)) ?_; (with_reducible refine (spec_l08Turn.calls k2 _ _ l0 a1 IB NG OG PG QG RG SG TG UG yC _ ?side1 ?side2 A15.out).mono ?_); (case side1 => exact q2_4); (case side2 => exact q2_34); rintro e qB ⟨rfl, hb⟩; refine ⟨_, rfl, ?_⟩; have sA := Aside0.mk (below_step q2_0 hb); clear HB; have HB := sA; clear sA; (try clear hb); (try clear hb2); (try clear hk); (try clear hi)) | ((with_reducible refine gate_dst (N := 9) rfl ?_); refine box_event ?hg (N := 9) ?hd (cs := #[.int .i64 0, .int .i64 0, .int .i64 0, .int .i64 0, .int .i64 0, .int .i64 0, .int .i64 0, .int .i64 0]) (t := 89) ?hr ?_; (case hd => rfl); (case hg => rfl); (case hr => first | (go_simp; done) | (go_simp; rfl)); intro ZA hg SF hbox hb; have sA := Aside0.mk (below_step q2_0 hb); have wA := Aside0.mk (hbox); have EA := Aside0.mk ((q2_11 : w.heap.size ≤ ZA)); have FA := Aside0.mk ((q2_11 : w.heap.size ≤ ZA)); clear HB; have HB := sA; have xA := wA; have WG := EA; have NE := FA; clear sA wA EA FA; clear hb hbox hg; have oI : SF.cell? ⟨ZA, 0, none⟩ = some (.int .i64 0) := (blk_cell xA.out 0).trans rfl; have pI : SF.cell? ⟨ZA, 1, none⟩ = some (.int .i64 0) := (blk_cell xA.out 1).trans rfl; have qI : SF.cell? ⟨ZA, 2, none⟩ = some (.int .i64 0) := (blk_cell xA.out 2).trans rfl; have rI : SF.cell? ⟨ZA, 3, none⟩ = some (.int .i64 0) := (blk_cell xA.out 3).trans rfl; have sI : SF.cell? ⟨ZA, 4, none⟩ = some (.int .i64 0) := (blk_cell xA.out 4).trans rfl; have tI : SF.cell? ⟨ZA, 5, none⟩ = some (.int .i64 0) := (blk_cell xA.out 5).trans rfl; have uI : SF.cell? ⟨ZA, 6, none⟩ = some (.int .i64 0) := (blk_cell xA.out 6).trans rfl; have vI : SF.cell? ⟨ZA, 7, none⟩ = some (.int .i64 0) := (blk_cell xA.out 7).trans rfl; have wI := blk_frozen xA.out 0; have xI := blk_frozen xA.out 1; have yI := blk_frozen xA.out 2; have zI := blk_frozen xA.out 3; have AI := blk_frozen xA.out 4; have BI := blk_frozen xA.out 5; have CI := blk_frozen xA.out 6; have DI := blk_frozen xA.out 7))
        go_ret
        exact ⟨q2_29, by repeat (first | (with_reducible first | exact HB.out | apply below_alloc | apply pw_below_drewN | apply below_drew1 | refine below_set ?_ NE.out) | exact HB.out)⟩
      ·rw [if_neg c14] at H
       have ME : decide (IB < MB) = false := decide_eq_false c14
       clear c14
       obtain rfl := Option.some.inj H
       go_wp2
       go_ret
       exact ⟨q2_29, q2_0⟩

/-! ### spec_RingGood: function 45 -/
mutual
def spec_RingGood.j0 : Nat → List (S89) → List Int → Int → Int → Bool → Option (Bool)
 | 0, _, _, _, _, _ => none
 | k + 1, x0, x1, x5, x6, x34 => if x34 = true then (some false) else (spec_RingGood.l0 k x0 x1 x5 x6 0)
def spec_RingGood.l0 : Nat → List (S89) → List Int → Int → Int → Int → Option (Bool)
 | 0, _, _, _, _, _ => none
 | k + 1, x0, x1, x5, x6, x7 => if x7 < x5 then ((spec_l08Turn.f k x0 1 x7).bind fun TF => (if x7 ≥ x6 then (if 0 ≤ (wrap64 (x7 - x6)) then (if (wrap64 (x7 - x6)) < (x1.length : Int) then (if (rd x1 (wrap64 (x7 - x6))) = TF.2.2.1 then (spec_RingGood.l0 k x0 x1 x5 x6 (wrap64 (x7 + 1))) else (some false)) else (none)) else (none)) else ((spec_l08Turn.f k x0 2 x7).bind fun XG => (if XG.2.2.2.2.1 = TF.2.2.1 then (spec_RingGood.l0 k x0 x1 x5 x6 (wrap64 (x7 + 1))) else (some false))))) else (some true)
end
def spec_RingGood.f (k : Nat) (l0 : List (S89)) (l1 : List Int) : Option (Bool) := (spec_l08Turns.f k l0 1).bind fun aB => ((spec_l08Turns.f k l0 2).bind fun YA => (if aB < 0 then (spec_RingGood.j0 k l0 l1 aB YA true) else (if YA < 0 then (spec_RingGood.j0 k l0 l1 aB YA true) else (if YA > aB then (spec_RingGood.j0 k l0 l1 aB YA true) else (spec_RingGood.j0 k l0 l1 aB YA ((l1.length : Int) != (wrap64 (aB - YA))))))))
theorem spec_RingGood.mono_l : ∀ k, (∀ y0 y1 y2 y3 y4, LeO (spec_RingGood.j0 k y0 y1 y2 y3 y4) (spec_RingGood.j0 (k + 1) y0 y1 y2 y3 y4)) ∧ (∀ y0 y1 y2 y3 y4, LeO (spec_RingGood.l0 k y0 y1 y2 y3 y4) (spec_RingGood.l0 (k + 1) y0 y1 y2 y3 y4))
 | 0 => ⟨fun _ _ _ _ _ r h => by simp [spec_RingGood.j0] at h, fun _ _ _ _ _ r h => by simp [spec_RingGood.l0] at h⟩
 | k + 1 => by
  obtain ⟨ih0, ih1⟩ := spec_RingGood.mono_l k
  refine ⟨?_, ?_⟩
  ·intro y0 y1 y2 y3 y4
   unfold spec_RingGood.j0
   repeat' first
   | (with_reducible exact ih0 _ _ _ _ _)
   | (with_reducible exact ih1 _ _ _ _ _)
   | (with_reducible exact spec_l08Turn.mono _ _ _ _)
   | (with_reducible exact spec_l08Turns.mono _ _ _)
   | (with_reducible exact LeO.refl _)
   | (with_reducible exact LeO.none _)
   | (with_reducible refine LeO.ite ?_ ?_)
   | (with_reducible refine LeO.bind ?_ (fun _ => ?_))
   | exact ih0 _ _ _ _ _
   | exact ih1 _ _ _ _ _
   | exact spec_l08Turn.mono _ _ _ _
   | exact spec_l08Turns.mono _ _ _
   | exact LeO.none _
   | refine LeO.ite ?_ ?_
   | refine LeO.bind ?_ (fun _ => ?_)
  ·intro y0 y1 y2 y3 y4
   unfold spec_RingGood.l0
   repeat' first
   | (with_reducible exact ih0 _ _ _ _ _)
   | (with_reducible exact ih1 _ _ _ _ _)
   | (with_reducible exact spec_l08Turn.mono _ _ _ _)
   | (with_reducible exact spec_l08Turns.mono _ _ _)
   | (with_reducible exact LeO.refl _)
   | (with_reducible exact LeO.none _)
   | (with_reducible refine LeO.ite ?_ ?_)
   | (with_reducible refine LeO.bind ?_ (fun _ => ?_))
   | exact ih0 _ _ _ _ _
   | exact ih1 _ _ _ _ _
   | exact spec_l08Turn.mono _ _ _ _
   | exact spec_l08Turns.mono _ _ _
   | exact LeO.none _
   | refine LeO.ite ?_ ?_
   | refine LeO.bind ?_ (fun _ => ?_)
theorem spec_RingGood.mono : ∀ a0 a1 k, LeO (spec_RingGood.f k a0 a1) (spec_RingGood.f (k + 1) a0 a1) := by
 intro a0 a1 k
 obtain ⟨ih0, ih1⟩ := spec_RingGood.mono_l k
 unfold spec_RingGood.f
 repeat' first
   | (with_reducible exact ih0 _ _ _ _ _)
   | (with_reducible exact ih1 _ _ _ _ _)
   | (with_reducible exact spec_l08Turn.mono _ _ _ _)
   | (with_reducible exact spec_l08Turns.mono _ _ _)
   | (with_reducible exact LeO.refl _)
   | (with_reducible exact LeO.none _)
   | (with_reducible refine LeO.ite ?_ ?_)
   | (with_reducible refine LeO.bind ?_ (fun _ => ?_))
   | exact ih0 _ _ _ _ _
   | exact ih1 _ _ _ _ _
   | exact spec_l08Turn.mono _ _ _ _
   | exact spec_l08Turns.mono _ _ _
   | exact LeO.none _
   | refine LeO.ite ?_ ?_
   | refine LeO.bind ?_ (fun _ => ?_)
set_option maxHeartbeats 8000000 in
set_option maxRecDepth 100000 in
theorem spec_RingGood.calls (k : Nat) (A0 : Option Addr) (c0 : Nat) (l0 : List (S89)) (A1 : Option Addr) (c1 : Nat) (l1 : List Int) (r : Bool) (w : World) (hr0 : Kd.C k89 w A0 l0.length l0) (hc0 : l0.length ≤ c0) (hr1 : Kd.C (Kd.int .i64) w A1 l1.length l1) (hc1 : l1.length ≤ c1) (h : spec_RingGood.f k l0 l1 = some r) :
  Calls Try.prog 45 #[.slice A0 l0.length c0, .slice A1 l1.length c1] w fun e w' => e = .returned (.bool r) ∧ Below w.heap.size w w' := by
 have hu89 := Try.underlying89
 have HR0 := Aside0.mk hr0
 have HC0 := Aside0.mk hc0
 clear hr0 hc0
 have HR1 := Aside0.mk hr1
 clear hr1 hc1
 have HB := Aside0.mk (Below.refl w.heap.size w)
 have H : ((spec_l08Turns.f k l0 1).bind fun aB => ((spec_l08Turns.f k l0 2).bind fun YA => (if aB < 0 then (spec_RingGood.j0 k l0 l1 aB YA true) else (if YA < 0 then (spec_RingGood.j0 k l0 l1 aB YA true) else (if YA > aB then (spec_RingGood.j0 k l0 l1 aB YA true) else (spec_RingGood.j0 k l0 l1 aB YA ((l1.length : Int) != (wrap64 (aB - YA))))))))) = some r := h
 clear h
 replace H := Option.bind_eq_some_iff.mp H
 obtain ⟨aB, A30, H⟩ := H
 (try dsimp only at H)
 have A3 := Aside0.mk A30
 clear A30
 replace H := Option.bind_eq_some_iff.mp H
 obtain ⟨YA, A40, H⟩ := H
 (try dsimp only at H)
 have A4 := Aside0.mk A40
 clear A40
 have HC5 := Aside0.mk H
 clear H
 go_enter Try.func45, Try.ntmps45
 go_upto_region 3 with (first | (go_at_call 72; (with_reducible refine (spec_l08Turns.calls k _ _ l0 1 aB _ ?side1 ?side2 A3.out).mono ?_); (case side1 => exact q2_33); (case side2 => exact q2_34); rintro e w6 ⟨rfl, hb⟩; have sA := Aside0.mk (below_step q2_0 hb); clear HB; have HB := sA; clear sA; (try clear hb); (try clear hb2); (try clear hk); (try clear hi)) | (go_at_call 72; (with_reducible refine (spec_l08Turns.calls k _ _ l0 2 YA _ ?side1 ?side2 A4.out).mono ?_); (case side1 => exact q2_4); (case side2 => exact q2_34); rintro e w7 ⟨rfl, hb⟩; have sA := Aside0.mk (below_step q2_0 hb); clear HB; have HB := sA; clear sA; (try clear hb); (try clear hb2); (try clear hk); (try clear hi)))
 repeat (go_quiet (first | (go_at_call 72; (with_reducible refine (spec_l08Turns.calls k _ _ l0 1 aB _ ?side1 ?side2 A3.out).mono ?_); (case side1 => exact q2_33); (case side2 => exact q2_34); rintro e w6 ⟨rfl, hb⟩; have sA := Aside0.mk (below_step q2_0 hb); clear HB; have HB := sA; clear sA; (try clear hb); (try clear hb2); (try clear hk); (try clear hi)) | (go_at_call 72; (with_reducible refine (spec_l08Turns.calls k _ _ l0 2 YA _ ?side1 ?side2 A4.out).mono ?_); (case side1 => exact q2_4); (case side2 => exact q2_34); rintro e w7 ⟨rfl, hb⟩; have sA := Aside0.mk (below_step q2_0 hb); clear HB; have HB := sA; clear sA; (try clear hb); (try clear hb2); (try clear hk); (try clear hi))); go_upto_region 3 with (first | (go_at_call 72; (with_reducible refine (spec_l08Turns.calls k _ _ l0 1 aB _ ?side1 ?side2 A3.out).mono ?_); (case side1 => exact q2_33); (case side2 => exact q2_34); rintro e w6 ⟨rfl, hb⟩; have sA := Aside0.mk (below_step q2_0 hb); clear HB; have HB := sA; clear sA; (try clear hb); (try clear hb2); (try clear hk); (try clear hi)) | (go_at_call 72; (with_reducible refine (spec_l08Turns.calls k _ _ l0 2 YA _ ?side1 ?side2 A4.out).mono ?_); (case side1 => exact q2_4); (case side2 => exact q2_34); rintro e w7 ⟨rfl, hb⟩; have sA := Aside0.mk (below_step q2_0 hb); clear HB; have HB := sA; clear sA; (try clear hb); (try clear hb2); (try clear hk); (try clear hi))))
 (try simp only [Act.put, List.setIfInBounds_toArray, List.set_cons_zero, List.set_cons_succ])
 go_cut [34] (fun v34 wc => ∃ (kq : Nat) (BC : Bool), v34 = .bool BC ∧ Aside0 (spec_RingGood.j0 kq l0 l1 aB YA BC = some r) ∧ Aside0 (kq ≤ k) ∧ Aside0 (Below w.heap.size w wc))
 case first =>
  have H := HC5.out
  clear HC5
  by_cases c8 : aB < 0
  ·rw [if_pos c8] at H
   have NB : decide (aB < 0) = true := decide_eq_true c8
   clear c8
   (first | rw [NB] | (simp only [i64_w, i32_w]; rw [NB]) | skip)
   have H' := Aside0.mk H
   clear H
   go_wp2
   repeat (go_quiet (fail); try go_wp2)
   go_meet
   case rel => exact ⟨_, (true), q2_10, H', ⟨by first | omega | exact Nat.le_refl _⟩, ⟨q2_0⟩⟩
  ·rw [if_neg c8] at H
   have NB : decide (aB < 0) = false := decide_eq_false c8
   clear c8
   (first | rw [NB] | (simp only [i64_w, i32_w]; rw [NB]) | skip)
   by_cases c9 : YA < 0
   ·rw [if_pos c9] at H
    have OE : decide (YA < 0) = true := decide_eq_true c9
    clear c9
    have H' := Aside0.mk H
    clear H
    go_wp2
    repeat (go_quiet (fail); try go_wp2)
    go_meet
    case rel => exact ⟨_, (true), q2_10, H', ⟨by first | omega | exact Nat.le_refl _⟩, ⟨q2_0⟩⟩
   ·rw [if_neg c9] at H
    have OE : decide (YA < 0) = false := decide_eq_false c9
    clear c9
    by_cases c10 : YA > aB
    ·rw [if_pos c10] at H
     have AC : decide (aB < YA) = true := decide_eq_true c10
     clear c10
     have H' := Aside0.mk H
     clear H
     go_wp2
     repeat (go_quiet (fail); try go_wp2)
     go_meet
     case rel => exact ⟨_, (true), q2_10, H', ⟨by first | omega | exact Nat.le_refl _⟩, ⟨q2_0⟩⟩
    ·rw [if_neg c10] at H
     have AC : decide (aB < YA) = false := decide_eq_false c10
     clear c10
     have H' := Aside0.mk H
     clear H
     go_wp2
     repeat (go_quiet (fail); try go_wp2)
     go_meet
     case rel => exact ⟨_, (((l1.length : Int) != (wrap64 (aB - YA)))), q2_10, H', ⟨by first | omega | exact Nat.le_refl _⟩, ⟨q2_0⟩⟩
 case rest =>
  clear HC5
  (try clear c1); (try clear p2); (try clear c4); (try clear p6); (try clear c8); (try clear NB); (try clear c9); (try clear OE); (try clear c10); (try clear AC)
  obtain ⟨kq, BC, rfl, HA, HJ4, HB⟩ := hcut
  cases kq with
  | zero => exact absurd HA.out (by simp [spec_RingGood.j0])
  | succ kj4 =>
   have H := HA.out
   clear HA
   simp only [spec_RingGood.j0] at H
   by_cases c11 : BC = true
   ·subst c11
    rw [if_pos rfl] at H
    obtain rfl := Option.some.inj H
    go_wp2
    repeat (go_quiet (fail); try go_wp2)
    go_ret
    exact ⟨q2_29, q2_0⟩
   ·replace c11 := Bool.eq_false_iff.mpr c11
    subst c11
    rw [if_neg (show ¬ (false = true) by decide)] at H
    have H' := Aside0.mk H
    clear H
    go_wp2
    repeat (go_quiet (fail); try go_wp2)
    go_loopg [7] kj4 (fun kq v7 w' => ∃ (bB : Int), v7 = .int .i64 bB ∧ Aside0 (spec_RingGood.l0 kq l0 l1 aB YA bB = some r) ∧ Aside0 (kq ≤ kj4) ∧ Aside0 (Below w.heap.size w w'))
    case atStart => exact ⟨(0), q2_10, H', ⟨Nat.le_refl _⟩, ⟨q2_0⟩⟩
    case round =>
     clear H'
     (try clear c1); (try clear p2); (try clear c4); (try clear p6); (try clear c8); (try clear NB); (try clear c9); (try clear OE); (try clear c10); (try clear AC); (try clear c11); (try clear p2); (try clear p6)
     obtain ⟨bB, rfl, HA, HK2, HB⟩ := hrel
     cases gk with
     | zero => exact absurd HA.out (by simp [spec_RingGood.l0])
     | succ k2 =>
      have H := HA.out
      clear HA
      simp only [spec_RingGood.l0] at H
      by_cases c12 : bB < aB
      ·rw [if_pos c12] at H
       have EE : decide (bB < aB) = true := decide_eq_true c12
       clear c12
       replace H := Option.bind_eq_some_iff.mp H
       obtain ⟨⟨BA, CA, vA, GA, IA, LA, MA, VA, yB⟩, A130, H⟩ := H
       (try dsimp only at H)
       have A13 := Aside0.mk A130
       clear A130
       by_cases c14 : bB ≥ YA
       ·rw [if_pos c14] at H
        have ME : decide (YA ≤ bB) = true := decide_eq_true c14
        clear c14
        obtain ⟨ji15, hji15⟩ : ∃ j_ : Int, (wrap64 (bB - YA)) = j_ := ⟨_, rfl⟩
        replace H : (if 0 ≤ (ji15) then (if (ji15) < (l1.length : Int) then (if (rd l1 (ji15)) = vA then (spec_RingGood.l0 k2 l0 l1 aB YA (wrap64 (bB + 1))) else (some false)) else (none)) else (none)) = some r := by first | (rw [hji15] at H; exact H) | (simp only [hji15] at H ⊢; exact H)
        (try rw [hji15] at A13)
        have hji15w : (IntKind.i64.wrap (bB - YA)) = ji15 := (i64_w _).trans hji15
        by_cases c16 : 0 ≤ (ji15)
        ·rw [if_pos c16] at H
         have QF : decide (0 ≤ (ji15)) = true := decide_eq_true c16
         clear c16
         by_cases c17 : (ji15) < (l1.length : Int)
         ·rw [if_pos c17] at H
          have aJ : decide ((ji15) < (l1.length : Int)) = true := decide_eq_true c17
          clear c17
          by_cases c18 : (rd l1 (ji15)) = vA
          ·rw [if_pos c18] at H
           have YG : ((rd l1 (ji15)) == vA) = true := beq_iff_eq.mpr c18
           have ZG : ((rd l1 (ji15)) != vA) = false := bne_eq_false_iff_eq.mpr c18
           clear c18
           have H' := Aside0.mk H
           clear H
           go_wp2_with (first | (go_at_call 73; (with_reducible refine (spec_l08Turn.calls k2 _ _ l0 1 bB BA CA vA GA IA LA MA VA yB _ ?side1 ?side2 A13.out).mono ?_); (case side1 => exact q2_4); (case side2 => exact q2_34); rintro e bJ ⟨rfl, hb⟩; have sA := Aside0.mk (below_step q2_0 hb); clear HB; have HB := sA; clear sA; (try clear hb); (try clear hb2); (try clear hk); (try clear hi)) | ((with_reducible refine gate_dst (N := 8) rfl ?_); (try (refine gate_guard (by rfl) ?_; dsimp only)); refine box_event ?hg (N := 8) ?hd (cs := #[.int .i64 0, .int .i64 0, .int .i64 0, .int .i64 0, .int .i64 0, .int .i64 0, .int .i64 0, .int .i64 0]) (t := 89) ?hr ?_; (case hd => rfl); (case hg => rfl); (case hr => first | (go_simp; done) | (go_simp; rfl)); intro bA hg qB hbox hb; have sA := Aside0.mk (below_step q2_0 hb); have wA := Aside0.mk (hbox); have EA := Aside0.mk ((q2_11 : w.heap.size ≤ bA)); have FA := Aside0.mk ((q2_11 : w.heap.size ≤ bA)); clear HB; have HB := sA; have aA := wA; have jA := EA; have oB := FA; clear sA wA EA FA; clear hb hbox hg; have CC : qB.cell? ⟨bA, 0, none⟩ = some (.int .i64 0) := (blk_cell aA.out 0).trans rfl; have DC : qB.cell? ⟨bA, 1, none⟩ = some (.int .i64 0) := (blk_cell aA.out 1).trans rfl; have EC : qB.cell? ⟨bA, 2, none⟩ = some (.int .i64 0) := (blk_cell aA.out 2).trans rfl; have FC : qB.cell? ⟨bA, 3, none⟩ = some (.int .i64 0) := (blk_cell aA.out 3).trans rfl; have GC : qB.cell? ⟨bA, 4, none⟩ = some (.int .i64 0) := (blk_cell aA.out 4).trans rfl; have HC : qB.cell? ⟨bA, 5, none⟩ = some (.int .i64 0) := (blk_cell aA.out 5).trans rfl; have IC : qB.cell? ⟨bA, 6, none⟩ = some (.int .i64 0) := (blk_cell aA.out 6).trans rfl; have JC : qB.cell? ⟨bA, 7, none⟩ = some (.int .i64 0) := (blk_cell aA.out 7).trans rfl; have KC := blk_frozen aA.out 0; have LC := blk_frozen aA.out 1; have MC := blk_frozen aA.out 2; have NC := blk_frozen aA.out 3; have OC := blk_frozen aA.out 4; have PC := blk_frozen aA.out 5; have QC := blk_frozen aA.out 6; have RC := blk_frozen aA.out 7; have p152 : 0 ≤ ((ji15) : Int) := of_decide_eq_true q2_9; have q152 : (ji15) < (l1.length : Int) := of_decide_eq_true q2_9; obtain ⟨ad152, JB, cA⟩ := Kd.at_int HR1.out (ji15) p152 q152; cases JB; have hn152_0 : ad152.block ≠ bA := Nat.ne_of_lt (Nat.lt_of_lt_of_le q2_3 jA.out); have hn152_1 : ad152.block ≠ bA := Nat.ne_of_lt (Nat.lt_of_lt_of_le q2_3 jA.out); have hn152_2 : ad152.block ≠ bA := Nat.ne_of_lt (Nat.lt_of_lt_of_le q2_3 jA.out); have hn152_3 : ad152.block ≠ bA := Nat.ne_of_lt (Nat.lt_of_lt_of_le q2_3 jA.out); have hn152_4 : ad152.block ≠ bA := Nat.ne_of_lt (Nat.lt_of_lt_of_le q2_3 jA.out); have hn152_5 : ad152.block ≠ bA := Nat.ne_of_lt (Nat.lt_of_lt_of_le q2_3 jA.out); have hn152_6 : ad152.block ≠ bA := Nat.ne_of_lt (Nat.lt_of_lt_of_le q2_3 jA.out); have hn152_7 : ad152.block ≠ bA := Nat.ne_of_lt (Nat.lt_of_lt_of_le q2_3 jA.out); replace cA := (HB.out.cell (World.block_lt_of_cell? w _ cA)).trans cA; replace cA := (cell_far (p := ⟨bA, 0, none⟩) q2_19 (.int .i64 BA)).trans cA; replace cA := (cell_far (p := ⟨bA, 1, none⟩) q2_20 (.int .i64 CA)).trans cA; replace cA := (cell_far (p := ⟨bA, 2, none⟩) q2_21 (.int .i64 vA)).trans cA; replace cA := (cell_far (p := ⟨bA, 3, none⟩) q2_22 (.int .i64 GA)).trans cA; replace cA := (cell_far (p := ⟨bA, 4, none⟩) q2_23 (.int .i64 IA)).trans cA; replace cA := (cell_far (p := ⟨bA, 5, none⟩) q2_24 (.int .i64 LA)).trans cA; replace cA := (cell_far (p := ⟨bA, 6, none⟩) q2_25 (.int .i64 MA)).trans cA; replace cA := (cell_far (p := ⟨bA, 7, none⟩) q2_26 (.int .i64 VA)).trans cA; clear hn152_0 hn152_1 hn152_2 hn152_3 hn152_4 hn152_5 hn152_6 hn152_7; replace p152 := eq_true p152; replace q152 := eq_true q152))
           repeat (go_quiet (first | (go_at_call 73; (with_reducible refine (spec_l08Turn.calls k2 _ _ l0 1 bB BA CA vA GA IA LA MA VA yB _ ?side1 ?side2 A13.out).mono ?_); (case side1 => exact q2_4); (case side2 => exact q2_34); rintro e bJ ⟨rfl, hb⟩; have sA := Aside0.mk (below_step q2_0 hb); clear HB; have HB := sA; clear sA; (try clear hb); (try clear hb2); (try clear hk); (try clear hi)) | ((with_reducible refine gate_dst (N := 8) rfl ?_); (try (refine gate_guard (by rfl) ?_; dsimp only)); refine box_event ?hg (N := 8) ?hd (cs := #[.int .i64 0, .int .i64 0, .int .i64 0, .int .i64 0, .int .i64 0, .int .i64 0, .int .i64 0, .int .i64 0]) (t := 89) ?hr ?_; (case hd => rfl); (case hg => rfl); (case hr => first | (go_simp; done) | (go_simp; rfl)); intro bA hg qB hbox hb; have sA := Aside0.mk (below_step q2_0 hb); have wA := Aside0.mk (hbox); have EA := Aside0.mk ((q2_11 : w.heap.size ≤ bA)); have FA := Aside0.mk ((q2_11 : w.heap.size ≤ bA)); clear HB; have HB := sA; have aA := wA; have jA := EA; have oB := FA; clear sA wA EA FA; clear hb hbox hg; have CC : qB.cell? ⟨bA, 0, none⟩ = some (.int .i64 0) := (blk_cell aA.out 0).trans rfl; have DC : qB.cell? ⟨bA, 1, none⟩ = some (.int .i64 0) := (blk_cell aA.out 1).trans rfl; have EC : qB.cell? ⟨bA, 2, none⟩ = some (.int .i64 0) := (blk_cell aA.out 2).trans rfl; have FC : qB.cell? ⟨bA, 3, none⟩ = some (.int .i64 0) := (blk_cell aA.out 3).trans rfl; have GC : qB.cell? ⟨bA, 4, none⟩ = some (.int .i64 0) := (blk_cell aA.out 4).trans rfl; have HC : qB.cell? ⟨bA, 5, none⟩ = some (.int .i64 0) := (blk_cell aA.out 5).trans rfl; have IC : qB.cell? ⟨bA, 6, none⟩ = some (.int .i64 0) := (blk_cell aA.out 6).trans rfl; have JC : qB.cell? ⟨bA, 7, none⟩ = some (.int .i64 0) := (blk_cell aA.out 7).trans rfl; have KC := blk_frozen aA.out 0; have LC := blk_frozen aA.out 1; have MC := blk_frozen aA.out 2; have NC := blk_frozen aA.out 3; have OC := blk_frozen aA.out 4; have PC := blk_frozen aA.out 5; have QC := blk_frozen aA.out 6; have RC := blk_frozen aA.out 7; have p152 : 0 ≤ ((ji15) : Int) := of_decide_eq_true q2_9; have q152 : (ji15) < (l1.length : Int) := of_decide_eq_true q2_9; obtain ⟨ad152, JB, cA⟩ := Kd.at_int HR1.out (ji15) p152 q152; cases JB; have hn152_0 : ad152.block ≠ bA := Nat.ne_of_lt (Nat.lt_of_lt_of_le q2_3 jA.out); have hn152_1 : ad152.block ≠ bA := Nat.ne_of_lt (Nat.lt_of_lt_of_le q2_3 jA.out); have hn152_2 : ad152.block ≠ bA := Nat.ne_of_lt (Nat.lt_of_lt_of_le q2_3 jA.out); have hn152_3 : ad152.block ≠ bA := Nat.ne_of_lt (Nat.lt_of_lt_of_le q2_3 jA.out); have hn152_4 : ad152.block ≠ bA := Nat.ne_of_lt (Nat.lt_of_lt_of_le q2_3 jA.out); have hn152_5 : ad152.block ≠ bA := Nat.ne_of_lt (Nat.lt_of_lt_of_le q2_3 jA.out); have hn152_6 : ad152.block ≠ bA := Nat.ne_of_lt (Nat.lt_of_lt_of_le q2_3 jA.out); have hn152_7 : ad152.block ≠ bA := Nat.ne_of_lt (Nat.lt_of_lt_of_le q2_3 jA.out); replace cA := (HB.out.cell (World.block_lt_of_cell? w _ cA)).trans cA; replace cA := (cell_far (p := ⟨bA, 0, none⟩) q2_19 (.int .i64 BA)).trans cA; replace cA := (cell_far (p := ⟨bA, 1, none⟩) q2_20 (.int .i64 CA)).trans cA; replace cA := (cell_far (p := ⟨bA, 2, none⟩) q2_21 (.int .i64 vA)).trans cA; replace cA := (cell_far (p := ⟨bA, 3, none⟩) q2_22 (.int .i64 GA)).trans cA; replace cA := (cell_far (p := ⟨bA, 4, none⟩) q2_23 (.int .i64 IA)).trans cA; replace cA := (cell_far (p := ⟨bA, 5, none⟩) q2_24 (.int .i64 LA)).trans cA; replace cA := (cell_far (p := ⟨bA, 6, none⟩) q2_25 (.int .i64 MA)).trans cA; replace cA := (cell_far (p := ⟨bA, 7, none⟩) q2_26 (.int .i64 VA)).trans cA; clear hn152_0 hn152_1 hn152_2 hn152_3 hn152_4 hn152_5 hn152_6 hn152_7; replace p152 := eq_true p152; replace q152 := eq_true q152)); try go_wp2_with (first | (go_at_call 73; (with_reducible refine (spec_l08Turn.calls k2 _ _ l0 1 bB BA CA vA GA IA LA MA VA yB _ ?side1 ?side2 A13.out).mono ?_); (case side1 => exact q2_4); (case side2 => exact q2_34); rintro e bJ ⟨rfl, hb⟩; have sA := Aside0.mk (below_step q2_0 hb); clear HB; have HB := sA; clear sA; (try clear hb); (try clear hb2); (try clear hk); (try clear hi)) | ((with_reducible refine gate_dst (N := 8) rfl ?_); (try (refine gate_guard (by rfl) ?_; dsimp only)); refine box_event ?hg (N := 8) ?hd (cs := #[.int .i64 0, .int .i64 0, .int .i64 0, .int .i64 0, .int .i64 0, .int .i64 0, .int .i64 0, .int .i64 0]) (t := 89) ?hr ?_; (case hd => rfl); (case hg => rfl); (case hr => first | (go_simp; done) | (go_simp; rfl)); intro bA hg qB hbox hb; have sA := Aside0.mk (below_step q2_0 hb); have wA := Aside0.mk (hbox); have EA := Aside0.mk ((q2_11 : w.heap.size ≤ bA)); have FA := Aside0.mk ((q2_11 : w.heap.size ≤ bA)); clear HB; have HB := sA; have aA := wA; have jA := EA; have oB := FA; clear sA wA EA FA; clear hb hbox hg; have CC : qB.cell? ⟨bA, 0, none⟩ = some (.int .i64 0) := (blk_cell aA.out 0).trans rfl; have DC : qB.cell? ⟨bA, 1, none⟩ = some (.int .i64 0) := (blk_cell aA.out 1).trans rfl; have EC : qB.cell? ⟨bA, 2, none⟩ = some (.int .i64 0) := (blk_cell aA.out 2).trans rfl; have FC : qB.cell? ⟨bA, 3, none⟩ = some (.int .i64 0) := (blk_cell aA.out 3).trans rfl; have GC : qB.cell? ⟨bA, 4, none⟩ = some (.int .i64 0) := (blk_cell aA.out 4).trans rfl; have HC : qB.cell? ⟨bA, 5, none⟩ = some (.int .i64 0) := (blk_cell aA.out 5).trans rfl; have IC : qB.cell? ⟨bA, 6, none⟩ = some (.int .i64 0) := (blk_cell aA.out 6).trans rfl; have JC : qB.cell? ⟨bA, 7, none⟩ = some (.int .i64 0) := (blk_cell aA.out 7).trans rfl; have KC := blk_frozen aA.out 0; have LC := blk_frozen aA.out 1; have MC := blk_frozen aA.out 2; have NC := blk_frozen aA.out 3; have OC := blk_frozen aA.out 4; have PC := blk_frozen aA.out 5; have QC := blk_frozen aA.out 6; have RC := blk_frozen aA.out 7; have p152 : 0 ≤ ((ji15) : Int) := of_decide_eq_true q2_9; have q152 : (ji15) < (l1.length : Int) := of_decide_eq_true q2_9; obtain ⟨ad152, JB, cA⟩ := Kd.at_int HR1.out (ji15) p152 q152; cases JB; have hn152_0 : ad152.block ≠ bA := Nat.ne_of_lt (Nat.lt_of_lt_of_le q2_3 jA.out); have hn152_1 : ad152.block ≠ bA := Nat.ne_of_lt (Nat.lt_of_lt_of_le q2_3 jA.out); have hn152_2 : ad152.block ≠ bA := Nat.ne_of_lt (Nat.lt_of_lt_of_le q2_3 jA.out); have hn152_3 : ad152.block ≠ bA := Nat.ne_of_lt (Nat.lt_of_lt_of_le q2_3 jA.out); have hn152_4 : ad152.block ≠ bA := Nat.ne_of_lt (Nat.lt_of_lt_of_le q2_3 jA.out); have hn152_5 : ad152.block ≠ bA := Nat.ne_of_lt (Nat.lt_of_lt_of_le q2_3 jA.out); have hn152_6 : ad152.block ≠ bA := Nat.ne_of_lt (Nat.lt_of_lt_of_le q2_3 jA.out); have hn152_7 : ad152.block ≠ bA := Nat.ne_of_lt (Nat.lt_of_lt_of_le q2_3 jA.out); replace cA := (HB.out.cell (World.block_lt_of_cell? w _ cA)).trans cA; replace cA := (cell_far (p := ⟨bA, 0, none⟩) q2_19 (.int .i64 BA)).trans cA; replace cA := (cell_far (p := ⟨bA, 1, none⟩) q2_20 (.int .i64 CA)).trans cA; replace cA := (cell_far (p := ⟨bA, 2, none⟩) q2_21 (.int .i64 vA)).trans cA; replace cA := (cell_far (p := ⟨bA, 3, none⟩) q2_22 (.int .i64 GA)).trans cA; replace cA := (cell_far (p := ⟨bA, 4, none⟩) q2_23 (.int .i64 IA)).trans cA; replace cA := (cell_far (p := ⟨bA, 5, none⟩) q2_24 (.int .i64 LA)).trans cA; replace cA := (cell_far (p := ⟨bA, 6, none⟩) q2_25 (.int .i64 MA)).trans cA; replace cA := (cell_far (p := ⟨bA, 7, none⟩) q2_26 (.int .i64 VA)).trans cA; clear hn152_0 hn152_1 hn152_2 hn152_3 hn152_4 hn152_5 hn152_6 hn152_7; replace p152 := eq_true p152; replace q152 := eq_true q152)))
           go_roundg k2
           case measure => have := HJ4.out; have := HK2.out; omega
           case rel => exact ⟨(wrap64 (bB + 1)), q2_10, H', ⟨by have := HJ4.out; have := HK2.out; omega⟩, ⟨q2_2⟩⟩
          ·rw [if_neg c18] at H
           have YG : ((rd l1 (ji15)) == vA) = false := beq_eq_false_iff_ne.mpr c18
           have ZG : ((rd l1 (ji15)) != vA) = true := bne_iff_ne.mpr c18
           obtain rfl := Option.some.inj H
           go_wp2_with (first | (go_at_call 73; (with_reducible refine (spec_l08Turn.calls k2 _ _ l0 1 bB BA CA vA GA IA LA MA VA yB _ ?side1 ?side2 A13.out).mono ?_); (case side1 => exact q2_4); (case side2 => exact q2_34); rintro e cJ ⟨rfl, hb⟩; have sA := Aside0.mk (below_step q2_0 hb); clear HB; have HB := sA; clear sA; (try clear hb); (try clear hb2); (try clear hk); (try clear hi)) | ((with_reducible refine gate_dst (N := 8) rfl ?_); (try (refine gate_guard (by rfl) ?_; dsimp only)); refine box_event ?hg (N := 8) ?hd (cs := #[.int .i64 0, .int .i64 0, .int .i64 0, .int .i64 0, .int .i64 0, .int .i64 0, .int .i64 0, .int .i64 0]) (t := 89) ?hr ?_; (case hd => rfl); (case hg => rfl); (case hr => first | (go_simp; done) | (go_simp; rfl)); intro bA hg wB hbox hb; have sA := Aside0.mk (below_step q2_0 hb); have wA := Aside0.mk (hbox); have EA := Aside0.mk ((q2_11 : w.heap.size ≤ bA)); have FA := Aside0.mk ((q2_11 : w.heap.size ≤ bA)); clear HB; have HB := sA; have aA := wA; have jA := EA; have oB := FA; clear sA wA EA FA; clear hb hbox hg; have SC : wB.cell? ⟨bA, 0, none⟩ = some (.int .i64 0) := (blk_cell aA.out 0).trans rfl; have TC : wB.cell? ⟨bA, 1, none⟩ = some (.int .i64 0) := (blk_cell aA.out 1).trans rfl; have UC : wB.cell? ⟨bA, 2, none⟩ = some (.int .i64 0) := (blk_cell aA.out 2).trans rfl; have VC : wB.cell? ⟨bA, 3, none⟩ = some (.int .i64 0) := (blk_cell aA.out 3).trans rfl; have WC : wB.cell? ⟨bA, 4, none⟩ = some (.int .i64 0) := (blk_cell aA.out 4).trans rfl; have XC : wB.cell? ⟨bA, 5, none⟩ = some (.int .i64 0) := (blk_cell aA.out 5).trans rfl; have YC : wB.cell? ⟨bA, 6, none⟩ = some (.int .i64 0) := (blk_cell aA.out 6).trans rfl; have ZC : wB.cell? ⟨bA, 7, none⟩ = some (.int .i64 0) := (blk_cell aA.out 7).trans rfl; have aD := blk_frozen aA.out 0; have bD := blk_frozen aA.out 1; have cD := blk_frozen aA.out 2; have dD := blk_frozen aA.out 3; have eD := blk_frozen aA.out 4; have fD := blk_frozen aA.out 5; have gD := blk_frozen aA.out 6; have hD := blk_frozen aA.out 7; have p152 : 0 ≤ ((ji15) : Int) := of_decide_eq_true q2_9; have q152 : (ji15) < (l1.length : Int) := of_decide_eq_true q2_9; obtain ⟨ad152, JB, cA⟩ := Kd.at_int HR1.out (ji15) p152 q152; cases JB; have hn152_0 : ad152.block ≠ bA := Nat.ne_of_lt (Nat.lt_of_lt_of_le q2_3 jA.out); have hn152_1 : ad152.block ≠ bA := Nat.ne_of_lt (Nat.lt_of_lt_of_le q2_3 jA.out); have hn152_2 : ad152.block ≠ bA := Nat.ne_of_lt (Nat.lt_of_lt_of_le q2_3 jA.out); have hn152_3 : ad152.block ≠ bA := Nat.ne_of_lt (Nat.lt_of_lt_of_le q2_3 jA.out); have hn152_4 : ad152.block ≠ bA := Nat.ne_of_lt (Nat.lt_of_lt_of_le q2_3 jA.out); have hn152_5 : ad152.block ≠ bA := Nat.ne_of_lt (Nat.lt_of_lt_of_le q2_3 jA.out); have hn152_6 : ad152.block ≠ bA := Nat.ne_of_lt (Nat.lt_of_lt_of_le q2_3 jA.out); have hn152_7 : ad152.block ≠ bA := Nat.ne_of_lt (Nat.lt_of_lt_of_le q2_3 jA.out); replace cA := (HB.out.cell (World.block_lt_of_cell? w _ cA)).trans cA; replace cA := (cell_far (p := ⟨bA, 0, none⟩) q2_19 (.int .i64 BA)).trans cA; replace cA := (cell_far (p := ⟨bA, 1, none⟩) q2_20 (.int .i64 CA)).trans cA; replace cA := (cell_far (p := ⟨bA, 2, none⟩) q2_21 (.int .i64 vA)).trans cA; replace cA := (cell_far (p := ⟨bA, 3, none⟩) q2_22 (.int .i64 GA)).trans cA; replace cA := (cell_far (p := ⟨bA, 4, none⟩) q2_23 (.int .i64 IA)).trans cA; replace cA := (cell_far (p := ⟨bA, 5, none⟩) q2_24 (.int .i64 LA)).trans cA; replace cA := (cell_far (p := ⟨bA, 6, none⟩) q2_25 (.int .i64 MA)).trans cA; replace cA := (cell_far (p := ⟨bA, 7, none⟩) q2_26 (.int .i64 VA)).trans cA; clear hn152_0 hn152_1 hn152_2 hn152_3 hn152_4 hn152_5 hn152_6 hn152_7; replace p152 := eq_true p152; replace q152 := eq_true q152))
           repeat (go_quiet (first | (go_at_call 73; (with_reducible refine (spec_l08Turn.calls k2 _ _ l0 1 bB BA CA vA GA IA LA MA VA yB _ ?side1 ?side2 A13.out).mono ?_); (case side1 => exact q2_4); (case side2 => exact q2_34); rintro e cJ ⟨rfl, hb⟩; have sA := Aside0.mk (below_step q2_0 hb); clear HB; have HB := sA; clear sA; (try clear hb); (try clear hb2); (try clear hk); (try clear hi)) | ((with_reducible refine gate_dst (N := 8) rfl ?_); (try (refine gate_guard (by rfl) ?_; dsimp only)); refine box_event ?hg (N := 8) ?hd (cs := #[.int .i64 0, .int .i64 0, .int .i64 0, .int .i64 0, .int .i64 0, .int .i64 0, .int .i64 0, .int .i64 0]) (t := 89) ?hr ?_; (case hd => rfl); (case hg => rfl); (case hr => first | (go_simp; done) | (go_simp; rfl)); intro bA hg wB hbox hb; have sA := Aside0.mk (below_step q2_0 hb); have wA := Aside0.mk (hbox); have EA := Aside0.mk ((q2_11 : w.heap.size ≤ bA)); have FA := Aside0.mk ((q2_11 : w.heap.size ≤ bA)); clear HB; have HB := sA; have aA := wA; have jA := EA; have oB := FA; clear sA wA EA FA; clear hb hbox hg; have SC : wB.cell? ⟨bA, 0, none⟩ = some (.int .i64 0) := (blk_cell aA.out 0).trans rfl; have TC : wB.cell? ⟨bA, 1, none⟩ = some (.int .i64 0) := (blk_cell aA.out 1).trans rfl; have UC : wB.cell? ⟨bA, 2, none⟩ = some (.int .i64 0) := (blk_cell aA.out 2).trans rfl; have VC : wB.cell? ⟨bA, 3, none⟩ = some (.int .i64 0) := (blk_cell aA.out 3).trans rfl; have WC : wB.cell? ⟨bA, 4, none⟩ = some (.int .i64 0) := (blk_cell aA.out 4).trans rfl; have XC : wB.cell? ⟨bA, 5, none⟩ = some (.int .i64 0) := (blk_cell aA.out 5).trans rfl; have YC : wB.cell? ⟨bA, 6, none⟩ = some (.int .i64 0) := (blk_cell aA.out 6).trans rfl; have ZC : wB.cell? ⟨bA, 7, none⟩ = some (.int .i64 0) := (blk_cell aA.out 7).trans rfl; have aD := blk_frozen aA.out 0; have bD := blk_frozen aA.out 1; have cD := blk_frozen aA.out 2; have dD := blk_frozen aA.out 3; have eD := blk_frozen aA.out 4; have fD := blk_frozen aA.out 5; have gD := blk_frozen aA.out 6; have hD := blk_frozen aA.out 7; have p152 : 0 ≤ ((ji15) : Int) := of_decide_eq_true q2_9; have q152 : (ji15) < (l1.length : Int) := of_decide_eq_true q2_9; obtain ⟨ad152, JB, cA⟩ := Kd.at_int HR1.out (ji15) p152 q152; cases JB; have hn152_0 : ad152.block ≠ bA := Nat.ne_of_lt (Nat.lt_of_lt_of_le q2_3 jA.out); have hn152_1 : ad152.block ≠ bA := Nat.ne_of_lt (Nat.lt_of_lt_of_le q2_3 jA.out); have hn152_2 : ad152.block ≠ bA := Nat.ne_of_lt (Nat.lt_of_lt_of_le q2_3 jA.out); have hn152_3 : ad152.block ≠ bA := Nat.ne_of_lt (Nat.lt_of_lt_of_le q2_3 jA.out); have hn152_4 : ad152.block ≠ bA := Nat.ne_of_lt (Nat.lt_of_lt_of_le q2_3 jA.out); have hn152_5 : ad152.block ≠ bA := Nat.ne_of_lt (Nat.lt_of_lt_of_le q2_3 jA.out); have hn152_6 : ad152.block ≠ bA := Nat.ne_of_lt (Nat.lt_of_lt_of_le q2_3 jA.out); have hn152_7 : ad152.block ≠ bA := Nat.ne_of_lt (Nat.lt_of_lt_of_le q2_3 jA.out); replace cA := (HB.out.cell (World.block_lt_of_cell? w _ cA)).trans cA; replace cA := (cell_far (p := ⟨bA, 0, none⟩) q2_19 (.int .i64 BA)).trans cA; replace cA := (cell_far (p := ⟨bA, 1, none⟩) q2_20 (.int .i64 CA)).trans cA; replace cA := (cell_far (p := ⟨bA, 2, none⟩) q2_21 (.int .i64 vA)).trans cA; replace cA := (cell_far (p := ⟨bA, 3, none⟩) q2_22 (.int .i64 GA)).trans cA; replace cA := (cell_far (p := ⟨bA, 4, none⟩) q2_23 (.int .i64 IA)).trans cA; replace cA := (cell_far (p := ⟨bA, 5, none⟩) q2_24 (.int .i64 LA)).trans cA; replace cA := (cell_far (p := ⟨bA, 6, none⟩) q2_25 (.int .i64 MA)).trans cA; replace cA := (cell_far (p := ⟨bA, 7, none⟩) q2_26 (.int .i64 VA)).trans cA; clear hn152_0 hn152_1 hn152_2 hn152_3 hn152_4 hn152_5 hn152_6 hn152_7; replace p152 := eq_true p152; replace q152 := eq_true q152)); try go_wp2_with (first | (go_at_call 73; (with_reducible refine (spec_l08Turn.calls k2 _ _ l0 1 bB BA CA vA GA IA LA MA VA yB _ ?side1 ?side2 A13.out).mono ?_); (case side1 => exact q2_4); (case side2 => exact q2_34); rintro e cJ ⟨rfl, hb⟩; have sA := Aside0.mk (below_step q2_0 hb); clear HB; have HB := sA; clear sA; (try clear hb); (try clear hb2); (try clear hk); (try clear hi)) | ((with_reducible refine gate_dst (N := 8) rfl ?_); (try (refine gate_guard (by rfl) ?_; dsimp only)); refine box_event ?hg (N := 8) ?hd (cs := #[.int .i64 0, .int .i64 0, .int .i64 0, .int .i64 0, .int .i64 0, .int .i64 0, .int .i64 0, .int .i64 0]) (t := 89) ?hr ?_; (case hd => rfl); (case hg => rfl); (case hr => first | (go_simp; done) | (go_simp; rfl)); intro bA hg wB hbox hb; have sA := Aside0.mk (below_step q2_0 hb); have wA := Aside0.mk (hbox); have EA := Aside0.mk ((q2_11 : w.heap.size ≤ bA)); have FA := Aside0.mk ((q2_11 : w.heap.size ≤ bA)); clear HB; have HB := sA; have aA := wA; have jA := EA; have oB := FA; clear sA wA EA FA; clear hb hbox hg; have SC : wB.cell? ⟨bA, 0, none⟩ = some (.int .i64 0) := (blk_cell aA.out 0).trans rfl; have TC : wB.cell? ⟨bA, 1, none⟩ = some (.int .i64 0) := (blk_cell aA.out 1).trans rfl; have UC : wB.cell? ⟨bA, 2, none⟩ = some (.int .i64 0) := (blk_cell aA.out 2).trans rfl; have VC : wB.cell? ⟨bA, 3, none⟩ = some (.int .i64 0) := (blk_cell aA.out 3).trans rfl; have WC : wB.cell? ⟨bA, 4, none⟩ = some (.int .i64 0) := (blk_cell aA.out 4).trans rfl; have XC : wB.cell? ⟨bA, 5, none⟩ = some (.int .i64 0) := (blk_cell aA.out 5).trans rfl; have YC : wB.cell? ⟨bA, 6, none⟩ = some (.int .i64 0) := (blk_cell aA.out 6).trans rfl; have ZC : wB.cell? ⟨bA, 7, none⟩ = some (.int .i64 0) := (blk_cell aA.out 7).trans rfl; have aD := blk_frozen aA.out 0; have bD := blk_frozen aA.out 1; have cD := blk_frozen aA.out 2; have dD := blk_frozen aA.out 3; have eD := blk_frozen aA.out 4; have fD := blk_frozen aA.out 5; have gD := blk_frozen aA.out 6; have hD := blk_frozen aA.out 7; have p152 : 0 ≤ ((ji15) : Int) := of_decide_eq_true q2_9; have q152 : (ji15) < (l1.length : Int) := of_decide_eq_true q2_9; obtain ⟨ad152, JB, cA⟩ := Kd.at_int HR1.out (ji15) p152 q152; cases JB; have hn152_0 : ad152.block ≠ bA := Nat.ne_of_lt (Nat.lt_of_lt_of_le q2_3 jA.out); have hn152_1 : ad152.block ≠ bA := Nat.ne_of_lt (Nat.lt_of_lt_of_le q2_3 jA.out); have hn152_2 : ad152.block ≠ bA := Nat.ne_of_lt (Nat.lt_of_lt_of_le q2_3 jA.out); have hn152_3 : ad152.block ≠ bA := Nat.ne_of_lt (Nat.lt_of_lt_of_le q2_3 jA.out); have hn152_4 : ad152.block ≠ bA := Nat.ne_of_lt (Nat.lt_of_lt_of_le q2_3 jA.out); have hn152_5 : ad152.block ≠ bA := Nat.ne_of_lt (Nat.lt_of_lt_of_le q2_3 jA.out); have hn152_6 : ad152.block ≠ bA := Nat.ne_of_lt (Nat.lt_of_lt_of_le q2_3 jA.out); have hn152_7 : ad152.block ≠ bA := Nat.ne_of_lt (Nat.lt_of_lt_of_le q2_3 jA.out); replace cA := (HB.out.cell (World.block_lt_of_cell? w _ cA)).trans cA; replace cA := (cell_far (p := ⟨bA, 0, none⟩) q2_19 (.int .i64 BA)).trans cA; replace cA := (cell_far (p := ⟨bA, 1, none⟩) q2_20 (.int .i64 CA)).trans cA; replace cA := (cell_far (p := ⟨bA, 2, none⟩) q2_21 (.int .i64 vA)).trans cA; replace cA := (cell_far (p := ⟨bA, 3, none⟩) q2_22 (.int .i64 GA)).trans cA; replace cA := (cell_far (p := ⟨bA, 4, none⟩) q2_23 (.int .i64 IA)).trans cA; replace cA := (cell_far (p := ⟨bA, 5, none⟩) q2_24 (.int .i64 LA)).trans cA; replace cA := (cell_far (p := ⟨bA, 6, none⟩) q2_25 (.int .i64 MA)).trans cA; replace cA := (cell_far (p := ⟨bA, 7, none⟩) q2_26 (.int .i64 VA)).trans cA; clear hn152_0 hn152_1 hn152_2 hn152_3 hn152_4 hn152_5 hn152_6 hn152_7; replace p152 := eq_true p152; replace q152 := eq_true q152)))
           go_ret
           exact ⟨by first | rfl | (simp [errW_none, errW_some] <;> rfl) | (simp only [← hji15]; first | rfl | (simp [errW_none, errW_some] <;> rfl)) | (simp [*, errW_none, errW_some] <;> rfl), q2_2⟩
         ·rw [if_neg c17] at H
          exact absurd H (by simp)
        ·rw [if_neg c16] at H
         exact absurd H (by simp)
       ·rw [if_neg c14] at H
        have ME : decide (YA ≤ bB) = false := decide_eq_false c14
        clear c14
        replace H := Option.bind_eq_some_iff.mp H
        obtain ⟨⟨uE, vE, wE, xE, KB, yE, zE, AE, BE⟩, A250, H⟩ := H
        (try dsimp only at H)
        have A25 := Aside0.mk A250
        clear A250
        by_cases c26 : KB = vA
        ·rw [if_pos c26] at H
         have aH : (KB == vA) = true := beq_iff_eq.mpr c26
         have bH : (KB != vA) = false := bne_eq_false_iff_eq.mpr c26
         clear c26
         have H' := Aside0.mk H
         clear H
         go_wp2_with (first | (go_at_call 73; (with_reducible refine (spec_l08Turn.calls k2 _ _ l0 1 bB BA CA vA GA IA LA MA VA yB _ ?side1 ?side2 A13.out).mono ?_); (case side1 => exact q2_4); (case side2 => exact q2_34); rintro e dJ ⟨rfl, hb⟩; have sA := Aside0.mk (below_step q2_0 hb); clear HB; have HB := sA; clear sA; (try clear hb); (try clear hb2); (try clear hk); (try clear hi)) | ((with_reducible refine gate_dst (N := 8) rfl ?_); (try (refine gate_guard (by rfl) ?_; dsimp only)); refine box_event ?hg (N := 8) ?hd (cs := #[.int .i64 0, .int .i64 0, .int .i64 0, .int .i64 0, .int .i64 0, .int .i64 0, .int .i64 0, .int .i64 0]) (t := 89) ?hr ?_; (case hd => rfl); (case hg => rfl); (case hr => first | (go_simp; done) | (go_simp; rfl)); intro bA hg rB hbox hb; have sA := Aside0.mk (below_step q2_0 hb); have wA := Aside0.mk (hbox); have EA := Aside0.mk ((q2_11 : w.heap.size ≤ bA)); have FA := Aside0.mk ((q2_11 : w.heap.size ≤ bA)); clear HB; have HB := sA; have aA := wA; have jA := EA; have oB := FA; clear sA wA EA FA; clear hb hbox hg; have iD : rB.cell? ⟨bA, 0, none⟩ = some (.int .i64 0) := (blk_cell aA.out 0).trans rfl; have jD : rB.cell? ⟨bA, 1, none⟩ = some (.int .i64 0) := (blk_cell aA.out 1).trans rfl; have kD : rB.cell? ⟨bA, 2, none⟩ = some (.int .i64 0) := (blk_cell aA.out 2).trans rfl; have lD : rB.cell? ⟨bA, 3, none⟩ = some (.int .i64 0) := (blk_cell aA.out 3).trans rfl; have mD : rB.cell? ⟨bA, 4, none⟩ = some (.int .i64 0) := (blk_cell aA.out 4).trans rfl; have nD : rB.cell? ⟨bA, 5, none⟩ = some (.int .i64 0) := (blk_cell aA.out 5).trans rfl; have oD : rB.cell? ⟨bA, 6, none⟩ = some (.int .i64 0) := (blk_cell aA.out 6).trans rfl; have pD : rB.cell? ⟨bA, 7, none⟩ = some (.int .i64 0) := (blk_cell aA.out 7).trans rfl; have qD := blk_frozen aA.out 0; have rD := blk_frozen aA.out 1; have sD := blk_frozen aA.out 2; have tD := blk_frozen aA.out 3; have uD := blk_frozen aA.out 4; have vD := blk_frozen aA.out 5; have wD := blk_frozen aA.out 6; have xD := blk_frozen aA.out 7) | (go_at_call 73; (with_reducible refine (spec_l08Turn.calls k2 _ _ l0 2 bB uE vE wE xE KB yE zE AE BE _ ?side1 ?side2 A25.out).mono ?_); (case side1 => exact Kd.C_below HR0.out q2_2); (case side2 => exact q2_34); rintro e eJ ⟨rfl, hb⟩; have sA := Aside0.mk (blk_below (g := bA) (o := .cells #[.int .i64 BA, .int .i64 CA, .int .i64 vA, .int .i64 GA, .int .i64 IA, .int .i64 LA, .int .i64 MA, .int .i64 VA] 89 (0, 0)) q2_1 hb); have wA := Aside0.mk (below_step q2_2 hb); clear aA HB; have aA := sA; have HB := wA; clear sA wA; (try clear hb); (try clear hb2); (try clear hk); (try clear hi)) | ((with_reducible refine gate_dst (N := 10) rfl ?_); (try (refine gate_guard (by rfl) ?_; dsimp only)); refine box_event ?hg (N := 10) ?hd (cs := #[.int .i64 0, .int .i64 0, .int .i64 0, .int .i64 0, .int .i64 0, .int .i64 0, .int .i64 0, .int .i64 0]) (t := 89) ?hr ?_; (case hd => rfl); (case hg => rfl); (case hr => first | (go_simp; done) | (go_simp; rfl)); intro fA hg mB hbox hb; have sA := Aside0.mk (blk_below (g := bA) (o := .cells #[.int .i64 BA, .int .i64 CA, .int .i64 vA, .int .i64 GA, .int .i64 IA, .int .i64 LA, .int .i64 MA, .int .i64 VA] 89 (0, 0)) q2_6 hb); have wA := Aside0.mk (below_step q2_2 hb); have EA := Aside0.mk (hbox); have FA := Aside0.mk ((q2_30 : w.heap.size ≤ fA)); have sB := Aside0.mk ((q2_30 : w.heap.size ≤ fA)); have tB := Aside0.mk ((q2_12 : bA ≠ fA)); have uB := Aside0.mk ((q2_13 : fA ≠ bA)); clear aA HB; have aA := sA; have HB := wA; have dA := EA; have uC := FA; have LB := sB; have JA := tB; have KA := uB; clear sA wA EA FA sB tB uB; clear hb hbox hg; have JE := KA.out; have KE := JA.out; have OB : mB.cell? ⟨fA, 0, none⟩ = some (.int .i64 0) := (blk_cell dA.out 0).trans rfl; have PB : mB.cell? ⟨fA, 1, none⟩ = some (.int .i64 0) := (blk_cell dA.out 1).trans rfl; have QB : mB.cell? ⟨fA, 2, none⟩ = some (.int .i64 0) := (blk_cell dA.out 2).trans rfl; have RB : mB.cell? ⟨fA, 3, none⟩ = some (.int .i64 0) := (blk_cell dA.out 3).trans rfl; have SB : mB.cell? ⟨fA, 4, none⟩ = some (.int .i64 0) := (blk_cell dA.out 4).trans rfl; have TB : mB.cell? ⟨fA, 5, none⟩ = some (.int .i64 0) := (blk_cell dA.out 5).trans rfl; have UB : mB.cell? ⟨fA, 6, none⟩ = some (.int .i64 0) := (blk_cell dA.out 6).trans rfl; have VB : mB.cell? ⟨fA, 7, none⟩ = some (.int .i64 0) := (blk_cell dA.out 7).trans rfl; have WB := blk_frozen dA.out 0; have XB := blk_frozen dA.out 1; have YB := blk_frozen dA.out 2; have ZB := blk_frozen dA.out 3; have aC := blk_frozen dA.out 4; have bC := blk_frozen dA.out 5; have cC := blk_frozen dA.out 6; have dC := blk_frozen dA.out 7; have eC : mB.cell? ⟨bA, 0, none⟩ = some (.int .i64 BA) := (blk_cell aA.out 0).trans rfl; have fC : mB.cell? ⟨bA, 1, none⟩ = some (.int .i64 CA) := (blk_cell aA.out 1).trans rfl; have gC : mB.cell? ⟨bA, 2, none⟩ = some (.int .i64 vA) := (blk_cell aA.out 2).trans rfl; have hC : mB.cell? ⟨bA, 3, none⟩ = some (.int .i64 GA) := (blk_cell aA.out 3).trans rfl; have iC : mB.cell? ⟨bA, 4, none⟩ = some (.int .i64 IA) := (blk_cell aA.out 4).trans rfl; have jC : mB.cell? ⟨bA, 5, none⟩ = some (.int .i64 LA) := (blk_cell aA.out 5).trans rfl; have kC : mB.cell? ⟨bA, 6, none⟩ = some (.int .i64 MA) := (blk_cell aA.out 6).trans rfl; have lC : mB.cell? ⟨bA, 7, none⟩ = some (.int .i64 VA) := (blk_cell aA.out 7).trans rfl; have mC := blk_frozen aA.out 0; have nC := blk_frozen aA.out 1; have oC := blk_frozen aA.out 2; have pC := blk_frozen aA.out 3; have qC := blk_frozen aA.out 4; have rC := blk_frozen aA.out 5; have sC := blk_frozen aA.out 6; have tC := blk_frozen aA.out 7))
         repeat (go_quiet (first | (go_at_call 73; (with_reducible refine (spec_l08Turn.calls k2 _ _ l0 1 bB BA CA vA GA IA LA MA VA yB _ ?side1 ?side2 A13.out).mono ?_); (case side1 => exact q2_4); (case side2 => exact q2_34); rintro e dJ ⟨rfl, hb⟩; have sA := Aside0.mk (below_step q2_0 hb); clear HB; have HB := sA; clear sA; (try clear hb); (try clear hb2); (try clear hk); (try clear hi)) | ((with_reducible refine gate_dst (N := 8) rfl ?_); (try (refine gate_guard (by rfl) ?_; dsimp only)); refine box_event ?hg (N := 8) ?hd (cs := #[.int .i64 0, .int .i64 0, .int .i64 0, .int .i64 0, .int .i64 0, .int .i64 0, .int .i64 0, .int .i64 0]) (t := 89) ?hr ?_; (case hd => rfl); (case hg => rfl); (case hr => first | (go_simp; done) | (go_simp; rfl)); intro bA hg rB hbox hb; have sA := Aside0.mk (below_step q2_0 hb); have wA := Aside0.mk (hbox); have EA := Aside0.mk ((q2_11 : w.heap.size ≤ bA)); have FA := Aside0.mk ((q2_11 : w.heap.size ≤ bA)); clear HB; have HB := sA; have aA := wA; have jA := EA; have oB := FA; clear sA wA EA FA; clear hb hbox hg; have iD : rB.cell? ⟨bA, 0, none⟩ = some (.int .i64 0) := (blk_cell aA.out 0).trans rfl; have jD : rB.cell? ⟨bA, 1, none⟩ = some (.int .i64 0) := (blk_cell aA.out 1).trans rfl; have kD : rB.cell? ⟨bA, 2, none⟩ = some (.int .i64 0) := (blk_cell aA.out 2).trans rfl; have lD : rB.cell? ⟨bA, 3, none⟩ = some (.int .i64 0) := (blk_cell aA.out 3).trans rfl; have mD : rB.cell? ⟨bA, 4, none⟩ = some (.int .i64 0) := (blk_cell aA.out 4).trans rfl; have nD : rB.cell? ⟨bA, 5, none⟩ = some (.int .i64 0) := (blk_cell aA.out 5).trans rfl; have oD : rB.cell? ⟨bA, 6, none⟩ = some (.int .i64 0) := (blk_cell aA.out 6).trans rfl; have pD : rB.cell? ⟨bA, 7, none⟩ = some (.int .i64 0) := (blk_cell aA.out 7).trans rfl; have qD := blk_frozen aA.out 0; have rD := blk_frozen aA.out 1; have sD := blk_frozen aA.out 2; have tD := blk_frozen aA.out 3; have uD := blk_frozen aA.out 4; have vD := blk_frozen aA.out 5; have wD := blk_frozen aA.out 6; have xD := blk_frozen aA.out 7) | (go_at_call 73; (with_reducible refine (spec_l08Turn.calls k2 _ _ l0 2 bB uE vE wE xE KB yE zE AE BE _ ?side1 ?side2 A25.out).mono ?_); (case side1 => exact Kd.C_below HR0.out q2_2); (case side2 => exact q2_34); rintro e eJ ⟨rfl, hb⟩; have sA := Aside0.mk (blk_below (g := bA) (o := .cells #[.int .i64 BA, .int .i64 CA, .int .i64 vA, .int .i64 GA, .int .i64 IA, .int .i64 LA, .int .i64 MA, .int .i64 VA] 89 (0, 0)) q2_1 hb); have wA := Aside0.mk (below_step q2_2 hb); clear aA HB; have aA := sA; have HB := wA; clear sA wA; (try clear hb); (try clear hb2); (try clear hk); (try clear hi)) | ((with_reducible refine gate_dst (N := 10) rfl ?_); (try (refine gate_guard (by rfl) ?_; dsimp only)); refine box_event ?hg (N := 10) ?hd (cs := #[.int .i64 0, .int .i64 0, .int .i64 0, .int .i64 0, .int .i64 0, .int .i64 0, .int .i64 0, .int .i64 0]) (t := 89) ?hr ?_; (case hd => rfl); (case hg => rfl); (case hr => first | (go_simp; done) | (go_simp; rfl)); intro fA hg mB hbox hb; have sA := Aside0.mk (blk_below (g := bA) (o := .cells #[.int .i64 BA, .int .i64 CA, .int .i64 vA, .int .i64 GA, .int .i64 IA, .int .i64 LA, .int .i64 MA, .int .i64 VA] 89 (0, 0)) q2_6 hb); have wA := Aside0.mk (below_step q2_2 hb); have EA := Aside0.mk (hbox); have FA := Aside0.mk ((q2_30 : w.heap.size ≤ fA)); have sB := Aside0.mk ((q2_30 : w.heap.size ≤ fA)); have tB := Aside0.mk ((q2_12 : bA ≠ fA)); have uB := Aside0.mk ((q2_13 : fA ≠ bA)); clear aA HB; have aA := sA; have HB := wA; have dA := EA; have uC := FA; have LB := sB; have JA := tB; have KA := uB; clear sA wA EA FA sB tB uB; clear hb hbox hg; have JE := KA.out; have KE := JA.out; have OB : mB.cell? ⟨fA, 0, none⟩ = some (.int .i64 0) := (blk_cell dA.out 0).trans rfl; have PB : mB.cell? ⟨fA, 1, none⟩ = some (.int .i64 0) := (blk_cell dA.out 1).trans rfl; have QB : mB.cell? ⟨fA, 2, none⟩ = some (.int .i64 0) := (blk_cell dA.out 2).trans rfl; have RB : mB.cell? ⟨fA, 3, none⟩ = some (.int .i64 0) := (blk_cell dA.out 3).trans rfl; have SB : mB.cell? ⟨fA, 4, none⟩ = some (.int .i64 0) := (blk_cell dA.out 4).trans rfl; have TB : mB.cell? ⟨fA, 5, none⟩ = some (.int .i64 0) := (blk_cell dA.out 5).trans rfl; have UB : mB.cell? ⟨fA, 6, none⟩ = some (.int .i64 0) := (blk_cell dA.out 6).trans rfl; have VB : mB.cell? ⟨fA, 7, none⟩ = some (.int .i64 0) := (blk_cell dA.out 7).trans rfl; have WB := blk_frozen dA.out 0; have XB := blk_frozen dA.out 1; have YB := blk_frozen dA.out 2; have ZB := blk_frozen dA.out 3; have aC := blk_frozen dA.out 4; have bC := blk_frozen dA.out 5; have cC := blk_frozen dA.out 6; have dC := blk_frozen dA.out 7; have eC : mB.cell? ⟨bA, 0, none⟩ = some (.int .i64 BA) := (blk_cell aA.out 0).trans rfl; have fC : mB.cell? ⟨bA, 1, none⟩ = some (.int .i64 CA) := (blk_cell aA.out 1).trans rfl; have gC : mB.cell? ⟨bA, 2, none⟩ = some (.int .i64 vA) := (blk_cell aA.out 2).trans rfl; have hC : mB.cell? ⟨bA, 3, none⟩ = some (.int .i64 GA) := (blk_cell aA.out 3).trans rfl; have iC : mB.cell? ⟨bA, 4, none⟩ = some (.int .i64 IA) := (blk_cell aA.out 4).trans rfl; have jC : mB.cell? ⟨bA, 5, none⟩ = some (.int .i64 LA) := (blk_cell aA.out 5).trans rfl; have kC : mB.cell? ⟨bA, 6, none⟩ = some (.int .i64 MA) := (blk_cell aA.out 6).trans rfl; have lC : mB.cell? ⟨bA, 7, none⟩ = some (.int .i64 VA) := (blk_cell aA.out 7).trans rfl; have mC := blk_frozen aA.out 0; have nC := blk_frozen aA.out 1; have oC := blk_frozen aA.out 2; have pC := blk_frozen aA.out 3; have qC := blk_frozen aA.out 4; have rC := blk_frozen aA.out 5; have sC := blk_frozen aA.out 6; have tC := blk_frozen aA.out 7)); try go_wp2_with (first | (go_at_call 73; (with_reducible refine (spec_l08Turn.calls k2 _ _ l0 1 bB BA CA vA GA IA LA MA VA yB _ ?side1 ?side2 A13.out).mono ?_); (case side1 => exact q2_4); (case side2 => exact q2_34); rintro e dJ ⟨rfl, hb⟩; have sA := Aside0.mk (below_step q2_0 hb); clear HB; have HB := sA; clear sA; (try clear hb); (try clear hb2); (try clear hk); (try clear hi)) | ((with_reducible refine gate_dst (N := 8) rfl ?_); (try (refine gate_guard (by rfl) ?_; dsimp only)); refine box_event ?hg (N := 8) ?hd (cs := #[.int .i64 0, .int .i64 0, .int .i64 0, .int .i64 0, .int .i64 0, .int .i64 0, .int .i64 0, .int .i64 0]) (t := 89) ?hr ?_; (case hd => rfl); (case hg => rfl); (case hr => first | (go_simp; done) | (go_simp; rfl)); intro bA hg rB hbox hb; have sA := Aside0.mk (below_step q2_0 hb); have wA := Aside0.mk (hbox); have EA := Aside0.mk ((q2_11 : w.heap.size ≤ bA)); have FA := Aside0.mk ((q2_11 : w.heap.size ≤ bA)); clear HB; have HB := sA; have aA := wA; have jA := EA; have oB := FA; clear sA wA EA FA; clear hb hbox hg; have iD : rB.cell? ⟨bA, 0, none⟩ = some (.int .i64 0) := (blk_cell aA.out 0).trans rfl; have jD : rB.cell? ⟨bA, 1, none⟩ = some (.int .i64 0) := (blk_cell aA.out 1).trans rfl; have kD : rB.cell? ⟨bA, 2, none⟩ = some (.int .i64 0) := (blk_cell aA.out 2).trans rfl; have lD : rB.cell? ⟨bA, 3, none⟩ = some (.int .i64 0) := (blk_cell aA.out 3).trans rfl; have mD : rB.cell? ⟨bA, 4, none⟩ = some (.int .i64 0) := (blk_cell aA.out 4).trans rfl; have nD : rB.cell? ⟨bA, 5, none⟩ = some (.int .i64 0) := (blk_cell aA.out 5).trans rfl; have oD : rB.cell? ⟨bA, 6, none⟩ = some (.int .i64 0) := (blk_cell aA.out 6).trans rfl; have pD : rB.cell? ⟨bA, 7, none⟩ = some (.int .i64 0) := (blk_cell aA.out 7).trans rfl; have qD := blk_frozen aA.out 0; have rD := blk_frozen aA.out 1; have sD := blk_frozen aA.out 2; have tD := blk_frozen aA.out 3; have uD := blk_frozen aA.out 4; have vD := blk_frozen aA.out 5; have wD := blk_frozen aA.out 6; have xD := blk_frozen aA.out 7) | (go_at_call 73; (with_reducible refine (spec_l08Turn.calls k2 _ _ l0 2 bB uE vE wE xE KB yE zE AE BE _ ?side1 ?side2 A25.out).mono ?_); (case side1 => exact Kd.C_below HR0.out q2_2); (case side2 => exact q2_34); rintro e eJ ⟨rfl, hb⟩; have sA := Aside0.mk (blk_below (g := bA) (o := .cells #[.int .i64 BA, .int .i64 CA, .int .i64 vA, .int .i64 GA, .int .i64 IA, .int .i64 LA, .int .i64 MA, .int .i64 VA] 89 (0, 0)) q2_1 hb); have wA := Aside0.mk (below_step q2_2 hb); clear aA HB; have aA := sA; have HB := wA; clear sA wA; (try clear hb); (try clear hb2); (try clear hk); (try clear hi)) | ((with_reducible refine gate_dst (N := 10) rfl ?_); (try (refine gate_guard (by rfl) ?_; dsimp only)); refine box_event ?hg (N := 10) ?hd (cs := #[.int .i64 0, .int .i64 0, .int .i64 0, .int .i64 0, .int .i64 0, .int .i64 0, .int .i64 0, .int .i64 0]) (t := 89) ?hr ?_; (case hd => rfl); (case hg => rfl); (case hr => first | (go_simp; done) | (go_simp; rfl)); intro fA hg mB hbox hb; have sA := Aside0.mk (blk_below (g := bA) (o := .cells #[.int .i64 BA, .int .i64 CA, .int .i64 vA, .int .i64 GA, .int .i64 IA, .int .i64 LA, .int .i64 MA, .int .i64 VA] 89 (0, 0)) q2_6 hb); have wA := Aside0.mk (below_step q2_2 hb); have EA := Aside0.mk (hbox); have FA := Aside0.mk ((q2_30 : w.heap.size ≤ fA)); have sB := Aside0.mk ((q2_30 : w.heap.size ≤ fA)); have tB := Aside0.mk ((q2_12 : bA ≠ fA)); have uB := Aside0.mk ((q2_13 : fA ≠ bA)); clear aA HB; have aA := sA; have HB := wA; have dA := EA; have uC := FA; have LB := sB; have JA := tB; have KA := uB; clear sA wA EA FA sB tB uB; clear hb hbox hg; have JE := KA.out; have KE := JA.out; have OB : mB.cell? ⟨fA, 0, none⟩ = some (.int .i64 0) := (blk_cell dA.out 0).trans rfl; have PB : mB.cell? ⟨fA, 1, none⟩ = some (.int .i64 0) := (blk_cell dA.out 1).trans rfl; have QB : mB.cell? ⟨fA, 2, none⟩ = some (.int .i64 0) := (blk_cell dA.out 2).trans rfl; have RB : mB.cell? ⟨fA, 3, none⟩ = some (.int .i64 0) := (blk_cell dA.out 3).trans rfl; have SB : mB.cell? ⟨fA, 4, none⟩ = some (.int .i64 0) := (blk_cell dA.out 4).trans rfl; have TB : mB.cell? ⟨fA, 5, none⟩ = some (.int .i64 0) := (blk_cell dA.out 5).trans rfl; have UB : mB.cell? ⟨fA, 6, none⟩ = some (.int .i64 0) := (blk_cell dA.out 6).trans rfl; have VB : mB.cell? ⟨fA, 7, none⟩ = some (.int .i64 0) := (blk_cell dA.out 7).trans rfl; have WB := blk_frozen dA.out 0; have XB := blk_frozen dA.out 1; have YB := blk_frozen dA.out 2; have ZB := blk_frozen dA.out 3; have aC := blk_frozen dA.out 4; have bC := blk_frozen dA.out 5; have cC := blk_frozen dA.out 6; have dC := blk_frozen dA.out 7; have eC : mB.cell? ⟨bA, 0, none⟩ = some (.int .i64 BA) := (blk_cell aA.out 0).trans rfl; have fC : mB.cell? ⟨bA, 1, none⟩ = some (.int .i64 CA) := (blk_cell aA.out 1).trans rfl; have gC : mB.cell? ⟨bA, 2, none⟩ = some (.int .i64 vA) := (blk_cell aA.out 2).trans rfl; have hC : mB.cell? ⟨bA, 3, none⟩ = some (.int .i64 GA) := (blk_cell aA.out 3).trans rfl; have iC : mB.cell? ⟨bA, 4, none⟩ = some (.int .i64 IA) := (blk_cell aA.out 4).trans rfl; have jC : mB.cell? ⟨bA, 5, none⟩ = some (.int .i64 LA) := (blk_cell aA.out 5).trans rfl; have kC : mB.cell? ⟨bA, 6, none⟩ = some (.int .i64 MA) := (blk_cell aA.out 6).trans rfl; have lC : mB.cell? ⟨bA, 7, none⟩ = some (.int .i64 VA) := (blk_cell aA.out 7).trans rfl; have mC := blk_frozen aA.out 0; have nC := blk_frozen aA.out 1; have oC := blk_frozen aA.out 2; have pC := blk_frozen aA.out 3; have qC := blk_frozen aA.out 4; have rC := blk_frozen aA.out 5; have sC := blk_frozen aA.out 6; have tC := blk_frozen aA.out 7)))
         go_roundg k2
         case measure => have := HJ4.out; have := HK2.out; omega
         case rel => exact ⟨(wrap64 (bB + 1)), q2_10, H', ⟨by have := HJ4.out; have := HK2.out; omega⟩, ⟨by repeat (first | (with_reducible first | exact HB.out | apply below_alloc | apply pw_below_drewN | apply below_drew1 | refine below_set ?_ oB.out | refine below_set ?_ LB.out) | exact HB.out)⟩⟩
        ·rw [if_neg c26] at H
         have aH : (KB == vA) = false := beq_eq_false_iff_ne.mpr c26
         have bH : (KB != vA) = true := bne_iff_ne.mpr c26
         obtain rfl := Option.some.inj H
         go_wp2_with (first | (go_at_call 73; (with_reducible refine (spec_l08Turn.calls k2 _ _ l0 1 bB BA CA vA GA IA LA MA VA yB _ ?side1 ?side2 A13.out).mono ?_); (case side1 => exact q2_4); (case side2 => exact q2_34); rintro e fJ ⟨rfl, hb⟩; have sA := Aside0.mk (below_step q2_0 hb); clear HB; have HB := sA; clear sA; (try clear hb); (try clear hb2); (try clear hk); (try clear hi)) | ((with_reducible refine gate_dst (N := 8) rfl ?_); (try (refine gate_guard (by rfl) ?_; dsimp only)); refine box_event ?hg (N := 8) ?hd (cs := #[.int .i64 0, .int .i64 0, .int .i64 0, .int .i64 0, .int .i64 0, .int .i64 0, .int .i64 0, .int .i64 0]) (t := 89) ?hr ?_; (case hd => rfl); (case hg => rfl); (case hr => first | (go_simp; done) | (go_simp; rfl)); intro bA hg xB hbox hb; have sA := Aside0.mk (below_step q2_0 hb); have wA := Aside0.mk (hbox); have EA := Aside0.mk ((q2_11 : w.heap.size ≤ bA)); have FA := Aside0.mk ((q2_11 : w.heap.size ≤ bA)); clear HB; have HB := sA; have aA := wA; have jA := EA; have oB := FA; clear sA wA EA FA; clear hb hbox hg; have yD : xB.cell? ⟨bA, 0, none⟩ = some (.int .i64 0) := (blk_cell aA.out 0).trans rfl; have zD : xB.cell? ⟨bA, 1, none⟩ = some (.int .i64 0) := (blk_cell aA.out 1).trans rfl; have AD : xB.cell? ⟨bA, 2, none⟩ = some (.int .i64 0) := (blk_cell aA.out 2).trans rfl; have BD : xB.cell? ⟨bA, 3, none⟩ = some (.int .i64 0) := (blk_cell aA.out 3).trans rfl; have CD : xB.cell? ⟨bA, 4, none⟩ = some (.int .i64 0) := (blk_cell aA.out 4).trans rfl; have DD : xB.cell? ⟨bA, 5, none⟩ = some (.int .i64 0) := (blk_cell aA.out 5).trans rfl; have ED : xB.cell? ⟨bA, 6, none⟩ = some (.int .i64 0) := (blk_cell aA.out 6).trans rfl; have FD : xB.cell? ⟨bA, 7, none⟩ = some (.int .i64 0) := (blk_cell aA.out 7).trans rfl; have GD := blk_frozen aA.out 0; have HD := blk_frozen aA.out 1; have ID := blk_frozen aA.out 2; have JD := blk_frozen aA.out 3; have KD := blk_frozen aA.out 4; have LD := blk_frozen aA.out 5; have MD := blk_frozen aA.out 6; have ND := blk_frozen aA.out 7) | (go_at_call 73; (with_reducible refine (spec_l08Turn.calls k2 _ _ l0 2 bB uE vE wE xE KB yE zE AE BE _ ?side1 ?side2 A25.out).mono ?_); (case side1 => exact Kd.C_below HR0.out q2_2); (case side2 => exact q2_34); rintro e gJ ⟨rfl, hb⟩; have sA := Aside0.mk (blk_below (g := bA) (o := .cells #[.int .i64 BA, .int .i64 CA, .int .i64 vA, .int .i64 GA, .int .i64 IA, .int .i64 LA, .int .i64 MA, .int .i64 VA] 89 (0, 0)) q2_1 hb); have wA := Aside0.mk (below_step q2_2 hb); clear aA HB; have aA := sA; have HB := wA; clear sA wA; (try clear hb); (try clear hb2); (try clear hk); (try clear hi)) | ((with_reducible refine gate_dst (N := 10) rfl ?_); (try (refine gate_guard (by rfl) ?_; dsimp only)); refine box_event ?hg (N := 10) ?hd (cs := #[.int .i64 0, .int .i64 0, .int .i64 0, .int .i64 0, .int .i64 0, .int .i64 0, .int .i64 0, .int .i64 0]) (t := 89) ?hr ?_; (case hd => rfl); (case hg => rfl); (case hr => first | (go_simp; done) | (go_simp; rfl)); intro fA hg nB hbox hb; have sA := Aside0.mk (blk_below (g := bA) (o := .cells #[.int .i64 BA, .int .i64 CA, .int .i64 vA, .int .i64 GA, .int .i64 IA, .int .i64 LA, .int .i64 MA, .int .i64 VA] 89 (0, 0)) q2_6 hb); have wA := Aside0.mk (below_step q2_2 hb); have EA := Aside0.mk (hbox); have FA := Aside0.mk ((q2_30 : w.heap.size ≤ fA)); have sB := Aside0.mk ((q2_30 : w.heap.size ≤ fA)); have tB := Aside0.mk ((q2_12 : bA ≠ fA)); have uB := Aside0.mk ((q2_13 : fA ≠ bA)); clear aA HB; have aA := sA; have HB := wA; have dA := EA; have uC := FA; have LB := sB; have JA := tB; have KA := uB; clear sA wA EA FA sB tB uB; clear hb hbox hg; have UF := KA.out; have VF := JA.out; have OD : nB.cell? ⟨fA, 0, none⟩ = some (.int .i64 0) := (blk_cell dA.out 0).trans rfl; have PD : nB.cell? ⟨fA, 1, none⟩ = some (.int .i64 0) := (blk_cell dA.out 1).trans rfl; have QD : nB.cell? ⟨fA, 2, none⟩ = some (.int .i64 0) := (blk_cell dA.out 2).trans rfl; have RD : nB.cell? ⟨fA, 3, none⟩ = some (.int .i64 0) := (blk_cell dA.out 3).trans rfl; have SD : nB.cell? ⟨fA, 4, none⟩ = some (.int .i64 0) := (blk_cell dA.out 4).trans rfl; have TD : nB.cell? ⟨fA, 5, none⟩ = some (.int .i64 0) := (blk_cell dA.out 5).trans rfl; have UD : nB.cell? ⟨fA, 6, none⟩ = some (.int .i64 0) := (blk_cell dA.out 6).trans rfl; have VD : nB.cell? ⟨fA, 7, none⟩ = some (.int .i64 0) := (blk_cell dA.out 7).trans rfl; have WD := blk_frozen dA.out 0; have XD := blk_frozen dA.out 1; have YD := blk_frozen dA.out 2; have ZD := blk_frozen dA.out 3; have aE := blk_frozen dA.out 4; have bE := blk_frozen dA.out 5; have cE := blk_frozen dA.out 6; have dE := blk_frozen dA.out 7; have eE : nB.cell? ⟨bA, 0, none⟩ = some (.int .i64 BA) := (blk_cell aA.out 0).trans rfl; have fE : nB.cell? ⟨bA, 1, none⟩ = some (.int .i64 CA) := (blk_cell aA.out 1).trans rfl; have gE : nB.cell? ⟨bA, 2, none⟩ = some (.int .i64 vA) := (blk_cell aA.out 2).trans rfl; have hE : nB.cell? ⟨bA, 3, none⟩ = some (.int .i64 GA) := (blk_cell aA.out 3).trans rfl; have iE : nB.cell? ⟨bA, 4, none⟩ = some (.int .i64 IA) := (blk_cell aA.out 4).trans rfl; have jE : nB.cell? ⟨bA, 5, none⟩ = some (.int .i64 LA) := (blk_cell aA.out 5).trans rfl; have kE : nB.cell? ⟨bA, 6, none⟩ = some (.int .i64 MA) := (blk_cell aA.out 6).trans rfl; have lE : nB.cell? ⟨bA, 7, none⟩ = some (.int .i64 VA) := (blk_cell aA.out 7).trans rfl; have mE := blk_frozen aA.out 0; have nE := blk_frozen aA.out 1; have oE := blk_frozen aA.out 2; have pE := blk_frozen aA.out 3; have qE := blk_frozen aA.out 4; have rE := blk_frozen aA.out 5; have sE := blk_frozen aA.out 6; have tE := blk_frozen aA.out 7))
         repeat (go_quiet (first | (go_at_call 73; (with_reducible refine (spec_l08Turn.calls k2 _ _ l0 1 bB BA CA vA GA IA LA MA VA yB _ ?side1 ?side2 A13.out).mono ?_); (case side1 => exact q2_4); (case side2 => exact q2_34); rintro e fJ ⟨rfl, hb⟩; have sA := Aside0.mk (below_step q2_0 hb); clear HB; have HB := sA; clear sA; (try clear hb); (try clear hb2); (try clear hk); (try clear hi)) | ((with_reducible refine gate_dst (N := 8) rfl ?_); (try (refine gate_guard (by rfl) ?_; dsimp only)); refine box_event ?hg (N := 8) ?hd (cs := #[.int .i64 0, .int .i64 0, .int .i64 0, .int .i64 0, .int .i64 0, .int .i64 0, .int .i64 0, .int .i64 0]) (t := 89) ?hr ?_; (case hd => rfl); (case hg => rfl); (case hr => first | (go_simp; done) | (go_simp; rfl)); intro bA hg xB hbox hb; have sA := Aside0.mk (below_step q2_0 hb); have wA := Aside0.mk (hbox); have EA := Aside0.mk ((q2_11 : w.heap.size ≤ bA)); have FA := Aside0.mk ((q2_11 : w.heap.size ≤ bA)); clear HB; have HB := sA; have aA := wA; have jA := EA; have oB := FA; clear sA wA EA FA; clear hb hbox hg; have yD : xB.cell? ⟨bA, 0, none⟩ = some (.int .i64 0) := (blk_cell aA.out 0).trans rfl; have zD : xB.cell? ⟨bA, 1, none⟩ = some (.int .i64 0) := (blk_cell aA.out 1).trans rfl; have AD : xB.cell? ⟨bA, 2, none⟩ = some (.int .i64 0) := (blk_cell aA.out 2).trans rfl; have BD : xB.cell? ⟨bA, 3, none⟩ = some (.int .i64 0) := (blk_cell aA.out 3).trans rfl; have CD : xB.cell? ⟨bA, 4, none⟩ = some (.int .i64 0) := (blk_cell aA.out 4).trans rfl; have DD : xB.cell? ⟨bA, 5, none⟩ = some (.int .i64 0) := (blk_cell aA.out 5).trans rfl; have ED : xB.cell? ⟨bA, 6, none⟩ = some (.int .i64 0) := (blk_cell aA.out 6).trans rfl; have FD : xB.cell? ⟨bA, 7, none⟩ = some (.int .i64 0) := (blk_cell aA.out 7).trans rfl; have GD := blk_frozen aA.out 0; have HD := blk_frozen aA.out 1; have ID := blk_frozen aA.out 2; have JD := blk_frozen aA.out 3; have KD := blk_frozen aA.out 4; have LD := blk_frozen aA.out 5; have MD := blk_frozen aA.out 6; have ND := blk_frozen aA.out 7) | (go_at_call 73; (with_reducible refine (spec_l08Turn.calls k2 _ _ l0 2 bB uE vE wE xE KB yE zE AE BE _ ?side1 ?side2 A25.out).mono ?_); (case side1 => exact Kd.C_below HR0.out q2_2); (case side2 => exact q2_34); rintro e gJ ⟨rfl, hb⟩; have sA := Aside0.mk (blk_below (g := bA) (o := .cells #[.int .i64 BA, .int .i64 CA, .int .i64 vA, .int .i64 GA, .int .i64 IA, .int .i64 LA, .int .i64 MA, .int .i64 VA] 89 (0, 0)) q2_1 hb); have wA := Aside0.mk (below_step q2_2 hb); clear aA HB; have aA := sA; have HB := wA; clear sA wA; (try clear hb); (try clear hb2); (try clear hk); (try clear hi)) | ((with_reducible refine gate_dst (N := 10) rfl ?_); (try (refine gate_guard (by rfl) ?_; dsimp only)); refine box_event ?hg (N := 10) ?hd (cs := #[.int .i64 0, .int .i64 0, .int .i64 0, .int .i64 0, .int .i64 0, .int .i64 0, .int .i64 0, .int .i64 0]) (t := 89) ?hr ?_; (case hd => rfl); (case hg => rfl); (case hr => first | (go_simp; done) | (go_simp; rfl)); intro fA hg nB hbox hb; have sA := Aside0.mk (blk_below (g := bA) (o := .cells #[.int .i64 BA, .int .i64 CA, .int .i64 vA, .int .i64 GA, .int .i64 IA, .int .i64 LA, .int .i64 MA, .int .i64 VA] 89 (0, 0)) q2_6 hb); have wA := Aside0.mk (below_step q2_2 hb); have EA := Aside0.mk (hbox); have FA := Aside0.mk ((q2_30 : w.heap.size ≤ fA)); have sB := Aside0.mk ((q2_30 : w.heap.size ≤ fA)); have tB := Aside0.mk ((q2_12 : bA ≠ fA)); have uB := Aside0.mk ((q2_13 : fA ≠ bA)); clear aA HB; have aA := sA; have HB := wA; have dA := EA; have uC := FA; have LB := sB; have JA := tB; have KA := uB; clear sA wA EA FA sB tB uB; clear hb hbox hg; have UF := KA.out; have VF := JA.out; have OD : nB.cell? ⟨fA, 0, none⟩ = some (.int .i64 0) := (blk_cell dA.out 0).trans rfl; have PD : nB.cell? ⟨fA, 1, none⟩ = some (.int .i64 0) := (blk_cell dA.out 1).trans rfl; have QD : nB.cell? ⟨fA, 2, none⟩ = some (.int .i64 0) := (blk_cell dA.out 2).trans rfl; have RD : nB.cell? ⟨fA, 3, none⟩ = some (.int .i64 0) := (blk_cell dA.out 3).trans rfl; have SD : nB.cell? ⟨fA, 4, none⟩ = some (.int .i64 0) := (blk_cell dA.out 4).trans rfl; have TD : nB.cell? ⟨fA, 5, none⟩ = some (.int .i64 0) := (blk_cell dA.out 5).trans rfl; have UD : nB.cell? ⟨fA, 6, none⟩ = some (.int .i64 0) := (blk_cell dA.out 6).trans rfl; have VD : nB.cell? ⟨fA, 7, none⟩ = some (.int .i64 0) := (blk_cell dA.out 7).trans rfl; have WD := blk_frozen dA.out 0; have XD := blk_frozen dA.out 1; have YD := blk_frozen dA.out 2; have ZD := blk_frozen dA.out 3; have aE := blk_frozen dA.out 4; have bE := blk_frozen dA.out 5; have cE := blk_frozen dA.out 6; have dE := blk_frozen dA.out 7; have eE : nB.cell? ⟨bA, 0, none⟩ = some (.int .i64 BA) := (blk_cell aA.out 0).trans rfl; have fE : nB.cell? ⟨bA, 1, none⟩ = some (.int .i64 CA) := (blk_cell aA.out 1).trans rfl; have gE : nB.cell? ⟨bA, 2, none⟩ = some (.int .i64 vA) := (blk_cell aA.out 2).trans rfl; have hE : nB.cell? ⟨bA, 3, none⟩ = some (.int .i64 GA) := (blk_cell aA.out 3).trans rfl; have iE : nB.cell? ⟨bA, 4, none⟩ = some (.int .i64 IA) := (blk_cell aA.out 4).trans rfl; have jE : nB.cell? ⟨bA, 5, none⟩ = some (.int .i64 LA) := (blk_cell aA.out 5).trans rfl; have kE : nB.cell? ⟨bA, 6, none⟩ = some (.int .i64 MA) := (blk_cell aA.out 6).trans rfl; have lE : nB.cell? ⟨bA, 7, none⟩ = some (.int .i64 VA) := (blk_cell aA.out 7).trans rfl; have mE := blk_frozen aA.out 0; have nE := blk_frozen aA.out 1; have oE := blk_frozen aA.out 2; have pE := blk_frozen aA.out 3; have qE := blk_frozen aA.out 4; have rE := blk_frozen aA.out 5; have sE := blk_frozen aA.out 6; have tE := blk_frozen aA.out 7)); try go_wp2_with (first | (go_at_call 73; (with_reducible refine (spec_l08Turn.calls k2 _ _ l0 1 bB BA CA vA GA IA LA MA VA yB _ ?side1 ?side2 A13.out).mono ?_); (case side1 => exact q2_4); (case side2 => exact q2_34); rintro e fJ ⟨rfl, hb⟩; have sA := Aside0.mk (below_step q2_0 hb); clear HB; have HB := sA; clear sA; (try clear hb); (try clear hb2); (try clear hk); (try clear hi)) | ((with_reducible refine gate_dst (N := 8) rfl ?_); (try (refine gate_guard (by rfl) ?_; dsimp only)); refine box_event ?hg (N := 8) ?hd (cs := #[.int .i64 0, .int .i64 0, .int .i64 0, .int .i64 0, .int .i64 0, .int .i64 0, .int .i64 0, .int .i64 0]) (t := 89) ?hr ?_; (case hd => rfl); (case hg => rfl); (case hr => first | (go_simp; done) | (go_simp; rfl)); intro bA hg xB hbox hb; have sA := Aside0.mk (below_step q2_0 hb); have wA := Aside0.mk (hbox); have EA := Aside0.mk ((q2_11 : w.heap.size ≤ bA)); have FA := Aside0.mk ((q2_11 : w.heap.size ≤ bA)); clear HB; have HB := sA; have aA := wA; have jA := EA; have oB := FA; clear sA wA EA FA; clear hb hbox hg; have yD : xB.cell? ⟨bA, 0, none⟩ = some (.int .i64 0) := (blk_cell aA.out 0).trans rfl; have zD : xB.cell? ⟨bA, 1, none⟩ = some (.int .i64 0) := (blk_cell aA.out 1).trans rfl; have AD : xB.cell? ⟨bA, 2, none⟩ = some (.int .i64 0) := (blk_cell aA.out 2).trans rfl; have BD : xB.cell? ⟨bA, 3, none⟩ = some (.int .i64 0) := (blk_cell aA.out 3).trans rfl; have CD : xB.cell? ⟨bA, 4, none⟩ = some (.int .i64 0) := (blk_cell aA.out 4).trans rfl; have DD : xB.cell? ⟨bA, 5, none⟩ = some (.int .i64 0) := (blk_cell aA.out 5).trans rfl; have ED : xB.cell? ⟨bA, 6, none⟩ = some (.int .i64 0) := (blk_cell aA.out 6).trans rfl; have FD : xB.cell? ⟨bA, 7, none⟩ = some (.int .i64 0) := (blk_cell aA.out 7).trans rfl; have GD := blk_frozen aA.out 0; have HD := blk_frozen aA.out 1; have ID := blk_frozen aA.out 2; have JD := blk_frozen aA.out 3; have KD := blk_frozen aA.out 4; have LD := blk_frozen aA.out 5; have MD := blk_frozen aA.out 6; have ND := blk_frozen aA.out 7) | (go_at_call 73; (with_reducible refine (spec_l08Turn.calls k2 _ _ l0 2 bB uE vE wE xE KB yE zE AE BE _ ?side1 ?side2 A25.out).mono ?_); (case side1 => exact Kd.C_below HR0.out q2_2); (case side2 => exact q2_34); rintro e gJ ⟨rfl, hb⟩; have sA := Aside0.mk (blk_below (g := bA) (o := .cells #[.int .i64 BA, .int .i64 CA, .int .i64 vA, .int .i64 GA, .int .i64 IA, .int .i64 LA, .int .i64 MA, .int .i64 VA] 89 (0, 0)) q2_1 hb); have wA := Aside0.mk (below_step q2_2 hb); clear aA HB; have aA := sA; have HB := wA; clear sA wA; (try clear hb); (try clear hb2); (try clear hk); (try clear hi)) | ((with_reducible refine gate_dst (N := 10) rfl ?_); (try (refine gate_guard (by rfl) ?_; dsimp only)); refine box_event ?hg (N := 10) ?hd (cs := #[.int .i64 0, .int .i64 0, .int .i64 0, .int .i64 0, .int .i64 0, .int .i64 0, .int .i64 0, .int .i64 0]) (t := 89) ?hr ?_; (case hd => rfl); (case hg => rfl); (case hr => first | (go_simp; done) | (go_simp; rfl)); intro fA hg nB hbox hb; have sA := Aside0.mk (blk_below (g := bA) (o := .cells #[.int .i64 BA, .int .i64 CA, .int .i64 vA, .int .i64 GA, .int .i64 IA, .int .i64 LA, .int .i64 MA, .int .i64 VA] 89 (0, 0)) q2_6 hb); have wA := Aside0.mk (below_step q2_2 hb); have EA := Aside0.mk (hbox); have FA := Aside0.mk ((q2_30 : w.heap.size ≤ fA)); have sB := Aside0.mk ((q2_30 : w.heap.size ≤ fA)); have tB := Aside0.mk ((q2_12 : bA ≠ fA)); have uB := Aside0.mk ((q2_13 : fA ≠ bA)); clear aA HB; have aA := sA; have HB := wA; have dA := EA; have uC := FA; have LB := sB; have JA := tB; have KA := uB; clear sA wA EA FA sB tB uB; clear hb hbox hg; have UF := KA.out; have VF := JA.out; have OD : nB.cell? ⟨fA, 0, none⟩ = some (.int .i64 0) := (blk_cell dA.out 0).trans rfl; have PD : nB.cell? ⟨fA, 1, none⟩ = some (.int .i64 0) := (blk_cell dA.out 1).trans rfl; have QD : nB.cell? ⟨fA, 2, none⟩ = some (.int .i64 0) := (blk_cell dA.out 2).trans rfl; have RD : nB.cell? ⟨fA, 3, none⟩ = some (.int .i64 0) := (blk_cell dA.out 3).trans rfl; have SD : nB.cell? ⟨fA, 4, none⟩ = some (.int .i64 0) := (blk_cell dA.out 4).trans rfl; have TD : nB.cell? ⟨fA, 5, none⟩ = some (.int .i64 0) := (blk_cell dA.out 5).trans rfl; have UD : nB.cell? ⟨fA, 6, none⟩ = some (.int .i64 0) := (blk_cell dA.out 6).trans rfl; have VD : nB.cell? ⟨fA, 7, none⟩ = some (.int .i64 0) := (blk_cell dA.out 7).trans rfl; have WD := blk_frozen dA.out 0; have XD := blk_frozen dA.out 1; have YD := blk_frozen dA.out 2; have ZD := blk_frozen dA.out 3; have aE := blk_frozen dA.out 4; have bE := blk_frozen dA.out 5; have cE := blk_frozen dA.out 6; have dE := blk_frozen dA.out 7; have eE : nB.cell? ⟨bA, 0, none⟩ = some (.int .i64 BA) := (blk_cell aA.out 0).trans rfl; have fE : nB.cell? ⟨bA, 1, none⟩ = some (.int .i64 CA) := (blk_cell aA.out 1).trans rfl; have gE : nB.cell? ⟨bA, 2, none⟩ = some (.int .i64 vA) := (blk_cell aA.out 2).trans rfl; have hE : nB.cell? ⟨bA, 3, none⟩ = some (.int .i64 GA) := (blk_cell aA.out 3).trans rfl; have iE : nB.cell? ⟨bA, 4, none⟩ = some (.int .i64 IA) := (blk_cell aA.out 4).trans rfl; have jE : nB.cell? ⟨bA, 5, none⟩ = some (.int .i64 LA) := (blk_cell aA.out 5).trans rfl; have kE : nB.cell? ⟨bA, 6, none⟩ = some (.int .i64 MA) := (blk_cell aA.out 6).trans rfl; have lE : nB.cell? ⟨bA, 7, none⟩ = some (.int .i64 VA) := (blk_cell aA.out 7).trans rfl; have mE := blk_frozen aA.out 0; have nE := blk_frozen aA.out 1; have oE := blk_frozen aA.out 2; have pE := blk_frozen aA.out 3; have qE := blk_frozen aA.out 4; have rE := blk_frozen aA.out 5; have sE := blk_frozen aA.out 6; have tE := blk_frozen aA.out 7)))
         go_ret
         exact ⟨q2_29, by repeat (first | (with_reducible first | exact HB.out | apply below_alloc | apply pw_below_drewN | apply below_drew1 | refine below_set ?_ oB.out | refine below_set ?_ LB.out) | exact HB.out)⟩
      ·rw [if_neg c12] at H
       have EE : decide (bB < aB) = false := decide_eq_false c12
       clear c12
       obtain rfl := Option.some.inj H
       go_wp2
       repeat (go_quiet (fail); try go_wp2)
       go_ret
       exact ⟨q2_29, q2_0⟩

end Go.Proofs.Ytgghglocfdcegaa.PFnExactRingGood
