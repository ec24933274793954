-- Written by the session's own patched copy of the printer (wip/patch_print.py).
import Derived.Test.YtndkfjecipjiaaaPFnExactFactsx0
namespace Go.Proofs.Ytndkfjecipjiaaa.PFnExactFacts
open Go.RowKit Go.Proofs.YtndkfjecipjiaaaW.PrintWords Go.Proofs.YtndkfjecipjiaaaW.PrintLast Go.Proofs.YtndkfjecipjiaaaW.PrintMore
attribute [local go_sem] max2_int min2_int max_two min_two max_three min_three max_four min_four   -- for this text's walks alone
set_option linter.unusedVariables false
set_option linter.unusedSimpArgs false

/-! ### spec_Facts: function 36 -/
mutual
def spec_Facts.l0 : Nat → List (S89) → List (S55) → Int → Int → Option ((List (S89)))
  | 0, _, _, _, _ => none
  | k + 1, x3, x10, x11, x12 => if x12 < x11 then (if 0 ≤ x12 then (if x12 < (x10.length : Int) then (spec_Facts.l1 k x3 x12 x10 x11 x12 ((rd_T55 x10 x12).f0) (((rd_T55 x10 x12).f0).length : Int) 0 ((rd_T55 x10 x12).f0) ((rd_T55 x10 x12).f1) ((rd_T55 x10 x12).f2) ((rd_T55 x10 x12).f3)) else (none)) else (none)) else (some x3)
def spec_Facts.l1 : Nat → List (S89) → Int → List (S55) → Int → Int → List (S75) → Int → Int → List (S75) → Int → List Int → List Int → Option ((List (S89)))
  | 0, _, _, _, _, _, _, _, _, _, _, _, _ => none
  | k + 1, x3, x4, x10, x11, x12, x18, x19, x20, x219000, x219001, x219002, x219003 => if x20 < x19 then (if 0 ≤ x20 then (if x20 < (x18.length : Int) then (if (rd_T75 x18 x20).f9 = true then (if x20 < (x219002.length : Int) then (spec_Facts.j2 k x3 x4 x20 x10 x11 x12 x18 x19 x20 (decide (x20 < (x219003.length : Int))) x219000 x219001 x219002 x219003 ((rd_T75 x18 x20).f0) ((rd_T75 x18 x20).f1) ((rd_T75 x18 x20).f2) ((rd_T75 x18 x20).f3) ((rd_T75 x18 x20).f4) ((rd_T75 x18 x20).f5) ((rd_T75 x18 x20).f6) ((rd_T75 x18 x20).f7) ((rd_T75 x18 x20).f8) ((rd_T75 x18 x20).f9)) else (spec_Facts.j2 k x3 x4 x20 x10 x11 x12 x18 x19 x20 false x219000 x219001 x219002 x219003 ((rd_T75 x18 x20).f0) ((rd_T75 x18 x20).f1) ((rd_T75 x18 x20).f2) ((rd_T75 x18 x20).f3) ((rd_T75 x18 x20).f4) ((rd_T75 x18 x20).f5) ((rd_T75 x18 x20).f6) ((rd_T75 x18 x20).f7) ((rd_T75 x18 x20).f8) ((rd_T75 x18 x20).f9))) else (spec_Facts.j2 k x3 x4 x20 x10 x11 x12 x18 x19 x20 false x219000 x219001 x219002 x219003 ((rd_T75 x18 x20).f0) ((rd_T75 x18 x20).f1) ((rd_T75 x18 x20).f2) ((rd_T75 x18 x20).f3) ((rd_T75 x18 x20).f4) ((rd_T75 x18 x20).f5) ((rd_T75 x18 x20).f6) ((rd_T75 x18 x20).f7) ((rd_T75 x18 x20).f8) ((rd_T75 x18 x20).f9))) else (none)) else (none)) else (spec_Facts.l0 k x3 x10 x11 (wrap64 (x12 + 1)))
def spec_Facts.j2 : Nat → List (S89) → Int → Int → List (S55) → Int → Int → List (S75) → Int → Int → Bool → List (S75) → Int → List Int → List Int → Int → Int → Int → Int → Int → Int → Int → Int → Int → Bool → Option ((List (S89)))
  | 0, _, _, _, _, _, _, _, _, _, _, _, _, _, _, _, _, _, _, _, _, _, _, _, _ => none
  | k + 1, x3, x4, x6, x10, x11, x12, x18, x19, x20, x40, x219000, x219001, x219002, x219003, x221000, x221001, x221002, x221003, x221004, x221005, x221006, x221007, x221008, x221009 => if x40 = true then (if 0 ≤ x6 then (if x6 < (x219002.length : Int) then (if x6 < (x219003.length : Int) then (if x3.length < 2199023255552 then (spec_Facts.l1 k (x3 ++ [(⟨x4, x221000, x221001, x221007, x221008, x221004, rd x219002 x6, rd x219003 x6⟩ : S89)]) x4 x10 x11 x12 x18 x19 (wrap64 (x20 + 1)) x219000 x219001 x219002 x219003) else (none)) else (none)) else (none)) else (none)) else (spec_Facts.l1 k x3 x4 x10 x11 x12 x18 x19 (wrap64 (x20 + 1)) x219000 x219001 x219002 x219003)
end
def spec_Facts.f (k : Nat) (a0_0 : Int) (a0_1 : Int) (l0_2 : List Int) (l0_3 : List (S55)) (a0_4 : Int) : Option ((List (S89))) := spec_Facts.l0 k (([] : List (S89))) l0_3 (l0_3.length : Int) 0
theorem spec_Facts.mono_l : ∀ k, (∀ y0 y1 y2 y3, LeO (spec_Facts.l0 k y0 y1 y2 y3) (spec_Facts.l0 (k + 1) y0 y1 y2 y3)) ∧ (∀ y0 y1 y2 y3 y4 y5 y6 y7 y8 y9 y10 y11, LeO (spec_Facts.l1 k y0 y1 y2 y3 y4 y5 y6 y7 y8 y9 y10 y11) (spec_Facts.l1 (k + 1) y0 y1 y2 y3 y4 y5 y6 y7 y8 y9 y10 y11)) ∧ (∀ y0 y1 y2 y3 y4 y5 y6 y7 y8 y9 y10 y11 y12 y13 y14 y15 y16 y17 y18 y19 y20 y21 y22 y23, LeO (spec_Facts.j2 k y0 y1 y2 y3 y4 y5 y6 y7 y8 y9 y10 y11 y12 y13 y14 y15 y16 y17 y18 y19 y20 y21 y22 y23) (spec_Facts.j2 (k + 1) y0 y1 y2 y3 y4 y5 y6 y7 y8 y9 y10 y11 y12 y13 y14 y15 y16 y17 y18 y19 y20 y21 y22 y23))
  | 0 => ⟨fun _ _ _ _ r h => by simp [spec_Facts.l0] at h, fun _ _ _ _ _ _ _ _ _ _ _ _ r h => by simp [spec_Facts.l1] at h, fun _ _ _ _ _ _ _ _ _ _ _ _ _ _ _ _ _ _ _ _ _ _ _ _ r h => by simp [spec_Facts.j2] at h⟩
  | k + 1 => by
    obtain ⟨ih0, ih1, ih2⟩ := spec_Facts.mono_l k
    refine ⟨?_, ?_, ?_⟩
    · intro y0 y1 y2 y3
      unfold spec_Facts.l0
      repeat' first
      | (with_reducible exact ih0 _ _ _ _)
      | (with_reducible exact ih1 _ _ _ _ _ _ _ _ _ _ _ _)
      | (with_reducible exact ih2 _ _ _ _ _ _ _ _ _ _ _ _ _ _ _ _ _ _ _ _ _ _ _ _)
      | (with_reducible exact LeO.refl _)
      | (with_reducible exact LeO.none _)
      | (with_reducible refine LeO.ite ?_ ?_)
      | (with_reducible refine LeO.bind ?_ (fun _ => ?_))
      | exact ih0 _ _ _ _
      | exact ih1 _ _ _ _ _ _ _ _ _ _ _ _
      | exact ih2 _ _ _ _ _ _ _ _ _ _ _ _ _ _ _ _ _ _ _ _ _ _ _ _
      | exact LeO.none _
      | refine LeO.ite ?_ ?_
      | refine LeO.bind ?_ (fun _ => ?_)
    · intro y0 y1 y2 y3 y4 y5 y6 y7 y8 y9 y10 y11
      unfold spec_Facts.l1
      repeat' first
      | (with_reducible exact ih0 _ _ _ _)
      | (with_reducible exact ih1 _ _ _ _ _ _ _ _ _ _ _ _)
      | (with_reducible exact ih2 _ _ _ _ _ _ _ _ _ _ _ _ _ _ _ _ _ _ _ _ _ _ _ _)
      | (with_reducible exact LeO.refl _)
      | (with_reducible exact LeO.none _)
      | (with_reducible refine LeO.ite ?_ ?_)
      | (with_reducible refine LeO.bind ?_ (fun _ => ?_))
      | exact ih0 _ _ _ _
      | exact ih1 _ _ _ _ _ _ _ _ _ _ _ _
      | exact ih2 _ _ _ _ _ _ _ _ _ _ _ _ _ _ _ _ _ _ _ _ _ _ _ _
      | exact LeO.none _
      | refine LeO.ite ?_ ?_
      | refine LeO.bind ?_ (fun _ => ?_)
    · intro y0 y1 y2 y3 y4 y5 y6 y7 y8 y9 y10 y11 y12 y13 y14 y15 y16 y17 y18 y19 y20 y21 y22 y23
      unfold spec_Facts.j2
      repeat' first
      | (with_reducible exact ih0 _ _ _ _)
      | (with_reducible exact ih1 _ _ _ _ _ _ _ _ _ _ _ _)
      | (with_reducible exact ih2 _ _ _ _ _ _ _ _ _ _ _ _ _ _ _ _ _ _ _ _ _ _ _ _)
      | (with_reducible exact LeO.refl _)
      | (with_reducible exact LeO.none _)
      | (with_reducible refine LeO.ite ?_ ?_)
      | (with_reducible refine LeO.bind ?_ (fun _ => ?_))
      | exact ih0 _ _ _ _
      | exact ih1 _ _ _ _ _ _ _ _ _ _ _ _
      | exact ih2 _ _ _ _ _ _ _ _ _ _ _ _ _ _ _ _ _ _ _ _ _ _ _ _
      | exact LeO.none _
      | refine LeO.ite ?_ ?_
      | refine LeO.bind ?_ (fun _ => ?_)
theorem spec_Facts.mono : ∀ a0 a1 a2 a3 a4 k, LeO (spec_Facts.f k a0 a1 a2 a3 a4) (spec_Facts.f (k + 1) a0 a1 a2 a3 a4) := by
  intro a0 a1 a2 a3 a4 k
  obtain ⟨ih0, ih1, ih2⟩ := spec_Facts.mono_l k
  unfold spec_Facts.f
  repeat' first
      | (with_reducible exact ih0 _ _ _ _)
      | (with_reducible exact ih1 _ _ _ _ _ _ _ _ _ _ _ _)
      | (with_reducible exact ih2 _ _ _ _ _ _ _ _ _ _ _ _ _ _ _ _ _ _ _ _ _ _ _ _)
      | (with_reducible exact LeO.refl _)
      | (with_reducible exact LeO.none _)
      | (with_reducible refine LeO.ite ?_ ?_)
      | (with_reducible refine LeO.bind ?_ (fun _ => ?_))
      | exact ih0 _ _ _ _
      | exact ih1 _ _ _ _ _ _ _ _ _ _ _ _
      | exact ih2 _ _ _ _ _ _ _ _ _ _ _ _ _ _ _ _ _ _ _ _ _ _ _ _
      | exact LeO.none _
      | refine LeO.ite ?_ ?_
      | refine LeO.bind ?_ (fun _ => ?_)
def spec_Facts.T9 : Bool × List (List Nat × List Nat) := (true, [([], []), ([], []), ([], []), ([2], [2]), ([], []), ([4], [4]), ([], []), ([6], [6]), ([], []), ([8], [8]), ([], []), ([10], [10]), ([], []), ([12], [12]), ([], []), ([13, 14], [13, 14]), ([15], [15]), ([], []), ([17], [17]), ([], []), ([18, 19], [18, 19]), ([20], [20]), ([1, 3, 5, 7, 9, 11, 16, 21], [1, 3, 5, 7, 9, 11, 16, 21]), ([22], [22]), ([0, 23], [0, 23]), ([24, 24, 0, 1, 2, 3, 4, 5, 6, 7, 8, 9, 10, 11, 12, 13, 14, 15, 16, 17, 18, 19, 20, 21, 22, 23, 24], [0, 24])])
def spec_Facts.B9 : List Nat := [0, 0, 0, 4, 0, 16, 0, 64, 0, 256, 0, 1024, 0, 4096, 0, 28672, 61440, 0, 131072, 0, 917504, 1966080, 4194302, 8388606, 16777215, 33554431]
theorem spec_Facts.tab9 : rtab .any (opsOf Try.f36 9) = spec_Facts.T9 := by kernel_rfl
theorem spec_Facts.bits9 : waitsOk spec_Facts.T9.2 spec_Facts.B9 = true := by kernel_rfl
set_option maxHeartbeats 8000000 in
set_option maxRecDepth 100000 in
theorem spec_Facts.calls (k : Nat) (a0_0 : Int) (a0_1 : Int) (A0_2 : Option Addr) (c0_2 : Nat) (l0_2 : List Int) (A0_3 : Option Addr) (c0_3 : Nat) (l0_3 : List (S55)) (a0_4 : Int) (r : List (S89)) (w : World) (hr0_2 : Kd.C (Kd.int .i64) w A0_2 l0_2.length l0_2) (hc0_2 : l0_2.length ≤ c0_2) (hr0_3 : Kd.C k55 w A0_3 l0_3.length l0_3) (hc0_3 : l0_3.length ≤ c0_3) (h : spec_Facts.f k a0_0 a0_1 l0_2 l0_3 a0_4 = some r) :
    Calls Try.prog 36 #[.agg #[.int .i64 a0_0, .int .i64 a0_1, .slice A0_2 l0_2.length c0_2, .slice A0_3 l0_3.length c0_3, .int .i64 a0_4]] w fun e w' => ∃ v0_ : Value, e = .returned (v0_) ∧ Kd.R k89 89 w' w.heap.size (fun _ => True) v0_ r ∧ Below w.heap.size w w' := by
  have hu29 := Try.underlying29
  have hu55 := Try.underlying55
  have hu75 := Try.underlying75
  have hu89 := Try.underlying89
  have HR0_2 := Aside0.mk hr0_2
  have HC0_2 := Aside0.mk hc0_2
  clear hr0_2 hc0_2
  have HR0_3 := Aside0.mk hr0_3
  have HC0_3 := Aside0.mk hc0_3
  clear hr0_3 hc0_3
  have HB := Aside0.mk (Below.refl w.heap.size w)
  have H : (spec_Facts.l0 k (([] : List (S89))) l0_3 (l0_3.length : Int) 0) = some r := h
  clear h
  obtain ⟨y214, hy214⟩ : ∃ y_ : List (S89), y_ = (([] : List (S89))) := ⟨_, rfl⟩
  replace H : (spec_Facts.l0 k y214 l0_3 (l0_3.length : Int) 0) = some r := by first | (rw [hy214]; with_reducible exact H) | (have H2_ := (Option.bind_some _ _).symm.trans H; rw [hy214]; with_reducible exact H2_) | (have H2_ := (Option.bind_some _ _).symm.trans H; with_reducible exact H2_) | with_reducible exact H | (rw [hy214]; exact H) | exact H
  have Ny214 := Aside0.mk hy214
  clear hy214
  have H' := Aside0.mk H
  clear H
  go_enter Try.func36, Try.ntmps36
  go_wp2_with (first | ((with_reducible refine gate_dst (N := 1) rfl ?_); (try (refine gate_guard (by rfl) ?_; dsimp only)); refine box_event ?hg (N := 1) ?hd (cs := #[.int .i64 a0_0, .int .i64 a0_1, .slice A0_2 l0_2.length c0_2, .slice A0_3 l0_3.length c0_3, .int .i64 a0_4]) (t := 29) ?hr ?_; (case hd => rfl); (case hg => rfl); (case hr => first | (go_simp; done) | (go_simp; rfl)); intro gb213 hg w2 hbox hb; have n0_ := Aside0.mk (below_step (by repeat (first | (with_reducible first | exact HB.out | apply below_alloc | apply pw_below_drewN | apply below_drew1) | exact HB.out)) hb); have n1_ := Aside0.mk (hbox); have n2_ := Aside0.mk ((by rw [hg]; exact (below_size (by repeat (first | (with_reducible first | exact HB.out | apply below_alloc | apply pw_below_drewN | apply below_drew1) | exact HB.out))) : w.heap.size ≤ gb213)); have n3_ := Aside0.mk ((by rw [hg]; exact (below_size (by repeat (first | (with_reducible first | exact HB.out | apply below_alloc | apply pw_below_drewN | apply below_drew1) | exact HB.out))) : w.heap.size ≤ gb213)); clear HB; have HB := n0_; have BK213 := n1_; have GW213 := n2_; have GE213 := n3_; clear n0_ n1_ n2_ n3_; clear hb hbox hg) | ((with_reducible refine gate_dst (N := 8) rfl ?_); (try (refine gate_guard (by rfl) ?_; dsimp only)); refine Kd.R_lit k89 _ 89 ?hg (N := 8) ?hd (xs := ([] : List (S89))) (inner := []) (ok := fun _ => True) (okp := fun _ => True) ?hr ?hp (fun _ hk => hk) trivial (Below.refl _ _) (Nat.le_refl _) (by simp) ?_; (case hd => rfl); (case hg => rfl); (case hr => first | (go_simp; done) | (go_simp; rfl)); (case hp => exact (Reps.none _ _)); intro v215 w3 ho4 hb hg_ hnew_; clear hg_ hnew_; (first | rw [← Ny214.out] at ho4 | (simp only [Int.reduceToNat] at ho4; rw [← Ny214.out] at ho4)); have n0_ := Aside0.mk (Kd.R_lower ho4 (below_size (by repeat (first | (with_reducible first | exact HB.out | apply below_alloc | apply pw_below_drewN | apply below_drew1 | refine below_set ?_ GE213.out) | exact HB.out)))); have n1_ := Aside0.mk (blk_below (g := gb213) (o := .cells #[.int .i64 a0_0, .int .i64 a0_1, .slice A0_2 l0_2.length c0_2, .slice A0_3 l0_3.length c0_3, .int .i64 a0_4] 29 (0, 0)) (by (with_reducible repeat (first | refine blk_drewN ?_ _ | refine blk_drew ?_ | refine blk_alloc ?_ _)); exact BK213.out) hb); have n2_ := Aside0.mk (below_step (by repeat (first | (with_reducible first | exact HB.out | apply below_alloc | apply pw_below_drewN | apply below_drew1 | refine below_set ?_ GE213.out) | exact HB.out)) hb); clear BK213; clear HB; have HO216 := n0_; have BK213 := n1_; have HB := n2_; clear n0_ n1_ n2_; clear hb ho4; have hcz5_0 : w3.cell? ⟨gb213, 0, none⟩ = some (.int .i64 a0_0) := (blk_cell BK213.out 0).trans rfl; have hcz5_1 : w3.cell? ⟨gb213, 1, none⟩ = some (.int .i64 a0_1) := (blk_cell BK213.out 1).trans rfl; have hcz5_2 : w3.cell? ⟨gb213, 2, none⟩ = some (.slice A0_2 l0_2.length c0_2) := (blk_cell BK213.out 2).trans rfl; have hcz5_3 : w3.cell? ⟨gb213, 3, none⟩ = some (.slice A0_3 l0_3.length c0_3) := (blk_cell BK213.out 3).trans rfl; have hcz5_4 : w3.cell? ⟨gb213, 4, none⟩ = some (.int .i64 a0_4) := (blk_cell BK213.out 4).trans rfl; have hfz5_0 := blk_frozen BK213.out 0; have hfz5_1 := blk_frozen BK213.out 1; have hfz5_2 := blk_frozen BK213.out 2; have hfz5_3 := blk_frozen BK213.out 3; have hfz5_4 := blk_frozen BK213.out 4))
  go_loopg [3, 12] k (fun kq v3 v12 w' => ∃ (x3_1 : List (S89)) (x12_1 : Int), v12 = .int .i64 x12_1 ∧ Aside0 (spec_Facts.l0 kq x3_1 l0_3 (l0_3.length : Int) x12_1 = some r) ∧ Aside0 (kq ≤ k) ∧ Aside0 (Kd.R k89 89 w' w.heap.size (fun _ => True) v3 x3_1) ∧ Aside0 (w'.heap[gb213]? = some (.cells #[.int .i64 a0_0, .int .i64 a0_1, (.slice A0_2 l0_2.length c0_2), (.slice A0_3 l0_3.length c0_3), .int .i64 a0_4] 29 (0, 0))) ∧ Aside0 (Below w.heap.size w w'))
  case atStart => exact ⟨(y214), (0), (by first | rfl | (simp; done) | (simp [*]; done)), H', ⟨Nat.le_refl _⟩, ⟨by (with_reducible repeat (first | apply Kd.R_alloc | apply Kd.R_drewN | apply Kd.R_drew)); exact HO216.out⟩, ⟨by (with_reducible repeat (first | refine blk_drewN ?_ _ | refine blk_drew ?_ | refine blk_alloc ?_ _)); exact BK213.out⟩, ⟨by repeat (first | (with_reducible first | exact HB.out | apply below_alloc | apply pw_below_drewN | apply below_drew1 | refine below_set ?_ GE213.out) | exact HB.out)⟩⟩
  case round =>
    clear H'
    try clear p2
    try clear c3
    try clear hcz5_0
    try clear hcz5_1
    try clear hcz5_2
    try clear hcz5_3
    try clear hcz5_4
    try clear hfz5_0
    try clear hfz5_1
    try clear hfz5_2
    try clear hfz5_3
    try clear hfz5_4
    obtain ⟨x3_1, x12_1, rfl, HA, HK1, HO_3, BK213, HB⟩ := hrel
    cases gk with
    | zero => exact absurd HA.out (by simp [spec_Facts.l0])
    | succ k1 =>
      have H := HA.out
      clear HA
      simp only [spec_Facts.l0] at H
      by_cases c6 : x12_1 < (l0_3.length : Int)
      · rw [if_pos c6] at H
        have c6b0 : decide (x12_1 < (l0_3.length : Int)) = true := decide_eq_true c6
        clear c6
        by_cases c7 : 0 ≤ x12_1
        · rw [if_pos c7] at H
          have c7b0 : decide (0 ≤ x12_1) = true := decide_eq_true c7
          clear c7
          by_cases c8 : x12_1 < (l0_3.length : Int)
          · rw [if_pos c8] at H
            have c8b0 : decide (x12_1 < (l0_3.length : Int)) = true := decide_eq_true c8
            clear c8
            have H' := Aside0.mk H
            clear H
            have p217 : 0 ≤ (x12_1 : Int) := of_decide_eq_true (by first | (with_reducible assumption) | assumption)
            have q217 : x12_1 < (l0_3.length : Int) := of_decide_eq_true (by first | (with_reducible assumption) | assumption)
            obtain ⟨ad217, A217_0, c217_0, A217_2, c217_2, A217_3, c217_3, e217, hx217_0, hx217_1, hx217_2, hx217_3, hl217_0, hi217_0, hl217_2, hi217_2, hl217_3, hi217_3⟩ := at_T55 HR0_3.out x12_1 p217 q217
            cases e217
            replace hx217_0 := (HB.out.cell (World.block_lt_of_cell? w _ hx217_0)).trans hx217_0
            replace hx217_1 := (HB.out.cell (World.block_lt_of_cell? w _ hx217_1)).trans hx217_1
            replace hx217_2 := (HB.out.cell (World.block_lt_of_cell? w _ hx217_2)).trans hx217_2
            replace hx217_3 := (HB.out.cell (World.block_lt_of_cell? w _ hx217_3)).trans hx217_3
            have HR217_0 := Aside0.mk hi217_0
            have HC217_0 := Aside0.mk hl217_0
            clear hi217_0 hl217_0
            have HR217_2 := Aside0.mk hi217_2
            have HC217_2 := Aside0.mk hl217_2
            clear hi217_2 hl217_2
            have HR217_3 := Aside0.mk hi217_3
            have HC217_3 := Aside0.mk hl217_3
            clear hi217_3 hl217_3
            replace p217 := eq_true p217
            replace q217 := eq_true q217
            go_wp2_with (first | ((with_reducible refine gate_dst (N := 5) rfl ?_); (try (refine gate_guard (by rfl) ?_; dsimp only)); refine box_event ?hg (N := 5) ?hd (cs := #[.slice none 0 0, .int .i64 0, .slice none 0 0, .slice none 0 0]) (t := 55) ?hr ?_; (case hd => rfl); (case hg => rfl); (case hr => first | (go_simp; done) | (go_simp; rfl)); intro gb218 hg w9 hbox hb; have n0_ := Aside0.mk (Kd.R_below (by (with_reducible repeat (first | apply Kd.R_alloc | apply Kd.R_drewN | apply Kd.R_drew)); exact HO_3.out) hb); have n1_ := Aside0.mk (blk_below (g := gb213) (o := .cells #[.int .i64 a0_0, .int .i64 a0_1, .slice A0_2 l0_2.length c0_2, .slice (some ad217) l0_3.length c0_3, .int .i64 a0_4] 29 (0, 0)) (by (with_reducible repeat (first | refine blk_drewN ?_ _ | refine blk_drew ?_ | refine blk_alloc ?_ _)); exact BK213.out) hb); have n2_ := Aside0.mk (below_step (by repeat (first | (with_reducible first | exact HB.out | apply below_alloc | apply pw_below_drewN | apply below_drew1 | refine below_set ?_ GE213.out) | exact HB.out)) hb); have n3_ := Aside0.mk (hbox); have n4_ := Aside0.mk ((by rw [hg]; exact (below_size (by repeat (first | (with_reducible first | exact HB.out | apply below_alloc | apply pw_below_drewN | apply below_drew1 | refine below_set ?_ GE213.out) | exact HB.out))) : w.heap.size ≤ gb218)); have n5_ := Aside0.mk ((by rw [hg]; exact (below_size (by repeat (first | (with_reducible first | exact HB.out | apply below_alloc | apply pw_below_drewN | apply below_drew1 | refine below_set ?_ GE213.out) | exact HB.out))) : w.heap.size ≤ gb218)); have n6_ := Aside0.mk ((by rw [hg]; exact Nat.ne_of_lt (blk_lt (g := gb213) (o := .cells #[.int .i64 a0_0, .int .i64 a0_1, .slice A0_2 l0_2.length c0_2, .slice (some ad217) l0_3.length c0_3, .int .i64 a0_4] 29 (0, 0)) (by (with_reducible repeat (first | refine blk_drewN ?_ _ | refine blk_drew ?_ | refine blk_alloc ?_ _)); exact BK213.out)) : gb213 ≠ gb218)); have n7_ := Aside0.mk ((by rw [hg]; exact Nat.ne_of_gt (blk_lt (g := gb213) (o := .cells #[.int .i64 a0_0, .int .i64 a0_1, .slice A0_2 l0_2.length c0_2, .slice (some ad217) l0_3.length c0_3, .int .i64 a0_4] 29 (0, 0)) (by (with_reducible repeat (first | refine blk_drewN ?_ _ | refine blk_drew ?_ | refine blk_alloc ?_ _)); exact BK213.out)) : gb218 ≠ gb213)); clear HO_3; clear BK213; clear HB; have HO_3 := n0_; have BK213 := n1_; have HB := n2_; have BK218 := n3_; have GW218 := n4_; have GE218 := n5_; have NB213_218 := n6_; have NB218_213 := n7_; clear n0_ n1_ n2_ n3_ n4_ n5_ n6_ n7_; clear hb hbox hg; have hnb10 := NB218_213.out; have hnc10 := NB213_218.out; have hcz11_0 : w9.cell? ⟨gb218, 0, none⟩ = some (.slice none 0 0) := (blk_cell BK218.out 0).trans rfl; have hcz11_1 : w9.cell? ⟨gb218, 1, none⟩ = some (.int .i64 0) := (blk_cell BK218.out 1).trans rfl; have hcz11_2 : w9.cell? ⟨gb218, 2, none⟩ = some (.slice none 0 0) := (blk_cell BK218.out 2).trans rfl; have hcz11_3 : w9.cell? ⟨gb218, 3, none⟩ = some (.slice none 0 0) := (blk_cell BK218.out 3).trans rfl; have hfz11_0 := blk_frozen BK218.out 0; have hfz11_1 := blk_frozen BK218.out 1; have hfz11_2 := blk_frozen BK218.out 2; have hfz11_3 := blk_frozen BK218.out 3))
            go_loopg [3, 20] k1 (fun kq v3 v20 w' => ∃ (x3_2 : List (S89)) (x20_2 : Int), v20 = .int .i64 x20_2 ∧ Aside0 (spec_Facts.l1 kq x3_2 x12_1 l0_3 (l0_3.length : Int) x12_1 ((rd_T55 l0_3 x12_1).f0) (((rd_T55 l0_3 x12_1).f0).length : Int) x20_2 ((rd_T55 l0_3 x12_1).f0) ((rd_T55 l0_3 x12_1).f1) ((rd_T55 l0_3 x12_1).f2) ((rd_T55 l0_3 x12_1).f3) = some r) ∧ Aside0 (kq ≤ k1) ∧ Aside0 (Kd.R k89 89 w' w.heap.size (fun _ => True) v3 x3_2) ∧ Aside0 (w'.heap[gb213]? = some (.cells #[.int .i64 a0_0, .int .i64 a0_1, (.slice A0_2 l0_2.length c0_2), (.slice (some ad217) l0_3.length c0_3), .int .i64 a0_4] 29 (0, 0))) ∧ Aside0 (w'.heap[gb218]? = some (.cells #[(.slice A217_0 ((rd_T55 l0_3 x12_1).f0).length c217_0), .int .i64 ((rd_T55 l0_3 x12_1).f1), (.slice A217_2 ((rd_T55 l0_3 x12_1).f2).length c217_2), (.slice A217_3 ((rd_T55 l0_3 x12_1).f3).length c217_3)] 55 (0, 0))) ∧ Aside0 (Below w.heap.size w w'))
            case atStart => exact ⟨(x3_1), (0), (by first | rfl | (simp; done) | (simp [*]; done)), H', ⟨Nat.le_refl _⟩, ⟨by (with_reducible repeat (first | apply Kd.R_alloc | apply Kd.R_drewN | apply Kd.R_drew)); exact Kd.R_mono (Kd.R_far (p := ⟨gb218, 3, none⟩) (Kd.R_far (p := ⟨gb218, 2, none⟩) (Kd.R_far (p := ⟨gb218, 1, none⟩) (Kd.R_far (p := ⟨gb218, 0, none⟩) (Kd.R_types HO_3.out BK218.out (by decide)) (fun _ hk => hk.2) (.slice A217_0 ((rd_T55 l0_3 x12_1).f0).length c217_0)) (fun _ hk => hk.2) (.int .i64 ((rd_T55 l0_3 x12_1).f1))) (fun _ hk => hk.2) (.slice A217_2 ((rd_T55 l0_3 x12_1).f2).length c217_2)) (fun _ hk => hk.2) (.slice A217_3 ((rd_T55 l0_3 x12_1).f3).length c217_3)) (fun _ hk => trivial)⟩, ⟨by (with_reducible repeat (first | refine blk_drewN ?_ _ | refine blk_drew ?_ | refine blk_alloc ?_ _)); refine blk_far ?_ NB213_218.out _; (with_reducible repeat (first | refine blk_drewN ?_ _ | refine blk_drew ?_ | refine blk_alloc ?_ _)); refine blk_far ?_ NB213_218.out _; (with_reducible repeat (first | refine blk_drewN ?_ _ | refine blk_drew ?_ | refine blk_alloc ?_ _)); refine blk_far ?_ NB213_218.out _; (with_reducible repeat (first | refine blk_drewN ?_ _ | refine blk_drew ?_ | refine blk_alloc ?_ _)); refine blk_far ?_ NB213_218.out _; (with_reducible repeat (first | refine blk_drewN ?_ _ | refine blk_drew ?_ | refine blk_alloc ?_ _)); exact BK213.out⟩, ⟨by (with_reducible repeat (first | refine blk_drewN ?_ _ | refine blk_drew ?_ | refine blk_alloc ?_ _)); refine blk_put (cs := #[.slice A217_0 ((rd_T55 l0_3 x12_1).f0).length c217_0, .int .i64 ((rd_T55 l0_3 x12_1).f1), .slice A217_2 ((rd_T55 l0_3 x12_1).f2).length c217_2, .slice none 0 0]) ?_ 3 _ rfl; (with_reducible repeat (first | refine blk_drewN ?_ _ | refine blk_drew ?_ | refine blk_alloc ?_ _)); refine blk_put (cs := #[.slice A217_0 ((rd_T55 l0_3 x12_1).f0).length c217_0, .int .i64 ((rd_T55 l0_3 x12_1).f1), .slice none 0 0, .slice none 0 0]) ?_ 2 _ rfl; (with_reducible repeat (first | refine blk_drewN ?_ _ | refine blk_drew ?_ | refine blk_alloc ?_ _)); refine blk_put (cs := #[.slice A217_0 ((rd_T55 l0_3 x12_1).f0).length c217_0, .int .i64 0, .slice none 0 0, .slice none 0 0]) ?_ 1 _ rfl; (with_reducible repeat (first | refine blk_drewN ?_ _ | refine blk_drew ?_ | refine blk_alloc ?_ _)); refine blk_put (cs := #[.slice none 0 0, .int .i64 0, .slice none 0 0, .slice none 0 0]) ?_ 0 _ rfl; (with_reducible repeat (first | refine blk_drewN ?_ _ | refine blk_drew ?_ | refine blk_alloc ?_ _)); exact BK218.out⟩, ⟨by repeat (first | (with_reducible first | exact HB.out | apply below_alloc | apply pw_below_drewN | apply below_drew1 | refine below_set ?_ GE213.out | refine below_set ?_ GE218.out) | exact HB.out)⟩⟩
            case round =>
              clear H'
              try clear c1
              try clear c2
              try clear p2
              try clear q2
              try clear hx2
              try clear c3
              try clear c6
              try clear c6b0
              try clear c7
              try clear c7b0
              try clear c8
              try clear c8b0
              try clear c10
              try clear hcz11_0
              try clear hcz11_1
              try clear hcz11_2
              try clear hcz11_3
              try clear hcz5_0
              try clear hcz5_1
              try clear hcz5_2
              try clear hcz5_3
              try clear hcz5_4
              try clear hfz11_0
              try clear hfz11_1
              try clear hfz11_2
              try clear hfz11_3
              try clear hfz5_0
              try clear hfz5_1
              try clear hfz5_2
              try clear hfz5_3
              try clear hfz5_4
              try clear hx217_0
              try clear hx217_1
              try clear hx217_2
              try clear hx217_3
              try clear p2
              try clear p217
              try clear q217
              obtain ⟨x3_2, x20_2, rfl, HA, HK2, HO_3, BK213, BK218, HB⟩ := hrel
              cases gk with
              | zero => exact absurd HA.out (by simp [spec_Facts.l1])
              | succ k2 =>
                have H := HA.out
                clear HA
                simp only [spec_Facts.l1] at H
                by_cases c12 : x20_2 < (((rd_T55 l0_3 x12_1).f0).length : Int)
                · rw [if_pos c12] at H
                  have c12b0 : decide (x20_2 < (((rd_T55 l0_3 x12_1).f0).length : Int)) = true := decide_eq_true c12
                  clear c12
                  by_cases c13 : 0 ≤ x20_2
                  · rw [if_pos c13] at H
                    have c13b0 : decide (0 ≤ x20_2) = true := decide_eq_true c13
                    clear c13
                    by_cases c14 : x20_2 < (((rd_T55 l0_3 x12_1).f0).length : Int)
                    · rw [if_pos c14] at H
                      have c14b0 : decide (x20_2 < (((rd_T55 l0_3 x12_1).f0).length : Int)) = true := decide_eq_true c14
                      clear c14
                      have HC15 := Aside0.mk H
                      clear H
                      have p219 : 0 ≤ (x20_2 : Int) := of_decide_eq_true (by first | (with_reducible assumption) | assumption)
                      have q219 : x20_2 < (((rd_T55 l0_3 x12_1).f0).length : Int) := of_decide_eq_true (by first | (with_reducible assumption) | assumption)
                      obtain ⟨ad219, e219, hx219_0, hx219_1, hx219_2, hx219_3, hx219_4, hx219_5, hx219_6, hx219_7, hx219_8, hx219_9⟩ := at_T75 HR217_0.out x20_2 p219 q219
                      cases e219
                      replace hx219_0 := (HB.out.cell (World.block_lt_of_cell? w _ hx219_0)).trans hx219_0
                      replace hx219_1 := (HB.out.cell (World.block_lt_of_cell? w _ hx219_1)).trans hx219_1
                      replace hx219_2 := (HB.out.cell (World.block_lt_of_cell? w _ hx219_2)).trans hx219_2
                      replace hx219_3 := (HB.out.cell (World.block_lt_of_cell? w _ hx219_3)).trans hx219_3
                      replace hx219_4 := (HB.out.cell (World.block_lt_of_cell? w _ hx219_4)).trans hx219_4
                      replace hx219_5 := (HB.out.cell (World.block_lt_of_cell? w _ hx219_5)).trans hx219_5
                      replace hx219_6 := (HB.out.cell (World.block_lt_of_cell? w _ hx219_6)).trans hx219_6
                      replace hx219_7 := (HB.out.cell (World.block_lt_of_cell? w _ hx219_7)).trans hx219_7
                      replace hx219_8 := (HB.out.cell (World.block_lt_of_cell? w _ hx219_8)).trans hx219_8
                      replace hx219_9 := (HB.out.cell (World.block_lt_of_cell? w _ hx219_9)).trans hx219_9
                      replace p219 := eq_true p219
                      replace q219 := eq_true q219
                      go_upto_region 8 with (first | ((with_reducible refine gate_dst (N := 7) rfl ?_); (try (refine gate_guard (by rfl) ?_; dsimp only)); refine box_event ?hg (N := 7) ?hd (cs := #[.int .i64 0, .int .i64 0, .int .i64 0, .int .i64 0, .int .i64 0, .int .i64 0, .int .i64 0, .int .i64 0, .int .i64 0, .bool false]) (t := 75) ?hr ?_; (case hd => rfl); (case hg => rfl); (case hr => first | (go_simp; done) | (go_simp; rfl)); intro gb220 hg w16 hbox hb; have n0_ := Aside0.mk (Kd.R_below (by (with_reducible repeat (first | apply Kd.R_alloc | apply Kd.R_drewN | apply Kd.R_drew)); exact HO_3.out) hb); have n1_ := Aside0.mk (blk_below (g := gb213) (o := .cells #[.int .i64 a0_0, .int .i64 a0_1, .slice A0_2 l0_2.length c0_2, .slice (some ad217) l0_3.length c0_3, .int .i64 a0_4] 29 (0, 0)) (by (with_reducible repeat (first | refine blk_drewN ?_ _ | refine blk_drew ?_ | refine blk_alloc ?_ _)); exact BK213.out) hb); have n2_ := Aside0.mk (blk_below (g := gb218) (o := .cells #[.slice (some ad219) ((rd_T55 l0_3 x12_1).f0).length c217_0, .int .i64 ((rd_T55 l0_3 x12_1).f1), .slice A217_2 ((rd_T55 l0_3 x12_1).f2).length c217_2, .slice A217_3 ((rd_T55 l0_3 x12_1).f3).length c217_3] 55 (0, 0)) (by (with_reducible repeat (first | refine blk_drewN ?_ _ | refine blk_drew ?_ | refine blk_alloc ?_ _)); exact BK218.out) hb); have n3_ := Aside0.mk (below_step (by repeat (first | (with_reducible first | exact HB.out | apply below_alloc | apply pw_below_drewN | apply below_drew1 | refine below_set ?_ GE213.out | refine below_set ?_ GE218.out) | exact HB.out)) hb); have n4_ := Aside0.mk (hbox); have n5_ := Aside0.mk ((by rw [hg]; exact (below_size (by repeat (first | (with_reducible first | exact HB.out | apply below_alloc | apply pw_below_drewN | apply below_drew1 | refine below_set ?_ GE213.out | refine below_set ?_ GE218.out) | exact HB.out))) : w.heap.size ≤ gb220)); have n6_ := Aside0.mk ((by rw [hg]; exact (below_size (by repeat (first | (with_reducible first | exact HB.out | apply below_alloc | apply pw_below_drewN | apply below_drew1 | refine below_set ?_ GE213.out | refine below_set ?_ GE218.out) | exact HB.out))) : w.heap.size ≤ gb220)); have n7_ := Aside0.mk ((by rw [hg]; exact Nat.ne_of_lt (blk_lt (g := gb213) (o := .cells #[.int .i64 a0_0, .int .i64 a0_1, .slice A0_2 l0_2.length c0_2, .slice (some ad217) l0_3.length c0_3, .int .i64 a0_4] 29 (0, 0)) (by (with_reducible repeat (first | refine blk_drewN ?_ _ | refine blk_drew ?_ | refine blk_alloc ?_ _)); exact BK213.out)) : gb213 ≠ gb220)); have n8_ := Aside0.mk ((by rw [hg]; exact Nat.ne_of_gt (blk_lt (g := gb213) (o := .cells #[.int .i64 a0_0, .int .i64 a0_1, .slice A0_2 l0_2.length c0_2, .slice (some ad217) l0_3.length c0_3, .int .i64 a0_4] 29 (0, 0)) (by (with_reducible repeat (first | refine blk_drewN ?_ _ | refine blk_drew ?_ | refine blk_alloc ?_ _)); exact BK213.out)) : gb220 ≠ gb213)); have n9_ := Aside0.mk ((by rw [hg]; exact Nat.ne_of_lt (blk_lt (g := gb218) (o := .cells #[.slice (some ad219) ((rd_T55 l0_3 x12_1).f0).length c217_0, .int .i64 ((rd_T55 l0_3 x12_1).f1), .slice A217_2 ((rd_T55 l0_3 x12_1).f2).length c217_2, .slice A217_3 ((rd_T55 l0_3 x12_1).f3).length c217_3] 55 (0, 0)) (by (with_reducible repeat (first | refine blk_drewN ?_ _ | refine blk_drew ?_ | refine blk_alloc ?_ _)); exact BK218.out)) : gb218 ≠ gb220)); have n10_ := Aside0.mk ((by rw [hg]; exact Nat.ne_of_gt (blk_lt (g := gb218) (o := .cells #[.slice (some ad219) ((rd_T55 l0_3 x12_1).f0).length c217_0, .int .i64 ((rd_T55 l0_3 x12_1).f1), .slice A217_2 ((rd_T55 l0_3 x12_1).f2).length c217_2, .slice A217_3 ((rd_T55 l0_3 x12_1).f3).length c217_3] 55 (0, 0)) (by (with_reducible repeat (first | refine blk_drewN ?_ _ | refine blk_drew ?_ | refine blk_alloc ?_ _)); exact BK218.out)) : gb220 ≠ gb218)); clear HO_3; clear BK213; clear BK218; clear HB; have HO_3 := n0_; have BK213 := n1_; have BK218 := n2_; have HB := n3_; have BK220 := n4_; have GW220 := n5_; have GE220 := n6_; have NB213_220 := n7_; have NB220_213 := n8_; have NB218_220 := n9_; have NB220_218 := n10_; clear n0_ n1_ n2_ n3_ n4_ n5_ n6_ n7_ n8_ n9_ n10_; clear hb hbox hg; have hnb17 := NB220_213.out; have hnc17 := NB213_220.out; have hnb18 := NB220_218.out; have hnc18 := NB218_220.out; have hcz19_0 : w16.cell? ⟨gb220, 0, none⟩ = some (.int .i64 0) := (blk_cell BK220.out 0).trans rfl; have hcz19_1 : w16.cell? ⟨gb220, 1, none⟩ = some (.int .i64 0) := (blk_cell BK220.out 1).trans rfl; have hcz19_2 : w16.cell? ⟨gb220, 2, none⟩ = some (.int .i64 0) := (blk_cell BK220.out 2).trans rfl; have hcz19_3 : w16.cell? ⟨gb220, 3, none⟩ = some (.int .i64 0) := (blk_cell BK220.out 3).trans rfl; have hcz19_4 : w16.cell? ⟨gb220, 4, none⟩ = some (.int .i64 0) := (blk_cell BK220.out 4).trans rfl; have hcz19_5 : w16.cell? ⟨gb220, 5, none⟩ = some (.int .i64 0) := (blk_cell BK220.out 5).trans rfl; have hcz19_6 : w16.cell? ⟨gb220, 6, none⟩ = some (.int .i64 0) := (blk_cell BK220.out 6).trans rfl; have hcz19_7 : w16.cell? ⟨gb220, 7, none⟩ = some (.int .i64 0) := (blk_cell BK220.out 7).trans rfl; have hcz19_8 : w16.cell? ⟨gb220, 8, none⟩ = some (.int .i64 0) := (blk_cell BK220.out 8).trans rfl; have hcz19_9 : w16.cell? ⟨gb220, 9, none⟩ = some (.bool false) := (blk_cell BK220.out 9).trans rfl; have hfz19_0 := blk_frozen BK220.out 0; have hfz19_1 := blk_frozen BK220.out 1; have hfz19_2 := blk_frozen BK220.out 2; have hfz19_3 := blk_frozen BK220.out 3; have hfz19_4 := blk_frozen BK220.out 4; have hfz19_5 := blk_frozen BK220.out 5; have hfz19_6 := blk_frozen BK220.out 6; have hfz19_7 := blk_frozen BK220.out 7; have hfz19_8 := blk_frozen BK220.out 8; have hfz19_9 := blk_frozen BK220.out 9))
                      (try simp only [Act.put, List.setIfInBounds_toArray, List.set_cons_zero, List.set_cons_succ])
                      go_cut [40] (fun v40 wc => ∃ (kq : Nat) (x40_14 : Bool), v40 = .bool x40_14 ∧ Aside0 (spec_Facts.j2 kq x3_2 x12_1 x20_2 l0_3 (l0_3.length : Int) x12_1 ((rd_T55 l0_3 x12_1).f0) (((rd_T55 l0_3 x12_1).f0).length : Int) x20_2 x40_14 ((rd_T55 l0_3 x12_1).f0) ((rd_T55 l0_3 x12_1).f1) ((rd_T55 l0_3 x12_1).f2) ((rd_T55 l0_3 x12_1).f3) ((rd_T75 ((rd_T55 l0_3 x12_1).f0) x20_2).f0) ((rd_T75 ((rd_T55 l0_3 x12_1).f0) x20_2).f1) ((rd_T75 ((rd_T55 l0_3 x12_1).f0) x20_2).f2) ((rd_T75 ((rd_T55 l0_3 x12_1).f0) x20_2).f3) ((rd_T75 ((rd_T55 l0_3 x12_1).f0) x20_2).f4) ((rd_T75 ((rd_T55 l0_3 x12_1).f0) x20_2).f5) ((rd_T75 ((rd_T55 l0_3 x12_1).f0) x20_2).f6) ((rd_T75 ((rd_T55 l0_3 x12_1).f0) x20_2).f7) ((rd_T75 ((rd_T55 l0_3 x12_1).f0) x20_2).f8) ((rd_T75 ((rd_T55 l0_3 x12_1).f0) x20_2).f9) = some r) ∧ Aside0 (kq ≤ k2) ∧ Aside0 (Kd.R k89 89 wc w.heap.size (fun _ => True) u3 x3_2) ∧ Aside0 (wc.heap[gb213]? = some (.cells #[.int .i64 a0_0, .int .i64 a0_1, (.slice A0_2 l0_2.length c0_2), (.slice (some ad217) l0_3.length c0_3), .int .i64 a0_4] 29 (0, 0))) ∧ Aside0 (wc.heap[gb218]? = some (.cells #[(.slice (some ad219) ((rd_T55 l0_3 x12_1).f0).length c217_0), .int .i64 ((rd_T55 l0_3 x12_1).f1), (.slice A217_2 ((rd_T55 l0_3 x12_1).f2).length c217_2), (.slice A217_3 ((rd_T55 l0_3 x12_1).f3).length c217_3)] 55 (0, 0))) ∧ Aside0 (wc.heap[gb220]? = some (.cells #[.int .i64 ((rd_T75 ((rd_T55 l0_3 x12_1).f0) x20_2).f0), .int .i64 ((rd_T75 ((rd_T55 l0_3 x12_1).f0) x20_2).f1), .int .i64 ((rd_T75 ((rd_T55 l0_3 x12_1).f0) x20_2).f2), .int .i64 ((rd_T75 ((rd_T55 l0_3 x12_1).f0) x20_2).f3), .int .i64 ((rd_T75 ((rd_T55 l0_3 x12_1).f0) x20_2).f4), .int .i64 ((rd_T75 ((rd_T55 l0_3 x12_1).f0) x20_2).f5), .int .i64 ((rd_T75 ((rd_T55 l0_3 x12_1).f0) x20_2).f6), .int .i64 ((rd_T75 ((rd_T55 l0_3 x12_1).f0) x20_2).f7), .int .i64 ((rd_T75 ((rd_T55 l0_3 x12_1).f0) x20_2).f8), .bool ((rd_T75 ((rd_T55 l0_3 x12_1).f0) x20_2).f9)] 75 (0, 0))) ∧ Aside0 (Below w.heap.size w wc))
                      case first =>
                        have H := HC15.out
                        clear HC15
                        obtain ⟨bq20, hbq20⟩ : ∃ b_ : Bool, b_ = ((rd_T75 ((rd_T55 l0_3 x12_1).f0) x20_2).f9) := ⟨_, rfl⟩
                        replace H : (if bq20 = true then (if x20_2 < (((rd_T55 l0_3 x12_1).f2).length : Int) then (spec_Facts.j2 k2 x3_2 x12_1 x20_2 l0_3 (l0_3.length : Int) x12_1 ((rd_T55 l0_3 x12_1).f0) (((rd_T55 l0_3 x12_1).f0).length : Int) x20_2 (decide (x20_2 < (((rd_T55 l0_3 x12_1).f3).length : Int))) ((rd_T55 l0_3 x12_1).f0) ((rd_T55 l0_3 x12_1).f1) ((rd_T55 l0_3 x12_1).f2) ((rd_T55 l0_3 x12_1).f3) ((rd_T75 ((rd_T55 l0_3 x12_1).f0) x20_2).f0) ((rd_T75 ((rd_T55 l0_3 x12_1).f0) x20_2).f1) ((rd_T75 ((rd_T55 l0_3 x12_1).f0) x20_2).f2) ((rd_T75 ((rd_T55 l0_3 x12_1).f0) x20_2).f3) ((rd_T75 ((rd_T55 l0_3 x12_1).f0) x20_2).f4) ((rd_T75 ((rd_T55 l0_3 x12_1).f0) x20_2).f5) ((rd_T75 ((rd_T55 l0_3 x12_1).f0) x20_2).f6) ((rd_T75 ((rd_T55 l0_3 x12_1).f0) x20_2).f7) ((rd_T75 ((rd_T55 l0_3 x12_1).f0) x20_2).f8) bq20) else (spec_Facts.j2 k2 x3_2 x12_1 x20_2 l0_3 (l0_3.length : Int) x12_1 ((rd_T55 l0_3 x12_1).f0) (((rd_T55 l0_3 x12_1).f0).length : Int) x20_2 false ((rd_T55 l0_3 x12_1).f0) ((rd_T55 l0_3 x12_1).f1) ((rd_T55 l0_3 x12_1).f2) ((rd_T55 l0_3 x12_1).f3) ((rd_T75 ((rd_T55 l0_3 x12_1).f0) x20_2).f0) ((rd_T75 ((rd_T55 l0_3 x12_1).f0) x20_2).f1) ((rd_T75 ((rd_T55 l0_3 x12_1).f0) x20_2).f2) ((rd_T75 ((rd_T55 l0_3 x12_1).f0) x20_2).f3) ((rd_T75 ((rd_T55 l0_3 x12_1).f0) x20_2).f4) ((rd_T75 ((rd_T55 l0_3 x12_1).f0) x20_2).f5) ((rd_T75 ((rd_T55 l0_3 x12_1).f0) x20_2).f6) ((rd_T75 ((rd_T55 l0_3 x12_1).f0) x20_2).f7) ((rd_T75 ((rd_T55 l0_3 x12_1).f0) x20_2).f8) bq20)) else (spec_Facts.j2 k2 x3_2 x12_1 x20_2 l0_3 (l0_3.length : Int) x12_1 ((rd_T55 l0_3 x12_1).f0) (((rd_T55 l0_3 x12_1).f0).length : Int) x20_2 false ((rd_T55 l0_3 x12_1).f0) ((rd_T55 l0_3 x12_1).f1) ((rd_T55 l0_3 x12_1).f2) ((rd_T55 l0_3 x12_1).f3) ((rd_T75 ((rd_T55 l0_3 x12_1).f0) x20_2).f0) ((rd_T75 ((rd_T55 l0_3 x12_1).f0) x20_2).f1) ((rd_T75 ((rd_T55 l0_3 x12_1).f0) x20_2).f2) ((rd_T75 ((rd_T55 l0_3 x12_1).f0) x20_2).f3) ((rd_T75 ((rd_T55 l0_3 x12_1).f0) x20_2).f4) ((rd_T75 ((rd_T55 l0_3 x12_1).f0) x20_2).f5) ((rd_T75 ((rd_T55 l0_3 x12_1).f0) x20_2).f6) ((rd_T75 ((rd_T55 l0_3 x12_1).f0) x20_2).f7) ((rd_T75 ((rd_T55 l0_3 x12_1).f0) x20_2).f8) bq20)) = some r := by rw [← hbq20] at H; exact H
                        have Nbq20 := Aside0.mk hbq20
                        clear hbq20
                        (try rw [← Nbq20.out])
                        by_cases c21 : bq20 = true
                        · subst c21
                          have H1 : (if x20_2 < (((rd_T55 l0_3 x12_1).f2).length : Int) then (spec_Facts.j2 k2 x3_2 x12_1 x20_2 l0_3 (l0_3.length : Int) x12_1 ((rd_T55 l0_3 x12_1).f0) (((rd_T55 l0_3 x12_1).f0).length : Int) x20_2 (decide (x20_2 < (((rd_T55 l0_3 x12_1).f3).length : Int))) ((rd_T55 l0_3 x12_1).f0) ((rd_T55 l0_3 x12_1).f1) ((rd_T55 l0_3 x12_1).f2) ((rd_T55 l0_3 x12_1).f3) ((rd_T75 ((rd_T55 l0_3 x12_1).f0) x20_2).f0) ((rd_T75 ((rd_T55 l0_3 x12_1).f0) x20_2).f1) ((rd_T75 ((rd_T55 l0_3 x12_1).f0) x20_2).f2) ((rd_T75 ((rd_T55 l0_3 x12_1).f0) x20_2).f3) ((rd_T75 ((rd_T55 l0_3 x12_1).f0) x20_2).f4) ((rd_T75 ((rd_T55 l0_3 x12_1).f0) x20_2).f5) ((rd_T75 ((rd_T55 l0_3 x12_1).f0) x20_2).f6) ((rd_T75 ((rd_T55 l0_3 x12_1).f0) x20_2).f7) ((rd_T75 ((rd_T55 l0_3 x12_1).f0) x20_2).f8) true) else (spec_Facts.j2 k2 x3_2 x12_1 x20_2 l0_3 (l0_3.length : Int) x12_1 ((rd_T55 l0_3 x12_1).f0) (((rd_T55 l0_3 x12_1).f0).length : Int) x20_2 false ((rd_T55 l0_3 x12_1).f0) ((rd_T55 l0_3 x12_1).f1) ((rd_T55 l0_3 x12_1).f2) ((rd_T55 l0_3 x12_1).f3) ((rd_T75 ((rd_T55 l0_3 x12_1).f0) x20_2).f0) ((rd_T75 ((rd_T55 l0_3 x12_1).f0) x20_2).f1) ((rd_T75 ((rd_T55 l0_3 x12_1).f0) x20_2).f2) ((rd_T75 ((rd_T55 l0_3 x12_1).f0) x20_2).f3) ((rd_T75 ((rd_T55 l0_3 x12_1).f0) x20_2).f4) ((rd_T75 ((rd_T55 l0_3 x12_1).f0) x20_2).f5) ((rd_T75 ((rd_T55 l0_3 x12_1).f0) x20_2).f6) ((rd_T75 ((rd_T55 l0_3 x12_1).f0) x20_2).f7) ((rd_T75 ((rd_T55 l0_3 x12_1).f0) x20_2).f8) true)) = some r := by rw [if_pos rfl] at H; exact H
                          clear H
                          have H := H1
                          clear H1
                          by_cases c22 : x20_2 < (((rd_T55 l0_3 x12_1).f2).length : Int)
                          · rw [if_pos c22] at H
                            have c22b0 : decide (x20_2 < (((rd_T55 l0_3 x12_1).f2).length : Int)) = true := decide_eq_true c22
                            clear c22
                            have H' := Aside0.mk H
                            clear H
                            have hnb23 := NB220_213.out
                            have hnc23 := NB213_220.out
                            have hnb24 := NB220_218.out
                            have hnc24 := NB218_220.out
                            have hcz25_0 : w16.cell? ⟨gb220, 0, none⟩ = some (.int .i64 0) := (blk_cell BK220.out 0).trans rfl
                            have hcz25_1 : w16.cell? ⟨gb220, 1, none⟩ = some (.int .i64 0) := (blk_cell BK220.out 1).trans rfl
                            have hcz25_2 : w16.cell? ⟨gb220, 2, none⟩ = some (.int .i64 0) := (blk_cell BK220.out 2).trans rfl
                            have hcz25_3 : w16.cell? ⟨gb220, 3, none⟩ = some (.int .i64 0) := (blk_cell BK220.out 3).trans rfl
                            have hcz25_4 : w16.cell? ⟨gb220, 4, none⟩ = some (.int .i64 0) := (blk_cell BK220.out 4).trans rfl
                            have hcz25_5 : w16.cell? ⟨gb220, 5, none⟩ = some (.int .i64 0) := (blk_cell BK220.out 5).trans rfl
                            have hcz25_6 : w16.cell? ⟨gb220, 6, none⟩ = some (.int .i64 0) := (blk_cell BK220.out 6).trans rfl
                            have hcz25_7 : w16.cell? ⟨gb220, 7, none⟩ = some (.int .i64 0) := (blk_cell BK220.out 7).trans rfl
                            have hcz25_8 : w16.cell? ⟨gb220, 8, none⟩ = some (.int .i64 0) := (blk_cell BK220.out 8).trans rfl
                            have hcz25_9 : w16.cell? ⟨gb220, 9, none⟩ = some (.bool false) := (blk_cell BK220.out 9).trans rfl
                            have hfz25_0 := blk_frozen BK220.out 0
                            have hfz25_1 := blk_frozen BK220.out 1
                            have hfz25_2 := blk_frozen BK220.out 2
                            have hfz25_3 := blk_frozen BK220.out 3
                            have hfz25_4 := blk_frozen BK220.out 4
                            have hfz25_5 := blk_frozen BK220.out 5
                            have hfz25_6 := blk_frozen BK220.out 6
                            have hfz25_7 := blk_frozen BK220.out 7
                            have hfz25_8 := blk_frozen BK220.out 8
                            have hfz25_9 := blk_frozen BK220.out 9
                            have hnb26 := NB218_213.out
                            have hnc26 := NB213_218.out
                            have hcz27_0 : w16.cell? ⟨gb218, 0, none⟩ = some (.slice (some ad219) ((rd_T55 l0_3 x12_1).f0).length c217_0) := (blk_cell BK218.out 0).trans rfl
                            have hcz27_1 : w16.cell? ⟨gb218, 1, none⟩ = some (.int .i64 ((rd_T55 l0_3 x12_1).f1)) := (blk_cell BK218.out 1).trans rfl
                            have hcz27_2 : w16.cell? ⟨gb218, 2, none⟩ = some (.slice A217_2 ((rd_T55 l0_3 x12_1).f2).length c217_2) := (blk_cell BK218.out 2).trans rfl
                            have hcz27_3 : w16.cell? ⟨gb218, 3, none⟩ = some (.slice A217_3 ((rd_T55 l0_3 x12_1).f3).length c217_3) := (blk_cell BK218.out 3).trans rfl
                            have hfz27_0 := blk_frozen BK218.out 0
                            have hfz27_1 := blk_frozen BK218.out 1
                            have hfz27_2 := blk_frozen BK218.out 2
                            have hfz27_3 := blk_frozen BK218.out 3
                            go_wp2
                            go_meet
                            case rel => (try rw [← Nbq20.out]); exact ⟨_, (decide (x20_2 < (((rd_T55 l0_3 x12_1).f3).length : Int))), (by first | rfl | (simp; done) | (simp [*]; done)), H', ⟨by have := HK1.out; have := HK2.out; first | omega | exact Nat.le_refl _⟩, ⟨by (with_reducible repeat (first | apply Kd.R_alloc | apply Kd.R_drewN | apply Kd.R_drew)); exact Kd.R_mono (Kd.R_far (p := ⟨gb220, 9, none⟩) (Kd.R_far (p := ⟨gb220, 8, none⟩) (Kd.R_far (p := ⟨gb220, 7, none⟩) (Kd.R_far (p := ⟨gb220, 6, none⟩) (Kd.R_far (p := ⟨gb220, 5, none⟩) (Kd.R_far (p := ⟨gb220, 4, none⟩) (Kd.R_far (p := ⟨gb220, 3, none⟩) (Kd.R_far (p := ⟨gb220, 2, none⟩) (Kd.R_far (p := ⟨gb220, 1, none⟩) (Kd.R_far (p := ⟨gb220, 0, none⟩) (Kd.R_types HO_3.out BK220.out (by decide)) (fun _ hk => hk.2) (.int .i64 ((rd_T75 ((rd_T55 l0_3 x12_1).f0) x20_2).f0))) (fun _ hk => hk.2) (.int .i64 ((rd_T75 ((rd_T55 l0_3 x12_1).f0) x20_2).f1))) (fun _ hk => hk.2) (.int .i64 ((rd_T75 ((rd_T55 l0_3 x12_1).f0) x20_2).f2))) (fun _ hk => hk.2) (.int .i64 ((rd_T75 ((rd_T55 l0_3 x12_1).f0) x20_2).f3))) (fun _ hk => hk.2) (.int .i64 ((rd_T75 ((rd_T55 l0_3 x12_1).f0) x20_2).f4))) (fun _ hk => hk.2) (.int .i64 ((rd_T75 ((rd_T55 l0_3 x12_1).f0) x20_2).f5))) (fun _ hk => hk.2) (.int .i64 ((rd_T75 ((rd_T55 l0_3 x12_1).f0) x20_2).f6))) (fun _ hk => hk.2) (.int .i64 ((rd_T75 ((rd_T55 l0_3 x12_1).f0) x20_2).f7))) (fun _ hk => hk.2) (.int .i64 ((rd_T75 ((rd_T55 l0_3 x12_1).f0) x20_2).f8))) (fun _ hk => hk.2) (.bool (true))) (fun _ hk => trivial)⟩, ⟨by (with_reducible repeat (first | refine blk_drewN ?_ _ | refine blk_drew ?_ | refine blk_alloc ?_ _)); refine blk_far ?_ NB213_220.out _; (with_reducible repeat (first | refine blk_drewN ?_ _ | refine blk_drew ?_ | refine blk_alloc ?_ _)); refine blk_far ?_ NB213_220.out _; (with_reducible repeat (first | refine blk_drewN ?_ _ | refine blk_drew ?_ | refine blk_alloc ?_ _)); refine blk_far ?_ NB213_220.out _; (with_reducible repeat (first | refine blk_drewN ?_ _ | refine blk_drew ?_ | refine blk_alloc ?_ _)); refine blk_far ?_ NB213_220.out _; (with_reducible repeat (first | refine blk_drewN ?_ _ | refine blk_drew ?_ | refine blk_alloc ?_ _)); refine blk_far ?_ NB213_220.out _; (with_reducible repeat (first | refine blk_drewN ?_ _ | refine blk_drew ?_ | refine blk_alloc ?_ _)); refine blk_far ?_ NB213_220.out _; (with_reducible repeat (first | refine blk_drewN ?_ _ | refine blk_drew ?_ | refine blk_alloc ?_ _)); refine blk_far ?_ NB213_220.out _; (with_reducible repeat (first | refine blk_drewN ?_ _ | refine blk_drew ?_ | refine blk_alloc ?_ _)); refine blk_far ?_ NB213_220.out _; (with_reducible repeat (first | refine blk_drewN ?_ _ | refine blk_drew ?_ | refine blk_alloc ?_ _)); refine blk_far ?_ NB213_220.out _; (with_reducible repeat (first | refine blk_drewN ?_ _ | refine blk_drew ?_ | refine blk_alloc ?_ _)); refine blk_far ?_ NB213_220.out _; (with_reducible repeat (first | refine blk_drewN ?_ _ | refine blk_drew ?_ | refine blk_alloc ?_ _)); exact BK213.out⟩, ⟨by (with_reducible repeat (first | refine blk_drewN ?_ _ | refine blk_drew ?_ | refine blk_alloc ?_ _)); refine blk_far ?_ NB218_220.out _; (with_reducible repeat (first | refine blk_drewN ?_ _ | refine blk_drew ?_ | refine blk_alloc ?_ _)); refine blk_far ?_ NB218_220.out _; (with_reducible repeat (first | refine blk_drewN ?_ _ | refine blk_drew ?_ | refine blk_alloc ?_ _)); refine blk_far ?_ NB218_220.out _; (with_reducible repeat (first | refine blk_drewN ?_ _ | refine blk_drew ?_ | refine blk_alloc ?_ _)); refine blk_far ?_ NB218_220.out _; (with_reducible repeat (first | refine blk_drewN ?_ _ | refine blk_drew ?_ | refine blk_alloc ?_ _)); refine blk_far ?_ NB218_220.out _; (with_reducible repeat (first | refine blk_drewN ?_ _ | refine blk_drew ?_ | refine blk_alloc ?_ _)); refine blk_far ?_ NB218_220.out _; (with_reducible repeat (first | refine blk_drewN ?_ _ | refine blk_drew ?_ | refine blk_alloc ?_ _)); refine blk_far ?_ NB218_220.out _; (with_reducible repeat (first | refine blk_drewN ?_ _ | refine blk_drew ?_ | refine blk_alloc ?_ _)); refine blk_far ?_ NB218_220.out _; (with_reducible repeat (first | refine blk_drewN ?_ _ | refine blk_drew ?_ | refine blk_alloc ?_ _)); refine blk_far ?_ NB218_220.out _; (with_reducible repeat (first | refine blk_drewN ?_ _ | refine blk_drew ?_ | refine blk_alloc ?_ _)); refine blk_far ?_ NB218_220.out _; (with_reducible repeat (first | refine blk_drewN ?_ _ | refine blk_drew ?_ | refine blk_alloc ?_ _)); exact BK218.out⟩, ⟨by (with_reducible repeat (first | refine blk_drewN ?_ _ | refine blk_drew ?_ | refine blk_alloc ?_ _)); refine blk_put (cs := #[.int .i64 ((rd_T75 ((rd_T55 l0_3 x12_1).f0) x20_2).f0), .int .i64 ((rd_T75 ((rd_T55 l0_3 x12_1).f0) x20_2).f1), .int .i64 ((rd_T75 ((rd_T55 l0_3 x12_1).f0) x20_2).f2), .int .i64 ((rd_T75 ((rd_T55 l0_3 x12_1).f0) x20_2).f3), .int .i64 ((rd_T75 ((rd_T55 l0_3 x12_1).f0) x20_2).f4), .int .i64 ((rd_T75 ((rd_T55 l0_3 x12_1).f0) x20_2).f5), .int .i64 ((rd_T75 ((rd_T55 l0_3 x12_1).f0) x20_2).f6), .int .i64 ((rd_T75 ((rd_T55 l0_3 x12_1).f0) x20_2).f7), .int .i64 ((rd_T75 ((rd_T55 l0_3 x12_1).f0) x20_2).f8), .bool false]) ?_ 9 _ rfl; (with_reducible repeat (first | refine blk_drewN ?_ _ | refine blk_drew ?_ | refine blk_alloc ?_ _)); refine blk_put (cs := #[.int .i64 ((rd_T75 ((rd_T55 l0_3 x12_1).f0) x20_2).f0), .int .i64 ((rd_T75 ((rd_T55 l0_3 x12_1).f0) x20_2).f1), .int .i64 ((rd_T75 ((rd_T55 l0_3 x12_1).f0) x20_2).f2), .int .i64 ((rd_T75 ((rd_T55 l0_3 x12_1).f0) x20_2).f3), .int .i64 ((rd_T75 ((rd_T55 l0_3 x12_1).f0) x20_2).f4), .int .i64 ((rd_T75 ((rd_T55 l0_3 x12_1).f0) x20_2).f5), .int .i64 ((rd_T75 ((rd_T55 l0_3 x12_1).f0) x20_2).f6), .int .i64 ((rd_T75 ((rd_T55 l0_3 x12_1).f0) x20_2).f7), .int .i64 0, .bool false]) ?_ 8 _ rfl; (with_reducible repeat (first | refine blk_drewN ?_ _ | refine blk_drew ?_ | refine blk_alloc ?_ _)); refine blk_put (cs := #[.int .i64 ((rd_T75 ((rd_T55 l0_3 x12_1).f0) x20_2).f0), .int .i64 ((rd_T75 ((rd_T55 l0_3 x12_1).f0) x20_2).f1), .int .i64 ((rd_T75 ((rd_T55 l0_3 x12_1).f0) x20_2).f2), .int .i64 ((rd_T75 ((rd_T55 l0_3 x12_1).f0) x20_2).f3), .int .i64 ((rd_T75 ((rd_T55 l0_3 x12_1).f0) x20_2).f4), .int .i64 ((rd_T75 ((rd_T55 l0_3 x12_1).f0) x20_2).f5), .int .i64 ((rd_T75 ((rd_T55 l0_3 x12_1).f0) x20_2).f6), .int .i64 0, .int .i64 0, .bool false]) ?_ 7 _ rfl; (with_reducible repeat (first | refine blk_drewN ?_ _ | refine blk_drew ?_ | refine blk_alloc ?_ _)); refine blk_put (cs := #[.int .i64 ((rd_T75 ((rd_T55 l0_3 x12_1).f0) x20_2).f0), .int .i64 ((rd_T75 ((rd_T55 l0_3 x12_1).f0) x20_2).f1), .int .i64 ((rd_T75 ((rd_T55 l0_3 x12_1).f0) x20_2).f2), .int .i64 ((rd_T75 ((rd_T55 l0_3 x12_1).f0) x20_2).f3), .int .i64 ((rd_T75 ((rd_T55 l0_3 x12_1).f0) x20_2).f4), .int .i64 ((rd_T75 ((rd_T55 l0_3 x12_1).f0) x20_2).f5), .int .i64 0, .int .i64 0, .int .i64 0, .bool false]) ?_ 6 _ rfl; (with_reducible repeat (first | refine blk_drewN ?_ _ | refine blk_drew ?_ | refine blk_alloc ?_ _)); refine blk_put (cs := #[.int .i64 ((rd_T75 ((rd_T55 l0_3 x12_1).f0) x20_2).f0), .int .i64 ((rd_T75 ((rd_T55 l0_3 x12_1).f0) x20_2).f1), .int .i64 ((rd_T75 ((rd_T55 l0_3 x12_1).f0) x20_2).f2), .int .i64 ((rd_T75 ((rd_T55 l0_3 x12_1).f0) x20_2).f3), .int .i64 ((rd_T75 ((rd_T55 l0_3 x12_1).f0) x20_2).f4), .int .i64 0, .int .i64 0, .int .i64 0, .int .i64 0, .bool false]) ?_ 5 _ rfl; (with_reducible repeat (first | refine blk_drewN ?_ _ | refine blk_drew ?_ | refine blk_alloc ?_ _)); refine blk_put (cs := #[.int .i64 ((rd_T75 ((rd_T55 l0_3 x12_1).f0) x20_2).f0), .int .i64 ((rd_T75 ((rd_T55 l0_3 x12_1).f0) x20_2).f1), .int .i64 ((rd_T75 ((rd_T55 l0_3 x12_1).f0) x20_2).f2), .int .i64 ((rd_T75 ((rd_T55 l0_3 x12_1).f0) x20_2).f3), .int .i64 0, .int .i64 0, .int .i64 0, .int .i64 0, .int .i64 0, .bool false]) ?_ 4 _ rfl; (with_reducible repeat (first | refine blk_drewN ?_ _ | refine blk_drew ?_ | refine blk_alloc ?_ _)); refine blk_put (cs := #[.int .i64 ((rd_T75 ((rd_T55 l0_3 x12_1).f0) x20_2).f0), .int .i64 ((rd_T75 ((rd_T55 l0_3 x12_1).f0) x20_2).f1), .int .i64 ((rd_T75 ((rd_T55 l0_3 x12_1).f0) x20_2).f2), .int .i64 0, .int .i64 0, .int .i64 0, .int .i64 0, .int .i64 0, .int .i64 0, .bool false]) ?_ 3 _ rfl; (with_reducible repeat (first | refine blk_drewN ?_ _ | refine blk_drew ?_ | refine blk_alloc ?_ _)); refine blk_put (cs := #[.int .i64 ((rd_T75 ((rd_T55 l0_3 x12_1).f0) x20_2).f0), .int .i64 ((rd_T75 ((rd_T55 l0_3 x12_1).f0) x20_2).f1), .int .i64 0, .int .i64 0, .int .i64 0, .int .i64 0, .int .i64 0, .int .i64 0, .int .i64 0, .bool false]) ?_ 2 _ rfl; (with_reducible repeat (first | refine blk_drewN ?_ _ | refine blk_drew ?_ | refine blk_alloc ?_ _)); refine blk_put (cs := #[.int .i64 ((rd_T75 ((rd_T55 l0_3 x12_1).f0) x20_2).f0), .int .i64 0, .int .i64 0, .int .i64 0, .int .i64 0, .int .i64 0, .int .i64 0, .int .i64 0, .int .i64 0, .bool false]) ?_ 1 _ rfl; (with_reducible repeat (first | refine blk_drewN ?_ _ | refine blk_drew ?_ | refine blk_alloc ?_ _)); refine blk_put (cs := #[.int .i64 0, .int .i64 0, .int .i64 0, .int .i64 0, .int .i64 0, .int .i64 0, .int .i64 0, .int .i64 0, .int .i64 0, .bool false]) ?_ 0 _ rfl; (with_reducible repeat (first | refine blk_drewN ?_ _ | refine blk_drew ?_ | refine blk_alloc ?_ _)); exact BK220.out⟩, ⟨by repeat (first | (with_reducible first | exact HB.out | apply below_alloc | apply pw_below_drewN | apply below_drew1 | refine below_set ?_ GE213.out | refine below_set ?_ GE218.out | refine below_set ?_ GE220.out) | exact HB.out)⟩⟩
                          · rw [if_neg c22] at H
                            have c22b0 : decide (x20_2 < (((rd_T55 l0_3 x12_1).f2).length : Int)) = false := decide_eq_false c22
                            clear c22
                            have H' := Aside0.mk H
                            clear H
                            have hnb28 := NB220_213.out
                            have hnc28 := NB213_220.out
                            have hnb29 := NB220_218.out
                            have hnc29 := NB218_220.out
                            have hcz30_0 : w16.cell? ⟨gb220, 0, none⟩ = some (.int .i64 0) := (blk_cell BK220.out 0).trans rfl
                            have hcz30_1 : w16.cell? ⟨gb220, 1, none⟩ = some (.int .i64 0) := (blk_cell BK220.out 1).trans rfl
                            have hcz30_2 : w16.cell? ⟨gb220, 2, none⟩ = some (.int .i64 0) := (blk_cell BK220.out 2).trans rfl
                            have hcz30_3 : w16.cell? ⟨gb220, 3, none⟩ = some (.int .i64 0) := (blk_cell BK220.out 3).trans rfl
                            have hcz30_4 : w16.cell? ⟨gb220, 4, none⟩ = some (.int .i64 0) := (blk_cell BK220.out 4).trans rfl
                            have hcz30_5 : w16.cell? ⟨gb220, 5, none⟩ = some (.int .i64 0) := (blk_cell BK220.out 5).trans rfl
                            have hcz30_6 : w16.cell? ⟨gb220, 6, none⟩ = some (.int .i64 0) := (blk_cell BK220.out 6).trans rfl
                            have hcz30_7 : w16.cell? ⟨gb220, 7, none⟩ = some (.int .i64 0) := (blk_cell BK220.out 7).trans rfl
                            have hcz30_8 : w16.cell? ⟨gb220, 8, none⟩ = some (.int .i64 0) := (blk_cell BK220.out 8).trans rfl
                            have hcz30_9 : w16.cell? ⟨gb220, 9, none⟩ = some (.bool false) := (blk_cell BK220.out 9).trans rfl
                            have hfz30_0 := blk_frozen BK220.out 0
                            have hfz30_1 := blk_frozen BK220.out 1
                            have hfz30_2 := blk_frozen BK220.out 2
                            have hfz30_3 := blk_frozen BK220.out 3
                            have hfz30_4 := blk_frozen BK220.out 4
                            have hfz30_5 := blk_frozen BK220.out 5
                            have hfz30_6 := blk_frozen BK220.out 6
                            have hfz30_7 := blk_frozen BK220.out 7
                            have hfz30_8 := blk_frozen BK220.out 8
                            have hfz30_9 := blk_frozen BK220.out 9
                            have hnb31 := NB218_213.out
                            have hnc31 := NB213_218.out
                            have hcz32_0 : w16.cell? ⟨gb218, 0, none⟩ = some (.slice (some ad219) ((rd_T55 l0_3 x12_1).f0).length c217_0) := (blk_cell BK218.out 0).trans rfl
                            have hcz32_1 : w16.cell? ⟨gb218, 1, none⟩ = some (.int .i64 ((rd_T55 l0_3 x12_1).f1)) := (blk_cell BK218.out 1).trans rfl
                            have hcz32_2 : w16.cell? ⟨gb218, 2, none⟩ = some (.slice A217_2 ((rd_T55 l0_3 x12_1).f2).length c217_2) := (blk_cell BK218.out 2).trans rfl
                            have hcz32_3 : w16.cell? ⟨gb218, 3, none⟩ = some (.slice A217_3 ((rd_T55 l0_3 x12_1).f3).length c217_3) := (blk_cell BK218.out 3).trans rfl
                            have hfz32_0 := blk_frozen BK218.out 0
                            have hfz32_1 := blk_frozen BK218.out 1
                            have hfz32_2 := blk_frozen BK218.out 2
                            have hfz32_3 := blk_frozen BK218.out 3
                            go_wp2
                            go_meet
                            case rel => (try rw [← Nbq20.out]); exact ⟨_, (false), (by first | rfl | (simp; done) | (simp [*]; done)), H', ⟨by have := HK1.out; have := HK2.out; first | omega | exact Nat.le_refl _⟩, ⟨by (with_reducible repeat (first | apply Kd.R_alloc | apply Kd.R_drewN | apply Kd.R_drew)); exact Kd.R_mono (Kd.R_far (p := ⟨gb220, 9, none⟩) (Kd.R_far (p := ⟨gb220, 8, none⟩) (Kd.R_far (p := ⟨gb220, 7, none⟩) (Kd.R_far (p := ⟨gb220, 6, none⟩) (Kd.R_far (p := ⟨gb220, 5, none⟩) (Kd.R_far (p := ⟨gb220, 4, none⟩) (Kd.R_far (p := ⟨gb220, 3, none⟩) (Kd.R_far (p := ⟨gb220, 2, none⟩) (Kd.R_far (p := ⟨gb220, 1, none⟩) (Kd.R_far (p := ⟨gb220, 0, none⟩) (Kd.R_types HO_3.out BK220.out (by decide)) (fun _ hk => hk.2) (.int .i64 ((rd_T75 ((rd_T55 l0_3 x12_1).f0) x20_2).f0))) (fun _ hk => hk.2) (.int .i64 ((rd_T75 ((rd_T55 l0_3 x12_1).f0) x20_2).f1))) (fun _ hk => hk.2) (.int .i64 ((rd_T75 ((rd_T55 l0_3 x12_1).f0) x20_2).f2))) (fun _ hk => hk.2) (.int .i64 ((rd_T75 ((rd_T55 l0_3 x12_1).f0) x20_2).f3))) (fun _ hk => hk.2) (.int .i64 ((rd_T75 ((rd_T55 l0_3 x12_1).f0) x20_2).f4))) (fun _ hk => hk.2) (.int .i64 ((rd_T75 ((rd_T55 l0_3 x12_1).f0) x20_2).f5))) (fun _ hk => hk.2) (.int .i64 ((rd_T75 ((rd_T55 l0_3 x12_1).f0) x20_2).f6))) (fun _ hk => hk.2) (.int .i64 ((rd_T75 ((rd_T55 l0_3 x12_1).f0) x20_2).f7))) (fun _ hk => hk.2) (.int .i64 ((rd_T75 ((rd_T55 l0_3 x12_1).f0) x20_2).f8))) (fun _ hk => hk.2) (.bool (true))) (fun _ hk => trivial)⟩, ⟨by (with_reducible repeat (first | refine blk_drewN ?_ _ | refine blk_drew ?_ | refine blk_alloc ?_ _)); refine blk_far ?_ NB213_220.out _; (with_reducible repeat (first | refine blk_drewN ?_ _ | refine blk_drew ?_ | refine blk_alloc ?_ _)); refine blk_far ?_ NB213_220.out _; (with_reducible repeat (first | refine blk_drewN ?_ _ | refine blk_drew ?_ | refine blk_alloc ?_ _)); refine blk_far ?_ NB213_220.out _; (with_reducible repeat (first | refine blk_drewN ?_ _ | refine blk_drew ?_ | refine blk_alloc ?_ _)); refine blk_far ?_ NB213_220.out _; (with_reducible repeat (first | refine blk_drewN ?_ _ | refine blk_drew ?_ | refine blk_alloc ?_ _)); refine blk_far ?_ NB213_220.out _; (with_reducible repeat (first | refine blk_drewN ?_ _ | refine blk_drew ?_ | refine blk_alloc ?_ _)); refine blk_far ?_ NB213_220.out _; (with_reducible repeat (first | refine blk_drewN ?_ _ | refine blk_drew ?_ | refine blk_alloc ?_ _)); refine blk_far ?_ NB213_220.out _; (with_reducible repeat (first | refine blk_drewN ?_ _ | refine blk_drew ?_ | refine blk_alloc ?_ _)); refine blk_far ?_ NB213_220.out _; (with_reducible repeat (first | refine blk_drewN ?_ _ | refine blk_drew ?_ | refine blk_alloc ?_ _)); refine blk_far ?_ NB213_220.out _; (with_reducible repeat (first | refine blk_drewN ?_ _ | refine blk_drew ?_ | refine blk_alloc ?_ _)); refine blk_far ?_ NB213_220.out _; (with_reducible repeat (first | refine blk_drewN ?_ _ | refine blk_drew ?_ | refine blk_alloc ?_ _)); exact BK213.out⟩, ⟨by (with_reducible repeat (first | refine blk_drewN ?_ _ | refine blk_drew ?_ | refine blk_alloc ?_ _)); refine blk_far ?_ NB218_220.out _; (with_reducible repeat (first | refine blk_drewN ?_ _ | refine blk_drew ?_ | refine blk_alloc ?_ _)); refine blk_far ?_ NB218_220.out _; (with_reducible repeat (first | refine blk_drewN ?_ _ | refine blk_drew ?_ | refine blk_alloc ?_ _)); refine blk_far ?_ NB218_220.out _; (with_reducible repeat (first | refine blk_drewN ?_ _ | refine blk_drew ?_ | refine blk_alloc ?_ _)); refine blk_far ?_ NB218_220.out _; (with_reducible repeat (first | refine blk_drewN ?_ _ | refine blk_drew ?_ | refine blk_alloc ?_ _)); refine blk_far ?_ NB218_220.out _; (with_reducible repeat (first | refine blk_drewN ?_ _ | refine blk_drew ?_ | refine blk_alloc ?_ _)); refine blk_far ?_ NB218_220.out _; (with_reducible repeat (first | refine blk_drewN ?_ _ | refine blk_drew ?_ | refine blk_alloc ?_ _)); refine blk_far ?_ NB218_220.out _; (with_reducible repeat (first | refine blk_drewN ?_ _ | refine blk_drew ?_ | refine blk_alloc ?_ _)); refine blk_far ?_ NB218_220.out _; (with_reducible repeat (first | refine blk_drewN ?_ _ | refine blk_drew ?_ | refine blk_alloc ?_ _)); refine blk_far ?_ NB218_220.out _; (with_reducible repeat (first | refine blk_drewN ?_ _ | refine blk_drew ?_ | refine blk_alloc ?_ _)); refine blk_far ?_ NB218_220.out _; (with_reducible repeat (first | refine blk_drewN ?_ _ | refine blk_drew ?_ | refine blk_alloc ?_ _)); exact BK218.out⟩, ⟨by (with_reducible repeat (first | refine blk_drewN ?_ _ | refine blk_drew ?_ | refine blk_alloc ?_ _)); refine blk_put (cs := #[.int .i64 ((rd_T75 ((rd_T55 l0_3 x12_1).f0) x20_2).f0), .int .i64 ((rd_T75 ((rd_T55 l0_3 x12_1).f0) x20_2).f1), .int .i64 ((rd_T75 ((rd_T55 l0_3 x12_1).f0) x20_2).f2), .int .i64 ((rd_T75 ((rd_T55 l0_3 x12_1).f0) x20_2).f3), .int .i64 ((rd_T75 ((rd_T55 l0_3 x12_1).f0) x20_2).f4), .int .i64 ((rd_T75 ((rd_T55 l0_3 x12_1).f0) x20_2).f5), .int .i64 ((rd_T75 ((rd_T55 l0_3 x12_1).f0) x20_2).f6), .int .i64 ((rd_T75 ((rd_T55 l0_3 x12_1).f0) x20_2).f7), .int .i64 ((rd_T75 ((rd_T55 l0_3 x12_1).f0) x20_2).f8), .bool false]) ?_ 9 _ rfl; (with_reducible repeat (first | refine blk_drewN ?_ _ | refine blk_drew ?_ | refine blk_alloc ?_ _)); refine blk_put (cs := #[.int .i64 ((rd_T75 ((rd_T55 l0_3 x12_1).f0) x20_2).f0), .int .i64 ((rd_T75 ((rd_T55 l0_3 x12_1).f0) x20_2).f1), .int .i64 ((rd_T75 ((rd_T55 l0_3 x12_1).f0) x20_2).f2), .int .i64 ((rd_T75 ((rd_T55 l0_3 x12_1).f0) x20_2).f3), .int .i64 ((rd_T75 ((rd_T55 l0_3 x12_1).f0) x20_2).f4), .int .i64 ((rd_T75 ((rd_T55 l0_3 x12_1).f0) x20_2).f5), .int .i64 ((rd_T75 ((rd_T55 l0_3 x12_1).f0) x20_2).f6), .int .i64 ((rd_T75 ((rd_T55 l0_3 x12_1).f0) x20_2).f7), .int .i64 0, .bool false]) ?_ 8 _ rfl; (with_reducible repeat (first | refine blk_drewN ?_ _ | refine blk_drew ?_ | refine blk_alloc ?_ _)); refine blk_put (cs := #[.int .i64 ((rd_T75 ((rd_T55 l0_3 x12_1).f0) x20_2).f0), .int .i64 ((rd_T75 ((rd_T55 l0_3 x12_1).f0) x20_2).f1), .int .i64 ((rd_T75 ((rd_T55 l0_3 x12_1).f0) x20_2).f2), .int .i64 ((rd_T75 ((rd_T55 l0_3 x12_1).f0) x20_2).f3), .int .i64 ((rd_T75 ((rd_T55 l0_3 x12_1).f0) x20_2).f4), .int .i64 ((rd_T75 ((rd_T55 l0_3 x12_1).f0) x20_2).f5), .int .i64 ((rd_T75 ((rd_T55 l0_3 x12_1).f0) x20_2).f6), .int .i64 0, .int .i64 0, .bool false]) ?_ 7 _ rfl; (with_reducible repeat (first | refine blk_drewN ?_ _ | refine blk_drew ?_ | refine blk_alloc ?_ _)); refine blk_put (cs := #[.int .i64 ((rd_T75 ((rd_T55 l0_3 x12_1).f0) x20_2).f0), .int .i64 ((rd_T75 ((rd_T55 l0_3 x12_1).f0) x20_2).f1), .int .i64 ((rd_T75 ((rd_T55 l0_3 x12_1).f0) x20_2).f2), .int .i64 ((rd_T75 ((rd_T55 l0_3 x12_1).f0) x20_2).f3), .int .i64 ((rd_T75 ((rd_T55 l0_3 x12_1).f0) x20_2).f4), .int .i64 ((rd_T75 ((rd_T55 l0_3 x12_1).f0) x20_2).f5), .int .i64 0, .int .i64 0, .int .i64 0, .bool false]) ?_ 6 _ rfl; (with_reducible repeat (first | refine blk_drewN ?_ _ | refine blk_drew ?_ | refine blk_alloc ?_ _)); refine blk_put (cs := #[.int .i64 ((rd_T75 ((rd_T55 l0_3 x12_1).f0) x20_2).f0), .int .i64 ((rd_T75 ((rd_T55 l0_3 x12_1).f0) x20_2).f1), .int .i64 ((rd_T75 ((rd_T55 l0_3 x12_1).f0) x20_2).f2), .int .i64 ((rd_T75 ((rd_T55 l0_3 x12_1).f0) x20_2).f3), .int .i64 ((rd_T75 ((rd_T55 l0_3 x12_1).f0) x20_2).f4), .int .i64 0, .int .i64 0, .int .i64 0, .int .i64 0, .bool false]) ?_ 5 _ rfl; (with_reducible repeat (first | refine blk_drewN ?_ _ | refine blk_drew ?_ | refine blk_alloc ?_ _)); refine blk_put (cs := #[.int .i64 ((rd_T75 ((rd_T55 l0_3 x12_1).f0) x20_2).f0), .int .i64 ((rd_T75 ((rd_T55 l0_3 x12_1).f0) x20_2).f1), .int .i64 ((rd_T75 ((rd_T55 l0_3 x12_1).f0) x20_2).f2), .int .i64 ((rd_T75 ((rd_T55 l0_3 x12_1).f0) x20_2).f3), .int .i64 0, .int .i64 0, .int .i64 0, .int .i64 0, .int .i64 0, .bool false]) ?_ 4 _ rfl; (with_reducible repeat (first | refine blk_drewN ?_ _ | refine blk_drew ?_ | refine blk_alloc ?_ _)); refine blk_put (cs := #[.int .i64 ((rd_T75 ((rd_T55 l0_3 x12_1).f0) x20_2).f0), .int .i64 ((rd_T75 ((rd_T55 l0_3 x12_1).f0) x20_2).f1), .int .i64 ((rd_T75 ((rd_T55 l0_3 x12_1).f0) x20_2).f2), .int .i64 0, .int .i64 0, .int .i64 0, .int .i64 0, .int .i64 0, .int .i64 0, .bool false]) ?_ 3 _ rfl; (with_reducible repeat (first | refine blk_drewN ?_ _ | refine blk_drew ?_ | refine blk_alloc ?_ _)); refine blk_put (cs := #[.int .i64 ((rd_T75 ((rd_T55 l0_3 x12_1).f0) x20_2).f0), .int .i64 ((rd_T75 ((rd_T55 l0_3 x12_1).f0) x20_2).f1), .int .i64 0, .int .i64 0, .int .i64 0, .int .i64 0, .int .i64 0, .int .i64 0, .int .i64 0, .bool false]) ?_ 2 _ rfl; (with_reducible repeat (first | refine blk_drewN ?_ _ | refine blk_drew ?_ | refine blk_alloc ?_ _)); refine blk_put (cs := #[.int .i64 ((rd_T75 ((rd_T55 l0_3 x12_1).f0) x20_2).f0), .int .i64 0, .int .i64 0, .int .i64 0, .int .i64 0, .int .i64 0, .int .i64 0, .int .i64 0, .int .i64 0, .bool false]) ?_ 1 _ rfl; (with_reducible repeat (first | refine blk_drewN ?_ _ | refine blk_drew ?_ | refine blk_alloc ?_ _)); refine blk_put (cs := #[.int .i64 0, .int .i64 0, .int .i64 0, .int .i64 0, .int .i64 0, .int .i64 0, .int .i64 0, .int .i64 0, .int .i64 0, .bool false]) ?_ 0 _ rfl; (with_reducible repeat (first | refine blk_drewN ?_ _ | refine blk_drew ?_ | refine blk_alloc ?_ _)); exact BK220.out⟩, ⟨by repeat (first | (with_reducible first | exact HB.out | apply below_alloc | apply pw_below_drewN | apply below_drew1 | refine below_set ?_ GE213.out | refine below_set ?_ GE218.out | refine below_set ?_ GE220.out) | exact HB.out)⟩⟩
                        · replace c21 := Bool.eq_false_iff.mpr c21
                          subst c21
                          have H1 : (spec_Facts.j2 k2 x3_2 x12_1 x20_2 l0_3 (l0_3.length : Int) x12_1 ((rd_T55 l0_3 x12_1).f0) (((rd_T55 l0_3 x12_1).f0).length : Int) x20_2 false ((rd_T55 l0_3 x12_1).f0) ((rd_T55 l0_3 x12_1).f1) ((rd_T55 l0_3 x12_1).f2) ((rd_T55 l0_3 x12_1).f3) ((rd_T75 ((rd_T55 l0_3 x12_1).f0) x20_2).f0) ((rd_T75 ((rd_T55 l0_3 x12_1).f0) x20_2).f1) ((rd_T75 ((rd_T55 l0_3 x12_1).f0) x20_2).f2) ((rd_T75 ((rd_T55 l0_3 x12_1).f0) x20_2).f3) ((rd_T75 ((rd_T55 l0_3 x12_1).f0) x20_2).f4) ((rd_T75 ((rd_T55 l0_3 x12_1).f0) x20_2).f5) ((rd_T75 ((rd_T55 l0_3 x12_1).f0) x20_2).f6) ((rd_T75 ((rd_T55 l0_3 x12_1).f0) x20_2).f7) ((rd_T75 ((rd_T55 l0_3 x12_1).f0) x20_2).f8) false) = some r := by rw [if_neg (show ¬ (false = true) by decide)] at H; exact H
                          clear H
                          have H := H1
                          clear H1
                          have H' := Aside0.mk H
                          clear H
                          have hnb33 := NB220_213.out
                          have hnc33 := NB213_220.out
                          have hnb34 := NB220_218.out
                          have hnc34 := NB218_220.out
                          have hcz35_0 : w16.cell? ⟨gb220, 0, none⟩ = some (.int .i64 0) := (blk_cell BK220.out 0).trans rfl
                          have hcz35_1 : w16.cell? ⟨gb220, 1, none⟩ = some (.int .i64 0) := (blk_cell BK220.out 1).trans rfl
                          have hcz35_2 : w16.cell? ⟨gb220, 2, none⟩ = some (.int .i64 0) := (blk_cell BK220.out 2).trans rfl
                          have hcz35_3 : w16.cell? ⟨gb220, 3, none⟩ = some (.int .i64 0) := (blk_cell BK220.out 3).trans rfl
                          have hcz35_4 : w16.cell? ⟨gb220, 4, none⟩ = some (.int .i64 0) := (blk_cell BK220.out 4).trans rfl
                          have hcz35_5 : w16.cell? ⟨gb220, 5, none⟩ = some (.int .i64 0) := (blk_cell BK220.out 5).trans rfl
                          have hcz35_6 : w16.cell? ⟨gb220, 6, none⟩ = some (.int .i64 0) := (blk_cell BK220.out 6).trans rfl
                          have hcz35_7 : w16.cell? ⟨gb220, 7, none⟩ = some (.int .i64 0) := (blk_cell BK220.out 7).trans rfl
                          have hcz35_8 : w16.cell? ⟨gb220, 8, none⟩ = some (.int .i64 0) := (blk_cell BK220.out 8).trans rfl
                          have hcz35_9 : w16.cell? ⟨gb220, 9, none⟩ = some (.bool false) := (blk_cell BK220.out 9).trans rfl
                          have hfz35_0 := blk_frozen BK220.out 0
                          have hfz35_1 := blk_frozen BK220.out 1
                          have hfz35_2 := blk_frozen BK220.out 2
                          have hfz35_3 := blk_frozen BK220.out 3
                          have hfz35_4 := blk_frozen BK220.out 4
                          have hfz35_5 := blk_frozen BK220.out 5
                          have hfz35_6 := blk_frozen BK220.out 6
                          have hfz35_7 := blk_frozen BK220.out 7
                          have hfz35_8 := blk_frozen BK220.out 8
                          have hfz35_9 := blk_frozen BK220.out 9
                          go_wp2
                          go_meet
                          case rel => (try rw [← Nbq20.out]); exact ⟨_, (false), (by first | rfl | (simp; done) | (simp [*]; done)), H', ⟨by have := HK1.out; have := HK2.out; first | omega | exact Nat.le_refl _⟩, ⟨by (with_reducible repeat (first | apply Kd.R_alloc | apply Kd.R_drewN | apply Kd.R_drew)); exact Kd.R_mono (Kd.R_far (p := ⟨gb220, 9, none⟩) (Kd.R_far (p := ⟨gb220, 8, none⟩) (Kd.R_far (p := ⟨gb220, 7, none⟩) (Kd.R_far (p := ⟨gb220, 6, none⟩) (Kd.R_far (p := ⟨gb220, 5, none⟩) (Kd.R_far (p := ⟨gb220, 4, none⟩) (Kd.R_far (p := ⟨gb220, 3, none⟩) (Kd.R_far (p := ⟨gb220, 2, none⟩) (Kd.R_far (p := ⟨gb220, 1, none⟩) (Kd.R_far (p := ⟨gb220, 0, none⟩) (Kd.R_types HO_3.out BK220.out (by decide)) (fun _ hk => hk.2) (.int .i64 ((rd_T75 ((rd_T55 l0_3 x12_1).f0) x20_2).f0))) (fun _ hk => hk.2) (.int .i64 ((rd_T75 ((rd_T55 l0_3 x12_1).f0) x20_2).f1))) (fun _ hk => hk.2) (.int .i64 ((rd_T75 ((rd_T55 l0_3 x12_1).f0) x20_2).f2))) (fun _ hk => hk.2) (.int .i64 ((rd_T75 ((rd_T55 l0_3 x12_1).f0) x20_2).f3))) (fun _ hk => hk.2) (.int .i64 ((rd_T75 ((rd_T55 l0_3 x12_1).f0) x20_2).f4))) (fun _ hk => hk.2) (.int .i64 ((rd_T75 ((rd_T55 l0_3 x12_1).f0) x20_2).f5))) (fun _ hk => hk.2) (.int .i64 ((rd_T75 ((rd_T55 l0_3 x12_1).f0) x20_2).f6))) (fun _ hk => hk.2) (.int .i64 ((rd_T75 ((rd_T55 l0_3 x12_1).f0) x20_2).f7))) (fun _ hk => hk.2) (.int .i64 ((rd_T75 ((rd_T55 l0_3 x12_1).f0) x20_2).f8))) (fun _ hk => hk.2) (.bool (false))) (fun _ hk => trivial)⟩, ⟨by (with_reducible repeat (first | refine blk_drewN ?_ _ | refine blk_drew ?_ | refine blk_alloc ?_ _)); refine blk_far ?_ NB213_220.out _; (with_reducible repeat (first | refine blk_drewN ?_ _ | refine blk_drew ?_ | refine blk_alloc ?_ _)); refine blk_far ?_ NB213_220.out _; (with_reducible repeat (first | refine blk_drewN ?_ _ | refine blk_drew ?_ | refine blk_alloc ?_ _)); refine blk_far ?_ NB213_220.out _; (with_reducible repeat (first | refine blk_drewN ?_ _ | refine blk_drew ?_ | refine blk_alloc ?_ _)); refine blk_far ?_ NB213_220.out _; (with_reducible repeat (first | refine blk_drewN ?_ _ | refine blk_drew ?_ | refine blk_alloc ?_ _)); refine blk_far ?_ NB213_220.out _; (with_reducible repeat (first | refine blk_drewN ?_ _ | refine blk_drew ?_ | refine blk_alloc ?_ _)); refine blk_far ?_ NB213_220.out _; (with_reducible repeat (first | refine blk_drewN ?_ _ | refine blk_drew ?_ | refine blk_alloc ?_ _)); refine blk_far ?_ NB213_220.out _; (with_reducible repeat (first | refine blk_drewN ?_ _ | refine blk_drew ?_ | refine blk_alloc ?_ _)); refine blk_far ?_ NB213_220.out _; (with_reducible repeat (first | refine blk_drewN ?_ _ | refine blk_drew ?_ | refine blk_alloc ?_ _)); refine blk_far ?_ NB213_220.out _; (with_reducible repeat (first | refine blk_drewN ?_ _ | refine blk_drew ?_ | refine blk_alloc ?_ _)); refine blk_far ?_ NB213_220.out _; (with_reducible repeat (first | refine blk_drewN ?_ _ | refine blk_drew ?_ | refine blk_alloc ?_ _)); exact BK213.out⟩, ⟨by (with_reducible repeat (first | refine blk_drewN ?_ _ | refine blk_drew ?_ | refine blk_alloc ?_ _)); refine blk_far ?_ NB218_220.out _; (with_reducible repeat (first | refine blk_drewN ?_ _ | refine blk_drew ?_ | refine blk_alloc ?_ _)); refine blk_far ?_ NB218_220.out _; (with_reducible repeat (first | refine blk_drewN ?_ _ | refine blk_drew ?_ | refine blk_alloc ?_ _)); refine blk_far ?_ NB218_220.out _; (with_reducible repeat (first | refine blk_drewN ?_ _ | refine blk_drew ?_ | refine blk_alloc ?_ _)); refine blk_far ?_ NB218_220.out _; (with_reducible repeat (first | refine blk_drewN ?_ _ | refine blk_drew ?_ | refine blk_alloc ?_ _)); refine blk_far ?_ NB218_220.out _; (with_reducible repeat (first | refine blk_drewN ?_ _ | refine blk_drew ?_ | refine blk_alloc ?_ _)); refine blk_far ?_ NB218_220.out _; (with_reducible repeat (first | refine blk_drewN ?_ _ | refine blk_drew ?_ | refine blk_alloc ?_ _)); refine blk_far ?_ NB218_220.out _; (with_reducible repeat (first | refine blk_drewN ?_ _ | refine blk_drew ?_ | refine blk_alloc ?_ _)); refine blk_far ?_ NB218_220.out _; (with_reducible repeat (first | refine blk_drewN ?_ _ | refine blk_drew ?_ | refine blk_alloc ?_ _)); refine blk_far ?_ NB218_220.out _; (with_reducible repeat (first | refine blk_drewN ?_ _ | refine blk_drew ?_ | refine blk_alloc ?_ _)); refine blk_far ?_ NB218_220.out _; (with_reducible repeat (first | refine blk_drewN ?_ _ | refine blk_drew ?_ | refine blk_alloc ?_ _)); exact BK218.out⟩, ⟨by (with_reducible repeat (first | refine blk_drewN ?_ _ | refine blk_drew ?_ | refine blk_alloc ?_ _)); refine blk_put (cs := #[.int .i64 ((rd_T75 ((rd_T55 l0_3 x12_1).f0) x20_2).f0), .int .i64 ((rd_T75 ((rd_T55 l0_3 x12_1).f0) x20_2).f1), .int .i64 ((rd_T75 ((rd_T55 l0_3 x12_1).f0) x20_2).f2), .int .i64 ((rd_T75 ((rd_T55 l0_3 x12_1).f0) x20_2).f3), .int .i64 ((rd_T75 ((rd_T55 l0_3 x12_1).f0) x20_2).f4), .int .i64 ((rd_T75 ((rd_T55 l0_3 x12_1).f0) x20_2).f5), .int .i64 ((rd_T75 ((rd_T55 l0_3 x12_1).f0) x20_2).f6), .int .i64 ((rd_T75 ((rd_T55 l0_3 x12_1).f0) x20_2).f7), .int .i64 ((rd_T75 ((rd_T55 l0_3 x12_1).f0) x20_2).f8), .bool false]) ?_ 9 _ rfl; (with_reducible repeat (first | refine blk_drewN ?_ _ | refine blk_drew ?_ | refine blk_alloc ?_ _)); refine blk_put (cs := #[.int .i64 ((rd_T75 ((rd_T55 l0_3 x12_1).f0) x20_2).f0), .int .i64 ((rd_T75 ((rd_T55 l0_3 x12_1).f0) x20_2).f1), .int .i64 ((rd_T75 ((rd_T55 l0_3 x12_1).f0) x20_2).f2), .int .i64 ((rd_T75 ((rd_T55 l0_3 x12_1).f0) x20_2).f3), .int .i64 ((rd_T75 ((rd_T55 l0_3 x12_1).f0) x20_2).f4), .int .i64 ((rd_T75 ((rd_T55 l0_3 x12_1).f0) x20_2).f5), .int .i64 ((rd_T75 ((rd_T55 l0_3 x12_1).f0) x20_2).f6), .int .i64 ((rd_T75 ((rd_T55 l0_3 x12_1).f0) x20_2).f7), .int .i64 0, .bool false]) ?_ 8 _ rfl; (with_reducible repeat (first | refine blk_drewN ?_ _ | refine blk_drew ?_ | refine blk_alloc ?_ _)); refine blk_put (cs := #[.int .i64 ((rd_T75 ((rd_T55 l0_3 x12_1).f0) x20_2).f0), .int .i64 ((rd_T75 ((rd_T55 l0_3 x12_1).f0) x20_2).f1), .int .i64 ((rd_T75 ((rd_T55 l0_3 x12_1).f0) x20_2).f2), .int .i64 ((rd_T75 ((rd_T55 l0_3 x12_1).f0) x20_2).f3), .int .i64 ((rd_T75 ((rd_T55 l0_3 x12_1).f0) x20_2).f4), .int .i64 ((rd_T75 ((rd_T55 l0_3 x12_1).f0) x20_2).f5), .int .i64 ((rd_T75 ((rd_T55 l0_3 x12_1).f0) x20_2).f6), .int .i64 0, .int .i64 0, .bool false]) ?_ 7 _ rfl; (with_reducible repeat (first | refine blk_drewN ?_ _ | refine blk_drew ?_ | refine blk_alloc ?_ _)); refine blk_put (cs := #[.int .i64 ((rd_T75 ((rd_T55 l0_3 x12_1).f0) x20_2).f0), .int .i64 ((rd_T75 ((rd_T55 l0_3 x12_1).f0) x20_2).f1), .int .i64 ((rd_T75 ((rd_T55 l0_3 x12_1).f0) x20_2).f2), .int .i64 ((rd_T75 ((rd_T55 l0_3 x12_1).f0) x20_2).f3), .int .i64 ((rd_T75 ((rd_T55 l0_3 x12_1).f0) x20_2).f4), .int .i64 ((rd_T75 ((rd_T55 l0_3 x12_1).f0) x20_2).f5), .int .i64 0, .int .i64 0, .int .i64 0, .bool false]) ?_ 6 _ rfl; (with_reducible repeat (first | refine blk_drewN ?_ _ | refine blk_drew ?_ | refine blk_alloc ?_ _)); refine blk_put (cs := #[.int .i64 ((rd_T75 ((rd_T55 l0_3 x12_1).f0) x20_2).f0), .int .i64 ((rd_T75 ((rd_T55 l0_3 x12_1).f0) x20_2).f1), .int .i64 ((rd_T75 ((rd_T55 l0_3 x12_1).f0) x20_2).f2), .int .i64 ((rd_T75 ((rd_T55 l0_3 x12_1).f0) x20_2).f3), .int .i64 ((rd_T75 ((rd_T55 l0_3 x12_1).f0) x20_2).f4), .int .i64 0, .int .i64 0, .int .i64 0, .int .i64 0, .bool false]) ?_ 5 _ rfl; (with_reducible repeat (first | refine blk_drewN ?_ _ | refine blk_drew ?_ | refine blk_alloc ?_ _)); refine blk_put (cs := #[.int .i64 ((rd_T75 ((rd_T55 l0_3 x12_1).f0) x20_2).f0), .int .i64 ((rd_T75 ((rd_T55 l0_3 x12_1).f0) x20_2).f1), .int .i64 ((rd_T75 ((rd_T55 l0_3 x12_1).f0) x20_2).f2), .int .i64 ((rd_T75 ((rd_T55 l0_3 x12_1).f0) x20_2).f3), .int .i64 0, .int .i64 0, .int .i64 0, .int .i64 0, .int .i64 0, .bool false]) ?_ 4 _ rfl; (with_reducible repeat (first | refine blk_drewN ?_ _ | refine blk_drew ?_ | refine blk_alloc ?_ _)); refine blk_put (cs := #[.int .i64 ((rd_T75 ((rd_T55 l0_3 x12_1).f0) x20_2).f0), .int .i64 ((rd_T75 ((rd_T55 l0_3 x12_1).f0) x20_2).f1), .int .i64 ((rd_T75 ((rd_T55 l0_3 x12_1).f0) x20_2).f2), .int .i64 0, .int .i64 0, .int .i64 0, .int .i64 0, .int .i64 0, .int .i64 0, .bool false]) ?_ 3 _ rfl; (with_reducible repeat (first | refine blk_drewN ?_ _ | refine blk_drew ?_ | refine blk_alloc ?_ _)); refine blk_put (cs := #[.int .i64 ((rd_T75 ((rd_T55 l0_3 x12_1).f0) x20_2).f0), .int .i64 ((rd_T75 ((rd_T55 l0_3 x12_1).f0) x20_2).f1), .int .i64 0, .int .i64 0, .int .i64 0, .int .i64 0, .int .i64 0, .int .i64 0, .int .i64 0, .bool false]) ?_ 2 _ rfl; (with_reducible repeat (first | refine blk_drewN ?_ _ | refine blk_drew ?_ | refine blk_alloc ?_ _)); refine blk_put (cs := #[.int .i64 ((rd_T75 ((rd_T55 l0_3 x12_1).f0) x20_2).f0), .int .i64 0, .int .i64 0, .int .i64 0, .int .i64 0, .int .i64 0, .int .i64 0, .int .i64 0, .int .i64 0, .bool false]) ?_ 1 _ rfl; (with_reducible repeat (first | refine blk_drewN ?_ _ | refine blk_drew ?_ | refine blk_alloc ?_ _)); refine blk_put (cs := #[.int .i64 0, .int .i64 0, .int .i64 0, .int .i64 0, .int .i64 0, .int .i64 0, .int .i64 0, .int .i64 0, .int .i64 0, .bool false]) ?_ 0 _ rfl; (with_reducible repeat (first | refine blk_drewN ?_ _ | refine blk_drew ?_ | refine blk_alloc ?_ _)); exact BK220.out⟩, ⟨by repeat (first | (with_reducible first | exact HB.out | apply below_alloc | apply pw_below_drewN | apply below_drew1 | refine below_set ?_ GE213.out | refine below_set ?_ GE218.out | refine below_set ?_ GE220.out) | exact HB.out)⟩⟩
                      case rest =>
                        clear HC15
                        try clear c1
                        try clear c2
                        try clear p2
                        try clear q2
                        try clear hx2
                        try clear c3
                        try clear c6
                        try clear c6b0
                        try clear c7
                        try clear c7b0
                        try clear c8
                        try clear c8b0
                        try clear c10
                        try clear c12
                        try clear c12b0
                        try clear c13
                        try clear c13b0
                        try clear c14
                        try clear c14b0
                        try clear c17
                        try clear c18
                        try clear q20
                        try clear c21
                        try clear p21
                        try clear q21
                        try clear hx21
                        try clear c22
                        try clear c22b0
                        try clear c23
                        try clear c24
                        try clear c26
                        try clear c28
                        try clear c29
                        try clear c31
                        try clear c33
                        try clear c34
                        try clear hcz11_0
                        try clear hcz11_1
                        try clear hcz11_2
                        try clear hcz11_3
                        try clear hcz19_0
                        try clear hcz19_1
                        try clear hcz19_2
                        try clear hcz19_3
                        try clear hcz19_4
                        try clear hcz19_5
                        try clear hcz19_6
                        try clear hcz19_7
                        try clear hcz19_8
                        try clear hcz19_9
                        try clear hcz25_0
                        try clear hcz25_1
                        try clear hcz25_2
                        try clear hcz25_3
                        try clear hcz25_4
                        try clear hcz25_5
                        try clear hcz25_6
                        try clear hcz25_7
                        try clear hcz25_8
                        try clear hcz25_9
                        try clear hcz27_0
                        try clear hcz27_1
                        try clear hcz27_2
                        try clear hcz27_3
                        try clear hcz30_0
                        try clear hcz30_1
                        try clear hcz30_2
                        try clear hcz30_3
                        try clear hcz30_4
                        try clear hcz30_5
                        try clear hcz30_6
                        try clear hcz30_7
                        try clear hcz30_8
                        try clear hcz30_9
                        try clear hcz32_0
                        try clear hcz32_1
                        try clear hcz32_2
                        try clear hcz32_3
                        try clear hcz35_0
                        try clear hcz35_1
                        try clear hcz35_2
                        try clear hcz35_3
                        try clear hcz35_4
                        try clear hcz35_5
                        try clear hcz35_6
                        try clear hcz35_7
                        try clear hcz35_8
                        try clear hcz35_9
                        try clear hcz5_0
                        try clear hcz5_1
                        try clear hcz5_2
                        try clear hcz5_3
                        try clear hcz5_4
                        try clear hfz11_0
                        try clear hfz11_1
                        try clear hfz11_2
                        try clear hfz11_3
                        try clear hfz19_0
                        try clear hfz19_1
                        try clear hfz19_2
                        try clear hfz19_3
                        try clear hfz19_4
                        try clear hfz19_5
                        try clear hfz19_6
                        try clear hfz19_7
                        try clear hfz19_8
                        try clear hfz19_9
                        try clear hfz25_0
                        try clear hfz25_1
                        try clear hfz25_2
                        try clear hfz25_3
                        try clear hfz25_4
                        try clear hfz25_5
                        try clear hfz25_6
                        try clear hfz25_7
                        try clear hfz25_8
                        try clear hfz25_9
                        try clear hfz27_0
                        try clear hfz27_1
                        try clear hfz27_2
                        try clear hfz27_3
                        try clear hfz30_0
                        try clear hfz30_1
                        try clear hfz30_2
                        try clear hfz30_3
                        try clear hfz30_4
                        try clear hfz30_5
                        try clear hfz30_6
                        try clear hfz30_7
                        try clear hfz30_8
                        try clear hfz30_9
                        try clear hfz32_0
                        try clear hfz32_1
                        try clear hfz32_2
                        try clear hfz32_3
                        try clear hfz35_0
                        try clear hfz35_1
                        try clear hfz35_2
                        try clear hfz35_3
                        try clear hfz35_4
                        try clear hfz35_5
                        try clear hfz35_6
                        try clear hfz35_7
                        try clear hfz35_8
                        try clear hfz35_9
                        try clear hfz5_0
                        try clear hfz5_1
                        try clear hfz5_2
                        try clear hfz5_3
                        try clear hfz5_4
                        try clear hx217_0
                        try clear hx217_1
                        try clear hx217_2
                        try clear hx217_3
                        try clear hx219_0
                        try clear hx219_1
                        try clear hx219_2
                        try clear hx219_3
                        try clear hx219_4
                        try clear hx219_5
                        try clear hx219_6
                        try clear hx219_7
                        try clear hx219_8
                        try clear hx219_9
                        try clear p2
                        try clear p217
                        try clear p219
                        try clear q2
                        try clear q217
                        try clear q219
                        obtain ⟨kq, x40_14, rfl, HA, HJ14, HO_3, BK213, BK218, BK220, HB⟩ := hcut
                        cases kq with
                        | zero => exact absurd HA.out (by simp [spec_Facts.j2])
                        | succ kj14 =>
                          have H := HA.out
                          clear HA
                          simp only [spec_Facts.j2] at H
                          by_cases c36 : x40_14 = true
                          · subst c36
                            have H1 : (if 0 ≤ x20_2 then (if x20_2 < (((rd_T55 l0_3 x12_1).f2).length : Int) then (if x20_2 < (((rd_T55 l0_3 x12_1).f3).length : Int) then (if x3_2.length < 2199023255552 then (spec_Facts.l1 kj14 (x3_2 ++ [(⟨x12_1, ((rd_T75 ((rd_T55 l0_3 x12_1).f0) x20_2).f0), ((rd_T75 ((rd_T55 l0_3 x12_1).f0) x20_2).f1), ((rd_T75 ((rd_T55 l0_3 x12_1).f0) x20_2).f7), ((rd_T75 ((rd_T55 l0_3 x12_1).f0) x20_2).f8), ((rd_T75 ((rd_T55 l0_3 x12_1).f0) x20_2).f4), rd ((rd_T55 l0_3 x12_1).f2) x20_2, rd ((rd_T55 l0_3 x12_1).f3) x20_2⟩ : S89)]) x12_1 l0_3 (l0_3.length : Int) x12_1 ((rd_T55 l0_3 x12_1).f0) (((rd_T55 l0_3 x12_1).f0).length : Int) (wrap64 (x20_2 + 1)) ((rd_T55 l0_3 x12_1).f0) ((rd_T55 l0_3 x12_1).f1) ((rd_T55 l0_3 x12_1).f2) ((rd_T55 l0_3 x12_1).f3)) else (none)) else (none)) else (none)) else (none)) = some r := by rw [if_pos rfl] at H; exact H
                            clear H
                            have H := H1
                            clear H1
                            by_cases c37 : 0 ≤ x20_2
                            · rw [if_pos c37] at H
                              have c37b0 : decide (0 ≤ x20_2) = true := decide_eq_true c37
                              clear c37
                              by_cases c38 : x20_2 < (((rd_T55 l0_3 x12_1).f2).length : Int)
                              · rw [if_pos c38] at H
                                have c38b0 : decide (x20_2 < (((rd_T55 l0_3 x12_1).f2).length : Int)) = true := decide_eq_true c38
                                clear c38
                                by_cases c39 : x20_2 < (((rd_T55 l0_3 x12_1).f3).length : Int)
                                · rw [if_pos c39] at H
                                  have c39b0 : decide (x20_2 < (((rd_T55 l0_3 x12_1).f3).length : Int)) = true := decide_eq_true c39
                                  clear c39
                                  by_cases c40 : x3_2.length < 2199023255552
                                  · rw [if_pos c40] at H
                                    have LMc40 := Aside0.mk c40
                                    clear c40
                                    obtain ⟨y223, hy223⟩ : ∃ y_ : List (S89), y_ = (x3_2 ++ [(⟨x12_1, ((rd_T75 ((rd_T55 l0_3 x12_1).f0) x20_2).f0), ((rd_T75 ((rd_T55 l0_3 x12_1).f0) x20_2).f1), ((rd_T75 ((rd_T55 l0_3 x12_1).f0) x20_2).f7), ((rd_T75 ((rd_T55 l0_3 x12_1).f0) x20_2).f8), ((rd_T75 ((rd_T55 l0_3 x12_1).f0) x20_2).f4), rd ((rd_T55 l0_3 x12_1).f2) x20_2, rd ((rd_T55 l0_3 x12_1).f3) x20_2⟩ : S89)]) := ⟨_, rfl⟩
                                    replace H : (spec_Facts.l1 kj14 y223 x12_1 l0_3 (l0_3.length : Int) x12_1 ((rd_T55 l0_3 x12_1).f0) (((rd_T55 l0_3 x12_1).f0).length : Int) (wrap64 (x20_2 + 1)) ((rd_T55 l0_3 x12_1).f0) ((rd_T55 l0_3 x12_1).f1) ((rd_T55 l0_3 x12_1).f2) ((rd_T55 l0_3 x12_1).f3)) = some r := by first | (rw [hy223]; with_reducible exact H) | (have H2_ := (Option.bind_some _ _).symm.trans H; rw [hy223]; with_reducible exact H2_) | (have H2_ := (Option.bind_some _ _).symm.trans H; with_reducible exact H2_) | with_reducible exact H | (rw [hy223]; exact H) | exact H
                                    have Ny223 := Aside0.mk hy223
                                    clear hy223
                                    have H' := Aside0.mk H
                                    clear H
                                    try go_wp2
                                    have n0_ := Aside0.mk (Kd.R_drew HO_3.out)
                                    have n1_ := Aside0.mk (blk_drew BK213.out)
                                    have n2_ := Aside0.mk (blk_drew BK218.out)
                                    have n3_ := Aside0.mk (blk_drew BK220.out)
                                    have n4_ := Aside0.mk (below_drew1 HB.out)
                                    clear HO_3
                                    clear BK213
                                    clear BK218
                                    clear BK220
                                    clear HB
                                    have HO_3 := n0_
                                    have BK213 := n1_
                                    have BK218 := n2_
                                    have BK220 := n3_
                                    have HB := n4_
                                    clear n0_ n1_ n2_ n3_ n4_
                                    have p221 : 0 ≤ (x20_2 : Int) := of_decide_eq_true (by first | (with_reducible assumption) | assumption)
                                    have q221 : x20_2 < (((rd_T55 l0_3 x12_1).f2).length : Int) := of_decide_eq_true (by first | (with_reducible assumption) | assumption)
                                    obtain ⟨ad221, e221, hx221_0⟩ := Kd.at_int HR217_2.out x20_2 p221 q221
                                    have hw221_0 := hx221_0
                                    cases e221
                                    replace hx221_0 := (HB.out.cell (World.block_lt_of_cell? w _ hx221_0)).trans hx221_0
                                    replace p221 := eq_true p221
                                    replace q221 := eq_true q221
                                    have p222 : 0 ≤ (x20_2 : Int) := of_decide_eq_true (by first | (with_reducible assumption) | assumption)
                                    have q222 : x20_2 < (((rd_T55 l0_3 x12_1).f3).length : Int) := of_decide_eq_true (by first | (with_reducible assumption) | assumption)
                                    obtain ⟨ad222, e222, hx222_0⟩ := Kd.at_int HR217_3.out x20_2 p222 q222
                                    have hw222_0 := hx222_0
                                    cases e222
                                    replace hx222_0 := (HB.out.cell (World.block_lt_of_cell? w _ hx222_0)).trans hx222_0
                                    replace p222 := eq_true p222
                                    replace q222 := eq_true q222
                                    refine start_ (n := 26) (S := fun w' => w'.cell? ⟨gb220, 0, none⟩ = some (.int .i64 ((rd_T75 ((rd_T55 l0_3 x12_1).f0) x20_2).f0)) ∧ w'.cell? ⟨gb220, 1, none⟩ = some (.int .i64 ((rd_T75 ((rd_T55 l0_3 x12_1).f0) x20_2).f1)) ∧ w'.cell? ⟨gb220, 2, none⟩ = some (.int .i64 ((rd_T75 ((rd_T55 l0_3 x12_1).f0) x20_2).f2)) ∧ w'.cell? ⟨gb220, 3, none⟩ = some (.int .i64 ((rd_T75 ((rd_T55 l0_3 x12_1).f0) x20_2).f3)) ∧ w'.cell? ⟨gb220, 4, none⟩ = some (.int .i64 ((rd_T75 ((rd_T55 l0_3 x12_1).f0) x20_2).f4)) ∧ w'.cell? ⟨gb220, 5, none⟩ = some (.int .i64 ((rd_T75 ((rd_T55 l0_3 x12_1).f0) x20_2).f5)) ∧ w'.cell? ⟨gb220, 6, none⟩ = some (.int .i64 ((rd_T75 ((rd_T55 l0_3 x12_1).f0) x20_2).f6)) ∧ w'.cell? ⟨gb220, 7, none⟩ = some (.int .i64 ((rd_T75 ((rd_T55 l0_3 x12_1).f0) x20_2).f7)) ∧ w'.cell? ⟨gb220, 8, none⟩ = some (.int .i64 ((rd_T75 ((rd_T55 l0_3 x12_1).f0) x20_2).f8)) ∧ w'.cell? ⟨gb220, 9, none⟩ = some (.bool ((rd_T75 ((rd_T55 l0_3 x12_1).f0) x20_2).f9)) ∧ w'.cell? ⟨gb218, 0, none⟩ = some (.slice (some ad219) ((rd_T55 l0_3 x12_1).f0).length c217_0) ∧ w'.cell? ⟨gb218, 1, none⟩ = some (.int .i64 ((rd_T55 l0_3 x12_1).f1)) ∧ w'.cell? ⟨gb218, 2, none⟩ = some (.slice (some ad221) ((rd_T55 l0_3 x12_1).f2).length c217_2) ∧ w'.cell? ⟨gb218, 3, none⟩ = some (.slice (some ad222) ((rd_T55 l0_3 x12_1).f3).length c217_3) ∧ w'.cell? (ad221.add (x20_2).toNat) = some (.int .i64 (rd ((rd_T55 l0_3 x12_1).f2) x20_2)) ∧ w'.cell? (ad222.add (x20_2).toNat) = some (.int .i64 (rd ((rd_T55 l0_3 x12_1).f3) x20_2))) (ds := []) #[false, false, false, false, false, false, false, false, false, false, false, false, false, false, false, false, false, false, false, false, false, false, false, false, false, false] (by kernel_rfl) rfl rfl ⟨(blk_cell BK220.out 0).trans rfl, (blk_cell BK220.out 1).trans rfl, (blk_cell BK220.out 2).trans rfl, (blk_cell BK220.out 3).trans rfl, (blk_cell BK220.out 4).trans rfl, (blk_cell BK220.out 5).trans rfl, (blk_cell BK220.out 6).trans rfl, (blk_cell BK220.out 7).trans rfl, (blk_cell BK220.out 8).trans rfl, (blk_cell BK220.out 9).trans rfl, (blk_cell BK218.out 0).trans rfl, (blk_cell BK218.out 1).trans rfl, (blk_cell BK218.out 2).trans rfl, (blk_cell BK218.out 3).trans rfl, ((HB.out.cell (World.block_lt_of_cell? w _ hw221_0)).trans hw221_0), ((HB.out.cell (World.block_lt_of_cell? w _ hw222_0)).trans hw222_0)⟩ (fun hHeld => ?_); refine with_tabW spec_Facts.tab9 spec_Facts.bits9 (fun HT_ HW_ => ?_)
                                    generalize wc.drew = w41 at HO_3 BK213 BK218 BK220 HB hx221_0 hx222_0 hHeld ⊢
                                    refine pure_ (i := 0) (N := some 41) (v := ?_) (a' := ?_) #[true, false, false, false, false, false, false, false, false, false, false, false, false, false, false, false, false, false, false, false, false, false, false, false, false, false] rfl rfl (any_of HT_.out (by kernel_rfl)) (fun _ _ _ h => h) (Or.inl ⟨by rfl, ?_⟩) ?_ ?_
                                    rotate_left
                                    · intro w'
                                      go_simp
                                      with_reducible rfl
                                    rotate_left
                                    · simp only [Act.put, List.setIfInBounds_toArray, List.set_cons_zero, List.set_cons_succ, i64_w, i32_w]
                                      rfl
                                    refine pure_ (i := 1) (N := some 42) (v := ?_) (a' := ?_) #[true, true, false, false, false, false, false, false, false, false, false, false, false, false, false, false, false, false, false, false, false, false, false, false, false, false] rfl rfl (any_of HT_.out (by kernel_rfl)) (fun _ _ _ h => h) (Or.inl ⟨by rfl, ?_⟩) ?_ ?_
                                    rotate_left
                                    · intro w'
                                      go_simp
                                      with_reducible rfl
                                    rotate_left
                                    · simp only [Act.put, List.setIfInBounds_toArray, List.set_cons_zero, List.set_cons_succ, i64_w, i32_w]
                                      rfl
                                    refine pure_ (i := 2) (N := some 43) (v := ?_) (a' := ?_) #[true, true, true, false, false, false, false, false, false, false, false, false, false, false, false, false, false, false, false, false, false, false, false, false, false, false] rfl rfl (any_of HT_.out (by kernel_rfl)) (fun _ _ _ h => h) (Or.inl ⟨by rfl, ?_⟩) ?_ ?_
                                    rotate_left
                                    · intro w'
                                      go_simp
                                      with_reducible rfl
                                    rotate_left
                                    · simp only [Act.put, List.setIfInBounds_toArray, List.set_cons_zero, List.set_cons_succ, i64_w, i32_w]
                                      rfl
                                    refine pure_ (i := 4) (N := some 45) (v := ?_) (a' := ?_) #[true, true, true, false, true, false, false, false, false, false, false, false, false, false, false, false, false, false, false, false, false, false, false, false, false, false] rfl rfl (any_of HT_.out (by kernel_rfl)) (fun _ _ _ h => h) (Or.inl ⟨by rfl, ?_⟩) ?_ ?_
                                    rotate_left
                                    · intro w'
                                      go_simp
                                      with_reducible rfl
                                    rotate_left
                                    · simp only [Act.put, List.setIfInBounds_toArray, List.set_cons_zero, List.set_cons_succ, i64_w, i32_w]
                                      rfl
                                    refine pure_ (i := 6) (N := some 47) (v := ?_) (a' := ?_) #[true, true, true, false, true, false, true, false, false, false, false, false, false, false, false, false, false, false, false, false, false, false, false, false, false, false] rfl rfl (any_of HT_.out (by kernel_rfl)) (fun _ _ _ h => h) (Or.inl ⟨by rfl, ?_⟩) ?_ ?_
                                    rotate_left
                                    · intro w'
                                      go_simp
                                      with_reducible rfl
                                    rotate_left
                                    · simp only [Act.put, List.setIfInBounds_toArray, List.set_cons_zero, List.set_cons_succ, i64_w, i32_w]
                                      rfl
                                    refine pure_ (i := 8) (N := some 49) (v := ?_) (a' := ?_) #[true, true, true, false, true, false, true, false, true, false, false, false, false, false, false, false, false, false, false, false, false, false, false, false, false, false] rfl rfl (any_of HT_.out (by kernel_rfl)) (fun _ _ _ h => h) (Or.inl ⟨by rfl, ?_⟩) ?_ ?_
                                    rotate_left
                                    · intro w'
                                      go_simp
                                      with_reducible rfl
                                    rotate_left
                                    · simp only [Act.put, List.setIfInBounds_toArray, List.set_cons_zero, List.set_cons_succ, i64_w, i32_w]
                                      rfl
                                    refine pure_ (i := 10) (N := some 51) (v := ?_) (a' := ?_) #[true, true, true, false, true, false, true, false, true, false, true, false, false, false, false, false, false, false, false, false, false, false, false, false, false, false] rfl rfl (any_of HT_.out (by kernel_rfl)) (fun _ _ _ h => h) (Or.inl ⟨by rfl, ?_⟩) ?_ ?_
                                    rotate_left
                                    · intro w'
                                      go_simp
                                      with_reducible rfl
                                    rotate_left
                                    · simp only [Act.put, List.setIfInBounds_toArray, List.set_cons_zero, List.set_cons_succ, i64_w, i32_w]
                                      rfl
                                    refine pure_ (i := 12) (N := some 53) (v := ?_) (a' := ?_) #[true, true, true, false, true, false, true, false, true, false, true, false, true, false, false, false, false, false, false, false, false, false, false, false, false, false] rfl rfl (any_of HT_.out (by kernel_rfl)) (fun _ _ _ h => h) (Or.inl ⟨by rfl, ?_⟩) ?_ ?_
                                    rotate_left
                                    · intro w'
                                      go_simp
                                      with_reducible rfl
                                    rotate_left
                                    · simp only [Act.put, List.setIfInBounds_toArray, List.set_cons_zero, List.set_cons_succ, i64_w, i32_w]
                                      rfl
                                    refine pure_ (i := 14) (N := some 55) (v := ?_) (a' := ?_) #[true, true, true, false, true, false, true, false, true, false, true, false, true, false, true, false, false, false, false, false, false, false, false, false, false, false] rfl rfl (any_of HT_.out (by kernel_rfl)) (fun _ _ _ h => h) (Or.inl ⟨by rfl, ?_⟩) ?_ ?_
                                    rotate_left
                                    · intro w'
                                      go_simp
                                      with_reducible rfl
                                    rotate_left
                                    · simp only [Act.put, List.setIfInBounds_toArray, List.set_cons_zero, List.set_cons_succ, i64_w, i32_w]
                                      rfl
                                    refine pure_ (i := 17) (N := some 58) (v := ?_) (a' := ?_) #[true, true, true, false, true, false, true, false, true, false, true, false, true, false, true, false, false, true, false, false, false, false, false, false, false, false] rfl rfl (any_of HT_.out (by kernel_rfl)) (fun _ _ _ h => h) (Or.inl ⟨by rfl, ?_⟩) ?_ ?_
                                    rotate_left
                                    · intro w'
                                      go_simp
                                      with_reducible rfl
                                    rotate_left
                                    · simp only [Act.put, List.setIfInBounds_toArray, List.set_cons_zero, List.set_cons_succ, i64_w, i32_w]
                                      rfl
                                    refine pure_ (i := 19) (N := some 60) (v := ?_) (a' := ?_) #[true, true, true, false, true, false, true, false, true, false, true, false, true, false, true, false, false, true, false, true, false, false, false, false, false, false] rfl rfl (any_of HT_.out (by kernel_rfl)) (fun _ _ _ h => h) (Or.inl ⟨by rfl, ?_⟩) ?_ ?_
                                    rotate_left
                                    · intro w'
                                      go_simp
                                      with_reducible rfl
                                    rotate_left
                                    · simp only [Act.put, List.setIfInBounds_toArray, List.set_cons_zero, List.set_cons_succ, i64_w, i32_w]
                                      rfl
                                    refine take_ (i := 3) (N := some 44) (v := ?_) (a' := ?_) #[true, true, true, true, true, false, true, false, true, false, true, false, true, false, true, false, false, true, false, true, false, false, false, false, false, false] rfl rfl (take_ofW HT_.out HW_.out (by kernel_rfl)) (fun _ _ _ h => h) (Or.inl ⟨by rfl, ?_⟩) hHeld ?_ ?_
                                    rotate_left
                                    · rintro w' ⟨s0, s1, s2, s3, s4, s5, s6, s7, s8, s9, s10, s11, s12, s13, s14, s15⟩
                                      go_simp
                                      with_reducible rfl
                                    rotate_left
                                    · simp only [Act.put, List.setIfInBounds_toArray, List.set_cons_zero, List.set_cons_succ, i64_w, i32_w]
                                      rfl
                                    refine take_ (i := 5) (N := some 46) (v := ?_) (a' := ?_) #[true, true, true, true, true, true, true, false, true, false, true, false, true, false, true, false, false, true, false, true, false, false, false, false, false, false] rfl rfl (take_ofW HT_.out HW_.out (by kernel_rfl)) (fun _ _ _ h => h) (Or.inl ⟨by rfl, ?_⟩) hHeld ?_ ?_
                                    rotate_left
                                    · rintro w' ⟨s0, s1, s2, s3, s4, s5, s6, s7, s8, s9, s10, s11, s12, s13, s14, s15⟩
                                      go_simp
                                      with_reducible rfl
                                    rotate_left
                                    · simp only [Act.put, List.setIfInBounds_toArray, List.set_cons_zero, List.set_cons_succ, i64_w, i32_w]
                                      rfl
                                    refine take_ (i := 7) (N := some 48) (v := ?_) (a' := ?_) #[true, true, true, true, true, true, true, true, true, false, true, false, true, false, true, false, false, true, false, true, false, false, false, false, false, false] rfl rfl (take_ofW HT_.out HW_.out (by kernel_rfl)) (fun _ _ _ h => h) (Or.inl ⟨by rfl, ?_⟩) hHeld ?_ ?_
                                    rotate_left
                                    · rintro w' ⟨s0, s1, s2, s3, s4, s5, s6, s7, s8, s9, s10, s11, s12, s13, s14, s15⟩
                                      go_simp
                                      with_reducible rfl
                                    rotate_left
                                    · simp only [Act.put, List.setIfInBounds_toArray, List.set_cons_zero, List.set_cons_succ, i64_w, i32_w]
                                      rfl
                                    refine take_ (i := 9) (N := some 50) (v := ?_) (a' := ?_) #[true, true, true, true, true, true, true, true, true, true, true, false, true, false, true, false, false, true, false, true, false, false, false, false, false, false] rfl rfl (take_ofW HT_.out HW_.out (by kernel_rfl)) (fun _ _ _ h => h) (Or.inl ⟨by rfl, ?_⟩) hHeld ?_ ?_
                                    rotate_left
                                    · rintro w' ⟨s0, s1, s2, s3, s4, s5, s6, s7, s8, s9, s10, s11, s12, s13, s14, s15⟩
                                      go_simp
                                      with_reducible rfl
                                    rotate_left
                                    · simp only [Act.put, List.setIfInBounds_toArray, List.set_cons_zero, List.set_cons_succ, i64_w, i32_w]
                                      rfl
                                    refine take_ (i := 11) (N := some 52) (v := ?_) (a' := ?_) #[true, true, true, true, true, true, true, true, true, true, true, true, true, false, true, false, false, true, false, true, false, false, false, false, false, false] rfl rfl (take_ofW HT_.out HW_.out (by kernel_rfl)) (fun _ _ _ h => h) (Or.inl ⟨by rfl, ?_⟩) hHeld ?_ ?_
                                    rotate_left
                                    · rintro w' ⟨s0, s1, s2, s3, s4, s5, s6, s7, s8, s9, s10, s11, s12, s13, s14, s15⟩
                                      go_simp
                                      with_reducible rfl
                                    rotate_left
                                    · simp only [Act.put, List.setIfInBounds_toArray, List.set_cons_zero, List.set_cons_succ, i64_w, i32_w]
                                      rfl
                                    refine take_ (i := 13) (N := some 54) (v := ?_) (a' := ?_) #[true, true, true, true, true, true, true, true, true, true, true, true, true, true, true, false, false, true, false, true, false, false, false, false, false, false] rfl rfl (take_ofW HT_.out HW_.out (by kernel_rfl)) (fun _ _ _ h => h) (Or.inl ⟨by rfl, ?_⟩) hHeld ?_ ?_
                                    rotate_left
                                    · rintro w' ⟨s0, s1, s2, s3, s4, s5, s6, s7, s8, s9, s10, s11, s12, s13, s14, s15⟩
                                      go_simp
                                      with_reducible rfl
                                    rotate_left
                                    · simp only [Act.put, List.setIfInBounds_toArray, List.set_cons_zero, List.set_cons_succ, i64_w, i32_w]
                                      rfl
                                    refine pure_ (i := 15) (N := some 56) (v := ?_) (a' := ?_) #[true, true, true, true, true, true, true, true, true, true, true, true, true, true, true, true, false, true, false, true, false, false, false, false, false, false] rfl rfl (any_of HT_.out (by kernel_rfl)) (fun _ _ _ h => h) (Or.inl ⟨by rfl, ?_⟩) ?_ ?_
                                    rotate_left
                                    · intro w'
                                      go_simp
                                      with_reducible rfl
                                    rotate_left
                                    · simp only [Act.put, List.setIfInBounds_toArray, List.set_cons_zero, List.set_cons_succ, i64_w, i32_w]
                                      rfl
                                    refine take_ (i := 16) (N := some 57) (v := ?_) (a' := ?_) #[true, true, true, true, true, true, true, true, true, true, true, true, true, true, true, true, true, true, false, true, false, false, false, false, false, false] rfl rfl (take_ofW HT_.out HW_.out (by kernel_rfl)) (fun _ _ _ h => h) (Or.inl ⟨by rfl, ?_⟩) hHeld ?_ ?_
                                    rotate_left
                                    · rintro w' ⟨s0, s1, s2, s3, s4, s5, s6, s7, s8, s9, s10, s11, s12, s13, s14, s15⟩
                                      go_simp
                                      with_reducible rfl
                                    rotate_left
                                    · simp only [Act.put, List.setIfInBounds_toArray, List.set_cons_zero, List.set_cons_succ, i64_w, i32_w]
                                      rfl
                                    refine take_ (i := 18) (N := some 59) (v := ?_) (a' := ?_) #[true, true, true, true, true, true, true, true, true, true, true, true, true, true, true, true, true, true, true, true, false, false, false, false, false, false] rfl rfl (take_ofW HT_.out HW_.out (by kernel_rfl)) (fun _ _ _ h => h) (Or.inl ⟨by rfl, ?_⟩) hHeld ?_ ?_
                                    rotate_left
                                    · rintro w' ⟨s0, s1, s2, s3, s4, s5, s6, s7, s8, s9, s10, s11, s12, s13, s14, s15⟩
                                      go_simp
                                      with_reducible rfl
                                    rotate_left
                                    · simp only [Act.put, List.setIfInBounds_toArray, List.set_cons_zero, List.set_cons_succ, i64_w, i32_w]
                                      rfl
                                    refine pure_ (i := 20) (N := some 61) (v := ?_) (a' := ?_) #[true, true, true, true, true, true, true, true, true, true, true, true, true, true, true, true, true, true, true, true, true, false, false, false, false, false] rfl rfl (any_of HT_.out (by kernel_rfl)) (fun _ _ _ h => h) (Or.inl ⟨by rfl, ?_⟩) ?_ ?_
                                    rotate_left
                                    · intro w'
                                      go_simp
                                      with_reducible rfl
                                    rotate_left
                                    · simp only [Act.put, List.setIfInBounds_toArray, List.set_cons_zero, List.set_cons_succ, i64_w, i32_w]
                                      rfl
                                    refine take_ (i := 21) (N := some 62) (v := ?_) (a' := ?_) #[true, true, true, true, true, true, true, true, true, true, true, true, true, true, true, true, true, true, true, true, true, true, false, false, false, false] rfl rfl (take_ofW HT_.out HW_.out (by kernel_rfl)) (fun _ _ _ h => h) (Or.inl ⟨by rfl, ?_⟩) hHeld ?_ ?_
                                    rotate_left
                                    · rintro w' ⟨s0, s1, s2, s3, s4, s5, s6, s7, s8, s9, s10, s11, s12, s13, s14, s15⟩
                                      go_simp
                                      with_reducible rfl
                                    rotate_left
                                    · simp only [Act.put, List.setIfInBounds_toArray, List.set_cons_zero, List.set_cons_succ, i64_w, i32_w]
                                      rfl
                                    refine pure_ (i := 22) (N := some 63) (v := ?_) (a' := ?_) #[true, true, true, true, true, true, true, true, true, true, true, true, true, true, true, true, true, true, true, true, true, true, true, false, false, false] rfl rfl (any_of HT_.out (by kernel_rfl)) (fun _ _ _ h => h) (Or.inl ⟨by rfl, ?_⟩) ?_ ?_
                                    rotate_left
                                    · intro w'
                                      go_simp
                                      with_reducible rfl
                                    rotate_left
                                    · simp only [Act.put, List.setIfInBounds_toArray, List.set_cons_zero, List.set_cons_succ, i64_w, i32_w]
                                      rfl
                                    refine one_ (i := 23) (N := some 64) #[true, true, true, true, true, true, true, true, true, true, true, true, true, true, true, true, true, true, true, true, true, true, true, true, false, false] rfl rfl (one_of HT_.out (by kernel_rfl)) (by decide) (fun K hK => ?_)
                                    refine value_ (w1 := ?_) (v := ?_) (by rfl) rfl ?_ ?_
                                    rotate_left 2
                                    · go_simp
                                      constructor
                                      · rfl
                                      · rfl
                                    refine hK.out _ _ ⟨(blk_cell (blk_alloc BK220.out _) 0).trans rfl, (blk_cell (blk_alloc BK220.out _) 1).trans rfl, (blk_cell (blk_alloc BK220.out _) 2).trans rfl, (blk_cell (blk_alloc BK220.out _) 3).trans rfl, (blk_cell (blk_alloc BK220.out _) 4).trans rfl, (blk_cell (blk_alloc BK220.out _) 5).trans rfl, (blk_cell (blk_alloc BK220.out _) 6).trans rfl, (blk_cell (blk_alloc BK220.out _) 7).trans rfl, (blk_cell (blk_alloc BK220.out _) 8).trans rfl, (blk_cell (blk_alloc BK220.out _) 9).trans rfl, (blk_cell (blk_alloc BK218.out _) 0).trans rfl, (blk_cell (blk_alloc BK218.out _) 1).trans rfl, (blk_cell (blk_alloc BK218.out _) 2).trans rfl, (blk_cell (blk_alloc BK218.out _) 3).trans rfl, (World.cell?_alloc_lt _ _ _ (World.block_lt_of_cell? _ _ (((HB.out.cell (World.block_lt_of_cell? w _ hw221_0)).trans hw221_0)))).trans (((HB.out.cell (World.block_lt_of_cell? w _ hw221_0)).trans hw221_0)), (World.cell?_alloc_lt _ _ _ (World.block_lt_of_cell? _ _ (((HB.out.cell (World.block_lt_of_cell? w _ hw222_0)).trans hw222_0)))).trans (((HB.out.cell (World.block_lt_of_cell? w _ hw222_0)).trans hw222_0))⟩ (fun hHeld => ?_)
                                    clear hK K
                                    refine norm_ (a' := ?_) ?_ ?_
                                    rotate_left
                                    · show Act.put _ (some 64) _ = _
                                      simp only [Act.put, List.setIfInBounds_toArray, List.set_cons_zero, List.set_cons_succ, i64_w, i32_w]
                                      rfl
                                    refine one_ (i := 24) (N := some 65) #[true, true, true, true, true, true, true, true, true, true, true, true, true, true, true, true, true, true, true, true, true, true, true, true, true, false] rfl rfl (one_of HT_.out (by kernel_rfl)) (by decide) (fun K hK => ?_)
                                    refine Kd.R_append_step k89 (w0 := w) w.heap.size (by rfl) (.tmp 41) (.tmp 64) 60 89 (.agg #[(.int .i64 0), (.int .i64 0), (.int .i64 0), (.int .i64 0), (.int .i64 0), (.int .i64 0), (.int .i64 0), (.int .i64 0)]) 64 rfl Try.underlying60 info89 rfl (by decide) (by omega) u3 x3_2 (⟨x12_1, ((rd_T75 ((rd_T55 l0_3 x12_1).f0) x20_2).f0), ((rd_T75 ((rd_T55 l0_3 x12_1).f0) x20_2).f1), ((rd_T75 ((rd_T55 l0_3 x12_1).f0) x20_2).f7), ((rd_T75 ((rd_T55 l0_3 x12_1).f0) x20_2).f8), ((rd_T75 ((rd_T55 l0_3 x12_1).f0) x20_2).f4), rd ((rd_T55 l0_3 x12_1).f2) x20_2, rd ((rd_T55 l0_3 x12_1).f3) x20_2⟩ : S89) [.int .i64 x12_1, .int .i64 ((rd_T75 ((rd_T55 l0_3 x12_1).f0) x20_2).f0), .int .i64 ((rd_T75 ((rd_T55 l0_3 x12_1).f0) x20_2).f1), .int .i64 ((rd_T75 ((rd_T55 l0_3 x12_1).f0) x20_2).f7), .int .i64 ((rd_T75 ((rd_T55 l0_3 x12_1).f0) x20_2).f8), .int .i64 ((rd_T75 ((rd_T55 l0_3 x12_1).f0) x20_2).f4), .int .i64 (rd ((rd_T55 l0_3 x12_1).f2) x20_2), .int .i64 (rd ((rd_T55 l0_3 x12_1).f3) x20_2)] (fun _ => True) (fun _ => False) rfl rfl ?aP (fun _ hk => hk.elim) ?aF ?aO ?aB ?aS ?aL ?_
                                    (case aP => exact k89_mkM _ _ _ (⟨x12_1, ((rd_T75 ((rd_T55 l0_3 x12_1).f0) x20_2).f0), ((rd_T75 ((rd_T55 l0_3 x12_1).f0) x20_2).f1), ((rd_T75 ((rd_T55 l0_3 x12_1).f0) x20_2).f7), ((rd_T75 ((rd_T55 l0_3 x12_1).f0) x20_2).f8), ((rd_T75 ((rd_T55 l0_3 x12_1).f0) x20_2).f4), rd ((rd_T55 l0_3 x12_1).f2) x20_2, rd ((rd_T55 l0_3 x12_1).f3) x20_2⟩ : S89))
                                    (case aB => exact (by repeat (first | (with_reducible first | exact HB.out | apply below_alloc | apply pw_below_drewN | apply below_drew1 | refine below_set ?_ GE213.out | refine below_set ?_ GE218.out | refine below_set ?_ GE220.out) | exact HB.out)))
                                    (case aF => exact (fun _ _ => trivial))
                                    (case aO => exact (by (with_reducible repeat (first | apply Kd.R_alloc | apply Kd.R_drewN | apply Kd.R_drew)); exact HO_3.out))
                                    (case aS => exact (below_size (by repeat (first | (with_reducible first | exact HB.out | apply below_alloc | apply pw_below_drewN | apply below_drew1 | refine below_set ?_ GE213.out | refine below_set ?_ GE218.out | refine below_set ?_ GE220.out) | exact HB.out))))
                                    (case aL => have := LMc40.out; omega)
                                    intro v224 w42 ho hb hg hat
                                    rw [← Ny223.out] at ho
                                    have n0_ := Aside0.mk (blk_grown (g := gb213) (o := .cells #[.int .i64 a0_0, .int .i64 a0_1, .slice A0_2 l0_2.length c0_2, .slice (some ad217) l0_3.length c0_3, .int .i64 a0_4] 29 (0, 0)) (by (with_reducible repeat (first | refine blk_drewN ?_ _ | refine blk_drew ?_ | refine blk_alloc ?_ _)); exact BK213.out) hg (Kd.R_ne HO_3.out BK213.out (by decide)))
                                    have n1_ := Aside0.mk (blk_grown (g := gb218) (o := .cells #[.slice (some ad219) ((rd_T55 l0_3 x12_1).f0).length c217_0, .int .i64 ((rd_T55 l0_3 x12_1).f1), .slice (some ad221) ((rd_T55 l0_3 x12_1).f2).length c217_2, .slice (some ad222) ((rd_T55 l0_3 x12_1).f3).length c217_3] 55 (0, 0)) (by (with_reducible repeat (first | refine blk_drewN ?_ _ | refine blk_drew ?_ | refine blk_alloc ?_ _)); exact BK218.out) hg (Kd.R_ne HO_3.out BK218.out (by decide)))
                                    have n2_ := Aside0.mk (blk_grown (g := gb220) (o := .cells #[.int .i64 ((rd_T75 ((rd_T55 l0_3 x12_1).f0) x20_2).f0), .int .i64 ((rd_T75 ((rd_T55 l0_3 x12_1).f0) x20_2).f1), .int .i64 ((rd_T75 ((rd_T55 l0_3 x12_1).f0) x20_2).f2), .int .i64 ((rd_T75 ((rd_T55 l0_3 x12_1).f0) x20_2).f3), .int .i64 ((rd_T75 ((rd_T55 l0_3 x12_1).f0) x20_2).f4), .int .i64 ((rd_T75 ((rd_T55 l0_3 x12_1).f0) x20_2).f5), .int .i64 ((rd_T75 ((rd_T55 l0_3 x12_1).f0) x20_2).f6), .int .i64 ((rd_T75 ((rd_T55 l0_3 x12_1).f0) x20_2).f7), .int .i64 ((rd_T75 ((rd_T55 l0_3 x12_1).f0) x20_2).f8), .bool ((rd_T75 ((rd_T55 l0_3 x12_1).f0) x20_2).f9)] 75 (0, 0)) (by (with_reducible repeat (first | refine blk_drewN ?_ _ | refine blk_drew ?_ | refine blk_alloc ?_ _)); exact BK220.out) hg (Kd.R_ne HO_3.out BK220.out (by decide)))
                                    have n3_ := Aside0.mk (hb)
                                    have n4_ := Aside0.mk (ho)
                                    clear BK213
                                    clear BK218
                                    clear BK220
                                    clear HB
                                    clear HO_3
                                    have BK213 := n0_
                                    have BK218 := n1_
                                    have BK220 := n2_
                                    have HB := n3_
                                    have HO225 := n4_
                                    clear n0_ n1_ n2_ n3_ n4_
                                    clear ho hb hg hat
                                    refine hK.out _ _ ⟨(blk_cell BK220.out 0).trans rfl, (blk_cell BK220.out 1).trans rfl, (blk_cell BK220.out 2).trans rfl, (blk_cell BK220.out 3).trans rfl, (blk_cell BK220.out 4).trans rfl, (blk_cell BK220.out 5).trans rfl, (blk_cell BK220.out 6).trans rfl, (blk_cell BK220.out 7).trans rfl, (blk_cell BK220.out 8).trans rfl, (blk_cell BK220.out 9).trans rfl, (blk_cell BK218.out 0).trans rfl, (blk_cell BK218.out 1).trans rfl, (blk_cell BK218.out 2).trans rfl, (blk_cell BK218.out 3).trans rfl, ((HB.out.cell (World.block_lt_of_cell? w _ hw221_0)).trans hw221_0), ((HB.out.cell (World.block_lt_of_cell? w _ hw222_0)).trans hw222_0)⟩ (fun hHeld => ?_)
                                    clear hK K
                                    refine norm_ (a' := ?_) ?_ ?_
                                    rotate_left
                                    · show Act.put _ (some 65) _ = _
                                      simp only [Act.put, List.setIfInBounds_toArray, List.set_cons_zero, List.set_cons_succ, i64_w, i32_w]
                                      rfl
                                    refine pure_ (i := 25) (N := some 3) (v := ?_) (a' := ?_) #[true, true, true, true, true, true, true, true, true, true, true, true, true, true, true, true, true, true, true, true, true, true, true, true, true, true] rfl rfl (any_of HT_.out (by kernel_rfl)) (fun _ _ _ h => h) (Or.inl ⟨by rfl, ?_⟩) ?_ ?_
                                    rotate_left
                                    · intro w'
                                      go_simp
                                      with_reducible rfl
                                    rotate_left
                                    · simp only [Act.put, List.setIfInBounds_toArray, List.set_cons_zero, List.set_cons_succ, i64_w, i32_w]
                                      rfl
                                    refine done_ (done_of HT_.out (by kernel_rfl)) ?_
                                    try go_wp2
                                    go_roundg kj14
                                    case measure => have := HK1.out; have := HK2.out; have := HJ14.out; omega
                                    case rel => (try rw [← Nbq20.out]); exact ⟨(y223), (wrap64 (x20_2 + 1)), (by first | rfl | (simp; done) | (simp [*]; done)), H', ⟨by have := HK1.out; have := HK2.out; have := HJ14.out; omega⟩, ⟨by (with_reducible repeat (first | apply Kd.R_alloc | apply Kd.R_drewN | apply Kd.R_drew)); exact HO225.out⟩, ⟨by (with_reducible repeat (first | refine blk_drewN ?_ _ | refine blk_drew ?_ | refine blk_alloc ?_ _)); exact BK213.out⟩, ⟨by (with_reducible repeat (first | refine blk_drewN ?_ _ | refine blk_drew ?_ | refine blk_alloc ?_ _)); exact BK218.out⟩, ⟨by repeat (first | (with_reducible first | exact HB.out | apply below_alloc | apply pw_below_drewN | apply below_drew1 | refine below_set ?_ GE213.out | refine below_set ?_ GE218.out | refine below_set ?_ GE220.out) | exact HB.out)⟩⟩
                                  · rw [if_neg c40] at H
                                    exact absurd H (by simp)
                                · rw [if_neg c39] at H
                                  exact absurd H (by simp)
                              · rw [if_neg c38] at H
                                exact absurd H (by simp)
                            · rw [if_neg c37] at H
                              exact absurd H (by simp)
                          · replace c36 := Bool.eq_false_iff.mpr c36
                            subst c36
                            have H1 : (spec_Facts.l1 kj14 x3_2 x12_1 l0_3 (l0_3.length : Int) x12_1 ((rd_T55 l0_3 x12_1).f0) (((rd_T55 l0_3 x12_1).f0).length : Int) (wrap64 (x20_2 + 1)) ((rd_T55 l0_3 x12_1).f0) ((rd_T55 l0_3 x12_1).f1) ((rd_T55 l0_3 x12_1).f2) ((rd_T55 l0_3 x12_1).f3)) = some r := by rw [if_neg (show ¬ (false = true) by decide)] at H; exact H
                            clear H
                            have H := H1
                            clear H1
                            have H' := Aside0.mk H
                            clear H
                            go_wp2
                            go_roundg kj14
                            case measure => have := HK1.out; have := HK2.out; have := HJ14.out; omega
                            case rel => (try rw [← Nbq20.out]); exact ⟨(x3_2), (wrap64 (x20_2 + 1)), (by first | rfl | (simp; done) | (simp [*]; done)), H', ⟨by have := HK1.out; have := HK2.out; have := HJ14.out; omega⟩, ⟨by (with_reducible repeat (first | apply Kd.R_alloc | apply Kd.R_drewN | apply Kd.R_drew)); exact HO_3.out⟩, ⟨by (with_reducible repeat (first | refine blk_drewN ?_ _ | refine blk_drew ?_ | refine blk_alloc ?_ _)); exact BK213.out⟩, ⟨by (with_reducible repeat (first | refine blk_drewN ?_ _ | refine blk_drew ?_ | refine blk_alloc ?_ _)); exact BK218.out⟩, ⟨by repeat (first | (with_reducible first | exact HB.out | apply below_alloc | apply pw_below_drewN | apply below_drew1 | refine below_set ?_ GE213.out | refine below_set ?_ GE218.out | refine below_set ?_ GE220.out) | exact HB.out)⟩⟩
                    · rw [if_neg c14] at H
                      exact absurd H (by simp)
                  · rw [if_neg c13] at H
                    exact absurd H (by simp)
                · rw [if_neg c12] at H
                  have c12b0 : decide (x20_2 < (((rd_T55 l0_3 x12_1).f0).length : Int)) = false := decide_eq_false c12
                  clear c12
                  have H' := Aside0.mk H
                  clear H
                  go_wp2
                  go_roundg k2
                  case measure => have := HK1.out; have := HK2.out; omega
                  case rel => (try rw [← Nbq20.out]); exact ⟨(x3_2), (wrap64 (x12_1 + 1)), (by first | rfl | (simp; done) | (simp [*]; done)), H', ⟨by have := HK1.out; have := HK2.out; omega⟩, ⟨by (with_reducible repeat (first | apply Kd.R_alloc | apply Kd.R_drewN | apply Kd.R_drew)); exact HO_3.out⟩, ⟨by (with_reducible repeat (first | refine blk_drewN ?_ _ | refine blk_drew ?_ | refine blk_alloc ?_ _)); exact BK213.out⟩, ⟨by repeat (first | (with_reducible first | exact HB.out | apply below_alloc | apply pw_below_drewN | apply below_drew1 | refine below_set ?_ GE213.out | refine below_set ?_ GE218.out) | exact HB.out)⟩⟩
          · rw [if_neg c8] at H
            exact absurd H (by simp)
        · rw [if_neg c7] at H
          exact absurd H (by simp)
      · rw [if_neg c6] at H
        have c6b0 : decide (x12_1 < (l0_3.length : Int)) = false := decide_eq_false c6
        clear c6
        obtain rfl := Option.some.inj H
        go_wp2
        go_ret
        exact ⟨_, by first | rfl | (simp [errW_none, errW_some] <;> rfl) | (simp [*, errW_none, errW_some] <;> rfl), by (with_reducible repeat (first | apply Kd.R_alloc | apply Kd.R_drewN | apply Kd.R_drew)); exact HO_3.out, by repeat (first | (with_reducible first | exact HB.out | apply below_alloc | apply pw_below_drewN | apply below_drew1 | refine below_set ?_ GE213.out) | exact HB.out)⟩

end Go.Proofs.Ytndkfjecipjiaaa.PFnExactFacts
