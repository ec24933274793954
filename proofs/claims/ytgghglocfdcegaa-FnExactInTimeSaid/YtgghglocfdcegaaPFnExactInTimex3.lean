-- Written by the session's own patched copy of the printer (wip/patch_print.py).
import Derived.Test.YtgghglocfdcegaaPFnExactInTimex0
namespace Go.Proofs.Ytgghglocfdcegaa.PFnExactInTime
open Go.RowKit Go.Proofs.YtgghglocfdcegaaW.PrintWords Go.Proofs.YtgghglocfdcegaaW.PrintLast Go.Proofs.YtgghglocfdcegaaW.PrintMore
attribute [local go_sem] max2_int min2_int max_two min_two max_three min_three max_four min_four   -- for this text's walks alone
set_option linter.unusedVariables false
set_option linter.unusedSimpArgs false

theorem q3_p {P : Program} {ops : Array Oper} {Q : Exit → Act → World → Prop} {md : Region.Mode} {S : World → Prop} {ds : List Nat} (i n : Nat) {oi : Oper} {v : Value} {fuel : Nat} {l : Array Bool} {a : Act} {w : World} (l' : Array Bool) {a' : Act} (h : wpAnyLast P md ops Q S ds fuel l' a' w) (hi : ops[i]? = some oi := by rfl) (hN : oi.dst = some n := by rfl) (hc : anyB md ops l l' i = true := by exact any_of HT_.out (by kernel_rfl)) (hQ : ∀ c a w, Q (.panic c) (a.put oi.dst v) w → Q (.panic c) a w := by exact fun _ _ _ h => h) (hy : Yields P ops oi v a := by refine Or.inl ⟨by rfl, ?_⟩; intro w'; go_simp; with_reducible rfl) (ha : a.put (some n) v = a' := by simp only [Act.put, List.setIfInBounds_toArray, List.set_cons_zero, List.set_cons_succ, i64_w, i32_w]; rfl) : wpAnyLast P md ops Q S ds (fuel + 1) l a w := pure_ (N := some n) l' hi hN hc hQ hy ha h
theorem q3_u {P : Program} {ops : Array Oper} {Q : Exit → Act → World → Prop} {md : Region.Mode} {S : World → Prop} {ds : List Nat} (i n : Nat) {oi : Oper} {fuel : Nat} {l : Array Bool} {a : Act} {w : World} (l' : Array Bool) {a' : Act} (h : wpAnyLast P md ops Q S ds fuel l' a' w) (hi : ops[i]? = some oi := by rfl) (hN : oi.dst = some n := by rfl) (hc : anyB md ops l l' i = true := by exact any_of HT_.out (by kernel_rfl)) (hQ : ∀ c a w, Q (.panic c) (a.put oi.dst undef) w → Q (.panic c) a w := by exact fun _ _ _ h => h) (hy : Yields P ops oi undef a := by exact Or.inr ⟨by rfl, rfl⟩) (ha : a.put (some n) undef = a' := by simp only [Act.put, List.setIfInBounds_toArray, List.set_cons_zero, List.set_cons_succ, i64_w, i32_w]; rfl) : wpAnyLast P md ops Q S ds (fuel + 1) l a w := pure_ (N := some n) l' hi hN hc hQ hy ha h
open Bool renaming true → T, false → F
theorem q3_0 {p : Prop} (h : p := by repeat (first | (with_reducible first | exact HB.out | apply below_alloc | apply pw_below_drewN | apply below_drew1 | refine below_set ?_ mB.out) | exact HB.out)) : p := h
theorem q3_1 {p : Prop} (h : p := by (with_reducible repeat (first | refine blk_drewN ?_ _ | refine blk_drew ?_ | refine blk_alloc ?_ _)); exact bA.out) : p := h
theorem q3_2 {p : Prop} (h : p := by (with_reducible repeat (first | apply Kd.R_alloc | apply Kd.R_drewN | apply Kd.R_drew)); exact fA.out) : p := h
theorem q3_3 {p : Prop} (h : p := by repeat (first | (with_reducible first | exact HB.out | apply below_alloc | apply pw_below_drewN | apply below_drew1) | exact HB.out)) : p := h
theorem q3_4 {p : Prop} (h : p := by first | (with_reducible assumption) | assumption) : p := h
theorem q3_5 {p : Prop} (h : p := by first | rfl | (simp; done) | (simp [*]; done)) : p := h
/-! ### spec_InTime: function 42 -/
mutual
def spec_InTime.l0 : Nat → List (S89) → List (S89) → Int → Int → Option ((List (S89)))
 | 0, _, _, _, _ => none
 | k + 1, x3, x9, x10, x11 => if x11 < x10 then (if 0 ≤ x11 then (if x11 < (x9.length : Int) then (spec_InTime.l1 k x3 0 x9 x10 x11 ((rd_T89 x9 x11).f0) ((rd_T89 x9 x11).f1) ((rd_T89 x9 x11).f2) ((rd_T89 x9 x11).f3) ((rd_T89 x9 x11).f4) ((rd_T89 x9 x11).f5) ((rd_T89 x9 x11).f6) ((rd_T89 x9 x11).f7)) else (none)) else (none)) else (some x3)
def spec_InTime.j2 : Nat → List (S89) → Int → List (S89) → Int → Int → Int → Int → Int → Int → Int → Int → Int → Int → Option ((List (S89)))
 | 0, _, _, _, _, _, _, _, _, _, _, _, _, _ => none
 | k + 1, x3, x6, x9, x10, x11, rA, sA, tA, uA, vA, wA, xA, iA => (some (([] : List (S89)) : List (S89))).bind fun y128 => (if 0 ≤ x6 then (if x6 ≤ (x3.length : Int) then ((some (x3.drop (x6 : Int).toNat : List (S89))).bind fun y131 => (if y128.length + y131.length < 2199023255552 then ((some (y128 ++ y131 : List (S89))).bind fun y135 => ((some (x3.take (x6 : Int).toNat : List (S89))).bind fun y138 => (if y138.length < 2199023255552 then ((some (y138 ++ [(⟨rA, sA, tA, uA, vA, wA, xA, iA⟩ : S89)] : List (S89))).bind fun y141 => (if y141.length + y135.length < 2199023255552 then (spec_InTime.l0 k (y141 ++ y135) x9 x10 (wrap64 (x11 + 1))) else (none))) else (none)))) else (none))) else (none)) else (none))
def spec_InTime.l1 : Nat → List (S89) → Int → List (S89) → Int → Int → Int → Int → Int → Int → Int → Int → Int → Int → Option ((List (S89)))
 | 0, _, _, _, _, _, _, _, _, _, _, _, _, _ => none
 | k + 1, x3, x6, x9, x10, x11, rA, sA, tA, uA, vA, wA, xA, iA => if x6 < (x3.length : Int) then (if 0 ≤ x6 then (if ((rd_T89 x3 x6).f7) ≤ iA then (spec_InTime.l1 k x3 (wrap64 (x6 + 1)) x9 x10 x11 rA sA tA uA vA wA xA iA) else (spec_InTime.j2 k x3 x6 x9 x10 x11 rA sA tA uA vA wA xA iA)) else (none)) else (spec_InTime.j2 k x3 x6 x9 x10 x11 rA sA tA uA vA wA xA iA)
end
def spec_InTime.f (k : Nat) (l0 : List (S89)) : Option ((List (S89))) := spec_InTime.l0 k (([] : List (S89))) l0 (l0.length : Int) 0
theorem spec_InTime.mono_l : ∀ k, (∀ y0 y1 y2 y3, LeO (spec_InTime.l0 k y0 y1 y2 y3) (spec_InTime.l0 (k + 1) y0 y1 y2 y3)) ∧ (∀ y0 y1 y2 y3 y4 y5 y6 y7 y8 y9 y10 y11 y12, LeO (spec_InTime.j2 k y0 y1 y2 y3 y4 y5 y6 y7 y8 y9 y10 y11 y12) (spec_InTime.j2 (k + 1) y0 y1 y2 y3 y4 y5 y6 y7 y8 y9 y10 y11 y12)) ∧ (∀ y0 y1 y2 y3 y4 y5 y6 y7 y8 y9 y10 y11 y12, LeO (spec_InTime.l1 k y0 y1 y2 y3 y4 y5 y6 y7 y8 y9 y10 y11 y12) (spec_InTime.l1 (k + 1) y0 y1 y2 y3 y4 y5 y6 y7 y8 y9 y10 y11 y12))
 | 0 => ⟨fun _ _ _ _ r h => by simp [spec_InTime.l0] at h, fun _ _ _ _ _ _ _ _ _ _ _ _ _ r h => by simp [spec_InTime.j2] at h, fun _ _ _ _ _ _ _ _ _ _ _ _ _ r h => by simp [spec_InTime.l1] at h⟩
 | k + 1 => by
  obtain ⟨ih0, ih1, ih2⟩ := spec_InTime.mono_l k
  refine ⟨?_, ?_, ?_⟩
  ·intro y0 y1 y2 y3
   unfold spec_InTime.l0
   repeat' first
   | (with_reducible exact ih0 _ _ _ _)
   | (with_reducible exact ih1 _ _ _ _ _ _ _ _ _ _ _ _ _)
   | (with_reducible exact ih2 _ _ _ _ _ _ _ _ _ _ _ _ _)
   | (with_reducible exact LeO.refl _)
   | (with_reducible exact LeO.none _)
   | (with_reducible refine LeO.ite ?_ ?_)
   | (with_reducible refine LeO.bind ?_ (fun _ => ?_))
   | exact ih0 _ _ _ _
   | exact ih1 _ _ _ _ _ _ _ _ _ _ _ _ _
   | exact ih2 _ _ _ _ _ _ _ _ _ _ _ _ _
   | exact LeO.none _
   | refine LeO.ite ?_ ?_
   | refine LeO.bind ?_ (fun _ => ?_)
  ·intro y0 y1 y2 y3 y4 y5 y6 y7 y8 y9 y10 y11 y12
   unfold spec_InTime.j2
   repeat' first
   | (with_reducible exact ih0 _ _ _ _)
   | (with_reducible exact ih1 _ _ _ _ _ _ _ _ _ _ _ _ _)
   | (with_reducible exact ih2 _ _ _ _ _ _ _ _ _ _ _ _ _)
   | (with_reducible exact LeO.refl _)
   | (with_reducible exact LeO.none _)
   | (with_reducible refine LeO.ite ?_ ?_)
   | (with_reducible refine LeO.bind ?_ (fun _ => ?_))
   | exact ih0 _ _ _ _
   | exact ih1 _ _ _ _ _ _ _ _ _ _ _ _ _
   | exact ih2 _ _ _ _ _ _ _ _ _ _ _ _ _
   | exact LeO.none _
   | refine LeO.ite ?_ ?_
   | refine LeO.bind ?_ (fun _ => ?_)
  ·intro y0 y1 y2 y3 y4 y5 y6 y7 y8 y9 y10 y11 y12
   unfold spec_InTime.l1
   repeat' first
   | (with_reducible exact ih0 _ _ _ _)
   | (with_reducible exact ih1 _ _ _ _ _ _ _ _ _ _ _ _ _)
   | (with_reducible exact ih2 _ _ _ _ _ _ _ _ _ _ _ _ _)
   | (with_reducible exact LeO.refl _)
   | (with_reducible exact LeO.none _)
   | (with_reducible refine LeO.ite ?_ ?_)
   | (with_reducible refine LeO.bind ?_ (fun _ => ?_))
   | exact ih0 _ _ _ _
   | exact ih1 _ _ _ _ _ _ _ _ _ _ _ _ _
   | exact ih2 _ _ _ _ _ _ _ _ _ _ _ _ _
   | exact LeO.none _
   | refine LeO.ite ?_ ?_
   | refine LeO.bind ?_ (fun _ => ?_)
theorem spec_InTime.mono : ∀ a0 k, LeO (spec_InTime.f k a0) (spec_InTime.f (k + 1) a0) := by
 intro a0 k
 obtain ⟨ih0, ih1, ih2⟩ := spec_InTime.mono_l k
 unfold spec_InTime.f
 repeat' first
   | (with_reducible exact ih0 _ _ _ _)
   | (with_reducible exact ih1 _ _ _ _ _ _ _ _ _ _ _ _ _)
   | (with_reducible exact ih2 _ _ _ _ _ _ _ _ _ _ _ _ _)
   | (with_reducible exact LeO.refl _)
   | (with_reducible exact LeO.none _)
   | (with_reducible refine LeO.ite ?_ ?_)
   | (with_reducible refine LeO.bind ?_ (fun _ => ?_))
   | exact ih0 _ _ _ _
   | exact ih1 _ _ _ _ _ _ _ _ _ _ _ _ _
   | exact ih2 _ _ _ _ _ _ _ _ _ _ _ _ _
   | exact LeO.none _
   | refine LeO.ite ?_ ?_
   | refine LeO.bind ?_ (fun _ => ?_)
def spec_InTime.T6 : Bool × List (List Nat × List Nat) := (true, [([], []), ([], []), ([1], [1]), ([0, 2], [0, 2]), ([3], [3]), ([4], [4]), ([4], [4]), ([5, 6, 4], [4, 5, 6]), ([7, 4], [4, 7]), ([8, 4], [4, 8]), ([4], [4]), ([10, 4], [4, 10]), ([9, 11, 4], [4, 9, 11]), ([4, 12], [4, 12])])
def spec_InTime.B6 : List Nat := [0, 0, 2, 7, 15, 31, 31, 127, 255, 511, 31, 1055, 4095, 8191]
theorem spec_InTime.tab6 : rtab .any (opsOf Try.f42 6) = spec_InTime.T6 := by kernel_rfl
theorem spec_InTime.bits6 : waitsOk spec_InTime.T6.2 spec_InTime.B6 = true := by kernel_rfl
def spec_InTime.T9 : Bool × List (List Nat × List Nat) := (true, [([], []), ([], []), ([0, 1], [0, 1]), ([], []), ([3], [3]), ([2, 4], [2, 4]), ([], []), ([5, 6, 5], [5, 6]), ([7, 7, 0, 1, 2, 3, 4, 5, 6, 7], [0, 7])])
def spec_InTime.B9 : List Nat := [0, 0, 3, 0, 8, 31, 0, 127, 255]
theorem spec_InTime.tab9 : rtab .any (opsOf Try.f42 9) = spec_InTime.T9 := by kernel_rfl
theorem spec_InTime.bits9 : waitsOk spec_InTime.T9.2 spec_InTime.B9 = true := by kernel_rfl
set_option maxHeartbeats 8000000 in
set_option maxRecDepth 100000 in
theorem spec_InTime.calls (k : Nat) (A0 : Option Addr) (c0 : Nat) (l0 : List (S89)) (r : List (S89)) (w : World) (hr0 : Kd.C k89 w A0 l0.length l0) (hc0 : l0.length ≤ c0) (h : spec_InTime.f k l0 = some r) :
  Calls Try.prog 42 #[.slice A0 l0.length c0] w fun e w' => ∃ v0_ : Value, e = .returned (v0_) ∧ Kd.R k89 89 w' w.heap.size (fun _ => True) v0_ r ∧ Below w.heap.size w w' := by
 have hu89 := Try.underlying89
 have HR0 := Aside0.mk hr0
 clear hr0 hc0
 have HB := Aside0.mk (Below.refl w.heap.size w)
 have H : (spec_InTime.l0 k (([] : List (S89))) l0 (l0.length : Int) 0) = some r := h
 clear h
 obtain ⟨y122, hy122⟩ : ∃ y_ : List (S89), y_ = (([] : List (S89))) := ⟨_, rfl⟩
 replace H : (spec_InTime.l0 k y122 l0 (l0.length : Int) 0) = some r := by first | (rw [hy122]; with_reducible exact H) | (have H2_ := (Option.bind_some _ _).symm.trans H; rw [hy122]; with_reducible exact H2_) | (have H2_ := (Option.bind_some _ _).symm.trans H; with_reducible exact H2_) | with_reducible exact H | (rw [hy122]; exact H) | exact H
 have Ny122 := Aside0.mk hy122
 clear hy122
 have H' := Aside0.mk H
 clear H
 go_enter Try.func42, Try.ntmps42
 go_wp2_with (first | ((with_reducible refine gate_dst (N := 8) rfl ?_); refine Kd.R_lit k89 _ 89 ?hg (N := 8) ?hd (xs := ([] : List (S89))) (inner := []) (ok := fun _ => True) (okp := fun _ => True) ?hr ?hp (fun _ hk => hk) trivial (Below.refl _ _) (Nat.le_refl _) (by simp) ?_; (case hd => rfl); (case hg => rfl); (case hr => first | (go_simp; done) | (go_simp; rfl)); (case hp => exact (Reps.none _ _)); intro RB w2 ho3 hb hg_ hnew_; clear hg_ hnew_; (first | rw [← Ny122.out] at ho3 | (simp only [Int.reduceToNat] at ho3; rw [← Ny122.out] at ho3)); have yA := Aside0.mk (Kd.R_lower ho3 (below_size q3_3)); have IA := Aside0.mk (below_step q3_3 hb); clear HB; have nB := yA; have HB := IA; clear yA IA; clear hb ho3))
 go_loopg [3, 11] k (fun kq v3 v11 w' => ∃ (eA : List (S89)) (aA : Int), v11 = .int .i64 aA ∧ Aside0 (spec_InTime.l0 kq eA l0 (l0.length : Int) aA = some r) ∧ Aside0 (kq ≤ k) ∧ Aside0 (Kd.R k89 89 w' w.heap.size (fun _ => True) v3 eA) ∧ Aside0 (Below w.heap.size w w'))
 case atStart => exact ⟨(y122), (0), q3_5, H', ⟨Nat.le_refl _⟩, ⟨by (with_reducible repeat (first | apply Kd.R_alloc | apply Kd.R_drewN | apply Kd.R_drew)); exact nB.out⟩, ⟨q3_3⟩⟩
 case round =>
  clear H'
  try clear p2
  obtain ⟨eA, aA, rfl, HA, HK1, fA, HB⟩ := hrel
  cases gk with
  | zero => exact absurd HA.out (by simp [spec_InTime.l0])
  | succ k1 =>
   have H := HA.out
   clear HA
   simp only [spec_InTime.l0] at H
   by_cases c4 : aA < (l0.length : Int)
   ·rw [if_pos c4] at H
    have kB : decide (aA < (l0.length : Int)) = true := decide_eq_true c4
    clear c4
    by_cases c5 : 0 ≤ aA
    ·rw [if_pos c5] at H
     have oB : decide (0 ≤ aA) = true := decide_eq_true c5
     clear c5
     by_cases c6 : aA < (l0.length : Int)
     ·rw [if_pos c6] at H
      have pB : decide (aA < (l0.length : Int)) = true := decide_eq_true c6
      clear c6
      have HC7 := Aside0.mk H
      clear H
      have p125 : 0 ≤ (aA : Int) := of_decide_eq_true q3_4
      have q125 : aA < (l0.length : Int) := of_decide_eq_true q3_4
      obtain ⟨ad125, wB, zA, AA, BA, CA, DA, EA, FA, GA⟩ := at_T89 HR0.out aA p125 q125
      cases wB
      replace zA := (HB.out.cell (World.block_lt_of_cell? w _ zA)).trans zA
      replace AA := (HB.out.cell (World.block_lt_of_cell? w _ AA)).trans AA
      replace BA := (HB.out.cell (World.block_lt_of_cell? w _ BA)).trans BA
      replace CA := (HB.out.cell (World.block_lt_of_cell? w _ CA)).trans CA
      replace DA := (HB.out.cell (World.block_lt_of_cell? w _ DA)).trans DA
      replace EA := (HB.out.cell (World.block_lt_of_cell? w _ EA)).trans EA
      replace FA := (HB.out.cell (World.block_lt_of_cell? w _ FA)).trans FA
      replace GA := (HB.out.cell (World.block_lt_of_cell? w _ GA)).trans GA
      replace p125 := eq_true p125
      replace q125 := eq_true q125
      go_upto_block 2 with (first | ((with_reducible refine gate_dst (N := 5) rfl ?_); refine box_event ?hg (N := 5) ?hd (cs := #[.int .i64 0, .int .i64 0, .int .i64 0, .int .i64 0, .int .i64 0, .int .i64 0, .int .i64 0, .int .i64 0]) (t := 89) ?hr ?_; (case hd => rfl); (case hg => rfl); (case hr => first | (go_simp; done) | (go_simp; rfl)); intro cA hg w8 hbox hb; have yA := Aside0.mk (Kd.R_below (Kd.R_elderB q3_2 cA (Nat.le_of_eq hg.symm)) hb); have IA := Aside0.mk (below_step q3_3 hb); have JA := Aside0.mk (hbox); have MA := Aside0.mk ((by rw [hg]; exact (below_size q3_3) : w.heap.size ≤ cA)); have iB := Aside0.mk ((by rw [hg]; exact (below_size q3_3) : w.heap.size ≤ cA)); clear fA HB; have fA := yA; have HB := IA; have bA := JA; have KB := MA; have mB := iB; clear yA IA JA MA iB; clear hb hbox hg; have PA : w8.cell? ⟨cA, 0, none⟩ = some (.int .i64 0) := (blk_cell bA.out 0).trans rfl; have QA : w8.cell? ⟨cA, 1, none⟩ = some (.int .i64 0) := (blk_cell bA.out 1).trans rfl; have RA : w8.cell? ⟨cA, 2, none⟩ = some (.int .i64 0) := (blk_cell bA.out 2).trans rfl; have SA : w8.cell? ⟨cA, 3, none⟩ = some (.int .i64 0) := (blk_cell bA.out 3).trans rfl; have TA : w8.cell? ⟨cA, 4, none⟩ = some (.int .i64 0) := (blk_cell bA.out 4).trans rfl; have UA : w8.cell? ⟨cA, 5, none⟩ = some (.int .i64 0) := (blk_cell bA.out 5).trans rfl; have VA : w8.cell? ⟨cA, 6, none⟩ = some (.int .i64 0) := (blk_cell bA.out 6).trans rfl; have WA : w8.cell? ⟨cA, 7, none⟩ = some (.int .i64 0) := (blk_cell bA.out 7).trans rfl; have XA := blk_frozen bA.out 0; have YA := blk_frozen bA.out 1; have ZA := blk_frozen bA.out 2; have bB := blk_frozen bA.out 3; have cB := blk_frozen bA.out 4; have dB := blk_frozen bA.out 5; have eB := blk_frozen bA.out 6; have fB := blk_frozen bA.out 7))
      (try simp only [Act.put, List.setIfInBounds_toArray, List.set_cons_zero, List.set_cons_succ])
      go_cut [6] (fun v6 wc => ∃ (kq : Nat) (gA : Int), v6 = .int .i64 gA ∧ Aside0 (spec_InTime.j2 kq eA gA l0 (l0.length : Int) aA ((rd_T89 l0 aA).f0) ((rd_T89 l0 aA).f1) ((rd_T89 l0 aA).f2) ((rd_T89 l0 aA).f3) ((rd_T89 l0 aA).f4) ((rd_T89 l0 aA).f5) ((rd_T89 l0 aA).f6) ((rd_T89 l0 aA).f7) = some r) ∧ Aside0 (kq ≤ k1) ∧ Aside0 (Kd.R k89 89 wc w.heap.size (fun k_ => k_ ≠ cA) u3 eA) ∧ Aside0 (wc.heap[cA]? = some (.cells #[.int .i64 ((rd_T89 l0 aA).f0), .int .i64 ((rd_T89 l0 aA).f1), .int .i64 ((rd_T89 l0 aA).f2), .int .i64 ((rd_T89 l0 aA).f3), .int .i64 ((rd_T89 l0 aA).f4), .int .i64 ((rd_T89 l0 aA).f5), .int .i64 ((rd_T89 l0 aA).f6), .int .i64 ((rd_T89 l0 aA).f7)] 89 (0, 0))) ∧ Aside0 (Below w.heap.size w wc))
      case first =>
       have H := HC7.out
       clear HC7
       have H' := Aside0.mk H
       clear H
       go_wp2
       go_loopg [6] k1 (fun kq v6 w' => ∃ (dA : Int), v6 = .int .i64 dA ∧ Aside0 (spec_InTime.l1 kq eA dA l0 (l0.length : Int) aA ((rd_T89 l0 aA).f0) ((rd_T89 l0 aA).f1) ((rd_T89 l0 aA).f2) ((rd_T89 l0 aA).f3) ((rd_T89 l0 aA).f4) ((rd_T89 l0 aA).f5) ((rd_T89 l0 aA).f6) ((rd_T89 l0 aA).f7) = some r) ∧ Aside0 (kq ≤ k1) ∧ Aside0 (Kd.R k89 89 w' w.heap.size (fun k_ => k_ ≠ cA) u3 eA) ∧ Aside0 (w'.heap[cA]? = some (.cells #[.int .i64 ((rd_T89 l0 aA).f0), .int .i64 ((rd_T89 l0 aA).f1), .int .i64 ((rd_T89 l0 aA).f2), .int .i64 ((rd_T89 l0 aA).f3), .int .i64 ((rd_T89 l0 aA).f4), .int .i64 ((rd_T89 l0 aA).f5), .int .i64 ((rd_T89 l0 aA).f6), .int .i64 ((rd_T89 l0 aA).f7)] 89 (0, 0))) ∧ Aside0 (Below w.heap.size w w'))
       case atStart => exact ⟨(0), q3_5, H', ⟨Nat.le_refl _⟩, ⟨by (with_reducible repeat (first | apply Kd.R_alloc | apply Kd.R_drewN | apply Kd.R_drew)); exact Kd.R_mono (Kd.R_far (p := ⟨cA, 7, none⟩) (Kd.R_far (p := ⟨cA, 6, none⟩) (Kd.R_far (p := ⟨cA, 5, none⟩) (Kd.R_far (p := ⟨cA, 4, none⟩) (Kd.R_far (p := ⟨cA, 3, none⟩) (Kd.R_far (p := ⟨cA, 2, none⟩) (Kd.R_far (p := ⟨cA, 1, none⟩) (Kd.R_far (p := ⟨cA, 0, none⟩) (Kd.R_mono fA.out (fun k_ hk => (⟨hk, hk.2⟩ : _ ∧ k_ ≠ cA))) (fun _ hk => hk.2) (.int .i64 ((rd_T89 l0 aA).f0))) (fun _ hk => hk.2) (.int .i64 ((rd_T89 l0 aA).f1))) (fun _ hk => hk.2) (.int .i64 ((rd_T89 l0 aA).f2))) (fun _ hk => hk.2) (.int .i64 ((rd_T89 l0 aA).f3))) (fun _ hk => hk.2) (.int .i64 ((rd_T89 l0 aA).f4))) (fun _ hk => hk.2) (.int .i64 ((rd_T89 l0 aA).f5))) (fun _ hk => hk.2) (.int .i64 ((rd_T89 l0 aA).f6))) (fun _ hk => hk.2) (.int .i64 ((rd_T89 l0 aA).f7))) (fun _ hk => hk.1.2)⟩, ⟨by (with_reducible repeat (first | refine blk_drewN ?_ _ | refine blk_drew ?_ | refine blk_alloc ?_ _)); refine blk_put (cs := #[.int .i64 ((rd_T89 l0 aA).f0), .int .i64 ((rd_T89 l0 aA).f1), .int .i64 ((rd_T89 l0 aA).f2), .int .i64 ((rd_T89 l0 aA).f3), .int .i64 ((rd_T89 l0 aA).f4), .int .i64 ((rd_T89 l0 aA).f5), .int .i64 ((rd_T89 l0 aA).f6), .int .i64 0]) ?_ 7 _ rfl; (with_reducible repeat (first | refine blk_drewN ?_ _ | refine blk_drew ?_ | refine blk_alloc ?_ _)); refine blk_put (cs := #[.int .i64 ((rd_T89 l0 aA).f0), .int .i64 ((rd_T89 l0 aA).f1), .int .i64 ((rd_T89 l0 aA).f2), .int .i64 ((rd_T89 l0 aA).f3), .int .i64 ((rd_T89 l0 aA).f4), .int .i64 ((rd_T89 l0 aA).f5), .int .i64 0, .int .i64 0]) ?_ 6 _ rfl; (with_reducible repeat (first | refine blk_drewN ?_ _ | refine blk_drew ?_ | refine blk_alloc ?_ _)); refine blk_put (cs := #[.int .i64 ((rd_T89 l0 aA).f0), .int .i64 ((rd_T89 l0 aA).f1), .int .i64 ((rd_T89 l0 aA).f2), .int .i64 ((rd_T89 l0 aA).f3), .int .i64 ((rd_T89 l0 aA).f4), .int .i64 0, .int .i64 0, .int .i64 0]) ?_ 5 _ rfl; (with_reducible repeat (first | refine blk_drewN ?_ _ | refine blk_drew ?_ | refine blk_alloc ?_ _)); refine blk_put (cs := #[.int .i64 ((rd_T89 l0 aA).f0), .int .i64 ((rd_T89 l0 aA).f1), .int .i64 ((rd_T89 l0 aA).f2), .int .i64 ((rd_T89 l0 aA).f3), .int .i64 0, .int .i64 0, .int .i64 0, .int .i64 0]) ?_ 4 _ rfl; (with_reducible repeat (first | refine blk_drewN ?_ _ | refine blk_drew ?_ | refine blk_alloc ?_ _)); refine blk_put (cs := #[.int .i64 ((rd_T89 l0 aA).f0), .int .i64 ((rd_T89 l0 aA).f1), .int .i64 ((rd_T89 l0 aA).f2), .int .i64 0, .int .i64 0, .int .i64 0, .int .i64 0, .int .i64 0]) ?_ 3 _ rfl; (with_reducible repeat (first | refine blk_drewN ?_ _ | refine blk_drew ?_ | refine blk_alloc ?_ _)); refine blk_put (cs := #[.int .i64 ((rd_T89 l0 aA).f0), .int .i64 ((rd_T89 l0 aA).f1), .int .i64 0, .int .i64 0, .int .i64 0, .int .i64 0, .int .i64 0, .int .i64 0]) ?_ 2 _ rfl; (with_reducible repeat (first | refine blk_drewN ?_ _ | refine blk_drew ?_ | refine blk_alloc ?_ _)); refine blk_put (cs := #[.int .i64 ((rd_T89 l0 aA).f0), .int .i64 0, .int .i64 0, .int .i64 0, .int .i64 0, .int .i64 0, .int .i64 0, .int .i64 0]) ?_ 1 _ rfl; (with_reducible repeat (first | refine blk_drewN ?_ _ | refine blk_drew ?_ | refine blk_alloc ?_ _)); refine blk_put (cs := #[.int .i64 0, .int .i64 0, .int .i64 0, .int .i64 0, .int .i64 0, .int .i64 0, .int .i64 0, .int .i64 0]) ?_ 0 _ rfl; (with_reducible repeat (first | refine blk_drewN ?_ _ | refine blk_drew ?_ | refine blk_alloc ?_ _)); exact bA.out⟩, ⟨q3_0⟩⟩
       case round =>
        clear H'
        (try clear p1); (try clear q1); (try clear hx1); (try clear p2); (try clear c4); (try clear kB); (try clear c5); (try clear oB); (try clear c6); (try clear pB); (try clear PA); (try clear QA); (try clear RA); (try clear SA); (try clear TA); (try clear UA); (try clear VA); (try clear WA); (try clear XA); (try clear YA); (try clear ZA); (try clear bB); (try clear cB); (try clear dB); (try clear eB); (try clear fB); (try clear zA); (try clear AA); (try clear BA); (try clear CA); (try clear DA); (try clear EA); (try clear FA); (try clear GA); (try clear p125); (try clear p2); (try clear q125)
        obtain ⟨dA, rfl, HA, HK2, fA, bA, HB⟩ := hrel
        cases gk with
        | zero => exact absurd HA.out (by simp [spec_InTime.l1])
        | succ k2 =>
         have H := HA.out
         clear HA
         simp only [spec_InTime.l1] at H
         by_cases c10 : dA < (eA.length : Int)
         ·rw [if_pos c10] at H
          have KA : decide (dA < (eA.length : Int)) = true := decide_eq_true c10
          clear c10
          (first | rw [KA] | (simp only [i64_w, i32_w]; rw [KA]) | skip)
          by_cases c11 : 0 ≤ dA
          ·rw [if_pos c11] at H
           have qB : decide (0 ≤ dA) = true := decide_eq_true c11
           clear c11
           by_cases c12 : ((rd_T89 eA dA).f7) ≤ ((rd_T89 l0 aA).f7)
           ·rw [if_pos c12] at H
            have jB : decide (((rd_T89 eA dA).f7) ≤ ((rd_T89 l0 aA).f7)) = true := decide_eq_true c12
            clear c12
            have H' := Aside0.mk H
            clear H
            try go_wp2
            have yA := Aside0.mk (Kd.R_drew fA.out)
            have IA := Aside0.mk (blk_drew bA.out)
            have JA := Aside0.mk (below_drew1 HB.out)
            clear fA bA HB
            have fA := yA
            have bA := IA
            have HB := JA
            clear yA IA JA
            obtain ⟨SB, TB, rB⟩ := Kd.R_slice fA.out
            (first | subst rB | (injection rB with f1_ f2_ f3_; have f4_ := f1_.symm; have f5_ := f3_.symm; clear f1_ f2_ f3_; subst f4_; subst f5_))
            have p127 : 0 ≤ (dA : Int) := of_decide_eq_true q3_4
            have q127 : dA < (eA.length : Int) := of_decide_eq_true q3_4
            obtain ⟨ad127, lB, jA, kA, lA, mA, nA, oA, pA, qA⟩ := at_T89 (Kd.R_reads' fA.out).2.2 dA p127 q127
            cases lB
            replace p127 := eq_true p127
            replace q127 := eq_true q127
            refine start_ (n := 14) (S := fun w' => w'.cell? ⟨cA, 0, none⟩ = some (.int .i64 ((rd_T89 l0 aA).f0)) ∧ w'.cell? ⟨cA, 1, none⟩ = some (.int .i64 ((rd_T89 l0 aA).f1)) ∧ w'.cell? ⟨cA, 2, none⟩ = some (.int .i64 ((rd_T89 l0 aA).f2)) ∧ w'.cell? ⟨cA, 3, none⟩ = some (.int .i64 ((rd_T89 l0 aA).f3)) ∧ w'.cell? ⟨cA, 4, none⟩ = some (.int .i64 ((rd_T89 l0 aA).f4)) ∧ w'.cell? ⟨cA, 5, none⟩ = some (.int .i64 ((rd_T89 l0 aA).f5)) ∧ w'.cell? ⟨cA, 6, none⟩ = some (.int .i64 ((rd_T89 l0 aA).f6)) ∧ w'.cell? ⟨cA, 7, none⟩ = some (.int .i64 ((rd_T89 l0 aA).f7)) ∧ w'.cell? (ad127.add ((dA).toNat * 8)) = some (.int .i64 ((rd_T89 eA dA).f0)) ∧ w'.cell? ⟨(ad127.add ((dA).toNat * 8)).block, (ad127.add ((dA).toNat * 8)).off + 1, none⟩ = some (.int .i64 ((rd_T89 eA dA).f1)) ∧ w'.cell? ⟨(ad127.add ((dA).toNat * 8)).block, (ad127.add ((dA).toNat * 8)).off + 2, none⟩ = some (.int .i64 ((rd_T89 eA dA).f2)) ∧ w'.cell? ⟨(ad127.add ((dA).toNat * 8)).block, (ad127.add ((dA).toNat * 8)).off + 3, none⟩ = some (.int .i64 ((rd_T89 eA dA).f3)) ∧ w'.cell? ⟨(ad127.add ((dA).toNat * 8)).block, (ad127.add ((dA).toNat * 8)).off + 4, none⟩ = some (.int .i64 ((rd_T89 eA dA).f4)) ∧ w'.cell? ⟨(ad127.add ((dA).toNat * 8)).block, (ad127.add ((dA).toNat * 8)).off + 5, none⟩ = some (.int .i64 ((rd_T89 eA dA).f5)) ∧ w'.cell? ⟨(ad127.add ((dA).toNat * 8)).block, (ad127.add ((dA).toNat * 8)).off + 6, none⟩ = some (.int .i64 ((rd_T89 eA dA).f6)) ∧ w'.cell? ⟨(ad127.add ((dA).toNat * 8)).block, (ad127.add ((dA).toNat * 8)).off + 7, none⟩ = some (.int .i64 ((rd_T89 eA dA).f7))) (ds := []) #[F,F,F,F,F,F,F,F,F,F,F,F,F,F] (by kernel_rfl) rfl rfl ⟨(blk_cell bA.out 0).trans rfl, (blk_cell bA.out 1).trans rfl, (blk_cell bA.out 2).trans rfl, (blk_cell bA.out 3).trans rfl, (blk_cell bA.out 4).trans rfl, (blk_cell bA.out 5).trans rfl, (blk_cell bA.out 6).trans rfl, (blk_cell bA.out 7).trans rfl, jA, kA, lA, mA, nA, oA, pA, qA⟩ (fun hHeld => ?_); refine with_tabW spec_InTime.tab6 spec_InTime.bits6 (fun HT_ HW_ => ?_)
            generalize wr.drew = ZB at fA bA HB jA kA lA mA nA oA pA qA hHeld ⊢
            refine q3_p 0 15 #[T,F,F,F,F,F,F,F,F,F,F,F,F,F] ?_
            refine q3_p 1 16 #[T,T,F,F,F,F,F,F,F,F,F,F,F,F] ?_
            refine q3_p 2 17 #[T,T,T,F,F,F,F,F,F,F,F,F,F,F] ?_
            refine q3_p 3 18 #[T,T,T,T,F,F,F,F,F,F,F,F,F,F] ?_
            refine q3_p 4 19 #[T,T,T,T,T,F,F,F,F,F,F,F,F,F] ?_
            refine q3_p 5 20 #[T,T,T,T,T,T,F,F,F,F,F,F,F,F] ?_
            refine q3_p 6 21 #[T,T,T,T,T,T,T,F,F,F,F,F,F,F] ?_
            refine q3_p 7 22 #[T,T,T,T,T,T,T,T,F,F,F,F,F,F] ?_
            refine q3_p 8 23 #[T,T,T,T,T,T,T,T,T,F,F,F,F,F] ?_
            refine q3_p 10 25 #[T,T,T,T,T,T,T,T,T,F,T,F,F,F] ?_
            refine take_ (i := 9) (N := some 24) (v := ?_) (a' := ?_) #[T,T,T,T,T,T,T,T,T,T,T,F,F,F] rfl rfl (take_ofW HT_.out HW_.out (by kernel_rfl)) (fun _ _ _ h => h) (Or.inl ⟨by rfl, ?_⟩) hHeld ?_ ?_
            rotate_left
            ·rintro w' ⟨s0, s1, s2, s3, s4, s5, s6, s7, s8, s9, xB, yB, zB, AB, BB, CB⟩
             go_simp
             with_reducible rfl
            rotate_left
            ·simp only [Act.put, List.setIfInBounds_toArray, List.set_cons_zero, List.set_cons_succ, i64_w, i32_w]
             rfl
            refine take_ (i := 11) (N := some 26) (v := ?_) (a' := ?_) #[T,T,T,T,T,T,T,T,T,T,T,T,F,F] rfl rfl (take_ofW HT_.out HW_.out (by kernel_rfl)) (fun _ _ _ h => h) (Or.inl ⟨by rfl, ?_⟩) hHeld ?_ ?_
            rotate_left
            ·rintro w' ⟨s0, s1, s2, s3, s4, s5, s6, s7, s8, s9, xB, yB, zB, AB, BB, CB⟩
             go_simp
             with_reducible rfl
            rotate_left
            ·simp only [Act.put, List.setIfInBounds_toArray, List.set_cons_zero, List.set_cons_succ, i64_w, i32_w]
             rfl
            refine q3_p 12 27 #[T,T,T,T,T,T,T,T,T,T,T,T,T,F] ?_
            refine q3_p 13 28 #[T,T,T,T,T,T,T,T,T,T,T,T,T,T] ?_
            refine done_ (done_of HT_.out (by kernel_rfl)) ?_
            try go_wp2
            go_roundg k2
            case measure => have := HK1.out; have := HK2.out; omega
            case rel => exact ⟨(wrap64 (dA + 1)), q3_5, H', ⟨by have := HK1.out; have := HK2.out; omega⟩, ⟨q3_2⟩, ⟨q3_1⟩, ⟨q3_0⟩⟩
           ·rw [if_neg c12] at H
            have jB : decide (((rd_T89 eA dA).f7) ≤ ((rd_T89 l0 aA).f7)) = false := decide_eq_false c12
            clear c12
            have H' := Aside0.mk H
            clear H
            try go_wp2
            have yA := Aside0.mk (Kd.R_drew fA.out)
            have IA := Aside0.mk (blk_drew bA.out)
            have JA := Aside0.mk (below_drew1 HB.out)
            clear fA bA HB
            have fA := yA
            have bA := IA
            have HB := JA
            clear yA IA JA
            obtain ⟨UB, VB, sB⟩ := Kd.R_slice fA.out
            (first | subst sB | (injection sB with f1_ f2_ f3_; have f4_ := f1_.symm; have f5_ := f3_.symm; clear f1_ f2_ f3_; subst f4_; subst f5_))
            have p127 : 0 ≤ (dA : Int) := of_decide_eq_true q3_4
            have q127 : dA < (eA.length : Int) := of_decide_eq_true q3_4
            obtain ⟨ad127, lB, jA, kA, lA, mA, nA, oA, pA, qA⟩ := at_T89 (Kd.R_reads' fA.out).2.2 dA p127 q127
            cases lB
            replace p127 := eq_true p127
            replace q127 := eq_true q127
            refine start_ (n := 14) (S := fun w' => w'.cell? ⟨cA, 0, none⟩ = some (.int .i64 ((rd_T89 l0 aA).f0)) ∧ w'.cell? ⟨cA, 1, none⟩ = some (.int .i64 ((rd_T89 l0 aA).f1)) ∧ w'.cell? ⟨cA, 2, none⟩ = some (.int .i64 ((rd_T89 l0 aA).f2)) ∧ w'.cell? ⟨cA, 3, none⟩ = some (.int .i64 ((rd_T89 l0 aA).f3)) ∧ w'.cell? ⟨cA, 4, none⟩ = some (.int .i64 ((rd_T89 l0 aA).f4)) ∧ w'.cell? ⟨cA, 5, none⟩ = some (.int .i64 ((rd_T89 l0 aA).f5)) ∧ w'.cell? ⟨cA, 6, none⟩ = some (.int .i64 ((rd_T89 l0 aA).f6)) ∧ w'.cell? ⟨cA, 7, none⟩ = some (.int .i64 ((rd_T89 l0 aA).f7)) ∧ w'.cell? (ad127.add ((dA).toNat * 8)) = some (.int .i64 ((rd_T89 eA dA).f0)) ∧ w'.cell? ⟨(ad127.add ((dA).toNat * 8)).block, (ad127.add ((dA).toNat * 8)).off + 1, none⟩ = some (.int .i64 ((rd_T89 eA dA).f1)) ∧ w'.cell? ⟨(ad127.add ((dA).toNat * 8)).block, (ad127.add ((dA).toNat * 8)).off + 2, none⟩ = some (.int .i64 ((rd_T89 eA dA).f2)) ∧ w'.cell? ⟨(ad127.add ((dA).toNat * 8)).block, (ad127.add ((dA).toNat * 8)).off + 3, none⟩ = some (.int .i64 ((rd_T89 eA dA).f3)) ∧ w'.cell? ⟨(ad127.add ((dA).toNat * 8)).block, (ad127.add ((dA).toNat * 8)).off + 4, none⟩ = some (.int .i64 ((rd_T89 eA dA).f4)) ∧ w'.cell? ⟨(ad127.add ((dA).toNat * 8)).block, (ad127.add ((dA).toNat * 8)).off + 5, none⟩ = some (.int .i64 ((rd_T89 eA dA).f5)) ∧ w'.cell? ⟨(ad127.add ((dA).toNat * 8)).block, (ad127.add ((dA).toNat * 8)).off + 6, none⟩ = some (.int .i64 ((rd_T89 eA dA).f6)) ∧ w'.cell? ⟨(ad127.add ((dA).toNat * 8)).block, (ad127.add ((dA).toNat * 8)).off + 7, none⟩ = some (.int .i64 ((rd_T89 eA dA).f7))) (ds := []) #[F,F,F,F,F,F,F,F,F,F,F,F,F,F] (by kernel_rfl) rfl rfl ⟨(blk_cell bA.out 0).trans rfl, (blk_cell bA.out 1).trans rfl, (blk_cell bA.out 2).trans rfl, (blk_cell bA.out 3).trans rfl, (blk_cell bA.out 4).trans rfl, (blk_cell bA.out 5).trans rfl, (blk_cell bA.out 6).trans rfl, (blk_cell bA.out 7).trans rfl, jA, kA, lA, mA, nA, oA, pA, qA⟩ (fun hHeld => ?_); refine with_tabW spec_InTime.tab6 spec_InTime.bits6 (fun HT_ HW_ => ?_)
            generalize wr.drew = aC at fA bA HB jA kA lA mA nA oA pA qA hHeld ⊢
            refine q3_p 0 15 #[T,F,F,F,F,F,F,F,F,F,F,F,F,F] ?_
            refine q3_p 1 16 #[T,T,F,F,F,F,F,F,F,F,F,F,F,F] ?_
            refine q3_p 2 17 #[T,T,T,F,F,F,F,F,F,F,F,F,F,F] ?_
            refine q3_p 3 18 #[T,T,T,T,F,F,F,F,F,F,F,F,F,F] ?_
            refine q3_p 4 19 #[T,T,T,T,T,F,F,F,F,F,F,F,F,F] ?_
            refine q3_p 5 20 #[T,T,T,T,T,T,F,F,F,F,F,F,F,F] ?_
            refine q3_p 6 21 #[T,T,T,T,T,T,T,F,F,F,F,F,F,F] ?_
            refine q3_p 7 22 #[T,T,T,T,T,T,T,T,F,F,F,F,F,F] ?_
            refine q3_p 8 23 #[T,T,T,T,T,T,T,T,T,F,F,F,F,F] ?_
            refine q3_p 10 25 #[T,T,T,T,T,T,T,T,T,F,T,F,F,F] ?_
            refine take_ (i := 9) (N := some 24) (v := ?_) (a' := ?_) #[T,T,T,T,T,T,T,T,T,T,T,F,F,F] rfl rfl (take_ofW HT_.out HW_.out (by kernel_rfl)) (fun _ _ _ h => h) (Or.inl ⟨by rfl, ?_⟩) hHeld ?_ ?_
            rotate_left
            ·rintro w' ⟨s0, s1, s2, s3, s4, s5, s6, s7, s8, s9, xB, yB, zB, AB, BB, CB⟩
             go_simp
             with_reducible rfl
            rotate_left
            ·simp only [Act.put, List.setIfInBounds_toArray, List.set_cons_zero, List.set_cons_succ, i64_w, i32_w]
             rfl
            refine take_ (i := 11) (N := some 26) (v := ?_) (a' := ?_) #[T,T,T,T,T,T,T,T,T,T,T,T,F,F] rfl rfl (take_ofW HT_.out HW_.out (by kernel_rfl)) (fun _ _ _ h => h) (Or.inl ⟨by rfl, ?_⟩) hHeld ?_ ?_
            rotate_left
            ·rintro w' ⟨s0, s1, s2, s3, s4, s5, s6, s7, s8, s9, xB, yB, zB, AB, BB, CB⟩
             go_simp
             with_reducible rfl
            rotate_left
            ·simp only [Act.put, List.setIfInBounds_toArray, List.set_cons_zero, List.set_cons_succ, i64_w, i32_w]
             rfl
            refine q3_p 12 27 #[T,T,T,T,T,T,T,T,T,T,T,T,T,F] ?_
            refine q3_p 13 28 #[T,T,T,T,T,T,T,T,T,T,T,T,T,T] ?_
            refine done_ (done_of HT_.out (by kernel_rfl)) ?_
            try go_wp2
            go_meet
            case rel => exact ⟨_, (dA), q3_5, H', ⟨by have := HK1.out; have := HK2.out; first | omega | exact Nat.le_refl _⟩, ⟨q3_2⟩, ⟨q3_1⟩, ⟨q3_0⟩⟩
          ·rw [if_neg c11] at H
           exact absurd H (by simp)
         ·rw [if_neg c10] at H
          have KA : decide (dA < (eA.length : Int)) = false := decide_eq_false c10
          clear c10
          (first | rw [KA] | (simp only [i64_w, i32_w]; rw [KA]) | skip)
          have H' := Aside0.mk H
          clear H
          try go_wp2
          have yA := Aside0.mk (Kd.R_drew fA.out)
          have IA := Aside0.mk (blk_drew bA.out)
          have JA := Aside0.mk (below_drew1 HB.out)
          clear fA bA HB
          have fA := yA
          have bA := IA
          have HB := JA
          clear yA IA JA
          obtain ⟨WB, XB, tB⟩ := Kd.R_slice fA.out
          (first | subst tB | (injection tB with f1_ f2_ f3_; have f4_ := f1_.symm; have f5_ := f3_.symm; clear f1_ f2_ f3_; subst f4_; subst f5_))
          refine start_ (n := 14) (S := fun w' => True) (ds := []) #[F,F,F,F,F,F,F,F,F,F,F,F,F,F] (by kernel_rfl) rfl rfl trivial (fun hHeld => ?_); refine with_tabW spec_InTime.tab6 spec_InTime.bits6 (fun HT_ HW_ => ?_)
          generalize wr.drew = bC at fA bA HB hHeld ⊢
          refine q3_p 0 15 #[T,F,F,F,F,F,F,F,F,F,F,F,F,F] ?_
          refine q3_p 1 16 #[T,T,F,F,F,F,F,F,F,F,F,F,F,F] ?_
          refine q3_p 2 17 #[T,T,T,F,F,F,F,F,F,F,F,F,F,F] ?_
          refine q3_p 3 18 #[T,T,T,T,F,F,F,F,F,F,F,F,F,F] ?_
          refine q3_p 4 19 #[T,T,T,T,T,F,F,F,F,F,F,F,F,F] ?_
          refine q3_u 5 20 #[T,T,T,T,T,T,F,F,F,F,F,F,F,F] ?_
          refine q3_u 6 21 #[T,T,T,T,T,T,T,F,F,F,F,F,F,F] ?_
          refine q3_u 7 22 #[T,T,T,T,T,T,T,T,F,F,F,F,F,F] ?_
          refine q3_u 8 23 #[T,T,T,T,T,T,T,T,T,F,F,F,F,F] ?_
          refine q3_u 9 24 #[T,T,T,T,T,T,T,T,T,T,F,F,F,F] ?_
          refine q3_u 10 25 #[T,T,T,T,T,T,T,T,T,T,T,F,F,F] ?_
          refine q3_u 11 26 #[T,T,T,T,T,T,T,T,T,T,T,T,F,F] ?_
          refine q3_u 12 27 #[T,T,T,T,T,T,T,T,T,T,T,T,T,F] ?_
          refine q3_p 13 28 #[T,T,T,T,T,T,T,T,T,T,T,T,T,T] ?_
          refine done_ (done_of HT_.out (by kernel_rfl)) ?_
          try go_wp2
          go_meet
          case rel => exact ⟨_, (dA), q3_5, H', ⟨by have := HK1.out; have := HK2.out; first | omega | exact Nat.le_refl _⟩, ⟨q3_2⟩, ⟨q3_1⟩, ⟨q3_0⟩⟩
      case rest =>
       clear HC7
       (try clear c1); (try clear p1); (try clear q1); (try clear hx1); (try clear p2); (try clear c4); (try clear kB); (try clear c5); (try clear oB); (try clear c6); (try clear pB); (try clear p6); (try clear c10); (try clear KA); (try clear c11); (try clear qB); (try clear c12); (try clear jB); (try clear p12); (try clear q12); (try clear hx12); (try clear PA); (try clear QA); (try clear RA); (try clear SA); (try clear TA); (try clear UA); (try clear VA); (try clear WA); (try clear XA); (try clear YA); (try clear ZA); (try clear bB); (try clear cB); (try clear dB); (try clear eB); (try clear fB); (try clear zA); (try clear AA); (try clear BA); (try clear CA); (try clear DA); (try clear EA); (try clear FA); (try clear GA); (try clear jA); (try clear kA); (try clear lA); (try clear mA); (try clear nA); (try clear oA); (try clear pA); (try clear qA); (try clear p1); (try clear p125); (try clear p127); (try clear p2); (try clear q1); (try clear q125); (try clear q127)
       obtain ⟨kq, gA, rfl, HA, HJ6, fA, bA, HB⟩ := hcut
       cases kq with
       | zero => exact absurd HA.out (by simp [spec_InTime.j2])
       | succ kj6 =>
        have H := HA.out
        clear HA
        simp only [spec_InTime.j2] at H
        obtain ⟨y128, hy128⟩ : ∃ y_ : List (S89), y_ = (([] : List (S89))) := ⟨_, rfl⟩
        replace H : (if 0 ≤ gA then (if gA ≤ (eA.length : Int) then ((some (eA.drop (gA : Int).toNat : List (S89))).bind fun y131 => (if y128.length + y131.length < 2199023255552 then ((some (y128 ++ y131 : List (S89))).bind fun y135 => ((some (eA.take (gA : Int).toNat : List (S89))).bind fun y138 => (if y138.length < 2199023255552 then ((some (y138 ++ [(⟨((rd_T89 l0 aA).f0), ((rd_T89 l0 aA).f1), ((rd_T89 l0 aA).f2), ((rd_T89 l0 aA).f3), ((rd_T89 l0 aA).f4), ((rd_T89 l0 aA).f5), ((rd_T89 l0 aA).f6), ((rd_T89 l0 aA).f7)⟩ : S89)] : List (S89))).bind fun y141 => (if y141.length + y135.length < 2199023255552 then (spec_InTime.l0 kj6 (y141 ++ y135) l0 (l0.length : Int) (wrap64 (aA + 1))) else (none))) else (none)))) else (none))) else (none)) else (none)) = some r := by first | (rw [hy128]; with_reducible exact H) | (have H2_ := (Option.bind_some _ _).symm.trans H; rw [hy128]; with_reducible exact H2_) | (have H2_ := (Option.bind_some _ _).symm.trans H; with_reducible exact H2_) | with_reducible exact H | (rw [hy128]; exact H) | exact H
        have Ny128 := Aside0.mk hy128
        clear hy128
        by_cases c19 : 0 ≤ gA
        ·rw [if_pos c19] at H
         have LB := eq_true c19
         have MB : decide (0 ≤ gA) = true := decide_eq_true c19
         clear c19
         by_cases c20 : gA ≤ (eA.length : Int)
         ·rw [if_pos c20] at H
          have NB := eq_true c20
          have OB : decide (gA ≤ (eA.length : Int)) = true := decide_eq_true c20
          clear c20
          obtain ⟨y131, hy131⟩ : ∃ y_ : List (S89), y_ = (eA.drop (gA : Int).toNat) := ⟨_, rfl⟩
          replace H : (if y128.length + y131.length < 2199023255552 then ((some (y128 ++ y131 : List (S89))).bind fun y135 => ((some (eA.take (gA : Int).toNat : List (S89))).bind fun y138 => (if y138.length < 2199023255552 then ((some (y138 ++ [(⟨((rd_T89 l0 aA).f0), ((rd_T89 l0 aA).f1), ((rd_T89 l0 aA).f2), ((rd_T89 l0 aA).f3), ((rd_T89 l0 aA).f4), ((rd_T89 l0 aA).f5), ((rd_T89 l0 aA).f6), ((rd_T89 l0 aA).f7)⟩ : S89)] : List (S89))).bind fun y141 => (if y141.length + y135.length < 2199023255552 then (spec_InTime.l0 kj6 (y141 ++ y135) l0 (l0.length : Int) (wrap64 (aA + 1))) else (none))) else (none)))) else (none)) = some r := by first | (rw [hy131]; with_reducible exact H) | (have H2_ := (Option.bind_some _ _).symm.trans H; rw [hy131]; with_reducible exact H2_) | (have H2_ := (Option.bind_some _ _).symm.trans H; with_reducible exact H2_) | with_reducible exact H | (rw [hy131]; exact H) | exact H
          have Ny131 := Aside0.mk hy131
          clear hy131
          by_cases c21 : y128.length + y131.length < 2199023255552
          ·rw [if_pos c21] at H
           have LMc21 := Aside0.mk c21
           clear c21
           obtain ⟨y135, hy135⟩ : ∃ y_ : List (S89), y_ = (y128 ++ y131) := ⟨_, rfl⟩
           replace H : ((some (eA.take (gA : Int).toNat : List (S89))).bind fun y138 => (if y138.length < 2199023255552 then ((some (y138 ++ [(⟨((rd_T89 l0 aA).f0), ((rd_T89 l0 aA).f1), ((rd_T89 l0 aA).f2), ((rd_T89 l0 aA).f3), ((rd_T89 l0 aA).f4), ((rd_T89 l0 aA).f5), ((rd_T89 l0 aA).f6), ((rd_T89 l0 aA).f7)⟩ : S89)] : List (S89))).bind fun y141 => (if y141.length + y135.length < 2199023255552 then (spec_InTime.l0 kj6 (y141 ++ y135) l0 (l0.length : Int) (wrap64 (aA + 1))) else (none))) else (none))) = some r := by first | (rw [hy135]; with_reducible exact H) | (have H2_ := (Option.bind_some _ _).symm.trans H; rw [hy135]; with_reducible exact H2_) | (have H2_ := (Option.bind_some _ _).symm.trans H; with_reducible exact H2_) | with_reducible exact H | (rw [hy135]; exact H) | exact H
           have Ny135 := Aside0.mk hy135
           clear hy135
           have PB := eq_true (of_decide_eq_true q3_4 : gA ≤ (eA.length : Int))
           obtain ⟨y138, hy138⟩ : ∃ y_ : List (S89), y_ = (eA.take (gA : Int).toNat) := ⟨_, rfl⟩
           replace H : (if y138.length < 2199023255552 then ((some (y138 ++ [(⟨((rd_T89 l0 aA).f0), ((rd_T89 l0 aA).f1), ((rd_T89 l0 aA).f2), ((rd_T89 l0 aA).f3), ((rd_T89 l0 aA).f4), ((rd_T89 l0 aA).f5), ((rd_T89 l0 aA).f6), ((rd_T89 l0 aA).f7)⟩ : S89)] : List (S89))).bind fun y141 => (if y141.length + y135.length < 2199023255552 then (spec_InTime.l0 kj6 (y141 ++ y135) l0 (l0.length : Int) (wrap64 (aA + 1))) else (none))) else (none)) = some r := by first | (rw [hy138]; with_reducible exact H) | (have H2_ := (Option.bind_some _ _).symm.trans H; rw [hy138]; with_reducible exact H2_) | (have H2_ := (Option.bind_some _ _).symm.trans H; with_reducible exact H2_) | with_reducible exact H | (rw [hy138]; exact H) | exact H
           have Ny138 := Aside0.mk hy138
           clear hy138
           by_cases c23 : y138.length < 2199023255552
           ·rw [if_pos c23] at H
            have LMc23 := Aside0.mk c23
            clear c23
            obtain ⟨y141, hy141⟩ : ∃ y_ : List (S89), y_ = (y138 ++ [(⟨((rd_T89 l0 aA).f0), ((rd_T89 l0 aA).f1), ((rd_T89 l0 aA).f2), ((rd_T89 l0 aA).f3), ((rd_T89 l0 aA).f4), ((rd_T89 l0 aA).f5), ((rd_T89 l0 aA).f6), ((rd_T89 l0 aA).f7)⟩ : S89)]) := ⟨_, rfl⟩
            replace H : (if y141.length + y135.length < 2199023255552 then (spec_InTime.l0 kj6 (y141 ++ y135) l0 (l0.length : Int) (wrap64 (aA + 1))) else (none)) = some r := by first | (rw [hy141]; with_reducible exact H) | (have H2_ := (Option.bind_some _ _).symm.trans H; rw [hy141]; with_reducible exact H2_) | (have H2_ := (Option.bind_some _ _).symm.trans H; with_reducible exact H2_) | with_reducible exact H | (rw [hy141]; exact H) | exact H
            have Ny141 := Aside0.mk hy141
            clear hy141
            by_cases c24 : y141.length + y135.length < 2199023255552
            ·rw [if_pos c24] at H
             have LMc24 := Aside0.mk c24
             clear c24
             obtain ⟨y144, hy144⟩ : ∃ y_ : List (S89), y_ = (y141 ++ y135) := ⟨_, rfl⟩
             replace H : (spec_InTime.l0 kj6 y144 l0 (l0.length : Int) (wrap64 (aA + 1))) = some r := by first | (rw [hy144]; with_reducible exact H) | (have H2_ := (Option.bind_some _ _).symm.trans H; rw [hy144]; with_reducible exact H2_) | (have H2_ := (Option.bind_some _ _).symm.trans H; with_reducible exact H2_) | with_reducible exact H | (rw [hy144]; exact H) | exact H
             have Ny144 := Aside0.mk hy144
             clear hy144
             have H' := Aside0.mk H
             clear H
             try go_wp2_with (first | ((with_reducible refine gate_dst (N := 31) rfl ?_); refine Kd.R_lit k89 _ 89 ?hg (N := 31) ?hd (xs := ([] : List (S89))) (inner := []) (ok := fun _ => True) (okp := fun _ => True) ?hr ?hp (fun _ hk => hk) trivial (Below.refl _ _) (Nat.le_refl _) (by simp) ?_; (case hd => rfl); (case hg => rfl); (case hr => first | (go_simp; done) | (go_simp; rfl)); (case hp => exact (Reps.none _ _)); intro DB cC ho26 hb hg_ hnew_; clear hg_ hnew_; (first | rw [← Ny128.out] at ho26 | (simp only [Int.reduceToNat] at ho26; rw [← Ny128.out] at ho26)); have yA := Aside0.mk (Kd.R_elder' q3_2 (Kd.R_base ho26) hb); have IA := Aside0.mk (Kd.R_lower (Kd.R_newB (Kd.R_new' ho26 (Kd.R_lt q3_2)) (g := cA) (o := .cells #[.int .i64 ((rd_T89 l0 aA).f0), .int .i64 ((rd_T89 l0 aA).f1), .int .i64 ((rd_T89 l0 aA).f2), .int .i64 ((rd_T89 l0 aA).f3), .int .i64 ((rd_T89 l0 aA).f4), .int .i64 ((rd_T89 l0 aA).f5), .int .i64 ((rd_T89 l0 aA).f6), .int .i64 ((rd_T89 l0 aA).f7)] 89 (0, 0)) q3_1) (below_size q3_0)); have JA := Aside0.mk (blk_below (g := cA) (o := .cells #[.int .i64 ((rd_T89 l0 aA).f0), .int .i64 ((rd_T89 l0 aA).f1), .int .i64 ((rd_T89 l0 aA).f2), .int .i64 ((rd_T89 l0 aA).f3), .int .i64 ((rd_T89 l0 aA).f4), .int .i64 ((rd_T89 l0 aA).f5), .int .i64 ((rd_T89 l0 aA).f6), .int .i64 ((rd_T89 l0 aA).f7)] 89 (0, 0)) q3_1 hb); have MA := Aside0.mk (below_step q3_0 hb); clear fA bA HB; have fA := yA; have gB := IA; have bA := JA; have HB := MA; clear yA IA JA MA; clear hb ho26; obtain ⟨NA, LA, EB⟩ := Kd.R_slice fA.out; subst EB; have q27 : (gA : Int) ≤ ((eA.length : Int) : Int) := of_decide_eq_true q3_4; obtain ⟨i027, hi027, _, hsz27, _⟩ := info_parts info89; have hroom27 : eA.length ≤ LA := (Kd.R_reads' fA.out).2.1; have hC27 : Kd.C k89 _ NA eA.length eA := (Kd.R_reads' fA.out).2.2; have q027 : (0 : Int) ≤ (gA : Int) := of_decide_eq_true q3_4; have hcut27 := cut_from (P := Try.prog) 60 89 .i64 Try.underlying60 hi027 8 hsz27 NA eA.length LA gA q027 q27; have hr27 := Kd.C_drop (m := (gA : Int).toNat) (c := LA) hC27 (by omega) hroom27; obtain ⟨A27, hA27⟩ : ∃ A1, A1 = (if LA = (gA : Int).toNat then NA else (NA : Option Addr).map (·.add ((gA : Int).toNat * 8))) := ⟨_, rfl⟩; obtain ⟨c27, hc27⟩ : ∃ c1, c1 = LA - (gA : Int).toNat := ⟨_, rfl⟩; have hy27 : y131.length = eA.length - (gA : Int).toNat := (by rw [Ny131.out, List.length_drop] <;> omega); rw [show (eA).drop (gA : Int).toNat = y131 from Ny131.out.symm] at hr27; replace hr27 : Kd.C k89 _ A27 y131.length y131 := (by rw [hA27]; exact hr27); rw [← hy27, ← hA27, ← hc27] at hcut27; have HR134 := Aside0.mk hr27; have HC134 := Aside0.mk (show y131.length ≤ c27 from by rw [hy27, hc27]; exact Nat.sub_le_sub_right hroom27 _); clear hr27 hC27 hroom27 hi027 hsz27 hc27; have KY27 := Aside0.mk hy27; have KA27 := Aside0.mk hA27; clear hy27 hA27; have KL27 := Aside0.mk (show (gA : Int).toNat ≤ eA.length from by omega); replace q27 := eq_true q27) | ((with_reducible refine gate_builtin (b := .append) (xs := #[.tmp 31, .tmp 34]) rfl ?_); at_builtin; refine Kd.R_append_rows k89 (w0 := w) w.heap.size rfl (.tmp 31) (.tmp 34) 60 89 (.agg #[(.int .i64 0), (.int .i64 0), (.int .i64 0), (.int .i64 0), (.int .i64 0), (.int .i64 0), (.int .i64 0), (.int .i64 0)]) 64 rfl Try.underlying60 info89 rfl (by decide) (by omega) DB y128 y131 _ _ _ (fun k_ => some k_ ≠ (.slice NA eA.length LA : Value).ownBlock ∧ k_ ≠ cA) (fun _ => False) rfl rfl ?aO ?aR (fun _ _ h => h) (fun _ h => h.elim) ?aF ?aB ?aS ?aL ?_; (case aR => repeat (first | exact (by repeat (first | (with_reducible exact HR134.out) | (with_reducible refine Kd.C_alloc ?_ _) | (with_reducible refine Kd.C_drewN ?_ _) | (with_reducible refine Kd.C_drew ?_) | exact HR134.out)) | (with_reducible refine Kd.C_alloc ?_ _) | (with_reducible refine Kd.C_drewN ?_ _) | (with_reducible refine Kd.C_drew ?_))); (case aB => exact q3_0); (case aF => exact (fun k_ hk => ⟨Kd.fresh' (Kd.R_lt q3_2) k_ hk, Kd.freshB (g := cA) (o := .cells #[.int .i64 ((rd_T89 l0 aA).f0), .int .i64 ((rd_T89 l0 aA).f1), .int .i64 ((rd_T89 l0 aA).f2), .int .i64 ((rd_T89 l0 aA).f3), .int .i64 ((rd_T89 l0 aA).f4), .int .i64 ((rd_T89 l0 aA).f5), .int .i64 ((rd_T89 l0 aA).f6), .int .i64 ((rd_T89 l0 aA).f7)] 89 (0, 0)) q3_1 k_ hk⟩)); (case aO => exact (by (with_reducible repeat (first | apply Kd.R_alloc | apply Kd.R_drewN | apply Kd.R_drew)); exact Kd.R_mono gB.out (fun _ hk => ⟨hk.1.2, hk.2⟩))); (case aS => exact (below_size q3_0)); (case aL => have := LMc21.out; omega); intro FB QB ho hb hg hat; rw [← Ny135.out] at ho; have yA := Aside0.mk (Kd.R_after (ok := (fun k_ => k_ ≠ cA)) q3_2 hg hat); have IA := Aside0.mk (blk_grown (g := cA) (o := .cells #[.int .i64 ((rd_T89 l0 aA).f0), .int .i64 ((rd_T89 l0 aA).f1), .int .i64 ((rd_T89 l0 aA).f2), .int .i64 ((rd_T89 l0 aA).f3), .int .i64 ((rd_T89 l0 aA).f4), .int .i64 ((rd_T89 l0 aA).f5), .int .i64 ((rd_T89 l0 aA).f6), .int .i64 ((rd_T89 l0 aA).f7)] 89 (0, 0)) q3_1 hg (Kd.R_away gB.out (fun _ hk => hk.2))); have JA := Aside0.mk (hb); have MA := Aside0.mk ((show Kd.C k89 QB A27 y131.length y131 from by rw [Ny131.out, KA27.out]; exact Kd.C_drop (m := (gA : Int).toNat) (c := LA) ((Kd.R_reads' (Kd.R_after (ok := (fun k_ => k_ ≠ cA)) q3_2 hg hat)).2.2) KL27.out ((Kd.R_reads' (Kd.R_after (ok := (fun k_ => k_ ≠ cA)) q3_2 hg hat)).2.1))); have iB := Aside0.mk (ho); clear fA bA HB HR134 gB; have fA := yA; have bA := IA; have HB := JA; have HR134 := MA; have hA := iB; clear yA IA JA MA iB; clear ho hb hg hat))
             have yA := Aside0.mk (Kd.R_drew fA.out)
             have IA := Aside0.mk (Kd.R_drew hA.out)
             have JA := Aside0.mk (blk_drew bA.out)
             have MA := Aside0.mk (Kd.C_drew HR134.out)
             have iB := Aside0.mk (below_drew1 HB.out)
             clear fA hA bA HR134 HB
             have fA := yA
             have hA := IA
             have bA := JA
             have HR134 := MA
             have HB := iB
             clear yA IA JA MA iB
             have q31 : (gA : Int) ≤ ((eA.length : Int) : Int) := of_decide_eq_true q3_4
             obtain ⟨i031, hi031, _, hsz31, _⟩ := info_parts info89
             have hcut31 := cut_to (P := Try.prog) 60 89 .i64 Try.underlying60 hi031 NA eA.length LA gA (of_decide_eq_true q3_4) q31 (Kd.R_reads' fA.out).2.1
             have hr31 := Kd.R_take (m := (gA : Int).toNat) fA.out (by omega)
             have hy31 : y138.length = (gA : Int).toNat := (by rw [Ny138.out, List.length_take]; omega)
             rw [← Ny138.out] at hr31
             rw [← hy31] at hr31 hcut31
             clear hy31 hi031 hsz31 fA
             have OA := Aside0.mk hr31
             clear hr31
             replace q31 := eq_true q31
             refine start_ (n := 9) (S := fun w' => w'.cell? ⟨cA, 0, none⟩ = some (.int .i64 ((rd_T89 l0 aA).f0)) ∧ w'.cell? ⟨cA, 1, none⟩ = some (.int .i64 ((rd_T89 l0 aA).f1)) ∧ w'.cell? ⟨cA, 2, none⟩ = some (.int .i64 ((rd_T89 l0 aA).f2)) ∧ w'.cell? ⟨cA, 3, none⟩ = some (.int .i64 ((rd_T89 l0 aA).f3)) ∧ w'.cell? ⟨cA, 4, none⟩ = some (.int .i64 ((rd_T89 l0 aA).f4)) ∧ w'.cell? ⟨cA, 5, none⟩ = some (.int .i64 ((rd_T89 l0 aA).f5)) ∧ w'.cell? ⟨cA, 6, none⟩ = some (.int .i64 ((rd_T89 l0 aA).f6)) ∧ w'.cell? ⟨cA, 7, none⟩ = some (.int .i64 ((rd_T89 l0 aA).f7))) (ds := []) #[F,F,F,F,F,F,F,F,F] (by kernel_rfl) rfl rfl ⟨(blk_cell bA.out 0).trans rfl, (blk_cell bA.out 1).trans rfl, (blk_cell bA.out 2).trans rfl, (blk_cell bA.out 3).trans rfl, (blk_cell bA.out 4).trans rfl, (blk_cell bA.out 5).trans rfl, (blk_cell bA.out 6).trans rfl, (blk_cell bA.out 7).trans rfl⟩ (fun hHeld => ?_); refine with_tabW spec_InTime.tab9 spec_InTime.bits9 (fun HT_ HW_ => ?_)
             generalize QB.drew = dC at fA hA bA HR134 HB OA hHeld ⊢
             refine q3_p 0 36 #[T,F,F,F,F,F,F,F,F] ?_
             refine q3_p 1 37 #[T,T,F,F,F,F,F,F,F] ?_
             refine q3_p 2 38 #[T,T,T,F,F,F,F,F,F] ?_
             refine q3_p 6 42 #[T,T,T,F,F,F,T,F,F] ?_
             refine take_ (i := 3) (N := some 39) (v := ?_) (a' := ?_) #[T,T,T,T,F,F,T,F,F] rfl rfl (take_ofW HT_.out HW_.out (by kernel_rfl)) (fun _ _ _ h => h) (Or.inl ⟨by rfl, ?_⟩) hHeld ?_ ?_
             rotate_left
             ·rintro w' ⟨s0, s1, s2, s3, s4, s5, s6, s7⟩
              go_simp
              with_reducible rfl
             rotate_left
             ·simp only [Act.put, List.setIfInBounds_toArray, List.set_cons_zero, List.set_cons_succ, i64_w, i32_w]
              rfl
             refine one_ (i := 4) (N := some 40) #[T,T,T,T,T,F,T,F,F] rfl rfl (one_of HT_.out (by kernel_rfl)) (by decide) (fun K hK => ?_)
             refine value_ (w1 := ?_) (v := ?_) (by rfl) rfl ?_ ?_
             rotate_left 2
             ·go_simp
              constructor
              ·rfl
              ·rfl
             refine hK.out _ _ ⟨(blk_cell (blk_alloc bA.out _) 0).trans rfl, (blk_cell (blk_alloc bA.out _) 1).trans rfl, (blk_cell (blk_alloc bA.out _) 2).trans rfl, (blk_cell (blk_alloc bA.out _) 3).trans rfl, (blk_cell (blk_alloc bA.out _) 4).trans rfl, (blk_cell (blk_alloc bA.out _) 5).trans rfl, (blk_cell (blk_alloc bA.out _) 6).trans rfl, (blk_cell (blk_alloc bA.out _) 7).trans rfl⟩ (fun hHeld => ?_)
             clear hK K
             refine norm_ (a' := ?_) ?_ ?_
             rotate_left
             ·show Act.put _ (some 40) _ = _
              simp only [Act.put, List.setIfInBounds_toArray, List.set_cons_zero, List.set_cons_succ, i64_w, i32_w]
              rfl
             refine one_ (i := 5) (N := some 41) #[T,T,T,T,T,T,T,F,F] rfl rfl (one_of HT_.out (by kernel_rfl)) (by decide) (fun K hK => ?_)
             refine Kd.R_append_step k89 (w0 := w) w.heap.size (by rfl) (.tmp 38) (.tmp 40) 60 89 (.agg #[(.int .i64 0), (.int .i64 0), (.int .i64 0), (.int .i64 0), (.int .i64 0), (.int .i64 0), (.int .i64 0), (.int .i64 0)]) 64 rfl Try.underlying60 info89 rfl (by decide) (by omega) (.slice NA y138.length LA) y138 (⟨((rd_T89 l0 aA).f0), ((rd_T89 l0 aA).f1), ((rd_T89 l0 aA).f2), ((rd_T89 l0 aA).f3), ((rd_T89 l0 aA).f4), ((rd_T89 l0 aA).f5), ((rd_T89 l0 aA).f6), ((rd_T89 l0 aA).f7)⟩ : S89) [.int .i64 ((rd_T89 l0 aA).f0), .int .i64 ((rd_T89 l0 aA).f1), .int .i64 ((rd_T89 l0 aA).f2), .int .i64 ((rd_T89 l0 aA).f3), .int .i64 ((rd_T89 l0 aA).f4), .int .i64 ((rd_T89 l0 aA).f5), .int .i64 ((rd_T89 l0 aA).f6), .int .i64 ((rd_T89 l0 aA).f7)] (fun k_ => some k_ ≠ (FB : Value).ownBlock ∧ k_ ≠ cA) (fun _ => False) rfl rfl ?aP (fun _ hk => hk.elim) ?aF ?aO ?aB ?aS ?aL ?_
             (case aP => exact k89_mkM _ _ _ (⟨((rd_T89 l0 aA).f0), ((rd_T89 l0 aA).f1), ((rd_T89 l0 aA).f2), ((rd_T89 l0 aA).f3), ((rd_T89 l0 aA).f4), ((rd_T89 l0 aA).f5), ((rd_T89 l0 aA).f6), ((rd_T89 l0 aA).f7)⟩ : S89))
             (case aB => exact q3_0)
             (case aF => exact (fun k_ hk => ⟨Kd.fresh' (Kd.R_lt (by (with_reducible repeat (first | apply Kd.R_alloc | apply Kd.R_drewN | apply Kd.R_drew)); exact hA.out)) k_ hk, Kd.freshB (g := cA) (o := .cells #[.int .i64 ((rd_T89 l0 aA).f0), .int .i64 ((rd_T89 l0 aA).f1), .int .i64 ((rd_T89 l0 aA).f2), .int .i64 ((rd_T89 l0 aA).f3), .int .i64 ((rd_T89 l0 aA).f4), .int .i64 ((rd_T89 l0 aA).f5), .int .i64 ((rd_T89 l0 aA).f6), .int .i64 ((rd_T89 l0 aA).f7)] 89 (0, 0)) q3_1 k_ hk⟩))
             (case aO => exact (by (with_reducible repeat (first | apply Kd.R_alloc | apply Kd.R_drewN | apply Kd.R_drew)); exact Kd.R_mono OA.out (fun _ hk => ⟨hk.2, hk.1⟩)))
             (case aS => exact (below_size q3_0))
             (case aL => have := LMc23.out; omega)
             intro GB eC ho hb hg hat
             rw [← Ny141.out] at ho
             have yA := Aside0.mk (blk_grown (g := cA) (o := .cells #[.int .i64 ((rd_T89 l0 aA).f0), .int .i64 ((rd_T89 l0 aA).f1), .int .i64 ((rd_T89 l0 aA).f2), .int .i64 ((rd_T89 l0 aA).f3), .int .i64 ((rd_T89 l0 aA).f4), .int .i64 ((rd_T89 l0 aA).f5), .int .i64 ((rd_T89 l0 aA).f6), .int .i64 ((rd_T89 l0 aA).f7)] 89 (0, 0)) q3_1 hg (Kd.R_away OA.out (fun _ hk => hk.1)))
             have IA := Aside0.mk (Kd.R_after (ok := (fun k_ => k_ ≠ cA)) (by (with_reducible repeat (first | apply Kd.R_alloc | apply Kd.R_drewN | apply Kd.R_drew)); exact Kd.R_mono hA.out (fun _ hk => ⟨hk.2, by have h_ := hk.1; first | exact h_ | (cases NA <;> exact h_)⟩)) hg hat)
             have JA := Aside0.mk (hb)
             have MA := Aside0.mk (ho)
             clear bA hA HB OA
             have bA := yA
             have hA := IA
             have HB := JA
             have hB := MA
             clear yA IA JA MA ho hb hg hat
             obtain ⟨IB, JB, uB⟩ := Kd.R_slice hA.out
             (first | subst uB | (injection uB with f1_ f2_ f3_; have f4_ := f1_.symm; have f5_ := f3_.symm; clear f1_ f2_ f3_; subst f4_; subst f5_))
             refine hK.out _ _ ⟨(blk_cell bA.out 0).trans rfl, (blk_cell bA.out 1).trans rfl, (blk_cell bA.out 2).trans rfl, (blk_cell bA.out 3).trans rfl, (blk_cell bA.out 4).trans rfl, (blk_cell bA.out 5).trans rfl, (blk_cell bA.out 6).trans rfl, (blk_cell bA.out 7).trans rfl⟩ (fun hHeld => ?_)
             clear hK K
             refine norm_ (a' := ?_) ?_ ?_
             rotate_left
             ·show Act.put _ (some 41) _ = _
              simp only [Act.put, List.setIfInBounds_toArray, List.set_cons_zero, List.set_cons_succ, i64_w, i32_w]
              rfl
             refine one_ (i := 7) (N := some 43) #[T,T,T,T,T,T,T,T,F] rfl rfl (one_of HT_.out (by kernel_rfl)) (by decide) (fun K hK => ?_)
             refine Kd.R_append_rows_step k89 (w0 := w) w.heap.size (by rfl) (.tmp 41) (.tmp 42) 60 89 (.agg #[(.int .i64 0), (.int .i64 0), (.int .i64 0), (.int .i64 0), (.int .i64 0), (.int .i64 0), (.int .i64 0), (.int .i64 0)]) 64 rfl Try.underlying60 info89 rfl (by decide) (by omega) GB y141 y135 _ _ _ (fun k_ => some k_ ≠ (.slice IB y135.length JB : Value).ownBlock ∧ k_ ≠ cA) (fun _ => False) rfl rfl ?aO ?aR (fun _ _ h => h) (fun _ h => h.elim) ?aF ?aB ?aS ?aL ?_
             (case aR => repeat (first | exact (Kd.R_reads' hA.out).2.2 | (with_reducible refine Kd.C_alloc ?_ _) | (with_reducible refine Kd.C_drewN ?_ _) | (with_reducible refine Kd.C_drew ?_)))
             (case aB => exact q3_0)
             (case aF => exact (fun k_ hk => ⟨Kd.fresh' (Kd.R_lt (by (with_reducible repeat (first | apply Kd.R_alloc | apply Kd.R_drewN | apply Kd.R_drew)); exact hA.out)) k_ hk, Kd.freshB (g := cA) (o := .cells #[.int .i64 ((rd_T89 l0 aA).f0), .int .i64 ((rd_T89 l0 aA).f1), .int .i64 ((rd_T89 l0 aA).f2), .int .i64 ((rd_T89 l0 aA).f3), .int .i64 ((rd_T89 l0 aA).f4), .int .i64 ((rd_T89 l0 aA).f5), .int .i64 ((rd_T89 l0 aA).f6), .int .i64 ((rd_T89 l0 aA).f7)] 89 (0, 0)) q3_1 k_ hk⟩))
             (case aO => exact (by (with_reducible repeat (first | apply Kd.R_alloc | apply Kd.R_drewN | apply Kd.R_drew)); exact hB.out))
             (case aS => exact (below_size q3_0))
             (case aL => have := LMc24.out; omega)
             intro YB fC ho hb hg hat
             rw [← Ny144.out] at ho
             have yA := Aside0.mk (blk_grown (g := cA) (o := .cells #[.int .i64 ((rd_T89 l0 aA).f0), .int .i64 ((rd_T89 l0 aA).f1), .int .i64 ((rd_T89 l0 aA).f2), .int .i64 ((rd_T89 l0 aA).f3), .int .i64 ((rd_T89 l0 aA).f4), .int .i64 ((rd_T89 l0 aA).f5), .int .i64 ((rd_T89 l0 aA).f6), .int .i64 ((rd_T89 l0 aA).f7)] 89 (0, 0)) q3_1 hg (Kd.R_away hB.out (fun _ hk => hk.2)))
             have JA := Aside0.mk (hb)
             have MA := Aside0.mk (ho)
             clear bA hA HB hB
             have bA := yA
             have HB := JA
             have vB := MA
             clear yA JA MA ho hb hg hat
             refine hK.out _ _ ⟨(blk_cell bA.out 0).trans rfl, (blk_cell bA.out 1).trans rfl, (blk_cell bA.out 2).trans rfl, (blk_cell bA.out 3).trans rfl, (blk_cell bA.out 4).trans rfl, (blk_cell bA.out 5).trans rfl, (blk_cell bA.out 6).trans rfl, (blk_cell bA.out 7).trans rfl⟩ (fun hHeld => ?_)
             clear hK K
             refine norm_ (a' := ?_) ?_ ?_
             rotate_left
             ·show Act.put _ (some 43) _ = _
              simp only [Act.put, List.setIfInBounds_toArray, List.set_cons_zero, List.set_cons_succ, i64_w, i32_w]
              rfl
             refine q3_p 8 3 #[T,T,T,T,T,T,T,T,T] ?_
             refine done_ (done_of HT_.out (by kernel_rfl)) ?_
             try go_wp2
             go_roundg kj6
             case measure => have := HK1.out; have := HJ6.out; omega
             case rel => exact ⟨(y144), (wrap64 (aA + 1)), q3_5, H', ⟨by have := HK1.out; have := HJ6.out; omega⟩, ⟨by (with_reducible repeat (first | apply Kd.R_alloc | apply Kd.R_drewN | apply Kd.R_drew)); exact Kd.R_mono vB.out (fun _ hk => trivial)⟩, ⟨q3_0⟩⟩
            ·rw [if_neg c24] at H
             exact absurd H (by simp)
           ·rw [if_neg c23] at H
            exact absurd H (by simp)
          ·rw [if_neg c21] at H
           exact absurd H (by simp)
         ·rw [if_neg c20] at H
          exact absurd H (by simp)
        ·rw [if_neg c19] at H
         exact absurd H (by simp)
     ·rw [if_neg c6] at H
      exact absurd H (by simp)
    ·rw [if_neg c5] at H
     exact absurd H (by simp)
   ·rw [if_neg c4] at H
    have kB : decide (aA < (l0.length : Int)) = false := decide_eq_false c4
    clear c4
    obtain rfl := Option.some.inj H
    go_wp2
    go_ret
    exact ⟨_, by first | rfl | (simp [errW_none, errW_some] <;> rfl) | (simp [*, errW_none, errW_some] <;> rfl), q3_2, q3_3⟩

end Go.Proofs.Ytgghglocfdcegaa.PFnExactInTime
