-- Written by the session's own patched copy of the printer (wip/patch_print.py).
import Derived.Test.YtndkfjecipjiaaaPFnExactCrewOkx0
import Derived.Test.YtndkfjecipjiaaaPFnExactCrewOkx3
namespace Go.Proofs.Ytndkfjecipjiaaa.PFnExactCrewOk
open Go.RowKit Go.Proofs.YtndkfjecipjiaaaW.PrintWords Go.Proofs.YtndkfjecipjiaaaW.PrintLast Go.Proofs.YtndkfjecipjiaaaW.PrintMore
attribute [local go_sem] max2_int min2_int max_two min_two max_three min_three max_four min_four   -- for this text's walks alone
set_option linter.unusedVariables false
set_option linter.unusedSimpArgs false

theorem q4_0 {p : Prop} (h : p := by repeat (first | (with_reducible first | exact HB.out | apply below_alloc | apply pw_below_drewN | apply below_drew1) | exact HB.out)) : p := h
theorem q4_1 {p : Prop} (h : p := by (with_reducible repeat (first | refine blk_drewN ?_ _ | refine blk_drew ?_ | refine blk_alloc ?_ _)); refine blk_put (cs := #[.int .i64 a0, .int .i64 a1, .int .i64 0, .int .i64 0, .int .i64 0, .int .i64 0, .int .i64 0, .int .i64 0, .int .i64 0, .bool false]) ?_ 9 _ rfl; (with_reducible repeat (first | refine blk_drewN ?_ _ | refine blk_drew ?_ | refine blk_alloc ?_ _)); refine blk_put (cs := #[.int .i64 a0, .int .i64 a1, .int .i64 0, .int .i64 0, .int .i64 0, .int .i64 0, .int .i64 0, .int .i64 0, .int .i64 0, .bool false]) ?_ 8 _ rfl; (with_reducible repeat (first | refine blk_drewN ?_ _ | refine blk_drew ?_ | refine blk_alloc ?_ _)); refine blk_put (cs := #[.int .i64 a0, .int .i64 a1, .int .i64 0, .int .i64 0, .int .i64 0, .int .i64 0, .int .i64 0, .int .i64 0, .int .i64 0, .bool false]) ?_ 7 _ rfl; (with_reducible repeat (first | refine blk_drewN ?_ _ | refine blk_drew ?_ | refine blk_alloc ?_ _)); refine blk_put (cs := #[.int .i64 a0, .int .i64 a1, .int .i64 0, .int .i64 0, .int .i64 0, .int .i64 0, .int .i64 0, .int .i64 0, .int .i64 0, .bool false]) ?_ 6 _ rfl; (with_reducible repeat (first | refine blk_drewN ?_ _ | refine blk_drew ?_ | refine blk_alloc ?_ _)); refine blk_put (cs := #[.int .i64 a0, .int .i64 a1, .int .i64 0, .int .i64 0, .int .i64 0, .int .i64 0, .int .i64 0, .int .i64 0, .int .i64 0, .bool false]) ?_ 5 _ rfl; (with_reducible repeat (first | refine blk_drewN ?_ _ | refine blk_drew ?_ | refine blk_alloc ?_ _)); refine blk_put (cs := #[.int .i64 a0, .int .i64 a1, .int .i64 0, .int .i64 0, .int .i64 0, .int .i64 0, .int .i64 0, .int .i64 0, .int .i64 0, .bool false]) ?_ 4 _ rfl; (with_reducible repeat (first | refine blk_drewN ?_ _ | refine blk_drew ?_ | refine blk_alloc ?_ _)); refine blk_put (cs := #[.int .i64 a0, .int .i64 a1, .int .i64 0, .int .i64 0, .int .i64 0, .int .i64 0, .int .i64 0, .int .i64 0, .int .i64 0, .bool false]) ?_ 3 _ rfl; (with_reducible repeat (first | refine blk_drewN ?_ _ | refine blk_drew ?_ | refine blk_alloc ?_ _)); refine blk_put (cs := #[.int .i64 a0, .int .i64 a1, .int .i64 0, .int .i64 0, .int .i64 0, .int .i64 0, .int .i64 0, .int .i64 0, .int .i64 0, .bool false]) ?_ 2 _ rfl; (with_reducible repeat (first | refine blk_drewN ?_ _ | refine blk_drew ?_ | refine blk_alloc ?_ _)); refine blk_put (cs := #[.int .i64 a0, .int .i64 0, .int .i64 0, .int .i64 0, .int .i64 0, .int .i64 0, .int .i64 0, .int .i64 0, .int .i64 0, .bool false]) ?_ 1 _ rfl; (with_reducible repeat (first | refine blk_drewN ?_ _ | refine blk_drew ?_ | refine blk_alloc ?_ _)); refine blk_put (cs := #[.int .i64 0, .int .i64 0, .int .i64 0, .int .i64 0, .int .i64 0, .int .i64 0, .int .i64 0, .int .i64 0, .int .i64 0, .bool false]) ?_ 0 _ rfl; (with_reducible repeat (first | refine blk_drewN ?_ _ | refine blk_drew ?_ | refine blk_alloc ?_ _)); exact aA.out) : p := h
theorem q4_2 {p : Prop} (h : p := by first | rfl | (simp [errW_none, errW_some] <;> rfl) | (simp [*, errW_none, errW_some] <;> rfl)) : p := h
theorem q4_3 {p : Prop} (h : p := by (try simp only [List.map_toArray, List.map_cons, List.map_nil]); first | done | rfl | (simp only [List.length_drop, List.length_take]; rfl)) : p := h
theorem q4_4 {p : Prop} (h : p := by repeat (first | (with_reducible first | exact HB.out | apply below_alloc | apply pw_below_drewN | apply below_drew1 | refine below_set ?_ VB.out) | exact HB.out)) : p := h
theorem q4_5 {p : Prop} (h : p := by (with_reducible repeat (first | refine blk_drewN ?_ _ | refine blk_drew ?_ | refine blk_alloc ?_ _)); exact bA.out) : p := h
theorem q4_6 {p : Prop} (h : p := by repeat (first | (with_reducible first | exact HB.out | apply below_alloc | apply pw_below_drewN | apply below_drew1 | refine below_set ?_ uC.out) | exact HB.out)) : p := h
theorem q4_7 {p : Prop} (h : p := by rw [hg]; exact (below_size q4_0)) : p := h
theorem q4_8 {p : Prop} (h : p := by repeat (first | (with_reducible first | exact HB.out | apply below_alloc | apply pw_below_drewN | apply below_drew1 | refine below_set ?_ VB.out | refine below_set ?_ vC.out) | exact HB.out)) : p := h
theorem q4_9 {p : Prop} (h : p := by first | rfl | (simp; done) | (simp [*]; done)) : p := h
theorem q4_10 {p : Prop} (h : p := by repeat (first | (with_reducible first | exact HB.out | apply below_alloc | apply pw_below_drewN | apply below_drew1 | refine below_set ?_ WB.out) | exact HB.out)) : p := h
theorem q4_11 {p : Prop} (h : p := by rw [hg]; exact Nat.ne_of_lt (blk_lt (g := hA) (o := .cells #[.int .i64 uA, .int .i64 vA, .int .i64 yA, .int .i64 JA, .int .i64 KA, .int .i64 LA, .int .i64 MA, .int .i64 NA, .int .i64 OA, .bool PA] 75 (0, 0)) q4_5)) : p := h
theorem q4_12 {p : Prop} (h : p := by rw [hg]; exact Nat.ne_of_gt (blk_lt (g := hA) (o := .cells #[.int .i64 uA, .int .i64 vA, .int .i64 yA, .int .i64 JA, .int .i64 KA, .int .i64 LA, .int .i64 MA, .int .i64 NA, .int .i64 OA, .bool PA] 75 (0, 0)) q4_5)) : p := h
theorem q4_13 {p : Prop} (h : p := by (with_reducible repeat (first | refine blk_drewN ?_ _ | refine blk_drew ?_ | refine blk_alloc ?_ _)); exact fA.out) : p := h
theorem q4_14 {p : Prop} (h : p := by repeat (first | exact Drawn0.refl _ | apply Drawn0.step)) : p := h
theorem q4_15 {p : Prop} (h : p := by repeat (first | exact (Kd.C_below DE.out HB.out) | (with_reducible refine Kd.C_alloc ?_ _) | (with_reducible refine Kd.C_drewN ?_ _) | (with_reducible refine Kd.C_drew ?_))) : p := h
theorem q4_16 {p : Prop} (h : p := by repeat (first | (with_reducible first | exact HB.out | apply below_alloc | apply pw_below_drewN | apply below_drew1 | refine below_set ?_ wC.out) | exact HB.out)) : p := h
theorem q4_17 {p : Prop} (h : p := by repeat (first | (with_reducible first | exact HB.out | apply below_alloc | apply pw_below_drewN | apply below_drew1 | refine below_set ?_ xC.out) | exact HB.out)) : p := h
theorem q4_18 {p : Prop} (h : p := by (with_reducible repeat (first | refine blk_drewN ?_ _ | refine blk_drew ?_ | refine blk_alloc ?_ _)); exact cA.out) : p := h
theorem q4_19 {p : Prop} (h : p := by kernel_rfl) : p := h
/-! ### laws_szThreadS: function 11 -/
def laws_szThreadS.l0 : Nat → List (S50) → Int → Int → Option (Int)
 | 0, _, _, _ => none
 | k + 1, x0, x1, x5 => if x5 < (x0.length : Int) then (if 0 ≤ x5 then ((laws_szThread.f ((rd_T50 x0 x5).f0) ((rd_T50 x0 x5).f1) ((rd_T50 x0 x5).f2) ((rd_T50 x0 x5).f3) x1).bind fun hB => (if hB < 0 then (some (-1)) else (laws_szThreadS.l0 k x0 hB (wrap64 (x5 + 1))))) else (none)) else (some x1)
def laws_szThreadS.f (k : Nat) (l0 : List (S50)) (a1 : Int) : Option (Int) := if (wrap64 (a1 - (l0.length : Int))) < 0 then (some (-1)) else (laws_szThreadS.l0 k l0 (wrap64 (a1 - (l0.length : Int))) 0)
theorem laws_szThreadS.mono_l : ∀ k, (∀ y0 y1 y2, LeO (laws_szThreadS.l0 k y0 y1 y2) (laws_szThreadS.l0 (k + 1) y0 y1 y2))
 | 0 => fun _ _ _ r h => by simp [laws_szThreadS.l0] at h
 | k + 1 => by
  have ih0 := laws_szThreadS.mono_l k
  ·intro y0 y1 y2
   unfold laws_szThreadS.l0
   repeat' first
   | (with_reducible exact ih0 _ _ _)
   | (with_reducible exact LeO.refl _)
   | (with_reducible exact LeO.none _)
   | (with_reducible refine LeO.ite ?_ ?_)
   | (with_reducible refine LeO.bind ?_ (fun _ => ?_))
   | exact ih0 _ _ _
   | exact LeO.none _
   | refine LeO.ite ?_ ?_
   | refine LeO.bind ?_ (fun _ => ?_)
theorem laws_szThreadS.mono : ∀ a0 a1 k, LeO (laws_szThreadS.f k a0 a1) (laws_szThreadS.f (k + 1) a0 a1) := by
 intro a0 a1 k
 have ih0 := laws_szThreadS.mono_l k
 unfold laws_szThreadS.f
 repeat' first
   | (with_reducible exact ih0 _ _ _)
   | (with_reducible exact LeO.refl _)
   | (with_reducible exact LeO.none _)
   | (with_reducible refine LeO.ite ?_ ?_)
   | (with_reducible refine LeO.bind ?_ (fun _ => ?_))
   | exact ih0 _ _ _
   | exact LeO.none _
   | refine LeO.ite ?_ ?_
   | refine LeO.bind ?_ (fun _ => ?_)
set_option maxHeartbeats 8000000 in
set_option maxRecDepth 100000 in
theorem laws_szThreadS.calls (k : Nat) (A0 : Option Addr) (c0 : Nat) (l0 : List (S50)) (a1 : Int) (r : Int) (w : World) (hr0 : Kd.C k50 w A0 l0.length l0) (hc0 : l0.length ≤ c0) (h : laws_szThreadS.f k l0 a1 = some r) :
  Calls Try.prog 11 #[.slice A0 l0.length c0, .int .i64 a1] w fun e w' => e = .returned (.int .i64 r) ∧ Below w.heap.size w w' := by
 have hu50 := Try.underlying50
 have HR0 := Aside0.mk hr0
 clear hr0 hc0
 have HB := Aside0.mk (Below.refl w.heap.size w)
 have H : (if (wrap64 (a1 - (l0.length : Int))) < 0 then (some (-1)) else (laws_szThreadS.l0 k l0 (wrap64 (a1 - (l0.length : Int))) 0)) = some r := h
 clear h
 by_cases c3 : (wrap64 (a1 - (l0.length : Int))) < 0
 ·rw [if_pos c3] at H
  have nB : decide ((wrap64 (a1 - (l0.length : Int))) < 0) = true := decide_eq_true c3
  clear c3
  obtain rfl := Option.some.inj H
  go_enter Try.func11, Try.ntmps11
  go_wp2
  go_ret
  exact ⟨q4_2, q4_0⟩
 ·rw [if_neg c3] at H
  have nB : decide ((wrap64 (a1 - (l0.length : Int))) < 0) = false := decide_eq_false c3
  clear c3
  have H' := Aside0.mk H
  clear H
  go_enter Try.func11, Try.ntmps11
  go_wp2
  go_loopg [1, 5] k (fun kq v1 v5 w' => ∃ (IB : Int) (pA : Int), v1 = .int .i64 IB ∧ v5 = .int .i64 pA ∧ Aside0 (laws_szThreadS.l0 kq l0 IB pA = some r) ∧ Aside0 (kq ≤ k) ∧ Aside0 (Below w.heap.size w w'))
  case atStart => exact ⟨(wrap64 (a1 - (l0.length : Int))), (0), q4_9, q4_9, H', ⟨Nat.le_refl _⟩, ⟨q4_0⟩⟩
  case round =>
   clear H'
   (try clear c1); (try clear p2); (try clear c3); (try clear nB)
   obtain ⟨IB, pA, rfl, rfl, HA, HK1, HB⟩ := hrel
   cases gk with
   | zero => exact absurd HA.out (by simp [laws_szThreadS.l0])
   | succ k1 =>
    have H := HA.out
    clear HA
    simp only [laws_szThreadS.l0] at H
    by_cases c4 : pA < (l0.length : Int)
    ·rw [if_pos c4] at H
     have iB : decide (pA < (l0.length : Int)) = true := decide_eq_true c4
     clear c4
     by_cases c5 : 0 ≤ pA
     ·rw [if_pos c5] at H
      have MH : decide (0 ≤ pA) = true := decide_eq_true c5
      clear c5
      replace H := Option.bind_eq_some_iff.mp H
      obtain ⟨hB, A60, H⟩ := H
      replace H : (if hB < 0 then (some (-1)) else (laws_szThreadS.l0 k1 l0 hB (wrap64 (pA + 1)))) = some r := H
      have A6 := Aside0.mk A60
      clear A60
      by_cases c7 : hB < 0
      ·rw [if_pos c7] at H
       have SD : decide (hB < 0) = true := decide_eq_true c7
       clear c7
       obtain rfl := Option.some.inj H
       have p127 : 0 ≤ (pA : Int) := of_decide_eq_true (by first | (with_reducible assumption) | assumption)
       have q127 : pA < (l0.length : Int) := of_decide_eq_true (by first | (with_reducible assumption) | assumption)
       obtain ⟨ad127, JB, KB, LB, MB, NB, OB, TD, BA, CA, DA, EA, XA, YA, ZA, aB, bB, cB⟩ := at_T50 HR0.out pA p127 q127
       cases TD
       replace BA := (HB.out.cell (World.block_lt_of_cell? w _ BA)).trans BA
       replace CA := (HB.out.cell (World.block_lt_of_cell? w _ CA)).trans CA
       replace DA := (HB.out.cell (World.block_lt_of_cell? w _ DA)).trans DA
       replace EA := (HB.out.cell (World.block_lt_of_cell? w _ EA)).trans EA
       have rB := Aside0.mk YA
       have sB := Aside0.mk XA
       clear YA XA
       have tB := Aside0.mk aB
       have uB := Aside0.mk ZA
       clear aB ZA
       have vB := Aside0.mk cB
       have wB := Aside0.mk bB
       clear cB bB
       replace p127 := eq_true p127
       replace q127 := eq_true q127
       go_wp2_with (first | ((with_reducible refine gate_callee (f := 29) rfl ?_); refine goesL_ (some 23) rfl rfl Try.func29 q4_19 rfl #[.agg #[.slice JB ((rd_T50 l0 pA).f0).length KB, .int .i64 ((rd_T50 l0 pA).f1), .slice LB ((rd_T50 l0 pA).f2).length MB, .slice NB ((rd_T50 l0 pA).f3).length OB], .int .i64 IB] rfl q4_3 ?_; (with_reducible refine (laws_szThread.calls _ _ ((rd_T50 l0 pA).f0) ((rd_T50 l0 pA).f1) _ _ ((rd_T50 l0 pA).f2) _ _ ((rd_T50 l0 pA).f3) IB hB _ ?side1 ?side2 ?side3 ?side4 ?side5 ?side6 A6.out).mono ?_); (case side1 => repeat (first | exact (Kd.C_below rB.out HB.out) | (with_reducible refine Kd.C_alloc ?_ _) | (with_reducible refine Kd.C_drewN ?_ _) | (with_reducible refine Kd.C_drew ?_))); (case side2 => exact sB.out); (case side3 => repeat (first | exact (Kd.C_below tB.out HB.out) | (with_reducible refine Kd.C_alloc ?_ _) | (with_reducible refine Kd.C_drewN ?_ _) | (with_reducible refine Kd.C_drew ?_))); (case side4 => exact uB.out); (case side5 => repeat (first | exact (Kd.C_below vB.out HB.out) | (with_reducible refine Kd.C_alloc ?_ _) | (with_reducible refine Kd.C_drewN ?_ _) | (with_reducible refine Kd.C_drew ?_))); (case side6 => exact wB.out); rintro e w8 ⟨rfl, hb⟩; refine ⟨_, rfl, ?_⟩; have mA := Aside0.mk (below_step q4_0 hb); clear HB; have HB := mA; clear mA; (try clear hb); (try clear hb2); (try clear hk); (try clear hi)))
       go_ret
       exact ⟨q4_2, q4_0⟩
      ·rw [if_neg c7] at H
       have SD : decide (hB < 0) = false := decide_eq_false c7
       clear c7
       have H' := Aside0.mk H
       clear H
       have p127 : 0 ≤ (pA : Int) := of_decide_eq_true (by first | (with_reducible assumption) | assumption)
       have q127 : pA < (l0.length : Int) := of_decide_eq_true (by first | (with_reducible assumption) | assumption)
       obtain ⟨ad127, JB, KB, LB, MB, NB, OB, TD, BA, CA, DA, EA, XA, YA, ZA, aB, bB, cB⟩ := at_T50 HR0.out pA p127 q127
       cases TD
       replace BA := (HB.out.cell (World.block_lt_of_cell? w _ BA)).trans BA
       replace CA := (HB.out.cell (World.block_lt_of_cell? w _ CA)).trans CA
       replace DA := (HB.out.cell (World.block_lt_of_cell? w _ DA)).trans DA
       replace EA := (HB.out.cell (World.block_lt_of_cell? w _ EA)).trans EA
       have rB := Aside0.mk YA
       have sB := Aside0.mk XA
       clear YA XA
       have tB := Aside0.mk aB
       have uB := Aside0.mk ZA
       clear aB ZA
       have vB := Aside0.mk cB
       have wB := Aside0.mk bB
       clear cB bB
       replace p127 := eq_true p127
       replace q127 := eq_true q127
       go_wp2_with (first | ((with_reducible refine gate_callee (f := 29) rfl ?_); refine goesL_ (some 23) rfl rfl Try.func29 q4_19 rfl #[.agg #[.slice JB ((rd_T50 l0 pA).f0).length KB, .int .i64 ((rd_T50 l0 pA).f1), .slice LB ((rd_T50 l0 pA).f2).length MB, .slice NB ((rd_T50 l0 pA).f3).length OB], .int .i64 IB] rfl q4_3 ?_; (with_reducible refine (laws_szThread.calls _ _ ((rd_T50 l0 pA).f0) ((rd_T50 l0 pA).f1) _ _ ((rd_T50 l0 pA).f2) _ _ ((rd_T50 l0 pA).f3) IB hB _ ?side1 ?side2 ?side3 ?side4 ?side5 ?side6 A6.out).mono ?_); (case side1 => repeat (first | exact (Kd.C_below rB.out HB.out) | (with_reducible refine Kd.C_alloc ?_ _) | (with_reducible refine Kd.C_drewN ?_ _) | (with_reducible refine Kd.C_drew ?_))); (case side2 => exact sB.out); (case side3 => repeat (first | exact (Kd.C_below tB.out HB.out) | (with_reducible refine Kd.C_alloc ?_ _) | (with_reducible refine Kd.C_drewN ?_ _) | (with_reducible refine Kd.C_drew ?_))); (case side4 => exact uB.out); (case side5 => repeat (first | exact (Kd.C_below vB.out HB.out) | (with_reducible refine Kd.C_alloc ?_ _) | (with_reducible refine Kd.C_drewN ?_ _) | (with_reducible refine Kd.C_drew ?_))); (case side6 => exact wB.out); rintro e w9 ⟨rfl, hb⟩; refine ⟨_, rfl, ?_⟩; have mA := Aside0.mk (below_step q4_0 hb); clear HB; have HB := mA; clear mA; (try clear hb); (try clear hb2); (try clear hk); (try clear hi)))
       go_roundg k1
       case measure => have := HK1.out; omega
       case rel => exact ⟨(hB), (wrap64 (pA + 1)), q4_9, q4_9, H', ⟨by have := HK1.out; omega⟩, ⟨q4_0⟩⟩
     ·rw [if_neg c5] at H
      exact absurd H (by simp)
    ·rw [if_neg c4] at H
     have iB : decide (pA < (l0.length : Int)) = false := decide_eq_false c4
     clear c4
     obtain rfl := Option.some.inj H
     go_wp2
     go_ret
     exact ⟨q4_2, q4_0⟩

/-! ### laws_szMem: function 57 -/
def laws_szMem.f (SA : List Int) (a1 : Int) : Option (Int) := (laws_szIntS.f SA a1).bind fun dB => (if dB < 0 then (some (-1)) else (some dB))
set_option maxHeartbeats 8000000 in
set_option maxRecDepth 100000 in
theorem laws_szMem.calls (AB : Option Addr) (BB : Nat) (SA : List Int) (a1 : Int) (r : Int) (w : World) (AD : Kd.C (Kd.int .i64) w AB SA.length SA) (BD : SA.length ≤ BB) (h : laws_szMem.f SA a1 = some r) :
  Calls Try.prog 57 #[.agg #[.slice AB SA.length BB], .int .i64 a1] w fun e w' => e = .returned (.int .i64 r) ∧ Below w.heap.size w w' := by
 have hu38 := Try.underlying38
 have CD := Aside0.mk AD
 have DD := Aside0.mk BD
 clear AD BD
 have HB := Aside0.mk (Below.refl w.heap.size w)
 have H : ((laws_szIntS.f SA a1).bind fun dB => (if dB < 0 then (some (-1)) else (some dB))) = some r := h
 clear h
 replace H := Option.bind_eq_some_iff.mp H
 obtain ⟨dB, A30, H⟩ := H
 replace H : (if dB < 0 then (some (-1)) else (some dB)) = some r := H
 have A3 := Aside0.mk A30
 clear A30
 by_cases c4 : dB < 0
 ·rw [if_pos c4] at H
  have iB : decide (dB < 0) = true := decide_eq_true c4
  clear c4
  obtain rfl := Option.some.inj H
  go_enter Try.func57, Try.ntmps57
  go_wp2_with (first | ((with_reducible refine gate_dst (N := 2) rfl ?_); refine box_event ?hg (N := 2) ?hd (cs := #[.slice AB SA.length BB]) (t := 38) ?hr ?_; (case hd => rfl); (case hg => rfl); (case hr => first | (go_simp; done) | (go_simp; rfl)); intro jB hg w5 hbox hb; have mA := Aside0.mk (below_step q4_0 hb); have nA := Aside0.mk (hbox); have oA := Aside0.mk ((q4_7 : w.heap.size ≤ jB)); have tA := Aside0.mk ((q4_7 : w.heap.size ≤ jB)); clear HB; have HB := mA; have CB := nA; have EE := oA; have yC := tA; clear mA nA oA tA; clear hb hbox hg; have zC : w5.cell? ⟨jB, 0, none⟩ = some (.slice AB SA.length BB) := (blk_cell CB.out 0).trans rfl; have AC := blk_frozen CB.out 0) | ((with_reducible refine gate_callee (f := 65) rfl ?_); refine goesL_ (some 8) rfl rfl Try.func65 q4_19 rfl #[.slice AB SA.length BB, .int .i64 a1] rfl q4_3 ?_; (with_reducible refine (laws_szIntS.calls _ _ SA a1 dB _ ?side1 ?side2 A3.out).mono ?_); (case side1 => repeat (first | exact (Kd.C_below CD.out HB.out) | (with_reducible refine Kd.C_alloc ?_ _) | (with_reducible refine Kd.C_drewN ?_ _) | (with_reducible refine Kd.C_drew ?_))); (case side2 => exact DD.out); rintro e w' ⟨rfl, ⟨nd, rfl⟩⟩; refine ⟨_, rfl, ?_⟩))
  go_ret
  exact ⟨q4_2, by repeat (first | (with_reducible first | exact HB.out | apply below_alloc | apply pw_below_drewN | apply below_drew1 | refine below_set ?_ yC.out) | exact HB.out)⟩
 ·rw [if_neg c4] at H
  have iB : decide (dB < 0) = false := decide_eq_false c4
  clear c4
  obtain rfl := Option.some.inj H
  go_enter Try.func57, Try.ntmps57
  go_wp2_with (first | ((with_reducible refine gate_dst (N := 2) rfl ?_); refine box_event ?hg (N := 2) ?hd (cs := #[.slice AB SA.length BB]) (t := 38) ?hr ?_; (case hd => rfl); (case hg => rfl); (case hr => first | (go_simp; done) | (go_simp; rfl)); intro jB hg w7 hbox hb; have mA := Aside0.mk (below_step q4_0 hb); have nA := Aside0.mk (hbox); have oA := Aside0.mk ((q4_7 : w.heap.size ≤ jB)); have tA := Aside0.mk ((q4_7 : w.heap.size ≤ jB)); clear HB; have HB := mA; have CB := nA; have EE := oA; have yC := tA; clear mA nA oA tA; clear hb hbox hg; have PB : w7.cell? ⟨jB, 0, none⟩ = some (.slice AB SA.length BB) := (blk_cell CB.out 0).trans rfl; have QB := blk_frozen CB.out 0) | ((with_reducible refine gate_callee (f := 65) rfl ?_); refine goesL_ (some 8) rfl rfl Try.func65 q4_19 rfl #[.slice AB SA.length BB, .int .i64 a1] rfl q4_3 ?_; (with_reducible refine (laws_szIntS.calls _ _ SA a1 dB _ ?side1 ?side2 A3.out).mono ?_); (case side1 => repeat (first | exact (Kd.C_below CD.out HB.out) | (with_reducible refine Kd.C_alloc ?_ _) | (with_reducible refine Kd.C_drewN ?_ _) | (with_reducible refine Kd.C_drew ?_))); (case side2 => exact DD.out); rintro e w' ⟨rfl, ⟨nd, rfl⟩⟩; refine ⟨_, rfl, ?_⟩))
  go_ret
  exact ⟨q4_2, by repeat (first | (with_reducible first | exact HB.out | apply below_alloc | apply pw_below_drewN | apply below_drew1 | refine below_set ?_ yC.out) | exact HB.out)⟩

/-! ### laws_szCrew: function 20 -/
def laws_szCrew.f (k : Nat) (TA : Int) (UA : Int) (wA : List Int) (xA : List (S50)) (VA : Int) (a1 : Int) : Option (Int) := (laws_szMem.f wA a1).bind fun FA => (if FA < 0 then (some (-1)) else ((laws_szThreadS.f k xA FA).bind fun WA => (if WA < 0 then (some (-1)) else (some WA))))
theorem laws_szCrew.mono : ∀ a0 a1 a2 a3 a4 a5 k, LeO (laws_szCrew.f k a0 a1 a2 a3 a4 a5) (laws_szCrew.f (k + 1) a0 a1 a2 a3 a4 a5) := by
 intro a0 a1 a2 a3 a4 a5 k
 unfold laws_szCrew.f
 repeat' first
   | (with_reducible exact laws_szThreadS.mono _ _ _)
   | (with_reducible exact LeO.refl _)
   | (with_reducible exact LeO.none _)
   | (with_reducible refine LeO.ite ?_ ?_)
   | (with_reducible refine LeO.bind ?_ (fun _ => ?_))
   | exact laws_szThreadS.mono _ _ _
   | exact LeO.none _
   | refine LeO.ite ?_ ?_
   | refine LeO.bind ?_ (fun _ => ?_)
set_option maxHeartbeats 8000000 in
set_option maxRecDepth 100000 in
theorem laws_szCrew.calls (k : Nat) (TA : Int) (UA : Int) (GA : Option Addr) (IA : Nat) (wA : List Int) (QA : Option Addr) (RA : Nat) (xA : List (S50)) (VA : Int) (a1 : Int) (r : Int) (w : World) (ED : Kd.C (Kd.int .i64) w GA wA.length wA) (FD : wA.length ≤ IA) (GD : Kd.C k50 w QA xA.length xA) (HD : xA.length ≤ RA) (h : laws_szCrew.f k TA UA wA xA VA a1 = some r) :
  Calls Try.prog 20 #[.agg #[.int .i64 TA, .int .i64 UA, .slice GA wA.length IA, .slice QA xA.length RA, .int .i64 VA], .int .i64 a1] w fun e w' => e = .returned (.int .i64 r) ∧ Below w.heap.size w w' := by
 have hu40 := Try.underlying40
 have hu38 := Try.underlying38
 have DE := Aside0.mk ED
 have BC := Aside0.mk FD
 clear ED FD
 have ID := Aside0.mk GD
 have JD := Aside0.mk HD
 clear GD HD
 have HB := Aside0.mk (Below.refl w.heap.size w)
 have H : ((laws_szMem.f wA a1).bind fun FA => (if FA < 0 then (some (-1)) else ((laws_szThreadS.f k xA FA).bind fun WA => (if WA < 0 then (some (-1)) else (some WA))))) = some r := h
 clear h
 replace H := Option.bind_eq_some_iff.mp H
 obtain ⟨FA, A30, H⟩ := H
 replace H : (if FA < 0 then (some (-1)) else ((laws_szThreadS.f k xA FA).bind fun WA => (if WA < 0 then (some (-1)) else (some WA)))) = some r := H
 have A3 := Aside0.mk A30
 clear A30
 by_cases c4 : FA < 0
 ·rw [if_pos c4] at H
  have iB : decide (FA < 0) = true := decide_eq_true c4
  clear c4
  obtain rfl := Option.some.inj H
  go_enter Try.func20, Try.ntmps20
  go_wp2_with (first | ((with_reducible refine gate_dst (N := 2) rfl ?_); refine box_event ?hg (N := 2) ?hd (cs := #[.int .i64 TA, .int .i64 UA, .slice GA wA.length IA, .slice QA xA.length RA, .int .i64 VA]) (t := 40) ?hr ?_; (case hd => rfl); (case hg => rfl); (case hr => first | (go_simp; done) | (go_simp; rfl)); intro lA hg w5 hbox hb; have mA := Aside0.mk (below_step q4_0 hb); have nA := Aside0.mk (hbox); have oA := Aside0.mk ((q4_7 : w.heap.size ≤ lA)); have tA := Aside0.mk ((q4_7 : w.heap.size ≤ lA)); clear HB; have HB := mA; have fA := nA; have KD := oA; have uC := tA; clear mA nA oA tA; clear hb hbox hg; have zC : w5.cell? ⟨lA, 0, none⟩ = some (.int .i64 TA) := (blk_cell fA.out 0).trans rfl; have UD : w5.cell? ⟨lA, 1, none⟩ = some (.int .i64 UA) := (blk_cell fA.out 1).trans rfl; have VD : w5.cell? ⟨lA, 2, none⟩ = some (.slice GA wA.length IA) := (blk_cell fA.out 2).trans rfl; have WD : w5.cell? ⟨lA, 3, none⟩ = some (.slice QA xA.length RA) := (blk_cell fA.out 3).trans rfl; have XD : w5.cell? ⟨lA, 4, none⟩ = some (.int .i64 VA) := (blk_cell fA.out 4).trans rfl; have AC := blk_frozen fA.out 0; have YD := blk_frozen fA.out 1; have ZD := blk_frozen fA.out 2; have aE := blk_frozen fA.out 3; have bE := blk_frozen fA.out 4) | ((with_reducible refine gate_callee (f := 57) rfl ?_); refine goesL_ (some 8) rfl rfl Try.func57 q4_19 rfl #[.agg #[.slice GA wA.length IA], .int .i64 a1] rfl q4_3 ?_; (with_reducible refine (laws_szMem.calls _ _ wA a1 FA _ ?side1 ?side2 A3.out).mono ?_); (case side1 => exact q4_15); (case side2 => exact BC.out); rintro e w7 ⟨rfl, hb⟩; refine ⟨_, rfl, ?_⟩; have mA := Aside0.mk (blk_below (g := lA) (o := .cells #[.int .i64 TA, .int .i64 UA, .slice GA wA.length IA, .slice QA xA.length RA, .int .i64 VA] 40 (0, 0)) q4_13 hb); have nA := Aside0.mk (below_step q4_6 hb); clear fA; clear HB; have fA := mA; have HB := nA; clear mA nA; (try clear hb); (try clear hb2); (try clear hk); (try clear hi)))
  go_ret
  exact ⟨q4_2, q4_6⟩
 ·rw [if_neg c4] at H
  have iB : decide (FA < 0) = false := decide_eq_false c4
  clear c4
  replace H := Option.bind_eq_some_iff.mp H
  obtain ⟨WA, A80, H⟩ := H
  replace H : (if WA < 0 then (some (-1)) else (some WA)) = some r := H
  have A8 := Aside0.mk A80
  clear A80
  by_cases c9 : WA < 0
  ·rw [if_pos c9] at H
   have cH : decide (WA < 0) = true := decide_eq_true c9
   clear c9
   obtain rfl := Option.some.inj H
   go_enter Try.func20, Try.ntmps20
   go_wp2_with (first | ((with_reducible refine gate_dst (N := 2) rfl ?_); refine box_event ?hg (N := 2) ?hd (cs := #[.int .i64 TA, .int .i64 UA, .slice GA wA.length IA, .slice QA xA.length RA, .int .i64 VA]) (t := 40) ?hr ?_; (case hd => rfl); (case hg => rfl); (case hr => first | (go_simp; done) | (go_simp; rfl)); intro lA hg FE hbox hb; have mA := Aside0.mk (below_step q4_0 hb); have nA := Aside0.mk (hbox); have oA := Aside0.mk ((q4_7 : w.heap.size ≤ lA)); have tA := Aside0.mk ((q4_7 : w.heap.size ≤ lA)); clear HB; have HB := mA; have fA := nA; have KD := oA; have uC := tA; clear mA nA oA tA; clear hb hbox hg; have ME : FE.cell? ⟨lA, 0, none⟩ = some (.int .i64 TA) := (blk_cell fA.out 0).trans rfl; have NE : FE.cell? ⟨lA, 1, none⟩ = some (.int .i64 UA) := (blk_cell fA.out 1).trans rfl; have OE : FE.cell? ⟨lA, 2, none⟩ = some (.slice GA wA.length IA) := (blk_cell fA.out 2).trans rfl; have PE : FE.cell? ⟨lA, 3, none⟩ = some (.slice QA xA.length RA) := (blk_cell fA.out 3).trans rfl; have QE : FE.cell? ⟨lA, 4, none⟩ = some (.int .i64 VA) := (blk_cell fA.out 4).trans rfl; have RE := blk_frozen fA.out 0; have SE := blk_frozen fA.out 1; have TE := blk_frozen fA.out 2; have UE := blk_frozen fA.out 3; have VE := blk_frozen fA.out 4) | ((with_reducible refine gate_callee (f := 57) rfl ?_); refine goesL_ (some 8) rfl rfl Try.func57 q4_19 rfl #[.agg #[.slice GA wA.length IA], .int .i64 a1] rfl q4_3 ?_; (with_reducible refine (laws_szMem.calls _ _ wA a1 FA _ ?side1 ?side2 A3.out).mono ?_); (case side1 => exact q4_15); (case side2 => exact BC.out); rintro e GE ⟨rfl, hb⟩; refine ⟨_, rfl, ?_⟩; have mA := Aside0.mk (blk_below (g := lA) (o := .cells #[.int .i64 TA, .int .i64 UA, .slice GA wA.length IA, .slice QA xA.length RA, .int .i64 VA] 40 (0, 0)) q4_13 hb); have nA := Aside0.mk (below_step q4_6 hb); clear fA; clear HB; have fA := mA; have HB := nA; clear mA nA; (try clear hb); (try clear hb2); (try clear hk); (try clear hi); have WE : GE.cell? ⟨lA, 0, none⟩ = some (.int .i64 TA) := (blk_cell fA.out 0).trans rfl; have XE : GE.cell? ⟨lA, 1, none⟩ = some (.int .i64 UA) := (blk_cell fA.out 1).trans rfl; have YE : GE.cell? ⟨lA, 2, none⟩ = some (.slice GA wA.length IA) := (blk_cell fA.out 2).trans rfl; have ZE : GE.cell? ⟨lA, 3, none⟩ = some (.slice QA xA.length RA) := (blk_cell fA.out 3).trans rfl; have aF : GE.cell? ⟨lA, 4, none⟩ = some (.int .i64 VA) := (blk_cell fA.out 4).trans rfl; have bF := blk_frozen fA.out 0; have cF := blk_frozen fA.out 1; have dF := blk_frozen fA.out 2; have eF := blk_frozen fA.out 3; have fF := blk_frozen fA.out 4) | ((with_reducible refine gate_callee (f := 11) rfl ?_); refine goesL_ (some 14) rfl rfl Try.func11 q4_19 rfl #[.slice QA xA.length RA, .int .i64 FA] rfl q4_3 ?_; (with_reducible refine (laws_szThreadS.calls k _ _ xA FA WA _ ?side1 ?side2 A8.out).mono ?_); (case side1 => repeat (first | exact (Kd.C_below ID.out HB.out) | (with_reducible refine Kd.C_alloc ?_ _) | (with_reducible refine Kd.C_drewN ?_ _) | (with_reducible refine Kd.C_drew ?_))); (case side2 => exact JD.out); rintro e CC ⟨rfl, hb⟩; refine ⟨_, rfl, ?_⟩; have mA := Aside0.mk (blk_below (g := lA) (o := .cells #[.int .i64 TA, .int .i64 UA, .slice GA wA.length IA, .slice QA xA.length RA, .int .i64 VA] 40 (0, 0)) q4_13 hb); have nA := Aside0.mk (below_step q4_6 hb); clear fA; clear HB; have fA := mA; have HB := nA; clear mA nA; (try clear hb); (try clear hb2); (try clear hk); (try clear hi)))
   go_ret
   exact ⟨q4_2, q4_6⟩
  ·rw [if_neg c9] at H
   have cH : decide (WA < 0) = false := decide_eq_false c9
   clear c9
   obtain rfl := Option.some.inj H
   go_enter Try.func20, Try.ntmps20
   go_wp2_with (first | ((with_reducible refine gate_dst (N := 2) rfl ?_); refine box_event ?hg (N := 2) ?hd (cs := #[.int .i64 TA, .int .i64 UA, .slice GA wA.length IA, .slice QA xA.length RA, .int .i64 VA]) (t := 40) ?hr ?_; (case hd => rfl); (case hg => rfl); (case hr => first | (go_simp; done) | (go_simp; rfl)); intro lA hg HE hbox hb; have mA := Aside0.mk (below_step q4_0 hb); have nA := Aside0.mk (hbox); have oA := Aside0.mk ((q4_7 : w.heap.size ≤ lA)); have tA := Aside0.mk ((q4_7 : w.heap.size ≤ lA)); clear HB; have HB := mA; have fA := nA; have KD := oA; have uC := tA; clear mA nA oA tA; clear hb hbox hg; have dD : HE.cell? ⟨lA, 0, none⟩ = some (.int .i64 TA) := (blk_cell fA.out 0).trans rfl; have eD : HE.cell? ⟨lA, 1, none⟩ = some (.int .i64 UA) := (blk_cell fA.out 1).trans rfl; have fD : HE.cell? ⟨lA, 2, none⟩ = some (.slice GA wA.length IA) := (blk_cell fA.out 2).trans rfl; have gD : HE.cell? ⟨lA, 3, none⟩ = some (.slice QA xA.length RA) := (blk_cell fA.out 3).trans rfl; have hD : HE.cell? ⟨lA, 4, none⟩ = some (.int .i64 VA) := (blk_cell fA.out 4).trans rfl; have iD := blk_frozen fA.out 0; have jD := blk_frozen fA.out 1; have kD := blk_frozen fA.out 2; have lD := blk_frozen fA.out 3; have mD := blk_frozen fA.out 4) | ((with_reducible refine gate_callee (f := 57) rfl ?_); refine goesL_ (some 8) rfl rfl Try.func57 q4_19 rfl #[.agg #[.slice GA wA.length IA], .int .i64 a1] rfl q4_3 ?_; (with_reducible refine (laws_szMem.calls _ _ wA a1 FA _ ?side1 ?side2 A3.out).mono ?_); (case side1 => exact q4_15); (case side2 => exact BC.out); rintro e GB ⟨rfl, hb⟩; refine ⟨_, rfl, ?_⟩; have mA := Aside0.mk (blk_below (g := lA) (o := .cells #[.int .i64 TA, .int .i64 UA, .slice GA wA.length IA, .slice QA xA.length RA, .int .i64 VA] 40 (0, 0)) q4_13 hb); have nA := Aside0.mk (below_step q4_6 hb); clear fA; clear HB; have fA := mA; have HB := nA; clear mA nA; (try clear hb); (try clear hb2); (try clear hk); (try clear hi); have nD : GB.cell? ⟨lA, 0, none⟩ = some (.int .i64 TA) := (blk_cell fA.out 0).trans rfl; have oD : GB.cell? ⟨lA, 1, none⟩ = some (.int .i64 UA) := (blk_cell fA.out 1).trans rfl; have pD : GB.cell? ⟨lA, 2, none⟩ = some (.slice GA wA.length IA) := (blk_cell fA.out 2).trans rfl; have qD : GB.cell? ⟨lA, 3, none⟩ = some (.slice QA xA.length RA) := (blk_cell fA.out 3).trans rfl; have rD : GB.cell? ⟨lA, 4, none⟩ = some (.int .i64 VA) := (blk_cell fA.out 4).trans rfl; have sD := blk_frozen fA.out 0; have tD := blk_frozen fA.out 1; have uD := blk_frozen fA.out 2; have vD := blk_frozen fA.out 3; have wD := blk_frozen fA.out 4) | ((with_reducible refine gate_callee (f := 11) rfl ?_); refine goesL_ (some 14) rfl rfl Try.func11 q4_19 rfl #[.slice QA xA.length RA, .int .i64 FA] rfl q4_3 ?_; (with_reducible refine (laws_szThreadS.calls k _ _ xA FA WA _ ?side1 ?side2 A8.out).mono ?_); (case side1 => repeat (first | exact (Kd.C_below ID.out HB.out) | (with_reducible refine Kd.C_alloc ?_ _) | (with_reducible refine Kd.C_drewN ?_ _) | (with_reducible refine Kd.C_drew ?_))); (case side2 => exact JD.out); rintro e PH ⟨rfl, hb⟩; refine ⟨_, rfl, ?_⟩; have mA := Aside0.mk (blk_below (g := lA) (o := .cells #[.int .i64 TA, .int .i64 UA, .slice GA wA.length IA, .slice QA xA.length RA, .int .i64 VA] 40 (0, 0)) q4_13 hb); have nA := Aside0.mk (below_step q4_6 hb); clear fA; clear HB; have fA := mA; have HB := nA; clear mA nA; (try clear hb); (try clear hb2); (try clear hk); (try clear hi)))
   go_ret
   exact ⟨q4_2, q4_6⟩

/-! ### spec_l07What: function 58 -/
def spec_l07What.f (a0 : Int) : Option (Bool) := if a0 ≥ 1 then (some (decide (a0 ≤ 3))) else (some false)
set_option maxHeartbeats 8000000 in
set_option maxRecDepth 100000 in
theorem spec_l07What.calls (a0 : Int) (r : Bool) (w : World) (h : spec_l07What.f a0 = some r) :
  Calls Try.prog 58 #[.int .i64 a0] w fun e w' => e = .returned (.bool r) ∧ Drawn0 w w' := by
 have H : (if a0 ≥ 1 then (some (decide (a0 ≤ 3))) else (some false)) = some r := h
 clear h
 by_cases c2 : a0 ≥ 1
 ·rw [if_pos c2] at H
  have cE : decide (1 ≤ a0) = true := decide_eq_true c2
  clear c2
  obtain rfl := Option.some.inj H
  go_enter Try.func58, Try.ntmps58
  go_wp2
  go_ret
  exact ⟨q4_9, q4_14⟩
 ·rw [if_neg c2] at H
  have cE : decide (1 ≤ a0) = false := decide_eq_false c2
  clear c2
  obtain rfl := Option.some.inj H
  go_enter Try.func58, Try.ntmps58
  go_wp2
  go_ret
  exact ⟨q4_9, q4_14⟩

/-! ### spec_l03Size: function 59 -/
def spec_l03Size.f (a0 : Int) : Option (Bool) := if a0 ≥ 1 then (some (decide (a0 ≤ 16))) else (some false)
set_option maxHeartbeats 8000000 in
set_option maxRecDepth 100000 in
theorem spec_l03Size.calls (a0 : Int) (r : Bool) (w : World) (h : spec_l03Size.f a0 = some r) :
  Calls Try.prog 59 #[.int .i64 a0] w fun e w' => e = .returned (.bool r) ∧ Drawn0 w w' := by
 have H : (if a0 ≥ 1 then (some (decide (a0 ≤ 16))) else (some false)) = some r := h
 clear h
 by_cases c2 : a0 ≥ 1
 ·rw [if_pos c2] at H
  have cE : decide (1 ≤ a0) = true := decide_eq_true c2
  clear c2
  obtain rfl := Option.some.inj H
  go_enter Try.func59, Try.ntmps59
  go_wp2
  go_ret
  exact ⟨q4_9, q4_14⟩
 ·rw [if_neg c2] at H
  have cE : decide (1 ≤ a0) = false := decide_eq_false c2
  clear c2
  obtain rfl := Option.some.inj H
  go_enter Try.func59, Try.ntmps59
  go_wp2
  go_ret
  exact ⟨q4_9, q4_14⟩

/-! ### spec_l07Cells: function 60 -/
def spec_l07Cells.f (a0 : Int) (a1 : Int) : Option (Int) := if a0 = 1 then (some (wrap64 (1 + a1))) else (if a0 = 2 then (some (wrap64 (2 + (wrap64 (2 * a1))))) else (some (wrap64 (1 + (wrap64 (2 * a1))))))
set_option maxHeartbeats 8000000 in
set_option maxRecDepth 100000 in
theorem spec_l07Cells.calls (a0 : Int) (a1 : Int) (r : Int) (w : World) (h : spec_l07Cells.f a0 a1 = some r) :
  Calls Try.prog 60 #[.int .i64 a0, .int .i64 a1] w fun e w' => e = .returned (.int .i64 r) ∧ Drawn0 w w' := by
 have H : (if a0 = 1 then (some (wrap64 (1 + a1))) else (if a0 = 2 then (some (wrap64 (2 + (wrap64 (2 * a1))))) else (some (wrap64 (1 + (wrap64 (2 * a1))))))) = some r := h
 clear h
 by_cases c3 : a0 = 1
 ·rw [if_pos c3] at H
  have nB : (a0 == 1) = true := beq_iff_eq.mpr c3
  have RB : (a0 != 1) = false := bne_eq_false_iff_eq.mpr c3
  clear c3
  obtain rfl := Option.some.inj H
  go_enter Try.func60, Try.ntmps60
  go_wp2
  go_ret
  exact ⟨q4_9, q4_14⟩
 ·rw [if_neg c3] at H
  have nB : (a0 == 1) = false := beq_eq_false_iff_ne.mpr c3
  have RB : (a0 != 1) = true := bne_iff_ne.mpr c3
  by_cases c4 : a0 = 2
  ·rw [if_pos c4] at H
   have iB : (a0 == 2) = true := beq_iff_eq.mpr c4
   have dE : (a0 != 2) = false := bne_eq_false_iff_eq.mpr c4
   clear c4
   obtain rfl := Option.some.inj H
   go_enter Try.func60, Try.ntmps60
   go_wp2
   go_ret
   exact ⟨q4_9, q4_14⟩
  ·rw [if_neg c4] at H
   have iB : (a0 == 2) = false := beq_eq_false_iff_ne.mpr c4
   have dE : (a0 != 2) = true := bne_iff_ne.mpr c4
   obtain rfl := Option.some.inj H
   go_enter Try.func60, Try.ntmps60
   go_wp2
   go_ret
   exact ⟨q4_9, q4_14⟩

/-! ### spec_StCall: function 79 -/
def spec_StCall.f (a0 : Int) (a1 : Int) : Option (Int × Int × Int × Int × Int × Int × Int × Int × Int × Bool) := if a0 = 1 then (some (a0, a1, 0, 0, 0, 0, 0, 0, 0, false)) else (if a0 = 2 then (some (a0, 0, 0, 0, 0, 0, 0, 0, 0, false)) else (some (0, 0, 0, 0, 0, 0, 0, 0, 0, false)))
set_option maxHeartbeats 8000000 in
set_option maxRecDepth 100000 in
theorem spec_StCall.calls (a0 : Int) (a1 : Int) (r1 : Int) (r2 : Int) (r3 : Int) (r4 : Int) (r5 : Int) (r6 : Int) (r7 : Int) (r8 : Int) (r9 : Int) (r10 : Bool) (w : World) (h : spec_StCall.f a0 a1 = some (r1, r2, r3, r4, r5, r6, r7, r8, r9, r10)) :
  Calls Try.prog 79 #[.int .i64 a0, .int .i64 a1] w fun e w' => e = .returned (.agg #[.int .i64 r1, .int .i64 r2, .int .i64 r3, .int .i64 r4, .int .i64 r5, .int .i64 r6, .int .i64 r7, .int .i64 r8, .int .i64 r9, .bool r10]) ∧ Below w.heap.size w w' := by
 have hu75 := Try.underlying75
 have HB := Aside0.mk (Below.refl w.heap.size w)
 have H : (if a0 = 1 then (some (a0, a1, 0, 0, 0, 0, 0, 0, 0, false)) else (if a0 = 2 then (some (a0, 0, 0, 0, 0, 0, 0, 0, 0, false)) else (some (0, 0, 0, 0, 0, 0, 0, 0, 0, false)))) = some (r1, r2, r3, r4, r5, r6, r7, r8, r9, r10) := h
 clear h
 by_cases c3 : a0 = 1
 ·rw [if_pos c3] at H
  have nB : (a0 == 1) = true := beq_iff_eq.mpr c3
  have RB : (a0 != 1) = false := bne_eq_false_iff_eq.mpr c3
  clear c3
  simp only [Option.some.injEq, Prod.mk.injEq] at H
  obtain ⟨rfl, rfl, rfl, rfl, rfl, rfl, rfl, rfl, rfl, rfl⟩ := H
  go_enter Try.func79, Try.ntmps79
  go_wp2_with (first | ((with_reducible refine gate_dst (N := 4) rfl ?_); refine box_event ?hg (N := 4) ?hd (cs := #[.int .i64 0, .int .i64 0, .int .i64 0, .int .i64 0, .int .i64 0, .int .i64 0, .int .i64 0, .int .i64 0, .int .i64 0, .bool false]) (t := 75) ?hr ?_; (case hd => rfl); (case hg => rfl); (case hr => first | (go_simp; done) | (go_simp; rfl)); intro jA hg w4 hbox hb; have mA := Aside0.mk (below_step q4_0 hb); have nA := Aside0.mk (hbox); have oA := Aside0.mk ((q4_7 : w.heap.size ≤ jA)); have tA := Aside0.mk ((q4_7 : w.heap.size ≤ jA)); clear HB; have HB := mA; have dA := nA; have LD := oA; have wC := tA; clear mA nA oA tA; clear hb hbox hg; have eE : w4.cell? ⟨jA, 0, none⟩ = some (.int .i64 0) := (blk_cell dA.out 0).trans rfl; have fE : w4.cell? ⟨jA, 1, none⟩ = some (.int .i64 0) := (blk_cell dA.out 1).trans rfl; have gE : w4.cell? ⟨jA, 2, none⟩ = some (.int .i64 0) := (blk_cell dA.out 2).trans rfl; have hE : w4.cell? ⟨jA, 3, none⟩ = some (.int .i64 0) := (blk_cell dA.out 3).trans rfl; have iE : w4.cell? ⟨jA, 4, none⟩ = some (.int .i64 0) := (blk_cell dA.out 4).trans rfl; have jE : w4.cell? ⟨jA, 5, none⟩ = some (.int .i64 0) := (blk_cell dA.out 5).trans rfl; have kE : w4.cell? ⟨jA, 6, none⟩ = some (.int .i64 0) := (blk_cell dA.out 6).trans rfl; have lE : w4.cell? ⟨jA, 7, none⟩ = some (.int .i64 0) := (blk_cell dA.out 7).trans rfl; have mE : w4.cell? ⟨jA, 8, none⟩ = some (.int .i64 0) := (blk_cell dA.out 8).trans rfl; have nE : w4.cell? ⟨jA, 9, none⟩ = some (.bool false) := (blk_cell dA.out 9).trans rfl; have oE := blk_frozen dA.out 0; have pE := blk_frozen dA.out 1; have qE := blk_frozen dA.out 2; have rE := blk_frozen dA.out 3; have sE := blk_frozen dA.out 4; have tE := blk_frozen dA.out 5; have uE := blk_frozen dA.out 6; have vE := blk_frozen dA.out 7; have wE := blk_frozen dA.out 8; have xE := blk_frozen dA.out 9))
  refine bodyPost_ret (results_cell_row rfl _ _ jA 75 #[.int .i64 a0, .int .i64 a1, .int .i64 0, .int .i64 0, .int .i64 0, .int .i64 0, .int .i64 0, .int .i64 0, .int .i64 0, .bool false] (0, 0) _ rfl (by (with_reducible repeat (first | refine blk_drewN ?_ _ | refine blk_drew ?_ | refine blk_alloc ?_ _)); refine blk_put (cs := #[.int .i64 a0, .int .i64 a1, .int .i64 0, .int .i64 0, .int .i64 0, .int .i64 0, .int .i64 0, .int .i64 0, .int .i64 0, .bool false]) ?_ 9 _ rfl; (with_reducible repeat (first | refine blk_drewN ?_ _ | refine blk_drew ?_ | refine blk_alloc ?_ _)); refine blk_put (cs := #[.int .i64 a0, .int .i64 a1, .int .i64 0, .int .i64 0, .int .i64 0, .int .i64 0, .int .i64 0, .int .i64 0, .int .i64 0, .bool false]) ?_ 8 _ rfl; (with_reducible repeat (first | refine blk_drewN ?_ _ | refine blk_drew ?_ | refine blk_alloc ?_ _)); refine blk_put (cs := #[.int .i64 a0, .int .i64 a1, .int .i64 0, .int .i64 0, .int .i64 0, .int .i64 0, .int .i64 0, .int .i64 0, .int .i64 0, .bool false]) ?_ 7 _ rfl; (with_reducible repeat (first | refine blk_drewN ?_ _ | refine blk_drew ?_ | refine blk_alloc ?_ _)); refine blk_put (cs := #[.int .i64 a0, .int .i64 a1, .int .i64 0, .int .i64 0, .int .i64 0, .int .i64 0, .int .i64 0, .int .i64 0, .int .i64 0, .bool false]) ?_ 6 _ rfl; (with_reducible repeat (first | refine blk_drewN ?_ _ | refine blk_drew ?_ | refine blk_alloc ?_ _)); refine blk_put (cs := #[.int .i64 a0, .int .i64 a1, .int .i64 0, .int .i64 0, .int .i64 0, .int .i64 0, .int .i64 0, .int .i64 0, .int .i64 0, .bool false]) ?_ 5 _ rfl; (with_reducible repeat (first | refine blk_drewN ?_ _ | refine blk_drew ?_ | refine blk_alloc ?_ _)); refine blk_put (cs := #[.int .i64 a0, .int .i64 a1, .int .i64 0, .int .i64 0, .int .i64 0, .int .i64 0, .int .i64 0, .int .i64 0, .int .i64 0, .bool false]) ?_ 4 _ rfl; (with_reducible repeat (first | refine blk_drewN ?_ _ | refine blk_drew ?_ | refine blk_alloc ?_ _)); refine blk_put (cs := #[.int .i64 a0, .int .i64 a1, .int .i64 0, .int .i64 0, .int .i64 0, .int .i64 0, .int .i64 0, .int .i64 0, .int .i64 0, .bool false]) ?_ 3 _ rfl; (with_reducible repeat (first | refine blk_drewN ?_ _ | refine blk_drew ?_ | refine blk_alloc ?_ _)); refine blk_put (cs := #[.int .i64 a0, .int .i64 a1, .int .i64 0, .int .i64 0, .int .i64 0, .int .i64 0, .int .i64 0, .int .i64 0, .int .i64 0, .bool false]) ?_ 2 _ rfl; (with_reducible repeat (first | refine blk_drewN ?_ _ | refine blk_drew ?_ | refine blk_alloc ?_ _)); refine blk_put (cs := #[.int .i64 a0, .int .i64 0, .int .i64 0, .int .i64 0, .int .i64 0, .int .i64 0, .int .i64 0, .int .i64 0, .int .i64 0, .bool false]) ?_ 1 _ rfl; (with_reducible repeat (first | refine blk_drewN ?_ _ | refine blk_drew ?_ | refine blk_alloc ?_ _)); refine blk_put (cs := #[.int .i64 0, .int .i64 0, .int .i64 0, .int .i64 0, .int .i64 0, .int .i64 0, .int .i64 0, .int .i64 0, .int .i64 0, .bool false]) ?_ 0 _ rfl; (with_reducible repeat (first | refine blk_drewN ?_ _ | refine blk_drew ?_ | refine blk_alloc ?_ _)); exact dA.out) Try.underlying75 rfl q4_19) rfl ?_
  exact ⟨q4_2, q4_16⟩
 ·rw [if_neg c3] at H
  have nB : (a0 == 1) = false := beq_eq_false_iff_ne.mpr c3
  have RB : (a0 != 1) = true := bne_iff_ne.mpr c3
  by_cases c6 : a0 = 2
  ·rw [if_pos c6] at H
   have yE : (a0 == 2) = true := beq_iff_eq.mpr c6
   have zE : (a0 != 2) = false := bne_eq_false_iff_eq.mpr c6
   clear c6
   simp only [Option.some.injEq, Prod.mk.injEq] at H
   obtain ⟨rfl, rfl, rfl, rfl, rfl, rfl, rfl, rfl, rfl, rfl⟩ := H
   go_enter Try.func79, Try.ntmps79
   go_wp2_with (first | ((with_reducible refine gate_dst (N := 4) rfl ?_); refine box_event ?hg (N := 4) ?hd (cs := #[.int .i64 0, .int .i64 0, .int .i64 0, .int .i64 0, .int .i64 0, .int .i64 0, .int .i64 0, .int .i64 0, .int .i64 0, .bool false]) (t := 75) ?hr ?_; (case hd => rfl); (case hg => rfl); (case hr => first | (go_simp; done) | (go_simp; rfl)); intro jA hg w7 hbox hb; have mA := Aside0.mk (below_step q4_0 hb); have nA := Aside0.mk (hbox); have oA := Aside0.mk ((q4_7 : w.heap.size ≤ jA)); have tA := Aside0.mk ((q4_7 : w.heap.size ≤ jA)); clear HB; have HB := mA; have dA := nA; have LD := oA; have wC := tA; clear mA nA oA tA; clear hb hbox hg; have PB : w7.cell? ⟨jA, 0, none⟩ = some (.int .i64 0) := (blk_cell dA.out 0).trans rfl; have DC : w7.cell? ⟨jA, 1, none⟩ = some (.int .i64 0) := (blk_cell dA.out 1).trans rfl; have EC : w7.cell? ⟨jA, 2, none⟩ = some (.int .i64 0) := (blk_cell dA.out 2).trans rfl; have FC : w7.cell? ⟨jA, 3, none⟩ = some (.int .i64 0) := (blk_cell dA.out 3).trans rfl; have GC : w7.cell? ⟨jA, 4, none⟩ = some (.int .i64 0) := (blk_cell dA.out 4).trans rfl; have HC : w7.cell? ⟨jA, 5, none⟩ = some (.int .i64 0) := (blk_cell dA.out 5).trans rfl; have IC : w7.cell? ⟨jA, 6, none⟩ = some (.int .i64 0) := (blk_cell dA.out 6).trans rfl; have JC : w7.cell? ⟨jA, 7, none⟩ = some (.int .i64 0) := (blk_cell dA.out 7).trans rfl; have KC : w7.cell? ⟨jA, 8, none⟩ = some (.int .i64 0) := (blk_cell dA.out 8).trans rfl; have LC : w7.cell? ⟨jA, 9, none⟩ = some (.bool false) := (blk_cell dA.out 9).trans rfl; have QB := blk_frozen dA.out 0; have MC := blk_frozen dA.out 1; have NC := blk_frozen dA.out 2; have OC := blk_frozen dA.out 3; have PC := blk_frozen dA.out 4; have QC := blk_frozen dA.out 5; have RC := blk_frozen dA.out 6; have SC := blk_frozen dA.out 7; have TC := blk_frozen dA.out 8; have UC := blk_frozen dA.out 9))
   refine bodyPost_ret (results_cell_row rfl _ _ jA 75 #[.int .i64 a0, .int .i64 0, .int .i64 0, .int .i64 0, .int .i64 0, .int .i64 0, .int .i64 0, .int .i64 0, .int .i64 0, .bool false] (0, 0) _ rfl (by (with_reducible repeat (first | refine blk_drewN ?_ _ | refine blk_drew ?_ | refine blk_alloc ?_ _)); refine blk_put (cs := #[.int .i64 a0, .int .i64 0, .int .i64 0, .int .i64 0, .int .i64 0, .int .i64 0, .int .i64 0, .int .i64 0, .int .i64 0, .bool false]) ?_ 9 _ rfl; (with_reducible repeat (first | refine blk_drewN ?_ _ | refine blk_drew ?_ | refine blk_alloc ?_ _)); refine blk_put (cs := #[.int .i64 a0, .int .i64 0, .int .i64 0, .int .i64 0, .int .i64 0, .int .i64 0, .int .i64 0, .int .i64 0, .int .i64 0, .bool false]) ?_ 8 _ rfl; (with_reducible repeat (first | refine blk_drewN ?_ _ | refine blk_drew ?_ | refine blk_alloc ?_ _)); refine blk_put (cs := #[.int .i64 a0, .int .i64 0, .int .i64 0, .int .i64 0, .int .i64 0, .int .i64 0, .int .i64 0, .int .i64 0, .int .i64 0, .bool false]) ?_ 7 _ rfl; (with_reducible repeat (first | refine blk_drewN ?_ _ | refine blk_drew ?_ | refine blk_alloc ?_ _)); refine blk_put (cs := #[.int .i64 a0, .int .i64 0, .int .i64 0, .int .i64 0, .int .i64 0, .int .i64 0, .int .i64 0, .int .i64 0, .int .i64 0, .bool false]) ?_ 6 _ rfl; (with_reducible repeat (first | refine blk_drewN ?_ _ | refine blk_drew ?_ | refine blk_alloc ?_ _)); refine blk_put (cs := #[.int .i64 a0, .int .i64 0, .int .i64 0, .int .i64 0, .int .i64 0, .int .i64 0, .int .i64 0, .int .i64 0, .int .i64 0, .bool false]) ?_ 5 _ rfl; (with_reducible repeat (first | refine blk_drewN ?_ _ | refine blk_drew ?_ | refine blk_alloc ?_ _)); refine blk_put (cs := #[.int .i64 a0, .int .i64 0, .int .i64 0, .int .i64 0, .int .i64 0, .int .i64 0, .int .i64 0, .int .i64 0, .int .i64 0, .bool false]) ?_ 4 _ rfl; (with_reducible repeat (first | refine blk_drewN ?_ _ | refine blk_drew ?_ | refine blk_alloc ?_ _)); refine blk_put (cs := #[.int .i64 a0, .int .i64 0, .int .i64 0, .int .i64 0, .int .i64 0, .int .i64 0, .int .i64 0, .int .i64 0, .int .i64 0, .bool false]) ?_ 3 _ rfl; (with_reducible repeat (first | refine blk_drewN ?_ _ | refine blk_drew ?_ | refine blk_alloc ?_ _)); refine blk_put (cs := #[.int .i64 a0, .int .i64 0, .int .i64 0, .int .i64 0, .int .i64 0, .int .i64 0, .int .i64 0, .int .i64 0, .int .i64 0, .bool false]) ?_ 2 _ rfl; (with_reducible repeat (first | refine blk_drewN ?_ _ | refine blk_drew ?_ | refine blk_alloc ?_ _)); refine blk_put (cs := #[.int .i64 a0, .int .i64 0, .int .i64 0, .int .i64 0, .int .i64 0, .int .i64 0, .int .i64 0, .int .i64 0, .int .i64 0, .bool false]) ?_ 1 _ rfl; (with_reducible repeat (first | refine blk_drewN ?_ _ | refine blk_drew ?_ | refine blk_alloc ?_ _)); refine blk_put (cs := #[.int .i64 0, .int .i64 0, .int .i64 0, .int .i64 0, .int .i64 0, .int .i64 0, .int .i64 0, .int .i64 0, .int .i64 0, .bool false]) ?_ 0 _ rfl; (with_reducible repeat (first | refine blk_drewN ?_ _ | refine blk_drew ?_ | refine blk_alloc ?_ _)); exact dA.out) Try.underlying75 rfl q4_19) rfl ?_
   exact ⟨q4_2, q4_16⟩
  ·rw [if_neg c6] at H
   have yE : (a0 == 2) = false := beq_eq_false_iff_ne.mpr c6
   have zE : (a0 != 2) = true := bne_iff_ne.mpr c6
   simp only [Option.some.injEq, Prod.mk.injEq] at H
   obtain ⟨rfl, rfl, rfl, rfl, rfl, rfl, rfl, rfl, rfl, rfl⟩ := H
   go_enter Try.func79, Try.ntmps79
   go_wp2_with (first | ((with_reducible refine gate_dst (N := 4) rfl ?_); refine box_event ?hg (N := 4) ?hd (cs := #[.int .i64 0, .int .i64 0, .int .i64 0, .int .i64 0, .int .i64 0, .int .i64 0, .int .i64 0, .int .i64 0, .int .i64 0, .bool false]) (t := 75) ?hr ?_; (case hd => rfl); (case hg => rfl); (case hr => first | (go_simp; done) | (go_simp; rfl)); intro jA hg w9 hbox hb; have mA := Aside0.mk (below_step q4_0 hb); have nA := Aside0.mk (hbox); have oA := Aside0.mk ((q4_7 : w.heap.size ≤ jA)); have tA := Aside0.mk ((q4_7 : w.heap.size ≤ jA)); clear HB; have HB := mA; have dA := nA; have LD := oA; have wC := tA; clear mA nA oA tA; clear hb hbox hg; have XB : w9.cell? ⟨jA, 0, none⟩ = some (.int .i64 0) := (blk_cell dA.out 0).trans rfl; have YB : w9.cell? ⟨jA, 1, none⟩ = some (.int .i64 0) := (blk_cell dA.out 1).trans rfl; have ZB : w9.cell? ⟨jA, 2, none⟩ = some (.int .i64 0) := (blk_cell dA.out 2).trans rfl; have aC : w9.cell? ⟨jA, 3, none⟩ = some (.int .i64 0) := (blk_cell dA.out 3).trans rfl; have bC : w9.cell? ⟨jA, 4, none⟩ = some (.int .i64 0) := (blk_cell dA.out 4).trans rfl; have cC : w9.cell? ⟨jA, 5, none⟩ = some (.int .i64 0) := (blk_cell dA.out 5).trans rfl; have dC : w9.cell? ⟨jA, 6, none⟩ = some (.int .i64 0) := (blk_cell dA.out 6).trans rfl; have eC : w9.cell? ⟨jA, 7, none⟩ = some (.int .i64 0) := (blk_cell dA.out 7).trans rfl; have fC : w9.cell? ⟨jA, 8, none⟩ = some (.int .i64 0) := (blk_cell dA.out 8).trans rfl; have gC : w9.cell? ⟨jA, 9, none⟩ = some (.bool false) := (blk_cell dA.out 9).trans rfl; have hC := blk_frozen dA.out 0; have iC := blk_frozen dA.out 1; have jC := blk_frozen dA.out 2; have kC := blk_frozen dA.out 3; have lC := blk_frozen dA.out 4; have mC := blk_frozen dA.out 5; have nC := blk_frozen dA.out 6; have oC := blk_frozen dA.out 7; have pC := blk_frozen dA.out 8; have qC := blk_frozen dA.out 9))
   refine bodyPost_ret (results_cell_row rfl _ _ jA 75 #[.int .i64 0, .int .i64 0, .int .i64 0, .int .i64 0, .int .i64 0, .int .i64 0, .int .i64 0, .int .i64 0, .int .i64 0, .bool false] (0, 0) _ rfl (by (with_reducible repeat (first | refine blk_drewN ?_ _ | refine blk_drew ?_ | refine blk_alloc ?_ _)); refine blk_put (cs := #[.int .i64 0, .int .i64 0, .int .i64 0, .int .i64 0, .int .i64 0, .int .i64 0, .int .i64 0, .int .i64 0, .int .i64 0, .bool false]) ?_ 9 _ rfl; (with_reducible repeat (first | refine blk_drewN ?_ _ | refine blk_drew ?_ | refine blk_alloc ?_ _)); refine blk_put (cs := #[.int .i64 0, .int .i64 0, .int .i64 0, .int .i64 0, .int .i64 0, .int .i64 0, .int .i64 0, .int .i64 0, .int .i64 0, .bool false]) ?_ 8 _ rfl; (with_reducible repeat (first | refine blk_drewN ?_ _ | refine blk_drew ?_ | refine blk_alloc ?_ _)); refine blk_put (cs := #[.int .i64 0, .int .i64 0, .int .i64 0, .int .i64 0, .int .i64 0, .int .i64 0, .int .i64 0, .int .i64 0, .int .i64 0, .bool false]) ?_ 7 _ rfl; (with_reducible repeat (first | refine blk_drewN ?_ _ | refine blk_drew ?_ | refine blk_alloc ?_ _)); refine blk_put (cs := #[.int .i64 0, .int .i64 0, .int .i64 0, .int .i64 0, .int .i64 0, .int .i64 0, .int .i64 0, .int .i64 0, .int .i64 0, .bool false]) ?_ 6 _ rfl; (with_reducible repeat (first | refine blk_drewN ?_ _ | refine blk_drew ?_ | refine blk_alloc ?_ _)); refine blk_put (cs := #[.int .i64 0, .int .i64 0, .int .i64 0, .int .i64 0, .int .i64 0, .int .i64 0, .int .i64 0, .int .i64 0, .int .i64 0, .bool false]) ?_ 5 _ rfl; (with_reducible repeat (first | refine blk_drewN ?_ _ | refine blk_drew ?_ | refine blk_alloc ?_ _)); refine blk_put (cs := #[.int .i64 0, .int .i64 0, .int .i64 0, .int .i64 0, .int .i64 0, .int .i64 0, .int .i64 0, .int .i64 0, .int .i64 0, .bool false]) ?_ 4 _ rfl; (with_reducible repeat (first | refine blk_drewN ?_ _ | refine blk_drew ?_ | refine blk_alloc ?_ _)); refine blk_put (cs := #[.int .i64 0, .int .i64 0, .int .i64 0, .int .i64 0, .int .i64 0, .int .i64 0, .int .i64 0, .int .i64 0, .int .i64 0, .bool false]) ?_ 3 _ rfl; (with_reducible repeat (first | refine blk_drewN ?_ _ | refine blk_drew ?_ | refine blk_alloc ?_ _)); refine blk_put (cs := #[.int .i64 0, .int .i64 0, .int .i64 0, .int .i64 0, .int .i64 0, .int .i64 0, .int .i64 0, .int .i64 0, .int .i64 0, .bool false]) ?_ 2 _ rfl; (with_reducible repeat (first | refine blk_drewN ?_ _ | refine blk_drew ?_ | refine blk_alloc ?_ _)); refine blk_put (cs := #[.int .i64 0, .int .i64 0, .int .i64 0, .int .i64 0, .int .i64 0, .int .i64 0, .int .i64 0, .int .i64 0, .int .i64 0, .bool false]) ?_ 1 _ rfl; (with_reducible repeat (first | refine blk_drewN ?_ _ | refine blk_drew ?_ | refine blk_alloc ?_ _)); refine blk_put (cs := #[.int .i64 0, .int .i64 0, .int .i64 0, .int .i64 0, .int .i64 0, .int .i64 0, .int .i64 0, .int .i64 0, .int .i64 0, .bool false]) ?_ 0 _ rfl; (with_reducible repeat (first | refine blk_drewN ?_ _ | refine blk_drew ?_ | refine blk_alloc ?_ _)); exact dA.out) Try.underlying75 rfl q4_19) rfl ?_
   exact ⟨q4_2, q4_16⟩

/-! ### spec_RiCall: function 80 -/
def spec_RiCall.f (a0 : Int) (a1 : Int) : Option (Int × Int × Int × Int × Int × Int × Int × Int × Int × Bool) := if a0 = 1 then (some (a0, a1, 0, 0, 0, 0, 0, 0, 0, false)) else (if a0 = 2 then (some (a0, 0, 0, 0, 0, 0, 0, 0, 0, false)) else (some (0, 0, 0, 0, 0, 0, 0, 0, 0, false)))
set_option maxHeartbeats 8000000 in
set_option maxRecDepth 100000 in
theorem spec_RiCall.calls (a0 : Int) (a1 : Int) (r1 : Int) (r2 : Int) (r3 : Int) (r4 : Int) (r5 : Int) (r6 : Int) (r7 : Int) (r8 : Int) (r9 : Int) (r10 : Bool) (w : World) (h : spec_RiCall.f a0 a1 = some (r1, r2, r3, r4, r5, r6, r7, r8, r9, r10)) :
  Calls Try.prog 80 #[.int .i64 a0, .int .i64 a1] w fun e w' => e = .returned (.agg #[.int .i64 r1, .int .i64 r2, .int .i64 r3, .int .i64 r4, .int .i64 r5, .int .i64 r6, .int .i64 r7, .int .i64 r8, .int .i64 r9, .bool r10]) ∧ Below w.heap.size w w' := by
 have hu75 := Try.underlying75
 have HB := Aside0.mk (Below.refl w.heap.size w)
 have H : (if a0 = 1 then (some (a0, a1, 0, 0, 0, 0, 0, 0, 0, false)) else (if a0 = 2 then (some (a0, 0, 0, 0, 0, 0, 0, 0, 0, false)) else (some (0, 0, 0, 0, 0, 0, 0, 0, 0, false)))) = some (r1, r2, r3, r4, r5, r6, r7, r8, r9, r10) := h
 clear h
 by_cases c3 : a0 = 1
 ·rw [if_pos c3] at H
  have nB : (a0 == 1) = true := beq_iff_eq.mpr c3
  have RB : (a0 != 1) = false := bne_eq_false_iff_eq.mpr c3
  clear c3
  simp only [Option.some.injEq, Prod.mk.injEq] at H
  obtain ⟨rfl, rfl, rfl, rfl, rfl, rfl, rfl, rfl, rfl, rfl⟩ := H
  go_enter Try.func80, Try.ntmps80
  go_wp2_with (first | ((with_reducible refine gate_dst (N := 4) rfl ?_); refine box_event ?hg (N := 4) ?hd (cs := #[.int .i64 0, .int .i64 0, .int .i64 0, .int .i64 0, .int .i64 0, .int .i64 0, .int .i64 0, .int .i64 0, .int .i64 0, .bool false]) (t := 75) ?hr ?_; (case hd => rfl); (case hg => rfl); (case hr => first | (go_simp; done) | (go_simp; rfl)); intro kA hg w4 hbox hb; have mA := Aside0.mk (below_step q4_0 hb); have nA := Aside0.mk (hbox); have oA := Aside0.mk ((q4_7 : w.heap.size ≤ kA)); have tA := Aside0.mk ((q4_7 : w.heap.size ≤ kA)); clear HB; have HB := mA; have eA := nA; have MD := oA; have xC := tA; clear mA nA oA tA; clear hb hbox hg; have eE : w4.cell? ⟨kA, 0, none⟩ = some (.int .i64 0) := (blk_cell eA.out 0).trans rfl; have fE : w4.cell? ⟨kA, 1, none⟩ = some (.int .i64 0) := (blk_cell eA.out 1).trans rfl; have gE : w4.cell? ⟨kA, 2, none⟩ = some (.int .i64 0) := (blk_cell eA.out 2).trans rfl; have hE : w4.cell? ⟨kA, 3, none⟩ = some (.int .i64 0) := (blk_cell eA.out 3).trans rfl; have iE : w4.cell? ⟨kA, 4, none⟩ = some (.int .i64 0) := (blk_cell eA.out 4).trans rfl; have jE : w4.cell? ⟨kA, 5, none⟩ = some (.int .i64 0) := (blk_cell eA.out 5).trans rfl; have kE : w4.cell? ⟨kA, 6, none⟩ = some (.int .i64 0) := (blk_cell eA.out 6).trans rfl; have lE : w4.cell? ⟨kA, 7, none⟩ = some (.int .i64 0) := (blk_cell eA.out 7).trans rfl; have mE : w4.cell? ⟨kA, 8, none⟩ = some (.int .i64 0) := (blk_cell eA.out 8).trans rfl; have nE : w4.cell? ⟨kA, 9, none⟩ = some (.bool false) := (blk_cell eA.out 9).trans rfl; have oE := blk_frozen eA.out 0; have pE := blk_frozen eA.out 1; have qE := blk_frozen eA.out 2; have rE := blk_frozen eA.out 3; have sE := blk_frozen eA.out 4; have tE := blk_frozen eA.out 5; have uE := blk_frozen eA.out 6; have vE := blk_frozen eA.out 7; have wE := blk_frozen eA.out 8; have xE := blk_frozen eA.out 9))
  refine bodyPost_ret (results_cell_row rfl _ _ kA 75 #[.int .i64 a0, .int .i64 a1, .int .i64 0, .int .i64 0, .int .i64 0, .int .i64 0, .int .i64 0, .int .i64 0, .int .i64 0, .bool false] (0, 0) _ rfl (by (with_reducible repeat (first | refine blk_drewN ?_ _ | refine blk_drew ?_ | refine blk_alloc ?_ _)); refine blk_put (cs := #[.int .i64 a0, .int .i64 a1, .int .i64 0, .int .i64 0, .int .i64 0, .int .i64 0, .int .i64 0, .int .i64 0, .int .i64 0, .bool false]) ?_ 9 _ rfl; (with_reducible repeat (first | refine blk_drewN ?_ _ | refine blk_drew ?_ | refine blk_alloc ?_ _)); refine blk_put (cs := #[.int .i64 a0, .int .i64 a1, .int .i64 0, .int .i64 0, .int .i64 0, .int .i64 0, .int .i64 0, .int .i64 0, .int .i64 0, .bool false]) ?_ 8 _ rfl; (with_reducible repeat (first | refine blk_drewN ?_ _ | refine blk_drew ?_ | refine blk_alloc ?_ _)); refine blk_put (cs := #[.int .i64 a0, .int .i64 a1, .int .i64 0, .int .i64 0, .int .i64 0, .int .i64 0, .int .i64 0, .int .i64 0, .int .i64 0, .bool false]) ?_ 7 _ rfl; (with_reducible repeat (first | refine blk_drewN ?_ _ | refine blk_drew ?_ | refine blk_alloc ?_ _)); refine blk_put (cs := #[.int .i64 a0, .int .i64 a1, .int .i64 0, .int .i64 0, .int .i64 0, .int .i64 0, .int .i64 0, .int .i64 0, .int .i64 0, .bool false]) ?_ 6 _ rfl; (with_reducible repeat (first | refine blk_drewN ?_ _ | refine blk_drew ?_ | refine blk_alloc ?_ _)); refine blk_put (cs := #[.int .i64 a0, .int .i64 a1, .int .i64 0, .int .i64 0, .int .i64 0, .int .i64 0, .int .i64 0, .int .i64 0, .int .i64 0, .bool false]) ?_ 5 _ rfl; (with_reducible repeat (first | refine blk_drewN ?_ _ | refine blk_drew ?_ | refine blk_alloc ?_ _)); refine blk_put (cs := #[.int .i64 a0, .int .i64 a1, .int .i64 0, .int .i64 0, .int .i64 0, .int .i64 0, .int .i64 0, .int .i64 0, .int .i64 0, .bool false]) ?_ 4 _ rfl; (with_reducible repeat (first | refine blk_drewN ?_ _ | refine blk_drew ?_ | refine blk_alloc ?_ _)); refine blk_put (cs := #[.int .i64 a0, .int .i64 a1, .int .i64 0, .int .i64 0, .int .i64 0, .int .i64 0, .int .i64 0, .int .i64 0, .int .i64 0, .bool false]) ?_ 3 _ rfl; (with_reducible repeat (first | refine blk_drewN ?_ _ | refine blk_drew ?_ | refine blk_alloc ?_ _)); refine blk_put (cs := #[.int .i64 a0, .int .i64 a1, .int .i64 0, .int .i64 0, .int .i64 0, .int .i64 0, .int .i64 0, .int .i64 0, .int .i64 0, .bool false]) ?_ 2 _ rfl; (with_reducible repeat (first | refine blk_drewN ?_ _ | refine blk_drew ?_ | refine blk_alloc ?_ _)); refine blk_put (cs := #[.int .i64 a0, .int .i64 0, .int .i64 0, .int .i64 0, .int .i64 0, .int .i64 0, .int .i64 0, .int .i64 0, .int .i64 0, .bool false]) ?_ 1 _ rfl; (with_reducible repeat (first | refine blk_drewN ?_ _ | refine blk_drew ?_ | refine blk_alloc ?_ _)); refine blk_put (cs := #[.int .i64 0, .int .i64 0, .int .i64 0, .int .i64 0, .int .i64 0, .int .i64 0, .int .i64 0, .int .i64 0, .int .i64 0, .bool false]) ?_ 0 _ rfl; (with_reducible repeat (first | refine blk_drewN ?_ _ | refine blk_drew ?_ | refine blk_alloc ?_ _)); exact eA.out) Try.underlying75 rfl q4_19) rfl ?_
  exact ⟨q4_2, q4_17⟩
 ·rw [if_neg c3] at H
  have nB : (a0 == 1) = false := beq_eq_false_iff_ne.mpr c3
  have RB : (a0 != 1) = true := bne_iff_ne.mpr c3
  by_cases c6 : a0 = 2
  ·rw [if_pos c6] at H
   have yE : (a0 == 2) = true := beq_iff_eq.mpr c6
   have zE : (a0 != 2) = false := bne_eq_false_iff_eq.mpr c6
   clear c6
   simp only [Option.some.injEq, Prod.mk.injEq] at H
   obtain ⟨rfl, rfl, rfl, rfl, rfl, rfl, rfl, rfl, rfl, rfl⟩ := H
   go_enter Try.func80, Try.ntmps80
   go_wp2_with (first | ((with_reducible refine gate_dst (N := 4) rfl ?_); refine box_event ?hg (N := 4) ?hd (cs := #[.int .i64 0, .int .i64 0, .int .i64 0, .int .i64 0, .int .i64 0, .int .i64 0, .int .i64 0, .int .i64 0, .int .i64 0, .bool false]) (t := 75) ?hr ?_; (case hd => rfl); (case hg => rfl); (case hr => first | (go_simp; done) | (go_simp; rfl)); intro kA hg w7 hbox hb; have mA := Aside0.mk (below_step q4_0 hb); have nA := Aside0.mk (hbox); have oA := Aside0.mk ((q4_7 : w.heap.size ≤ kA)); have tA := Aside0.mk ((q4_7 : w.heap.size ≤ kA)); clear HB; have HB := mA; have eA := nA; have MD := oA; have xC := tA; clear mA nA oA tA; clear hb hbox hg; have PB : w7.cell? ⟨kA, 0, none⟩ = some (.int .i64 0) := (blk_cell eA.out 0).trans rfl; have DC : w7.cell? ⟨kA, 1, none⟩ = some (.int .i64 0) := (blk_cell eA.out 1).trans rfl; have EC : w7.cell? ⟨kA, 2, none⟩ = some (.int .i64 0) := (blk_cell eA.out 2).trans rfl; have FC : w7.cell? ⟨kA, 3, none⟩ = some (.int .i64 0) := (blk_cell eA.out 3).trans rfl; have GC : w7.cell? ⟨kA, 4, none⟩ = some (.int .i64 0) := (blk_cell eA.out 4).trans rfl; have HC : w7.cell? ⟨kA, 5, none⟩ = some (.int .i64 0) := (blk_cell eA.out 5).trans rfl; have IC : w7.cell? ⟨kA, 6, none⟩ = some (.int .i64 0) := (blk_cell eA.out 6).trans rfl; have JC : w7.cell? ⟨kA, 7, none⟩ = some (.int .i64 0) := (blk_cell eA.out 7).trans rfl; have KC : w7.cell? ⟨kA, 8, none⟩ = some (.int .i64 0) := (blk_cell eA.out 8).trans rfl; have LC : w7.cell? ⟨kA, 9, none⟩ = some (.bool false) := (blk_cell eA.out 9).trans rfl; have QB := blk_frozen eA.out 0; have MC := blk_frozen eA.out 1; have NC := blk_frozen eA.out 2; have OC := blk_frozen eA.out 3; have PC := blk_frozen eA.out 4; have QC := blk_frozen eA.out 5; have RC := blk_frozen eA.out 6; have SC := blk_frozen eA.out 7; have TC := blk_frozen eA.out 8; have UC := blk_frozen eA.out 9))
   refine bodyPost_ret (results_cell_row rfl _ _ kA 75 #[.int .i64 a0, .int .i64 0, .int .i64 0, .int .i64 0, .int .i64 0, .int .i64 0, .int .i64 0, .int .i64 0, .int .i64 0, .bool false] (0, 0) _ rfl (by (with_reducible repeat (first | refine blk_drewN ?_ _ | refine blk_drew ?_ | refine blk_alloc ?_ _)); refine blk_put (cs := #[.int .i64 a0, .int .i64 0, .int .i64 0, .int .i64 0, .int .i64 0, .int .i64 0, .int .i64 0, .int .i64 0, .int .i64 0, .bool false]) ?_ 9 _ rfl; (with_reducible repeat (first | refine blk_drewN ?_ _ | refine blk_drew ?_ | refine blk_alloc ?_ _)); refine blk_put (cs := #[.int .i64 a0, .int .i64 0, .int .i64 0, .int .i64 0, .int .i64 0, .int .i64 0, .int .i64 0, .int .i64 0, .int .i64 0, .bool false]) ?_ 8 _ rfl; (with_reducible repeat (first | refine blk_drewN ?_ _ | refine blk_drew ?_ | refine blk_alloc ?_ _)); refine blk_put (cs := #[.int .i64 a0, .int .i64 0, .int .i64 0, .int .i64 0, .int .i64 0, .int .i64 0, .int .i64 0, .int .i64 0, .int .i64 0, .bool false]) ?_ 7 _ rfl; (with_reducible repeat (first | refine blk_drewN ?_ _ | refine blk_drew ?_ | refine blk_alloc ?_ _)); refine blk_put (cs := #[.int .i64 a0, .int .i64 0, .int .i64 0, .int .i64 0, .int .i64 0, .int .i64 0, .int .i64 0, .int .i64 0, .int .i64 0, .bool false]) ?_ 6 _ rfl; (with_reducible repeat (first | refine blk_drewN ?_ _ | refine blk_drew ?_ | refine blk_alloc ?_ _)); refine blk_put (cs := #[.int .i64 a0, .int .i64 0, .int .i64 0, .int .i64 0, .int .i64 0, .int .i64 0, .int .i64 0, .int .i64 0, .int .i64 0, .bool false]) ?_ 5 _ rfl; (with_reducible repeat (first | refine blk_drewN ?_ _ | refine blk_drew ?_ | refine blk_alloc ?_ _)); refine blk_put (cs := #[.int .i64 a0, .int .i64 0, .int .i64 0, .int .i64 0, .int .i64 0, .int .i64 0, .int .i64 0, .int .i64 0, .int .i64 0, .bool false]) ?_ 4 _ rfl; (with_reducible repeat (first | refine blk_drewN ?_ _ | refine blk_drew ?_ | refine blk_alloc ?_ _)); refine blk_put (cs := #[.int .i64 a0, .int .i64 0, .int .i64 0, .int .i64 0, .int .i64 0, .int .i64 0, .int .i64 0, .int .i64 0, .int .i64 0, .bool false]) ?_ 3 _ rfl; (with_reducible repeat (first | refine blk_drewN ?_ _ | refine blk_drew ?_ | refine blk_alloc ?_ _)); refine blk_put (cs := #[.int .i64 a0, .int .i64 0, .int .i64 0, .int .i64 0, .int .i64 0, .int .i64 0, .int .i64 0, .int .i64 0, .int .i64 0, .bool false]) ?_ 2 _ rfl; (with_reducible repeat (first | refine blk_drewN ?_ _ | refine blk_drew ?_ | refine blk_alloc ?_ _)); refine blk_put (cs := #[.int .i64 a0, .int .i64 0, .int .i64 0, .int .i64 0, .int .i64 0, .int .i64 0, .int .i64 0, .int .i64 0, .int .i64 0, .bool false]) ?_ 1 _ rfl; (with_reducible repeat (first | refine blk_drewN ?_ _ | refine blk_drew ?_ | refine blk_alloc ?_ _)); refine blk_put (cs := #[.int .i64 0, .int .i64 0, .int .i64 0, .int .i64 0, .int .i64 0, .int .i64 0, .int .i64 0, .int .i64 0, .int .i64 0, .bool false]) ?_ 0 _ rfl; (with_reducible repeat (first | refine blk_drewN ?_ _ | refine blk_drew ?_ | refine blk_alloc ?_ _)); exact eA.out) Try.underlying75 rfl q4_19) rfl ?_
   exact ⟨q4_2, q4_17⟩
  ·rw [if_neg c6] at H
   have yE : (a0 == 2) = false := beq_eq_false_iff_ne.mpr c6
   have zE : (a0 != 2) = true := bne_iff_ne.mpr c6
   simp only [Option.some.injEq, Prod.mk.injEq] at H
   obtain ⟨rfl, rfl, rfl, rfl, rfl, rfl, rfl, rfl, rfl, rfl⟩ := H
   go_enter Try.func80, Try.ntmps80
   go_wp2_with (first | ((with_reducible refine gate_dst (N := 4) rfl ?_); refine box_event ?hg (N := 4) ?hd (cs := #[.int .i64 0, .int .i64 0, .int .i64 0, .int .i64 0, .int .i64 0, .int .i64 0, .int .i64 0, .int .i64 0, .int .i64 0, .bool false]) (t := 75) ?hr ?_; (case hd => rfl); (case hg => rfl); (case hr => first | (go_simp; done) | (go_simp; rfl)); intro kA hg w9 hbox hb; have mA := Aside0.mk (below_step q4_0 hb); have nA := Aside0.mk (hbox); have oA := Aside0.mk ((q4_7 : w.heap.size ≤ kA)); have tA := Aside0.mk ((q4_7 : w.heap.size ≤ kA)); clear HB; have HB := mA; have eA := nA; have MD := oA; have xC := tA; clear mA nA oA tA; clear hb hbox hg; have XB : w9.cell? ⟨kA, 0, none⟩ = some (.int .i64 0) := (blk_cell eA.out 0).trans rfl; have YB : w9.cell? ⟨kA, 1, none⟩ = some (.int .i64 0) := (blk_cell eA.out 1).trans rfl; have ZB : w9.cell? ⟨kA, 2, none⟩ = some (.int .i64 0) := (blk_cell eA.out 2).trans rfl; have aC : w9.cell? ⟨kA, 3, none⟩ = some (.int .i64 0) := (blk_cell eA.out 3).trans rfl; have bC : w9.cell? ⟨kA, 4, none⟩ = some (.int .i64 0) := (blk_cell eA.out 4).trans rfl; have cC : w9.cell? ⟨kA, 5, none⟩ = some (.int .i64 0) := (blk_cell eA.out 5).trans rfl; have dC : w9.cell? ⟨kA, 6, none⟩ = some (.int .i64 0) := (blk_cell eA.out 6).trans rfl; have eC : w9.cell? ⟨kA, 7, none⟩ = some (.int .i64 0) := (blk_cell eA.out 7).trans rfl; have fC : w9.cell? ⟨kA, 8, none⟩ = some (.int .i64 0) := (blk_cell eA.out 8).trans rfl; have gC : w9.cell? ⟨kA, 9, none⟩ = some (.bool false) := (blk_cell eA.out 9).trans rfl; have hC := blk_frozen eA.out 0; have iC := blk_frozen eA.out 1; have jC := blk_frozen eA.out 2; have kC := blk_frozen eA.out 3; have lC := blk_frozen eA.out 4; have mC := blk_frozen eA.out 5; have nC := blk_frozen eA.out 6; have oC := blk_frozen eA.out 7; have pC := blk_frozen eA.out 8; have qC := blk_frozen eA.out 9))
   refine bodyPost_ret (results_cell_row rfl _ _ kA 75 #[.int .i64 0, .int .i64 0, .int .i64 0, .int .i64 0, .int .i64 0, .int .i64 0, .int .i64 0, .int .i64 0, .int .i64 0, .bool false] (0, 0) _ rfl (by (with_reducible repeat (first | refine blk_drewN ?_ _ | refine blk_drew ?_ | refine blk_alloc ?_ _)); refine blk_put (cs := #[.int .i64 0, .int .i64 0, .int .i64 0, .int .i64 0, .int .i64 0, .int .i64 0, .int .i64 0, .int .i64 0, .int .i64 0, .bool false]) ?_ 9 _ rfl; (with_reducible repeat (first | refine blk_drewN ?_ _ | refine blk_drew ?_ | refine blk_alloc ?_ _)); refine blk_put (cs := #[.int .i64 0, .int .i64 0, .int .i64 0, .int .i64 0, .int .i64 0, .int .i64 0, .int .i64 0, .int .i64 0, .int .i64 0, .bool false]) ?_ 8 _ rfl; (with_reducible repeat (first | refine blk_drewN ?_ _ | refine blk_drew ?_ | refine blk_alloc ?_ _)); refine blk_put (cs := #[.int .i64 0, .int .i64 0, .int .i64 0, .int .i64 0, .int .i64 0, .int .i64 0, .int .i64 0, .int .i64 0, .int .i64 0, .bool false]) ?_ 7 _ rfl; (with_reducible repeat (first | refine blk_drewN ?_ _ | refine blk_drew ?_ | refine blk_alloc ?_ _)); refine blk_put (cs := #[.int .i64 0, .int .i64 0, .int .i64 0, .int .i64 0, .int .i64 0, .int .i64 0, .int .i64 0, .int .i64 0, .int .i64 0, .bool false]) ?_ 6 _ rfl; (with_reducible repeat (first | refine blk_drewN ?_ _ | refine blk_drew ?_ | refine blk_alloc ?_ _)); refine blk_put (cs := #[.int .i64 0, .int .i64 0, .int .i64 0, .int .i64 0, .int .i64 0, .int .i64 0, .int .i64 0, .int .i64 0, .int .i64 0, .bool false]) ?_ 5 _ rfl; (with_reducible repeat (first | refine blk_drewN ?_ _ | refine blk_drew ?_ | refine blk_alloc ?_ _)); refine blk_put (cs := #[.int .i64 0, .int .i64 0, .int .i64 0, .int .i64 0, .int .i64 0, .int .i64 0, .int .i64 0, .int .i64 0, .int .i64 0, .bool false]) ?_ 4 _ rfl; (with_reducible repeat (first | refine blk_drewN ?_ _ | refine blk_drew ?_ | refine blk_alloc ?_ _)); refine blk_put (cs := #[.int .i64 0, .int .i64 0, .int .i64 0, .int .i64 0, .int .i64 0, .int .i64 0, .int .i64 0, .int .i64 0, .int .i64 0, .bool false]) ?_ 3 _ rfl; (with_reducible repeat (first | refine blk_drewN ?_ _ | refine blk_drew ?_ | refine blk_alloc ?_ _)); refine blk_put (cs := #[.int .i64 0, .int .i64 0, .int .i64 0, .int .i64 0, .int .i64 0, .int .i64 0, .int .i64 0, .int .i64 0, .int .i64 0, .bool false]) ?_ 2 _ rfl; (with_reducible repeat (first | refine blk_drewN ?_ _ | refine blk_drew ?_ | refine blk_alloc ?_ _)); refine blk_put (cs := #[.int .i64 0, .int .i64 0, .int .i64 0, .int .i64 0, .int .i64 0, .int .i64 0, .int .i64 0, .int .i64 0, .int .i64 0, .bool false]) ?_ 1 _ rfl; (with_reducible repeat (first | refine blk_drewN ?_ _ | refine blk_drew ?_ | refine blk_alloc ?_ _)); refine blk_put (cs := #[.int .i64 0, .int .i64 0, .int .i64 0, .int .i64 0, .int .i64 0, .int .i64 0, .int .i64 0, .int .i64 0, .int .i64 0, .bool false]) ?_ 0 _ rfl; (with_reducible repeat (first | refine blk_drewN ?_ _ | refine blk_drew ?_ | refine blk_alloc ?_ _)); exact eA.out) Try.underlying75 rfl q4_19) rfl ?_
   exact ⟨q4_2, q4_17⟩

/-! ### spec_LiCall: function 81 -/
def spec_LiCall.f (a0 : Int) (a1 : Int) (a2 : Int) : Option (Int × Int × Int × Int × Int × Int × Int × Int × Int × Bool) := if a0 = 1 then (some (a0, a1, a2, 0, 0, 0, 0, 0, 0, false)) else (if a0 = 2 then (some (a0, a1, 0, 0, 0, 0, 0, 0, 0, false)) else (if a0 = 3 then (some (a0, a1, 0, 0, 0, 0, 0, 0, 0, false)) else (some (0, 0, 0, 0, 0, 0, 0, 0, 0, false))))
set_option maxHeartbeats 8000000 in
set_option maxRecDepth 100000 in
theorem spec_LiCall.calls (a0 : Int) (a1 : Int) (a2 : Int) (r1 : Int) (r2 : Int) (r3 : Int) (r4 : Int) (r5 : Int) (r6 : Int) (r7 : Int) (r8 : Int) (r9 : Int) (r10 : Bool) (w : World) (h : spec_LiCall.f a0 a1 a2 = some (r1, r2, r3, r4, r5, r6, r7, r8, r9, r10)) :
  Calls Try.prog 81 #[.int .i64 a0, .int .i64 a1, .int .i64 a2] w fun e w' => e = .returned (.agg #[.int .i64 r1, .int .i64 r2, .int .i64 r3, .int .i64 r4, .int .i64 r5, .int .i64 r6, .int .i64 r7, .int .i64 r8, .int .i64 r9, .bool r10]) ∧ Below w.heap.size w w' := by
 have hu75 := Try.underlying75
 have HB := Aside0.mk (Below.refl w.heap.size w)
 have H : (if a0 = 1 then (some (a0, a1, a2, 0, 0, 0, 0, 0, 0, false)) else (if a0 = 2 then (some (a0, a1, 0, 0, 0, 0, 0, 0, 0, false)) else (if a0 = 3 then (some (a0, a1, 0, 0, 0, 0, 0, 0, 0, false)) else (some (0, 0, 0, 0, 0, 0, 0, 0, 0, false))))) = some (r1, r2, r3, r4, r5, r6, r7, r8, r9, r10) := h
 clear h
 by_cases c4 : a0 = 1
 ·rw [if_pos c4] at H
  have iB : (a0 == 1) = true := beq_iff_eq.mpr c4
  have dE : (a0 != 1) = false := bne_eq_false_iff_eq.mpr c4
  clear c4
  simp only [Option.some.injEq, Prod.mk.injEq] at H
  obtain ⟨rfl, rfl, rfl, rfl, rfl, rfl, rfl, rfl, rfl, rfl⟩ := H
  go_enter Try.func81, Try.ntmps81
  go_wp2_with (first | ((with_reducible refine gate_dst (N := 6) rfl ?_); refine box_event ?hg (N := 6) ?hd (cs := #[.int .i64 0, .int .i64 0, .int .i64 0, .int .i64 0, .int .i64 0, .int .i64 0, .int .i64 0, .int .i64 0, .int .i64 0, .bool false]) (t := 75) ?hr ?_; (case hd => rfl); (case hg => rfl); (case hr => first | (go_simp; done) | (go_simp; rfl)); intro gA hg w5 hbox hb; have mA := Aside0.mk (below_step q4_0 hb); have nA := Aside0.mk (hbox); have oA := Aside0.mk ((q4_7 : w.heap.size ≤ gA)); have tA := Aside0.mk ((q4_7 : w.heap.size ≤ gA)); clear HB; have HB := mA; have aA := nA; have VC := oA; have WB := tA; clear mA nA oA tA; clear hb hbox hg; have zC : w5.cell? ⟨gA, 0, none⟩ = some (.int .i64 0) := (blk_cell aA.out 0).trans rfl; have UD : w5.cell? ⟨gA, 1, none⟩ = some (.int .i64 0) := (blk_cell aA.out 1).trans rfl; have VD : w5.cell? ⟨gA, 2, none⟩ = some (.int .i64 0) := (blk_cell aA.out 2).trans rfl; have WD : w5.cell? ⟨gA, 3, none⟩ = some (.int .i64 0) := (blk_cell aA.out 3).trans rfl; have XD : w5.cell? ⟨gA, 4, none⟩ = some (.int .i64 0) := (blk_cell aA.out 4).trans rfl; have dH : w5.cell? ⟨gA, 5, none⟩ = some (.int .i64 0) := (blk_cell aA.out 5).trans rfl; have eH : w5.cell? ⟨gA, 6, none⟩ = some (.int .i64 0) := (blk_cell aA.out 6).trans rfl; have fH : w5.cell? ⟨gA, 7, none⟩ = some (.int .i64 0) := (blk_cell aA.out 7).trans rfl; have gH : w5.cell? ⟨gA, 8, none⟩ = some (.int .i64 0) := (blk_cell aA.out 8).trans rfl; have hH : w5.cell? ⟨gA, 9, none⟩ = some (.bool false) := (blk_cell aA.out 9).trans rfl; have AC := blk_frozen aA.out 0; have YD := blk_frozen aA.out 1; have ZD := blk_frozen aA.out 2; have aE := blk_frozen aA.out 3; have bE := blk_frozen aA.out 4; have iH := blk_frozen aA.out 5; have jH := blk_frozen aA.out 6; have kH := blk_frozen aA.out 7; have lH := blk_frozen aA.out 8; have mH := blk_frozen aA.out 9))
  refine bodyPost_ret (results_cell_row rfl _ _ gA 75 #[.int .i64 a0, .int .i64 a1, .int .i64 a2, .int .i64 0, .int .i64 0, .int .i64 0, .int .i64 0, .int .i64 0, .int .i64 0, .bool false] (0, 0) _ rfl (by (with_reducible repeat (first | refine blk_drewN ?_ _ | refine blk_drew ?_ | refine blk_alloc ?_ _)); refine blk_put (cs := #[.int .i64 a0, .int .i64 a1, .int .i64 a2, .int .i64 0, .int .i64 0, .int .i64 0, .int .i64 0, .int .i64 0, .int .i64 0, .bool false]) ?_ 9 _ rfl; (with_reducible repeat (first | refine blk_drewN ?_ _ | refine blk_drew ?_ | refine blk_alloc ?_ _)); refine blk_put (cs := #[.int .i64 a0, .int .i64 a1, .int .i64 a2, .int .i64 0, .int .i64 0, .int .i64 0, .int .i64 0, .int .i64 0, .int .i64 0, .bool false]) ?_ 8 _ rfl; (with_reducible repeat (first | refine blk_drewN ?_ _ | refine blk_drew ?_ | refine blk_alloc ?_ _)); refine blk_put (cs := #[.int .i64 a0, .int .i64 a1, .int .i64 a2, .int .i64 0, .int .i64 0, .int .i64 0, .int .i64 0, .int .i64 0, .int .i64 0, .bool false]) ?_ 7 _ rfl; (with_reducible repeat (first | refine blk_drewN ?_ _ | refine blk_drew ?_ | refine blk_alloc ?_ _)); refine blk_put (cs := #[.int .i64 a0, .int .i64 a1, .int .i64 a2, .int .i64 0, .int .i64 0, .int .i64 0, .int .i64 0, .int .i64 0, .int .i64 0, .bool false]) ?_ 6 _ rfl; (with_reducible repeat (first | refine blk_drewN ?_ _ | refine blk_drew ?_ | refine blk_alloc ?_ _)); refine blk_put (cs := #[.int .i64 a0, .int .i64 a1, .int .i64 a2, .int .i64 0, .int .i64 0, .int .i64 0, .int .i64 0, .int .i64 0, .int .i64 0, .bool false]) ?_ 5 _ rfl; (with_reducible repeat (first | refine blk_drewN ?_ _ | refine blk_drew ?_ | refine blk_alloc ?_ _)); refine blk_put (cs := #[.int .i64 a0, .int .i64 a1, .int .i64 a2, .int .i64 0, .int .i64 0, .int .i64 0, .int .i64 0, .int .i64 0, .int .i64 0, .bool false]) ?_ 4 _ rfl; (with_reducible repeat (first | refine blk_drewN ?_ _ | refine blk_drew ?_ | refine blk_alloc ?_ _)); refine blk_put (cs := #[.int .i64 a0, .int .i64 a1, .int .i64 a2, .int .i64 0, .int .i64 0, .int .i64 0, .int .i64 0, .int .i64 0, .int .i64 0, .bool false]) ?_ 3 _ rfl; (with_reducible repeat (first | refine blk_drewN ?_ _ | refine blk_drew ?_ | refine blk_alloc ?_ _)); refine blk_put (cs := #[.int .i64 a0, .int .i64 a1, .int .i64 0, .int .i64 0, .int .i64 0, .int .i64 0, .int .i64 0, .int .i64 0, .int .i64 0, .bool false]) ?_ 2 _ rfl; (with_reducible repeat (first | refine blk_drewN ?_ _ | refine blk_drew ?_ | refine blk_alloc ?_ _)); refine blk_put (cs := #[.int .i64 a0, .int .i64 0, .int .i64 0, .int .i64 0, .int .i64 0, .int .i64 0, .int .i64 0, .int .i64 0, .int .i64 0, .bool false]) ?_ 1 _ rfl; (with_reducible repeat (first | refine blk_drewN ?_ _ | refine blk_drew ?_ | refine blk_alloc ?_ _)); refine blk_put (cs := #[.int .i64 0, .int .i64 0, .int .i64 0, .int .i64 0, .int .i64 0, .int .i64 0, .int .i64 0, .int .i64 0, .int .i64 0, .bool false]) ?_ 0 _ rfl; (with_reducible repeat (first | refine blk_drewN ?_ _ | refine blk_drew ?_ | refine blk_alloc ?_ _)); exact aA.out) Try.underlying75 rfl q4_19) rfl ?_
  exact ⟨q4_2, q4_10⟩
 ·rw [if_neg c4] at H
  have iB : (a0 == 1) = false := beq_eq_false_iff_ne.mpr c4
  have dE : (a0 != 1) = true := bne_iff_ne.mpr c4
  by_cases c7 : a0 = 2
  ·rw [if_pos c7] at H
   have SD : (a0 == 2) = true := beq_iff_eq.mpr c7
   have nH : (a0 != 2) = false := bne_eq_false_iff_eq.mpr c7
   clear c7
   simp only [Option.some.injEq, Prod.mk.injEq] at H
   obtain ⟨rfl, rfl, rfl, rfl, rfl, rfl, rfl, rfl, rfl, rfl⟩ := H
   go_enter Try.func81, Try.ntmps81
   go_wp2_with (first | ((with_reducible refine gate_dst (N := 6) rfl ?_); refine box_event ?hg (N := 6) ?hd (cs := #[.int .i64 0, .int .i64 0, .int .i64 0, .int .i64 0, .int .i64 0, .int .i64 0, .int .i64 0, .int .i64 0, .int .i64 0, .bool false]) (t := 75) ?hr ?_; (case hd => rfl); (case hg => rfl); (case hr => first | (go_simp; done) | (go_simp; rfl)); intro gA hg w8 hbox hb; have mA := Aside0.mk (below_step q4_0 hb); have nA := Aside0.mk (hbox); have oA := Aside0.mk ((q4_7 : w.heap.size ≤ gA)); have tA := Aside0.mk ((q4_7 : w.heap.size ≤ gA)); clear HB; have HB := mA; have aA := nA; have VC := oA; have WB := tA; clear mA nA oA tA; clear hb hbox hg; have oH : w8.cell? ⟨gA, 0, none⟩ = some (.int .i64 0) := (blk_cell aA.out 0).trans rfl; have pH : w8.cell? ⟨gA, 1, none⟩ = some (.int .i64 0) := (blk_cell aA.out 1).trans rfl; have qH : w8.cell? ⟨gA, 2, none⟩ = some (.int .i64 0) := (blk_cell aA.out 2).trans rfl; have rH : w8.cell? ⟨gA, 3, none⟩ = some (.int .i64 0) := (blk_cell aA.out 3).trans rfl; have sH : w8.cell? ⟨gA, 4, none⟩ = some (.int .i64 0) := (blk_cell aA.out 4).trans rfl; have tH : w8.cell? ⟨gA, 5, none⟩ = some (.int .i64 0) := (blk_cell aA.out 5).trans rfl; have uH : w8.cell? ⟨gA, 6, none⟩ = some (.int .i64 0) := (blk_cell aA.out 6).trans rfl; have vH : w8.cell? ⟨gA, 7, none⟩ = some (.int .i64 0) := (blk_cell aA.out 7).trans rfl; have wH : w8.cell? ⟨gA, 8, none⟩ = some (.int .i64 0) := (blk_cell aA.out 8).trans rfl; have xH : w8.cell? ⟨gA, 9, none⟩ = some (.bool false) := (blk_cell aA.out 9).trans rfl; have yH := blk_frozen aA.out 0; have zH := blk_frozen aA.out 1; have AH := blk_frozen aA.out 2; have BH := blk_frozen aA.out 3; have CH := blk_frozen aA.out 4; have DH := blk_frozen aA.out 5; have EH := blk_frozen aA.out 6; have FH := blk_frozen aA.out 7; have GH := blk_frozen aA.out 8; have HH := blk_frozen aA.out 9))
   refine bodyPost_ret (results_cell_row rfl _ _ gA 75 #[.int .i64 a0, .int .i64 a1, .int .i64 0, .int .i64 0, .int .i64 0, .int .i64 0, .int .i64 0, .int .i64 0, .int .i64 0, .bool false] (0, 0) _ rfl q4_1 Try.underlying75 rfl q4_19) rfl ?_
   exact ⟨q4_2, q4_10⟩
  ·rw [if_neg c7] at H
   have SD : (a0 == 2) = false := beq_eq_false_iff_ne.mpr c7
   have nH : (a0 != 2) = true := bne_iff_ne.mpr c7
   by_cases c10 : a0 = 3
   ·rw [if_pos c10] at H
    have IE : (a0 == 3) = true := beq_iff_eq.mpr c10
    have JE : (a0 != 3) = false := bne_eq_false_iff_eq.mpr c10
    clear c10
    simp only [Option.some.injEq, Prod.mk.injEq] at H
    obtain ⟨rfl, rfl, rfl, rfl, rfl, rfl, rfl, rfl, rfl, rfl⟩ := H
    go_enter Try.func81, Try.ntmps81
    go_wp2_with (first | ((with_reducible refine gate_dst (N := 6) rfl ?_); refine box_event ?hg (N := 6) ?hd (cs := #[.int .i64 0, .int .i64 0, .int .i64 0, .int .i64 0, .int .i64 0, .int .i64 0, .int .i64 0, .int .i64 0, .int .i64 0, .bool false]) (t := 75) ?hr ?_; (case hd => rfl); (case hg => rfl); (case hr => first | (go_simp; done) | (go_simp; rfl)); intro gA hg aD hbox hb; have mA := Aside0.mk (below_step q4_0 hb); have nA := Aside0.mk (hbox); have oA := Aside0.mk ((q4_7 : w.heap.size ≤ gA)); have tA := Aside0.mk ((q4_7 : w.heap.size ≤ gA)); clear HB; have HB := mA; have aA := nA; have VC := oA; have WB := tA; clear mA nA oA tA; clear hb hbox hg; have gF : aD.cell? ⟨gA, 0, none⟩ = some (.int .i64 0) := (blk_cell aA.out 0).trans rfl; have hF : aD.cell? ⟨gA, 1, none⟩ = some (.int .i64 0) := (blk_cell aA.out 1).trans rfl; have iF : aD.cell? ⟨gA, 2, none⟩ = some (.int .i64 0) := (blk_cell aA.out 2).trans rfl; have jF : aD.cell? ⟨gA, 3, none⟩ = some (.int .i64 0) := (blk_cell aA.out 3).trans rfl; have kF : aD.cell? ⟨gA, 4, none⟩ = some (.int .i64 0) := (blk_cell aA.out 4).trans rfl; have lF : aD.cell? ⟨gA, 5, none⟩ = some (.int .i64 0) := (blk_cell aA.out 5).trans rfl; have mF : aD.cell? ⟨gA, 6, none⟩ = some (.int .i64 0) := (blk_cell aA.out 6).trans rfl; have nF : aD.cell? ⟨gA, 7, none⟩ = some (.int .i64 0) := (blk_cell aA.out 7).trans rfl; have oF : aD.cell? ⟨gA, 8, none⟩ = some (.int .i64 0) := (blk_cell aA.out 8).trans rfl; have pF : aD.cell? ⟨gA, 9, none⟩ = some (.bool false) := (blk_cell aA.out 9).trans rfl; have qF := blk_frozen aA.out 0; have rF := blk_frozen aA.out 1; have sF := blk_frozen aA.out 2; have tF := blk_frozen aA.out 3; have uF := blk_frozen aA.out 4; have vF := blk_frozen aA.out 5; have wF := blk_frozen aA.out 6; have xF := blk_frozen aA.out 7; have yF := blk_frozen aA.out 8; have zF := blk_frozen aA.out 9))
    refine bodyPost_ret (results_cell_row rfl _ _ gA 75 #[.int .i64 a0, .int .i64 a1, .int .i64 0, .int .i64 0, .int .i64 0, .int .i64 0, .int .i64 0, .int .i64 0, .int .i64 0, .bool false] (0, 0) _ rfl q4_1 Try.underlying75 rfl q4_19) rfl ?_
    exact ⟨q4_2, q4_10⟩
   ·rw [if_neg c10] at H
    have IE : (a0 == 3) = false := beq_eq_false_iff_ne.mpr c10
    have JE : (a0 != 3) = true := bne_iff_ne.mpr c10
    simp only [Option.some.injEq, Prod.mk.injEq] at H
    obtain ⟨rfl, rfl, rfl, rfl, rfl, rfl, rfl, rfl, rfl, rfl⟩ := H
    go_enter Try.func81, Try.ntmps81
    go_wp2_with (first | ((with_reducible refine gate_dst (N := 6) rfl ?_); refine box_event ?hg (N := 6) ?hd (cs := #[.int .i64 0, .int .i64 0, .int .i64 0, .int .i64 0, .int .i64 0, .int .i64 0, .int .i64 0, .int .i64 0, .int .i64 0, .bool false]) (t := 75) ?hr ?_; (case hd => rfl); (case hg => rfl); (case hr => first | (go_simp; done) | (go_simp; rfl)); intro gA hg WC hbox hb; have mA := Aside0.mk (below_step q4_0 hb); have nA := Aside0.mk (hbox); have oA := Aside0.mk ((q4_7 : w.heap.size ≤ gA)); have tA := Aside0.mk ((q4_7 : w.heap.size ≤ gA)); clear HB; have HB := mA; have aA := nA; have VC := oA; have WB := tA; clear mA nA oA tA; clear hb hbox hg; have AF : WC.cell? ⟨gA, 0, none⟩ = some (.int .i64 0) := (blk_cell aA.out 0).trans rfl; have BF : WC.cell? ⟨gA, 1, none⟩ = some (.int .i64 0) := (blk_cell aA.out 1).trans rfl; have CF : WC.cell? ⟨gA, 2, none⟩ = some (.int .i64 0) := (blk_cell aA.out 2).trans rfl; have DF : WC.cell? ⟨gA, 3, none⟩ = some (.int .i64 0) := (blk_cell aA.out 3).trans rfl; have EF : WC.cell? ⟨gA, 4, none⟩ = some (.int .i64 0) := (blk_cell aA.out 4).trans rfl; have FF : WC.cell? ⟨gA, 5, none⟩ = some (.int .i64 0) := (blk_cell aA.out 5).trans rfl; have GF : WC.cell? ⟨gA, 6, none⟩ = some (.int .i64 0) := (blk_cell aA.out 6).trans rfl; have HF : WC.cell? ⟨gA, 7, none⟩ = some (.int .i64 0) := (blk_cell aA.out 7).trans rfl; have IF : WC.cell? ⟨gA, 8, none⟩ = some (.int .i64 0) := (blk_cell aA.out 8).trans rfl; have JF : WC.cell? ⟨gA, 9, none⟩ = some (.bool false) := (blk_cell aA.out 9).trans rfl; have KF := blk_frozen aA.out 0; have LF := blk_frozen aA.out 1; have MF := blk_frozen aA.out 2; have NF := blk_frozen aA.out 3; have OF := blk_frozen aA.out 4; have PF := blk_frozen aA.out 5; have QF := blk_frozen aA.out 6; have RF := blk_frozen aA.out 7; have SF := blk_frozen aA.out 8; have TF := blk_frozen aA.out 9))
    refine bodyPost_ret (results_cell_row rfl _ _ gA 75 #[.int .i64 0, .int .i64 0, .int .i64 0, .int .i64 0, .int .i64 0, .int .i64 0, .int .i64 0, .int .i64 0, .int .i64 0, .bool false] (0, 0) _ rfl (by (with_reducible repeat (first | refine blk_drewN ?_ _ | refine blk_drew ?_ | refine blk_alloc ?_ _)); refine blk_put (cs := #[.int .i64 0, .int .i64 0, .int .i64 0, .int .i64 0, .int .i64 0, .int .i64 0, .int .i64 0, .int .i64 0, .int .i64 0, .bool false]) ?_ 9 _ rfl; (with_reducible repeat (first | refine blk_drewN ?_ _ | refine blk_drew ?_ | refine blk_alloc ?_ _)); refine blk_put (cs := #[.int .i64 0, .int .i64 0, .int .i64 0, .int .i64 0, .int .i64 0, .int .i64 0, .int .i64 0, .int .i64 0, .int .i64 0, .bool false]) ?_ 8 _ rfl; (with_reducible repeat (first | refine blk_drewN ?_ _ | refine blk_drew ?_ | refine blk_alloc ?_ _)); refine blk_put (cs := #[.int .i64 0, .int .i64 0, .int .i64 0, .int .i64 0, .int .i64 0, .int .i64 0, .int .i64 0, .int .i64 0, .int .i64 0, .bool false]) ?_ 7 _ rfl; (with_reducible repeat (first | refine blk_drewN ?_ _ | refine blk_drew ?_ | refine blk_alloc ?_ _)); refine blk_put (cs := #[.int .i64 0, .int .i64 0, .int .i64 0, .int .i64 0, .int .i64 0, .int .i64 0, .int .i64 0, .int .i64 0, .int .i64 0, .bool false]) ?_ 6 _ rfl; (with_reducible repeat (first | refine blk_drewN ?_ _ | refine blk_drew ?_ | refine blk_alloc ?_ _)); refine blk_put (cs := #[.int .i64 0, .int .i64 0, .int .i64 0, .int .i64 0, .int .i64 0, .int .i64 0, .int .i64 0, .int .i64 0, .int .i64 0, .bool false]) ?_ 5 _ rfl; (with_reducible repeat (first | refine blk_drewN ?_ _ | refine blk_drew ?_ | refine blk_alloc ?_ _)); refine blk_put (cs := #[.int .i64 0, .int .i64 0, .int .i64 0, .int .i64 0, .int .i64 0, .int .i64 0, .int .i64 0, .int .i64 0, .int .i64 0, .bool false]) ?_ 4 _ rfl; (with_reducible repeat (first | refine blk_drewN ?_ _ | refine blk_drew ?_ | refine blk_alloc ?_ _)); refine blk_put (cs := #[.int .i64 0, .int .i64 0, .int .i64 0, .int .i64 0, .int .i64 0, .int .i64 0, .int .i64 0, .int .i64 0, .int .i64 0, .bool false]) ?_ 3 _ rfl; (with_reducible repeat (first | refine blk_drewN ?_ _ | refine blk_drew ?_ | refine blk_alloc ?_ _)); refine blk_put (cs := #[.int .i64 0, .int .i64 0, .int .i64 0, .int .i64 0, .int .i64 0, .int .i64 0, .int .i64 0, .int .i64 0, .int .i64 0, .bool false]) ?_ 2 _ rfl; (with_reducible repeat (first | refine blk_drewN ?_ _ | refine blk_drew ?_ | refine blk_alloc ?_ _)); refine blk_put (cs := #[.int .i64 0, .int .i64 0, .int .i64 0, .int .i64 0, .int .i64 0, .int .i64 0, .int .i64 0, .int .i64 0, .int .i64 0, .bool false]) ?_ 1 _ rfl; (with_reducible repeat (first | refine blk_drewN ?_ _ | refine blk_drew ?_ | refine blk_alloc ?_ _)); refine blk_put (cs := #[.int .i64 0, .int .i64 0, .int .i64 0, .int .i64 0, .int .i64 0, .int .i64 0, .int .i64 0, .int .i64 0, .int .i64 0, .bool false]) ?_ 0 _ rfl; (with_reducible repeat (first | refine blk_drewN ?_ _ | refine blk_drew ?_ | refine blk_alloc ?_ _)); exact aA.out) Try.underlying75 rfl q4_19) rfl ?_
    exact ⟨q4_2, q4_10⟩

/-! ### spec_l07Begin: function 49 -/
def spec_l07Begin.f (a0 : Int) (uA : Int) (vA : Int) (yA : Int) (JA : Int) (KA : Int) (LA : Int) (MA : Int) (NA : Int) (OA : Int) (PA : Bool) : Option (Int × Int × Int × Int × Int × Int × Int × Int × Int × Bool) := if a0 = 1 then ((spec_StCall.f uA vA).bind fun qA => (some (qA.1, qA.2.1, qA.2.2.1, qA.2.2.2.1, qA.2.2.2.2.1, qA.2.2.2.2.2.1, qA.2.2.2.2.2.2.1, qA.2.2.2.2.2.2.2.1, qA.2.2.2.2.2.2.2.2.1, qA.2.2.2.2.2.2.2.2.2))) else (if a0 = 2 then ((spec_RiCall.f uA vA).bind fun rA => (some (rA.1, rA.2.1, rA.2.2.1, rA.2.2.2.1, rA.2.2.2.2.1, rA.2.2.2.2.2.1, rA.2.2.2.2.2.2.1, rA.2.2.2.2.2.2.2.1, rA.2.2.2.2.2.2.2.2.1, rA.2.2.2.2.2.2.2.2.2))) else ((spec_LiCall.f uA vA yA).bind fun sA => (some (sA.1, sA.2.1, sA.2.2.1, sA.2.2.2.1, sA.2.2.2.2.1, sA.2.2.2.2.2.1, sA.2.2.2.2.2.2.1, sA.2.2.2.2.2.2.2.1, sA.2.2.2.2.2.2.2.2.1, sA.2.2.2.2.2.2.2.2.2))))
set_option maxHeartbeats 8000000 in
set_option maxRecDepth 100000 in
theorem spec_l07Begin.calls (a0 : Int) (uA : Int) (vA : Int) (yA : Int) (JA : Int) (KA : Int) (LA : Int) (MA : Int) (NA : Int) (OA : Int) (PA : Bool) (r1 : Int) (r2 : Int) (r3 : Int) (r4 : Int) (r5 : Int) (r6 : Int) (r7 : Int) (r8 : Int) (r9 : Int) (r10 : Bool) (w : World) (h : spec_l07Begin.f a0 uA vA yA JA KA LA MA NA OA PA = some (r1, r2, r3, r4, r5, r6, r7, r8, r9, r10)) :
  Calls Try.prog 49 #[.int .i64 a0, .agg #[.int .i64 uA, .int .i64 vA, .int .i64 yA, .int .i64 JA, .int .i64 KA, .int .i64 LA, .int .i64 MA, .int .i64 NA, .int .i64 OA, .bool PA]] w fun e w' => e = .returned (.agg #[.int .i64 r1, .int .i64 r2, .int .i64 r3, .int .i64 r4, .int .i64 r5, .int .i64 r6, .int .i64 r7, .int .i64 r8, .int .i64 r9, .bool r10]) ∧ Below w.heap.size w w' := by
 have hu75 := Try.underlying75
 have HB := Aside0.mk (Below.refl w.heap.size w)
 have H : (if a0 = 1 then ((spec_StCall.f uA vA).bind fun qA => (some (qA.1, qA.2.1, qA.2.2.1, qA.2.2.2.1, qA.2.2.2.2.1, qA.2.2.2.2.2.1, qA.2.2.2.2.2.2.1, qA.2.2.2.2.2.2.2.1, qA.2.2.2.2.2.2.2.2.1, qA.2.2.2.2.2.2.2.2.2))) else (if a0 = 2 then ((spec_RiCall.f uA vA).bind fun rA => (some (rA.1, rA.2.1, rA.2.2.1, rA.2.2.2.1, rA.2.2.2.2.1, rA.2.2.2.2.2.1, rA.2.2.2.2.2.2.1, rA.2.2.2.2.2.2.2.1, rA.2.2.2.2.2.2.2.2.1, rA.2.2.2.2.2.2.2.2.2))) else ((spec_LiCall.f uA vA yA).bind fun sA => (some (sA.1, sA.2.1, sA.2.2.1, sA.2.2.2.1, sA.2.2.2.2.1, sA.2.2.2.2.2.1, sA.2.2.2.2.2.2.1, sA.2.2.2.2.2.2.2.1, sA.2.2.2.2.2.2.2.2.1, sA.2.2.2.2.2.2.2.2.2))))) = some (r1, r2, r3, r4, r5, r6, r7, r8, r9, r10) := h
 clear h
 by_cases c3 : a0 = 1
 ·rw [if_pos c3] at H
  have nB : (a0 == 1) = true := beq_iff_eq.mpr c3
  have RB : (a0 != 1) = false := bne_eq_false_iff_eq.mpr c3
  clear c3
  replace H := Option.bind_eq_some_iff.mp H
  obtain ⟨⟨eB, kB, oB, xB, DB, SB, rC, XC, xD, AE⟩, A40, H⟩ := H
  replace H : (some (eB, kB, oB, xB, DB, SB, rC, XC, xD, AE)) = some (r1, r2, r3, r4, r5, r6, r7, r8, r9, r10) := H
  have A4 := Aside0.mk A40
  clear A40
  simp only [Option.some.injEq, Prod.mk.injEq] at H
  obtain ⟨rfl, rfl, rfl, rfl, rfl, rfl, rfl, rfl, rfl, rfl⟩ := H
  go_enter Try.func49, Try.ntmps49
  go_wp2_with (first | ((with_reducible refine gate_dst (N := 3) rfl ?_); refine box_event ?hg (N := 3) ?hd (cs := #[.int .i64 uA, .int .i64 vA, .int .i64 yA, .int .i64 JA, .int .i64 KA, .int .i64 LA, .int .i64 MA, .int .i64 NA, .int .i64 OA, .bool PA]) (t := 75) ?hr ?_; (case hd => rfl); (case hg => rfl); (case hr => first | (go_simp; done) | (go_simp; rfl)); intro hA hg w5 hbox hb; have mA := Aside0.mk (below_step q4_0 hb); have nA := Aside0.mk (hbox); have oA := Aside0.mk ((q4_7 : w.heap.size ≤ hA)); have tA := Aside0.mk ((q4_7 : w.heap.size ≤ hA)); clear HB; have HB := mA; have bA := nA; have ND := oA; have VB := tA; clear mA nA oA tA; clear hb hbox hg) | ((with_reducible refine gate_dst (N := 4) rfl ?_); refine box_event ?hg (N := 4) ?hd (cs := #[.int .i64 0, .int .i64 0, .int .i64 0, .int .i64 0, .int .i64 0, .int .i64 0, .int .i64 0, .int .i64 0, .int .i64 0, .bool false]) (t := 75) ?hr ?_; (case hd => rfl); (case hg => rfl); (case hr => first | (go_simp; done) | (go_simp; rfl)); intro iA hg w6 hbox hb; have mA := Aside0.mk (blk_below (g := hA) (o := .cells #[.int .i64 uA, .int .i64 vA, .int .i64 yA, .int .i64 JA, .int .i64 KA, .int .i64 LA, .int .i64 MA, .int .i64 NA, .int .i64 OA, .bool PA] 75 (0, 0)) q4_5 hb); have nA := Aside0.mk (below_step q4_4 hb); have oA := Aside0.mk (hbox); have tA := Aside0.mk ((by rw [hg]; exact (below_size q4_4) : w.heap.size ≤ iA)); have OD := Aside0.mk ((by rw [hg]; exact (below_size q4_4) : w.heap.size ≤ iA)); have PD := Aside0.mk ((q4_11 : hA ≠ iA)); have QD := Aside0.mk ((q4_12 : iA ≠ hA)); clear bA; clear HB; have bA := mA; have HB := nA; have cA := oA; have RD := tA; have vC := OD; have zA := PD; have AA := QD; clear mA nA oA tA OD PD QD; clear hb hbox hg; have NH := zA.out; have OH := AA.out; have PB : w6.cell? ⟨hA, 0, none⟩ = some (.int .i64 uA) := (blk_cell bA.out 0).trans rfl; have DC : w6.cell? ⟨hA, 1, none⟩ = some (.int .i64 vA) := (blk_cell bA.out 1).trans rfl; have EC : w6.cell? ⟨hA, 2, none⟩ = some (.int .i64 yA) := (blk_cell bA.out 2).trans rfl; have FC : w6.cell? ⟨hA, 3, none⟩ = some (.int .i64 JA) := (blk_cell bA.out 3).trans rfl; have GC : w6.cell? ⟨hA, 4, none⟩ = some (.int .i64 KA) := (blk_cell bA.out 4).trans rfl; have HC : w6.cell? ⟨hA, 5, none⟩ = some (.int .i64 LA) := (blk_cell bA.out 5).trans rfl; have IC : w6.cell? ⟨hA, 6, none⟩ = some (.int .i64 MA) := (blk_cell bA.out 6).trans rfl; have JC : w6.cell? ⟨hA, 7, none⟩ = some (.int .i64 NA) := (blk_cell bA.out 7).trans rfl; have KC : w6.cell? ⟨hA, 8, none⟩ = some (.int .i64 OA) := (blk_cell bA.out 8).trans rfl; have LC : w6.cell? ⟨hA, 9, none⟩ = some (.bool PA) := (blk_cell bA.out 9).trans rfl; have QB := blk_frozen bA.out 0; have MC := blk_frozen bA.out 1; have NC := blk_frozen bA.out 2; have OC := blk_frozen bA.out 3; have PC := blk_frozen bA.out 4; have QC := blk_frozen bA.out 5; have RC := blk_frozen bA.out 6; have SC := blk_frozen bA.out 7; have TC := blk_frozen bA.out 8; have UC := blk_frozen bA.out 9) | ((with_reducible refine gate_callee (f := 79) rfl ?_); refine goesL_ (some 12) rfl rfl Try.func79 q4_19 rfl #[.int .i64 uA, .int .i64 vA] rfl q4_3 ?_; (with_reducible refine (spec_StCall.calls uA vA eB kB oB xB DB SB rC XC xD AE _ A4.out).mono ?_); rintro e w9 ⟨rfl, hb⟩; refine ⟨_, rfl, ?_⟩; have mA := Aside0.mk (blk_below (g := hA) (o := .cells #[.int .i64 uA, .int .i64 vA, .int .i64 yA, .int .i64 JA, .int .i64 KA, .int .i64 LA, .int .i64 MA, .int .i64 NA, .int .i64 OA, .bool PA] 75 (0, 0)) q4_5 hb); have nA := Aside0.mk (blk_below (g := iA) (o := .cells #[.int .i64 0, .int .i64 0, .int .i64 0, .int .i64 0, .int .i64 0, .int .i64 0, .int .i64 0, .int .i64 0, .int .i64 0, .bool false] 75 (0, 0)) q4_18 hb); have oA := Aside0.mk (below_step q4_8 hb); clear bA; clear cA; clear HB; have bA := mA; have cA := nA; have HB := oA; clear mA nA oA; (try clear hb); (try clear hb2); (try clear hk); (try clear hi); have XB : w9.cell? ⟨iA, 0, none⟩ = some (.int .i64 0) := (blk_cell cA.out 0).trans rfl; have YB : w9.cell? ⟨iA, 1, none⟩ = some (.int .i64 0) := (blk_cell cA.out 1).trans rfl; have ZB : w9.cell? ⟨iA, 2, none⟩ = some (.int .i64 0) := (blk_cell cA.out 2).trans rfl; have aC : w9.cell? ⟨iA, 3, none⟩ = some (.int .i64 0) := (blk_cell cA.out 3).trans rfl; have bC : w9.cell? ⟨iA, 4, none⟩ = some (.int .i64 0) := (blk_cell cA.out 4).trans rfl; have cC : w9.cell? ⟨iA, 5, none⟩ = some (.int .i64 0) := (blk_cell cA.out 5).trans rfl; have dC : w9.cell? ⟨iA, 6, none⟩ = some (.int .i64 0) := (blk_cell cA.out 6).trans rfl; have eC : w9.cell? ⟨iA, 7, none⟩ = some (.int .i64 0) := (blk_cell cA.out 7).trans rfl; have fC : w9.cell? ⟨iA, 8, none⟩ = some (.int .i64 0) := (blk_cell cA.out 8).trans rfl; have gC : w9.cell? ⟨iA, 9, none⟩ = some (.bool false) := (blk_cell cA.out 9).trans rfl; have hC := blk_frozen cA.out 0; have iC := blk_frozen cA.out 1; have jC := blk_frozen cA.out 2; have kC := blk_frozen cA.out 3; have lC := blk_frozen cA.out 4; have mC := blk_frozen cA.out 5; have nC := blk_frozen cA.out 6; have oC := blk_frozen cA.out 7; have pC := blk_frozen cA.out 8; have qC := blk_frozen cA.out 9))
  refine bodyPost_ret (results_cell_row rfl _ _ iA 75 #[.int .i64 eB, .int .i64 kB, .int .i64 oB, .int .i64 xB, .int .i64 DB, .int .i64 SB, .int .i64 rC, .int .i64 XC, .int .i64 xD, .bool AE] (0, 0) _ rfl (by (with_reducible repeat (first | refine blk_drewN ?_ _ | refine blk_drew ?_ | refine blk_alloc ?_ _)); refine blk_put (cs := #[.int .i64 eB, .int .i64 kB, .int .i64 oB, .int .i64 xB, .int .i64 DB, .int .i64 SB, .int .i64 rC, .int .i64 XC, .int .i64 xD, .bool false]) ?_ 9 _ rfl; (with_reducible repeat (first | refine blk_drewN ?_ _ | refine blk_drew ?_ | refine blk_alloc ?_ _)); refine blk_put (cs := #[.int .i64 eB, .int .i64 kB, .int .i64 oB, .int .i64 xB, .int .i64 DB, .int .i64 SB, .int .i64 rC, .int .i64 XC, .int .i64 0, .bool false]) ?_ 8 _ rfl; (with_reducible repeat (first | refine blk_drewN ?_ _ | refine blk_drew ?_ | refine blk_alloc ?_ _)); refine blk_put (cs := #[.int .i64 eB, .int .i64 kB, .int .i64 oB, .int .i64 xB, .int .i64 DB, .int .i64 SB, .int .i64 rC, .int .i64 0, .int .i64 0, .bool false]) ?_ 7 _ rfl; (with_reducible repeat (first | refine blk_drewN ?_ _ | refine blk_drew ?_ | refine blk_alloc ?_ _)); refine blk_put (cs := #[.int .i64 eB, .int .i64 kB, .int .i64 oB, .int .i64 xB, .int .i64 DB, .int .i64 SB, .int .i64 0, .int .i64 0, .int .i64 0, .bool false]) ?_ 6 _ rfl; (with_reducible repeat (first | refine blk_drewN ?_ _ | refine blk_drew ?_ | refine blk_alloc ?_ _)); refine blk_put (cs := #[.int .i64 eB, .int .i64 kB, .int .i64 oB, .int .i64 xB, .int .i64 DB, .int .i64 0, .int .i64 0, .int .i64 0, .int .i64 0, .bool false]) ?_ 5 _ rfl; (with_reducible repeat (first | refine blk_drewN ?_ _ | refine blk_drew ?_ | refine blk_alloc ?_ _)); refine blk_put (cs := #[.int .i64 eB, .int .i64 kB, .int .i64 oB, .int .i64 xB, .int .i64 0, .int .i64 0, .int .i64 0, .int .i64 0, .int .i64 0, .bool false]) ?_ 4 _ rfl; (with_reducible repeat (first | refine blk_drewN ?_ _ | refine blk_drew ?_ | refine blk_alloc ?_ _)); refine blk_put (cs := #[.int .i64 eB, .int .i64 kB, .int .i64 oB, .int .i64 0, .int .i64 0, .int .i64 0, .int .i64 0, .int .i64 0, .int .i64 0, .bool false]) ?_ 3 _ rfl; (with_reducible repeat (first | refine blk_drewN ?_ _ | refine blk_drew ?_ | refine blk_alloc ?_ _)); refine blk_put (cs := #[.int .i64 eB, .int .i64 kB, .int .i64 0, .int .i64 0, .int .i64 0, .int .i64 0, .int .i64 0, .int .i64 0, .int .i64 0, .bool false]) ?_ 2 _ rfl; (with_reducible repeat (first | refine blk_drewN ?_ _ | refine blk_drew ?_ | refine blk_alloc ?_ _)); refine blk_put (cs := #[.int .i64 eB, .int .i64 0, .int .i64 0, .int .i64 0, .int .i64 0, .int .i64 0, .int .i64 0, .int .i64 0, .int .i64 0, .bool false]) ?_ 1 _ rfl; (with_reducible repeat (first | refine blk_drewN ?_ _ | refine blk_drew ?_ | refine blk_alloc ?_ _)); refine blk_put (cs := #[.int .i64 0, .int .i64 0, .int .i64 0, .int .i64 0, .int .i64 0, .int .i64 0, .int .i64 0, .int .i64 0, .int .i64 0, .bool false]) ?_ 0 _ rfl; (with_reducible repeat (first | refine blk_drewN ?_ _ | refine blk_drew ?_ | refine blk_alloc ?_ _)); exact cA.out) Try.underlying75 rfl q4_19) rfl ?_
  exact ⟨q4_2, q4_8⟩
 ·rw [if_neg c3] at H
  have nB : (a0 == 1) = false := beq_eq_false_iff_ne.mpr c3
  have RB : (a0 != 1) = true := bne_iff_ne.mpr c3
  by_cases c11 : a0 = 2
  ·rw [if_pos c11] at H
   have KE : (a0 == 2) = true := beq_iff_eq.mpr c11
   have LE : (a0 != 2) = false := bne_eq_false_iff_eq.mpr c11
   clear c11
   replace H := Option.bind_eq_some_iff.mp H
   obtain ⟨⟨fB, lB, pB, yB, EB, TB, sC, YC, yD, BE⟩, A120, H⟩ := H
   replace H : (some (fB, lB, pB, yB, EB, TB, sC, YC, yD, BE)) = some (r1, r2, r3, r4, r5, r6, r7, r8, r9, r10) := H
   have A12 := Aside0.mk A120
   clear A120
   simp only [Option.some.injEq, Prod.mk.injEq] at H
   obtain ⟨rfl, rfl, rfl, rfl, rfl, rfl, rfl, rfl, rfl, rfl⟩ := H
   go_enter Try.func49, Try.ntmps49
   go_wp2_with (first | ((with_reducible refine gate_dst (N := 3) rfl ?_); refine box_event ?hg (N := 3) ?hd (cs := #[.int .i64 uA, .int .i64 vA, .int .i64 yA, .int .i64 JA, .int .i64 KA, .int .i64 LA, .int .i64 MA, .int .i64 NA, .int .i64 OA, .bool PA]) (t := 75) ?hr ?_; (case hd => rfl); (case hg => rfl); (case hr => first | (go_simp; done) | (go_simp; rfl)); intro hA hg WC hbox hb; have mA := Aside0.mk (below_step q4_0 hb); have nA := Aside0.mk (hbox); have oA := Aside0.mk ((q4_7 : w.heap.size ≤ hA)); have tA := Aside0.mk ((q4_7 : w.heap.size ≤ hA)); clear HB; have HB := mA; have bA := nA; have ND := oA; have VB := tA; clear mA nA oA tA; clear hb hbox hg) | ((with_reducible refine gate_dst (N := 4) rfl ?_); refine box_event ?hg (N := 4) ?hd (cs := #[.int .i64 0, .int .i64 0, .int .i64 0, .int .i64 0, .int .i64 0, .int .i64 0, .int .i64 0, .int .i64 0, .int .i64 0, .bool false]) (t := 75) ?hr ?_; (case hd => rfl); (case hg => rfl); (case hr => first | (go_simp; done) | (go_simp; rfl)); intro iA hg CC hbox hb; have mA := Aside0.mk (blk_below (g := hA) (o := .cells #[.int .i64 uA, .int .i64 vA, .int .i64 yA, .int .i64 JA, .int .i64 KA, .int .i64 LA, .int .i64 MA, .int .i64 NA, .int .i64 OA, .bool PA] 75 (0, 0)) q4_5 hb); have nA := Aside0.mk (below_step q4_4 hb); have oA := Aside0.mk (hbox); have tA := Aside0.mk ((by rw [hg]; exact (below_size q4_4) : w.heap.size ≤ iA)); have OD := Aside0.mk ((by rw [hg]; exact (below_size q4_4) : w.heap.size ≤ iA)); have PD := Aside0.mk ((q4_11 : hA ≠ iA)); have QD := Aside0.mk ((q4_12 : iA ≠ hA)); clear bA; clear HB; have bA := mA; have HB := nA; have cA := oA; have RD := tA; have vC := OD; have zA := PD; have AA := QD; clear mA nA oA tA OD PD QD; clear hb hbox hg; have IH := zA.out; have JH := AA.out; have dD : CC.cell? ⟨hA, 0, none⟩ = some (.int .i64 uA) := (blk_cell bA.out 0).trans rfl; have eD : CC.cell? ⟨hA, 1, none⟩ = some (.int .i64 vA) := (blk_cell bA.out 1).trans rfl; have fD : CC.cell? ⟨hA, 2, none⟩ = some (.int .i64 yA) := (blk_cell bA.out 2).trans rfl; have gD : CC.cell? ⟨hA, 3, none⟩ = some (.int .i64 JA) := (blk_cell bA.out 3).trans rfl; have hD : CC.cell? ⟨hA, 4, none⟩ = some (.int .i64 KA) := (blk_cell bA.out 4).trans rfl; have UF : CC.cell? ⟨hA, 5, none⟩ = some (.int .i64 LA) := (blk_cell bA.out 5).trans rfl; have VF : CC.cell? ⟨hA, 6, none⟩ = some (.int .i64 MA) := (blk_cell bA.out 6).trans rfl; have WF : CC.cell? ⟨hA, 7, none⟩ = some (.int .i64 NA) := (blk_cell bA.out 7).trans rfl; have XF : CC.cell? ⟨hA, 8, none⟩ = some (.int .i64 OA) := (blk_cell bA.out 8).trans rfl; have YF : CC.cell? ⟨hA, 9, none⟩ = some (.bool PA) := (blk_cell bA.out 9).trans rfl; have iD := blk_frozen bA.out 0; have jD := blk_frozen bA.out 1; have kD := blk_frozen bA.out 2; have lD := blk_frozen bA.out 3; have mD := blk_frozen bA.out 4; have ZF := blk_frozen bA.out 5; have aG := blk_frozen bA.out 6; have bG := blk_frozen bA.out 7; have cG := blk_frozen bA.out 8; have dG := blk_frozen bA.out 9) | ((with_reducible refine gate_callee (f := 80) rfl ?_); refine goesL_ (some 19) rfl rfl Try.func80 q4_19 rfl #[.int .i64 uA, .int .i64 vA] rfl q4_3 ?_; (with_reducible refine (spec_RiCall.calls uA vA fB lB pB yB EB TB sC YC yD BE _ A12.out).mono ?_); rintro e GB ⟨rfl, hb⟩; refine ⟨_, rfl, ?_⟩; have mA := Aside0.mk (blk_below (g := hA) (o := .cells #[.int .i64 uA, .int .i64 vA, .int .i64 yA, .int .i64 JA, .int .i64 KA, .int .i64 LA, .int .i64 MA, .int .i64 NA, .int .i64 OA, .bool PA] 75 (0, 0)) q4_5 hb); have nA := Aside0.mk (blk_below (g := iA) (o := .cells #[.int .i64 0, .int .i64 0, .int .i64 0, .int .i64 0, .int .i64 0, .int .i64 0, .int .i64 0, .int .i64 0, .int .i64 0, .bool false] 75 (0, 0)) q4_18 hb); have oA := Aside0.mk (below_step q4_8 hb); clear bA; clear cA; clear HB; have bA := mA; have cA := nA; have HB := oA; clear mA nA oA; (try clear hb); (try clear hb2); (try clear hk); (try clear hi); have nD : GB.cell? ⟨iA, 0, none⟩ = some (.int .i64 0) := (blk_cell cA.out 0).trans rfl; have oD : GB.cell? ⟨iA, 1, none⟩ = some (.int .i64 0) := (blk_cell cA.out 1).trans rfl; have pD : GB.cell? ⟨iA, 2, none⟩ = some (.int .i64 0) := (blk_cell cA.out 2).trans rfl; have qD : GB.cell? ⟨iA, 3, none⟩ = some (.int .i64 0) := (blk_cell cA.out 3).trans rfl; have rD : GB.cell? ⟨iA, 4, none⟩ = some (.int .i64 0) := (blk_cell cA.out 4).trans rfl; have eG : GB.cell? ⟨iA, 5, none⟩ = some (.int .i64 0) := (blk_cell cA.out 5).trans rfl; have fG : GB.cell? ⟨iA, 6, none⟩ = some (.int .i64 0) := (blk_cell cA.out 6).trans rfl; have gG : GB.cell? ⟨iA, 7, none⟩ = some (.int .i64 0) := (blk_cell cA.out 7).trans rfl; have hG : GB.cell? ⟨iA, 8, none⟩ = some (.int .i64 0) := (blk_cell cA.out 8).trans rfl; have iG : GB.cell? ⟨iA, 9, none⟩ = some (.bool false) := (blk_cell cA.out 9).trans rfl; have sD := blk_frozen cA.out 0; have tD := blk_frozen cA.out 1; have uD := blk_frozen cA.out 2; have vD := blk_frozen cA.out 3; have wD := blk_frozen cA.out 4; have jG := blk_frozen cA.out 5; have kG := blk_frozen cA.out 6; have lG := blk_frozen cA.out 7; have mG := blk_frozen cA.out 8; have nG := blk_frozen cA.out 9))
   refine bodyPost_ret (results_cell_row rfl _ _ iA 75 #[.int .i64 fB, .int .i64 lB, .int .i64 pB, .int .i64 yB, .int .i64 EB, .int .i64 TB, .int .i64 sC, .int .i64 YC, .int .i64 yD, .bool BE] (0, 0) _ rfl (by (with_reducible repeat (first | refine blk_drewN ?_ _ | refine blk_drew ?_ | refine blk_alloc ?_ _)); refine blk_put (cs := #[.int .i64 fB, .int .i64 lB, .int .i64 pB, .int .i64 yB, .int .i64 EB, .int .i64 TB, .int .i64 sC, .int .i64 YC, .int .i64 yD, .bool false]) ?_ 9 _ rfl; (with_reducible repeat (first | refine blk_drewN ?_ _ | refine blk_drew ?_ | refine blk_alloc ?_ _)); refine blk_put (cs := #[.int .i64 fB, .int .i64 lB, .int .i64 pB, .int .i64 yB, .int .i64 EB, .int .i64 TB, .int .i64 sC, .int .i64 YC, .int .i64 0, .bool false]) ?_ 8 _ rfl; (with_reducible repeat (first | refine blk_drewN ?_ _ | refine blk_drew ?_ | refine blk_alloc ?_ _)); refine blk_put (cs := #[.int .i64 fB, .int .i64 lB, .int .i64 pB, .int .i64 yB, .int .i64 EB, .int .i64 TB, .int .i64 sC, .int .i64 0, .int .i64 0, .bool false]) ?_ 7 _ rfl; (with_reducible repeat (first | refine blk_drewN ?_ _ | refine blk_drew ?_ | refine blk_alloc ?_ _)); refine blk_put (cs := #[.int .i64 fB, .int .i64 lB, .int .i64 pB, .int .i64 yB, .int .i64 EB, .int .i64 TB, .int .i64 0, .int .i64 0, .int .i64 0, .bool false]) ?_ 6 _ rfl; (with_reducible repeat (first | refine blk_drewN ?_ _ | refine blk_drew ?_ | refine blk_alloc ?_ _)); refine blk_put (cs := #[.int .i64 fB, .int .i64 lB, .int .i64 pB, .int .i64 yB, .int .i64 EB, .int .i64 0, .int .i64 0, .int .i64 0, .int .i64 0, .bool false]) ?_ 5 _ rfl; (with_reducible repeat (first | refine blk_drewN ?_ _ | refine blk_drew ?_ | refine blk_alloc ?_ _)); refine blk_put (cs := #[.int .i64 fB, .int .i64 lB, .int .i64 pB, .int .i64 yB, .int .i64 0, .int .i64 0, .int .i64 0, .int .i64 0, .int .i64 0, .bool false]) ?_ 4 _ rfl; (with_reducible repeat (first | refine blk_drewN ?_ _ | refine blk_drew ?_ | refine blk_alloc ?_ _)); refine blk_put (cs := #[.int .i64 fB, .int .i64 lB, .int .i64 pB, .int .i64 0, .int .i64 0, .int .i64 0, .int .i64 0, .int .i64 0, .int .i64 0, .bool false]) ?_ 3 _ rfl; (with_reducible repeat (first | refine blk_drewN ?_ _ | refine blk_drew ?_ | refine blk_alloc ?_ _)); refine blk_put (cs := #[.int .i64 fB, .int .i64 lB, .int .i64 0, .int .i64 0, .int .i64 0, .int .i64 0, .int .i64 0, .int .i64 0, .int .i64 0, .bool false]) ?_ 2 _ rfl; (with_reducible repeat (first | refine blk_drewN ?_ _ | refine blk_drew ?_ | refine blk_alloc ?_ _)); refine blk_put (cs := #[.int .i64 fB, .int .i64 0, .int .i64 0, .int .i64 0, .int .i64 0, .int .i64 0, .int .i64 0, .int .i64 0, .int .i64 0, .bool false]) ?_ 1 _ rfl; (with_reducible repeat (first | refine blk_drewN ?_ _ | refine blk_drew ?_ | refine blk_alloc ?_ _)); refine blk_put (cs := #[.int .i64 0, .int .i64 0, .int .i64 0, .int .i64 0, .int .i64 0, .int .i64 0, .int .i64 0, .int .i64 0, .int .i64 0, .bool false]) ?_ 0 _ rfl; (with_reducible repeat (first | refine blk_drewN ?_ _ | refine blk_drew ?_ | refine blk_alloc ?_ _)); exact cA.out) Try.underlying75 rfl q4_19) rfl ?_
   exact ⟨q4_2, q4_8⟩
  ·rw [if_neg c11] at H
   have KE : (a0 == 2) = false := beq_eq_false_iff_ne.mpr c11
   have LE : (a0 != 2) = true := bne_iff_ne.mpr c11
   replace H := Option.bind_eq_some_iff.mp H
   obtain ⟨⟨gB, mB, qB, zB, FB, UB, tC, ZC, zD, CE⟩, A190, H⟩ := H
   replace H : (some (gB, mB, qB, zB, FB, UB, tC, ZC, zD, CE)) = some (r1, r2, r3, r4, r5, r6, r7, r8, r9, r10) := H
   have A19 := Aside0.mk A190
   clear A190
   simp only [Option.some.injEq, Prod.mk.injEq] at H
   obtain ⟨rfl, rfl, rfl, rfl, rfl, rfl, rfl, rfl, rfl, rfl⟩ := H
   go_enter Try.func49, Try.ntmps49
   go_wp2_with (first | ((with_reducible refine gate_dst (N := 3) rfl ?_); refine box_event ?hg (N := 3) ?hd (cs := #[.int .i64 uA, .int .i64 vA, .int .i64 yA, .int .i64 JA, .int .i64 KA, .int .i64 LA, .int .i64 MA, .int .i64 NA, .int .i64 OA, .bool PA]) (t := 75) ?hr ?_; (case hd => rfl); (case hg => rfl); (case hr => first | (go_simp; done) | (go_simp; rfl)); intro hA hg QH hbox hb; have mA := Aside0.mk (below_step q4_0 hb); have nA := Aside0.mk (hbox); have oA := Aside0.mk ((q4_7 : w.heap.size ≤ hA)); have tA := Aside0.mk ((q4_7 : w.heap.size ≤ hA)); clear HB; have HB := mA; have bA := nA; have ND := oA; have VB := tA; clear mA nA oA tA; clear hb hbox hg) | ((with_reducible refine gate_dst (N := 4) rfl ?_); refine box_event ?hg (N := 4) ?hd (cs := #[.int .i64 0, .int .i64 0, .int .i64 0, .int .i64 0, .int .i64 0, .int .i64 0, .int .i64 0, .int .i64 0, .int .i64 0, .bool false]) (t := 75) ?hr ?_; (case hd => rfl); (case hg => rfl); (case hr => first | (go_simp; done) | (go_simp; rfl)); intro iA hg bD hbox hb; have mA := Aside0.mk (blk_below (g := hA) (o := .cells #[.int .i64 uA, .int .i64 vA, .int .i64 yA, .int .i64 JA, .int .i64 KA, .int .i64 LA, .int .i64 MA, .int .i64 NA, .int .i64 OA, .bool PA] 75 (0, 0)) q4_5 hb); have nA := Aside0.mk (below_step q4_4 hb); have oA := Aside0.mk (hbox); have tA := Aside0.mk ((by rw [hg]; exact (below_size q4_4) : w.heap.size ≤ iA)); have OD := Aside0.mk ((by rw [hg]; exact (below_size q4_4) : w.heap.size ≤ iA)); have PD := Aside0.mk ((q4_11 : hA ≠ iA)); have QD := Aside0.mk ((q4_12 : iA ≠ hA)); clear bA; clear HB; have bA := mA; have HB := nA; have cA := oA; have RD := tA; have vC := OD; have zA := PD; have AA := QD; clear mA nA oA tA OD PD QD; clear hb hbox hg; have KH := zA.out; have LH := AA.out; have oG : bD.cell? ⟨hA, 0, none⟩ = some (.int .i64 uA) := (blk_cell bA.out 0).trans rfl; have pG : bD.cell? ⟨hA, 1, none⟩ = some (.int .i64 vA) := (blk_cell bA.out 1).trans rfl; have qG : bD.cell? ⟨hA, 2, none⟩ = some (.int .i64 yA) := (blk_cell bA.out 2).trans rfl; have rG : bD.cell? ⟨hA, 3, none⟩ = some (.int .i64 JA) := (blk_cell bA.out 3).trans rfl; have sG : bD.cell? ⟨hA, 4, none⟩ = some (.int .i64 KA) := (blk_cell bA.out 4).trans rfl; have tG : bD.cell? ⟨hA, 5, none⟩ = some (.int .i64 LA) := (blk_cell bA.out 5).trans rfl; have uG : bD.cell? ⟨hA, 6, none⟩ = some (.int .i64 MA) := (blk_cell bA.out 6).trans rfl; have vG : bD.cell? ⟨hA, 7, none⟩ = some (.int .i64 NA) := (blk_cell bA.out 7).trans rfl; have wG : bD.cell? ⟨hA, 8, none⟩ = some (.int .i64 OA) := (blk_cell bA.out 8).trans rfl; have xG : bD.cell? ⟨hA, 9, none⟩ = some (.bool PA) := (blk_cell bA.out 9).trans rfl; have yG := blk_frozen bA.out 0; have zG := blk_frozen bA.out 1; have AG := blk_frozen bA.out 2; have BG := blk_frozen bA.out 3; have CG := blk_frozen bA.out 4; have DG := blk_frozen bA.out 5; have EG := blk_frozen bA.out 6; have FG := blk_frozen bA.out 7; have GG := blk_frozen bA.out 8; have HG := blk_frozen bA.out 9) | ((with_reducible refine gate_callee (f := 81) rfl ?_); refine goesL_ (some 26) rfl rfl Try.func81 q4_19 rfl #[.int .i64 uA, .int .i64 vA, .int .i64 yA] rfl q4_3 ?_; (with_reducible refine (spec_LiCall.calls uA vA yA gB mB qB zB FB UB tC ZC zD CE _ A19.out).mono ?_); rintro e cD ⟨rfl, hb⟩; refine ⟨_, rfl, ?_⟩; have mA := Aside0.mk (blk_below (g := hA) (o := .cells #[.int .i64 uA, .int .i64 vA, .int .i64 yA, .int .i64 JA, .int .i64 KA, .int .i64 LA, .int .i64 MA, .int .i64 NA, .int .i64 OA, .bool PA] 75 (0, 0)) q4_5 hb); have nA := Aside0.mk (blk_below (g := iA) (o := .cells #[.int .i64 0, .int .i64 0, .int .i64 0, .int .i64 0, .int .i64 0, .int .i64 0, .int .i64 0, .int .i64 0, .int .i64 0, .bool false] 75 (0, 0)) q4_18 hb); have oA := Aside0.mk (below_step q4_8 hb); clear bA; clear cA; clear HB; have bA := mA; have cA := nA; have HB := oA; clear mA nA oA; (try clear hb); (try clear hb2); (try clear hk); (try clear hi); have IG : cD.cell? ⟨iA, 0, none⟩ = some (.int .i64 0) := (blk_cell cA.out 0).trans rfl; have JG : cD.cell? ⟨iA, 1, none⟩ = some (.int .i64 0) := (blk_cell cA.out 1).trans rfl; have KG : cD.cell? ⟨iA, 2, none⟩ = some (.int .i64 0) := (blk_cell cA.out 2).trans rfl; have LG : cD.cell? ⟨iA, 3, none⟩ = some (.int .i64 0) := (blk_cell cA.out 3).trans rfl; have MG : cD.cell? ⟨iA, 4, none⟩ = some (.int .i64 0) := (blk_cell cA.out 4).trans rfl; have NG : cD.cell? ⟨iA, 5, none⟩ = some (.int .i64 0) := (blk_cell cA.out 5).trans rfl; have OG : cD.cell? ⟨iA, 6, none⟩ = some (.int .i64 0) := (blk_cell cA.out 6).trans rfl; have PG : cD.cell? ⟨iA, 7, none⟩ = some (.int .i64 0) := (blk_cell cA.out 7).trans rfl; have QG : cD.cell? ⟨iA, 8, none⟩ = some (.int .i64 0) := (blk_cell cA.out 8).trans rfl; have RG : cD.cell? ⟨iA, 9, none⟩ = some (.bool false) := (blk_cell cA.out 9).trans rfl; have SG := blk_frozen cA.out 0; have TG := blk_frozen cA.out 1; have UG := blk_frozen cA.out 2; have VG := blk_frozen cA.out 3; have WG := blk_frozen cA.out 4; have XG := blk_frozen cA.out 5; have YG := blk_frozen cA.out 6; have ZG := blk_frozen cA.out 7; have aH := blk_frozen cA.out 8; have bH := blk_frozen cA.out 9))
   refine bodyPost_ret (results_cell_row rfl _ _ iA 75 #[.int .i64 gB, .int .i64 mB, .int .i64 qB, .int .i64 zB, .int .i64 FB, .int .i64 UB, .int .i64 tC, .int .i64 ZC, .int .i64 zD, .bool CE] (0, 0) _ rfl (by (with_reducible repeat (first | refine blk_drewN ?_ _ | refine blk_drew ?_ | refine blk_alloc ?_ _)); refine blk_put (cs := #[.int .i64 gB, .int .i64 mB, .int .i64 qB, .int .i64 zB, .int .i64 FB, .int .i64 UB, .int .i64 tC, .int .i64 ZC, .int .i64 zD, .bool false]) ?_ 9 _ rfl; (with_reducible repeat (first | refine blk_drewN ?_ _ | refine blk_drew ?_ | refine blk_alloc ?_ _)); refine blk_put (cs := #[.int .i64 gB, .int .i64 mB, .int .i64 qB, .int .i64 zB, .int .i64 FB, .int .i64 UB, .int .i64 tC, .int .i64 ZC, .int .i64 0, .bool false]) ?_ 8 _ rfl; (with_reducible repeat (first | refine blk_drewN ?_ _ | refine blk_drew ?_ | refine blk_alloc ?_ _)); refine blk_put (cs := #[.int .i64 gB, .int .i64 mB, .int .i64 qB, .int .i64 zB, .int .i64 FB, .int .i64 UB, .int .i64 tC, .int .i64 0, .int .i64 0, .bool false]) ?_ 7 _ rfl; (with_reducible repeat (first | refine blk_drewN ?_ _ | refine blk_drew ?_ | refine blk_alloc ?_ _)); refine blk_put (cs := #[.int .i64 gB, .int .i64 mB, .int .i64 qB, .int .i64 zB, .int .i64 FB, .int .i64 UB, .int .i64 0, .int .i64 0, .int .i64 0, .bool false]) ?_ 6 _ rfl; (with_reducible repeat (first | refine blk_drewN ?_ _ | refine blk_drew ?_ | refine blk_alloc ?_ _)); refine blk_put (cs := #[.int .i64 gB, .int .i64 mB, .int .i64 qB, .int .i64 zB, .int .i64 FB, .int .i64 0, .int .i64 0, .int .i64 0, .int .i64 0, .bool false]) ?_ 5 _ rfl; (with_reducible repeat (first | refine blk_drewN ?_ _ | refine blk_drew ?_ | refine blk_alloc ?_ _)); refine blk_put (cs := #[.int .i64 gB, .int .i64 mB, .int .i64 qB, .int .i64 zB, .int .i64 0, .int .i64 0, .int .i64 0, .int .i64 0, .int .i64 0, .bool false]) ?_ 4 _ rfl; (with_reducible repeat (first | refine blk_drewN ?_ _ | refine blk_drew ?_ | refine blk_alloc ?_ _)); refine blk_put (cs := #[.int .i64 gB, .int .i64 mB, .int .i64 qB, .int .i64 0, .int .i64 0, .int .i64 0, .int .i64 0, .int .i64 0, .int .i64 0, .bool false]) ?_ 3 _ rfl; (with_reducible repeat (first | refine blk_drewN ?_ _ | refine blk_drew ?_ | refine blk_alloc ?_ _)); refine blk_put (cs := #[.int .i64 gB, .int .i64 mB, .int .i64 0, .int .i64 0, .int .i64 0, .int .i64 0, .int .i64 0, .int .i64 0, .int .i64 0, .bool false]) ?_ 2 _ rfl; (with_reducible repeat (first | refine blk_drewN ?_ _ | refine blk_drew ?_ | refine blk_alloc ?_ _)); refine blk_put (cs := #[.int .i64 gB, .int .i64 0, .int .i64 0, .int .i64 0, .int .i64 0, .int .i64 0, .int .i64 0, .int .i64 0, .int .i64 0, .bool false]) ?_ 1 _ rfl; (with_reducible repeat (first | refine blk_drewN ?_ _ | refine blk_drew ?_ | refine blk_alloc ?_ _)); refine blk_put (cs := #[.int .i64 0, .int .i64 0, .int .i64 0, .int .i64 0, .int .i64 0, .int .i64 0, .int .i64 0, .int .i64 0, .int .i64 0, .bool false]) ?_ 0 _ rfl; (with_reducible repeat (first | refine blk_drewN ?_ _ | refine blk_drew ?_ | refine blk_alloc ?_ _)); exact cA.out) Try.underlying75 rfl q4_19) rfl ?_
   exact ⟨q4_2, q4_8⟩

/-! ### spec_l01In: function 97 -/
def spec_l01In.f (a0 : Int) (a1 : Int) (a2 : Int) : Option (Bool) := if a0 ≥ a1 then (some (decide (a0 ≤ a2))) else (some false)
set_option maxHeartbeats 8000000 in
set_option maxRecDepth 100000 in
theorem spec_l01In.calls (a0 : Int) (a1 : Int) (a2 : Int) (r : Bool) (w : World) (h : spec_l01In.f a0 a1 a2 = some r) :
  Calls Try.prog 97 #[.int .i64 a0, .int .i64 a1, .int .i64 a2] w fun e w' => e = .returned (.bool r) ∧ Drawn0 w w' := by
 have H : (if a0 ≥ a1 then (some (decide (a0 ≤ a2))) else (some false)) = some r := h
 clear h
 by_cases c4 : a0 ≥ a1
 ·rw [if_pos c4] at H
  have iB : decide (a1 ≤ a0) = true := decide_eq_true c4
  clear c4
  obtain rfl := Option.some.inj H
  go_enter Try.func97, Try.ntmps97
  go_wp2
  go_ret
  exact ⟨q4_9, q4_14⟩
 ·rw [if_neg c4] at H
  have iB : decide (a1 ≤ a0) = false := decide_eq_false c4
  clear c4
  obtain rfl := Option.some.inj H
  go_enter Try.func97, Try.ntmps97
  go_wp2
  go_ret
  exact ⟨q4_9, q4_14⟩

end Go.Proofs.Ytndkfjecipjiaaa.PFnExactCrewOk
