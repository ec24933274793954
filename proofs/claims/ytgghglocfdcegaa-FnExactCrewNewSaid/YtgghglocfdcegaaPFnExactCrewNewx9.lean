-- Written by the session's own patched copy of the printer (wip/patch_print.py).
import Derived.Test.YtgghglocfdcegaaPFnExactCrewNewx0
import Derived.Test.YtgghglocfdcegaaPFnExactCrewNewx8
namespace Go.Proofs.Ytgghglocfdcegaa.PFnExactCrewNew
open Go.RowKit Go.Proofs.YtgghglocfdcegaaW.PrintWords Go.Proofs.YtgghglocfdcegaaW.PrintLast Go.Proofs.YtgghglocfdcegaaW.PrintMore
attribute [local go_sem] max2_int min2_int max_two min_two max_three min_three max_four min_four   -- for this text's walks alone
set_option linter.unusedVariables false
set_option linter.unusedSimpArgs false

theorem q9_0 {p : Prop} (h : p := by first | (with_reducible assumption) | assumption) : p := h
theorem q9_1 {p : Prop} (h : p := by (try simp only [List.map_toArray, List.map_cons, List.map_nil]); first | done | rfl | (simp only [List.length_drop, List.length_take]; rfl)) : p := h
theorem q9_2 {p : Prop} (h : p := by repeat (first | exact Drawn0.refl _ | apply Drawn0.step)) : p := h
theorem q9_3 {p : Prop} (h : p := by repeat (first | (with_reducible first | exact HB.out | apply below_alloc | apply pw_below_drewN | apply below_drew1) | exact HB.out)) : p := h
theorem q9_4 {p : Prop} (h : p := by first | rfl | (simp; done) | (simp [*]; done)) : p := h
theorem q9_5 {p : Prop} (h : p := by repeat (first | (with_reducible first | exact HB.out | apply below_alloc | apply pw_below_drewN | apply below_drew1 | refine below_set ?_ HD.out) | exact HB.out)) : p := h
theorem q9_6 {p : Prop} (h : p := by repeat (first | exact TB.out | (with_reducible refine Kd.C_alloc ?_ _) | (with_reducible refine Kd.C_drewN ?_ _) | (with_reducible refine Kd.C_drew ?_))) : p := h
theorem q9_7 {p : Prop} (h : p := by repeat (first | exact (Kd.C_below EE.out HB.out) | (with_reducible refine Kd.C_alloc ?_ _) | (with_reducible refine Kd.C_drewN ?_ _) | (with_reducible refine Kd.C_drew ?_))) : p := h
theorem q9_8 {p : Prop} (h : p := by repeat (first | exact IC.out | (with_reducible refine Kd.C_alloc ?_ _) | (with_reducible refine Kd.C_drewN ?_ _) | (with_reducible refine Kd.C_drew ?_))) : p := h
theorem q9_9 {p : Prop} (h : p := by (with_reducible repeat (first | refine blk_drewN ?_ _ | refine blk_drew ?_ | refine blk_alloc ?_ _)); exact bA.out) : p := h
/-! ### laws_heldCallS: function 88 -/
def laws_heldCallS.l0 : Nat → List (S75) → Int → Int → Option (Int)
 | 0, _, _, _ => none
 | k + 1, x0, x1, x5 => if x5 < (x0.length : Int) then (if 0 ≤ x5 then (if ((rd_T75 x0 x5).f0) = x1 then (if ((rd_T75 x0 x5).f1) = (wrap64 (x1 + 1)) then (if ((rd_T75 x0 x5).f2) = (wrap64 ((wrap64 (x1 + 1)) + 1)) then (if ((rd_T75 x0 x5).f3) = (wrap64 ((wrap64 ((wrap64 (x1 + 1)) + 1)) + 1)) then (if ((rd_T75 x0 x5).f4) = (wrap64 ((wrap64 ((wrap64 ((wrap64 (x1 + 1)) + 1)) + 1)) + 1)) then (if ((rd_T75 x0 x5).f5) = (wrap64 ((wrap64 ((wrap64 ((wrap64 ((wrap64 (x1 + 1)) + 1)) + 1)) + 1)) + 1)) then (if ((rd_T75 x0 x5).f6) = (wrap64 ((wrap64 ((wrap64 ((wrap64 ((wrap64 ((wrap64 (x1 + 1)) + 1)) + 1)) + 1)) + 1)) + 1)) then (if ((rd_T75 x0 x5).f7) = (wrap64 ((wrap64 ((wrap64 ((wrap64 ((wrap64 ((wrap64 ((wrap64 (x1 + 1)) + 1)) + 1)) + 1)) + 1)) + 1)) + 1)) then (if ((rd_T75 x0 x5).f8) = (wrap64 ((wrap64 ((wrap64 ((wrap64 ((wrap64 ((wrap64 ((wrap64 ((wrap64 (x1 + 1)) + 1)) + 1)) + 1)) + 1)) + 1)) + 1)) + 1)) then (if (((rd_T75 x0 x5).f9) != ((Int.tmod (wrap64 ((wrap64 ((wrap64 ((wrap64 ((wrap64 ((wrap64 ((wrap64 ((wrap64 ((wrap64 (x1 + 1)) + 1)) + 1)) + 1)) + 1)) + 1)) + 1)) + 1)) + 1)) 3) == 0)) = true then (some (-1)) else (laws_heldCallS.l0 k x0 (wrap64 ((wrap64 ((wrap64 ((wrap64 ((wrap64 ((wrap64 ((wrap64 ((wrap64 ((wrap64 ((wrap64 (x1 + 1)) + 1)) + 1)) + 1)) + 1)) + 1)) + 1)) + 1)) + 1)) + 1)) (wrap64 (x5 + 1)))) else (some (-1))) else (some (-1))) else (some (-1))) else (some (-1))) else (some (-1))) else (some (-1))) else (some (-1))) else (some (-1))) else (some (-1))) else (none)) else (some x1)
def laws_heldCallS.f (k : Nat) (l0 : List (S75)) (a1 : Int) : Option (Int) := laws_heldCallS.l0 k l0 a1 0
theorem laws_heldCallS.mono_l : ∀ k, (∀ y0 y1 y2, LeO (laws_heldCallS.l0 k y0 y1 y2) (laws_heldCallS.l0 (k + 1) y0 y1 y2))
 | 0 => fun _ _ _ r h => by simp [laws_heldCallS.l0] at h
 | k + 1 => by
  have ih0 := laws_heldCallS.mono_l k
  ·intro y0 y1 y2
   unfold laws_heldCallS.l0
   repeat' first
   | (with_reducible exact ih0 _ _ _)
   | (with_reducible exact LeO.refl _)
   | (with_reducible exact LeO.none _)
   | (with_reducible refine LeO.ite ?_ ?_)
   | (with_reducible refine LeO.bind ?_ (fun _ => ?_))
   | exact ih0 _ _ _
   | exact LeO.none _
   | refine LeO.ite ?_ ?_
   | refine LeO.bind ?_ (fun _ => ?_)
theorem laws_heldCallS.mono : ∀ a0 a1 k, LeO (laws_heldCallS.f k a0 a1) (laws_heldCallS.f (k + 1) a0 a1) := by
 intro a0 a1 k
 have ih0 := laws_heldCallS.mono_l k
 unfold laws_heldCallS.f
 repeat' first
   | (with_reducible exact ih0 _ _ _)
   | (with_reducible exact LeO.refl _)
   | (with_reducible exact LeO.none _)
   | (with_reducible refine LeO.ite ?_ ?_)
   | (with_reducible refine LeO.bind ?_ (fun _ => ?_))
   | exact ih0 _ _ _
   | exact LeO.none _
   | refine LeO.ite ?_ ?_
   | refine LeO.bind ?_ (fun _ => ?_)
set_option maxHeartbeats 8000000 in
set_option maxRecDepth 100000 in
theorem laws_heldCallS.calls (k : Nat) (A0 : Option Addr) (c0 : Nat) (l0 : List (S75)) (a1 : Int) (r : Int) (w : World) (hr0 : Kd.C k75 w A0 l0.length l0) (hc0 : l0.length ≤ c0) (h : laws_heldCallS.f k l0 a1 = some r) :
  Calls Try.prog 88 #[.slice A0 l0.length c0, .int .i64 a1] w fun e w' => e = .returned (.int .i64 r) ∧ Drawn0 w w' := by
 have HR0 := Aside0.mk hr0
 clear hr0 hc0
 have H : (laws_heldCallS.l0 k l0 a1 0) = some r := h
 clear h
 have H' := Aside0.mk H
 clear H
 go_enter Try.func88, Try.ntmps88
 go_wp2
 go_loopg [1, 5] k (fun kq v1 v5 w' => ∃ (cA : Int) (aA : Int), v1 = .int .i64 cA ∧ v5 = .int .i64 aA ∧ Aside0 (laws_heldCallS.l0 kq l0 cA aA = some r) ∧ Aside0 (kq ≤ k) ∧ Drawn0 w w')
 case atStart => exact ⟨(a1), (0), q9_4, q9_4, H', ⟨Nat.le_refl _⟩, q9_2⟩
 case round =>
  clear H'
  try clear p2
  obtain ⟨cA, aA, rfl, rfl, HA, HK1, ⟨m1, rfl⟩⟩ := hrel
  cases gk with
  | zero => exact absurd HA.out (by simp [laws_heldCallS.l0])
  | succ k1 =>
   have H := HA.out
   clear HA
   simp only [laws_heldCallS.l0] at H
   by_cases c3 : aA < (l0.length : Int)
   ·rw [if_pos c3] at H
    have rE : decide (aA < (l0.length : Int)) = true := decide_eq_true c3
    clear c3
    by_cases c4 : 0 ≤ aA
    ·rw [if_pos c4] at H
     have sE : decide (0 ≤ aA) = true := decide_eq_true c4
     clear c4
     by_cases c5 : ((rd_T75 l0 aA).f0) = cA
     ·rw [if_pos c5] at H
      have HF : (((rd_T75 l0 aA).f0) == cA) = true := beq_iff_eq.mpr c5
      have IF : (((rd_T75 l0 aA).f0) != cA) = false := bne_eq_false_iff_eq.mpr c5
      clear c5
      by_cases c6 : ((rd_T75 l0 aA).f1) = (wrap64 (cA + 1))
      ·rw [if_pos c6] at H
       have tE : (((rd_T75 l0 aA).f1) == (wrap64 (cA + 1))) = true := beq_iff_eq.mpr c6
       have JF : (((rd_T75 l0 aA).f1) != (wrap64 (cA + 1))) = false := bne_eq_false_iff_eq.mpr c6
       clear c6
       by_cases c7 : ((rd_T75 l0 aA).f2) = (wrap64 ((wrap64 (cA + 1)) + 1))
       ·rw [if_pos c7] at H
        have uE : (((rd_T75 l0 aA).f2) == (wrap64 ((wrap64 (cA + 1)) + 1))) = true := beq_iff_eq.mpr c7
        have vE : (((rd_T75 l0 aA).f2) != (wrap64 ((wrap64 (cA + 1)) + 1))) = false := bne_eq_false_iff_eq.mpr c7
        clear c7
        by_cases c8 : ((rd_T75 l0 aA).f3) = (wrap64 ((wrap64 ((wrap64 (cA + 1)) + 1)) + 1))
        ·rw [if_pos c8] at H
         have KF : (((rd_T75 l0 aA).f3) == (wrap64 ((wrap64 ((wrap64 (cA + 1)) + 1)) + 1))) = true := beq_iff_eq.mpr c8
         have LF : (((rd_T75 l0 aA).f3) != (wrap64 ((wrap64 ((wrap64 (cA + 1)) + 1)) + 1))) = false := bne_eq_false_iff_eq.mpr c8
         clear c8
         by_cases c9 : ((rd_T75 l0 aA).f4) = (wrap64 ((wrap64 ((wrap64 ((wrap64 (cA + 1)) + 1)) + 1)) + 1))
         ·rw [if_pos c9] at H
          have ID : (((rd_T75 l0 aA).f4) == (wrap64 ((wrap64 ((wrap64 ((wrap64 (cA + 1)) + 1)) + 1)) + 1))) = true := beq_iff_eq.mpr c9
          have MF : (((rd_T75 l0 aA).f4) != (wrap64 ((wrap64 ((wrap64 ((wrap64 (cA + 1)) + 1)) + 1)) + 1))) = false := bne_eq_false_iff_eq.mpr c9
          clear c9
          by_cases c10 : ((rd_T75 l0 aA).f5) = (wrap64 ((wrap64 ((wrap64 ((wrap64 ((wrap64 (cA + 1)) + 1)) + 1)) + 1)) + 1))
          ·rw [if_pos c10] at H
           have FE : (((rd_T75 l0 aA).f5) == (wrap64 ((wrap64 ((wrap64 ((wrap64 ((wrap64 (cA + 1)) + 1)) + 1)) + 1)) + 1))) = true := beq_iff_eq.mpr c10
           have GE : (((rd_T75 l0 aA).f5) != (wrap64 ((wrap64 ((wrap64 ((wrap64 ((wrap64 (cA + 1)) + 1)) + 1)) + 1)) + 1))) = false := bne_eq_false_iff_eq.mpr c10
           clear c10
           by_cases c11 : ((rd_T75 l0 aA).f6) = (wrap64 ((wrap64 ((wrap64 ((wrap64 ((wrap64 ((wrap64 (cA + 1)) + 1)) + 1)) + 1)) + 1)) + 1))
           ·rw [if_pos c11] at H
            have JD : (((rd_T75 l0 aA).f6) == (wrap64 ((wrap64 ((wrap64 ((wrap64 ((wrap64 ((wrap64 (cA + 1)) + 1)) + 1)) + 1)) + 1)) + 1))) = true := beq_iff_eq.mpr c11
            have HE : (((rd_T75 l0 aA).f6) != (wrap64 ((wrap64 ((wrap64 ((wrap64 ((wrap64 ((wrap64 (cA + 1)) + 1)) + 1)) + 1)) + 1)) + 1))) = false := bne_eq_false_iff_eq.mpr c11
            clear c11
            by_cases c12 : ((rd_T75 l0 aA).f7) = (wrap64 ((wrap64 ((wrap64 ((wrap64 ((wrap64 ((wrap64 ((wrap64 (cA + 1)) + 1)) + 1)) + 1)) + 1)) + 1)) + 1))
            ·rw [if_pos c12] at H
             have IE : (((rd_T75 l0 aA).f7) == (wrap64 ((wrap64 ((wrap64 ((wrap64 ((wrap64 ((wrap64 ((wrap64 (cA + 1)) + 1)) + 1)) + 1)) + 1)) + 1)) + 1))) = true := beq_iff_eq.mpr c12
             have JE : (((rd_T75 l0 aA).f7) != (wrap64 ((wrap64 ((wrap64 ((wrap64 ((wrap64 ((wrap64 ((wrap64 (cA + 1)) + 1)) + 1)) + 1)) + 1)) + 1)) + 1))) = false := bne_eq_false_iff_eq.mpr c12
             clear c12
             by_cases c13 : ((rd_T75 l0 aA).f8) = (wrap64 ((wrap64 ((wrap64 ((wrap64 ((wrap64 ((wrap64 ((wrap64 ((wrap64 (cA + 1)) + 1)) + 1)) + 1)) + 1)) + 1)) + 1)) + 1))
             ·rw [if_pos c13] at H
              have KE : (((rd_T75 l0 aA).f8) == (wrap64 ((wrap64 ((wrap64 ((wrap64 ((wrap64 ((wrap64 ((wrap64 ((wrap64 (cA + 1)) + 1)) + 1)) + 1)) + 1)) + 1)) + 1)) + 1))) = true := beq_iff_eq.mpr c13
              have LE : (((rd_T75 l0 aA).f8) != (wrap64 ((wrap64 ((wrap64 ((wrap64 ((wrap64 ((wrap64 ((wrap64 ((wrap64 (cA + 1)) + 1)) + 1)) + 1)) + 1)) + 1)) + 1)) + 1))) = false := bne_eq_false_iff_eq.mpr c13
              clear c13
              by_cases c14 : (((rd_T75 l0 aA).f9) != ((Int.tmod (wrap64 ((wrap64 ((wrap64 ((wrap64 ((wrap64 ((wrap64 ((wrap64 ((wrap64 ((wrap64 (cA + 1)) + 1)) + 1)) + 1)) + 1)) + 1)) + 1)) + 1)) + 1)) 3) == 0)) = true
              ·rw [if_pos c14] at H
               have ME : (((rd_T75 l0 aA).f9) != ((Int.tmod (wrap64 ((wrap64 ((wrap64 ((wrap64 ((wrap64 ((wrap64 ((wrap64 ((wrap64 ((wrap64 (cA + 1)) + 1)) + 1)) + 1)) + 1)) + 1)) + 1)) + 1)) + 1)) 3) == 0)) = true := c14
               (try (have NE : decide (((rd_T75 l0 aA).f9) = ((Int.tmod (wrap64 ((wrap64 ((wrap64 ((wrap64 ((wrap64 ((wrap64 ((wrap64 ((wrap64 ((wrap64 (cA + 1)) + 1)) + 1)) + 1)) + 1)) + 1)) + 1)) + 1)) + 1)) 3) == 0)) = false := by simpa using c14))
               (try (have OE : (((rd_T75 l0 aA).f9) == ((Int.tmod (wrap64 ((wrap64 ((wrap64 ((wrap64 ((wrap64 ((wrap64 ((wrap64 ((wrap64 ((wrap64 (cA + 1)) + 1)) + 1)) + 1)) + 1)) + 1)) + 1)) + 1)) + 1)) 3) == 0)) = false := by simpa using c14))
               (try (have XF : ¬ (((rd_T75 l0 aA).f9) = ((Int.tmod (wrap64 ((wrap64 ((wrap64 ((wrap64 ((wrap64 ((wrap64 ((wrap64 ((wrap64 ((wrap64 (cA + 1)) + 1)) + 1)) + 1)) + 1)) + 1)) + 1)) + 1)) + 1)) 3) == 0)) := by simpa using c14))
               clear c14
               obtain rfl := Option.some.inj H
               have p407 : 0 ≤ (aA : Int) := of_decide_eq_true q9_0
               have q407 : aA < (l0.length : Int) := of_decide_eq_true q9_0
               obtain ⟨ad407, iB, pA, qA, rA, sA, tA, uA, vA, wA, xA, yA⟩ := at_T75 HR0.out aA p407 q407
               cases iB
               replace p407 := eq_true p407
               replace q407 := eq_true q407
               have p408 : 0 ≤ (aA : Int) := of_decide_eq_true q9_0
               have q408 : aA < (l0.length : Int) := of_decide_eq_true q9_0
               obtain ⟨ad408, jB, AA, BA, CA, DA, EA, FA, GA, IA, JA, KA⟩ := at_T75 HR0.out aA p408 q408
               obtain rfl : ad407 = ad408 := (by injection jB)
               replace p408 := eq_true p408
               replace q408 := eq_true q408
               have p409 : 0 ≤ (aA : Int) := of_decide_eq_true q9_0
               have q409 : aA < (l0.length : Int) := of_decide_eq_true q9_0
               obtain ⟨ad409, zB, SA, TA, UA, VA, WA, XA, YA, ZA, aB, bB⟩ := at_T75 HR0.out aA p409 q409
               obtain rfl : ad407 = ad409 := (by injection zB)
               replace p409 := eq_true p409
               replace q409 := eq_true q409
               have p410 : 0 ≤ (aA : Int) := of_decide_eq_true q9_0
               have q410 : aA < (l0.length : Int) := of_decide_eq_true q9_0
               obtain ⟨ad410, OB, kB, lB, mB, nB, oB, pB, qB, rB, sB, tB⟩ := at_T75 HR0.out aA p410 q410
               obtain rfl : ad407 = ad410 := (by injection OB)
               replace p410 := eq_true p410
               replace q410 := eq_true q410
               have p411 : 0 ≤ (aA : Int) := of_decide_eq_true q9_0
               have q411 : aA < (l0.length : Int) := of_decide_eq_true q9_0
               obtain ⟨ad411, rC, AB, BB, CB, DB, EB, FB, GB, IB, JB, KB⟩ := at_T75 HR0.out aA p411 q411
               obtain rfl : ad407 = ad411 := (by injection rC)
               replace p411 := eq_true p411
               replace q411 := eq_true q411
               have p412 : 0 ≤ (aA : Int) := of_decide_eq_true q9_0
               have q412 : aA < (l0.length : Int) := of_decide_eq_true q9_0
               obtain ⟨ad412, GC, UB, VB, WB, XB, YB, ZB, aC, bC, cC, dC⟩ := at_T75 HR0.out aA p412 q412
               obtain rfl : ad407 = ad412 := (by injection GC)
               replace p412 := eq_true p412
               replace q412 := eq_true q412
               have p413 : 0 ≤ (aA : Int) := of_decide_eq_true q9_0
               have q413 : aA < (l0.length : Int) := of_decide_eq_true q9_0
               obtain ⟨ad413, JC, vC, wC, xC, yC, zC, AC, BC, CC, DC, EC⟩ := at_T75 HR0.out aA p413 q413
               obtain rfl : ad407 = ad413 := (by injection JC)
               replace p413 := eq_true p413
               replace q413 := eq_true q413
               have p414 : 0 ≤ (aA : Int) := of_decide_eq_true q9_0
               have q414 : aA < (l0.length : Int) := of_decide_eq_true q9_0
               obtain ⟨ad414, kD, KC, LC, MC, NC, OC, PC, QC, RC, SC, TC⟩ := at_T75 HR0.out aA p414 q414
               obtain rfl : ad407 = ad414 := (by injection kD)
               replace p414 := eq_true p414
               replace q414 := eq_true q414
               have p415 : 0 ≤ (aA : Int) := of_decide_eq_true q9_0
               have q415 : aA < (l0.length : Int) := of_decide_eq_true q9_0
               obtain ⟨ad415, KD, sD, tD, uD, vD, wD, xD, yD, zD, AD, BD⟩ := at_T75 HR0.out aA p415 q415
               obtain rfl : ad407 = ad415 := (by injection KD)
               replace p415 := eq_true p415
               replace q415 := eq_true q415
               have p416 : 0 ≤ (aA : Int) := of_decide_eq_true q9_0
               have q416 : aA < (l0.length : Int) := of_decide_eq_true q9_0
               obtain ⟨ad416, wE, TD, UD, VD, WD, XD, YD, ZD, aE, bE, cE⟩ := at_T75 HR0.out aA p416 q416
               obtain rfl : ad407 = ad416 := (by injection wE)
               replace p416 := eq_true p416
               replace q416 := eq_true q416
               go_wp2
               go_ret
               exact ⟨q9_4, q9_2⟩
              ·rw [if_neg c14] at H
               have ME : (((rd_T75 l0 aA).f9) != ((Int.tmod (wrap64 ((wrap64 ((wrap64 ((wrap64 ((wrap64 ((wrap64 ((wrap64 ((wrap64 ((wrap64 (cA + 1)) + 1)) + 1)) + 1)) + 1)) + 1)) + 1)) + 1)) + 1)) 3) == 0)) = false := by simpa using c14
               (try (have NE : decide (((rd_T75 l0 aA).f9) = ((Int.tmod (wrap64 ((wrap64 ((wrap64 ((wrap64 ((wrap64 ((wrap64 ((wrap64 ((wrap64 ((wrap64 (cA + 1)) + 1)) + 1)) + 1)) + 1)) + 1)) + 1)) + 1)) + 1)) 3) == 0)) = true := by simpa using c14))
               (try (have OE : (((rd_T75 l0 aA).f9) == ((Int.tmod (wrap64 ((wrap64 ((wrap64 ((wrap64 ((wrap64 ((wrap64 ((wrap64 ((wrap64 ((wrap64 (cA + 1)) + 1)) + 1)) + 1)) + 1)) + 1)) + 1)) + 1)) + 1)) 3) == 0)) = true := by simpa using c14))
               clear c14
               have H' := Aside0.mk H
               clear H
               have p407 : 0 ≤ (aA : Int) := of_decide_eq_true q9_0
               have q407 : aA < (l0.length : Int) := of_decide_eq_true q9_0
               obtain ⟨ad407, iB, pA, qA, rA, sA, tA, uA, vA, wA, xA, yA⟩ := at_T75 HR0.out aA p407 q407
               cases iB
               replace p407 := eq_true p407
               replace q407 := eq_true q407
               have p408 : 0 ≤ (aA : Int) := of_decide_eq_true q9_0
               have q408 : aA < (l0.length : Int) := of_decide_eq_true q9_0
               obtain ⟨ad408, jB, AA, BA, CA, DA, EA, FA, GA, IA, JA, KA⟩ := at_T75 HR0.out aA p408 q408
               obtain rfl : ad407 = ad408 := (by injection jB)
               replace p408 := eq_true p408
               replace q408 := eq_true q408
               have p409 : 0 ≤ (aA : Int) := of_decide_eq_true q9_0
               have q409 : aA < (l0.length : Int) := of_decide_eq_true q9_0
               obtain ⟨ad409, zB, SA, TA, UA, VA, WA, XA, YA, ZA, aB, bB⟩ := at_T75 HR0.out aA p409 q409
               obtain rfl : ad407 = ad409 := (by injection zB)
               replace p409 := eq_true p409
               replace q409 := eq_true q409
               have p410 : 0 ≤ (aA : Int) := of_decide_eq_true q9_0
               have q410 : aA < (l0.length : Int) := of_decide_eq_true q9_0
               obtain ⟨ad410, OB, kB, lB, mB, nB, oB, pB, qB, rB, sB, tB⟩ := at_T75 HR0.out aA p410 q410
               obtain rfl : ad407 = ad410 := (by injection OB)
               replace p410 := eq_true p410
               replace q410 := eq_true q410
               have p411 : 0 ≤ (aA : Int) := of_decide_eq_true q9_0
               have q411 : aA < (l0.length : Int) := of_decide_eq_true q9_0
               obtain ⟨ad411, rC, AB, BB, CB, DB, EB, FB, GB, IB, JB, KB⟩ := at_T75 HR0.out aA p411 q411
               obtain rfl : ad407 = ad411 := (by injection rC)
               replace p411 := eq_true p411
               replace q411 := eq_true q411
               have p412 : 0 ≤ (aA : Int) := of_decide_eq_true q9_0
               have q412 : aA < (l0.length : Int) := of_decide_eq_true q9_0
               obtain ⟨ad412, GC, UB, VB, WB, XB, YB, ZB, aC, bC, cC, dC⟩ := at_T75 HR0.out aA p412 q412
               obtain rfl : ad407 = ad412 := (by injection GC)
               replace p412 := eq_true p412
               replace q412 := eq_true q412
               have p413 : 0 ≤ (aA : Int) := of_decide_eq_true q9_0
               have q413 : aA < (l0.length : Int) := of_decide_eq_true q9_0
               obtain ⟨ad413, JC, vC, wC, xC, yC, zC, AC, BC, CC, DC, EC⟩ := at_T75 HR0.out aA p413 q413
               obtain rfl : ad407 = ad413 := (by injection JC)
               replace p413 := eq_true p413
               replace q413 := eq_true q413
               have p414 : 0 ≤ (aA : Int) := of_decide_eq_true q9_0
               have q414 : aA < (l0.length : Int) := of_decide_eq_true q9_0
               obtain ⟨ad414, kD, KC, LC, MC, NC, OC, PC, QC, RC, SC, TC⟩ := at_T75 HR0.out aA p414 q414
               obtain rfl : ad407 = ad414 := (by injection kD)
               replace p414 := eq_true p414
               replace q414 := eq_true q414
               have p415 : 0 ≤ (aA : Int) := of_decide_eq_true q9_0
               have q415 : aA < (l0.length : Int) := of_decide_eq_true q9_0
               obtain ⟨ad415, KD, sD, tD, uD, vD, wD, xD, yD, zD, AD, BD⟩ := at_T75 HR0.out aA p415 q415
               obtain rfl : ad407 = ad415 := (by injection KD)
               replace p415 := eq_true p415
               replace q415 := eq_true q415
               have p416 : 0 ≤ (aA : Int) := of_decide_eq_true q9_0
               have q416 : aA < (l0.length : Int) := of_decide_eq_true q9_0
               obtain ⟨ad416, wE, TD, UD, VD, WD, XD, YD, ZD, aE, bE, cE⟩ := at_T75 HR0.out aA p416 q416
               obtain rfl : ad407 = ad416 := (by injection wE)
               replace p416 := eq_true p416
               replace q416 := eq_true q416
               go_wp2
               go_roundg k1
               case measure => have := HK1.out; omega
               case rel => exact ⟨(wrap64 ((wrap64 ((wrap64 ((wrap64 ((wrap64 ((wrap64 ((wrap64 ((wrap64 ((wrap64 ((wrap64 (cA + 1)) + 1)) + 1)) + 1)) + 1)) + 1)) + 1)) + 1)) + 1)) + 1)), (wrap64 (aA + 1)), q9_4, q9_4, H', ⟨by have := HK1.out; omega⟩, q9_2⟩
             ·rw [if_neg c13] at H
              have KE : (((rd_T75 l0 aA).f8) == (wrap64 ((wrap64 ((wrap64 ((wrap64 ((wrap64 ((wrap64 ((wrap64 ((wrap64 (cA + 1)) + 1)) + 1)) + 1)) + 1)) + 1)) + 1)) + 1))) = false := beq_eq_false_iff_ne.mpr c13
              have LE : (((rd_T75 l0 aA).f8) != (wrap64 ((wrap64 ((wrap64 ((wrap64 ((wrap64 ((wrap64 ((wrap64 ((wrap64 (cA + 1)) + 1)) + 1)) + 1)) + 1)) + 1)) + 1)) + 1))) = true := bne_iff_ne.mpr c13
              obtain rfl := Option.some.inj H
              have p407 : 0 ≤ (aA : Int) := of_decide_eq_true q9_0
              have q407 : aA < (l0.length : Int) := of_decide_eq_true q9_0
              obtain ⟨ad407, iB, pA, qA, rA, sA, tA, uA, vA, wA, xA, yA⟩ := at_T75 HR0.out aA p407 q407
              cases iB
              replace p407 := eq_true p407
              replace q407 := eq_true q407
              have p408 : 0 ≤ (aA : Int) := of_decide_eq_true q9_0
              have q408 : aA < (l0.length : Int) := of_decide_eq_true q9_0
              obtain ⟨ad408, jB, AA, BA, CA, DA, EA, FA, GA, IA, JA, KA⟩ := at_T75 HR0.out aA p408 q408
              obtain rfl : ad407 = ad408 := (by injection jB)
              replace p408 := eq_true p408
              replace q408 := eq_true q408
              have p409 : 0 ≤ (aA : Int) := of_decide_eq_true q9_0
              have q409 : aA < (l0.length : Int) := of_decide_eq_true q9_0
              obtain ⟨ad409, zB, SA, TA, UA, VA, WA, XA, YA, ZA, aB, bB⟩ := at_T75 HR0.out aA p409 q409
              obtain rfl : ad407 = ad409 := (by injection zB)
              replace p409 := eq_true p409
              replace q409 := eq_true q409
              have p410 : 0 ≤ (aA : Int) := of_decide_eq_true q9_0
              have q410 : aA < (l0.length : Int) := of_decide_eq_true q9_0
              obtain ⟨ad410, OB, kB, lB, mB, nB, oB, pB, qB, rB, sB, tB⟩ := at_T75 HR0.out aA p410 q410
              obtain rfl : ad407 = ad410 := (by injection OB)
              replace p410 := eq_true p410
              replace q410 := eq_true q410
              have p411 : 0 ≤ (aA : Int) := of_decide_eq_true q9_0
              have q411 : aA < (l0.length : Int) := of_decide_eq_true q9_0
              obtain ⟨ad411, rC, AB, BB, CB, DB, EB, FB, GB, IB, JB, KB⟩ := at_T75 HR0.out aA p411 q411
              obtain rfl : ad407 = ad411 := (by injection rC)
              replace p411 := eq_true p411
              replace q411 := eq_true q411
              have p412 : 0 ≤ (aA : Int) := of_decide_eq_true q9_0
              have q412 : aA < (l0.length : Int) := of_decide_eq_true q9_0
              obtain ⟨ad412, GC, UB, VB, WB, XB, YB, ZB, aC, bC, cC, dC⟩ := at_T75 HR0.out aA p412 q412
              obtain rfl : ad407 = ad412 := (by injection GC)
              replace p412 := eq_true p412
              replace q412 := eq_true q412
              have p413 : 0 ≤ (aA : Int) := of_decide_eq_true q9_0
              have q413 : aA < (l0.length : Int) := of_decide_eq_true q9_0
              obtain ⟨ad413, JC, vC, wC, xC, yC, zC, AC, BC, CC, DC, EC⟩ := at_T75 HR0.out aA p413 q413
              obtain rfl : ad407 = ad413 := (by injection JC)
              replace p413 := eq_true p413
              replace q413 := eq_true q413
              have p414 : 0 ≤ (aA : Int) := of_decide_eq_true q9_0
              have q414 : aA < (l0.length : Int) := of_decide_eq_true q9_0
              obtain ⟨ad414, kD, KC, LC, MC, NC, OC, PC, QC, RC, SC, TC⟩ := at_T75 HR0.out aA p414 q414
              obtain rfl : ad407 = ad414 := (by injection kD)
              replace p414 := eq_true p414
              replace q414 := eq_true q414
              have p415 : 0 ≤ (aA : Int) := of_decide_eq_true q9_0
              have q415 : aA < (l0.length : Int) := of_decide_eq_true q9_0
              obtain ⟨ad415, KD, sD, tD, uD, vD, wD, xD, yD, zD, AD, BD⟩ := at_T75 HR0.out aA p415 q415
              obtain rfl : ad407 = ad415 := (by injection KD)
              replace p415 := eq_true p415
              replace q415 := eq_true q415
              go_wp2
              go_ret
              exact ⟨q9_4, q9_2⟩
            ·rw [if_neg c12] at H
             have IE : (((rd_T75 l0 aA).f7) == (wrap64 ((wrap64 ((wrap64 ((wrap64 ((wrap64 ((wrap64 ((wrap64 (cA + 1)) + 1)) + 1)) + 1)) + 1)) + 1)) + 1))) = false := beq_eq_false_iff_ne.mpr c12
             have JE : (((rd_T75 l0 aA).f7) != (wrap64 ((wrap64 ((wrap64 ((wrap64 ((wrap64 ((wrap64 ((wrap64 (cA + 1)) + 1)) + 1)) + 1)) + 1)) + 1)) + 1))) = true := bne_iff_ne.mpr c12
             obtain rfl := Option.some.inj H
             have p407 : 0 ≤ (aA : Int) := of_decide_eq_true q9_0
             have q407 : aA < (l0.length : Int) := of_decide_eq_true q9_0
             obtain ⟨ad407, iB, pA, qA, rA, sA, tA, uA, vA, wA, xA, yA⟩ := at_T75 HR0.out aA p407 q407
             cases iB
             replace p407 := eq_true p407
             replace q407 := eq_true q407
             have p408 : 0 ≤ (aA : Int) := of_decide_eq_true q9_0
             have q408 : aA < (l0.length : Int) := of_decide_eq_true q9_0
             obtain ⟨ad408, jB, AA, BA, CA, DA, EA, FA, GA, IA, JA, KA⟩ := at_T75 HR0.out aA p408 q408
             obtain rfl : ad407 = ad408 := (by injection jB)
             replace p408 := eq_true p408
             replace q408 := eq_true q408
             have p409 : 0 ≤ (aA : Int) := of_decide_eq_true q9_0
             have q409 : aA < (l0.length : Int) := of_decide_eq_true q9_0
             obtain ⟨ad409, zB, SA, TA, UA, VA, WA, XA, YA, ZA, aB, bB⟩ := at_T75 HR0.out aA p409 q409
             obtain rfl : ad407 = ad409 := (by injection zB)
             replace p409 := eq_true p409
             replace q409 := eq_true q409
             have p410 : 0 ≤ (aA : Int) := of_decide_eq_true q9_0
             have q410 : aA < (l0.length : Int) := of_decide_eq_true q9_0
             obtain ⟨ad410, OB, kB, lB, mB, nB, oB, pB, qB, rB, sB, tB⟩ := at_T75 HR0.out aA p410 q410
             obtain rfl : ad407 = ad410 := (by injection OB)
             replace p410 := eq_true p410
             replace q410 := eq_true q410
             have p411 : 0 ≤ (aA : Int) := of_decide_eq_true q9_0
             have q411 : aA < (l0.length : Int) := of_decide_eq_true q9_0
             obtain ⟨ad411, rC, AB, BB, CB, DB, EB, FB, GB, IB, JB, KB⟩ := at_T75 HR0.out aA p411 q411
             obtain rfl : ad407 = ad411 := (by injection rC)
             replace p411 := eq_true p411
             replace q411 := eq_true q411
             have p412 : 0 ≤ (aA : Int) := of_decide_eq_true q9_0
             have q412 : aA < (l0.length : Int) := of_decide_eq_true q9_0
             obtain ⟨ad412, GC, UB, VB, WB, XB, YB, ZB, aC, bC, cC, dC⟩ := at_T75 HR0.out aA p412 q412
             obtain rfl : ad407 = ad412 := (by injection GC)
             replace p412 := eq_true p412
             replace q412 := eq_true q412
             have p413 : 0 ≤ (aA : Int) := of_decide_eq_true q9_0
             have q413 : aA < (l0.length : Int) := of_decide_eq_true q9_0
             obtain ⟨ad413, JC, vC, wC, xC, yC, zC, AC, BC, CC, DC, EC⟩ := at_T75 HR0.out aA p413 q413
             obtain rfl : ad407 = ad413 := (by injection JC)
             replace p413 := eq_true p413
             replace q413 := eq_true q413
             have p414 : 0 ≤ (aA : Int) := of_decide_eq_true q9_0
             have q414 : aA < (l0.length : Int) := of_decide_eq_true q9_0
             obtain ⟨ad414, kD, KC, LC, MC, NC, OC, PC, QC, RC, SC, TC⟩ := at_T75 HR0.out aA p414 q414
             obtain rfl : ad407 = ad414 := (by injection kD)
             replace p414 := eq_true p414
             replace q414 := eq_true q414
             go_wp2
             go_ret
             exact ⟨q9_4, q9_2⟩
           ·rw [if_neg c11] at H
            have JD : (((rd_T75 l0 aA).f6) == (wrap64 ((wrap64 ((wrap64 ((wrap64 ((wrap64 ((wrap64 (cA + 1)) + 1)) + 1)) + 1)) + 1)) + 1))) = false := beq_eq_false_iff_ne.mpr c11
            have HE : (((rd_T75 l0 aA).f6) != (wrap64 ((wrap64 ((wrap64 ((wrap64 ((wrap64 ((wrap64 (cA + 1)) + 1)) + 1)) + 1)) + 1)) + 1))) = true := bne_iff_ne.mpr c11
            obtain rfl := Option.some.inj H
            have p407 : 0 ≤ (aA : Int) := of_decide_eq_true q9_0
            have q407 : aA < (l0.length : Int) := of_decide_eq_true q9_0
            obtain ⟨ad407, iB, pA, qA, rA, sA, tA, uA, vA, wA, xA, yA⟩ := at_T75 HR0.out aA p407 q407
            cases iB
            replace p407 := eq_true p407
            replace q407 := eq_true q407
            have p408 : 0 ≤ (aA : Int) := of_decide_eq_true q9_0
            have q408 : aA < (l0.length : Int) := of_decide_eq_true q9_0
            obtain ⟨ad408, jB, AA, BA, CA, DA, EA, FA, GA, IA, JA, KA⟩ := at_T75 HR0.out aA p408 q408
            obtain rfl : ad407 = ad408 := (by injection jB)
            replace p408 := eq_true p408
            replace q408 := eq_true q408
            have p409 : 0 ≤ (aA : Int) := of_decide_eq_true q9_0
            have q409 : aA < (l0.length : Int) := of_decide_eq_true q9_0
            obtain ⟨ad409, zB, SA, TA, UA, VA, WA, XA, YA, ZA, aB, bB⟩ := at_T75 HR0.out aA p409 q409
            obtain rfl : ad407 = ad409 := (by injection zB)
            replace p409 := eq_true p409
            replace q409 := eq_true q409
            have p410 : 0 ≤ (aA : Int) := of_decide_eq_true q9_0
            have q410 : aA < (l0.length : Int) := of_decide_eq_true q9_0
            obtain ⟨ad410, OB, kB, lB, mB, nB, oB, pB, qB, rB, sB, tB⟩ := at_T75 HR0.out aA p410 q410
            obtain rfl : ad407 = ad410 := (by injection OB)
            replace p410 := eq_true p410
            replace q410 := eq_true q410
            have p411 : 0 ≤ (aA : Int) := of_decide_eq_true q9_0
            have q411 : aA < (l0.length : Int) := of_decide_eq_true q9_0
            obtain ⟨ad411, rC, AB, BB, CB, DB, EB, FB, GB, IB, JB, KB⟩ := at_T75 HR0.out aA p411 q411
            obtain rfl : ad407 = ad411 := (by injection rC)
            replace p411 := eq_true p411
            replace q411 := eq_true q411
            have p412 : 0 ≤ (aA : Int) := of_decide_eq_true q9_0
            have q412 : aA < (l0.length : Int) := of_decide_eq_true q9_0
            obtain ⟨ad412, GC, UB, VB, WB, XB, YB, ZB, aC, bC, cC, dC⟩ := at_T75 HR0.out aA p412 q412
            obtain rfl : ad407 = ad412 := (by injection GC)
            replace p412 := eq_true p412
            replace q412 := eq_true q412
            have p413 : 0 ≤ (aA : Int) := of_decide_eq_true q9_0
            have q413 : aA < (l0.length : Int) := of_decide_eq_true q9_0
            obtain ⟨ad413, JC, vC, wC, xC, yC, zC, AC, BC, CC, DC, EC⟩ := at_T75 HR0.out aA p413 q413
            obtain rfl : ad407 = ad413 := (by injection JC)
            replace p413 := eq_true p413
            replace q413 := eq_true q413
            go_wp2
            go_ret
            exact ⟨q9_4, q9_2⟩
          ·rw [if_neg c10] at H
           have FE : (((rd_T75 l0 aA).f5) == (wrap64 ((wrap64 ((wrap64 ((wrap64 ((wrap64 (cA + 1)) + 1)) + 1)) + 1)) + 1))) = false := beq_eq_false_iff_ne.mpr c10
           have GE : (((rd_T75 l0 aA).f5) != (wrap64 ((wrap64 ((wrap64 ((wrap64 ((wrap64 (cA + 1)) + 1)) + 1)) + 1)) + 1))) = true := bne_iff_ne.mpr c10
           obtain rfl := Option.some.inj H
           have p407 : 0 ≤ (aA : Int) := of_decide_eq_true q9_0
           have q407 : aA < (l0.length : Int) := of_decide_eq_true q9_0
           obtain ⟨ad407, iB, pA, qA, rA, sA, tA, uA, vA, wA, xA, yA⟩ := at_T75 HR0.out aA p407 q407
           cases iB
           replace p407 := eq_true p407
           replace q407 := eq_true q407
           have p408 : 0 ≤ (aA : Int) := of_decide_eq_true q9_0
           have q408 : aA < (l0.length : Int) := of_decide_eq_true q9_0
           obtain ⟨ad408, jB, AA, BA, CA, DA, EA, FA, GA, IA, JA, KA⟩ := at_T75 HR0.out aA p408 q408
           obtain rfl : ad407 = ad408 := (by injection jB)
           replace p408 := eq_true p408
           replace q408 := eq_true q408
           have p409 : 0 ≤ (aA : Int) := of_decide_eq_true q9_0
           have q409 : aA < (l0.length : Int) := of_decide_eq_true q9_0
           obtain ⟨ad409, zB, SA, TA, UA, VA, WA, XA, YA, ZA, aB, bB⟩ := at_T75 HR0.out aA p409 q409
           obtain rfl : ad407 = ad409 := (by injection zB)
           replace p409 := eq_true p409
           replace q409 := eq_true q409
           have p410 : 0 ≤ (aA : Int) := of_decide_eq_true q9_0
           have q410 : aA < (l0.length : Int) := of_decide_eq_true q9_0
           obtain ⟨ad410, OB, kB, lB, mB, nB, oB, pB, qB, rB, sB, tB⟩ := at_T75 HR0.out aA p410 q410
           obtain rfl : ad407 = ad410 := (by injection OB)
           replace p410 := eq_true p410
           replace q410 := eq_true q410
           have p411 : 0 ≤ (aA : Int) := of_decide_eq_true q9_0
           have q411 : aA < (l0.length : Int) := of_decide_eq_true q9_0
           obtain ⟨ad411, rC, AB, BB, CB, DB, EB, FB, GB, IB, JB, KB⟩ := at_T75 HR0.out aA p411 q411
           obtain rfl : ad407 = ad411 := (by injection rC)
           replace p411 := eq_true p411
           replace q411 := eq_true q411
           have p412 : 0 ≤ (aA : Int) := of_decide_eq_true q9_0
           have q412 : aA < (l0.length : Int) := of_decide_eq_true q9_0
           obtain ⟨ad412, GC, UB, VB, WB, XB, YB, ZB, aC, bC, cC, dC⟩ := at_T75 HR0.out aA p412 q412
           obtain rfl : ad407 = ad412 := (by injection GC)
           replace p412 := eq_true p412
           replace q412 := eq_true q412
           go_wp2
           go_ret
           exact ⟨q9_4, q9_2⟩
         ·rw [if_neg c9] at H
          have ID : (((rd_T75 l0 aA).f4) == (wrap64 ((wrap64 ((wrap64 ((wrap64 (cA + 1)) + 1)) + 1)) + 1))) = false := beq_eq_false_iff_ne.mpr c9
          have MF : (((rd_T75 l0 aA).f4) != (wrap64 ((wrap64 ((wrap64 ((wrap64 (cA + 1)) + 1)) + 1)) + 1))) = true := bne_iff_ne.mpr c9
          obtain rfl := Option.some.inj H
          have p407 : 0 ≤ (aA : Int) := of_decide_eq_true q9_0
          have q407 : aA < (l0.length : Int) := of_decide_eq_true q9_0
          obtain ⟨ad407, iB, pA, qA, rA, sA, tA, uA, vA, wA, xA, yA⟩ := at_T75 HR0.out aA p407 q407
          cases iB
          replace p407 := eq_true p407
          replace q407 := eq_true q407
          have p408 : 0 ≤ (aA : Int) := of_decide_eq_true q9_0
          have q408 : aA < (l0.length : Int) := of_decide_eq_true q9_0
          obtain ⟨ad408, jB, AA, BA, CA, DA, EA, FA, GA, IA, JA, KA⟩ := at_T75 HR0.out aA p408 q408
          obtain rfl : ad407 = ad408 := (by injection jB)
          replace p408 := eq_true p408
          replace q408 := eq_true q408
          have p409 : 0 ≤ (aA : Int) := of_decide_eq_true q9_0
          have q409 : aA < (l0.length : Int) := of_decide_eq_true q9_0
          obtain ⟨ad409, zB, SA, TA, UA, VA, WA, XA, YA, ZA, aB, bB⟩ := at_T75 HR0.out aA p409 q409
          obtain rfl : ad407 = ad409 := (by injection zB)
          replace p409 := eq_true p409
          replace q409 := eq_true q409
          have p410 : 0 ≤ (aA : Int) := of_decide_eq_true q9_0
          have q410 : aA < (l0.length : Int) := of_decide_eq_true q9_0
          obtain ⟨ad410, OB, kB, lB, mB, nB, oB, pB, qB, rB, sB, tB⟩ := at_T75 HR0.out aA p410 q410
          obtain rfl : ad407 = ad410 := (by injection OB)
          replace p410 := eq_true p410
          replace q410 := eq_true q410
          have p411 : 0 ≤ (aA : Int) := of_decide_eq_true q9_0
          have q411 : aA < (l0.length : Int) := of_decide_eq_true q9_0
          obtain ⟨ad411, rC, AB, BB, CB, DB, EB, FB, GB, IB, JB, KB⟩ := at_T75 HR0.out aA p411 q411
          obtain rfl : ad407 = ad411 := (by injection rC)
          replace p411 := eq_true p411
          replace q411 := eq_true q411
          go_wp2
          go_ret
          exact ⟨q9_4, q9_2⟩
        ·rw [if_neg c8] at H
         have KF : (((rd_T75 l0 aA).f3) == (wrap64 ((wrap64 ((wrap64 (cA + 1)) + 1)) + 1))) = false := beq_eq_false_iff_ne.mpr c8
         have LF : (((rd_T75 l0 aA).f3) != (wrap64 ((wrap64 ((wrap64 (cA + 1)) + 1)) + 1))) = true := bne_iff_ne.mpr c8
         obtain rfl := Option.some.inj H
         have p407 : 0 ≤ (aA : Int) := of_decide_eq_true q9_0
         have q407 : aA < (l0.length : Int) := of_decide_eq_true q9_0
         obtain ⟨ad407, iB, pA, qA, rA, sA, tA, uA, vA, wA, xA, yA⟩ := at_T75 HR0.out aA p407 q407
         cases iB
         replace p407 := eq_true p407
         replace q407 := eq_true q407
         have p408 : 0 ≤ (aA : Int) := of_decide_eq_true q9_0
         have q408 : aA < (l0.length : Int) := of_decide_eq_true q9_0
         obtain ⟨ad408, jB, AA, BA, CA, DA, EA, FA, GA, IA, JA, KA⟩ := at_T75 HR0.out aA p408 q408
         obtain rfl : ad407 = ad408 := (by injection jB)
         replace p408 := eq_true p408
         replace q408 := eq_true q408
         have p409 : 0 ≤ (aA : Int) := of_decide_eq_true q9_0
         have q409 : aA < (l0.length : Int) := of_decide_eq_true q9_0
         obtain ⟨ad409, zB, SA, TA, UA, VA, WA, XA, YA, ZA, aB, bB⟩ := at_T75 HR0.out aA p409 q409
         obtain rfl : ad407 = ad409 := (by injection zB)
         replace p409 := eq_true p409
         replace q409 := eq_true q409
         have p410 : 0 ≤ (aA : Int) := of_decide_eq_true q9_0
         have q410 : aA < (l0.length : Int) := of_decide_eq_true q9_0
         obtain ⟨ad410, OB, kB, lB, mB, nB, oB, pB, qB, rB, sB, tB⟩ := at_T75 HR0.out aA p410 q410
         obtain rfl : ad407 = ad410 := (by injection OB)
         replace p410 := eq_true p410
         replace q410 := eq_true q410
         go_wp2
         go_ret
         exact ⟨q9_4, q9_2⟩
       ·rw [if_neg c7] at H
        have uE : (((rd_T75 l0 aA).f2) == (wrap64 ((wrap64 (cA + 1)) + 1))) = false := beq_eq_false_iff_ne.mpr c7
        have vE : (((rd_T75 l0 aA).f2) != (wrap64 ((wrap64 (cA + 1)) + 1))) = true := bne_iff_ne.mpr c7
        obtain rfl := Option.some.inj H
        have p407 : 0 ≤ (aA : Int) := of_decide_eq_true q9_0
        have q407 : aA < (l0.length : Int) := of_decide_eq_true q9_0
        obtain ⟨ad407, iB, pA, qA, rA, sA, tA, uA, vA, wA, xA, yA⟩ := at_T75 HR0.out aA p407 q407
        cases iB
        replace p407 := eq_true p407
        replace q407 := eq_true q407
        have p408 : 0 ≤ (aA : Int) := of_decide_eq_true q9_0
        have q408 : aA < (l0.length : Int) := of_decide_eq_true q9_0
        obtain ⟨ad408, jB, AA, BA, CA, DA, EA, FA, GA, IA, JA, KA⟩ := at_T75 HR0.out aA p408 q408
        obtain rfl : ad407 = ad408 := (by injection jB)
        replace p408 := eq_true p408
        replace q408 := eq_true q408
        have p409 : 0 ≤ (aA : Int) := of_decide_eq_true q9_0
        have q409 : aA < (l0.length : Int) := of_decide_eq_true q9_0
        obtain ⟨ad409, zB, SA, TA, UA, VA, WA, XA, YA, ZA, aB, bB⟩ := at_T75 HR0.out aA p409 q409
        obtain rfl : ad407 = ad409 := (by injection zB)
        replace p409 := eq_true p409
        replace q409 := eq_true q409
        go_wp2
        go_ret
        exact ⟨q9_4, q9_2⟩
      ·rw [if_neg c6] at H
       have tE : (((rd_T75 l0 aA).f1) == (wrap64 (cA + 1))) = false := beq_eq_false_iff_ne.mpr c6
       have JF : (((rd_T75 l0 aA).f1) != (wrap64 (cA + 1))) = true := bne_iff_ne.mpr c6
       obtain rfl := Option.some.inj H
       have p407 : 0 ≤ (aA : Int) := of_decide_eq_true q9_0
       have q407 : aA < (l0.length : Int) := of_decide_eq_true q9_0
       obtain ⟨ad407, iB, pA, qA, rA, sA, tA, uA, vA, wA, xA, yA⟩ := at_T75 HR0.out aA p407 q407
       cases iB
       replace p407 := eq_true p407
       replace q407 := eq_true q407
       have p408 : 0 ≤ (aA : Int) := of_decide_eq_true q9_0
       have q408 : aA < (l0.length : Int) := of_decide_eq_true q9_0
       obtain ⟨ad408, jB, AA, BA, CA, DA, EA, FA, GA, IA, JA, KA⟩ := at_T75 HR0.out aA p408 q408
       obtain rfl : ad407 = ad408 := (by injection jB)
       replace p408 := eq_true p408
       replace q408 := eq_true q408
       go_wp2
       go_ret
       exact ⟨q9_4, q9_2⟩
     ·rw [if_neg c5] at H
      have HF : (((rd_T75 l0 aA).f0) == cA) = false := beq_eq_false_iff_ne.mpr c5
      have IF : (((rd_T75 l0 aA).f0) != cA) = true := bne_iff_ne.mpr c5
      obtain rfl := Option.some.inj H
      have p407 : 0 ≤ (aA : Int) := of_decide_eq_true q9_0
      have q407 : aA < (l0.length : Int) := of_decide_eq_true q9_0
      obtain ⟨ad407, iB, pA, qA, rA, sA, tA, uA, vA, wA, xA, yA⟩ := at_T75 HR0.out aA p407 q407
      cases iB
      replace p407 := eq_true p407
      replace q407 := eq_true q407
      go_wp2
      go_ret
      exact ⟨q9_4, q9_2⟩
    ·rw [if_neg c4] at H
     exact absurd H (by simp)
   ·rw [if_neg c3] at H
    have rE : decide (aA < (l0.length : Int)) = false := decide_eq_false c3
    clear c3
    obtain rfl := Option.some.inj H
    go_wp2
    go_ret
    exact ⟨q9_4, q9_2⟩

/-! ### laws_heldThreadS: function 56 -/
def laws_heldThreadS.l0 : Nat → List (S55) → Int → Int → Option (Int)
 | 0, _, _, _ => none
 | k + 1, x0, x1, x5 => if x5 < (x0.length : Int) then (if 0 ≤ x5 then ((laws_heldCallS.f k ((rd_T55 x0 x5).f0) x1).bind fun QA => (if QA < 0 then (some (-1)) else (if ((rd_T55 x0 x5).f1) = QA then ((laws_heldIntS.f k ((rd_T55 x0 x5).f2) (wrap64 (QA + 1))).bind fun sC => (if sC < 0 then (some (-1)) else ((laws_heldIntS.f k ((rd_T55 x0 x5).f3) sC).bind fun UC => (if UC < 0 then (some (-1)) else (laws_heldThreadS.l0 k x0 UC (wrap64 (x5 + 1))))))) else (some (-1))))) else (none)) else (some x1)
def laws_heldThreadS.f (k : Nat) (l0 : List (S55)) (a1 : Int) : Option (Int) := laws_heldThreadS.l0 k l0 a1 0
theorem laws_heldThreadS.mono_l : ∀ k, (∀ y0 y1 y2, LeO (laws_heldThreadS.l0 k y0 y1 y2) (laws_heldThreadS.l0 (k + 1) y0 y1 y2))
 | 0 => fun _ _ _ r h => by simp [laws_heldThreadS.l0] at h
 | k + 1 => by
  have ih0 := laws_heldThreadS.mono_l k
  ·intro y0 y1 y2
   unfold laws_heldThreadS.l0
   repeat' first
   | (with_reducible exact ih0 _ _ _)
   | (with_reducible exact laws_heldCallS.mono _ _ _)
   | (with_reducible exact laws_heldIntS.mono _ _ _)
   | (with_reducible exact LeO.refl _)
   | (with_reducible exact LeO.none _)
   | (with_reducible refine LeO.ite ?_ ?_)
   | (with_reducible refine LeO.bind ?_ (fun _ => ?_))
   | exact ih0 _ _ _
   | exact laws_heldCallS.mono _ _ _
   | exact laws_heldIntS.mono _ _ _
   | exact LeO.none _
   | refine LeO.ite ?_ ?_
   | refine LeO.bind ?_ (fun _ => ?_)
theorem laws_heldThreadS.mono : ∀ a0 a1 k, LeO (laws_heldThreadS.f k a0 a1) (laws_heldThreadS.f (k + 1) a0 a1) := by
 intro a0 a1 k
 have ih0 := laws_heldThreadS.mono_l k
 unfold laws_heldThreadS.f
 repeat' first
   | (with_reducible exact ih0 _ _ _)
   | (with_reducible exact laws_heldCallS.mono _ _ _)
   | (with_reducible exact laws_heldIntS.mono _ _ _)
   | (with_reducible exact LeO.refl _)
   | (with_reducible exact LeO.none _)
   | (with_reducible refine LeO.ite ?_ ?_)
   | (with_reducible refine LeO.bind ?_ (fun _ => ?_))
   | exact ih0 _ _ _
   | exact laws_heldCallS.mono _ _ _
   | exact laws_heldIntS.mono _ _ _
   | exact LeO.none _
   | refine LeO.ite ?_ ?_
   | refine LeO.bind ?_ (fun _ => ?_)
set_option maxHeartbeats 8000000 in
set_option maxRecDepth 100000 in
theorem laws_heldThreadS.calls (k : Nat) (A0 : Option Addr) (c0 : Nat) (l0 : List (S55)) (a1 : Int) (r : Int) (w : World) (hr0 : Kd.C k55 w A0 l0.length l0) (hc0 : l0.length ≤ c0) (h : laws_heldThreadS.f k l0 a1 = some r) :
  Calls Try.prog 56 #[.slice A0 l0.length c0, .int .i64 a1] w fun e w' => e = .returned (.int .i64 r) ∧ Drawn0 w w' := by
 have HR0 := Aside0.mk hr0
 clear hr0 hc0
 have H : (laws_heldThreadS.l0 k l0 a1 0) = some r := h
 clear h
 have H' := Aside0.mk H
 clear H
 go_enter Try.func56, Try.ntmps56
 go_wp2
 go_loopg [1, 5] k (fun kq v1 v5 w' => ∃ (cA : Int) (aA : Int), v1 = .int .i64 cA ∧ v5 = .int .i64 aA ∧ Aside0 (laws_heldThreadS.l0 kq l0 cA aA = some r) ∧ Aside0 (kq ≤ k) ∧ Drawn0 w w')
 case atStart => exact ⟨(a1), (0), q9_4, q9_4, H', ⟨Nat.le_refl _⟩, q9_2⟩
 case round =>
  clear H'
  try clear p2
  obtain ⟨cA, aA, rfl, rfl, HA, HK1, ⟨m1, rfl⟩⟩ := hrel
  cases gk with
  | zero => exact absurd HA.out (by simp [laws_heldThreadS.l0])
  | succ k1 =>
   have H := HA.out
   clear HA
   simp only [laws_heldThreadS.l0] at H
   by_cases c3 : aA < (l0.length : Int)
   ·rw [if_pos c3] at H
    have rE : decide (aA < (l0.length : Int)) = true := decide_eq_true c3
    clear c3
    by_cases c4 : 0 ≤ aA
    ·rw [if_pos c4] at H
     have sE : decide (0 ≤ aA) = true := decide_eq_true c4
     clear c4
     replace H := Option.bind_eq_some_iff.mp H
     obtain ⟨QA, A50, H⟩ := H
     (try dsimp only at H)
     have A5 := Aside0.mk A50
     clear A50
     by_cases c6 : QA < 0
     ·rw [if_pos c6] at H
      have tE : decide (QA < 0) = true := decide_eq_true c6
      clear c6
      obtain rfl := Option.some.inj H
      have p417 : 0 ≤ (aA : Int) := of_decide_eq_true q9_0
      have q417 : aA < (l0.length : Int) := of_decide_eq_true q9_0
      obtain ⟨ad417, uB, vB, PB, QB, tC, uC, VC, gA, FC, hA, iA, eA, fA, LA, MA, NA, OA⟩ := at_T55 HR0.out aA p417 q417
      cases VC
      have TB := Aside0.mk fA
      have PA := Aside0.mk eA
      clear fA eA MA LA OA NA
      replace p417 := eq_true p417
      replace q417 := eq_true q417
      go_wp2_with (first | ((with_reducible refine gate_callee (f := 88) rfl ?_); refine goesL_ (some 18) rfl rfl Try.func88 (by kernel_rfl) rfl #[.slice uB ((rd_T55 l0 aA).f0).length vB, .int .i64 cA] rfl q9_1 ?_; (with_reducible refine (laws_heldCallS.calls k1 _ _ ((rd_T55 l0 aA).f0) cA QA _ ?side1 ?side2 A5.out).mono ?_); (case side1 => exact q9_6); (case side2 => exact PA.out); rintro e w' ⟨rfl, ⟨nd, rfl⟩⟩; refine ⟨_, rfl, ?_⟩))
      go_ret
      exact ⟨q9_4, q9_2⟩
     ·rw [if_neg c6] at H
      have tE : decide (QA < 0) = false := decide_eq_false c6
      clear c6
      by_cases c7 : ((rd_T55 l0 aA).f1) = QA
      ·rw [if_pos c7] at H
       have uE : (((rd_T55 l0 aA).f1) == QA) = true := beq_iff_eq.mpr c7
       have vE : (((rd_T55 l0 aA).f1) != QA) = false := bne_eq_false_iff_eq.mpr c7
       clear c7
       replace H := Option.bind_eq_some_iff.mp H
       obtain ⟨sC, A80, H⟩ := H
       (try dsimp only at H)
       have A8 := Aside0.mk A80
       clear A80
       by_cases c9 : sC < 0
       ·rw [if_pos c9] at H
        have ID : decide (sC < 0) = true := decide_eq_true c9
        clear c9
        obtain rfl := Option.some.inj H
        have p417 : 0 ≤ (aA : Int) := of_decide_eq_true q9_0
        have q417 : aA < (l0.length : Int) := of_decide_eq_true q9_0
        obtain ⟨ad417, uB, vB, PB, QB, tC, uC, VC, gA, FC, hA, iA, eA, fA, LA, MA, NA, OA⟩ := at_T55 HR0.out aA p417 q417
        cases VC
        have TB := Aside0.mk fA
        have PA := Aside0.mk eA
        clear fA eA MA LA OA NA
        replace p417 := eq_true p417
        replace q417 := eq_true q417
        go_wp2_with (first | ((with_reducible refine gate_callee (f := 88) rfl ?_); refine goesL_ (some 18) rfl rfl Try.func88 (by kernel_rfl) rfl #[.slice uB ((rd_T55 l0 aA).f0).length vB, .int .i64 cA] rfl q9_1 ?_; (with_reducible refine (laws_heldCallS.calls k1 _ _ ((rd_T55 l0 aA).f0) cA QA _ ?side1 ?side2 A5.out).mono ?_); (case side1 => exact q9_6); (case side2 => exact PA.out); rintro e w' ⟨rfl, ⟨nd, rfl⟩⟩; refine ⟨_, rfl, ?_⟩; have p419 : 0 ≤ (aA : Int) := of_decide_eq_true q9_0; have q419 : aA < (l0.length : Int) := of_decide_eq_true q9_0; obtain ⟨ad419, lD, mD, nD, oD, pD, qD, rD, wB, WC, xB, yB, jA, kA, lA, mA, nA, oA⟩ := at_T55 HR0.out aA p419 q419; obtain rfl : ad417 = ad419 := (by injection rD); have XC := Aside0.mk kA; have YC := Aside0.mk jA; clear kA jA; have ZC := Aside0.mk mA; have aD := Aside0.mk lA; clear mA lA; have bD := Aside0.mk oA; have cD := Aside0.mk nA; clear oA nA; replace p419 := eq_true p419; replace q419 := eq_true q419; have ea_ := Option.some.inj (gA.symm.trans wB); injection ea_ with ea_ en_ ec_; subst ea_; subst ec_; clear en_; have ea_ := Option.some.inj (hA.symm.trans xB); injection ea_ with ea_ en_ ec_; subst ea_; subst ec_; clear en_; have ea_ := Option.some.inj (iA.symm.trans yB); injection ea_ with ea_ en_ ec_; subst ea_; subst ec_; clear en_; have p420 : 0 ≤ (aA : Int) := of_decide_eq_true q9_0; have q420 : aA < (l0.length : Int) := of_decide_eq_true q9_0; obtain ⟨ad420, LD, MD, ND, OD, PD, QD, RD, eC, CD, fC, gC, cB, dB, eB, fB, gB, hB⟩ := at_T55 HR0.out aA p420 q420; obtain rfl : ad417 = ad420 := (by injection RD); have DD := Aside0.mk dB; have ED := Aside0.mk cB; clear dB cB; have IC := Aside0.mk fB; have hC := Aside0.mk eB; clear fB eB; have FD := Aside0.mk hB; have GD := Aside0.mk gB; clear hB gB; replace p420 := eq_true p420; replace q420 := eq_true q420; have ea_ := Option.some.inj (gA.symm.trans eC); injection ea_ with ea_ en_ ec_; subst ea_; subst ec_; clear en_; have ea_ := Option.some.inj (hA.symm.trans fC); injection ea_ with ea_ en_ ec_; subst ea_; subst ec_; clear en_; have ea_ := Option.some.inj (iA.symm.trans gC); injection ea_ with ea_ en_ ec_; subst ea_; subst ec_; clear en_) | ((with_reducible refine gate_callee (f := 28) rfl ?_); refine goesL_ (some 36) rfl rfl Try.func28 (by kernel_rfl) rfl #[.slice PB ((rd_T55 l0 aA).f2).length QB, .int .i64 (wrap64 (QA + 1))] rfl q9_1 ?_; (with_reducible refine (laws_heldIntS.calls k1 _ _ ((rd_T55 l0 aA).f2) (wrap64 (QA + 1)) sC _ ?side1 ?side2 A8.out).mono ?_); (case side1 => exact q9_8); (case side2 => exact hC.out); rintro e w' ⟨rfl, ⟨nd, rfl⟩⟩; refine ⟨_, rfl, ?_⟩))
        go_ret
        exact ⟨q9_4, q9_2⟩
       ·rw [if_neg c9] at H
        have ID : decide (sC < 0) = false := decide_eq_false c9
        clear c9
        replace H := Option.bind_eq_some_iff.mp H
        obtain ⟨UC, A100, H⟩ := H
        (try dsimp only at H)
        have A10 := Aside0.mk A100
        clear A100
        by_cases c11 : UC < 0
        ·rw [if_pos c11] at H
         have JD : decide (UC < 0) = true := decide_eq_true c11
         clear c11
         obtain rfl := Option.some.inj H
         have p417 : 0 ≤ (aA : Int) := of_decide_eq_true q9_0
         have q417 : aA < (l0.length : Int) := of_decide_eq_true q9_0
         obtain ⟨ad417, uB, vB, PB, QB, tC, uC, VC, gA, FC, hA, iA, eA, fA, LA, MA, NA, OA⟩ := at_T55 HR0.out aA p417 q417
         cases VC
         have TB := Aside0.mk fA
         have PA := Aside0.mk eA
         clear fA eA MA LA OA NA
         replace p417 := eq_true p417
         replace q417 := eq_true q417
         go_wp2_with (first | ((with_reducible refine gate_callee (f := 88) rfl ?_); refine goesL_ (some 18) rfl rfl Try.func88 (by kernel_rfl) rfl #[.slice uB ((rd_T55 l0 aA).f0).length vB, .int .i64 cA] rfl q9_1 ?_; (with_reducible refine (laws_heldCallS.calls k1 _ _ ((rd_T55 l0 aA).f0) cA QA _ ?side1 ?side2 A5.out).mono ?_); (case side1 => exact q9_6); (case side2 => exact PA.out); rintro e w' ⟨rfl, ⟨nd, rfl⟩⟩; refine ⟨_, rfl, ?_⟩; have p419 : 0 ≤ (aA : Int) := of_decide_eq_true q9_0; have q419 : aA < (l0.length : Int) := of_decide_eq_true q9_0; obtain ⟨ad419, lD, mD, nD, oD, pD, qD, rD, wB, WC, xB, yB, jA, kA, lA, mA, nA, oA⟩ := at_T55 HR0.out aA p419 q419; obtain rfl : ad417 = ad419 := (by injection rD); have XC := Aside0.mk kA; have YC := Aside0.mk jA; clear kA jA; have ZC := Aside0.mk mA; have aD := Aside0.mk lA; clear mA lA; have bD := Aside0.mk oA; have cD := Aside0.mk nA; clear oA nA; replace p419 := eq_true p419; replace q419 := eq_true q419; have ea_ := Option.some.inj (gA.symm.trans wB); injection ea_ with ea_ en_ ec_; subst ea_; subst ec_; clear en_; have ea_ := Option.some.inj (hA.symm.trans xB); injection ea_ with ea_ en_ ec_; subst ea_; subst ec_; clear en_; have ea_ := Option.some.inj (iA.symm.trans yB); injection ea_ with ea_ en_ ec_; subst ea_; subst ec_; clear en_; have p420 : 0 ≤ (aA : Int) := of_decide_eq_true q9_0; have q420 : aA < (l0.length : Int) := of_decide_eq_true q9_0; obtain ⟨ad420, LD, MD, ND, OD, PD, QD, RD, eC, CD, fC, gC, cB, dB, eB, fB, gB, hB⟩ := at_T55 HR0.out aA p420 q420; obtain rfl : ad417 = ad420 := (by injection RD); have DD := Aside0.mk dB; have ED := Aside0.mk cB; clear dB cB; have IC := Aside0.mk fB; have hC := Aside0.mk eB; clear fB eB; have FD := Aside0.mk hB; have GD := Aside0.mk gB; clear hB gB; replace p420 := eq_true p420; replace q420 := eq_true q420; have ea_ := Option.some.inj (gA.symm.trans eC); injection ea_ with ea_ en_ ec_; subst ea_; subst ec_; clear en_; have ea_ := Option.some.inj (hA.symm.trans fC); injection ea_ with ea_ en_ ec_; subst ea_; subst ec_; clear en_; have ea_ := Option.some.inj (iA.symm.trans gC); injection ea_ with ea_ en_ ec_; subst ea_; subst ec_; clear en_) | ((with_reducible refine gate_callee (f := 28) rfl ?_); refine goesL_ (some 36) rfl rfl Try.func28 (by kernel_rfl) rfl #[.slice PB ((rd_T55 l0 aA).f2).length QB, .int .i64 (wrap64 (QA + 1))] rfl q9_1 ?_; (with_reducible refine (laws_heldIntS.calls k1 _ _ ((rd_T55 l0 aA).f2) (wrap64 (QA + 1)) sC _ ?side1 ?side2 A8.out).mono ?_); (case side1 => exact q9_8); (case side2 => exact hC.out); rintro e w' ⟨rfl, ⟨nd, rfl⟩⟩; refine ⟨_, rfl, ?_⟩; have p422 : 0 ≤ (aA : Int) := of_decide_eq_true q9_0; have q422 : aA < (l0.length : Int) := of_decide_eq_true q9_0; obtain ⟨ad422, xE, yE, zE, AE, BE, CE, DE, dD, dE, eD, fD, iC, jC, kC, lC, mC, nC⟩ := at_T55 HR0.out aA p422 q422; obtain rfl : ad417 = ad422 := (by injection DE); have eE := Aside0.mk jC; have fE := Aside0.mk iC; clear jC iC; have gE := Aside0.mk lC; have hE := Aside0.mk kC; clear lC kC; have gD := Aside0.mk nC; have hD := Aside0.mk mC; clear nC mC; replace p422 := eq_true p422; replace q422 := eq_true q422; have ea_ := Option.some.inj (gA.symm.trans dD); injection ea_ with ea_ en_ ec_; subst ea_; subst ec_; clear en_; have ea_ := Option.some.inj (hA.symm.trans eD); injection ea_ with ea_ en_ ec_; subst ea_; subst ec_; clear en_; have ea_ := Option.some.inj (iA.symm.trans fD); injection ea_ with ea_ en_ ec_; subst ea_; subst ec_; clear en_) | ((with_reducible refine gate_callee (f := 28) rfl ?_); refine goesL_ (some 45) rfl rfl Try.func28 (by kernel_rfl) rfl #[.slice tC ((rd_T55 l0 aA).f3).length uC, .int .i64 sC] rfl q9_1 ?_; (with_reducible refine (laws_heldIntS.calls k1 _ _ ((rd_T55 l0 aA).f3) sC UC _ ?side1 ?side2 A10.out).mono ?_); (case side1 => repeat (first | exact gD.out | (with_reducible refine Kd.C_alloc ?_ _) | (with_reducible refine Kd.C_drewN ?_ _) | (with_reducible refine Kd.C_drew ?_))); (case side2 => exact hD.out); rintro e w' ⟨rfl, ⟨nd, rfl⟩⟩; refine ⟨_, rfl, ?_⟩))
         go_ret
         exact ⟨q9_4, q9_2⟩
        ·rw [if_neg c11] at H
         have JD : decide (UC < 0) = false := decide_eq_false c11
         clear c11
         have H' := Aside0.mk H
         clear H
         have p417 : 0 ≤ (aA : Int) := of_decide_eq_true q9_0
         have q417 : aA < (l0.length : Int) := of_decide_eq_true q9_0
         obtain ⟨ad417, uB, vB, PB, QB, tC, uC, VC, gA, FC, hA, iA, eA, fA, LA, MA, NA, OA⟩ := at_T55 HR0.out aA p417 q417
         cases VC
         have TB := Aside0.mk fA
         have PA := Aside0.mk eA
         clear fA eA MA LA OA NA
         replace p417 := eq_true p417
         replace q417 := eq_true q417
         go_wp2_with (first | ((with_reducible refine gate_callee (f := 88) rfl ?_); refine goesL_ (some 18) rfl rfl Try.func88 (by kernel_rfl) rfl #[.slice uB ((rd_T55 l0 aA).f0).length vB, .int .i64 cA] rfl q9_1 ?_; (with_reducible refine (laws_heldCallS.calls k1 _ _ ((rd_T55 l0 aA).f0) cA QA _ ?side1 ?side2 A5.out).mono ?_); (case side1 => exact q9_6); (case side2 => exact PA.out); rintro e w' ⟨rfl, ⟨nd, rfl⟩⟩; refine ⟨_, rfl, ?_⟩; have p419 : 0 ≤ (aA : Int) := of_decide_eq_true q9_0; have q419 : aA < (l0.length : Int) := of_decide_eq_true q9_0; obtain ⟨ad419, lD, mD, nD, oD, pD, qD, rD, wB, WC, xB, yB, jA, kA, lA, mA, nA, oA⟩ := at_T55 HR0.out aA p419 q419; obtain rfl : ad417 = ad419 := (by injection rD); have XC := Aside0.mk kA; have YC := Aside0.mk jA; clear kA jA; have ZC := Aside0.mk mA; have aD := Aside0.mk lA; clear mA lA; have bD := Aside0.mk oA; have cD := Aside0.mk nA; clear oA nA; replace p419 := eq_true p419; replace q419 := eq_true q419; have ea_ := Option.some.inj (gA.symm.trans wB); injection ea_ with ea_ en_ ec_; subst ea_; subst ec_; clear en_; have ea_ := Option.some.inj (hA.symm.trans xB); injection ea_ with ea_ en_ ec_; subst ea_; subst ec_; clear en_; have ea_ := Option.some.inj (iA.symm.trans yB); injection ea_ with ea_ en_ ec_; subst ea_; subst ec_; clear en_; have p420 : 0 ≤ (aA : Int) := of_decide_eq_true q9_0; have q420 : aA < (l0.length : Int) := of_decide_eq_true q9_0; obtain ⟨ad420, LD, MD, ND, OD, PD, QD, RD, eC, CD, fC, gC, cB, dB, eB, fB, gB, hB⟩ := at_T55 HR0.out aA p420 q420; obtain rfl : ad417 = ad420 := (by injection RD); have DD := Aside0.mk dB; have ED := Aside0.mk cB; clear dB cB; have IC := Aside0.mk fB; have hC := Aside0.mk eB; clear fB eB; have FD := Aside0.mk hB; have GD := Aside0.mk gB; clear hB gB; replace p420 := eq_true p420; replace q420 := eq_true q420; have ea_ := Option.some.inj (gA.symm.trans eC); injection ea_ with ea_ en_ ec_; subst ea_; subst ec_; clear en_; have ea_ := Option.some.inj (hA.symm.trans fC); injection ea_ with ea_ en_ ec_; subst ea_; subst ec_; clear en_; have ea_ := Option.some.inj (iA.symm.trans gC); injection ea_ with ea_ en_ ec_; subst ea_; subst ec_; clear en_) | ((with_reducible refine gate_callee (f := 28) rfl ?_); refine goesL_ (some 36) rfl rfl Try.func28 (by kernel_rfl) rfl #[.slice PB ((rd_T55 l0 aA).f2).length QB, .int .i64 (wrap64 (QA + 1))] rfl q9_1 ?_; (with_reducible refine (laws_heldIntS.calls k1 _ _ ((rd_T55 l0 aA).f2) (wrap64 (QA + 1)) sC _ ?side1 ?side2 A8.out).mono ?_); (case side1 => exact q9_8); (case side2 => exact hC.out); rintro e w' ⟨rfl, ⟨nd, rfl⟩⟩; refine ⟨_, rfl, ?_⟩; have p422 : 0 ≤ (aA : Int) := of_decide_eq_true q9_0; have q422 : aA < (l0.length : Int) := of_decide_eq_true q9_0; obtain ⟨ad422, xE, yE, zE, AE, BE, CE, DE, dD, dE, eD, fD, iC, jC, kC, lC, mC, nC⟩ := at_T55 HR0.out aA p422 q422; obtain rfl : ad417 = ad422 := (by injection DE); have eE := Aside0.mk jC; have fE := Aside0.mk iC; clear jC iC; have gE := Aside0.mk lC; have hE := Aside0.mk kC; clear lC kC; have gD := Aside0.mk nC; have hD := Aside0.mk mC; clear nC mC; replace p422 := eq_true p422; replace q422 := eq_true q422; have ea_ := Option.some.inj (gA.symm.trans dD); injection ea_ with ea_ en_ ec_; subst ea_; subst ec_; clear en_; have ea_ := Option.some.inj (hA.symm.trans eD); injection ea_ with ea_ en_ ec_; subst ea_; subst ec_; clear en_; have ea_ := Option.some.inj (iA.symm.trans fD); injection ea_ with ea_ en_ ec_; subst ea_; subst ec_; clear en_) | ((with_reducible refine gate_callee (f := 28) rfl ?_); refine goesL_ (some 45) rfl rfl Try.func28 (by kernel_rfl) rfl #[.slice tC ((rd_T55 l0 aA).f3).length uC, .int .i64 sC] rfl q9_1 ?_; (with_reducible refine (laws_heldIntS.calls k1 _ _ ((rd_T55 l0 aA).f3) sC UC _ ?side1 ?side2 A10.out).mono ?_); (case side1 => repeat (first | exact gD.out | (with_reducible refine Kd.C_alloc ?_ _) | (with_reducible refine Kd.C_drewN ?_ _) | (with_reducible refine Kd.C_drew ?_))); (case side2 => exact hD.out); rintro e w' ⟨rfl, ⟨nd, rfl⟩⟩; refine ⟨_, rfl, ?_⟩))
         go_roundg k1
         case measure => have := HK1.out; omega
         case rel => exact ⟨(UC), (wrap64 (aA + 1)), q9_4, q9_4, H', ⟨by have := HK1.out; omega⟩, q9_2⟩
      ·rw [if_neg c7] at H
       have uE : (((rd_T55 l0 aA).f1) == QA) = false := beq_eq_false_iff_ne.mpr c7
       have vE : (((rd_T55 l0 aA).f1) != QA) = true := bne_iff_ne.mpr c7
       obtain rfl := Option.some.inj H
       have p417 : 0 ≤ (aA : Int) := of_decide_eq_true q9_0
       have q417 : aA < (l0.length : Int) := of_decide_eq_true q9_0
       obtain ⟨ad417, uB, vB, PB, QB, tC, uC, VC, gA, FC, hA, iA, eA, fA, LA, MA, NA, OA⟩ := at_T55 HR0.out aA p417 q417
       cases VC
       have TB := Aside0.mk fA
       have PA := Aside0.mk eA
       clear fA eA MA LA OA NA
       replace p417 := eq_true p417
       replace q417 := eq_true q417
       go_wp2_with (first | ((with_reducible refine gate_callee (f := 88) rfl ?_); refine goesL_ (some 18) rfl rfl Try.func88 (by kernel_rfl) rfl #[.slice uB ((rd_T55 l0 aA).f0).length vB, .int .i64 cA] rfl q9_1 ?_; (with_reducible refine (laws_heldCallS.calls k1 _ _ ((rd_T55 l0 aA).f0) cA QA _ ?side1 ?side2 A5.out).mono ?_); (case side1 => exact q9_6); (case side2 => exact PA.out); rintro e w' ⟨rfl, ⟨nd, rfl⟩⟩; refine ⟨_, rfl, ?_⟩; have p419 : 0 ≤ (aA : Int) := of_decide_eq_true q9_0; have q419 : aA < (l0.length : Int) := of_decide_eq_true q9_0; obtain ⟨ad419, lD, mD, nD, oD, pD, qD, rD, wB, WC, xB, yB, jA, kA, lA, mA, nA, oA⟩ := at_T55 HR0.out aA p419 q419; obtain rfl : ad417 = ad419 := (by injection rD); have XC := Aside0.mk kA; have YC := Aside0.mk jA; clear kA jA; have ZC := Aside0.mk mA; have aD := Aside0.mk lA; clear mA lA; have bD := Aside0.mk oA; have cD := Aside0.mk nA; clear oA nA; replace p419 := eq_true p419; replace q419 := eq_true q419; have ea_ := Option.some.inj (gA.symm.trans wB); injection ea_ with ea_ en_ ec_; subst ea_; subst ec_; clear en_; have ea_ := Option.some.inj (hA.symm.trans xB); injection ea_ with ea_ en_ ec_; subst ea_; subst ec_; clear en_; have ea_ := Option.some.inj (iA.symm.trans yB); injection ea_ with ea_ en_ ec_; subst ea_; subst ec_; clear en_))
       go_ret
       exact ⟨q9_4, q9_2⟩
    ·rw [if_neg c4] at H
     exact absurd H (by simp)
   ·rw [if_neg c3] at H
    have rE : decide (aA < (l0.length : Int)) = false := decide_eq_false c3
    clear c3
    obtain rfl := Option.some.inj H
    go_wp2
    go_ret
    exact ⟨q9_4, q9_2⟩

/-! ### laws_heldCrew: function 19 -/
def laws_heldCrew.f (k : Nat) (oC : Int) (pC : Int) (zA : List Int) (RA : List (S55)) (qC : Int) (a1 : Int) : Option (Int) := (laws_heldMem.f k zA a1).bind fun LB => (if LB < 0 then (some (-1)) else ((laws_heldThreadS.f k RA LB).bind fun HC => (if HC < 0 then (some (-1)) else (some HC))))
theorem laws_heldCrew.mono : ∀ a0 a1 a2 a3 a4 a5 k, LeO (laws_heldCrew.f k a0 a1 a2 a3 a4 a5) (laws_heldCrew.f (k + 1) a0 a1 a2 a3 a4 a5) := by
 intro a0 a1 a2 a3 a4 a5 k
 unfold laws_heldCrew.f
 repeat' first
   | (with_reducible exact laws_heldMem.mono _ _ _)
   | (with_reducible exact laws_heldThreadS.mono _ _ _)
   | (with_reducible exact LeO.refl _)
   | (with_reducible exact LeO.none _)
   | (with_reducible refine LeO.ite ?_ ?_)
   | (with_reducible refine LeO.bind ?_ (fun _ => ?_))
   | exact laws_heldMem.mono _ _ _
   | exact laws_heldThreadS.mono _ _ _
   | exact LeO.none _
   | refine LeO.ite ?_ ?_
   | refine LeO.bind ?_ (fun _ => ?_)
set_option maxHeartbeats 8000000 in
set_option maxRecDepth 100000 in
theorem laws_heldCrew.calls (k : Nat) (oC : Int) (pC : Int) (MB : Option Addr) (NB : Nat) (zA : List Int) (RB : Option Addr) (SB : Nat) (RA : List (S55)) (qC : Int) (a1 : Int) (r : Int) (w : World) (iE : Kd.C (Kd.int .i64) w MB zA.length zA) (jE : zA.length ≤ NB) (kE : Kd.C k55 w RB RA.length RA) (lE : RA.length ≤ SB) (h : laws_heldCrew.f k oC pC zA RA qC a1 = some r) :
  Calls Try.prog 19 #[.agg #[.int .i64 oC, .int .i64 pC, .slice MB zA.length NB, .slice RB RA.length SB, .int .i64 qC], .int .i64 a1] w fun e w' => e = .returned (.int .i64 r) ∧ Below w.heap.size w w' := by
 have hu29 := Try.underlying29
 have hu26 := Try.underlying26
 have EE := Aside0.mk iE
 have SD := Aside0.mk jE
 clear iE jE
 have mE := Aside0.mk kE
 have nE := Aside0.mk lE
 clear kE lE
 have HB := Aside0.mk (Below.refl w.heap.size w)
 have H : ((laws_heldMem.f k zA a1).bind fun LB => (if LB < 0 then (some (-1)) else ((laws_heldThreadS.f k RA LB).bind fun HC => (if HC < 0 then (some (-1)) else (some HC))))) = some r := h
 clear h
 replace H := Option.bind_eq_some_iff.mp H
 obtain ⟨LB, A30, H⟩ := H
 (try dsimp only at H)
 have A3 := Aside0.mk A30
 clear A30
 by_cases c4 : LB < 0
 ·rw [if_pos c4] at H
  have sE : decide (LB < 0) = true := decide_eq_true c4
  clear c4
  obtain rfl := Option.some.inj H
  go_enter Try.func19, Try.ntmps19
  go_wp2_with (first | ((with_reducible refine gate_dst (N := 2) rfl ?_); refine box_event ?hg (N := 2) ?hd (cs := #[.int .i64 oC, .int .i64 pC, .slice MB zA.length NB, .slice RB RA.length SB, .int .i64 qC]) (t := 29) ?hr ?_; (case hd => rfl); (case hg => rfl); (case hr => first | (go_simp; done) | (go_simp; rfl)); intro dA hg w5 hbox hb; have iD := Aside0.mk (below_step q9_3 hb); have jD := Aside0.mk (hbox); have oE := Aside0.mk ((by rw [hg]; exact (below_size q9_3) : w.heap.size ≤ dA)); have pE := Aside0.mk ((by rw [hg]; exact (below_size q9_3) : w.heap.size ≤ dA)); clear HB; have HB := iD; have bA := jD; have qE := oE; have HD := pE; clear iD jD oE pE; clear hb hbox hg; have NF : w5.cell? ⟨dA, 0, none⟩ = some (.int .i64 oC) := (blk_cell bA.out 0).trans rfl; have OF : w5.cell? ⟨dA, 1, none⟩ = some (.int .i64 pC) := (blk_cell bA.out 1).trans rfl; have PF : w5.cell? ⟨dA, 2, none⟩ = some (.slice MB zA.length NB) := (blk_cell bA.out 2).trans rfl; have QF : w5.cell? ⟨dA, 3, none⟩ = some (.slice RB RA.length SB) := (blk_cell bA.out 3).trans rfl; have RF : w5.cell? ⟨dA, 4, none⟩ = some (.int .i64 qC) := (blk_cell bA.out 4).trans rfl; have SF := blk_frozen bA.out 0; have TF := blk_frozen bA.out 1; have UF := blk_frozen bA.out 2; have VF := blk_frozen bA.out 3; have WF := blk_frozen bA.out 4) | ((with_reducible refine gate_callee (f := 55) rfl ?_); refine goesL_ (some 8) rfl rfl Try.func55 (by kernel_rfl) rfl #[.agg #[.slice MB zA.length NB], .int .i64 a1] rfl q9_1 ?_; (with_reducible refine (laws_heldMem.calls k _ _ zA a1 LB _ ?side1 ?side2 A3.out).mono ?_); (case side1 => exact q9_7); (case side2 => exact SD.out); rintro e w7 ⟨rfl, hb⟩; refine ⟨_, rfl, ?_⟩; have iD := Aside0.mk (blk_below (g := dA) (o := .cells #[.int .i64 oC, .int .i64 pC, .slice MB zA.length NB, .slice RB RA.length SB, .int .i64 qC] 29 (0, 0)) q9_9 hb); have jD := Aside0.mk (below_step q9_5 hb); clear bA HB; have bA := iD; have HB := jD; clear iD jD; (try clear hb); (try clear hb2); (try clear hk); (try clear hi)))
  go_ret
  exact ⟨by first | rfl | (simp [errW_none, errW_some] <;> rfl) | (simp [*, errW_none, errW_some] <;> rfl), q9_5⟩
 ·rw [if_neg c4] at H
  have sE : decide (LB < 0) = false := decide_eq_false c4
  clear c4
  replace H := Option.bind_eq_some_iff.mp H
  obtain ⟨HC, A80, H⟩ := H
  (try dsimp only at H)
  have A8 := Aside0.mk A80
  clear A80
  by_cases c9 : HC < 0
  ·rw [if_pos c9] at H
   have ID : decide (HC < 0) = true := decide_eq_true c9
   clear c9
   obtain rfl := Option.some.inj H
   go_enter Try.func19, Try.ntmps19
   go_wp2_with (first | ((with_reducible refine gate_dst (N := 2) rfl ?_); refine box_event ?hg (N := 2) ?hd (cs := #[.int .i64 oC, .int .i64 pC, .slice MB zA.length NB, .slice RB RA.length SB, .int .i64 qC]) (t := 29) ?hr ?_; (case hd => rfl); (case hg => rfl); (case hr => first | (go_simp; done) | (go_simp; rfl)); intro dA hg PE hbox hb; have iD := Aside0.mk (below_step q9_3 hb); have jD := Aside0.mk (hbox); have oE := Aside0.mk ((by rw [hg]; exact (below_size q9_3) : w.heap.size ≤ dA)); have pE := Aside0.mk ((by rw [hg]; exact (below_size q9_3) : w.heap.size ≤ dA)); clear HB; have HB := iD; have bA := jD; have qE := oE; have HD := pE; clear iD jD oE pE; clear hb hbox hg; have TE : PE.cell? ⟨dA, 0, none⟩ = some (.int .i64 oC) := (blk_cell bA.out 0).trans rfl; have UE : PE.cell? ⟨dA, 1, none⟩ = some (.int .i64 pC) := (blk_cell bA.out 1).trans rfl; have VE : PE.cell? ⟨dA, 2, none⟩ = some (.slice MB zA.length NB) := (blk_cell bA.out 2).trans rfl; have WE : PE.cell? ⟨dA, 3, none⟩ = some (.slice RB RA.length SB) := (blk_cell bA.out 3).trans rfl; have XE : PE.cell? ⟨dA, 4, none⟩ = some (.int .i64 qC) := (blk_cell bA.out 4).trans rfl; have YE := blk_frozen bA.out 0; have ZE := blk_frozen bA.out 1; have aF := blk_frozen bA.out 2; have bF := blk_frozen bA.out 3; have cF := blk_frozen bA.out 4) | ((with_reducible refine gate_callee (f := 55) rfl ?_); refine goesL_ (some 8) rfl rfl Try.func55 (by kernel_rfl) rfl #[.agg #[.slice MB zA.length NB], .int .i64 a1] rfl q9_1 ?_; (with_reducible refine (laws_heldMem.calls k _ _ zA a1 LB _ ?side1 ?side2 A3.out).mono ?_); (case side1 => exact q9_7); (case side2 => exact SD.out); rintro e QE ⟨rfl, hb⟩; refine ⟨_, rfl, ?_⟩; have iD := Aside0.mk (blk_below (g := dA) (o := .cells #[.int .i64 oC, .int .i64 pC, .slice MB zA.length NB, .slice RB RA.length SB, .int .i64 qC] 29 (0, 0)) q9_9 hb); have jD := Aside0.mk (below_step q9_5 hb); clear bA HB; have bA := iD; have HB := jD; clear iD jD; (try clear hb); (try clear hb2); (try clear hk); (try clear hi); have dF : QE.cell? ⟨dA, 0, none⟩ = some (.int .i64 oC) := (blk_cell bA.out 0).trans rfl; have eF : QE.cell? ⟨dA, 1, none⟩ = some (.int .i64 pC) := (blk_cell bA.out 1).trans rfl; have fF : QE.cell? ⟨dA, 2, none⟩ = some (.slice MB zA.length NB) := (blk_cell bA.out 2).trans rfl; have gF : QE.cell? ⟨dA, 3, none⟩ = some (.slice RB RA.length SB) := (blk_cell bA.out 3).trans rfl; have hF : QE.cell? ⟨dA, 4, none⟩ = some (.int .i64 qC) := (blk_cell bA.out 4).trans rfl; have iF := blk_frozen bA.out 0; have jF := blk_frozen bA.out 1; have kF := blk_frozen bA.out 2; have lF := blk_frozen bA.out 3; have mF := blk_frozen bA.out 4) | ((with_reducible refine gate_callee (f := 56) rfl ?_); refine goesL_ (some 14) rfl rfl Try.func56 (by kernel_rfl) rfl #[.slice RB RA.length SB, .int .i64 LB] rfl q9_1 ?_; (with_reducible refine (laws_heldThreadS.calls k _ _ RA LB HC _ ?side1 ?side2 A8.out).mono ?_); (case side1 => repeat (first | exact (Kd.C_below mE.out HB.out) | (with_reducible refine Kd.C_alloc ?_ _) | (with_reducible refine Kd.C_drewN ?_ _) | (with_reducible refine Kd.C_drew ?_))); (case side2 => exact nE.out); rintro e w' ⟨rfl, ⟨nd, rfl⟩⟩; refine ⟨_, rfl, ?_⟩))
   go_ret
   exact ⟨by first | rfl | (simp [errW_none, errW_some] <;> rfl) | (simp [*, errW_none, errW_some] <;> rfl), q9_5⟩
  ·rw [if_neg c9] at H
   have ID : decide (HC < 0) = false := decide_eq_false c9
   clear c9
   obtain rfl := Option.some.inj H
   go_enter Try.func19, Try.ntmps19
   go_wp2_with (first | ((with_reducible refine gate_dst (N := 2) rfl ?_); refine box_event ?hg (N := 2) ?hd (cs := #[.int .i64 oC, .int .i64 pC, .slice MB zA.length NB, .slice RB RA.length SB, .int .i64 qC]) (t := 29) ?hr ?_; (case hd => rfl); (case hg => rfl); (case hr => first | (go_simp; done) | (go_simp; rfl)); intro dA hg RE hbox hb; have iD := Aside0.mk (below_step q9_3 hb); have jD := Aside0.mk (hbox); have oE := Aside0.mk ((by rw [hg]; exact (below_size q9_3) : w.heap.size ≤ dA)); have pE := Aside0.mk ((by rw [hg]; exact (below_size q9_3) : w.heap.size ≤ dA)); clear HB; have HB := iD; have bA := jD; have qE := oE; have HD := pE; clear iD jD oE pE; clear hb hbox hg; have nF : RE.cell? ⟨dA, 0, none⟩ = some (.int .i64 oC) := (blk_cell bA.out 0).trans rfl; have oF : RE.cell? ⟨dA, 1, none⟩ = some (.int .i64 pC) := (blk_cell bA.out 1).trans rfl; have pF : RE.cell? ⟨dA, 2, none⟩ = some (.slice MB zA.length NB) := (blk_cell bA.out 2).trans rfl; have qF : RE.cell? ⟨dA, 3, none⟩ = some (.slice RB RA.length SB) := (blk_cell bA.out 3).trans rfl; have rF : RE.cell? ⟨dA, 4, none⟩ = some (.int .i64 qC) := (blk_cell bA.out 4).trans rfl; have sF := blk_frozen bA.out 0; have tF := blk_frozen bA.out 1; have uF := blk_frozen bA.out 2; have vF := blk_frozen bA.out 3; have wF := blk_frozen bA.out 4) | ((with_reducible refine gate_callee (f := 55) rfl ?_); refine goesL_ (some 8) rfl rfl Try.func55 (by kernel_rfl) rfl #[.agg #[.slice MB zA.length NB], .int .i64 a1] rfl q9_1 ?_; (with_reducible refine (laws_heldMem.calls k _ _ zA a1 LB _ ?side1 ?side2 A3.out).mono ?_); (case side1 => exact q9_7); (case side2 => exact SD.out); rintro e SE ⟨rfl, hb⟩; refine ⟨_, rfl, ?_⟩; have iD := Aside0.mk (blk_below (g := dA) (o := .cells #[.int .i64 oC, .int .i64 pC, .slice MB zA.length NB, .slice RB RA.length SB, .int .i64 qC] 29 (0, 0)) q9_9 hb); have jD := Aside0.mk (below_step q9_5 hb); clear bA HB; have bA := iD; have HB := jD; clear iD jD; (try clear hb); (try clear hb2); (try clear hk); (try clear hi); have xF : SE.cell? ⟨dA, 0, none⟩ = some (.int .i64 oC) := (blk_cell bA.out 0).trans rfl; have yF : SE.cell? ⟨dA, 1, none⟩ = some (.int .i64 pC) := (blk_cell bA.out 1).trans rfl; have zF : SE.cell? ⟨dA, 2, none⟩ = some (.slice MB zA.length NB) := (blk_cell bA.out 2).trans rfl; have AF : SE.cell? ⟨dA, 3, none⟩ = some (.slice RB RA.length SB) := (blk_cell bA.out 3).trans rfl; have BF : SE.cell? ⟨dA, 4, none⟩ = some (.int .i64 qC) := (blk_cell bA.out 4).trans rfl; have CF := blk_frozen bA.out 0; have DF := blk_frozen bA.out 1; have EF := blk_frozen bA.out 2; have FF := blk_frozen bA.out 3; have GF := blk_frozen bA.out 4) | ((with_reducible refine gate_callee (f := 56) rfl ?_); refine goesL_ (some 14) rfl rfl Try.func56 (by kernel_rfl) rfl #[.slice RB RA.length SB, .int .i64 LB] rfl q9_1 ?_; (with_reducible refine (laws_heldThreadS.calls k _ _ RA LB HC _ ?side1 ?side2 A8.out).mono ?_); (case side1 => repeat (first | exact (Kd.C_below mE.out HB.out) | (with_reducible refine Kd.C_alloc ?_ _) | (with_reducible refine Kd.C_drewN ?_ _) | (with_reducible refine Kd.C_drew ?_))); (case side2 => exact nE.out); rintro e w' ⟨rfl, ⟨nd, rfl⟩⟩; refine ⟨_, rfl, ?_⟩))
   go_ret
   exact ⟨by first | rfl | (simp [errW_none, errW_some] <;> rfl) | (simp [*, errW_none, errW_some] <;> rfl), q9_5⟩

-- NOT PRINTED: function 3 (laws_FnExactCrewNew)

end Go.Proofs.Ytgghglocfdcegaa.PFnExactCrewNew
