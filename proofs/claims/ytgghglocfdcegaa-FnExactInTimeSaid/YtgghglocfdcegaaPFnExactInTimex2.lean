-- Written by the session's own patched copy of the printer (wip/patch_print.py).
import Derived.Test.YtgghglocfdcegaaPFnExactInTimex0
namespace Go.Proofs.Ytgghglocfdcegaa.PFnExactInTime
open Go.RowKit Go.Proofs.YtgghglocfdcegaaW.PrintWords Go.Proofs.YtgghglocfdcegaaW.PrintLast Go.Proofs.YtgghglocfdcegaaW.PrintMore
attribute [local go_sem] max2_int min2_int max_two min_two max_three min_three max_four min_four   -- for this text's walks alone
set_option linter.unusedVariables false
set_option linter.unusedSimpArgs false

theorem q2_0 {p : Prop} (h : p := by first | (with_reducible assumption) | assumption) : p := h
theorem q2_1 {p : Prop} (h : p := by repeat (first | exact Drawn0.refl _ | apply Drawn0.step)) : p := h
theorem q2_2 {p : Prop} (h : p := by first | rfl | (simp; done) | (simp [*]; done)) : p := h
/-! ### laws_heldFactS: function 40 -/
def laws_heldFactS.l0 : Nat → List (S89) → Int → Int → Option (Int)
 | 0, _, _, _ => none
 | k + 1, x0, x1, x5 => if x5 < (x0.length : Int) then (if 0 ≤ x5 then (if ((rd_T89 x0 x5).f0) = x1 then (if ((rd_T89 x0 x5).f1) = (wrap64 (x1 + 1)) then (if ((rd_T89 x0 x5).f2) = (wrap64 ((wrap64 (x1 + 1)) + 1)) then (if ((rd_T89 x0 x5).f3) = (wrap64 ((wrap64 ((wrap64 (x1 + 1)) + 1)) + 1)) then (if ((rd_T89 x0 x5).f4) = (wrap64 ((wrap64 ((wrap64 ((wrap64 (x1 + 1)) + 1)) + 1)) + 1)) then (if ((rd_T89 x0 x5).f5) = (wrap64 ((wrap64 ((wrap64 ((wrap64 ((wrap64 (x1 + 1)) + 1)) + 1)) + 1)) + 1)) then (if ((rd_T89 x0 x5).f6) = (wrap64 ((wrap64 ((wrap64 ((wrap64 ((wrap64 ((wrap64 (x1 + 1)) + 1)) + 1)) + 1)) + 1)) + 1)) then (if ((rd_T89 x0 x5).f7) = (wrap64 ((wrap64 ((wrap64 ((wrap64 ((wrap64 ((wrap64 ((wrap64 (x1 + 1)) + 1)) + 1)) + 1)) + 1)) + 1)) + 1)) then (laws_heldFactS.l0 k x0 (wrap64 ((wrap64 ((wrap64 ((wrap64 ((wrap64 ((wrap64 ((wrap64 ((wrap64 (x1 + 1)) + 1)) + 1)) + 1)) + 1)) + 1)) + 1)) + 1)) (wrap64 (x5 + 1))) else (some (-1))) else (some (-1))) else (some (-1))) else (some (-1))) else (some (-1))) else (some (-1))) else (some (-1))) else (some (-1))) else (none)) else (some x1)
def laws_heldFactS.f (k : Nat) (l0 : List (S89)) (a1 : Int) : Option (Int) := laws_heldFactS.l0 k l0 a1 0
theorem laws_heldFactS.mono_l : ∀ k, (∀ y0 y1 y2, LeO (laws_heldFactS.l0 k y0 y1 y2) (laws_heldFactS.l0 (k + 1) y0 y1 y2))
 | 0 => fun _ _ _ r h => by simp [laws_heldFactS.l0] at h
 | k + 1 => by
  have ih0 := laws_heldFactS.mono_l k
  ·intro y0 y1 y2
   unfold laws_heldFactS.l0
   repeat' first
   | (with_reducible exact ih0 _ _ _)
   | (with_reducible exact LeO.refl _)
   | (with_reducible exact LeO.none _)
   | (with_reducible refine LeO.ite ?_ ?_)
   | (with_reducible refine LeO.bind ?_ (fun _ => ?_))
   | exact ih0 _ _ _
   | exact LeO.none _
   | refine LeO.ite ?_ ?_
   | refine LeO.bind ?_ (fun _ => ?_)
theorem laws_heldFactS.mono : ∀ a0 a1 k, LeO (laws_heldFactS.f k a0 a1) (laws_heldFactS.f (k + 1) a0 a1) := by
 intro a0 a1 k
 have ih0 := laws_heldFactS.mono_l k
 unfold laws_heldFactS.f
 repeat' first
   | (with_reducible exact ih0 _ _ _)
   | (with_reducible exact LeO.refl _)
   | (with_reducible exact LeO.none _)
   | (with_reducible refine LeO.ite ?_ ?_)
   | (with_reducible refine LeO.bind ?_ (fun _ => ?_))
   | exact ih0 _ _ _
   | exact LeO.none _
   | refine LeO.ite ?_ ?_
   | refine LeO.bind ?_ (fun _ => ?_)
set_option maxHeartbeats 8000000 in
set_option maxRecDepth 100000 in
theorem laws_heldFactS.calls (k : Nat) (A0 : Option Addr) (c0 : Nat) (l0 : List (S89)) (a1 : Int) (r : Int) (w : World) (hr0 : Kd.C k89 w A0 l0.length l0) (hc0 : l0.length ≤ c0) (h : laws_heldFactS.f k l0 a1 = some r) :
  Calls Try.prog 40 #[.slice A0 l0.length c0, .int .i64 a1] w fun e w' => e = .returned (.int .i64 r) ∧ Drawn0 w w' := by
 have HR0 := Aside0.mk hr0
 clear hr0 hc0
 have H : (laws_heldFactS.l0 k l0 a1 0) = some r := h
 clear h
 have H' := Aside0.mk H
 clear H
 go_enter Try.func40, Try.ntmps40
 go_wp2
 go_loopg [1, 5] k (fun kq v1 v5 w' => ∃ (bA : Int) (aA : Int), v1 = .int .i64 bA ∧ v5 = .int .i64 aA ∧ Aside0 (laws_heldFactS.l0 kq l0 bA aA = some r) ∧ Aside0 (kq ≤ k) ∧ Drawn0 w w')
 case atStart => exact ⟨(a1), (0), q2_2, q2_2, H', ⟨Nat.le_refl _⟩, q2_1⟩
 case round =>
  clear H'
  try clear p2
  obtain ⟨bA, aA, rfl, rfl, HA, HK1, ⟨m1, rfl⟩⟩ := hrel
  cases gk with
  | zero => exact absurd HA.out (by simp [laws_heldFactS.l0])
  | succ k1 =>
   have H := HA.out
   clear HA
   simp only [laws_heldFactS.l0] at H
   by_cases c3 : aA < (l0.length : Int)
   ·rw [if_pos c3] at H
    have wB : decide (aA < (l0.length : Int)) = true := decide_eq_true c3
    clear c3
    by_cases c4 : 0 ≤ aA
    ·rw [if_pos c4] at H
     have OB : decide (0 ≤ aA) = true := decide_eq_true c4
     clear c4
     by_cases c5 : ((rd_T89 l0 aA).f0) = bA
     ·rw [if_pos c5] at H
      have EB : (((rd_T89 l0 aA).f0) == bA) = true := beq_iff_eq.mpr c5
      have FB : (((rd_T89 l0 aA).f0) != bA) = false := bne_eq_false_iff_eq.mpr c5
      clear c5
      by_cases c6 : ((rd_T89 l0 aA).f1) = (wrap64 (bA + 1))
      ·rw [if_pos c6] at H
       have GB : (((rd_T89 l0 aA).f1) == (wrap64 (bA + 1))) = true := beq_iff_eq.mpr c6
       have HB : (((rd_T89 l0 aA).f1) != (wrap64 (bA + 1))) = false := bne_eq_false_iff_eq.mpr c6
       clear c6
       by_cases c7 : ((rd_T89 l0 aA).f2) = (wrap64 ((wrap64 (bA + 1)) + 1))
       ·rw [if_pos c7] at H
        have IB : (((rd_T89 l0 aA).f2) == (wrap64 ((wrap64 (bA + 1)) + 1))) = true := beq_iff_eq.mpr c7
        have JB : (((rd_T89 l0 aA).f2) != (wrap64 ((wrap64 (bA + 1)) + 1))) = false := bne_eq_false_iff_eq.mpr c7
        clear c7
        by_cases c8 : ((rd_T89 l0 aA).f3) = (wrap64 ((wrap64 ((wrap64 (bA + 1)) + 1)) + 1))
        ·rw [if_pos c8] at H
         have KB : (((rd_T89 l0 aA).f3) == (wrap64 ((wrap64 ((wrap64 (bA + 1)) + 1)) + 1))) = true := beq_iff_eq.mpr c8
         have LB : (((rd_T89 l0 aA).f3) != (wrap64 ((wrap64 ((wrap64 (bA + 1)) + 1)) + 1))) = false := bne_eq_false_iff_eq.mpr c8
         clear c8
         by_cases c9 : ((rd_T89 l0 aA).f4) = (wrap64 ((wrap64 ((wrap64 ((wrap64 (bA + 1)) + 1)) + 1)) + 1))
         ·rw [if_pos c9] at H
          have MB : (((rd_T89 l0 aA).f4) == (wrap64 ((wrap64 ((wrap64 ((wrap64 (bA + 1)) + 1)) + 1)) + 1))) = true := beq_iff_eq.mpr c9
          have NB : (((rd_T89 l0 aA).f4) != (wrap64 ((wrap64 ((wrap64 ((wrap64 (bA + 1)) + 1)) + 1)) + 1))) = false := bne_eq_false_iff_eq.mpr c9
          clear c9
          by_cases c10 : ((rd_T89 l0 aA).f5) = (wrap64 ((wrap64 ((wrap64 ((wrap64 ((wrap64 (bA + 1)) + 1)) + 1)) + 1)) + 1))
          ·rw [if_pos c10] at H
           have yB : (((rd_T89 l0 aA).f5) == (wrap64 ((wrap64 ((wrap64 ((wrap64 ((wrap64 (bA + 1)) + 1)) + 1)) + 1)) + 1))) = true := beq_iff_eq.mpr c10
           have zB : (((rd_T89 l0 aA).f5) != (wrap64 ((wrap64 ((wrap64 ((wrap64 ((wrap64 (bA + 1)) + 1)) + 1)) + 1)) + 1))) = false := bne_eq_false_iff_eq.mpr c10
           clear c10
           by_cases c11 : ((rd_T89 l0 aA).f6) = (wrap64 ((wrap64 ((wrap64 ((wrap64 ((wrap64 ((wrap64 (bA + 1)) + 1)) + 1)) + 1)) + 1)) + 1))
           ·rw [if_pos c11] at H
            have AB : (((rd_T89 l0 aA).f6) == (wrap64 ((wrap64 ((wrap64 ((wrap64 ((wrap64 ((wrap64 (bA + 1)) + 1)) + 1)) + 1)) + 1)) + 1))) = true := beq_iff_eq.mpr c11
            have BB : (((rd_T89 l0 aA).f6) != (wrap64 ((wrap64 ((wrap64 ((wrap64 ((wrap64 ((wrap64 (bA + 1)) + 1)) + 1)) + 1)) + 1)) + 1))) = false := bne_eq_false_iff_eq.mpr c11
            clear c11
            by_cases c12 : ((rd_T89 l0 aA).f7) = (wrap64 ((wrap64 ((wrap64 ((wrap64 ((wrap64 ((wrap64 ((wrap64 (bA + 1)) + 1)) + 1)) + 1)) + 1)) + 1)) + 1))
            ·rw [if_pos c12] at H
             have CB : (((rd_T89 l0 aA).f7) == (wrap64 ((wrap64 ((wrap64 ((wrap64 ((wrap64 ((wrap64 ((wrap64 (bA + 1)) + 1)) + 1)) + 1)) + 1)) + 1)) + 1))) = true := beq_iff_eq.mpr c12
             have DB : (((rd_T89 l0 aA).f7) != (wrap64 ((wrap64 ((wrap64 ((wrap64 ((wrap64 ((wrap64 ((wrap64 (bA + 1)) + 1)) + 1)) + 1)) + 1)) + 1)) + 1))) = false := bne_eq_false_iff_eq.mpr c12
             clear c12
             have H' := Aside0.mk H
             clear H
             have p114 : 0 ≤ (aA : Int) := of_decide_eq_true q2_0
             have q114 : aA < (l0.length : Int) := of_decide_eq_true q2_0
             obtain ⟨ad114, sA, cA, dA, eA, fA, gA, hA, iA, jA⟩ := at_T89 HR0.out aA p114 q114
             cases sA
             replace p114 := eq_true p114
             replace q114 := eq_true q114
             have p115 : 0 ≤ (aA : Int) := of_decide_eq_true q2_0
             have q115 : aA < (l0.length : Int) := of_decide_eq_true q2_0
             obtain ⟨ad115, BA, kA, lA, mA, nA, oA, pA, qA, rA⟩ := at_T89 HR0.out aA p115 q115
             obtain rfl : ad114 = ad115 := (by injection BA)
             replace p115 := eq_true p115
             replace q115 := eq_true q115
             have p116 : 0 ≤ (aA : Int) := of_decide_eq_true q2_0
             have q116 : aA < (l0.length : Int) := of_decide_eq_true q2_0
             obtain ⟨ad116, LA, tA, uA, vA, wA, xA, yA, zA, AA⟩ := at_T89 HR0.out aA p116 q116
             obtain rfl : ad114 = ad116 := (by injection LA)
             replace p116 := eq_true p116
             replace q116 := eq_true q116
             have p117 : 0 ≤ (aA : Int) := of_decide_eq_true q2_0
             have q117 : aA < (l0.length : Int) := of_decide_eq_true q2_0
             obtain ⟨ad117, UA, CA, DA, EA, FA, GA, IA, JA, KA⟩ := at_T89 HR0.out aA p117 q117
             obtain rfl : ad114 = ad117 := (by injection UA)
             replace p117 := eq_true p117
             replace q117 := eq_true q117
             have p118 : 0 ≤ (aA : Int) := of_decide_eq_true q2_0
             have q118 : aA < (l0.length : Int) := of_decide_eq_true q2_0
             obtain ⟨ad118, VA, MA, NA, OA, PA, QA, RA, SA, TA⟩ := at_T89 HR0.out aA p118 q118
             obtain rfl : ad114 = ad118 := (by injection VA)
             replace p118 := eq_true p118
             replace q118 := eq_true q118
             have p119 : 0 ≤ (aA : Int) := of_decide_eq_true q2_0
             have q119 : aA < (l0.length : Int) := of_decide_eq_true q2_0
             obtain ⟨ad119, eB, WA, XA, YA, ZA, aB, bB, cB, dB⟩ := at_T89 HR0.out aA p119 q119
             obtain rfl : ad114 = ad119 := (by injection eB)
             replace p119 := eq_true p119
             replace q119 := eq_true q119
             have p120 : 0 ≤ (aA : Int) := of_decide_eq_true q2_0
             have q120 : aA < (l0.length : Int) := of_decide_eq_true q2_0
             obtain ⟨ad120, nB, fB, gB, hB, iB, jB, kB, lB, mB⟩ := at_T89 HR0.out aA p120 q120
             obtain rfl : ad114 = ad120 := (by injection nB)
             replace p120 := eq_true p120
             replace q120 := eq_true q120
             have p121 : 0 ≤ (aA : Int) := of_decide_eq_true q2_0
             have q121 : aA < (l0.length : Int) := of_decide_eq_true q2_0
             obtain ⟨ad121, xB, oB, pB, qB, rB, sB, tB, uB, vB⟩ := at_T89 HR0.out aA p121 q121
             obtain rfl : ad114 = ad121 := (by injection xB)
             replace p121 := eq_true p121
             replace q121 := eq_true q121
             go_wp2
             go_roundg k1
             case measure => have := HK1.out; omega
             case rel => exact ⟨(wrap64 ((wrap64 ((wrap64 ((wrap64 ((wrap64 ((wrap64 ((wrap64 ((wrap64 (bA + 1)) + 1)) + 1)) + 1)) + 1)) + 1)) + 1)) + 1)), (wrap64 (aA + 1)), q2_2, q2_2, H', ⟨by have := HK1.out; omega⟩, q2_1⟩
            ·rw [if_neg c12] at H
             have CB : (((rd_T89 l0 aA).f7) == (wrap64 ((wrap64 ((wrap64 ((wrap64 ((wrap64 ((wrap64 ((wrap64 (bA + 1)) + 1)) + 1)) + 1)) + 1)) + 1)) + 1))) = false := beq_eq_false_iff_ne.mpr c12
             have DB : (((rd_T89 l0 aA).f7) != (wrap64 ((wrap64 ((wrap64 ((wrap64 ((wrap64 ((wrap64 ((wrap64 (bA + 1)) + 1)) + 1)) + 1)) + 1)) + 1)) + 1))) = true := bne_iff_ne.mpr c12
             obtain rfl := Option.some.inj H
             have p114 : 0 ≤ (aA : Int) := of_decide_eq_true q2_0
             have q114 : aA < (l0.length : Int) := of_decide_eq_true q2_0
             obtain ⟨ad114, sA, cA, dA, eA, fA, gA, hA, iA, jA⟩ := at_T89 HR0.out aA p114 q114
             cases sA
             replace p114 := eq_true p114
             replace q114 := eq_true q114
             have p115 : 0 ≤ (aA : Int) := of_decide_eq_true q2_0
             have q115 : aA < (l0.length : Int) := of_decide_eq_true q2_0
             obtain ⟨ad115, BA, kA, lA, mA, nA, oA, pA, qA, rA⟩ := at_T89 HR0.out aA p115 q115
             obtain rfl : ad114 = ad115 := (by injection BA)
             replace p115 := eq_true p115
             replace q115 := eq_true q115
             have p116 : 0 ≤ (aA : Int) := of_decide_eq_true q2_0
             have q116 : aA < (l0.length : Int) := of_decide_eq_true q2_0
             obtain ⟨ad116, LA, tA, uA, vA, wA, xA, yA, zA, AA⟩ := at_T89 HR0.out aA p116 q116
             obtain rfl : ad114 = ad116 := (by injection LA)
             replace p116 := eq_true p116
             replace q116 := eq_true q116
             have p117 : 0 ≤ (aA : Int) := of_decide_eq_true q2_0
             have q117 : aA < (l0.length : Int) := of_decide_eq_true q2_0
             obtain ⟨ad117, UA, CA, DA, EA, FA, GA, IA, JA, KA⟩ := at_T89 HR0.out aA p117 q117
             obtain rfl : ad114 = ad117 := (by injection UA)
             replace p117 := eq_true p117
             replace q117 := eq_true q117
             have p118 : 0 ≤ (aA : Int) := of_decide_eq_true q2_0
             have q118 : aA < (l0.length : Int) := of_decide_eq_true q2_0
             obtain ⟨ad118, VA, MA, NA, OA, PA, QA, RA, SA, TA⟩ := at_T89 HR0.out aA p118 q118
             obtain rfl : ad114 = ad118 := (by injection VA)
             replace p118 := eq_true p118
             replace q118 := eq_true q118
             have p119 : 0 ≤ (aA : Int) := of_decide_eq_true q2_0
             have q119 : aA < (l0.length : Int) := of_decide_eq_true q2_0
             obtain ⟨ad119, eB, WA, XA, YA, ZA, aB, bB, cB, dB⟩ := at_T89 HR0.out aA p119 q119
             obtain rfl : ad114 = ad119 := (by injection eB)
             replace p119 := eq_true p119
             replace q119 := eq_true q119
             have p120 : 0 ≤ (aA : Int) := of_decide_eq_true q2_0
             have q120 : aA < (l0.length : Int) := of_decide_eq_true q2_0
             obtain ⟨ad120, nB, fB, gB, hB, iB, jB, kB, lB, mB⟩ := at_T89 HR0.out aA p120 q120
             obtain rfl : ad114 = ad120 := (by injection nB)
             replace p120 := eq_true p120
             replace q120 := eq_true q120
             have p121 : 0 ≤ (aA : Int) := of_decide_eq_true q2_0
             have q121 : aA < (l0.length : Int) := of_decide_eq_true q2_0
             obtain ⟨ad121, xB, oB, pB, qB, rB, sB, tB, uB, vB⟩ := at_T89 HR0.out aA p121 q121
             obtain rfl : ad114 = ad121 := (by injection xB)
             replace p121 := eq_true p121
             replace q121 := eq_true q121
             go_wp2
             go_ret
             exact ⟨q2_2, q2_1⟩
           ·rw [if_neg c11] at H
            have AB : (((rd_T89 l0 aA).f6) == (wrap64 ((wrap64 ((wrap64 ((wrap64 ((wrap64 ((wrap64 (bA + 1)) + 1)) + 1)) + 1)) + 1)) + 1))) = false := beq_eq_false_iff_ne.mpr c11
            have BB : (((rd_T89 l0 aA).f6) != (wrap64 ((wrap64 ((wrap64 ((wrap64 ((wrap64 ((wrap64 (bA + 1)) + 1)) + 1)) + 1)) + 1)) + 1))) = true := bne_iff_ne.mpr c11
            obtain rfl := Option.some.inj H
            have p114 : 0 ≤ (aA : Int) := of_decide_eq_true q2_0
            have q114 : aA < (l0.length : Int) := of_decide_eq_true q2_0
            obtain ⟨ad114, sA, cA, dA, eA, fA, gA, hA, iA, jA⟩ := at_T89 HR0.out aA p114 q114
            cases sA
            replace p114 := eq_true p114
            replace q114 := eq_true q114
            have p115 : 0 ≤ (aA : Int) := of_decide_eq_true q2_0
            have q115 : aA < (l0.length : Int) := of_decide_eq_true q2_0
            obtain ⟨ad115, BA, kA, lA, mA, nA, oA, pA, qA, rA⟩ := at_T89 HR0.out aA p115 q115
            obtain rfl : ad114 = ad115 := (by injection BA)
            replace p115 := eq_true p115
            replace q115 := eq_true q115
            have p116 : 0 ≤ (aA : Int) := of_decide_eq_true q2_0
            have q116 : aA < (l0.length : Int) := of_decide_eq_true q2_0
            obtain ⟨ad116, LA, tA, uA, vA, wA, xA, yA, zA, AA⟩ := at_T89 HR0.out aA p116 q116
            obtain rfl : ad114 = ad116 := (by injection LA)
            replace p116 := eq_true p116
            replace q116 := eq_true q116
            have p117 : 0 ≤ (aA : Int) := of_decide_eq_true q2_0
            have q117 : aA < (l0.length : Int) := of_decide_eq_true q2_0
            obtain ⟨ad117, UA, CA, DA, EA, FA, GA, IA, JA, KA⟩ := at_T89 HR0.out aA p117 q117
            obtain rfl : ad114 = ad117 := (by injection UA)
            replace p117 := eq_true p117
            replace q117 := eq_true q117
            have p118 : 0 ≤ (aA : Int) := of_decide_eq_true q2_0
            have q118 : aA < (l0.length : Int) := of_decide_eq_true q2_0
            obtain ⟨ad118, VA, MA, NA, OA, PA, QA, RA, SA, TA⟩ := at_T89 HR0.out aA p118 q118
            obtain rfl : ad114 = ad118 := (by injection VA)
            replace p118 := eq_true p118
            replace q118 := eq_true q118
            have p119 : 0 ≤ (aA : Int) := of_decide_eq_true q2_0
            have q119 : aA < (l0.length : Int) := of_decide_eq_true q2_0
            obtain ⟨ad119, eB, WA, XA, YA, ZA, aB, bB, cB, dB⟩ := at_T89 HR0.out aA p119 q119
            obtain rfl : ad114 = ad119 := (by injection eB)
            replace p119 := eq_true p119
            replace q119 := eq_true q119
            have p120 : 0 ≤ (aA : Int) := of_decide_eq_true q2_0
            have q120 : aA < (l0.length : Int) := of_decide_eq_true q2_0
            obtain ⟨ad120, nB, fB, gB, hB, iB, jB, kB, lB, mB⟩ := at_T89 HR0.out aA p120 q120
            obtain rfl : ad114 = ad120 := (by injection nB)
            replace p120 := eq_true p120
            replace q120 := eq_true q120
            go_wp2
            go_ret
            exact ⟨q2_2, q2_1⟩
          ·rw [if_neg c10] at H
           have yB : (((rd_T89 l0 aA).f5) == (wrap64 ((wrap64 ((wrap64 ((wrap64 ((wrap64 (bA + 1)) + 1)) + 1)) + 1)) + 1))) = false := beq_eq_false_iff_ne.mpr c10
           have zB : (((rd_T89 l0 aA).f5) != (wrap64 ((wrap64 ((wrap64 ((wrap64 ((wrap64 (bA + 1)) + 1)) + 1)) + 1)) + 1))) = true := bne_iff_ne.mpr c10
           obtain rfl := Option.some.inj H
           have p114 : 0 ≤ (aA : Int) := of_decide_eq_true q2_0
           have q114 : aA < (l0.length : Int) := of_decide_eq_true q2_0
           obtain ⟨ad114, sA, cA, dA, eA, fA, gA, hA, iA, jA⟩ := at_T89 HR0.out aA p114 q114
           cases sA
           replace p114 := eq_true p114
           replace q114 := eq_true q114
           have p115 : 0 ≤ (aA : Int) := of_decide_eq_true q2_0
           have q115 : aA < (l0.length : Int) := of_decide_eq_true q2_0
           obtain ⟨ad115, BA, kA, lA, mA, nA, oA, pA, qA, rA⟩ := at_T89 HR0.out aA p115 q115
           obtain rfl : ad114 = ad115 := (by injection BA)
           replace p115 := eq_true p115
           replace q115 := eq_true q115
           have p116 : 0 ≤ (aA : Int) := of_decide_eq_true q2_0
           have q116 : aA < (l0.length : Int) := of_decide_eq_true q2_0
           obtain ⟨ad116, LA, tA, uA, vA, wA, xA, yA, zA, AA⟩ := at_T89 HR0.out aA p116 q116
           obtain rfl : ad114 = ad116 := (by injection LA)
           replace p116 := eq_true p116
           replace q116 := eq_true q116
           have p117 : 0 ≤ (aA : Int) := of_decide_eq_true q2_0
           have q117 : aA < (l0.length : Int) := of_decide_eq_true q2_0
           obtain ⟨ad117, UA, CA, DA, EA, FA, GA, IA, JA, KA⟩ := at_T89 HR0.out aA p117 q117
           obtain rfl : ad114 = ad117 := (by injection UA)
           replace p117 := eq_true p117
           replace q117 := eq_true q117
           have p118 : 0 ≤ (aA : Int) := of_decide_eq_true q2_0
           have q118 : aA < (l0.length : Int) := of_decide_eq_true q2_0
           obtain ⟨ad118, VA, MA, NA, OA, PA, QA, RA, SA, TA⟩ := at_T89 HR0.out aA p118 q118
           obtain rfl : ad114 = ad118 := (by injection VA)
           replace p118 := eq_true p118
           replace q118 := eq_true q118
           have p119 : 0 ≤ (aA : Int) := of_decide_eq_true q2_0
           have q119 : aA < (l0.length : Int) := of_decide_eq_true q2_0
           obtain ⟨ad119, eB, WA, XA, YA, ZA, aB, bB, cB, dB⟩ := at_T89 HR0.out aA p119 q119
           obtain rfl : ad114 = ad119 := (by injection eB)
           replace p119 := eq_true p119
           replace q119 := eq_true q119
           go_wp2
           go_ret
           exact ⟨q2_2, q2_1⟩
         ·rw [if_neg c9] at H
          have MB : (((rd_T89 l0 aA).f4) == (wrap64 ((wrap64 ((wrap64 ((wrap64 (bA + 1)) + 1)) + 1)) + 1))) = false := beq_eq_false_iff_ne.mpr c9
          have NB : (((rd_T89 l0 aA).f4) != (wrap64 ((wrap64 ((wrap64 ((wrap64 (bA + 1)) + 1)) + 1)) + 1))) = true := bne_iff_ne.mpr c9
          obtain rfl := Option.some.inj H
          have p114 : 0 ≤ (aA : Int) := of_decide_eq_true q2_0
          have q114 : aA < (l0.length : Int) := of_decide_eq_true q2_0
          obtain ⟨ad114, sA, cA, dA, eA, fA, gA, hA, iA, jA⟩ := at_T89 HR0.out aA p114 q114
          cases sA
          replace p114 := eq_true p114
          replace q114 := eq_true q114
          have p115 : 0 ≤ (aA : Int) := of_decide_eq_true q2_0
          have q115 : aA < (l0.length : Int) := of_decide_eq_true q2_0
          obtain ⟨ad115, BA, kA, lA, mA, nA, oA, pA, qA, rA⟩ := at_T89 HR0.out aA p115 q115
          obtain rfl : ad114 = ad115 := (by injection BA)
          replace p115 := eq_true p115
          replace q115 := eq_true q115
          have p116 : 0 ≤ (aA : Int) := of_decide_eq_true q2_0
          have q116 : aA < (l0.length : Int) := of_decide_eq_true q2_0
          obtain ⟨ad116, LA, tA, uA, vA, wA, xA, yA, zA, AA⟩ := at_T89 HR0.out aA p116 q116
          obtain rfl : ad114 = ad116 := (by injection LA)
          replace p116 := eq_true p116
          replace q116 := eq_true q116
          have p117 : 0 ≤ (aA : Int) := of_decide_eq_true q2_0
          have q117 : aA < (l0.length : Int) := of_decide_eq_true q2_0
          obtain ⟨ad117, UA, CA, DA, EA, FA, GA, IA, JA, KA⟩ := at_T89 HR0.out aA p117 q117
          obtain rfl : ad114 = ad117 := (by injection UA)
          replace p117 := eq_true p117
          replace q117 := eq_true q117
          have p118 : 0 ≤ (aA : Int) := of_decide_eq_true q2_0
          have q118 : aA < (l0.length : Int) := of_decide_eq_true q2_0
          obtain ⟨ad118, VA, MA, NA, OA, PA, QA, RA, SA, TA⟩ := at_T89 HR0.out aA p118 q118
          obtain rfl : ad114 = ad118 := (by injection VA)
          replace p118 := eq_true p118
          replace q118 := eq_true q118
          go_wp2
          go_ret
          exact ⟨q2_2, q2_1⟩
        ·rw [if_neg c8] at H
         have KB : (((rd_T89 l0 aA).f3) == (wrap64 ((wrap64 ((wrap64 (bA + 1)) + 1)) + 1))) = false := beq_eq_false_iff_ne.mpr c8
         have LB : (((rd_T89 l0 aA).f3) != (wrap64 ((wrap64 ((wrap64 (bA + 1)) + 1)) + 1))) = true := bne_iff_ne.mpr c8
         obtain rfl := Option.some.inj H
         have p114 : 0 ≤ (aA : Int) := of_decide_eq_true q2_0
         have q114 : aA < (l0.length : Int) := of_decide_eq_true q2_0
         obtain ⟨ad114, sA, cA, dA, eA, fA, gA, hA, iA, jA⟩ := at_T89 HR0.out aA p114 q114
         cases sA
         replace p114 := eq_true p114
         replace q114 := eq_true q114
         have p115 : 0 ≤ (aA : Int) := of_decide_eq_true q2_0
         have q115 : aA < (l0.length : Int) := of_decide_eq_true q2_0
         obtain ⟨ad115, BA, kA, lA, mA, nA, oA, pA, qA, rA⟩ := at_T89 HR0.out aA p115 q115
         obtain rfl : ad114 = ad115 := (by injection BA)
         replace p115 := eq_true p115
         replace q115 := eq_true q115
         have p116 : 0 ≤ (aA : Int) := of_decide_eq_true q2_0
         have q116 : aA < (l0.length : Int) := of_decide_eq_true q2_0
         obtain ⟨ad116, LA, tA, uA, vA, wA, xA, yA, zA, AA⟩ := at_T89 HR0.out aA p116 q116
         obtain rfl : ad114 = ad116 := (by injection LA)
         replace p116 := eq_true p116
         replace q116 := eq_true q116
         have p117 : 0 ≤ (aA : Int) := of_decide_eq_true q2_0
         have q117 : aA < (l0.length : Int) := of_decide_eq_true q2_0
         obtain ⟨ad117, UA, CA, DA, EA, FA, GA, IA, JA, KA⟩ := at_T89 HR0.out aA p117 q117
         obtain rfl : ad114 = ad117 := (by injection UA)
         replace p117 := eq_true p117
         replace q117 := eq_true q117
         go_wp2
         go_ret
         exact ⟨q2_2, q2_1⟩
       ·rw [if_neg c7] at H
        have IB : (((rd_T89 l0 aA).f2) == (wrap64 ((wrap64 (bA + 1)) + 1))) = false := beq_eq_false_iff_ne.mpr c7
        have JB : (((rd_T89 l0 aA).f2) != (wrap64 ((wrap64 (bA + 1)) + 1))) = true := bne_iff_ne.mpr c7
        obtain rfl := Option.some.inj H
        have p114 : 0 ≤ (aA : Int) := of_decide_eq_true q2_0
        have q114 : aA < (l0.length : Int) := of_decide_eq_true q2_0
        obtain ⟨ad114, sA, cA, dA, eA, fA, gA, hA, iA, jA⟩ := at_T89 HR0.out aA p114 q114
        cases sA
        replace p114 := eq_true p114
        replace q114 := eq_true q114
        have p115 : 0 ≤ (aA : Int) := of_decide_eq_true q2_0
        have q115 : aA < (l0.length : Int) := of_decide_eq_true q2_0
        obtain ⟨ad115, BA, kA, lA, mA, nA, oA, pA, qA, rA⟩ := at_T89 HR0.out aA p115 q115
        obtain rfl : ad114 = ad115 := (by injection BA)
        replace p115 := eq_true p115
        replace q115 := eq_true q115
        have p116 : 0 ≤ (aA : Int) := of_decide_eq_true q2_0
        have q116 : aA < (l0.length : Int) := of_decide_eq_true q2_0
        obtain ⟨ad116, LA, tA, uA, vA, wA, xA, yA, zA, AA⟩ := at_T89 HR0.out aA p116 q116
        obtain rfl : ad114 = ad116 := (by injection LA)
        replace p116 := eq_true p116
        replace q116 := eq_true q116
        go_wp2
        go_ret
        exact ⟨q2_2, q2_1⟩
      ·rw [if_neg c6] at H
       have GB : (((rd_T89 l0 aA).f1) == (wrap64 (bA + 1))) = false := beq_eq_false_iff_ne.mpr c6
       have HB : (((rd_T89 l0 aA).f1) != (wrap64 (bA + 1))) = true := bne_iff_ne.mpr c6
       obtain rfl := Option.some.inj H
       have p114 : 0 ≤ (aA : Int) := of_decide_eq_true q2_0
       have q114 : aA < (l0.length : Int) := of_decide_eq_true q2_0
       obtain ⟨ad114, sA, cA, dA, eA, fA, gA, hA, iA, jA⟩ := at_T89 HR0.out aA p114 q114
       cases sA
       replace p114 := eq_true p114
       replace q114 := eq_true q114
       have p115 : 0 ≤ (aA : Int) := of_decide_eq_true q2_0
       have q115 : aA < (l0.length : Int) := of_decide_eq_true q2_0
       obtain ⟨ad115, BA, kA, lA, mA, nA, oA, pA, qA, rA⟩ := at_T89 HR0.out aA p115 q115
       obtain rfl : ad114 = ad115 := (by injection BA)
       replace p115 := eq_true p115
       replace q115 := eq_true q115
       go_wp2
       go_ret
       exact ⟨q2_2, q2_1⟩
     ·rw [if_neg c5] at H
      have EB : (((rd_T89 l0 aA).f0) == bA) = false := beq_eq_false_iff_ne.mpr c5
      have FB : (((rd_T89 l0 aA).f0) != bA) = true := bne_iff_ne.mpr c5
      obtain rfl := Option.some.inj H
      have p114 : 0 ≤ (aA : Int) := of_decide_eq_true q2_0
      have q114 : aA < (l0.length : Int) := of_decide_eq_true q2_0
      obtain ⟨ad114, sA, cA, dA, eA, fA, gA, hA, iA, jA⟩ := at_T89 HR0.out aA p114 q114
      cases sA
      replace p114 := eq_true p114
      replace q114 := eq_true q114
      go_wp2
      go_ret
      exact ⟨q2_2, q2_1⟩
    ·rw [if_neg c4] at H
     exact absurd H (by simp)
   ·rw [if_neg c3] at H
    have wB : decide (aA < (l0.length : Int)) = false := decide_eq_false c3
    clear c3
    obtain rfl := Option.some.inj H
    go_wp2
    go_ret
    exact ⟨q2_2, q2_1⟩

/-! ### laws_szFactS: function 41 -/
def laws_szFactS.f (l0 : List (S92)) (a1 : Int) : Option (Int) := if (wrap64 (a1 - (l0.length : Int))) < 0 then (some (-1)) else (some (wrap64 (a1 - (l0.length : Int))))
set_option maxHeartbeats 8000000 in
set_option maxRecDepth 100000 in
theorem laws_szFactS.calls (A0 : Option Addr) (c0 : Nat) (l0 : List (S92)) (a1 : Int) (r : Int) (w : World) (hr0 : Kd.C k92 w A0 l0.length l0) (hc0 : l0.length ≤ c0) (h : laws_szFactS.f l0 a1 = some r) :
  Calls Try.prog 41 #[.slice A0 l0.length c0, .int .i64 a1] w fun e w' => e = .returned (.int .i64 r) ∧ Drawn0 w w' := by
 clear hr0 hc0
 have H : (if (wrap64 (a1 - (l0.length : Int))) < 0 then (some (-1)) else (some (wrap64 (a1 - (l0.length : Int))))) = some r := h
 clear h
 by_cases c3 : (wrap64 (a1 - (l0.length : Int))) < 0
 ·rw [if_pos c3] at H
  have wB : decide ((wrap64 (a1 - (l0.length : Int))) < 0) = true := decide_eq_true c3
  clear c3
  obtain rfl := Option.some.inj H
  go_enter Try.func41, Try.ntmps41
  go_wp2
  go_ret
  exact ⟨q2_2, q2_1⟩
 ·rw [if_neg c3] at H
  have wB : decide ((wrap64 (a1 - (l0.length : Int))) < 0) = false := decide_eq_false c3
  clear c3
  obtain rfl := Option.some.inj H
  go_enter Try.func41, Try.ntmps41
  go_wp2
  go_ret
  exact ⟨q2_2, q2_1⟩

end Go.Proofs.Ytgghglocfdcegaa.PFnExactInTime
