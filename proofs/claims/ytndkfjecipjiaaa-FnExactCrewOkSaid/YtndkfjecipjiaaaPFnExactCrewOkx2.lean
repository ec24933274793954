-- Written by the session's own patched copy of the printer (wip/patch_print.py).
import Derived.Test.YtndkfjecipjiaaaPFnExactCrewOkx0
namespace Go.Proofs.Ytndkfjecipjiaaa.PFnExactCrewOk
open Go.RowKit Go.Proofs.YtndkfjecipjiaaaW.PrintWords Go.Proofs.YtndkfjecipjiaaaW.PrintLast Go.Proofs.YtndkfjecipjiaaaW.PrintMore
attribute [local go_sem] max2_int min2_int max_two min_two max_three min_three max_four min_four   -- for this text's walks alone
set_option linter.unusedVariables false
set_option linter.unusedSimpArgs false

theorem q2_p {P : Program} {ops : Array Oper} {Q : Exit → Act → World → Prop} {md : Region.Mode} {S : World → Prop} {ds : List Nat} (i n : Nat) {oi : Oper} {v : Value} {fuel : Nat} {l : Array Bool} {a : Act} {w : World} (l' : Array Bool) {a' : Act} (h : wpAnyLast P md ops Q S ds fuel l' a' w) (hi : ops[i]? = some oi := by rfl) (hN : oi.dst = some n := by rfl) (hc : anyB md ops l l' i = true := by exact any_of HT_.out (by kernel_rfl)) (hQ : ∀ c a w, Q (.panic c) (a.put oi.dst v) w → Q (.panic c) a w := by exact fun _ _ _ h => h) (hy : Yields P ops oi v a := by refine Or.inl ⟨by rfl, ?_⟩; intro w'; go_simp; with_reducible rfl) (ha : a.put (some n) v = a' := by simp only [Act.put, List.setIfInBounds_toArray, List.set_cons_zero, List.set_cons_succ, i64_w, i32_w]; rfl) : wpAnyLast P md ops Q S ds (fuel + 1) l a w := pure_ (N := some n) l' hi hN hc hQ hy ha h
theorem q2_u {P : Program} {ops : Array Oper} {Q : Exit → Act → World → Prop} {md : Region.Mode} {S : World → Prop} {ds : List Nat} (i n : Nat) {oi : Oper} {fuel : Nat} {l : Array Bool} {a : Act} {w : World} (l' : Array Bool) {a' : Act} (h : wpAnyLast P md ops Q S ds fuel l' a' w) (hi : ops[i]? = some oi := by rfl) (hN : oi.dst = some n := by rfl) (hc : anyB md ops l l' i = true := by exact any_of HT_.out (by kernel_rfl)) (hQ : ∀ c a w, Q (.panic c) (a.put oi.dst undef) w → Q (.panic c) a w := by exact fun _ _ _ h => h) (hy : Yields P ops oi undef a := by exact Or.inr ⟨by rfl, rfl⟩) (ha : a.put (some n) undef = a' := by simp only [Act.put, List.setIfInBounds_toArray, List.set_cons_zero, List.set_cons_succ, i64_w, i32_w]; rfl) : wpAnyLast P md ops Q S ds (fuel + 1) l a w := pure_ (N := some n) l' hi hN hc hQ hy ha h
open Bool renaming true → T, false → F
theorem q2_0 {p : Prop} (h : p := by repeat (first | (with_reducible first | exact HB.out | apply below_alloc | apply pw_below_drewN | apply below_drew1) | exact HB.out)) : p := h
theorem q2_1 {p : Prop} (h : p := by repeat (first | (with_reducible first | exact HB.out | apply below_alloc | apply pw_below_drewN | apply below_drew1 | refine below_set ?_ BB.out) | exact HB.out)) : p := h
theorem q2_2 {p : Prop} (h : p := by (with_reducible repeat (first | refine blk_drewN ?_ _ | refine blk_drew ?_ | refine blk_alloc ?_ _)); exact aA.out) : p := h
theorem q2_3 {p : Prop} (h : p := by repeat (first | (with_reducible first | exact HB.out | apply below_alloc | apply pw_below_drewN | apply below_drew1 | refine below_set ?_ LB.out | refine below_set ?_ UB.out) | exact HB.out)) : p := h
theorem q2_4 {p : Prop} (h : p := by rw [hg]; exact Nat.ne_of_lt (blk_lt (g := cA) (o := .cells #[.int .i64 sA, .int .i64 jA, .int .i64 tA, .int .i64 uA, .int .i64 vA, .int .i64 wA, .int .i64 xA, .int .i64 yA, .int .i64 zA, .bool qA] 75 (0, 0)) q2_2)) : p := h
theorem q2_5 {p : Prop} (h : p := by rw [hg]; exact Nat.ne_of_gt (blk_lt (g := cA) (o := .cells #[.int .i64 sA, .int .i64 jA, .int .i64 tA, .int .i64 uA, .int .i64 vA, .int .i64 wA, .int .i64 xA, .int .i64 yA, .int .i64 zA, .bool qA] 75 (0, 0)) q2_2)) : p := h
theorem q2_6 {p : Prop} (h : p := by repeat (first | (with_reducible first | exact HB.out | apply below_alloc | apply pw_below_drewN | apply below_drew1 | refine below_set ?_ LB.out) | exact HB.out)) : p := h
theorem q2_7 {p : Prop} (h : p := by (with_reducible repeat (first | refine blk_drewN ?_ _ | refine blk_drew ?_ | refine blk_alloc ?_ _)); exact fA.out) : p := h
theorem q2_8 {p : Prop} (h : p := by repeat (first | (with_reducible first | exact HB.out | apply below_alloc | apply pw_below_drewN | apply below_drew1 | refine below_set ?_ BB.out | refine below_set ?_ CB.out) | exact HB.out)) : p := h
theorem q2_9 {p : Prop} (h : p := by first | rfl | (simp [errW_none, errW_some] <;> rfl) | (simp [*, errW_none, errW_some] <;> rfl)) : p := h
theorem q2_10 {p : Prop} (h : p := by (try simp only [List.map_toArray, List.map_cons, List.map_nil]); first | done | rfl | (simp only [List.length_drop, List.length_take]; rfl)) : p := h
theorem q2_11 {p : Prop} (h : p := by rw [hg]; exact (below_size q2_0)) : p := h
theorem q2_12 {p : Prop} (h : p := by rw [hg]; exact Nat.ne_of_lt (blk_lt (g := hA) (o := .cells #[.slice KA AA.length LA, .int .i64 jA, .slice UA BA.length VA, .slice WA CA.length XA] 55 (0, 0)) q2_7)) : p := h
theorem q2_13 {p : Prop} (h : p := by rw [hg]; exact Nat.ne_of_gt (blk_lt (g := hA) (o := .cells #[.slice KA AA.length LA, .int .i64 jA, .slice UA BA.length VA, .slice WA CA.length XA] 55 (0, 0)) q2_7)) : p := h
theorem q2_14 {p : Prop} (h : p := by first | (with_reducible assumption) | assumption) : p := h
theorem q2_15 {p : Prop} (h : p := by repeat (first | exact (Kd.C_below bE.out HB.out) | (with_reducible refine Kd.C_alloc ?_ _) | (with_reducible refine Kd.C_drewN ?_ _) | (with_reducible refine Kd.C_drew ?_))) : p := h
theorem q2_16 {p : Prop} (h : p := by repeat (first | exact (Kd.C_below cE.out HB.out) | (with_reducible refine Kd.C_alloc ?_ _) | (with_reducible refine Kd.C_drewN ?_ _) | (with_reducible refine Kd.C_drew ?_))) : p := h
theorem q2_17 {p : Prop} (h : p := by rw [hg]; exact (below_size q2_1)) : p := h
theorem q2_18 {p : Prop} (h : p := by (with_reducible repeat (first | refine blk_drewN ?_ _ | refine blk_drew ?_ | refine blk_alloc ?_ _)); exact gA.out) : p := h
theorem q2_19 {p : Prop} (h : p := by repeat (first | exact (Kd.C_below dE.out HB.out) | (with_reducible refine Kd.C_alloc ?_ _) | (with_reducible refine Kd.C_drewN ?_ _) | (with_reducible refine Kd.C_drew ?_))) : p := h
theorem q2_20 {p : Prop} (h : p := by repeat (first | exact (Kd.C_below eE.out HB.out) | (with_reducible refine Kd.C_alloc ?_ _) | (with_reducible refine Kd.C_drewN ?_ _) | (with_reducible refine Kd.C_drew ?_))) : p := h
theorem q2_21 {p : Prop} (h : p := by rw [hg]; exact (below_size q2_6)) : p := h
theorem q2_22 {p : Prop} (h : p := by first | rfl | (simp; done) | (simp [*]; done)) : p := h
theorem q2_23 {p : Prop} (h : p := by repeat (first | exact Drawn0.refl _ | apply Drawn0.step)) : p := h
/-! ### laws_eqIntS: function 26 -/
def laws_eqIntS.l0 : Nat → List Int → List Int → Int → Option (Bool)
 | 0, _, _, _ => none
 | k + 1, x0, x1, x5 => if x5 < (x0.length : Int) then (if 0 ≤ x5 then (if x5 < (x1.length : Int) then (if (rd x0 x5) = (rd x1 x5) then (laws_eqIntS.l0 k x0 x1 (wrap64 (x5 + 1))) else (some false)) else (none)) else (none)) else (some true)
def laws_eqIntS.f (k : Nat) (l0 : List Int) (l1 : List Int) : Option (Bool) := if (l0.length : Int) = (l1.length : Int) then (laws_eqIntS.l0 k l0 l1 0) else (some false)
theorem laws_eqIntS.mono_l : ∀ k, (∀ y0 y1 y2, LeO (laws_eqIntS.l0 k y0 y1 y2) (laws_eqIntS.l0 (k + 1) y0 y1 y2))
 | 0 => fun _ _ _ r h => by simp [laws_eqIntS.l0] at h
 | k + 1 => by
  have ih0 := laws_eqIntS.mono_l k
  ·intro y0 y1 y2
   unfold laws_eqIntS.l0
   repeat' first
   | (with_reducible exact ih0 _ _ _)
   | (with_reducible exact LeO.refl _)
   | (with_reducible exact LeO.none _)
   | (with_reducible refine LeO.ite ?_ ?_)
   | (with_reducible refine LeO.bind ?_ (fun _ => ?_))
   | exact ih0 _ _ _
   | exact LeO.none _
   | refine LeO.ite ?_ ?_
   | refine LeO.bind ?_ (fun _ => ?_)
theorem laws_eqIntS.mono : ∀ a0 a1 k, LeO (laws_eqIntS.f k a0 a1) (laws_eqIntS.f (k + 1) a0 a1) := by
 intro a0 a1 k
 have ih0 := laws_eqIntS.mono_l k
 unfold laws_eqIntS.f
 repeat' first
   | (with_reducible exact ih0 _ _ _)
   | (with_reducible exact LeO.refl _)
   | (with_reducible exact LeO.none _)
   | (with_reducible refine LeO.ite ?_ ?_)
   | (with_reducible refine LeO.bind ?_ (fun _ => ?_))
   | exact ih0 _ _ _
   | exact LeO.none _
   | refine LeO.ite ?_ ?_
   | refine LeO.bind ?_ (fun _ => ?_)
set_option maxHeartbeats 8000000 in
set_option maxRecDepth 100000 in
theorem laws_eqIntS.calls (k : Nat) (A0 : Option Addr) (c0 : Nat) (l0 : List Int) (A1 : Option Addr) (c1 : Nat) (l1 : List Int) (r : Bool) (w : World) (hr0 : Kd.C (Kd.int .i64) w A0 l0.length l0) (hc0 : l0.length ≤ c0) (hr1 : Kd.C (Kd.int .i64) w A1 l1.length l1) (hc1 : l1.length ≤ c1) (h : laws_eqIntS.f k l0 l1 = some r) :
  Calls Try.prog 26 #[.slice A0 l0.length c0, .slice A1 l1.length c1] w fun e w' => e = .returned (.bool r) ∧ Drawn0 w w' := by
 have HR0 := Aside0.mk hr0
 clear hr0 hc0
 have HR1 := Aside0.mk hr1
 clear hr1 hc1
 have H : (if (l0.length : Int) = (l1.length : Int) then (laws_eqIntS.l0 k l0 l1 0) else (some false)) = some r := h
 clear h
 by_cases c3 : (l0.length : Int) = (l1.length : Int)
 ·rw [if_pos c3] at H
  have XB : ((l0.length : Int) == (l1.length : Int)) = true := beq_iff_eq.mpr c3
  have YB : ((l0.length : Int) != (l1.length : Int)) = false := bne_eq_false_iff_eq.mpr c3
  have cC : (l0.length == l1.length) = true := by first | simpa using c3 | (simp at c3 ⊢; omega)
  clear c3
  have H' := Aside0.mk H
  clear H
  go_enter Try.func26, Try.ntmps26
  go_wp2
  repeat (go_quiet (fail); try go_wp2)
  go_loopg [5] k (fun kq v5 w' => ∃ (dA : Int), v5 = .int .i64 dA ∧ Aside0 (laws_eqIntS.l0 kq l0 l1 dA = some r) ∧ Aside0 (kq ≤ k) ∧ Drawn0 w w')
  case atStart => exact ⟨(0), q2_22, H', ⟨Nat.le_refl _⟩, q2_23⟩
  case round =>
   clear H'
   (try clear c1); (try clear c2); (try clear p2); (try clear c3); (try clear XB); (try clear YB); (try clear cC)
   obtain ⟨dA, rfl, HA, HK1, ⟨m1, rfl⟩⟩ := hrel
   cases gk with
   | zero => exact absurd HA.out (by simp [laws_eqIntS.l0])
   | succ k1 =>
    have H := HA.out
    clear HA
    simp only [laws_eqIntS.l0] at H
    by_cases c4 : dA < (l0.length : Int)
    ·rw [if_pos c4] at H
     have dC : decide (dA < (l0.length : Int)) = true := decide_eq_true c4
     clear c4
     by_cases c5 : 0 ≤ dA
     ·rw [if_pos c5] at H
      have eC : decide (0 ≤ dA) = true := decide_eq_true c5
      clear c5
      by_cases c6 : dA < (l1.length : Int)
      ·rw [if_pos c6] at H
       have TD : decide (dA < (l1.length : Int)) = true := decide_eq_true c6
       clear c6
       by_cases c7 : (rd l0 dA) = (rd l1 dA)
       ·rw [if_pos c7] at H
        have UD : ((rd l0 dA) == (rd l1 dA)) = true := beq_iff_eq.mpr c7
        have VD : ((rd l0 dA) != (rd l1 dA)) = false := bne_eq_false_iff_eq.mpr c7
        clear c7
        have H' := Aside0.mk H
        clear H
        have p101 : 0 ≤ (dA : Int) := of_decide_eq_true q2_14
        have q101 : dA < (l0.length : Int) := of_decide_eq_true q2_14
        obtain ⟨ad101, WD, hC⟩ := Kd.at_int HR0.out dA p101 q101
        cases WD
        replace p101 := eq_true p101
        replace q101 := eq_true q101
        have p102 : 0 ≤ (dA : Int) := of_decide_eq_true q2_14
        have q102 : dA < (l1.length : Int) := of_decide_eq_true q2_14
        obtain ⟨ad102, XD, iC⟩ := Kd.at_int HR1.out dA p102 q102
        cases XD
        replace p102 := eq_true p102
        replace q102 := eq_true q102
        go_wp2
        repeat (go_quiet (fail); try go_wp2)
        go_roundg k1
        case measure => have := HK1.out; omega
        case rel => exact ⟨(wrap64 (dA + 1)), q2_22, H', ⟨by have := HK1.out; omega⟩, q2_23⟩
       ·rw [if_neg c7] at H
        have UD : ((rd l0 dA) == (rd l1 dA)) = false := beq_eq_false_iff_ne.mpr c7
        have VD : ((rd l0 dA) != (rd l1 dA)) = true := bne_iff_ne.mpr c7
        obtain rfl := Option.some.inj H
        have p101 : 0 ≤ (dA : Int) := of_decide_eq_true q2_14
        have q101 : dA < (l0.length : Int) := of_decide_eq_true q2_14
        obtain ⟨ad101, WD, hC⟩ := Kd.at_int HR0.out dA p101 q101
        cases WD
        replace p101 := eq_true p101
        replace q101 := eq_true q101
        have p102 : 0 ≤ (dA : Int) := of_decide_eq_true q2_14
        have q102 : dA < (l1.length : Int) := of_decide_eq_true q2_14
        obtain ⟨ad102, XD, iC⟩ := Kd.at_int HR1.out dA p102 q102
        cases XD
        replace p102 := eq_true p102
        replace q102 := eq_true q102
        go_wp2
        repeat (go_quiet (fail); try go_wp2)
        go_ret
        exact ⟨q2_22, q2_23⟩
      ·rw [if_neg c6] at H
       exact absurd H (by simp)
     ·rw [if_neg c5] at H
      exact absurd H (by simp)
    ·rw [if_neg c4] at H
     have dC : decide (dA < (l0.length : Int)) = false := decide_eq_false c4
     clear c4
     obtain rfl := Option.some.inj H
     go_wp2
     repeat (go_quiet (fail); try go_wp2)
     go_ret
     exact ⟨q2_22, q2_23⟩
 ·rw [if_neg c3] at H
  have XB : ((l0.length : Int) == (l1.length : Int)) = false := beq_eq_false_iff_ne.mpr c3
  have YB : ((l0.length : Int) != (l1.length : Int)) = true := bne_iff_ne.mpr c3
  have cC : (l0.length == l1.length) = false := by first | simpa using c3 | (simp at c3 ⊢; omega)
  obtain rfl := Option.some.inj H
  go_enter Try.func26, Try.ntmps26
  go_wp2
  repeat (go_quiet (fail); try go_wp2)
  go_ret
  exact ⟨q2_22, q2_23⟩

/-! ### laws_eqCall: function 92 -/
def laws_eqCall.f (sA : Int) (jA : Int) (tA : Int) (uA : Int) (vA : Int) (wA : Int) (xA : Int) (yA : Int) (zA : Int) (qA : Bool) (MA : Int) (mA : Int) (NA : Int) (OA : Int) (PA : Int) (QA : Int) (RA : Int) (SA : Int) (TA : Int) (EA : Bool) : Option (Bool) := if sA = MA then (if jA = mA then (if tA = NA then (if uA = OA then (if vA = PA then (if wA = QA then (if xA = RA then (if yA = SA then (if zA = TA then (if (qA != EA) = true then (some false) else (some true)) else (some false)) else (some false)) else (some false)) else (some false)) else (some false)) else (some false)) else (some false)) else (some false)) else (some false)
set_option maxHeartbeats 8000000 in
set_option maxRecDepth 100000 in
theorem laws_eqCall.calls (sA : Int) (jA : Int) (tA : Int) (uA : Int) (vA : Int) (wA : Int) (xA : Int) (yA : Int) (zA : Int) (qA : Bool) (MA : Int) (mA : Int) (NA : Int) (OA : Int) (PA : Int) (QA : Int) (RA : Int) (SA : Int) (TA : Int) (EA : Bool) (r : Bool) (w : World) (h : laws_eqCall.f sA jA tA uA vA wA xA yA zA qA MA mA NA OA PA QA RA SA TA EA = some r) :
  Calls Try.prog 92 #[.agg #[.int .i64 sA, .int .i64 jA, .int .i64 tA, .int .i64 uA, .int .i64 vA, .int .i64 wA, .int .i64 xA, .int .i64 yA, .int .i64 zA, .bool qA], .agg #[.int .i64 MA, .int .i64 mA, .int .i64 NA, .int .i64 OA, .int .i64 PA, .int .i64 QA, .int .i64 RA, .int .i64 SA, .int .i64 TA, .bool EA]] w fun e w' => e = .returned (.bool r) ∧ Below w.heap.size w w' := by
 have hu75 := Try.underlying75
 have HB := Aside0.mk (Below.refl w.heap.size w)
 have H : (if sA = MA then (if jA = mA then (if tA = NA then (if uA = OA then (if vA = PA then (if wA = QA then (if xA = RA then (if yA = SA then (if zA = TA then (if (qA != EA) = true then (some false) else (some true)) else (some false)) else (some false)) else (some false)) else (some false)) else (some false)) else (some false)) else (some false)) else (some false)) else (some false)) = some r := h
 clear h
 by_cases c3 : sA = MA
 ·rw [if_pos c3] at H
  have XB : (sA == MA) = true := beq_iff_eq.mpr c3
  have YB : (sA != MA) = false := bne_eq_false_iff_eq.mpr c3
  clear c3
  by_cases c4 : jA = mA
  ·rw [if_pos c4] at H
   have dC : (jA == mA) = true := beq_iff_eq.mpr c4
   have dN : (jA != mA) = false := bne_eq_false_iff_eq.mpr c4
   clear c4
   by_cases c5 : tA = NA
   ·rw [if_pos c5] at H
    have eC : (tA == NA) = true := beq_iff_eq.mpr c5
    have YD : (tA != NA) = false := bne_eq_false_iff_eq.mpr c5
    clear c5
    by_cases c6 : uA = OA
    ·rw [if_pos c6] at H
     have TD : (uA == OA) = true := beq_iff_eq.mpr c6
     have eN : (uA != OA) = false := bne_eq_false_iff_eq.mpr c6
     clear c6
     by_cases c7 : vA = PA
     ·rw [if_pos c7] at H
      have UD : (vA == PA) = true := beq_iff_eq.mpr c7
      have VD : (vA != PA) = false := bne_eq_false_iff_eq.mpr c7
      clear c7
      by_cases c8 : wA = QA
      ·rw [if_pos c8] at H
       have fN : (wA == QA) = true := beq_iff_eq.mpr c8
       have gN : (wA != QA) = false := bne_eq_false_iff_eq.mpr c8
       clear c8
       by_cases c9 : xA = RA
       ·rw [if_pos c9] at H
        have iN : (xA == RA) = true := beq_iff_eq.mpr c9
        have jN : (xA != RA) = false := bne_eq_false_iff_eq.mpr c9
        clear c9
        by_cases c10 : yA = SA
        ·rw [if_pos c10] at H
         have fE : (yA == SA) = true := beq_iff_eq.mpr c10
         have gE : (yA != SA) = false := bne_eq_false_iff_eq.mpr c10
         clear c10
         by_cases c11 : zA = TA
         ·rw [if_pos c11] at H
          have hE : (zA == TA) = true := beq_iff_eq.mpr c11
          have iE : (zA != TA) = false := bne_eq_false_iff_eq.mpr c11
          clear c11
          by_cases c12 : (qA != EA) = true
          ·rw [if_pos c12] at H
           have jE : (qA != EA) = true := c12
           (try (have kE : decide (qA = EA) = false := by simpa using c12))
           (try (have lE : (qA == EA) = false := by simpa using c12))
           (try (have uN : ¬ (qA = EA) := by simpa using c12))
           clear c12
           obtain rfl := Option.some.inj H
           go_enter Try.func92, Try.ntmps92
           go_wp2_with (first | ((with_reducible refine gate_dst (N := 2) rfl ?_); refine box_event ?hg (N := 2) ?hd (cs := #[.int .i64 sA, .int .i64 jA, .int .i64 tA, .int .i64 uA, .int .i64 vA, .int .i64 wA, .int .i64 xA, .int .i64 yA, .int .i64 zA, .bool qA]) (t := 75) ?hr ?_; (case hd => rfl); (case hg => rfl); (case hr => first | (go_simp; done) | (go_simp; rfl)); intro cA hg ZN hbox hb; have nA := Aside0.mk (below_step q2_0 hb); have oA := Aside0.mk (hbox); have pA := Aside0.mk ((q2_11 : w.heap.size ≤ cA)); have rA := Aside0.mk ((q2_11 : w.heap.size ≤ cA)); clear HB; have HB := nA; have aA := oA; have DB := pA; have BB := rA; clear nA oA pA rA; clear hb hbox hg) | ((with_reducible refine gate_dst (N := 3) rfl ?_); refine box_event ?hg (N := 3) ?hd (cs := #[.int .i64 MA, .int .i64 mA, .int .i64 NA, .int .i64 OA, .int .i64 PA, .int .i64 QA, .int .i64 RA, .int .i64 SA, .int .i64 TA, .bool EA]) (t := 75) ?hr ?_; (case hd => rfl); (case hg => rfl); (case hr => first | (go_simp; done) | (go_simp; rfl)); intro eA hg MB hbox hb; have nA := Aside0.mk (blk_below (g := cA) (o := .cells #[.int .i64 sA, .int .i64 jA, .int .i64 tA, .int .i64 uA, .int .i64 vA, .int .i64 wA, .int .i64 xA, .int .i64 yA, .int .i64 zA, .bool qA] 75 (0, 0)) q2_2 hb); have oA := Aside0.mk (below_step q2_1 hb); have pA := Aside0.mk (hbox); have rA := Aside0.mk ((q2_17 : w.heap.size ≤ eA)); have wB := Aside0.mk ((q2_17 : w.heap.size ≤ eA)); have xB := Aside0.mk ((q2_4 : cA ≠ eA)); have yB := Aside0.mk ((q2_5 : eA ≠ cA)); clear aA; clear HB; have aA := nA; have HB := oA; have bA := pA; have EB := rA; have CB := wB; have kA := xB; have lA := yB; clear nA oA pA rA wB xB yB; clear hb hbox hg; have vN := kA.out; have wN := lA.out; have jC : MB.cell? ⟨cA, 0, none⟩ = some (.int .i64 sA) := (blk_cell aA.out 0).trans rfl; have kC : MB.cell? ⟨cA, 1, none⟩ = some (.int .i64 jA) := (blk_cell aA.out 1).trans rfl; have lC : MB.cell? ⟨cA, 2, none⟩ = some (.int .i64 tA) := (blk_cell aA.out 2).trans rfl; have mC : MB.cell? ⟨cA, 3, none⟩ = some (.int .i64 uA) := (blk_cell aA.out 3).trans rfl; have oE : MB.cell? ⟨cA, 4, none⟩ = some (.int .i64 vA) := (blk_cell aA.out 4).trans rfl; have pE : MB.cell? ⟨cA, 5, none⟩ = some (.int .i64 wA) := (blk_cell aA.out 5).trans rfl; have qE : MB.cell? ⟨cA, 6, none⟩ = some (.int .i64 xA) := (blk_cell aA.out 6).trans rfl; have rE : MB.cell? ⟨cA, 7, none⟩ = some (.int .i64 yA) := (blk_cell aA.out 7).trans rfl; have sE : MB.cell? ⟨cA, 8, none⟩ = some (.int .i64 zA) := (blk_cell aA.out 8).trans rfl; have tE : MB.cell? ⟨cA, 9, none⟩ = some (.bool qA) := (blk_cell aA.out 9).trans rfl; have nC := blk_frozen aA.out 0; have oC := blk_frozen aA.out 1; have pC := blk_frozen aA.out 2; have qC := blk_frozen aA.out 3; have uE := blk_frozen aA.out 4; have vE := blk_frozen aA.out 5; have wE := blk_frozen aA.out 6; have xE := blk_frozen aA.out 7; have yE := blk_frozen aA.out 8; have zE := blk_frozen aA.out 9; have rC : MB.cell? ⟨eA, 0, none⟩ = some (.int .i64 MA) := (blk_cell bA.out 0).trans rfl; have sC : MB.cell? ⟨eA, 1, none⟩ = some (.int .i64 mA) := (blk_cell bA.out 1).trans rfl; have tC : MB.cell? ⟨eA, 2, none⟩ = some (.int .i64 NA) := (blk_cell bA.out 2).trans rfl; have uC : MB.cell? ⟨eA, 3, none⟩ = some (.int .i64 OA) := (blk_cell bA.out 3).trans rfl; have AE : MB.cell? ⟨eA, 4, none⟩ = some (.int .i64 PA) := (blk_cell bA.out 4).trans rfl; have BE : MB.cell? ⟨eA, 5, none⟩ = some (.int .i64 QA) := (blk_cell bA.out 5).trans rfl; have CE : MB.cell? ⟨eA, 6, none⟩ = some (.int .i64 RA) := (blk_cell bA.out 6).trans rfl; have DE : MB.cell? ⟨eA, 7, none⟩ = some (.int .i64 SA) := (blk_cell bA.out 7).trans rfl; have EE : MB.cell? ⟨eA, 8, none⟩ = some (.int .i64 TA) := (blk_cell bA.out 8).trans rfl; have FE : MB.cell? ⟨eA, 9, none⟩ = some (.bool EA) := (blk_cell bA.out 9).trans rfl; have vC := blk_frozen bA.out 0; have wC := blk_frozen bA.out 1; have xC := blk_frozen bA.out 2; have yC := blk_frozen bA.out 3; have GE := blk_frozen bA.out 4; have HE := blk_frozen bA.out 5; have IE := blk_frozen bA.out 6; have JE := blk_frozen bA.out 7; have KE := blk_frozen bA.out 8; have LE := blk_frozen bA.out 9))
           go_ret
           exact ⟨q2_9, q2_8⟩
          ·rw [if_neg c12] at H
           have jE : (qA != EA) = false := by simpa using c12
           (try (have kE : decide (qA = EA) = true := by simpa using c12))
           (try (have lE : (qA == EA) = true := by simpa using c12))
           clear c12
           obtain rfl := Option.some.inj H
           go_enter Try.func92, Try.ntmps92
           go_wp2_with (first | ((with_reducible refine gate_dst (N := 2) rfl ?_); refine box_event ?hg (N := 2) ?hd (cs := #[.int .i64 sA, .int .i64 jA, .int .i64 tA, .int .i64 uA, .int .i64 vA, .int .i64 wA, .int .i64 xA, .int .i64 yA, .int .i64 zA, .bool qA]) (t := 75) ?hr ?_; (case hd => rfl); (case hg => rfl); (case hr => first | (go_simp; done) | (go_simp; rfl)); intro cA hg XN hbox hb; have nA := Aside0.mk (below_step q2_0 hb); have oA := Aside0.mk (hbox); have pA := Aside0.mk ((q2_11 : w.heap.size ≤ cA)); have rA := Aside0.mk ((q2_11 : w.heap.size ≤ cA)); clear HB; have HB := nA; have aA := oA; have DB := pA; have BB := rA; clear nA oA pA rA; clear hb hbox hg) | ((with_reducible refine gate_dst (N := 3) rfl ?_); refine box_event ?hg (N := 3) ?hd (cs := #[.int .i64 MA, .int .i64 mA, .int .i64 NA, .int .i64 OA, .int .i64 PA, .int .i64 QA, .int .i64 RA, .int .i64 SA, .int .i64 TA, .bool EA]) (t := 75) ?hr ?_; (case hd => rfl); (case hg => rfl); (case hr => first | (go_simp; done) | (go_simp; rfl)); intro eA hg FB hbox hb; have nA := Aside0.mk (blk_below (g := cA) (o := .cells #[.int .i64 sA, .int .i64 jA, .int .i64 tA, .int .i64 uA, .int .i64 vA, .int .i64 wA, .int .i64 xA, .int .i64 yA, .int .i64 zA, .bool qA] 75 (0, 0)) q2_2 hb); have oA := Aside0.mk (below_step q2_1 hb); have pA := Aside0.mk (hbox); have rA := Aside0.mk ((q2_17 : w.heap.size ≤ eA)); have wB := Aside0.mk ((q2_17 : w.heap.size ≤ eA)); have xB := Aside0.mk ((q2_4 : cA ≠ eA)); have yB := Aside0.mk ((q2_5 : eA ≠ cA)); clear aA; clear HB; have aA := nA; have HB := oA; have bA := pA; have EB := rA; have CB := wB; have kA := xB; have lA := yB; clear nA oA pA rA wB xB yB; clear hb hbox hg; have mE := kA.out; have nE := lA.out; have zC : FB.cell? ⟨cA, 0, none⟩ = some (.int .i64 sA) := (blk_cell aA.out 0).trans rfl; have AC : FB.cell? ⟨cA, 1, none⟩ = some (.int .i64 jA) := (blk_cell aA.out 1).trans rfl; have BC : FB.cell? ⟨cA, 2, none⟩ = some (.int .i64 tA) := (blk_cell aA.out 2).trans rfl; have CC : FB.cell? ⟨cA, 3, none⟩ = some (.int .i64 uA) := (blk_cell aA.out 3).trans rfl; have ME : FB.cell? ⟨cA, 4, none⟩ = some (.int .i64 vA) := (blk_cell aA.out 4).trans rfl; have NE : FB.cell? ⟨cA, 5, none⟩ = some (.int .i64 wA) := (blk_cell aA.out 5).trans rfl; have OE : FB.cell? ⟨cA, 6, none⟩ = some (.int .i64 xA) := (blk_cell aA.out 6).trans rfl; have PE : FB.cell? ⟨cA, 7, none⟩ = some (.int .i64 yA) := (blk_cell aA.out 7).trans rfl; have QE : FB.cell? ⟨cA, 8, none⟩ = some (.int .i64 zA) := (blk_cell aA.out 8).trans rfl; have RE : FB.cell? ⟨cA, 9, none⟩ = some (.bool qA) := (blk_cell aA.out 9).trans rfl; have DC := blk_frozen aA.out 0; have EC := blk_frozen aA.out 1; have FC := blk_frozen aA.out 2; have GC := blk_frozen aA.out 3; have SE := blk_frozen aA.out 4; have TE := blk_frozen aA.out 5; have UE := blk_frozen aA.out 6; have VE := blk_frozen aA.out 7; have WE := blk_frozen aA.out 8; have XE := blk_frozen aA.out 9; have HC : FB.cell? ⟨eA, 0, none⟩ = some (.int .i64 MA) := (blk_cell bA.out 0).trans rfl; have IC : FB.cell? ⟨eA, 1, none⟩ = some (.int .i64 mA) := (blk_cell bA.out 1).trans rfl; have JC : FB.cell? ⟨eA, 2, none⟩ = some (.int .i64 NA) := (blk_cell bA.out 2).trans rfl; have KC : FB.cell? ⟨eA, 3, none⟩ = some (.int .i64 OA) := (blk_cell bA.out 3).trans rfl; have YE : FB.cell? ⟨eA, 4, none⟩ = some (.int .i64 PA) := (blk_cell bA.out 4).trans rfl; have ZE : FB.cell? ⟨eA, 5, none⟩ = some (.int .i64 QA) := (blk_cell bA.out 5).trans rfl; have aF : FB.cell? ⟨eA, 6, none⟩ = some (.int .i64 RA) := (blk_cell bA.out 6).trans rfl; have bF : FB.cell? ⟨eA, 7, none⟩ = some (.int .i64 SA) := (blk_cell bA.out 7).trans rfl; have cF : FB.cell? ⟨eA, 8, none⟩ = some (.int .i64 TA) := (blk_cell bA.out 8).trans rfl; have dF : FB.cell? ⟨eA, 9, none⟩ = some (.bool EA) := (blk_cell bA.out 9).trans rfl; have LC := blk_frozen bA.out 0; have MC := blk_frozen bA.out 1; have NC := blk_frozen bA.out 2; have OC := blk_frozen bA.out 3; have eF := blk_frozen bA.out 4; have fF := blk_frozen bA.out 5; have gF := blk_frozen bA.out 6; have hF := blk_frozen bA.out 7; have iF := blk_frozen bA.out 8; have jF := blk_frozen bA.out 9))
           go_ret
           exact ⟨q2_9, q2_8⟩
         ·rw [if_neg c11] at H
          have hE : (zA == TA) = false := beq_eq_false_iff_ne.mpr c11
          have iE : (zA != TA) = true := bne_iff_ne.mpr c11
          obtain rfl := Option.some.inj H
          go_enter Try.func92, Try.ntmps92
          go_wp2_with (first | ((with_reducible refine gate_dst (N := 2) rfl ?_); refine box_event ?hg (N := 2) ?hd (cs := #[.int .i64 sA, .int .i64 jA, .int .i64 tA, .int .i64 uA, .int .i64 vA, .int .i64 wA, .int .i64 xA, .int .i64 yA, .int .i64 zA, .bool qA]) (t := 75) ?hr ?_; (case hd => rfl); (case hg => rfl); (case hr => first | (go_simp; done) | (go_simp; rfl)); intro cA hg PC hbox hb; have nA := Aside0.mk (below_step q2_0 hb); have oA := Aside0.mk (hbox); have pA := Aside0.mk ((q2_11 : w.heap.size ≤ cA)); have rA := Aside0.mk ((q2_11 : w.heap.size ≤ cA)); clear HB; have HB := nA; have aA := oA; have DB := pA; have BB := rA; clear nA oA pA rA; clear hb hbox hg) | ((with_reducible refine gate_dst (N := 3) rfl ?_); refine box_event ?hg (N := 3) ?hd (cs := #[.int .i64 MA, .int .i64 mA, .int .i64 NA, .int .i64 OA, .int .i64 PA, .int .i64 QA, .int .i64 RA, .int .i64 SA, .int .i64 TA, .bool EA]) (t := 75) ?hr ?_; (case hd => rfl); (case hg => rfl); (case hr => first | (go_simp; done) | (go_simp; rfl)); intro eA hg NB hbox hb; have nA := Aside0.mk (blk_below (g := cA) (o := .cells #[.int .i64 sA, .int .i64 jA, .int .i64 tA, .int .i64 uA, .int .i64 vA, .int .i64 wA, .int .i64 xA, .int .i64 yA, .int .i64 zA, .bool qA] 75 (0, 0)) q2_2 hb); have oA := Aside0.mk (below_step q2_1 hb); have pA := Aside0.mk (hbox); have rA := Aside0.mk ((q2_17 : w.heap.size ≤ eA)); have wB := Aside0.mk ((q2_17 : w.heap.size ≤ eA)); have xB := Aside0.mk ((q2_4 : cA ≠ eA)); have yB := Aside0.mk ((q2_5 : eA ≠ cA)); clear aA; clear HB; have aA := nA; have HB := oA; have bA := pA; have EB := rA; have CB := wB; have kA := xB; have lA := yB; clear nA oA pA rA wB xB yB; clear hb hbox hg; have xN := kA.out; have yN := lA.out; have kF : NB.cell? ⟨cA, 0, none⟩ = some (.int .i64 sA) := (blk_cell aA.out 0).trans rfl; have lF : NB.cell? ⟨cA, 1, none⟩ = some (.int .i64 jA) := (blk_cell aA.out 1).trans rfl; have mF : NB.cell? ⟨cA, 2, none⟩ = some (.int .i64 tA) := (blk_cell aA.out 2).trans rfl; have nF : NB.cell? ⟨cA, 3, none⟩ = some (.int .i64 uA) := (blk_cell aA.out 3).trans rfl; have oF : NB.cell? ⟨cA, 4, none⟩ = some (.int .i64 vA) := (blk_cell aA.out 4).trans rfl; have pF : NB.cell? ⟨cA, 5, none⟩ = some (.int .i64 wA) := (blk_cell aA.out 5).trans rfl; have qF : NB.cell? ⟨cA, 6, none⟩ = some (.int .i64 xA) := (blk_cell aA.out 6).trans rfl; have rF : NB.cell? ⟨cA, 7, none⟩ = some (.int .i64 yA) := (blk_cell aA.out 7).trans rfl; have sF : NB.cell? ⟨cA, 8, none⟩ = some (.int .i64 zA) := (blk_cell aA.out 8).trans rfl; have tF : NB.cell? ⟨cA, 9, none⟩ = some (.bool qA) := (blk_cell aA.out 9).trans rfl; have uF := blk_frozen aA.out 0; have vF := blk_frozen aA.out 1; have wF := blk_frozen aA.out 2; have xF := blk_frozen aA.out 3; have yF := blk_frozen aA.out 4; have zF := blk_frozen aA.out 5; have AF := blk_frozen aA.out 6; have BF := blk_frozen aA.out 7; have CF := blk_frozen aA.out 8; have DF := blk_frozen aA.out 9; have EF : NB.cell? ⟨eA, 0, none⟩ = some (.int .i64 MA) := (blk_cell bA.out 0).trans rfl; have FF : NB.cell? ⟨eA, 1, none⟩ = some (.int .i64 mA) := (blk_cell bA.out 1).trans rfl; have GF : NB.cell? ⟨eA, 2, none⟩ = some (.int .i64 NA) := (blk_cell bA.out 2).trans rfl; have HF : NB.cell? ⟨eA, 3, none⟩ = some (.int .i64 OA) := (blk_cell bA.out 3).trans rfl; have IF : NB.cell? ⟨eA, 4, none⟩ = some (.int .i64 PA) := (blk_cell bA.out 4).trans rfl; have JF : NB.cell? ⟨eA, 5, none⟩ = some (.int .i64 QA) := (blk_cell bA.out 5).trans rfl; have KF : NB.cell? ⟨eA, 6, none⟩ = some (.int .i64 RA) := (blk_cell bA.out 6).trans rfl; have LF : NB.cell? ⟨eA, 7, none⟩ = some (.int .i64 SA) := (blk_cell bA.out 7).trans rfl; have MF : NB.cell? ⟨eA, 8, none⟩ = some (.int .i64 TA) := (blk_cell bA.out 8).trans rfl; have NF : NB.cell? ⟨eA, 9, none⟩ = some (.bool EA) := (blk_cell bA.out 9).trans rfl; have OF := blk_frozen bA.out 0; have PF := blk_frozen bA.out 1; have QF := blk_frozen bA.out 2; have RF := blk_frozen bA.out 3; have SF := blk_frozen bA.out 4; have TF := blk_frozen bA.out 5; have UF := blk_frozen bA.out 6; have VF := blk_frozen bA.out 7; have WF := blk_frozen bA.out 8; have XF := blk_frozen bA.out 9))
          go_ret
          exact ⟨q2_9, q2_8⟩
        ·rw [if_neg c10] at H
         have fE : (yA == SA) = false := beq_eq_false_iff_ne.mpr c10
         have gE : (yA != SA) = true := bne_iff_ne.mpr c10
         obtain rfl := Option.some.inj H
         go_enter Try.func92, Try.ntmps92
         go_wp2_with (first | ((with_reducible refine gate_dst (N := 2) rfl ?_); refine box_event ?hg (N := 2) ?hd (cs := #[.int .i64 sA, .int .i64 jA, .int .i64 tA, .int .i64 uA, .int .i64 vA, .int .i64 wA, .int .i64 xA, .int .i64 yA, .int .i64 zA, .bool qA]) (t := 75) ?hr ?_; (case hd => rfl); (case hg => rfl); (case hr => first | (go_simp; done) | (go_simp; rfl)); intro cA hg aO hbox hb; have nA := Aside0.mk (below_step q2_0 hb); have oA := Aside0.mk (hbox); have pA := Aside0.mk ((q2_11 : w.heap.size ≤ cA)); have rA := Aside0.mk ((q2_11 : w.heap.size ≤ cA)); clear HB; have HB := nA; have aA := oA; have DB := pA; have BB := rA; clear nA oA pA rA; clear hb hbox hg) | ((with_reducible refine gate_dst (N := 3) rfl ?_); refine box_event ?hg (N := 3) ?hd (cs := #[.int .i64 MA, .int .i64 mA, .int .i64 NA, .int .i64 OA, .int .i64 PA, .int .i64 QA, .int .i64 RA, .int .i64 SA, .int .i64 TA, .bool EA]) (t := 75) ?hr ?_; (case hd => rfl); (case hg => rfl); (case hr => first | (go_simp; done) | (go_simp; rfl)); intro eA hg OB hbox hb; have nA := Aside0.mk (blk_below (g := cA) (o := .cells #[.int .i64 sA, .int .i64 jA, .int .i64 tA, .int .i64 uA, .int .i64 vA, .int .i64 wA, .int .i64 xA, .int .i64 yA, .int .i64 zA, .bool qA] 75 (0, 0)) q2_2 hb); have oA := Aside0.mk (below_step q2_1 hb); have pA := Aside0.mk (hbox); have rA := Aside0.mk ((q2_17 : w.heap.size ≤ eA)); have wB := Aside0.mk ((q2_17 : w.heap.size ≤ eA)); have xB := Aside0.mk ((q2_4 : cA ≠ eA)); have yB := Aside0.mk ((q2_5 : eA ≠ cA)); clear aA; clear HB; have aA := nA; have HB := oA; have bA := pA; have EB := rA; have CB := wB; have kA := xB; have lA := yB; clear nA oA pA rA wB xB yB; clear hb hbox hg; have zN := kA.out; have AN := lA.out; have YF : OB.cell? ⟨cA, 0, none⟩ = some (.int .i64 sA) := (blk_cell aA.out 0).trans rfl; have ZF : OB.cell? ⟨cA, 1, none⟩ = some (.int .i64 jA) := (blk_cell aA.out 1).trans rfl; have aG : OB.cell? ⟨cA, 2, none⟩ = some (.int .i64 tA) := (blk_cell aA.out 2).trans rfl; have bG : OB.cell? ⟨cA, 3, none⟩ = some (.int .i64 uA) := (blk_cell aA.out 3).trans rfl; have cG : OB.cell? ⟨cA, 4, none⟩ = some (.int .i64 vA) := (blk_cell aA.out 4).trans rfl; have dG : OB.cell? ⟨cA, 5, none⟩ = some (.int .i64 wA) := (blk_cell aA.out 5).trans rfl; have eG : OB.cell? ⟨cA, 6, none⟩ = some (.int .i64 xA) := (blk_cell aA.out 6).trans rfl; have fG : OB.cell? ⟨cA, 7, none⟩ = some (.int .i64 yA) := (blk_cell aA.out 7).trans rfl; have gG : OB.cell? ⟨cA, 8, none⟩ = some (.int .i64 zA) := (blk_cell aA.out 8).trans rfl; have hG : OB.cell? ⟨cA, 9, none⟩ = some (.bool qA) := (blk_cell aA.out 9).trans rfl; have iG := blk_frozen aA.out 0; have jG := blk_frozen aA.out 1; have kG := blk_frozen aA.out 2; have lG := blk_frozen aA.out 3; have mG := blk_frozen aA.out 4; have nG := blk_frozen aA.out 5; have oG := blk_frozen aA.out 6; have pG := blk_frozen aA.out 7; have qG := blk_frozen aA.out 8; have rG := blk_frozen aA.out 9; have QC : OB.cell? ⟨eA, 0, none⟩ = some (.int .i64 MA) := (blk_cell bA.out 0).trans rfl; have RC : OB.cell? ⟨eA, 1, none⟩ = some (.int .i64 mA) := (blk_cell bA.out 1).trans rfl; have SC : OB.cell? ⟨eA, 2, none⟩ = some (.int .i64 NA) := (blk_cell bA.out 2).trans rfl; have TC : OB.cell? ⟨eA, 3, none⟩ = some (.int .i64 OA) := (blk_cell bA.out 3).trans rfl; have sG : OB.cell? ⟨eA, 4, none⟩ = some (.int .i64 PA) := (blk_cell bA.out 4).trans rfl; have tG : OB.cell? ⟨eA, 5, none⟩ = some (.int .i64 QA) := (blk_cell bA.out 5).trans rfl; have uG : OB.cell? ⟨eA, 6, none⟩ = some (.int .i64 RA) := (blk_cell bA.out 6).trans rfl; have vG : OB.cell? ⟨eA, 7, none⟩ = some (.int .i64 SA) := (blk_cell bA.out 7).trans rfl; have wG : OB.cell? ⟨eA, 8, none⟩ = some (.int .i64 TA) := (blk_cell bA.out 8).trans rfl; have xG : OB.cell? ⟨eA, 9, none⟩ = some (.bool EA) := (blk_cell bA.out 9).trans rfl; have UC := blk_frozen bA.out 0; have VC := blk_frozen bA.out 1; have WC := blk_frozen bA.out 2; have XC := blk_frozen bA.out 3; have yG := blk_frozen bA.out 4; have zG := blk_frozen bA.out 5; have AG := blk_frozen bA.out 6; have BG := blk_frozen bA.out 7; have CG := blk_frozen bA.out 8; have DG := blk_frozen bA.out 9))
         go_ret
         exact ⟨q2_9, q2_8⟩
       ·rw [if_neg c9] at H
        have iN : (xA == RA) = false := beq_eq_false_iff_ne.mpr c9
        have jN : (xA != RA) = true := bne_iff_ne.mpr c9
        obtain rfl := Option.some.inj H
        go_enter Try.func92, Try.ntmps92
        go_wp2_with (first | ((with_reducible refine gate_dst (N := 2) rfl ?_); refine box_event ?hg (N := 2) ?hd (cs := #[.int .i64 sA, .int .i64 jA, .int .i64 tA, .int .i64 uA, .int .i64 vA, .int .i64 wA, .int .i64 xA, .int .i64 yA, .int .i64 zA, .bool qA]) (t := 75) ?hr ?_; (case hd => rfl); (case hg => rfl); (case hr => first | (go_simp; done) | (go_simp; rfl)); intro cA hg bO hbox hb; have nA := Aside0.mk (below_step q2_0 hb); have oA := Aside0.mk (hbox); have pA := Aside0.mk ((q2_11 : w.heap.size ≤ cA)); have rA := Aside0.mk ((q2_11 : w.heap.size ≤ cA)); clear HB; have HB := nA; have aA := oA; have DB := pA; have BB := rA; clear nA oA pA rA; clear hb hbox hg) | ((with_reducible refine gate_dst (N := 3) rfl ?_); refine box_event ?hg (N := 3) ?hd (cs := #[.int .i64 MA, .int .i64 mA, .int .i64 NA, .int .i64 OA, .int .i64 PA, .int .i64 QA, .int .i64 RA, .int .i64 SA, .int .i64 TA, .bool EA]) (t := 75) ?hr ?_; (case hd => rfl); (case hg => rfl); (case hr => first | (go_simp; done) | (go_simp; rfl)); intro eA hg JB hbox hb; have nA := Aside0.mk (blk_below (g := cA) (o := .cells #[.int .i64 sA, .int .i64 jA, .int .i64 tA, .int .i64 uA, .int .i64 vA, .int .i64 wA, .int .i64 xA, .int .i64 yA, .int .i64 zA, .bool qA] 75 (0, 0)) q2_2 hb); have oA := Aside0.mk (below_step q2_1 hb); have pA := Aside0.mk (hbox); have rA := Aside0.mk ((q2_17 : w.heap.size ≤ eA)); have wB := Aside0.mk ((q2_17 : w.heap.size ≤ eA)); have xB := Aside0.mk ((q2_4 : cA ≠ eA)); have yB := Aside0.mk ((q2_5 : eA ≠ cA)); clear aA; clear HB; have aA := nA; have HB := oA; have bA := pA; have EB := rA; have CB := wB; have kA := xB; have lA := yB; clear nA oA pA rA wB xB yB; clear hb hbox hg; have BN := kA.out; have CN := lA.out; have EG : JB.cell? ⟨cA, 0, none⟩ = some (.int .i64 sA) := (blk_cell aA.out 0).trans rfl; have FG : JB.cell? ⟨cA, 1, none⟩ = some (.int .i64 jA) := (blk_cell aA.out 1).trans rfl; have GG : JB.cell? ⟨cA, 2, none⟩ = some (.int .i64 tA) := (blk_cell aA.out 2).trans rfl; have HG : JB.cell? ⟨cA, 3, none⟩ = some (.int .i64 uA) := (blk_cell aA.out 3).trans rfl; have IG : JB.cell? ⟨cA, 4, none⟩ = some (.int .i64 vA) := (blk_cell aA.out 4).trans rfl; have JG : JB.cell? ⟨cA, 5, none⟩ = some (.int .i64 wA) := (blk_cell aA.out 5).trans rfl; have KG : JB.cell? ⟨cA, 6, none⟩ = some (.int .i64 xA) := (blk_cell aA.out 6).trans rfl; have LG : JB.cell? ⟨cA, 7, none⟩ = some (.int .i64 yA) := (blk_cell aA.out 7).trans rfl; have MG : JB.cell? ⟨cA, 8, none⟩ = some (.int .i64 zA) := (blk_cell aA.out 8).trans rfl; have NG : JB.cell? ⟨cA, 9, none⟩ = some (.bool qA) := (blk_cell aA.out 9).trans rfl; have OG := blk_frozen aA.out 0; have PG := blk_frozen aA.out 1; have QG := blk_frozen aA.out 2; have RG := blk_frozen aA.out 3; have SG := blk_frozen aA.out 4; have TG := blk_frozen aA.out 5; have UG := blk_frozen aA.out 6; have VG := blk_frozen aA.out 7; have WG := blk_frozen aA.out 8; have XG := blk_frozen aA.out 9; have YC : JB.cell? ⟨eA, 0, none⟩ = some (.int .i64 MA) := (blk_cell bA.out 0).trans rfl; have ZC : JB.cell? ⟨eA, 1, none⟩ = some (.int .i64 mA) := (blk_cell bA.out 1).trans rfl; have aD : JB.cell? ⟨eA, 2, none⟩ = some (.int .i64 NA) := (blk_cell bA.out 2).trans rfl; have bD : JB.cell? ⟨eA, 3, none⟩ = some (.int .i64 OA) := (blk_cell bA.out 3).trans rfl; have YG : JB.cell? ⟨eA, 4, none⟩ = some (.int .i64 PA) := (blk_cell bA.out 4).trans rfl; have ZG : JB.cell? ⟨eA, 5, none⟩ = some (.int .i64 QA) := (blk_cell bA.out 5).trans rfl; have aH : JB.cell? ⟨eA, 6, none⟩ = some (.int .i64 RA) := (blk_cell bA.out 6).trans rfl; have bH : JB.cell? ⟨eA, 7, none⟩ = some (.int .i64 SA) := (blk_cell bA.out 7).trans rfl; have cH : JB.cell? ⟨eA, 8, none⟩ = some (.int .i64 TA) := (blk_cell bA.out 8).trans rfl; have dH : JB.cell? ⟨eA, 9, none⟩ = some (.bool EA) := (blk_cell bA.out 9).trans rfl; have cD := blk_frozen bA.out 0; have dD := blk_frozen bA.out 1; have eD := blk_frozen bA.out 2; have fD := blk_frozen bA.out 3; have eH := blk_frozen bA.out 4; have fH := blk_frozen bA.out 5; have gH := blk_frozen bA.out 6; have hH := blk_frozen bA.out 7; have iH := blk_frozen bA.out 8; have jH := blk_frozen bA.out 9))
        go_ret
        exact ⟨q2_9, q2_8⟩
      ·rw [if_neg c8] at H
       have fN : (wA == QA) = false := beq_eq_false_iff_ne.mpr c8
       have gN : (wA != QA) = true := bne_iff_ne.mpr c8
       obtain rfl := Option.some.inj H
       go_enter Try.func92, Try.ntmps92
       go_wp2_with (first | ((with_reducible refine gate_dst (N := 2) rfl ?_); refine box_event ?hg (N := 2) ?hd (cs := #[.int .i64 sA, .int .i64 jA, .int .i64 tA, .int .i64 uA, .int .i64 vA, .int .i64 wA, .int .i64 xA, .int .i64 yA, .int .i64 zA, .bool qA]) (t := 75) ?hr ?_; (case hd => rfl); (case hg => rfl); (case hr => first | (go_simp; done) | (go_simp; rfl)); intro cA hg cO hbox hb; have nA := Aside0.mk (below_step q2_0 hb); have oA := Aside0.mk (hbox); have pA := Aside0.mk ((q2_11 : w.heap.size ≤ cA)); have rA := Aside0.mk ((q2_11 : w.heap.size ≤ cA)); clear HB; have HB := nA; have aA := oA; have DB := pA; have BB := rA; clear nA oA pA rA; clear hb hbox hg) | ((with_reducible refine gate_dst (N := 3) rfl ?_); refine box_event ?hg (N := 3) ?hd (cs := #[.int .i64 MA, .int .i64 mA, .int .i64 NA, .int .i64 OA, .int .i64 PA, .int .i64 QA, .int .i64 RA, .int .i64 SA, .int .i64 TA, .bool EA]) (t := 75) ?hr ?_; (case hd => rfl); (case hg => rfl); (case hr => first | (go_simp; done) | (go_simp; rfl)); intro eA hg GB hbox hb; have nA := Aside0.mk (blk_below (g := cA) (o := .cells #[.int .i64 sA, .int .i64 jA, .int .i64 tA, .int .i64 uA, .int .i64 vA, .int .i64 wA, .int .i64 xA, .int .i64 yA, .int .i64 zA, .bool qA] 75 (0, 0)) q2_2 hb); have oA := Aside0.mk (below_step q2_1 hb); have pA := Aside0.mk (hbox); have rA := Aside0.mk ((q2_17 : w.heap.size ≤ eA)); have wB := Aside0.mk ((q2_17 : w.heap.size ≤ eA)); have xB := Aside0.mk ((q2_4 : cA ≠ eA)); have yB := Aside0.mk ((q2_5 : eA ≠ cA)); clear aA; clear HB; have aA := nA; have HB := oA; have bA := pA; have EB := rA; have CB := wB; have kA := xB; have lA := yB; clear nA oA pA rA wB xB yB; clear hb hbox hg; have DN := kA.out; have EN := lA.out; have gD : GB.cell? ⟨cA, 0, none⟩ = some (.int .i64 sA) := (blk_cell aA.out 0).trans rfl; have hD : GB.cell? ⟨cA, 1, none⟩ = some (.int .i64 jA) := (blk_cell aA.out 1).trans rfl; have iD : GB.cell? ⟨cA, 2, none⟩ = some (.int .i64 tA) := (blk_cell aA.out 2).trans rfl; have jD : GB.cell? ⟨cA, 3, none⟩ = some (.int .i64 uA) := (blk_cell aA.out 3).trans rfl; have kH : GB.cell? ⟨cA, 4, none⟩ = some (.int .i64 vA) := (blk_cell aA.out 4).trans rfl; have lH : GB.cell? ⟨cA, 5, none⟩ = some (.int .i64 wA) := (blk_cell aA.out 5).trans rfl; have mH : GB.cell? ⟨cA, 6, none⟩ = some (.int .i64 xA) := (blk_cell aA.out 6).trans rfl; have nH : GB.cell? ⟨cA, 7, none⟩ = some (.int .i64 yA) := (blk_cell aA.out 7).trans rfl; have oH : GB.cell? ⟨cA, 8, none⟩ = some (.int .i64 zA) := (blk_cell aA.out 8).trans rfl; have pH : GB.cell? ⟨cA, 9, none⟩ = some (.bool qA) := (blk_cell aA.out 9).trans rfl; have kD := blk_frozen aA.out 0; have lD := blk_frozen aA.out 1; have mD := blk_frozen aA.out 2; have nD := blk_frozen aA.out 3; have qH := blk_frozen aA.out 4; have rH := blk_frozen aA.out 5; have sH := blk_frozen aA.out 6; have tH := blk_frozen aA.out 7; have uH := blk_frozen aA.out 8; have vH := blk_frozen aA.out 9; have wH : GB.cell? ⟨eA, 0, none⟩ = some (.int .i64 MA) := (blk_cell bA.out 0).trans rfl; have xH : GB.cell? ⟨eA, 1, none⟩ = some (.int .i64 mA) := (blk_cell bA.out 1).trans rfl; have yH : GB.cell? ⟨eA, 2, none⟩ = some (.int .i64 NA) := (blk_cell bA.out 2).trans rfl; have zH : GB.cell? ⟨eA, 3, none⟩ = some (.int .i64 OA) := (blk_cell bA.out 3).trans rfl; have AH : GB.cell? ⟨eA, 4, none⟩ = some (.int .i64 PA) := (blk_cell bA.out 4).trans rfl; have BH : GB.cell? ⟨eA, 5, none⟩ = some (.int .i64 QA) := (blk_cell bA.out 5).trans rfl; have CH : GB.cell? ⟨eA, 6, none⟩ = some (.int .i64 RA) := (blk_cell bA.out 6).trans rfl; have DH : GB.cell? ⟨eA, 7, none⟩ = some (.int .i64 SA) := (blk_cell bA.out 7).trans rfl; have EH : GB.cell? ⟨eA, 8, none⟩ = some (.int .i64 TA) := (blk_cell bA.out 8).trans rfl; have FH : GB.cell? ⟨eA, 9, none⟩ = some (.bool EA) := (blk_cell bA.out 9).trans rfl; have GH := blk_frozen bA.out 0; have HH := blk_frozen bA.out 1; have IH := blk_frozen bA.out 2; have JH := blk_frozen bA.out 3; have KH := blk_frozen bA.out 4; have LH := blk_frozen bA.out 5; have MH := blk_frozen bA.out 6; have NH := blk_frozen bA.out 7; have OH := blk_frozen bA.out 8; have PH := blk_frozen bA.out 9))
       go_ret
       exact ⟨q2_9, q2_8⟩
     ·rw [if_neg c7] at H
      have UD : (vA == PA) = false := beq_eq_false_iff_ne.mpr c7
      have VD : (vA != PA) = true := bne_iff_ne.mpr c7
      obtain rfl := Option.some.inj H
      go_enter Try.func92, Try.ntmps92
      go_wp2_with (first | ((with_reducible refine gate_dst (N := 2) rfl ?_); refine box_event ?hg (N := 2) ?hd (cs := #[.int .i64 sA, .int .i64 jA, .int .i64 tA, .int .i64 uA, .int .i64 vA, .int .i64 wA, .int .i64 xA, .int .i64 yA, .int .i64 zA, .bool qA]) (t := 75) ?hr ?_; (case hd => rfl); (case hg => rfl); (case hr => first | (go_simp; done) | (go_simp; rfl)); intro cA hg oD hbox hb; have nA := Aside0.mk (below_step q2_0 hb); have oA := Aside0.mk (hbox); have pA := Aside0.mk ((q2_11 : w.heap.size ≤ cA)); have rA := Aside0.mk ((q2_11 : w.heap.size ≤ cA)); clear HB; have HB := nA; have aA := oA; have DB := pA; have BB := rA; clear nA oA pA rA; clear hb hbox hg) | ((with_reducible refine gate_dst (N := 3) rfl ?_); refine box_event ?hg (N := 3) ?hd (cs := #[.int .i64 MA, .int .i64 mA, .int .i64 NA, .int .i64 OA, .int .i64 PA, .int .i64 QA, .int .i64 RA, .int .i64 SA, .int .i64 TA, .bool EA]) (t := 75) ?hr ?_; (case hd => rfl); (case hg => rfl); (case hr => first | (go_simp; done) | (go_simp; rfl)); intro eA hg PB hbox hb; have nA := Aside0.mk (blk_below (g := cA) (o := .cells #[.int .i64 sA, .int .i64 jA, .int .i64 tA, .int .i64 uA, .int .i64 vA, .int .i64 wA, .int .i64 xA, .int .i64 yA, .int .i64 zA, .bool qA] 75 (0, 0)) q2_2 hb); have oA := Aside0.mk (below_step q2_1 hb); have pA := Aside0.mk (hbox); have rA := Aside0.mk ((q2_17 : w.heap.size ≤ eA)); have wB := Aside0.mk ((q2_17 : w.heap.size ≤ eA)); have xB := Aside0.mk ((q2_4 : cA ≠ eA)); have yB := Aside0.mk ((q2_5 : eA ≠ cA)); clear aA; clear HB; have aA := nA; have HB := oA; have bA := pA; have EB := rA; have CB := wB; have kA := xB; have lA := yB; clear nA oA pA rA wB xB yB; clear hb hbox hg; have FN := kA.out; have GN := lA.out; have pD : PB.cell? ⟨cA, 0, none⟩ = some (.int .i64 sA) := (blk_cell aA.out 0).trans rfl; have qD : PB.cell? ⟨cA, 1, none⟩ = some (.int .i64 jA) := (blk_cell aA.out 1).trans rfl; have rD : PB.cell? ⟨cA, 2, none⟩ = some (.int .i64 tA) := (blk_cell aA.out 2).trans rfl; have sD : PB.cell? ⟨cA, 3, none⟩ = some (.int .i64 uA) := (blk_cell aA.out 3).trans rfl; have QH : PB.cell? ⟨cA, 4, none⟩ = some (.int .i64 vA) := (blk_cell aA.out 4).trans rfl; have RH : PB.cell? ⟨cA, 5, none⟩ = some (.int .i64 wA) := (blk_cell aA.out 5).trans rfl; have SH : PB.cell? ⟨cA, 6, none⟩ = some (.int .i64 xA) := (blk_cell aA.out 6).trans rfl; have TH : PB.cell? ⟨cA, 7, none⟩ = some (.int .i64 yA) := (blk_cell aA.out 7).trans rfl; have UH : PB.cell? ⟨cA, 8, none⟩ = some (.int .i64 zA) := (blk_cell aA.out 8).trans rfl; have VH : PB.cell? ⟨cA, 9, none⟩ = some (.bool qA) := (blk_cell aA.out 9).trans rfl; have tD := blk_frozen aA.out 0; have uD := blk_frozen aA.out 1; have vD := blk_frozen aA.out 2; have wD := blk_frozen aA.out 3; have WH := blk_frozen aA.out 4; have XH := blk_frozen aA.out 5; have YH := blk_frozen aA.out 6; have ZH := blk_frozen aA.out 7; have aI := blk_frozen aA.out 8; have bI := blk_frozen aA.out 9; have cI : PB.cell? ⟨eA, 0, none⟩ = some (.int .i64 MA) := (blk_cell bA.out 0).trans rfl; have dI : PB.cell? ⟨eA, 1, none⟩ = some (.int .i64 mA) := (blk_cell bA.out 1).trans rfl; have eI : PB.cell? ⟨eA, 2, none⟩ = some (.int .i64 NA) := (blk_cell bA.out 2).trans rfl; have fI : PB.cell? ⟨eA, 3, none⟩ = some (.int .i64 OA) := (blk_cell bA.out 3).trans rfl; have gI : PB.cell? ⟨eA, 4, none⟩ = some (.int .i64 PA) := (blk_cell bA.out 4).trans rfl; have hI : PB.cell? ⟨eA, 5, none⟩ = some (.int .i64 QA) := (blk_cell bA.out 5).trans rfl; have iI : PB.cell? ⟨eA, 6, none⟩ = some (.int .i64 RA) := (blk_cell bA.out 6).trans rfl; have jI : PB.cell? ⟨eA, 7, none⟩ = some (.int .i64 SA) := (blk_cell bA.out 7).trans rfl; have kI : PB.cell? ⟨eA, 8, none⟩ = some (.int .i64 TA) := (blk_cell bA.out 8).trans rfl; have lI : PB.cell? ⟨eA, 9, none⟩ = some (.bool EA) := (blk_cell bA.out 9).trans rfl; have mI := blk_frozen bA.out 0; have nI := blk_frozen bA.out 1; have oI := blk_frozen bA.out 2; have pI := blk_frozen bA.out 3; have qI := blk_frozen bA.out 4; have rI := blk_frozen bA.out 5; have sI := blk_frozen bA.out 6; have tI := blk_frozen bA.out 7; have uI := blk_frozen bA.out 8; have vI := blk_frozen bA.out 9))
      go_ret
      exact ⟨q2_9, q2_8⟩
    ·rw [if_neg c6] at H
     have TD : (uA == OA) = false := beq_eq_false_iff_ne.mpr c6
     have eN : (uA != OA) = true := bne_iff_ne.mpr c6
     obtain rfl := Option.some.inj H
     go_enter Try.func92, Try.ntmps92
     go_wp2_with (first | ((with_reducible refine gate_dst (N := 2) rfl ?_); refine box_event ?hg (N := 2) ?hd (cs := #[.int .i64 sA, .int .i64 jA, .int .i64 tA, .int .i64 uA, .int .i64 vA, .int .i64 wA, .int .i64 xA, .int .i64 yA, .int .i64 zA, .bool qA]) (t := 75) ?hr ?_; (case hd => rfl); (case hg => rfl); (case hr => first | (go_simp; done) | (go_simp; rfl)); intro cA hg dO hbox hb; have nA := Aside0.mk (below_step q2_0 hb); have oA := Aside0.mk (hbox); have pA := Aside0.mk ((q2_11 : w.heap.size ≤ cA)); have rA := Aside0.mk ((q2_11 : w.heap.size ≤ cA)); clear HB; have HB := nA; have aA := oA; have DB := pA; have BB := rA; clear nA oA pA rA; clear hb hbox hg) | ((with_reducible refine gate_dst (N := 3) rfl ?_); refine box_event ?hg (N := 3) ?hd (cs := #[.int .i64 MA, .int .i64 mA, .int .i64 NA, .int .i64 OA, .int .i64 PA, .int .i64 QA, .int .i64 RA, .int .i64 SA, .int .i64 TA, .bool EA]) (t := 75) ?hr ?_; (case hd => rfl); (case hg => rfl); (case hr => first | (go_simp; done) | (go_simp; rfl)); intro eA hg QB hbox hb; have nA := Aside0.mk (blk_below (g := cA) (o := .cells #[.int .i64 sA, .int .i64 jA, .int .i64 tA, .int .i64 uA, .int .i64 vA, .int .i64 wA, .int .i64 xA, .int .i64 yA, .int .i64 zA, .bool qA] 75 (0, 0)) q2_2 hb); have oA := Aside0.mk (below_step q2_1 hb); have pA := Aside0.mk (hbox); have rA := Aside0.mk ((q2_17 : w.heap.size ≤ eA)); have wB := Aside0.mk ((q2_17 : w.heap.size ≤ eA)); have xB := Aside0.mk ((q2_4 : cA ≠ eA)); have yB := Aside0.mk ((q2_5 : eA ≠ cA)); clear aA; clear HB; have aA := nA; have HB := oA; have bA := pA; have EB := rA; have CB := wB; have kA := xB; have lA := yB; clear nA oA pA rA wB xB yB; clear hb hbox hg; have HN := kA.out; have IN := lA.out; have wI : QB.cell? ⟨cA, 0, none⟩ = some (.int .i64 sA) := (blk_cell aA.out 0).trans rfl; have xI : QB.cell? ⟨cA, 1, none⟩ = some (.int .i64 jA) := (blk_cell aA.out 1).trans rfl; have yI : QB.cell? ⟨cA, 2, none⟩ = some (.int .i64 tA) := (blk_cell aA.out 2).trans rfl; have zI : QB.cell? ⟨cA, 3, none⟩ = some (.int .i64 uA) := (blk_cell aA.out 3).trans rfl; have AI : QB.cell? ⟨cA, 4, none⟩ = some (.int .i64 vA) := (blk_cell aA.out 4).trans rfl; have BI : QB.cell? ⟨cA, 5, none⟩ = some (.int .i64 wA) := (blk_cell aA.out 5).trans rfl; have CI : QB.cell? ⟨cA, 6, none⟩ = some (.int .i64 xA) := (blk_cell aA.out 6).trans rfl; have DI : QB.cell? ⟨cA, 7, none⟩ = some (.int .i64 yA) := (blk_cell aA.out 7).trans rfl; have EI : QB.cell? ⟨cA, 8, none⟩ = some (.int .i64 zA) := (blk_cell aA.out 8).trans rfl; have FI : QB.cell? ⟨cA, 9, none⟩ = some (.bool qA) := (blk_cell aA.out 9).trans rfl; have GI := blk_frozen aA.out 0; have HI := blk_frozen aA.out 1; have II := blk_frozen aA.out 2; have JI := blk_frozen aA.out 3; have KI := blk_frozen aA.out 4; have LI := blk_frozen aA.out 5; have MI := blk_frozen aA.out 6; have NI := blk_frozen aA.out 7; have OI := blk_frozen aA.out 8; have PI := blk_frozen aA.out 9; have QI : QB.cell? ⟨eA, 0, none⟩ = some (.int .i64 MA) := (blk_cell bA.out 0).trans rfl; have RI : QB.cell? ⟨eA, 1, none⟩ = some (.int .i64 mA) := (blk_cell bA.out 1).trans rfl; have SI : QB.cell? ⟨eA, 2, none⟩ = some (.int .i64 NA) := (blk_cell bA.out 2).trans rfl; have TI : QB.cell? ⟨eA, 3, none⟩ = some (.int .i64 OA) := (blk_cell bA.out 3).trans rfl; have UI : QB.cell? ⟨eA, 4, none⟩ = some (.int .i64 PA) := (blk_cell bA.out 4).trans rfl; have VI : QB.cell? ⟨eA, 5, none⟩ = some (.int .i64 QA) := (blk_cell bA.out 5).trans rfl; have WI : QB.cell? ⟨eA, 6, none⟩ = some (.int .i64 RA) := (blk_cell bA.out 6).trans rfl; have XI : QB.cell? ⟨eA, 7, none⟩ = some (.int .i64 SA) := (blk_cell bA.out 7).trans rfl; have YI : QB.cell? ⟨eA, 8, none⟩ = some (.int .i64 TA) := (blk_cell bA.out 8).trans rfl; have ZI : QB.cell? ⟨eA, 9, none⟩ = some (.bool EA) := (blk_cell bA.out 9).trans rfl; have aJ := blk_frozen bA.out 0; have bJ := blk_frozen bA.out 1; have cJ := blk_frozen bA.out 2; have dJ := blk_frozen bA.out 3; have eJ := blk_frozen bA.out 4; have fJ := blk_frozen bA.out 5; have gJ := blk_frozen bA.out 6; have hJ := blk_frozen bA.out 7; have iJ := blk_frozen bA.out 8; have jJ := blk_frozen bA.out 9))
     go_ret
     exact ⟨q2_9, q2_8⟩
   ·rw [if_neg c5] at H
    have eC : (tA == NA) = false := beq_eq_false_iff_ne.mpr c5
    have YD : (tA != NA) = true := bne_iff_ne.mpr c5
    obtain rfl := Option.some.inj H
    go_enter Try.func92, Try.ntmps92
    go_wp2_with (first | ((with_reducible refine gate_dst (N := 2) rfl ?_); refine box_event ?hg (N := 2) ?hd (cs := #[.int .i64 sA, .int .i64 jA, .int .i64 tA, .int .i64 uA, .int .i64 vA, .int .i64 wA, .int .i64 xA, .int .i64 yA, .int .i64 zA, .bool qA]) (t := 75) ?hr ?_; (case hd => rfl); (case hg => rfl); (case hr => first | (go_simp; done) | (go_simp; rfl)); intro cA hg eO hbox hb; have nA := Aside0.mk (below_step q2_0 hb); have oA := Aside0.mk (hbox); have pA := Aside0.mk ((q2_11 : w.heap.size ≤ cA)); have rA := Aside0.mk ((q2_11 : w.heap.size ≤ cA)); clear HB; have HB := nA; have aA := oA; have DB := pA; have BB := rA; clear nA oA pA rA; clear hb hbox hg) | ((with_reducible refine gate_dst (N := 3) rfl ?_); refine box_event ?hg (N := 3) ?hd (cs := #[.int .i64 MA, .int .i64 mA, .int .i64 NA, .int .i64 OA, .int .i64 PA, .int .i64 QA, .int .i64 RA, .int .i64 SA, .int .i64 TA, .bool EA]) (t := 75) ?hr ?_; (case hd => rfl); (case hg => rfl); (case hr => first | (go_simp; done) | (go_simp; rfl)); intro eA hg RB hbox hb; have nA := Aside0.mk (blk_below (g := cA) (o := .cells #[.int .i64 sA, .int .i64 jA, .int .i64 tA, .int .i64 uA, .int .i64 vA, .int .i64 wA, .int .i64 xA, .int .i64 yA, .int .i64 zA, .bool qA] 75 (0, 0)) q2_2 hb); have oA := Aside0.mk (below_step q2_1 hb); have pA := Aside0.mk (hbox); have rA := Aside0.mk ((q2_17 : w.heap.size ≤ eA)); have wB := Aside0.mk ((q2_17 : w.heap.size ≤ eA)); have xB := Aside0.mk ((q2_4 : cA ≠ eA)); have yB := Aside0.mk ((q2_5 : eA ≠ cA)); clear aA; clear HB; have aA := nA; have HB := oA; have bA := pA; have EB := rA; have CB := wB; have kA := xB; have lA := yB; clear nA oA pA rA wB xB yB; clear hb hbox hg; have JN := kA.out; have KN := lA.out; have kJ : RB.cell? ⟨cA, 0, none⟩ = some (.int .i64 sA) := (blk_cell aA.out 0).trans rfl; have lJ : RB.cell? ⟨cA, 1, none⟩ = some (.int .i64 jA) := (blk_cell aA.out 1).trans rfl; have mJ : RB.cell? ⟨cA, 2, none⟩ = some (.int .i64 tA) := (blk_cell aA.out 2).trans rfl; have nJ : RB.cell? ⟨cA, 3, none⟩ = some (.int .i64 uA) := (blk_cell aA.out 3).trans rfl; have oJ : RB.cell? ⟨cA, 4, none⟩ = some (.int .i64 vA) := (blk_cell aA.out 4).trans rfl; have pJ : RB.cell? ⟨cA, 5, none⟩ = some (.int .i64 wA) := (blk_cell aA.out 5).trans rfl; have qJ : RB.cell? ⟨cA, 6, none⟩ = some (.int .i64 xA) := (blk_cell aA.out 6).trans rfl; have rJ : RB.cell? ⟨cA, 7, none⟩ = some (.int .i64 yA) := (blk_cell aA.out 7).trans rfl; have sJ : RB.cell? ⟨cA, 8, none⟩ = some (.int .i64 zA) := (blk_cell aA.out 8).trans rfl; have tJ : RB.cell? ⟨cA, 9, none⟩ = some (.bool qA) := (blk_cell aA.out 9).trans rfl; have uJ := blk_frozen aA.out 0; have vJ := blk_frozen aA.out 1; have wJ := blk_frozen aA.out 2; have xJ := blk_frozen aA.out 3; have yJ := blk_frozen aA.out 4; have zJ := blk_frozen aA.out 5; have AJ := blk_frozen aA.out 6; have BJ := blk_frozen aA.out 7; have CJ := blk_frozen aA.out 8; have DJ := blk_frozen aA.out 9; have EJ : RB.cell? ⟨eA, 0, none⟩ = some (.int .i64 MA) := (blk_cell bA.out 0).trans rfl; have FJ : RB.cell? ⟨eA, 1, none⟩ = some (.int .i64 mA) := (blk_cell bA.out 1).trans rfl; have GJ : RB.cell? ⟨eA, 2, none⟩ = some (.int .i64 NA) := (blk_cell bA.out 2).trans rfl; have HJ : RB.cell? ⟨eA, 3, none⟩ = some (.int .i64 OA) := (blk_cell bA.out 3).trans rfl; have IJ : RB.cell? ⟨eA, 4, none⟩ = some (.int .i64 PA) := (blk_cell bA.out 4).trans rfl; have JJ : RB.cell? ⟨eA, 5, none⟩ = some (.int .i64 QA) := (blk_cell bA.out 5).trans rfl; have KJ : RB.cell? ⟨eA, 6, none⟩ = some (.int .i64 RA) := (blk_cell bA.out 6).trans rfl; have LJ : RB.cell? ⟨eA, 7, none⟩ = some (.int .i64 SA) := (blk_cell bA.out 7).trans rfl; have MJ : RB.cell? ⟨eA, 8, none⟩ = some (.int .i64 TA) := (blk_cell bA.out 8).trans rfl; have NJ : RB.cell? ⟨eA, 9, none⟩ = some (.bool EA) := (blk_cell bA.out 9).trans rfl; have OJ := blk_frozen bA.out 0; have PJ := blk_frozen bA.out 1; have QJ := blk_frozen bA.out 2; have RJ := blk_frozen bA.out 3; have SJ := blk_frozen bA.out 4; have TJ := blk_frozen bA.out 5; have UJ := blk_frozen bA.out 6; have VJ := blk_frozen bA.out 7; have WJ := blk_frozen bA.out 8; have XJ := blk_frozen bA.out 9))
    go_ret
    exact ⟨q2_9, q2_8⟩
  ·rw [if_neg c4] at H
   have dC : (jA == mA) = false := beq_eq_false_iff_ne.mpr c4
   have dN : (jA != mA) = true := bne_iff_ne.mpr c4
   obtain rfl := Option.some.inj H
   go_enter Try.func92, Try.ntmps92
   go_wp2_with (first | ((with_reducible refine gate_dst (N := 2) rfl ?_); refine box_event ?hg (N := 2) ?hd (cs := #[.int .i64 sA, .int .i64 jA, .int .i64 tA, .int .i64 uA, .int .i64 vA, .int .i64 wA, .int .i64 xA, .int .i64 yA, .int .i64 zA, .bool qA]) (t := 75) ?hr ?_; (case hd => rfl); (case hg => rfl); (case hr => first | (go_simp; done) | (go_simp; rfl)); intro cA hg fO hbox hb; have nA := Aside0.mk (below_step q2_0 hb); have oA := Aside0.mk (hbox); have pA := Aside0.mk ((q2_11 : w.heap.size ≤ cA)); have rA := Aside0.mk ((q2_11 : w.heap.size ≤ cA)); clear HB; have HB := nA; have aA := oA; have DB := pA; have BB := rA; clear nA oA pA rA; clear hb hbox hg) | ((with_reducible refine gate_dst (N := 3) rfl ?_); refine box_event ?hg (N := 3) ?hd (cs := #[.int .i64 MA, .int .i64 mA, .int .i64 NA, .int .i64 OA, .int .i64 PA, .int .i64 QA, .int .i64 RA, .int .i64 SA, .int .i64 TA, .bool EA]) (t := 75) ?hr ?_; (case hd => rfl); (case hg => rfl); (case hr => first | (go_simp; done) | (go_simp; rfl)); intro eA hg SB hbox hb; have nA := Aside0.mk (blk_below (g := cA) (o := .cells #[.int .i64 sA, .int .i64 jA, .int .i64 tA, .int .i64 uA, .int .i64 vA, .int .i64 wA, .int .i64 xA, .int .i64 yA, .int .i64 zA, .bool qA] 75 (0, 0)) q2_2 hb); have oA := Aside0.mk (below_step q2_1 hb); have pA := Aside0.mk (hbox); have rA := Aside0.mk ((q2_17 : w.heap.size ≤ eA)); have wB := Aside0.mk ((q2_17 : w.heap.size ≤ eA)); have xB := Aside0.mk ((q2_4 : cA ≠ eA)); have yB := Aside0.mk ((q2_5 : eA ≠ cA)); clear aA; clear HB; have aA := nA; have HB := oA; have bA := pA; have EB := rA; have CB := wB; have kA := xB; have lA := yB; clear nA oA pA rA wB xB yB; clear hb hbox hg; have LN := kA.out; have MN := lA.out; have YJ : SB.cell? ⟨cA, 0, none⟩ = some (.int .i64 sA) := (blk_cell aA.out 0).trans rfl; have ZJ : SB.cell? ⟨cA, 1, none⟩ = some (.int .i64 jA) := (blk_cell aA.out 1).trans rfl; have aK : SB.cell? ⟨cA, 2, none⟩ = some (.int .i64 tA) := (blk_cell aA.out 2).trans rfl; have bK : SB.cell? ⟨cA, 3, none⟩ = some (.int .i64 uA) := (blk_cell aA.out 3).trans rfl; have cK : SB.cell? ⟨cA, 4, none⟩ = some (.int .i64 vA) := (blk_cell aA.out 4).trans rfl; have dK : SB.cell? ⟨cA, 5, none⟩ = some (.int .i64 wA) := (blk_cell aA.out 5).trans rfl; have eK : SB.cell? ⟨cA, 6, none⟩ = some (.int .i64 xA) := (blk_cell aA.out 6).trans rfl; have fK : SB.cell? ⟨cA, 7, none⟩ = some (.int .i64 yA) := (blk_cell aA.out 7).trans rfl; have gK : SB.cell? ⟨cA, 8, none⟩ = some (.int .i64 zA) := (blk_cell aA.out 8).trans rfl; have iK : SB.cell? ⟨cA, 9, none⟩ = some (.bool qA) := (blk_cell aA.out 9).trans rfl; have jK := blk_frozen aA.out 0; have kK := blk_frozen aA.out 1; have lK := blk_frozen aA.out 2; have mK := blk_frozen aA.out 3; have nK := blk_frozen aA.out 4; have oK := blk_frozen aA.out 5; have pK := blk_frozen aA.out 6; have qK := blk_frozen aA.out 7; have rK := blk_frozen aA.out 8; have sK := blk_frozen aA.out 9; have tK : SB.cell? ⟨eA, 0, none⟩ = some (.int .i64 MA) := (blk_cell bA.out 0).trans rfl; have uK : SB.cell? ⟨eA, 1, none⟩ = some (.int .i64 mA) := (blk_cell bA.out 1).trans rfl; have vK : SB.cell? ⟨eA, 2, none⟩ = some (.int .i64 NA) := (blk_cell bA.out 2).trans rfl; have wK : SB.cell? ⟨eA, 3, none⟩ = some (.int .i64 OA) := (blk_cell bA.out 3).trans rfl; have xK : SB.cell? ⟨eA, 4, none⟩ = some (.int .i64 PA) := (blk_cell bA.out 4).trans rfl; have yK : SB.cell? ⟨eA, 5, none⟩ = some (.int .i64 QA) := (blk_cell bA.out 5).trans rfl; have zK : SB.cell? ⟨eA, 6, none⟩ = some (.int .i64 RA) := (blk_cell bA.out 6).trans rfl; have AK : SB.cell? ⟨eA, 7, none⟩ = some (.int .i64 SA) := (blk_cell bA.out 7).trans rfl; have BK : SB.cell? ⟨eA, 8, none⟩ = some (.int .i64 TA) := (blk_cell bA.out 8).trans rfl; have CK : SB.cell? ⟨eA, 9, none⟩ = some (.bool EA) := (blk_cell bA.out 9).trans rfl; have DK := blk_frozen bA.out 0; have EK := blk_frozen bA.out 1; have FK := blk_frozen bA.out 2; have GK := blk_frozen bA.out 3; have HK := blk_frozen bA.out 4; have IK := blk_frozen bA.out 5; have JK := blk_frozen bA.out 6; have KK := blk_frozen bA.out 7; have LK := blk_frozen bA.out 8; have MK := blk_frozen bA.out 9))
   go_ret
   exact ⟨q2_9, q2_8⟩
 ·rw [if_neg c3] at H
  have XB : (sA == MA) = false := beq_eq_false_iff_ne.mpr c3
  have YB : (sA != MA) = true := bne_iff_ne.mpr c3
  obtain rfl := Option.some.inj H
  go_enter Try.func92, Try.ntmps92
  go_wp2_with (first | ((with_reducible refine gate_dst (N := 2) rfl ?_); refine box_event ?hg (N := 2) ?hd (cs := #[.int .i64 sA, .int .i64 jA, .int .i64 tA, .int .i64 uA, .int .i64 vA, .int .i64 wA, .int .i64 xA, .int .i64 yA, .int .i64 zA, .bool qA]) (t := 75) ?hr ?_; (case hd => rfl); (case hg => rfl); (case hr => first | (go_simp; done) | (go_simp; rfl)); intro cA hg gO hbox hb; have nA := Aside0.mk (below_step q2_0 hb); have oA := Aside0.mk (hbox); have pA := Aside0.mk ((q2_11 : w.heap.size ≤ cA)); have rA := Aside0.mk ((q2_11 : w.heap.size ≤ cA)); clear HB; have HB := nA; have aA := oA; have DB := pA; have BB := rA; clear nA oA pA rA; clear hb hbox hg) | ((with_reducible refine gate_dst (N := 3) rfl ?_); refine box_event ?hg (N := 3) ?hd (cs := #[.int .i64 MA, .int .i64 mA, .int .i64 NA, .int .i64 OA, .int .i64 PA, .int .i64 QA, .int .i64 RA, .int .i64 SA, .int .i64 TA, .bool EA]) (t := 75) ?hr ?_; (case hd => rfl); (case hg => rfl); (case hr => first | (go_simp; done) | (go_simp; rfl)); intro eA hg TB hbox hb; have nA := Aside0.mk (blk_below (g := cA) (o := .cells #[.int .i64 sA, .int .i64 jA, .int .i64 tA, .int .i64 uA, .int .i64 vA, .int .i64 wA, .int .i64 xA, .int .i64 yA, .int .i64 zA, .bool qA] 75 (0, 0)) q2_2 hb); have oA := Aside0.mk (below_step q2_1 hb); have pA := Aside0.mk (hbox); have rA := Aside0.mk ((q2_17 : w.heap.size ≤ eA)); have wB := Aside0.mk ((q2_17 : w.heap.size ≤ eA)); have xB := Aside0.mk ((q2_4 : cA ≠ eA)); have yB := Aside0.mk ((q2_5 : eA ≠ cA)); clear aA; clear HB; have aA := nA; have HB := oA; have bA := pA; have EB := rA; have CB := wB; have kA := xB; have lA := yB; clear nA oA pA rA wB xB yB; clear hb hbox hg; have NN := kA.out; have ON := lA.out; have NK : TB.cell? ⟨cA, 0, none⟩ = some (.int .i64 sA) := (blk_cell aA.out 0).trans rfl; have OK : TB.cell? ⟨cA, 1, none⟩ = some (.int .i64 jA) := (blk_cell aA.out 1).trans rfl; have PK : TB.cell? ⟨cA, 2, none⟩ = some (.int .i64 tA) := (blk_cell aA.out 2).trans rfl; have QK : TB.cell? ⟨cA, 3, none⟩ = some (.int .i64 uA) := (blk_cell aA.out 3).trans rfl; have RK : TB.cell? ⟨cA, 4, none⟩ = some (.int .i64 vA) := (blk_cell aA.out 4).trans rfl; have SK : TB.cell? ⟨cA, 5, none⟩ = some (.int .i64 wA) := (blk_cell aA.out 5).trans rfl; have TK : TB.cell? ⟨cA, 6, none⟩ = some (.int .i64 xA) := (blk_cell aA.out 6).trans rfl; have UK : TB.cell? ⟨cA, 7, none⟩ = some (.int .i64 yA) := (blk_cell aA.out 7).trans rfl; have VK : TB.cell? ⟨cA, 8, none⟩ = some (.int .i64 zA) := (blk_cell aA.out 8).trans rfl; have WK : TB.cell? ⟨cA, 9, none⟩ = some (.bool qA) := (blk_cell aA.out 9).trans rfl; have XK := blk_frozen aA.out 0; have YK := blk_frozen aA.out 1; have ZK := blk_frozen aA.out 2; have aL := blk_frozen aA.out 3; have bL := blk_frozen aA.out 4; have cL := blk_frozen aA.out 5; have dL := blk_frozen aA.out 6; have eL := blk_frozen aA.out 7; have fL := blk_frozen aA.out 8; have gL := blk_frozen aA.out 9; have hL : TB.cell? ⟨eA, 0, none⟩ = some (.int .i64 MA) := (blk_cell bA.out 0).trans rfl; have iL : TB.cell? ⟨eA, 1, none⟩ = some (.int .i64 mA) := (blk_cell bA.out 1).trans rfl; have jL : TB.cell? ⟨eA, 2, none⟩ = some (.int .i64 NA) := (blk_cell bA.out 2).trans rfl; have kL : TB.cell? ⟨eA, 3, none⟩ = some (.int .i64 OA) := (blk_cell bA.out 3).trans rfl; have lL : TB.cell? ⟨eA, 4, none⟩ = some (.int .i64 PA) := (blk_cell bA.out 4).trans rfl; have mL : TB.cell? ⟨eA, 5, none⟩ = some (.int .i64 QA) := (blk_cell bA.out 5).trans rfl; have nL : TB.cell? ⟨eA, 6, none⟩ = some (.int .i64 RA) := (blk_cell bA.out 6).trans rfl; have oL : TB.cell? ⟨eA, 7, none⟩ = some (.int .i64 SA) := (blk_cell bA.out 7).trans rfl; have pL : TB.cell? ⟨eA, 8, none⟩ = some (.int .i64 TA) := (blk_cell bA.out 8).trans rfl; have qL : TB.cell? ⟨eA, 9, none⟩ = some (.bool EA) := (blk_cell bA.out 9).trans rfl; have rL := blk_frozen bA.out 0; have sL := blk_frozen bA.out 1; have tL := blk_frozen bA.out 2; have uL := blk_frozen bA.out 3; have vL := blk_frozen bA.out 4; have wL := blk_frozen bA.out 5; have xL := blk_frozen bA.out 6; have yL := blk_frozen bA.out 7; have zL := blk_frozen bA.out 8; have AL := blk_frozen bA.out 9))
  go_ret
  exact ⟨q2_9, q2_8⟩

/-! ### laws_eqCallS: function 67 -/
def laws_eqCallS.l0 : Nat → List (S75) → List (S75) → Int → Option (Bool)
 | 0, _, _, _ => none
 | k + 1, x0, x1, x5 => if x5 < (x0.length : Int) then (if 0 ≤ x5 then (if x5 < (x1.length : Int) then ((laws_eqCall.f ((rd_T75 x0 x5).f0) ((rd_T75 x0 x5).f1) ((rd_T75 x0 x5).f2) ((rd_T75 x0 x5).f3) ((rd_T75 x0 x5).f4) ((rd_T75 x0 x5).f5) ((rd_T75 x0 x5).f6) ((rd_T75 x0 x5).f7) ((rd_T75 x0 x5).f8) ((rd_T75 x0 x5).f9) ((rd_T75 x1 x5).f0) ((rd_T75 x1 x5).f1) ((rd_T75 x1 x5).f2) ((rd_T75 x1 x5).f3) ((rd_T75 x1 x5).f4) ((rd_T75 x1 x5).f5) ((rd_T75 x1 x5).f6) ((rd_T75 x1 x5).f7) ((rd_T75 x1 x5).f8) ((rd_T75 x1 x5).f9)).bind fun xD => (if xD = true then (laws_eqCallS.l0 k x0 x1 (wrap64 (x5 + 1))) else (some false))) else (none)) else (none)) else (some true)
def laws_eqCallS.f (k : Nat) (l0 : List (S75)) (l1 : List (S75)) : Option (Bool) := if (l0.length : Int) = (l1.length : Int) then (laws_eqCallS.l0 k l0 l1 0) else (some false)
theorem laws_eqCallS.mono_l : ∀ k, (∀ y0 y1 y2, LeO (laws_eqCallS.l0 k y0 y1 y2) (laws_eqCallS.l0 (k + 1) y0 y1 y2))
 | 0 => fun _ _ _ r h => by simp [laws_eqCallS.l0] at h
 | k + 1 => by
  have ih0 := laws_eqCallS.mono_l k
  ·intro y0 y1 y2
   unfold laws_eqCallS.l0
   repeat' first
   | (with_reducible exact ih0 _ _ _)
   | (with_reducible exact LeO.refl _)
   | (with_reducible exact LeO.none _)
   | (with_reducible refine LeO.ite ?_ ?_)
   | (with_reducible refine LeO.bind ?_ (fun _ => ?_))
   | exact ih0 _ _ _
   | exact LeO.none _
   | refine LeO.ite ?_ ?_
   | refine LeO.bind ?_ (fun _ => ?_)
theorem laws_eqCallS.mono : ∀ a0 a1 k, LeO (laws_eqCallS.f k a0 a1) (laws_eqCallS.f (k + 1) a0 a1) := by
 intro a0 a1 k
 have ih0 := laws_eqCallS.mono_l k
 unfold laws_eqCallS.f
 repeat' first
   | (with_reducible exact ih0 _ _ _)
   | (with_reducible exact LeO.refl _)
   | (with_reducible exact LeO.none _)
   | (with_reducible refine LeO.ite ?_ ?_)
   | (with_reducible refine LeO.bind ?_ (fun _ => ?_))
   | exact ih0 _ _ _
   | exact LeO.none _
   | refine LeO.ite ?_ ?_
   | refine LeO.bind ?_ (fun _ => ?_)
def laws_eqCallS.T6 : Bool × List (List Nat × List Nat) := (true, [([], []), ([], []), ([0, 1], [0, 1]), ([2], [2]), ([], []), ([], []), ([4, 5], [4, 5]), ([6], [6]), ([3, 7], [3, 7]), ([8], [8])])
def laws_eqCallS.B6 : List Nat := [0, 0, 3, 7, 0, 0, 48, 112, 255, 511]
theorem laws_eqCallS.tab6 : rtab .any (opsOf Try.f67 6) = laws_eqCallS.T6 := by kernel_rfl
theorem laws_eqCallS.bits6 : waitsOk laws_eqCallS.T6.2 laws_eqCallS.B6 = true := by kernel_rfl
set_option maxHeartbeats 8000000 in
set_option maxRecDepth 100000 in
theorem laws_eqCallS.calls (k : Nat) (A0 : Option Addr) (c0 : Nat) (l0 : List (S75)) (A1 : Option Addr) (c1 : Nat) (l1 : List (S75)) (r : Bool) (w : World) (hr0 : Kd.C k75 w A0 l0.length l0) (hc0 : l0.length ≤ c0) (hr1 : Kd.C k75 w A1 l1.length l1) (hc1 : l1.length ≤ c1) (h : laws_eqCallS.f k l0 l1 = some r) :
  Calls Try.prog 67 #[.slice A0 l0.length c0, .slice A1 l1.length c1] w fun e w' => e = .returned (.bool r) ∧ Below w.heap.size w w' := by
 have hu75 := Try.underlying75
 have HR0 := Aside0.mk hr0
 clear hr0 hc0
 have HR1 := Aside0.mk hr1
 clear hr1 hc1
 have HB := Aside0.mk (Below.refl w.heap.size w)
 have H : (if (l0.length : Int) = (l1.length : Int) then (laws_eqCallS.l0 k l0 l1 0) else (some false)) = some r := h
 clear h
 by_cases c3 : (l0.length : Int) = (l1.length : Int)
 ·rw [if_pos c3] at H
  have XB : ((l0.length : Int) == (l1.length : Int)) = true := beq_iff_eq.mpr c3
  have YB : ((l0.length : Int) != (l1.length : Int)) = false := bne_eq_false_iff_eq.mpr c3
  have cC : (l0.length == l1.length) = true := by first | simpa using c3 | (simp at c3 ⊢; omega)
  clear c3
  have H' := Aside0.mk H
  clear H
  go_enter Try.func67, Try.ntmps67
  go_wp2
  go_loopg [5] k (fun kq v5 w' => ∃ (dA : Int), v5 = .int .i64 dA ∧ Aside0 (laws_eqCallS.l0 kq l0 l1 dA = some r) ∧ Aside0 (kq ≤ k) ∧ Aside0 (Below w.heap.size w w'))
  case atStart => exact ⟨(0), q2_22, H', ⟨Nat.le_refl _⟩, ⟨q2_0⟩⟩
  case round =>
   clear H'
   (try clear c1); (try clear p2); (try clear c3); (try clear XB); (try clear YB); (try clear cC)
   obtain ⟨dA, rfl, HA, HK1, HB⟩ := hrel
   cases gk with
   | zero => exact absurd HA.out (by simp [laws_eqCallS.l0])
   | succ k1 =>
    have H := HA.out
    clear HA
    simp only [laws_eqCallS.l0] at H
    by_cases c4 : dA < (l0.length : Int)
    ·rw [if_pos c4] at H
     have dC : decide (dA < (l0.length : Int)) = true := decide_eq_true c4
     clear c4
     by_cases c5 : 0 ≤ dA
     ·rw [if_pos c5] at H
      have eC : decide (0 ≤ dA) = true := decide_eq_true c5
      clear c5
      by_cases c6 : dA < (l1.length : Int)
      ·rw [if_pos c6] at H
       have TD : decide (dA < (l1.length : Int)) = true := decide_eq_true c6
       clear c6
       replace H := Option.bind_eq_some_iff.mp H
       obtain ⟨xD, A70, H⟩ := H
       replace H : (if xD = true then (laws_eqCallS.l0 k1 l0 l1 (wrap64 (dA + 1))) else (some false)) = some r := H
       have A7 := Aside0.mk A70
       clear A70
       by_cases c8 : xD = true
       ·subst c8
        have H1 : (laws_eqCallS.l0 k1 l0 l1 (wrap64 (dA + 1))) = some r := by rw [if_pos rfl] at H; exact H
        clear H
        have H := H1
        clear H1
        have H' := Aside0.mk H
        clear H
        try go_wp2
        have nA := Aside0.mk (below_drew1 HB.out)
        clear HB
        have HB := nA
        clear nA
        have p105 : 0 ≤ (dA : Int) := of_decide_eq_true q2_14
        have q105 : dA < (l0.length : Int) := of_decide_eq_true q2_14
        obtain ⟨ad105, ZD, YA, ZA, aB, bB, cB, dB, eB, fB, gB, hB⟩ := at_T75 HR0.out dA p105 q105
        have hw105_9 := hB
        have hw105_8 := gB
        have hw105_7 := fB
        have hw105_6 := eB
        have hw105_5 := dB
        have hw105_4 := cB
        have hw105_3 := bB
        have hw105_2 := aB
        have hw105_1 := ZA
        have hw105_0 := YA
        cases ZD
        replace YA := (HB.out.cell (World.block_lt_of_cell? w _ YA)).trans YA
        replace ZA := (HB.out.cell (World.block_lt_of_cell? w _ ZA)).trans ZA
        replace aB := (HB.out.cell (World.block_lt_of_cell? w _ aB)).trans aB
        replace bB := (HB.out.cell (World.block_lt_of_cell? w _ bB)).trans bB
        replace cB := (HB.out.cell (World.block_lt_of_cell? w _ cB)).trans cB
        replace dB := (HB.out.cell (World.block_lt_of_cell? w _ dB)).trans dB
        replace eB := (HB.out.cell (World.block_lt_of_cell? w _ eB)).trans eB
        replace fB := (HB.out.cell (World.block_lt_of_cell? w _ fB)).trans fB
        replace gB := (HB.out.cell (World.block_lt_of_cell? w _ gB)).trans gB
        replace hB := (HB.out.cell (World.block_lt_of_cell? w _ hB)).trans hB
        replace p105 := eq_true p105
        replace q105 := eq_true q105
        have p106 : 0 ≤ (dA : Int) := of_decide_eq_true q2_14
        have q106 : dA < (l1.length : Int) := of_decide_eq_true q2_14
        obtain ⟨ad106, aE, iB, jB, kB, lB, mB, nB, oB, pB, qB, rB⟩ := at_T75 HR1.out dA p106 q106
        have hw106_9 := rB
        have hw106_8 := qB
        have hw106_7 := pB
        have hw106_6 := oB
        have hw106_5 := nB
        have hw106_4 := mB
        have hw106_3 := lB
        have hw106_2 := kB
        have hw106_1 := jB
        have hw106_0 := iB
        cases aE
        replace iB := (HB.out.cell (World.block_lt_of_cell? w _ iB)).trans iB
        replace jB := (HB.out.cell (World.block_lt_of_cell? w _ jB)).trans jB
        replace kB := (HB.out.cell (World.block_lt_of_cell? w _ kB)).trans kB
        replace lB := (HB.out.cell (World.block_lt_of_cell? w _ lB)).trans lB
        replace mB := (HB.out.cell (World.block_lt_of_cell? w _ mB)).trans mB
        replace nB := (HB.out.cell (World.block_lt_of_cell? w _ nB)).trans nB
        replace oB := (HB.out.cell (World.block_lt_of_cell? w _ oB)).trans oB
        replace pB := (HB.out.cell (World.block_lt_of_cell? w _ pB)).trans pB
        replace qB := (HB.out.cell (World.block_lt_of_cell? w _ qB)).trans qB
        replace rB := (HB.out.cell (World.block_lt_of_cell? w _ rB)).trans rB
        replace p106 := eq_true p106
        replace q106 := eq_true q106
        refine start_ (n := 10) (S := fun w' => w'.cell? (ad105.add ((dA).toNat * 10)) = some (.int .i64 ((rd_T75 l0 dA).f0)) ∧ w'.cell? ⟨(ad105.add ((dA).toNat * 10)).block, (ad105.add ((dA).toNat * 10)).off + 1, none⟩ = some (.int .i64 ((rd_T75 l0 dA).f1)) ∧ w'.cell? ⟨(ad105.add ((dA).toNat * 10)).block, (ad105.add ((dA).toNat * 10)).off + 2, none⟩ = some (.int .i64 ((rd_T75 l0 dA).f2)) ∧ w'.cell? ⟨(ad105.add ((dA).toNat * 10)).block, (ad105.add ((dA).toNat * 10)).off + 3, none⟩ = some (.int .i64 ((rd_T75 l0 dA).f3)) ∧ w'.cell? ⟨(ad105.add ((dA).toNat * 10)).block, (ad105.add ((dA).toNat * 10)).off + 4, none⟩ = some (.int .i64 ((rd_T75 l0 dA).f4)) ∧ w'.cell? ⟨(ad105.add ((dA).toNat * 10)).block, (ad105.add ((dA).toNat * 10)).off + 5, none⟩ = some (.int .i64 ((rd_T75 l0 dA).f5)) ∧ w'.cell? ⟨(ad105.add ((dA).toNat * 10)).block, (ad105.add ((dA).toNat * 10)).off + 6, none⟩ = some (.int .i64 ((rd_T75 l0 dA).f6)) ∧ w'.cell? ⟨(ad105.add ((dA).toNat * 10)).block, (ad105.add ((dA).toNat * 10)).off + 7, none⟩ = some (.int .i64 ((rd_T75 l0 dA).f7)) ∧ w'.cell? ⟨(ad105.add ((dA).toNat * 10)).block, (ad105.add ((dA).toNat * 10)).off + 8, none⟩ = some (.int .i64 ((rd_T75 l0 dA).f8)) ∧ w'.cell? ⟨(ad105.add ((dA).toNat * 10)).block, (ad105.add ((dA).toNat * 10)).off + 9, none⟩ = some (.bool ((rd_T75 l0 dA).f9)) ∧ w'.cell? (ad106.add ((dA).toNat * 10)) = some (.int .i64 ((rd_T75 l1 dA).f0)) ∧ w'.cell? ⟨(ad106.add ((dA).toNat * 10)).block, (ad106.add ((dA).toNat * 10)).off + 1, none⟩ = some (.int .i64 ((rd_T75 l1 dA).f1)) ∧ w'.cell? ⟨(ad106.add ((dA).toNat * 10)).block, (ad106.add ((dA).toNat * 10)).off + 2, none⟩ = some (.int .i64 ((rd_T75 l1 dA).f2)) ∧ w'.cell? ⟨(ad106.add ((dA).toNat * 10)).block, (ad106.add ((dA).toNat * 10)).off + 3, none⟩ = some (.int .i64 ((rd_T75 l1 dA).f3)) ∧ w'.cell? ⟨(ad106.add ((dA).toNat * 10)).block, (ad106.add ((dA).toNat * 10)).off + 4, none⟩ = some (.int .i64 ((rd_T75 l1 dA).f4)) ∧ w'.cell? ⟨(ad106.add ((dA).toNat * 10)).block, (ad106.add ((dA).toNat * 10)).off + 5, none⟩ = some (.int .i64 ((rd_T75 l1 dA).f5)) ∧ w'.cell? ⟨(ad106.add ((dA).toNat * 10)).block, (ad106.add ((dA).toNat * 10)).off + 6, none⟩ = some (.int .i64 ((rd_T75 l1 dA).f6)) ∧ w'.cell? ⟨(ad106.add ((dA).toNat * 10)).block, (ad106.add ((dA).toNat * 10)).off + 7, none⟩ = some (.int .i64 ((rd_T75 l1 dA).f7)) ∧ w'.cell? ⟨(ad106.add ((dA).toNat * 10)).block, (ad106.add ((dA).toNat * 10)).off + 8, none⟩ = some (.int .i64 ((rd_T75 l1 dA).f8)) ∧ w'.cell? ⟨(ad106.add ((dA).toNat * 10)).block, (ad106.add ((dA).toNat * 10)).off + 9, none⟩ = some (.bool ((rd_T75 l1 dA).f9))) (ds := []) #[F,F,F,F,F,F,F,F,F,F] (by kernel_rfl) rfl rfl ⟨((HB.out.cell (World.block_lt_of_cell? w _ hw105_0)).trans hw105_0), ((HB.out.cell (World.block_lt_of_cell? w _ hw105_1)).trans hw105_1), ((HB.out.cell (World.block_lt_of_cell? w _ hw105_2)).trans hw105_2), ((HB.out.cell (World.block_lt_of_cell? w _ hw105_3)).trans hw105_3), ((HB.out.cell (World.block_lt_of_cell? w _ hw105_4)).trans hw105_4), ((HB.out.cell (World.block_lt_of_cell? w _ hw105_5)).trans hw105_5), ((HB.out.cell (World.block_lt_of_cell? w _ hw105_6)).trans hw105_6), ((HB.out.cell (World.block_lt_of_cell? w _ hw105_7)).trans hw105_7), ((HB.out.cell (World.block_lt_of_cell? w _ hw105_8)).trans hw105_8), ((HB.out.cell (World.block_lt_of_cell? w _ hw105_9)).trans hw105_9), ((HB.out.cell (World.block_lt_of_cell? w _ hw106_0)).trans hw106_0), ((HB.out.cell (World.block_lt_of_cell? w _ hw106_1)).trans hw106_1), ((HB.out.cell (World.block_lt_of_cell? w _ hw106_2)).trans hw106_2), ((HB.out.cell (World.block_lt_of_cell? w _ hw106_3)).trans hw106_3), ((HB.out.cell (World.block_lt_of_cell? w _ hw106_4)).trans hw106_4), ((HB.out.cell (World.block_lt_of_cell? w _ hw106_5)).trans hw106_5), ((HB.out.cell (World.block_lt_of_cell? w _ hw106_6)).trans hw106_6), ((HB.out.cell (World.block_lt_of_cell? w _ hw106_7)).trans hw106_7), ((HB.out.cell (World.block_lt_of_cell? w _ hw106_8)).trans hw106_8), ((HB.out.cell (World.block_lt_of_cell? w _ hw106_9)).trans hw106_9)⟩ (fun hHeld => ?_); refine with_tabW laws_eqCallS.tab6 laws_eqCallS.bits6 (fun HT_ HW_ => ?_)
        generalize wr.drew = w9 at HB YA ZA aB bB cB dB eB fB gB hB iB jB kB lB mB nB oB pB qB rB hHeld ⊢
        refine q2_p 0 17 #[T,F,F,F,F,F,F,F,F,F] ?_
        refine q2_p 1 18 #[T,T,F,F,F,F,F,F,F,F] ?_
        refine q2_p 2 19 #[T,T,T,F,F,F,F,F,F,F] ?_
        refine q2_p 4 21 #[T,T,T,F,T,F,F,F,F,F] ?_
        refine q2_p 5 22 #[T,T,T,F,T,T,F,F,F,F] ?_
        refine q2_p 6 23 #[T,T,T,F,T,T,T,F,F,F] ?_
        refine take_ (i := 3) (N := some 20) (v := ?_) (a' := ?_) #[T,T,T,T,T,T,T,F,F,F] rfl rfl (take_ofW HT_.out HW_.out (by kernel_rfl)) (fun _ _ _ h => h) (Or.inl ⟨by rfl, ?_⟩) hHeld ?_ ?_
        rotate_left
        ·rintro w' ⟨s0, s1, s2, s3, s4, s5, s6, s7, s8, s9, kN, lN, mN, nN, oN, pN, qN, rN, sN, tN⟩
         go_simp
         with_reducible rfl
        rotate_left
        ·simp only [Act.put, List.setIfInBounds_toArray, List.set_cons_zero, List.set_cons_succ, i64_w, i32_w]
         rfl
        refine take_ (i := 7) (N := some 24) (v := ?_) (a' := ?_) #[T,T,T,T,T,T,T,T,F,F] rfl rfl (take_ofW HT_.out HW_.out (by kernel_rfl)) (fun _ _ _ h => h) (Or.inl ⟨by rfl, ?_⟩) hHeld ?_ ?_
        rotate_left
        ·rintro w' ⟨s0, s1, s2, s3, s4, s5, s6, s7, s8, s9, kN, lN, mN, nN, oN, pN, qN, rN, sN, tN⟩
         go_simp
         with_reducible rfl
        rotate_left
        ·simp only [Act.put, List.setIfInBounds_toArray, List.set_cons_zero, List.set_cons_succ, i64_w, i32_w]
         rfl
        refine one_ (i := 8) (N := some 25) #[T,T,T,T,T,T,T,T,T,F] rfl rfl (one_of HT_.out (by kernel_rfl)) (by decide) (fun K hK => ?_)
        refine goes_ Try.func92 (by kernel_rfl) rfl #[.agg #[.int .i64 ((rd_T75 l0 dA).f0), .int .i64 ((rd_T75 l0 dA).f1), .int .i64 ((rd_T75 l0 dA).f2), .int .i64 ((rd_T75 l0 dA).f3), .int .i64 ((rd_T75 l0 dA).f4), .int .i64 ((rd_T75 l0 dA).f5), .int .i64 ((rd_T75 l0 dA).f6), .int .i64 ((rd_T75 l0 dA).f7), .int .i64 ((rd_T75 l0 dA).f8), .bool ((rd_T75 l0 dA).f9)], .agg #[.int .i64 ((rd_T75 l1 dA).f0), .int .i64 ((rd_T75 l1 dA).f1), .int .i64 ((rd_T75 l1 dA).f2), .int .i64 ((rd_T75 l1 dA).f3), .int .i64 ((rd_T75 l1 dA).f4), .int .i64 ((rd_T75 l1 dA).f5), .int .i64 ((rd_T75 l1 dA).f6), .int .i64 ((rd_T75 l1 dA).f7), .int .i64 ((rd_T75 l1 dA).f8), .bool ((rd_T75 l1 dA).f9)]] (by rfl) rfl rfl q2_10 ?_
        with_reducible refine (laws_eqCall.calls ((rd_T75 l0 dA).f0) ((rd_T75 l0 dA).f1) ((rd_T75 l0 dA).f2) ((rd_T75 l0 dA).f3) ((rd_T75 l0 dA).f4) ((rd_T75 l0 dA).f5) ((rd_T75 l0 dA).f6) ((rd_T75 l0 dA).f7) ((rd_T75 l0 dA).f8) ((rd_T75 l0 dA).f9) ((rd_T75 l1 dA).f0) ((rd_T75 l1 dA).f1) ((rd_T75 l1 dA).f2) ((rd_T75 l1 dA).f3) ((rd_T75 l1 dA).f4) ((rd_T75 l1 dA).f5) ((rd_T75 l1 dA).f6) ((rd_T75 l1 dA).f7) ((rd_T75 l1 dA).f8) ((rd_T75 l1 dA).f9) true _ A7.out).mono ?_
        rintro e YN ⟨rfl, hb⟩
        refine ⟨_, rfl, ?_⟩
        have nA := Aside0.mk (below_step q2_0 hb)
        clear HB
        have HB := nA
        clear nA
        (try clear hb)
        (try clear hb2)
        (try clear hk)
        (try clear hi)
        refine hK.out _ _ ⟨((HB.out.cell (World.block_lt_of_cell? w _ hw105_0)).trans hw105_0), ((HB.out.cell (World.block_lt_of_cell? w _ hw105_1)).trans hw105_1), ((HB.out.cell (World.block_lt_of_cell? w _ hw105_2)).trans hw105_2), ((HB.out.cell (World.block_lt_of_cell? w _ hw105_3)).trans hw105_3), ((HB.out.cell (World.block_lt_of_cell? w _ hw105_4)).trans hw105_4), ((HB.out.cell (World.block_lt_of_cell? w _ hw105_5)).trans hw105_5), ((HB.out.cell (World.block_lt_of_cell? w _ hw105_6)).trans hw105_6), ((HB.out.cell (World.block_lt_of_cell? w _ hw105_7)).trans hw105_7), ((HB.out.cell (World.block_lt_of_cell? w _ hw105_8)).trans hw105_8), ((HB.out.cell (World.block_lt_of_cell? w _ hw105_9)).trans hw105_9), ((HB.out.cell (World.block_lt_of_cell? w _ hw106_0)).trans hw106_0), ((HB.out.cell (World.block_lt_of_cell? w _ hw106_1)).trans hw106_1), ((HB.out.cell (World.block_lt_of_cell? w _ hw106_2)).trans hw106_2), ((HB.out.cell (World.block_lt_of_cell? w _ hw106_3)).trans hw106_3), ((HB.out.cell (World.block_lt_of_cell? w _ hw106_4)).trans hw106_4), ((HB.out.cell (World.block_lt_of_cell? w _ hw106_5)).trans hw106_5), ((HB.out.cell (World.block_lt_of_cell? w _ hw106_6)).trans hw106_6), ((HB.out.cell (World.block_lt_of_cell? w _ hw106_7)).trans hw106_7), ((HB.out.cell (World.block_lt_of_cell? w _ hw106_8)).trans hw106_8), ((HB.out.cell (World.block_lt_of_cell? w _ hw106_9)).trans hw106_9)⟩ (fun hHeld => ?_)
        clear hK K
        refine norm_ (a' := ?_) ?_ ?_
        rotate_left
        ·show Act.put _ (some 25) _ = _
         simp only [Act.put, List.setIfInBounds_toArray, List.set_cons_zero, List.set_cons_succ, i64_w, i32_w]
         rfl
        refine q2_p 9 26 #[T,T,T,T,T,T,T,T,T,T] ?_
        refine done_ (done_of HT_.out (by kernel_rfl)) ?_
        try go_wp2
        go_roundg k1
        case measure => have := HK1.out; omega
        case rel => exact ⟨(wrap64 (dA + 1)), q2_22, H', ⟨by have := HK1.out; omega⟩, ⟨q2_0⟩⟩
       ·replace c8 := Bool.eq_false_iff.mpr c8
        subst c8
        have H1 : (some false) = some r := by rw [if_neg (show ¬ (false = true) by decide)] at H; exact H
        clear H
        have H := H1
        clear H1
        obtain rfl := Option.some.inj H
        try go_wp2
        have nA := Aside0.mk (below_drew1 HB.out)
        clear HB
        have HB := nA
        clear nA
        have p105 : 0 ≤ (dA : Int) := of_decide_eq_true q2_14
        have q105 : dA < (l0.length : Int) := of_decide_eq_true q2_14
        obtain ⟨ad105, ZD, YA, ZA, aB, bB, cB, dB, eB, fB, gB, hB⟩ := at_T75 HR0.out dA p105 q105
        have hw105_9 := hB
        have hw105_8 := gB
        have hw105_7 := fB
        have hw105_6 := eB
        have hw105_5 := dB
        have hw105_4 := cB
        have hw105_3 := bB
        have hw105_2 := aB
        have hw105_1 := ZA
        have hw105_0 := YA
        cases ZD
        replace YA := (HB.out.cell (World.block_lt_of_cell? w _ YA)).trans YA
        replace ZA := (HB.out.cell (World.block_lt_of_cell? w _ ZA)).trans ZA
        replace aB := (HB.out.cell (World.block_lt_of_cell? w _ aB)).trans aB
        replace bB := (HB.out.cell (World.block_lt_of_cell? w _ bB)).trans bB
        replace cB := (HB.out.cell (World.block_lt_of_cell? w _ cB)).trans cB
        replace dB := (HB.out.cell (World.block_lt_of_cell? w _ dB)).trans dB
        replace eB := (HB.out.cell (World.block_lt_of_cell? w _ eB)).trans eB
        replace fB := (HB.out.cell (World.block_lt_of_cell? w _ fB)).trans fB
        replace gB := (HB.out.cell (World.block_lt_of_cell? w _ gB)).trans gB
        replace hB := (HB.out.cell (World.block_lt_of_cell? w _ hB)).trans hB
        replace p105 := eq_true p105
        replace q105 := eq_true q105
        have p106 : 0 ≤ (dA : Int) := of_decide_eq_true q2_14
        have q106 : dA < (l1.length : Int) := of_decide_eq_true q2_14
        obtain ⟨ad106, aE, iB, jB, kB, lB, mB, nB, oB, pB, qB, rB⟩ := at_T75 HR1.out dA p106 q106
        have hw106_9 := rB
        have hw106_8 := qB
        have hw106_7 := pB
        have hw106_6 := oB
        have hw106_5 := nB
        have hw106_4 := mB
        have hw106_3 := lB
        have hw106_2 := kB
        have hw106_1 := jB
        have hw106_0 := iB
        cases aE
        replace iB := (HB.out.cell (World.block_lt_of_cell? w _ iB)).trans iB
        replace jB := (HB.out.cell (World.block_lt_of_cell? w _ jB)).trans jB
        replace kB := (HB.out.cell (World.block_lt_of_cell? w _ kB)).trans kB
        replace lB := (HB.out.cell (World.block_lt_of_cell? w _ lB)).trans lB
        replace mB := (HB.out.cell (World.block_lt_of_cell? w _ mB)).trans mB
        replace nB := (HB.out.cell (World.block_lt_of_cell? w _ nB)).trans nB
        replace oB := (HB.out.cell (World.block_lt_of_cell? w _ oB)).trans oB
        replace pB := (HB.out.cell (World.block_lt_of_cell? w _ pB)).trans pB
        replace qB := (HB.out.cell (World.block_lt_of_cell? w _ qB)).trans qB
        replace rB := (HB.out.cell (World.block_lt_of_cell? w _ rB)).trans rB
        replace p106 := eq_true p106
        replace q106 := eq_true q106
        refine start_ (n := 10) (S := fun w' => w'.cell? (ad105.add ((dA).toNat * 10)) = some (.int .i64 ((rd_T75 l0 dA).f0)) ∧ w'.cell? ⟨(ad105.add ((dA).toNat * 10)).block, (ad105.add ((dA).toNat * 10)).off + 1, none⟩ = some (.int .i64 ((rd_T75 l0 dA).f1)) ∧ w'.cell? ⟨(ad105.add ((dA).toNat * 10)).block, (ad105.add ((dA).toNat * 10)).off + 2, none⟩ = some (.int .i64 ((rd_T75 l0 dA).f2)) ∧ w'.cell? ⟨(ad105.add ((dA).toNat * 10)).block, (ad105.add ((dA).toNat * 10)).off + 3, none⟩ = some (.int .i64 ((rd_T75 l0 dA).f3)) ∧ w'.cell? ⟨(ad105.add ((dA).toNat * 10)).block, (ad105.add ((dA).toNat * 10)).off + 4, none⟩ = some (.int .i64 ((rd_T75 l0 dA).f4)) ∧ w'.cell? ⟨(ad105.add ((dA).toNat * 10)).block, (ad105.add ((dA).toNat * 10)).off + 5, none⟩ = some (.int .i64 ((rd_T75 l0 dA).f5)) ∧ w'.cell? ⟨(ad105.add ((dA).toNat * 10)).block, (ad105.add ((dA).toNat * 10)).off + 6, none⟩ = some (.int .i64 ((rd_T75 l0 dA).f6)) ∧ w'.cell? ⟨(ad105.add ((dA).toNat * 10)).block, (ad105.add ((dA).toNat * 10)).off + 7, none⟩ = some (.int .i64 ((rd_T75 l0 dA).f7)) ∧ w'.cell? ⟨(ad105.add ((dA).toNat * 10)).block, (ad105.add ((dA).toNat * 10)).off + 8, none⟩ = some (.int .i64 ((rd_T75 l0 dA).f8)) ∧ w'.cell? ⟨(ad105.add ((dA).toNat * 10)).block, (ad105.add ((dA).toNat * 10)).off + 9, none⟩ = some (.bool ((rd_T75 l0 dA).f9)) ∧ w'.cell? (ad106.add ((dA).toNat * 10)) = some (.int .i64 ((rd_T75 l1 dA).f0)) ∧ w'.cell? ⟨(ad106.add ((dA).toNat * 10)).block, (ad106.add ((dA).toNat * 10)).off + 1, none⟩ = some (.int .i64 ((rd_T75 l1 dA).f1)) ∧ w'.cell? ⟨(ad106.add ((dA).toNat * 10)).block, (ad106.add ((dA).toNat * 10)).off + 2, none⟩ = some (.int .i64 ((rd_T75 l1 dA).f2)) ∧ w'.cell? ⟨(ad106.add ((dA).toNat * 10)).block, (ad106.add ((dA).toNat * 10)).off + 3, none⟩ = some (.int .i64 ((rd_T75 l1 dA).f3)) ∧ w'.cell? ⟨(ad106.add ((dA).toNat * 10)).block, (ad106.add ((dA).toNat * 10)).off + 4, none⟩ = some (.int .i64 ((rd_T75 l1 dA).f4)) ∧ w'.cell? ⟨(ad106.add ((dA).toNat * 10)).block, (ad106.add ((dA).toNat * 10)).off + 5, none⟩ = some (.int .i64 ((rd_T75 l1 dA).f5)) ∧ w'.cell? ⟨(ad106.add ((dA).toNat * 10)).block, (ad106.add ((dA).toNat * 10)).off + 6, none⟩ = some (.int .i64 ((rd_T75 l1 dA).f6)) ∧ w'.cell? ⟨(ad106.add ((dA).toNat * 10)).block, (ad106.add ((dA).toNat * 10)).off + 7, none⟩ = some (.int .i64 ((rd_T75 l1 dA).f7)) ∧ w'.cell? ⟨(ad106.add ((dA).toNat * 10)).block, (ad106.add ((dA).toNat * 10)).off + 8, none⟩ = some (.int .i64 ((rd_T75 l1 dA).f8)) ∧ w'.cell? ⟨(ad106.add ((dA).toNat * 10)).block, (ad106.add ((dA).toNat * 10)).off + 9, none⟩ = some (.bool ((rd_T75 l1 dA).f9))) (ds := []) #[F,F,F,F,F,F,F,F,F,F] (by kernel_rfl) rfl rfl ⟨((HB.out.cell (World.block_lt_of_cell? w _ hw105_0)).trans hw105_0), ((HB.out.cell (World.block_lt_of_cell? w _ hw105_1)).trans hw105_1), ((HB.out.cell (World.block_lt_of_cell? w _ hw105_2)).trans hw105_2), ((HB.out.cell (World.block_lt_of_cell? w _ hw105_3)).trans hw105_3), ((HB.out.cell (World.block_lt_of_cell? w _ hw105_4)).trans hw105_4), ((HB.out.cell (World.block_lt_of_cell? w _ hw105_5)).trans hw105_5), ((HB.out.cell (World.block_lt_of_cell? w _ hw105_6)).trans hw105_6), ((HB.out.cell (World.block_lt_of_cell? w _ hw105_7)).trans hw105_7), ((HB.out.cell (World.block_lt_of_cell? w _ hw105_8)).trans hw105_8), ((HB.out.cell (World.block_lt_of_cell? w _ hw105_9)).trans hw105_9), ((HB.out.cell (World.block_lt_of_cell? w _ hw106_0)).trans hw106_0), ((HB.out.cell (World.block_lt_of_cell? w _ hw106_1)).trans hw106_1), ((HB.out.cell (World.block_lt_of_cell? w _ hw106_2)).trans hw106_2), ((HB.out.cell (World.block_lt_of_cell? w _ hw106_3)).trans hw106_3), ((HB.out.cell (World.block_lt_of_cell? w _ hw106_4)).trans hw106_4), ((HB.out.cell (World.block_lt_of_cell? w _ hw106_5)).trans hw106_5), ((HB.out.cell (World.block_lt_of_cell? w _ hw106_6)).trans hw106_6), ((HB.out.cell (World.block_lt_of_cell? w _ hw106_7)).trans hw106_7), ((HB.out.cell (World.block_lt_of_cell? w _ hw106_8)).trans hw106_8), ((HB.out.cell (World.block_lt_of_cell? w _ hw106_9)).trans hw106_9)⟩ (fun hHeld => ?_); refine with_tabW laws_eqCallS.tab6 laws_eqCallS.bits6 (fun HT_ HW_ => ?_)
        generalize wr.drew = yD at HB YA ZA aB bB cB dB eB fB gB hB iB jB kB lB mB nB oB pB qB rB hHeld ⊢
        refine q2_p 0 17 #[T,F,F,F,F,F,F,F,F,F] ?_
        refine q2_p 1 18 #[T,T,F,F,F,F,F,F,F,F] ?_
        refine q2_p 2 19 #[T,T,T,F,F,F,F,F,F,F] ?_
        refine q2_p 4 21 #[T,T,T,F,T,F,F,F,F,F] ?_
        refine q2_p 5 22 #[T,T,T,F,T,T,F,F,F,F] ?_
        refine q2_p 6 23 #[T,T,T,F,T,T,T,F,F,F] ?_
        refine take_ (i := 3) (N := some 20) (v := ?_) (a' := ?_) #[T,T,T,T,T,T,T,F,F,F] rfl rfl (take_ofW HT_.out HW_.out (by kernel_rfl)) (fun _ _ _ h => h) (Or.inl ⟨by rfl, ?_⟩) hHeld ?_ ?_
        rotate_left
        ·rintro w' ⟨s0, s1, s2, s3, s4, s5, s6, s7, s8, s9, kN, lN, mN, nN, oN, pN, qN, rN, sN, tN⟩
         go_simp
         with_reducible rfl
        rotate_left
        ·simp only [Act.put, List.setIfInBounds_toArray, List.set_cons_zero, List.set_cons_succ, i64_w, i32_w]
         rfl
        refine take_ (i := 7) (N := some 24) (v := ?_) (a' := ?_) #[T,T,T,T,T,T,T,T,F,F] rfl rfl (take_ofW HT_.out HW_.out (by kernel_rfl)) (fun _ _ _ h => h) (Or.inl ⟨by rfl, ?_⟩) hHeld ?_ ?_
        rotate_left
        ·rintro w' ⟨s0, s1, s2, s3, s4, s5, s6, s7, s8, s9, kN, lN, mN, nN, oN, pN, qN, rN, sN, tN⟩
         go_simp
         with_reducible rfl
        rotate_left
        ·simp only [Act.put, List.setIfInBounds_toArray, List.set_cons_zero, List.set_cons_succ, i64_w, i32_w]
         rfl
        refine one_ (i := 8) (N := some 25) #[T,T,T,T,T,T,T,T,T,F] rfl rfl (one_of HT_.out (by kernel_rfl)) (by decide) (fun K hK => ?_)
        refine goes_ Try.func92 (by kernel_rfl) rfl #[.agg #[.int .i64 ((rd_T75 l0 dA).f0), .int .i64 ((rd_T75 l0 dA).f1), .int .i64 ((rd_T75 l0 dA).f2), .int .i64 ((rd_T75 l0 dA).f3), .int .i64 ((rd_T75 l0 dA).f4), .int .i64 ((rd_T75 l0 dA).f5), .int .i64 ((rd_T75 l0 dA).f6), .int .i64 ((rd_T75 l0 dA).f7), .int .i64 ((rd_T75 l0 dA).f8), .bool ((rd_T75 l0 dA).f9)], .agg #[.int .i64 ((rd_T75 l1 dA).f0), .int .i64 ((rd_T75 l1 dA).f1), .int .i64 ((rd_T75 l1 dA).f2), .int .i64 ((rd_T75 l1 dA).f3), .int .i64 ((rd_T75 l1 dA).f4), .int .i64 ((rd_T75 l1 dA).f5), .int .i64 ((rd_T75 l1 dA).f6), .int .i64 ((rd_T75 l1 dA).f7), .int .i64 ((rd_T75 l1 dA).f8), .bool ((rd_T75 l1 dA).f9)]] (by rfl) rfl rfl q2_10 ?_
        with_reducible refine (laws_eqCall.calls ((rd_T75 l0 dA).f0) ((rd_T75 l0 dA).f1) ((rd_T75 l0 dA).f2) ((rd_T75 l0 dA).f3) ((rd_T75 l0 dA).f4) ((rd_T75 l0 dA).f5) ((rd_T75 l0 dA).f6) ((rd_T75 l0 dA).f7) ((rd_T75 l0 dA).f8) ((rd_T75 l0 dA).f9) ((rd_T75 l1 dA).f0) ((rd_T75 l1 dA).f1) ((rd_T75 l1 dA).f2) ((rd_T75 l1 dA).f3) ((rd_T75 l1 dA).f4) ((rd_T75 l1 dA).f5) ((rd_T75 l1 dA).f6) ((rd_T75 l1 dA).f7) ((rd_T75 l1 dA).f8) ((rd_T75 l1 dA).f9) false _ A7.out).mono ?_
        rintro e hO ⟨rfl, hb⟩
        refine ⟨_, rfl, ?_⟩
        have nA := Aside0.mk (below_step q2_0 hb)
        clear HB
        have HB := nA
        clear nA
        (try clear hb)
        (try clear hb2)
        (try clear hk)
        (try clear hi)
        refine hK.out _ _ ⟨((HB.out.cell (World.block_lt_of_cell? w _ hw105_0)).trans hw105_0), ((HB.out.cell (World.block_lt_of_cell? w _ hw105_1)).trans hw105_1), ((HB.out.cell (World.block_lt_of_cell? w _ hw105_2)).trans hw105_2), ((HB.out.cell (World.block_lt_of_cell? w _ hw105_3)).trans hw105_3), ((HB.out.cell (World.block_lt_of_cell? w _ hw105_4)).trans hw105_4), ((HB.out.cell (World.block_lt_of_cell? w _ hw105_5)).trans hw105_5), ((HB.out.cell (World.block_lt_of_cell? w _ hw105_6)).trans hw105_6), ((HB.out.cell (World.block_lt_of_cell? w _ hw105_7)).trans hw105_7), ((HB.out.cell (World.block_lt_of_cell? w _ hw105_8)).trans hw105_8), ((HB.out.cell (World.block_lt_of_cell? w _ hw105_9)).trans hw105_9), ((HB.out.cell (World.block_lt_of_cell? w _ hw106_0)).trans hw106_0), ((HB.out.cell (World.block_lt_of_cell? w _ hw106_1)).trans hw106_1), ((HB.out.cell (World.block_lt_of_cell? w _ hw106_2)).trans hw106_2), ((HB.out.cell (World.block_lt_of_cell? w _ hw106_3)).trans hw106_3), ((HB.out.cell (World.block_lt_of_cell? w _ hw106_4)).trans hw106_4), ((HB.out.cell (World.block_lt_of_cell? w _ hw106_5)).trans hw106_5), ((HB.out.cell (World.block_lt_of_cell? w _ hw106_6)).trans hw106_6), ((HB.out.cell (World.block_lt_of_cell? w _ hw106_7)).trans hw106_7), ((HB.out.cell (World.block_lt_of_cell? w _ hw106_8)).trans hw106_8), ((HB.out.cell (World.block_lt_of_cell? w _ hw106_9)).trans hw106_9)⟩ (fun hHeld => ?_)
        clear hK K
        refine norm_ (a' := ?_) ?_ ?_
        rotate_left
        ·show Act.put _ (some 25) _ = _
         simp only [Act.put, List.setIfInBounds_toArray, List.set_cons_zero, List.set_cons_succ, i64_w, i32_w]
         rfl
        refine q2_p 9 26 #[T,T,T,T,T,T,T,T,T,T] ?_
        refine done_ (done_of HT_.out (by kernel_rfl)) ?_
        try go_wp2
        go_ret
        exact ⟨q2_9, q2_0⟩
      ·rw [if_neg c6] at H
       exact absurd H (by simp)
     ·rw [if_neg c5] at H
      exact absurd H (by simp)
    ·rw [if_neg c4] at H
     have dC : decide (dA < (l0.length : Int)) = false := decide_eq_false c4
     clear c4
     obtain rfl := Option.some.inj H
     go_wp2
     go_ret
     exact ⟨q2_9, q2_0⟩
 ·rw [if_neg c3] at H
  have XB : ((l0.length : Int) == (l1.length : Int)) = false := beq_eq_false_iff_ne.mpr c3
  have YB : ((l0.length : Int) != (l1.length : Int)) = true := bne_iff_ne.mpr c3
  have cC : (l0.length == l1.length) = false := by first | simpa using c3 | (simp at c3 ⊢; omega)
  obtain rfl := Option.some.inj H
  go_enter Try.func67, Try.ntmps67
  go_wp2
  go_ret
  exact ⟨q2_9, q2_0⟩

/-! ### laws_eqThread: function 33 -/
def laws_eqThread.f (k : Nat) (AA : List (S75)) (jA : Int) (BA : List Int) (CA : List Int) (DA : List (S75)) (mA : Int) (FA : List Int) (GA : List Int) : Option (Bool) := (laws_eqCallS.f k AA DA).bind fun bC => (if bC = true then (if jA = mA then ((laws_eqIntS.f k BA FA).bind fun KB => (if KB = true then ((laws_eqIntS.f k CA GA).bind fun IB => (if IB = true then (some true) else (some false))) else (some false))) else (some false)) else (some false))
theorem laws_eqThread.mono : ∀ a0 a1 a2 a3 a4 a5 a6 a7 k, LeO (laws_eqThread.f k a0 a1 a2 a3 a4 a5 a6 a7) (laws_eqThread.f (k + 1) a0 a1 a2 a3 a4 a5 a6 a7) := by
 intro a0 a1 a2 a3 a4 a5 a6 a7 k
 unfold laws_eqThread.f
 repeat' first
   | (with_reducible exact laws_eqCallS.mono _ _ _)
   | (with_reducible exact laws_eqIntS.mono _ _ _)
   | (with_reducible exact LeO.refl _)
   | (with_reducible exact LeO.none _)
   | (with_reducible refine LeO.ite ?_ ?_)
   | (with_reducible refine LeO.bind ?_ (fun _ => ?_))
   | exact laws_eqCallS.mono _ _ _
   | exact laws_eqIntS.mono _ _ _
   | exact LeO.none _
   | refine LeO.ite ?_ ?_
   | refine LeO.bind ?_ (fun _ => ?_)
set_option maxHeartbeats 8000000 in
set_option maxRecDepth 100000 in
theorem laws_eqThread.calls (k : Nat) (KA : Option Addr) (LA : Nat) (AA : List (S75)) (jA : Int) (UA : Option Addr) (VA : Nat) (BA : List Int) (WA : Option Addr) (XA : Nat) (CA : List Int) (sB : Option Addr) (tB : Nat) (DA : List (S75)) (mA : Int) (uB : Option Addr) (vB : Nat) (FA : List Int) (zB : Option Addr) (AB : Nat) (GA : List Int) (r : Bool) (w : World) (zD : Kd.C k75 w KA AA.length AA) (AD : AA.length ≤ LA) (BD : Kd.C (Kd.int .i64) w UA BA.length BA) (CD : BA.length ≤ VA) (DD : Kd.C (Kd.int .i64) w WA CA.length CA) (ED : CA.length ≤ XA) (FD : Kd.C k75 w sB DA.length DA) (GD : DA.length ≤ tB) (HD : Kd.C (Kd.int .i64) w uB FA.length FA) (ID : FA.length ≤ vB) (JD : Kd.C (Kd.int .i64) w zB GA.length GA) (KD : GA.length ≤ AB) (h : laws_eqThread.f k AA jA BA CA DA mA FA GA = some r) :
  Calls Try.prog 33 #[.agg #[.slice KA AA.length LA, .int .i64 jA, .slice UA BA.length VA, .slice WA CA.length XA], .agg #[.slice sB DA.length tB, .int .i64 mA, .slice uB FA.length vB, .slice zB GA.length AB]] w fun e w' => e = .returned (.bool r) ∧ Below w.heap.size w w' := by
 have hu55 := Try.underlying55
 have bE := Aside0.mk zD
 have VB := Aside0.mk AD
 clear zD AD
 have dE := Aside0.mk BD
 have fC := Aside0.mk CD
 clear BD CD
 have LD := Aside0.mk DD
 have MD := Aside0.mk ED
 clear DD ED
 have cE := Aside0.mk FD
 have WB := Aside0.mk GD
 clear FD GD
 have eE := Aside0.mk HD
 have gC := Aside0.mk ID
 clear HD ID
 have ND := Aside0.mk JD
 have OD := Aside0.mk KD
 clear JD KD
 have HB := Aside0.mk (Below.refl w.heap.size w)
 have H : ((laws_eqCallS.f k AA DA).bind fun bC => (if bC = true then (if jA = mA then ((laws_eqIntS.f k BA FA).bind fun KB => (if KB = true then ((laws_eqIntS.f k CA GA).bind fun IB => (if IB = true then (some true) else (some false))) else (some false))) else (some false)) else (some false))) = some r := h
 clear h
 replace H := Option.bind_eq_some_iff.mp H
 obtain ⟨bC, A30, H⟩ := H
 replace H : (if bC = true then (if jA = mA then ((laws_eqIntS.f k BA FA).bind fun KB => (if KB = true then ((laws_eqIntS.f k CA GA).bind fun IB => (if IB = true then (some true) else (some false))) else (some false))) else (some false)) else (some false)) = some r := H
 have A3 := Aside0.mk A30
 clear A30
 by_cases c4 : bC = true
 ·subst c4
  have H1 : (if jA = mA then ((laws_eqIntS.f k BA FA).bind fun KB => (if KB = true then ((laws_eqIntS.f k CA GA).bind fun IB => (if IB = true then (some true) else (some false))) else (some false))) else (some false)) = some r := by rw [if_pos rfl] at H; exact H
  clear H
  have H := H1
  clear H1
  by_cases c5 : jA = mA
  ·rw [if_pos c5] at H
   have eC : (jA == mA) = true := beq_iff_eq.mpr c5
   have YD : (jA != mA) = false := bne_eq_false_iff_eq.mpr c5
   clear c5
   replace H := Option.bind_eq_some_iff.mp H
   obtain ⟨KB, A60, H⟩ := H
   replace H : (if KB = true then ((laws_eqIntS.f k CA GA).bind fun IB => (if IB = true then (some true) else (some false))) else (some false)) = some r := H
   have A6 := Aside0.mk A60
   clear A60
   by_cases c7 : KB = true
   ·subst c7
    have H1 : ((laws_eqIntS.f k CA GA).bind fun IB => (if IB = true then (some true) else (some false))) = some r := by rw [if_pos rfl] at H; exact H
    clear H
    have H := H1
    clear H1
    replace H := Option.bind_eq_some_iff.mp H
    obtain ⟨IB, A80, H⟩ := H
    replace H : (if IB = true then (some true) else (some false)) = some r := H
    have A8 := Aside0.mk A80
    clear A80
    by_cases c9 : IB = true
    ·subst c9
     have H1 : (some true) = some r := by rw [if_pos rfl] at H; exact H
     clear H
     have H := H1
     clear H1
     obtain rfl := Option.some.inj H
     go_enter Try.func33, Try.ntmps33
     go_wp2_with (first | ((with_reducible refine gate_dst (N := 2) rfl ?_); refine box_event ?hg (N := 2) ?hd (cs := #[.slice KA AA.length LA, .int .i64 jA, .slice UA BA.length VA, .slice WA CA.length XA]) (t := 55) ?hr ?_; (case hd => rfl); (case hg => rfl); (case hr => first | (go_simp; done) | (go_simp; rfl)); intro hA hg YN hbox hb; have nA := Aside0.mk (below_step q2_0 hb); have oA := Aside0.mk (hbox); have pA := Aside0.mk ((q2_11 : w.heap.size ≤ hA)); have rA := Aside0.mk ((q2_11 : w.heap.size ≤ hA)); clear HB; have HB := nA; have fA := oA; have ZB := pA; have LB := rA; clear nA oA pA rA; clear hb hbox hg) | ((with_reducible refine gate_dst (N := 3) rfl ?_); refine box_event ?hg (N := 3) ?hd (cs := #[.slice sB DA.length tB, .int .i64 mA, .slice uB FA.length vB, .slice zB GA.length AB]) (t := 55) ?hr ?_; (case hd => rfl); (case hg => rfl); (case hr => first | (go_simp; done) | (go_simp; rfl)); intro iA hg yD hbox hb; have nA := Aside0.mk (blk_below (g := hA) (o := .cells #[.slice KA AA.length LA, .int .i64 jA, .slice UA BA.length VA, .slice WA CA.length XA] 55 (0, 0)) q2_7 hb); have oA := Aside0.mk (below_step q2_6 hb); have pA := Aside0.mk (hbox); have rA := Aside0.mk ((q2_21 : w.heap.size ≤ iA)); have wB := Aside0.mk ((q2_21 : w.heap.size ≤ iA)); have xB := Aside0.mk ((q2_12 : hA ≠ iA)); have yB := Aside0.mk ((q2_13 : iA ≠ hA)); clear fA; clear HB; have fA := nA; have HB := oA; have gA := pA; have aC := rA; have UB := wB; have IA := xB; have JA := yB; clear nA oA pA rA wB xB yB; clear hb hbox hg; have PN := IA.out; have QN := JA.out; have BL : yD.cell? ⟨hA, 0, none⟩ = some (.slice KA AA.length LA) := (blk_cell fA.out 0).trans rfl; have CL : yD.cell? ⟨hA, 1, none⟩ = some (.int .i64 jA) := (blk_cell fA.out 1).trans rfl; have DL : yD.cell? ⟨hA, 2, none⟩ = some (.slice UA BA.length VA) := (blk_cell fA.out 2).trans rfl; have EL : yD.cell? ⟨hA, 3, none⟩ = some (.slice WA CA.length XA) := (blk_cell fA.out 3).trans rfl; have FL := blk_frozen fA.out 0; have GL := blk_frozen fA.out 1; have HL := blk_frozen fA.out 2; have IL := blk_frozen fA.out 3; have JL : yD.cell? ⟨iA, 0, none⟩ = some (.slice sB DA.length tB) := (blk_cell gA.out 0).trans rfl; have KL : yD.cell? ⟨iA, 1, none⟩ = some (.int .i64 mA) := (blk_cell gA.out 1).trans rfl; have LL : yD.cell? ⟨iA, 2, none⟩ = some (.slice uB FA.length vB) := (blk_cell gA.out 2).trans rfl; have ML : yD.cell? ⟨iA, 3, none⟩ = some (.slice zB GA.length AB) := (blk_cell gA.out 3).trans rfl; have NL := blk_frozen gA.out 0; have OL := blk_frozen gA.out 1; have PL := blk_frozen gA.out 2; have QL := blk_frozen gA.out 3) | ((with_reducible refine gate_callee (f := 67) rfl ?_); refine goesL_ (some 9) rfl rfl Try.func67 (by kernel_rfl) rfl #[.slice KA AA.length LA, .slice sB DA.length tB] rfl q2_10 ?_; (with_reducible refine (laws_eqCallS.calls k _ _ AA _ _ DA true _ ?side1 ?side2 ?side3 ?side4 A3.out).mono ?_); (case side1 => exact q2_15); (case side2 => exact VB.out); (case side3 => exact q2_16); (case side4 => exact WB.out); rintro e PD ⟨rfl, hb⟩; refine ⟨_, rfl, ?_⟩; have nA := Aside0.mk (blk_below (g := hA) (o := .cells #[.slice KA AA.length LA, .int .i64 jA, .slice UA BA.length VA, .slice WA CA.length XA] 55 (0, 0)) q2_7 hb); have oA := Aside0.mk (blk_below (g := iA) (o := .cells #[.slice sB DA.length tB, .int .i64 mA, .slice uB FA.length vB, .slice zB GA.length AB] 55 (0, 0)) q2_18 hb); have pA := Aside0.mk (below_step q2_3 hb); clear fA; clear gA; clear HB; have fA := nA; have gA := oA; have HB := pA; clear nA oA pA; (try clear hb); (try clear hb2); (try clear hk); (try clear hi); have jC : PD.cell? ⟨hA, 0, none⟩ = some (.slice KA AA.length LA) := (blk_cell fA.out 0).trans rfl; have kC : PD.cell? ⟨hA, 1, none⟩ = some (.int .i64 jA) := (blk_cell fA.out 1).trans rfl; have lC : PD.cell? ⟨hA, 2, none⟩ = some (.slice UA BA.length VA) := (blk_cell fA.out 2).trans rfl; have mC : PD.cell? ⟨hA, 3, none⟩ = some (.slice WA CA.length XA) := (blk_cell fA.out 3).trans rfl; have nC := blk_frozen fA.out 0; have oC := blk_frozen fA.out 1; have pC := blk_frozen fA.out 2; have qC := blk_frozen fA.out 3; have rC : PD.cell? ⟨iA, 0, none⟩ = some (.slice sB DA.length tB) := (blk_cell gA.out 0).trans rfl; have sC : PD.cell? ⟨iA, 1, none⟩ = some (.int .i64 mA) := (blk_cell gA.out 1).trans rfl; have tC : PD.cell? ⟨iA, 2, none⟩ = some (.slice uB FA.length vB) := (blk_cell gA.out 2).trans rfl; have uC : PD.cell? ⟨iA, 3, none⟩ = some (.slice zB GA.length AB) := (blk_cell gA.out 3).trans rfl; have vC := blk_frozen gA.out 0; have wC := blk_frozen gA.out 1; have xC := blk_frozen gA.out 2; have yC := blk_frozen gA.out 3) | ((with_reducible refine gate_callee (f := 26) rfl ?_); refine goesL_ (some 20) rfl rfl Try.func26 (by kernel_rfl) rfl #[.slice UA BA.length VA, .slice uB FA.length vB] rfl q2_10 ?_; (with_reducible refine (laws_eqIntS.calls k _ _ BA _ _ FA true _ ?side1 ?side2 ?side3 ?side4 A6.out).mono ?_); (case side1 => exact q2_19); (case side2 => exact fC.out); (case side3 => exact q2_20); (case side4 => exact gC.out); rintro e w' ⟨rfl, ⟨nd, rfl⟩⟩; refine ⟨_, rfl, ?_⟩) | ((with_reducible refine gate_callee (f := 26) rfl ?_); refine goesL_ (some 26) rfl rfl Try.func26 (by kernel_rfl) rfl #[.slice WA CA.length XA, .slice zB GA.length AB] rfl q2_10 ?_; (with_reducible refine (laws_eqIntS.calls k _ _ CA _ _ GA true _ ?side1 ?side2 ?side3 ?side4 A8.out).mono ?_); (case side1 => repeat (first | exact (Kd.C_below LD.out q2_3) | (with_reducible refine Kd.C_alloc ?_ _) | (with_reducible refine Kd.C_drewN ?_ _) | (with_reducible refine Kd.C_drew ?_))); (case side2 => exact MD.out); (case side3 => repeat (first | exact (Kd.C_below ND.out q2_3) | (with_reducible refine Kd.C_alloc ?_ _) | (with_reducible refine Kd.C_drewN ?_ _) | (with_reducible refine Kd.C_drew ?_))); (case side4 => exact OD.out); rintro e w' ⟨rfl, ⟨nd, rfl⟩⟩; refine ⟨_, rfl, ?_⟩))
     go_ret
     exact ⟨q2_9, q2_3⟩
    ·replace c9 := Bool.eq_false_iff.mpr c9
     subst c9
     have H1 : (some false) = some r := by rw [if_neg (show ¬ (false = true) by decide)] at H; exact H
     clear H
     have H := H1
     clear H1
     obtain rfl := Option.some.inj H
     go_enter Try.func33, Try.ntmps33
     go_wp2_with (first | ((with_reducible refine gate_dst (N := 2) rfl ?_); refine box_event ?hg (N := 2) ?hd (cs := #[.slice KA AA.length LA, .int .i64 jA, .slice UA BA.length VA, .slice WA CA.length XA]) (t := 55) ?hr ?_; (case hd => rfl); (case hg => rfl); (case hr => first | (go_simp; done) | (go_simp; rfl)); intro hA hg XN hbox hb; have nA := Aside0.mk (below_step q2_0 hb); have oA := Aside0.mk (hbox); have pA := Aside0.mk ((q2_11 : w.heap.size ≤ hA)); have rA := Aside0.mk ((q2_11 : w.heap.size ≤ hA)); clear HB; have HB := nA; have fA := oA; have ZB := pA; have LB := rA; clear nA oA pA rA; clear hb hbox hg) | ((with_reducible refine gate_dst (N := 3) rfl ?_); refine box_event ?hg (N := 3) ?hd (cs := #[.slice sB DA.length tB, .int .i64 mA, .slice uB FA.length vB, .slice zB GA.length AB]) (t := 55) ?hr ?_; (case hd => rfl); (case hg => rfl); (case hr => first | (go_simp; done) | (go_simp; rfl)); intro iA hg FB hbox hb; have nA := Aside0.mk (blk_below (g := hA) (o := .cells #[.slice KA AA.length LA, .int .i64 jA, .slice UA BA.length VA, .slice WA CA.length XA] 55 (0, 0)) q2_7 hb); have oA := Aside0.mk (below_step q2_6 hb); have pA := Aside0.mk (hbox); have rA := Aside0.mk ((q2_21 : w.heap.size ≤ iA)); have wB := Aside0.mk ((q2_21 : w.heap.size ≤ iA)); have xB := Aside0.mk ((q2_12 : hA ≠ iA)); have yB := Aside0.mk ((q2_13 : iA ≠ hA)); clear fA; clear HB; have fA := nA; have HB := oA; have gA := pA; have aC := rA; have UB := wB; have IA := xB; have JA := yB; clear nA oA pA rA wB xB yB; clear hb hbox hg; have mE := IA.out; have nE := JA.out; have zC : FB.cell? ⟨hA, 0, none⟩ = some (.slice KA AA.length LA) := (blk_cell fA.out 0).trans rfl; have AC : FB.cell? ⟨hA, 1, none⟩ = some (.int .i64 jA) := (blk_cell fA.out 1).trans rfl; have BC : FB.cell? ⟨hA, 2, none⟩ = some (.slice UA BA.length VA) := (blk_cell fA.out 2).trans rfl; have CC : FB.cell? ⟨hA, 3, none⟩ = some (.slice WA CA.length XA) := (blk_cell fA.out 3).trans rfl; have DC := blk_frozen fA.out 0; have EC := blk_frozen fA.out 1; have FC := blk_frozen fA.out 2; have GC := blk_frozen fA.out 3; have HC : FB.cell? ⟨iA, 0, none⟩ = some (.slice sB DA.length tB) := (blk_cell gA.out 0).trans rfl; have IC : FB.cell? ⟨iA, 1, none⟩ = some (.int .i64 mA) := (blk_cell gA.out 1).trans rfl; have JC : FB.cell? ⟨iA, 2, none⟩ = some (.slice uB FA.length vB) := (blk_cell gA.out 2).trans rfl; have KC : FB.cell? ⟨iA, 3, none⟩ = some (.slice zB GA.length AB) := (blk_cell gA.out 3).trans rfl; have LC := blk_frozen gA.out 0; have MC := blk_frozen gA.out 1; have NC := blk_frozen gA.out 2; have OC := blk_frozen gA.out 3) | ((with_reducible refine gate_callee (f := 67) rfl ?_); refine goesL_ (some 9) rfl rfl Try.func67 (by kernel_rfl) rfl #[.slice KA AA.length LA, .slice sB DA.length tB] rfl q2_10 ?_; (with_reducible refine (laws_eqCallS.calls k _ _ AA _ _ DA true _ ?side1 ?side2 ?side3 ?side4 A3.out).mono ?_); (case side1 => exact q2_15); (case side2 => exact VB.out); (case side3 => exact q2_16); (case side4 => exact WB.out); rintro e PC ⟨rfl, hb⟩; refine ⟨_, rfl, ?_⟩; have nA := Aside0.mk (blk_below (g := hA) (o := .cells #[.slice KA AA.length LA, .int .i64 jA, .slice UA BA.length VA, .slice WA CA.length XA] 55 (0, 0)) q2_7 hb); have oA := Aside0.mk (blk_below (g := iA) (o := .cells #[.slice sB DA.length tB, .int .i64 mA, .slice uB FA.length vB, .slice zB GA.length AB] 55 (0, 0)) q2_18 hb); have pA := Aside0.mk (below_step q2_3 hb); clear fA; clear gA; clear HB; have fA := nA; have gA := oA; have HB := pA; clear nA oA pA; (try clear hb); (try clear hb2); (try clear hk); (try clear hi); have RL : PC.cell? ⟨hA, 0, none⟩ = some (.slice KA AA.length LA) := (blk_cell fA.out 0).trans rfl; have SL : PC.cell? ⟨hA, 1, none⟩ = some (.int .i64 jA) := (blk_cell fA.out 1).trans rfl; have TL : PC.cell? ⟨hA, 2, none⟩ = some (.slice UA BA.length VA) := (blk_cell fA.out 2).trans rfl; have UL : PC.cell? ⟨hA, 3, none⟩ = some (.slice WA CA.length XA) := (blk_cell fA.out 3).trans rfl; have VL := blk_frozen fA.out 0; have WL := blk_frozen fA.out 1; have XL := blk_frozen fA.out 2; have YL := blk_frozen fA.out 3; have ZL : PC.cell? ⟨iA, 0, none⟩ = some (.slice sB DA.length tB) := (blk_cell gA.out 0).trans rfl; have aM : PC.cell? ⟨iA, 1, none⟩ = some (.int .i64 mA) := (blk_cell gA.out 1).trans rfl; have bM : PC.cell? ⟨iA, 2, none⟩ = some (.slice uB FA.length vB) := (blk_cell gA.out 2).trans rfl; have cM : PC.cell? ⟨iA, 3, none⟩ = some (.slice zB GA.length AB) := (blk_cell gA.out 3).trans rfl; have dM := blk_frozen gA.out 0; have eM := blk_frozen gA.out 1; have fM := blk_frozen gA.out 2; have gM := blk_frozen gA.out 3) | ((with_reducible refine gate_callee (f := 26) rfl ?_); refine goesL_ (some 20) rfl rfl Try.func26 (by kernel_rfl) rfl #[.slice UA BA.length VA, .slice uB FA.length vB] rfl q2_10 ?_; (with_reducible refine (laws_eqIntS.calls k _ _ BA _ _ FA true _ ?side1 ?side2 ?side3 ?side4 A6.out).mono ?_); (case side1 => exact q2_19); (case side2 => exact fC.out); (case side3 => exact q2_20); (case side4 => exact gC.out); rintro e w' ⟨rfl, ⟨nd, rfl⟩⟩; refine ⟨_, rfl, ?_⟩) | ((with_reducible refine gate_callee (f := 26) rfl ?_); refine goesL_ (some 26) rfl rfl Try.func26 (by kernel_rfl) rfl #[.slice WA CA.length XA, .slice zB GA.length AB] rfl q2_10 ?_; (with_reducible refine (laws_eqIntS.calls k _ _ CA _ _ GA false _ ?side1 ?side2 ?side3 ?side4 A8.out).mono ?_); (case side1 => repeat (first | exact (Kd.C_below LD.out q2_3) | (with_reducible refine Kd.C_alloc ?_ _) | (with_reducible refine Kd.C_drewN ?_ _) | (with_reducible refine Kd.C_drew ?_))); (case side2 => exact MD.out); (case side3 => repeat (first | exact (Kd.C_below ND.out q2_3) | (with_reducible refine Kd.C_alloc ?_ _) | (with_reducible refine Kd.C_drewN ?_ _) | (with_reducible refine Kd.C_drew ?_))); (case side4 => exact OD.out); rintro e w' ⟨rfl, ⟨nd, rfl⟩⟩; refine ⟨_, rfl, ?_⟩))
     go_ret
     exact ⟨q2_9, q2_3⟩
   ·replace c7 := Bool.eq_false_iff.mpr c7
    subst c7
    have H1 : (some false) = some r := by rw [if_neg (show ¬ (false = true) by decide)] at H; exact H
    clear H
    have H := H1
    clear H1
    obtain rfl := Option.some.inj H
    go_enter Try.func33, Try.ntmps33
    go_wp2_with (first | ((with_reducible refine gate_dst (N := 2) rfl ?_); refine box_event ?hg (N := 2) ?hd (cs := #[.slice KA AA.length LA, .int .i64 jA, .slice UA BA.length VA, .slice WA CA.length XA]) (t := 55) ?hr ?_; (case hd => rfl); (case hg => rfl); (case hr => first | (go_simp; done) | (go_simp; rfl)); intro hA hg iO hbox hb; have nA := Aside0.mk (below_step q2_0 hb); have oA := Aside0.mk (hbox); have pA := Aside0.mk ((q2_11 : w.heap.size ≤ hA)); have rA := Aside0.mk ((q2_11 : w.heap.size ≤ hA)); clear HB; have HB := nA; have fA := oA; have ZB := pA; have LB := rA; clear nA oA pA rA; clear hb hbox hg) | ((with_reducible refine gate_dst (N := 3) rfl ?_); refine box_event ?hg (N := 3) ?hd (cs := #[.slice sB DA.length tB, .int .i64 mA, .slice uB FA.length vB, .slice zB GA.length AB]) (t := 55) ?hr ?_; (case hd => rfl); (case hg => rfl); (case hr => first | (go_simp; done) | (go_simp; rfl)); intro iA hg QD hbox hb; have nA := Aside0.mk (blk_below (g := hA) (o := .cells #[.slice KA AA.length LA, .int .i64 jA, .slice UA BA.length VA, .slice WA CA.length XA] 55 (0, 0)) q2_7 hb); have oA := Aside0.mk (below_step q2_6 hb); have pA := Aside0.mk (hbox); have rA := Aside0.mk ((q2_21 : w.heap.size ≤ iA)); have wB := Aside0.mk ((q2_21 : w.heap.size ≤ iA)); have xB := Aside0.mk ((q2_12 : hA ≠ iA)); have yB := Aside0.mk ((q2_13 : iA ≠ hA)); clear fA; clear HB; have fA := nA; have HB := oA; have gA := pA; have aC := rA; have UB := wB; have IA := xB; have JA := yB; clear nA oA pA rA wB xB yB; clear hb hbox hg; have RN := IA.out; have SN := JA.out; have hM : QD.cell? ⟨hA, 0, none⟩ = some (.slice KA AA.length LA) := (blk_cell fA.out 0).trans rfl; have iM : QD.cell? ⟨hA, 1, none⟩ = some (.int .i64 jA) := (blk_cell fA.out 1).trans rfl; have jM : QD.cell? ⟨hA, 2, none⟩ = some (.slice UA BA.length VA) := (blk_cell fA.out 2).trans rfl; have kM : QD.cell? ⟨hA, 3, none⟩ = some (.slice WA CA.length XA) := (blk_cell fA.out 3).trans rfl; have lM := blk_frozen fA.out 0; have mM := blk_frozen fA.out 1; have nM := blk_frozen fA.out 2; have oM := blk_frozen fA.out 3; have pM : QD.cell? ⟨iA, 0, none⟩ = some (.slice sB DA.length tB) := (blk_cell gA.out 0).trans rfl; have qM : QD.cell? ⟨iA, 1, none⟩ = some (.int .i64 mA) := (blk_cell gA.out 1).trans rfl; have rM : QD.cell? ⟨iA, 2, none⟩ = some (.slice uB FA.length vB) := (blk_cell gA.out 2).trans rfl; have sM : QD.cell? ⟨iA, 3, none⟩ = some (.slice zB GA.length AB) := (blk_cell gA.out 3).trans rfl; have tM := blk_frozen gA.out 0; have uM := blk_frozen gA.out 1; have vM := blk_frozen gA.out 2; have wM := blk_frozen gA.out 3) | ((with_reducible refine gate_callee (f := 67) rfl ?_); refine goesL_ (some 9) rfl rfl Try.func67 (by kernel_rfl) rfl #[.slice KA AA.length LA, .slice sB DA.length tB] rfl q2_10 ?_; (with_reducible refine (laws_eqCallS.calls k _ _ AA _ _ DA true _ ?side1 ?side2 ?side3 ?side4 A3.out).mono ?_); (case side1 => exact q2_15); (case side2 => exact VB.out); (case side3 => exact q2_16); (case side4 => exact WB.out); rintro e RD ⟨rfl, hb⟩; refine ⟨_, rfl, ?_⟩; have nA := Aside0.mk (blk_below (g := hA) (o := .cells #[.slice KA AA.length LA, .int .i64 jA, .slice UA BA.length VA, .slice WA CA.length XA] 55 (0, 0)) q2_7 hb); have oA := Aside0.mk (blk_below (g := iA) (o := .cells #[.slice sB DA.length tB, .int .i64 mA, .slice uB FA.length vB, .slice zB GA.length AB] 55 (0, 0)) q2_18 hb); have pA := Aside0.mk (below_step q2_3 hb); clear fA; clear gA; clear HB; have fA := nA; have gA := oA; have HB := pA; clear nA oA pA; (try clear hb); (try clear hb2); (try clear hk); (try clear hi); have QC : RD.cell? ⟨hA, 0, none⟩ = some (.slice KA AA.length LA) := (blk_cell fA.out 0).trans rfl; have RC : RD.cell? ⟨hA, 1, none⟩ = some (.int .i64 jA) := (blk_cell fA.out 1).trans rfl; have SC : RD.cell? ⟨hA, 2, none⟩ = some (.slice UA BA.length VA) := (blk_cell fA.out 2).trans rfl; have TC : RD.cell? ⟨hA, 3, none⟩ = some (.slice WA CA.length XA) := (blk_cell fA.out 3).trans rfl; have UC := blk_frozen fA.out 0; have VC := blk_frozen fA.out 1; have WC := blk_frozen fA.out 2; have XC := blk_frozen fA.out 3; have xM : RD.cell? ⟨iA, 0, none⟩ = some (.slice sB DA.length tB) := (blk_cell gA.out 0).trans rfl; have yM : RD.cell? ⟨iA, 1, none⟩ = some (.int .i64 mA) := (blk_cell gA.out 1).trans rfl; have zM : RD.cell? ⟨iA, 2, none⟩ = some (.slice uB FA.length vB) := (blk_cell gA.out 2).trans rfl; have AM : RD.cell? ⟨iA, 3, none⟩ = some (.slice zB GA.length AB) := (blk_cell gA.out 3).trans rfl; have BM := blk_frozen gA.out 0; have CM := blk_frozen gA.out 1; have DM := blk_frozen gA.out 2; have EM := blk_frozen gA.out 3) | ((with_reducible refine gate_callee (f := 26) rfl ?_); refine goesL_ (some 20) rfl rfl Try.func26 (by kernel_rfl) rfl #[.slice UA BA.length VA, .slice uB FA.length vB] rfl q2_10 ?_; (with_reducible refine (laws_eqIntS.calls k _ _ BA _ _ FA false _ ?side1 ?side2 ?side3 ?side4 A6.out).mono ?_); (case side1 => exact q2_19); (case side2 => exact fC.out); (case side3 => exact q2_20); (case side4 => exact gC.out); rintro e w' ⟨rfl, ⟨nd, rfl⟩⟩; refine ⟨_, rfl, ?_⟩))
    go_ret
    exact ⟨q2_9, q2_3⟩
  ·rw [if_neg c5] at H
   have eC : (jA == mA) = false := beq_eq_false_iff_ne.mpr c5
   have YD : (jA != mA) = true := bne_iff_ne.mpr c5
   obtain rfl := Option.some.inj H
   go_enter Try.func33, Try.ntmps33
   go_wp2_with (first | ((with_reducible refine gate_dst (N := 2) rfl ?_); refine box_event ?hg (N := 2) ?hd (cs := #[.slice KA AA.length LA, .int .i64 jA, .slice UA BA.length VA, .slice WA CA.length XA]) (t := 55) ?hr ?_; (case hd => rfl); (case hg => rfl); (case hr => first | (go_simp; done) | (go_simp; rfl)); intro hA hg JB hbox hb; have nA := Aside0.mk (below_step q2_0 hb); have oA := Aside0.mk (hbox); have pA := Aside0.mk ((q2_11 : w.heap.size ≤ hA)); have rA := Aside0.mk ((q2_11 : w.heap.size ≤ hA)); clear HB; have HB := nA; have fA := oA; have ZB := pA; have LB := rA; clear nA oA pA rA; clear hb hbox hg) | ((with_reducible refine gate_dst (N := 3) rfl ?_); refine box_event ?hg (N := 3) ?hd (cs := #[.slice sB DA.length tB, .int .i64 mA, .slice uB FA.length vB, .slice zB GA.length AB]) (t := 55) ?hr ?_; (case hd => rfl); (case hg => rfl); (case hr => first | (go_simp; done) | (go_simp; rfl)); intro iA hg SD hbox hb; have nA := Aside0.mk (blk_below (g := hA) (o := .cells #[.slice KA AA.length LA, .int .i64 jA, .slice UA BA.length VA, .slice WA CA.length XA] 55 (0, 0)) q2_7 hb); have oA := Aside0.mk (below_step q2_6 hb); have pA := Aside0.mk (hbox); have rA := Aside0.mk ((q2_21 : w.heap.size ≤ iA)); have wB := Aside0.mk ((q2_21 : w.heap.size ≤ iA)); have xB := Aside0.mk ((q2_12 : hA ≠ iA)); have yB := Aside0.mk ((q2_13 : iA ≠ hA)); clear fA; clear HB; have fA := nA; have HB := oA; have gA := pA; have aC := rA; have UB := wB; have IA := xB; have JA := yB; clear nA oA pA rA wB xB yB; clear hb hbox hg; have TN := IA.out; have UN := JA.out; have YC : SD.cell? ⟨hA, 0, none⟩ = some (.slice KA AA.length LA) := (blk_cell fA.out 0).trans rfl; have ZC : SD.cell? ⟨hA, 1, none⟩ = some (.int .i64 jA) := (blk_cell fA.out 1).trans rfl; have aD : SD.cell? ⟨hA, 2, none⟩ = some (.slice UA BA.length VA) := (blk_cell fA.out 2).trans rfl; have bD : SD.cell? ⟨hA, 3, none⟩ = some (.slice WA CA.length XA) := (blk_cell fA.out 3).trans rfl; have cD := blk_frozen fA.out 0; have dD := blk_frozen fA.out 1; have eD := blk_frozen fA.out 2; have fD := blk_frozen fA.out 3; have FM : SD.cell? ⟨iA, 0, none⟩ = some (.slice sB DA.length tB) := (blk_cell gA.out 0).trans rfl; have GM : SD.cell? ⟨iA, 1, none⟩ = some (.int .i64 mA) := (blk_cell gA.out 1).trans rfl; have HM : SD.cell? ⟨iA, 2, none⟩ = some (.slice uB FA.length vB) := (blk_cell gA.out 2).trans rfl; have IM : SD.cell? ⟨iA, 3, none⟩ = some (.slice zB GA.length AB) := (blk_cell gA.out 3).trans rfl; have JM := blk_frozen gA.out 0; have KM := blk_frozen gA.out 1; have LM := blk_frozen gA.out 2; have MM := blk_frozen gA.out 3) | ((with_reducible refine gate_callee (f := 67) rfl ?_); refine goesL_ (some 9) rfl rfl Try.func67 (by kernel_rfl) rfl #[.slice KA AA.length LA, .slice sB DA.length tB] rfl q2_10 ?_; (with_reducible refine (laws_eqCallS.calls k _ _ AA _ _ DA true _ ?side1 ?side2 ?side3 ?side4 A3.out).mono ?_); (case side1 => exact q2_15); (case side2 => exact VB.out); (case side3 => exact q2_16); (case side4 => exact WB.out); rintro e GB ⟨rfl, hb⟩; refine ⟨_, rfl, ?_⟩; have nA := Aside0.mk (blk_below (g := hA) (o := .cells #[.slice KA AA.length LA, .int .i64 jA, .slice UA BA.length VA, .slice WA CA.length XA] 55 (0, 0)) q2_7 hb); have oA := Aside0.mk (blk_below (g := iA) (o := .cells #[.slice sB DA.length tB, .int .i64 mA, .slice uB FA.length vB, .slice zB GA.length AB] 55 (0, 0)) q2_18 hb); have pA := Aside0.mk (below_step q2_3 hb); clear fA; clear gA; clear HB; have fA := nA; have gA := oA; have HB := pA; clear nA oA pA; (try clear hb); (try clear hb2); (try clear hk); (try clear hi); have NM : GB.cell? ⟨hA, 0, none⟩ = some (.slice KA AA.length LA) := (blk_cell fA.out 0).trans rfl; have OM : GB.cell? ⟨hA, 1, none⟩ = some (.int .i64 jA) := (blk_cell fA.out 1).trans rfl; have PM : GB.cell? ⟨hA, 2, none⟩ = some (.slice UA BA.length VA) := (blk_cell fA.out 2).trans rfl; have QM : GB.cell? ⟨hA, 3, none⟩ = some (.slice WA CA.length XA) := (blk_cell fA.out 3).trans rfl; have RM := blk_frozen fA.out 0; have SM := blk_frozen fA.out 1; have TM := blk_frozen fA.out 2; have UM := blk_frozen fA.out 3; have gD : GB.cell? ⟨iA, 0, none⟩ = some (.slice sB DA.length tB) := (blk_cell gA.out 0).trans rfl; have hD : GB.cell? ⟨iA, 1, none⟩ = some (.int .i64 mA) := (blk_cell gA.out 1).trans rfl; have iD : GB.cell? ⟨iA, 2, none⟩ = some (.slice uB FA.length vB) := (blk_cell gA.out 2).trans rfl; have jD : GB.cell? ⟨iA, 3, none⟩ = some (.slice zB GA.length AB) := (blk_cell gA.out 3).trans rfl; have kD := blk_frozen gA.out 0; have lD := blk_frozen gA.out 1; have mD := blk_frozen gA.out 2; have nD := blk_frozen gA.out 3))
   go_ret
   exact ⟨q2_9, q2_3⟩
 ·replace c4 := Bool.eq_false_iff.mpr c4
  subst c4
  have H1 : (some false) = some r := by rw [if_neg (show ¬ (false = true) by decide)] at H; exact H
  clear H
  have H := H1
  clear H1
  obtain rfl := Option.some.inj H
  go_enter Try.func33, Try.ntmps33
  go_wp2_with (first | ((with_reducible refine gate_dst (N := 2) rfl ?_); refine box_event ?hg (N := 2) ?hd (cs := #[.slice KA AA.length LA, .int .i64 jA, .slice UA BA.length VA, .slice WA CA.length XA]) (t := 55) ?hr ?_; (case hd => rfl); (case hg => rfl); (case hr => first | (go_simp; done) | (go_simp; rfl)); intro hA hg jO hbox hb; have nA := Aside0.mk (below_step q2_0 hb); have oA := Aside0.mk (hbox); have pA := Aside0.mk ((q2_11 : w.heap.size ≤ hA)); have rA := Aside0.mk ((q2_11 : w.heap.size ≤ hA)); clear HB; have HB := nA; have fA := oA; have ZB := pA; have LB := rA; clear nA oA pA rA; clear hb hbox hg) | ((with_reducible refine gate_dst (N := 3) rfl ?_); refine box_event ?hg (N := 3) ?hd (cs := #[.slice sB DA.length tB, .int .i64 mA, .slice uB FA.length vB, .slice zB GA.length AB]) (t := 55) ?hr ?_; (case hd => rfl); (case hg => rfl); (case hr => first | (go_simp; done) | (go_simp; rfl)); intro iA hg oD hbox hb; have nA := Aside0.mk (blk_below (g := hA) (o := .cells #[.slice KA AA.length LA, .int .i64 jA, .slice UA BA.length VA, .slice WA CA.length XA] 55 (0, 0)) q2_7 hb); have oA := Aside0.mk (below_step q2_6 hb); have pA := Aside0.mk (hbox); have rA := Aside0.mk ((q2_21 : w.heap.size ≤ iA)); have wB := Aside0.mk ((q2_21 : w.heap.size ≤ iA)); have xB := Aside0.mk ((q2_12 : hA ≠ iA)); have yB := Aside0.mk ((q2_13 : iA ≠ hA)); clear fA; clear HB; have fA := nA; have HB := oA; have gA := pA; have aC := rA; have UB := wB; have IA := xB; have JA := yB; clear nA oA pA rA wB xB yB; clear hb hbox hg; have VN := IA.out; have WN := JA.out; have VM : oD.cell? ⟨hA, 0, none⟩ = some (.slice KA AA.length LA) := (blk_cell fA.out 0).trans rfl; have WM : oD.cell? ⟨hA, 1, none⟩ = some (.int .i64 jA) := (blk_cell fA.out 1).trans rfl; have XM : oD.cell? ⟨hA, 2, none⟩ = some (.slice UA BA.length VA) := (blk_cell fA.out 2).trans rfl; have YM : oD.cell? ⟨hA, 3, none⟩ = some (.slice WA CA.length XA) := (blk_cell fA.out 3).trans rfl; have ZM := blk_frozen fA.out 0; have aN := blk_frozen fA.out 1; have bN := blk_frozen fA.out 2; have cN := blk_frozen fA.out 3; have pD : oD.cell? ⟨iA, 0, none⟩ = some (.slice sB DA.length tB) := (blk_cell gA.out 0).trans rfl; have qD : oD.cell? ⟨iA, 1, none⟩ = some (.int .i64 mA) := (blk_cell gA.out 1).trans rfl; have rD : oD.cell? ⟨iA, 2, none⟩ = some (.slice uB FA.length vB) := (blk_cell gA.out 2).trans rfl; have sD : oD.cell? ⟨iA, 3, none⟩ = some (.slice zB GA.length AB) := (blk_cell gA.out 3).trans rfl; have tD := blk_frozen gA.out 0; have uD := blk_frozen gA.out 1; have vD := blk_frozen gA.out 2; have wD := blk_frozen gA.out 3) | ((with_reducible refine gate_callee (f := 67) rfl ?_); refine goesL_ (some 9) rfl rfl Try.func67 (by kernel_rfl) rfl #[.slice KA AA.length LA, .slice sB DA.length tB] rfl q2_10 ?_; (with_reducible refine (laws_eqCallS.calls k _ _ AA _ _ DA false _ ?side1 ?side2 ?side3 ?side4 A3.out).mono ?_); (case side1 => exact q2_15); (case side2 => exact VB.out); (case side3 => exact q2_16); (case side4 => exact WB.out); rintro e kO ⟨rfl, hb⟩; refine ⟨_, rfl, ?_⟩; have nA := Aside0.mk (blk_below (g := hA) (o := .cells #[.slice KA AA.length LA, .int .i64 jA, .slice UA BA.length VA, .slice WA CA.length XA] 55 (0, 0)) q2_7 hb); have oA := Aside0.mk (blk_below (g := iA) (o := .cells #[.slice sB DA.length tB, .int .i64 mA, .slice uB FA.length vB, .slice zB GA.length AB] 55 (0, 0)) q2_18 hb); have pA := Aside0.mk (below_step q2_3 hb); clear fA; clear gA; clear HB; have fA := nA; have gA := oA; have HB := pA; clear nA oA pA; (try clear hb); (try clear hb2); (try clear hk); (try clear hi)))
  go_ret
  exact ⟨q2_9, q2_3⟩

end Go.Proofs.Ytndkfjecipjiaaa.PFnExactCrewOk
