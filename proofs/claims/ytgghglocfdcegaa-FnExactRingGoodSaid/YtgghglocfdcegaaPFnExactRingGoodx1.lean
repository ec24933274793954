-- Written by the session's own patched copy of the printer (wip/patch_print.py).
import Derived.Test.YtgghglocfdcegaaPFnExactRingGoodx0
namespace Go.Proofs.Ytgghglocfdcegaa.PFnExactRingGood
open Go.RowKit Go.Proofs.YtgghglocfdcegaaW.PrintWords Go.Proofs.YtgghglocfdcegaaW.PrintLast Go.Proofs.YtgghglocfdcegaaW.PrintMore
attribute [local go_sem] max2_int min2_int max_two min_two max_three min_three max_four min_four   -- for this text's walks alone
set_option linter.unusedVariables false
set_option linter.unusedSimpArgs false

theorem q1_p {P : Program} {ops : Array Oper} {Q : Exit → Act → World → Prop} {md : Region.Mode} {S : World → Prop} {ds : List Nat} (i n : Nat) {oi : Oper} {v : Value} {fuel : Nat} {l : Array Bool} {a : Act} {w : World} (l' : Array Bool) {a' : Act} (h : wpAnyLast P md ops Q S ds fuel l' a' w) (hi : ops[i]? = some oi := by rfl) (hN : oi.dst = some n := by rfl) (hc : anyB md ops l l' i = true := by exact any_of HT_.out (by kernel_rfl)) (hQ : ∀ c a w, Q (.panic c) (a.put oi.dst v) w → Q (.panic c) a w := by exact fun _ _ _ h => h) (hy : Yields P ops oi v a := by refine Or.inl ⟨by rfl, ?_⟩; intro w'; go_simp; with_reducible rfl) (ha : a.put (some n) v = a' := by simp only [Act.put, List.setIfInBounds_toArray, List.set_cons_zero, List.set_cons_succ, i64_w, i32_w]; rfl) : wpAnyLast P md ops Q S ds (fuel + 1) l a w := pure_ (N := some n) l' hi hN hc hQ hy ha h
theorem q1_u {P : Program} {ops : Array Oper} {Q : Exit → Act → World → Prop} {md : Region.Mode} {S : World → Prop} {ds : List Nat} (i n : Nat) {oi : Oper} {fuel : Nat} {l : Array Bool} {a : Act} {w : World} (l' : Array Bool) {a' : Act} (h : wpAnyLast P md ops Q S ds fuel l' a' w) (hi : ops[i]? = some oi := by rfl) (hN : oi.dst = some n := by rfl) (hc : anyB md ops l l' i = true := by exact any_of HT_.out (by kernel_rfl)) (hQ : ∀ c a w, Q (.panic c) (a.put oi.dst undef) w → Q (.panic c) a w := by exact fun _ _ _ h => h) (hy : Yields P ops oi undef a := by exact Or.inr ⟨by rfl, rfl⟩) (ha : a.put (some n) undef = a' := by simp only [Act.put, List.setIfInBounds_toArray, List.set_cons_zero, List.set_cons_succ, i64_w, i32_w]; rfl) : wpAnyLast P md ops Q S ds (fuel + 1) l a w := pure_ (N := some n) l' hi hN hc hQ hy ha h
open Bool renaming true → T, false → F
theorem q1_0 {p : Prop} (h : p := by repeat (first | (with_reducible first | exact HB.out | apply below_alloc | apply pw_below_drewN | apply below_drew1) | exact HB.out)) : p := h
theorem q1_1 {p : Prop} (h : p := by repeat (first | (with_reducible first | exact HB.out | apply below_alloc | apply pw_below_drewN | apply below_drew1 | refine below_set ?_ aB.out) | exact HB.out)) : p := h
theorem q1_2 {p : Prop} (h : p := by (with_reducible repeat (first | refine blk_drewN ?_ _ | refine blk_drew ?_ | refine blk_alloc ?_ _)); exact aA.out) : p := h
theorem q1_3 {p : Prop} (h : p := by rw [hg]; exact Nat.ne_of_lt (blk_lt (g := dA) (o := .cells #[.int .i64 iA, .int .i64 jA, .int .i64 kA, .int .i64 lA, .int .i64 mA, .int .i64 nA, .int .i64 oA, .int .i64 pA] 89 (0, 0)) q1_2)) : p := h
theorem q1_4 {p : Prop} (h : p := by rw [hg]; exact Nat.ne_of_gt (blk_lt (g := dA) (o := .cells #[.int .i64 iA, .int .i64 jA, .int .i64 kA, .int .i64 lA, .int .i64 mA, .int .i64 nA, .int .i64 oA, .int .i64 pA] 89 (0, 0)) q1_2)) : p := h
theorem q1_5 {p : Prop} (h : p := by repeat (first | (with_reducible first | exact HB.out | apply below_alloc | apply pw_below_drewN | apply below_drew1 | refine below_set ?_ aB.out | refine below_set ?_ eB.out) | exact HB.out)) : p := h
theorem q1_6 {p : Prop} (h : p := by first | rfl | (simp [errW_none, errW_some] <;> rfl) | (simp [*, errW_none, errW_some] <;> rfl)) : p := h
theorem q1_7 {p : Prop} (h : p := by first | (with_reducible assumption) | assumption) : p := h
theorem q1_8 {p : Prop} (h : p := by rw [hg]; exact (below_size q1_0)) : p := h
theorem q1_9 {p : Prop} (h : p := by (with_reducible repeat (first | refine blk_drewN ?_ _ | refine blk_drew ?_ | refine blk_alloc ?_ _)); exact sA.out) : p := h
theorem q1_10 {p : Prop} (h : p := by rw [hg]; exact (below_size q1_1)) : p := h
theorem q1_11 {p : Prop} (h : p := by first | rfl | (simp; done) | (simp [*]; done)) : p := h
theorem q1_12 {p : Prop} (h : p := by repeat (first | (with_reducible first | exact HB.out | apply below_alloc | apply pw_below_drewN | apply below_drew1 | refine below_set ?_ SB.out | refine below_set ?_ ZB.out) | exact HB.out)) : p := h
theorem q1_13 {p : Prop} (h : p := by repeat (first | exact Drawn0.refl _ | apply Drawn0.step)) : p := h
theorem q1_14 {p : Prop} (h : p := by repeat (first | (with_reducible first | exact HB.out | apply below_alloc | apply pw_below_drewN | apply below_drew1 | refine below_set ?_ SB.out) | exact HB.out)) : p := h
theorem q1_15 {p : Prop} (h : p := by (with_reducible repeat (first | apply Kd.R_alloc | apply Kd.R_drewN | apply Kd.R_drew)); exact lB.out) : p := h
theorem q1_16 {p : Prop} (h : p := by (try simp only [List.map_toArray, List.map_cons, List.map_nil]); first | done | rfl | (simp only [List.length_drop, List.length_take]; rfl)) : p := h
theorem q1_17 {p : Prop} (h : p := by (with_reducible repeat (first | refine blk_drewN ?_ _ | refine blk_drew ?_ | refine blk_alloc ?_ _)); exact tA.out) : p := h
theorem q1_18 {p : Prop} (h : p := by rw [hg]; exact Nat.ne_of_lt (blk_lt (g := VA) (o := .cells #[.int .i64 iA, .int .i64 jA, .int .i64 kA, .int .i64 lA, .int .i64 mA, .int .i64 nA, .int .i64 oA, .int .i64 pA] 92 (0, 0)) q1_9)) : p := h
theorem q1_19 {p : Prop} (h : p := by rw [hg]; exact Nat.ne_of_gt (blk_lt (g := VA) (o := .cells #[.int .i64 iA, .int .i64 jA, .int .i64 kA, .int .i64 lA, .int .i64 mA, .int .i64 nA, .int .i64 oA, .int .i64 pA] 92 (0, 0)) q1_9)) : p := h
/-! ### laws_eqIntS: function 26 -/
def laws_eqIntS.l0 : Nat → List Int → List Int → Int → Option (Bool)
 | 0, _, _, _ => none
 | k + 1, x0, x1, x5 => if x5 < (x0.length : Int) then (if 0 ≤ x5 then (if x5 < (x1.length : Int) then (if (rd x0 x5) = (rd x1 x5) then (laws_eqIntS.l0 k x0 x1 (wrap64 (x5 + 1))) else (some false)) else (none)) else (none)) else (some true)
def laws_eqIntS.f (k : Nat) (l0 : List Int) (l1 : List Int) : Option (Bool) := if (l0.length : Int) = (l1.length : Int) then (laws_eqIntS.l0 k l0 l1 0) else (some false)
theorem laws_eqIntS.mono_l : ∀ k, (∀ y0 y1 y2, LeO (laws_eqIntS.l0 k y0 y1 y2) (laws_eqIntS.l0 (k + 1) y0 y1 y2))
 | 0 => fun _ _ _ r h => by simp [laws_eqIntS.l0] at h
 | k + 1 => by
  have ih0 := laws_eqIntS.mono_l k
  ·intro y0 y1 y2
   unfold laws_eqIntS.l0
   repeat' first
   | (with_reducible exact ih0 _ _ _)
   | (with_reducible exact LeO.refl _)
   | (with_reducible exact LeO.none _)
   | (with_reducible refine LeO.ite ?_ ?_)
   | (with_reducible refine LeO.bind ?_ (fun _ => ?_))
   | exact ih0 _ _ _
   | exact LeO.none _
   | refine LeO.ite ?_ ?_
   | refine LeO.bind ?_ (fun _ => ?_)
theorem laws_eqIntS.mono : ∀ a0 a1 k, LeO (laws_eqIntS.f k a0 a1) (laws_eqIntS.f (k + 1) a0 a1) := by
 intro a0 a1 k
 have ih0 := laws_eqIntS.mono_l k
 unfold laws_eqIntS.f
 repeat' first
   | (with_reducible exact ih0 _ _ _)
   | (with_reducible exact LeO.refl _)
   | (with_reducible exact LeO.none _)
   | (with_reducible refine LeO.ite ?_ ?_)
   | (with_reducible refine LeO.bind ?_ (fun _ => ?_))
   | exact ih0 _ _ _
   | exact LeO.none _
   | refine LeO.ite ?_ ?_
   | refine LeO.bind ?_ (fun _ => ?_)
set_option maxHeartbeats 8000000 in
set_option maxRecDepth 100000 in
theorem laws_eqIntS.calls (k : Nat) (A0 : Option Addr) (c0 : Nat) (l0 : List Int) (A1 : Option Addr) (c1 : Nat) (l1 : List Int) (r : Bool) (w : World) (hr0 : Kd.C (Kd.int .i64) w A0 l0.length l0) (hc0 : l0.length ≤ c0) (hr1 : Kd.C (Kd.int .i64) w A1 l1.length l1) (hc1 : l1.length ≤ c1) (h : laws_eqIntS.f k l0 l1 = some r) :
  Calls Try.prog 26 #[.slice A0 l0.length c0, .slice A1 l1.length c1] w fun e w' => e = .returned (.bool r) ∧ Drawn0 w w' := by
 have HR0 := Aside0.mk hr0
 clear hr0 hc0
 have HR1 := Aside0.mk hr1
 clear hr1 hc1
 have H : (if (l0.length : Int) = (l1.length : Int) then (laws_eqIntS.l0 k l0 l1 0) else (some false)) = some r := h
 clear h
 by_cases c3 : (l0.length : Int) = (l1.length : Int)
 ·rw [if_pos c3] at H
  have iB : ((l0.length : Int) == (l1.length : Int)) = true := beq_iff_eq.mpr c3
  have mB : ((l0.length : Int) != (l1.length : Int)) = false := bne_eq_false_iff_eq.mpr c3
  have TB : (l0.length == l1.length) = true := by first | simpa using c3 | (simp at c3 ⊢; omega)
  clear c3
  have H' := Aside0.mk H
  clear H
  go_enter Try.func26, Try.ntmps26
  go_wp2
  repeat (go_quiet (fail); try go_wp2)
  go_loopg [5] k (fun kq v5 w' => ∃ (cA : Int), v5 = .int .i64 cA ∧ Aside0 (laws_eqIntS.l0 kq l0 l1 cA = some r) ∧ Aside0 (kq ≤ k) ∧ Drawn0 w w')
  case atStart => exact ⟨(0), q1_11, H', ⟨Nat.le_refl _⟩, q1_13⟩
  case round =>
   clear H'
   (try clear c1); (try clear c2); (try clear p2); (try clear c3); (try clear iB); (try clear mB); (try clear TB)
   obtain ⟨cA, rfl, HA, HK1, ⟨m1, rfl⟩⟩ := hrel
   cases gk with
   | zero => exact absurd HA.out (by simp [laws_eqIntS.l0])
   | succ k1 =>
    have H := HA.out
    clear HA
    simp only [laws_eqIntS.l0] at H
    by_cases c4 : cA < (l0.length : Int)
    ·rw [if_pos c4] at H
     have UB : decide (cA < (l0.length : Int)) = true := decide_eq_true c4
     clear c4
     by_cases c5 : 0 ≤ cA
     ·rw [if_pos c5] at H
      have aC : decide (0 ≤ cA) = true := decide_eq_true c5
      clear c5
      by_cases c6 : cA < (l1.length : Int)
      ·rw [if_pos c6] at H
       have VB : decide (cA < (l1.length : Int)) = true := decide_eq_true c6
       clear c6
       by_cases c7 : (rd l0 cA) = (rd l1 cA)
       ·rw [if_pos c7] at H
        have WB : ((rd l0 cA) == (rd l1 cA)) = true := beq_iff_eq.mpr c7
        have bC : ((rd l0 cA) != (rd l1 cA)) = false := bne_eq_false_iff_eq.mpr c7
        clear c7
        have H' := Aside0.mk H
        clear H
        have p101 : 0 ≤ (cA : Int) := of_decide_eq_true q1_7
        have q101 : cA < (l0.length : Int) := of_decide_eq_true q1_7
        obtain ⟨ad101, cC, XB⟩ := Kd.at_int HR0.out cA p101 q101
        cases cC
        replace p101 := eq_true p101
        replace q101 := eq_true q101
        have p102 : 0 ≤ (cA : Int) := of_decide_eq_true q1_7
        have q102 : cA < (l1.length : Int) := of_decide_eq_true q1_7
        obtain ⟨ad102, dC, YB⟩ := Kd.at_int HR1.out cA p102 q102
        cases dC
        replace p102 := eq_true p102
        replace q102 := eq_true q102
        go_wp2
        repeat (go_quiet (fail); try go_wp2)
        go_roundg k1
        case measure => have := HK1.out; omega
        case rel => exact ⟨(wrap64 (cA + 1)), q1_11, H', ⟨by have := HK1.out; omega⟩, q1_13⟩
       ·rw [if_neg c7] at H
        have WB : ((rd l0 cA) == (rd l1 cA)) = false := beq_eq_false_iff_ne.mpr c7
        have bC : ((rd l0 cA) != (rd l1 cA)) = true := bne_iff_ne.mpr c7
        obtain rfl := Option.some.inj H
        have p101 : 0 ≤ (cA : Int) := of_decide_eq_true q1_7
        have q101 : cA < (l0.length : Int) := of_decide_eq_true q1_7
        obtain ⟨ad101, cC, XB⟩ := Kd.at_int HR0.out cA p101 q101
        cases cC
        replace p101 := eq_true p101
        replace q101 := eq_true q101
        have p102 : 0 ≤ (cA : Int) := of_decide_eq_true q1_7
        have q102 : cA < (l1.length : Int) := of_decide_eq_true q1_7
        obtain ⟨ad102, dC, YB⟩ := Kd.at_int HR1.out cA p102 q102
        cases dC
        replace p102 := eq_true p102
        replace q102 := eq_true q102
        go_wp2
        repeat (go_quiet (fail); try go_wp2)
        go_ret
        exact ⟨q1_11, q1_13⟩
      ·rw [if_neg c6] at H
       exact absurd H (by simp)
     ·rw [if_neg c5] at H
      exact absurd H (by simp)
    ·rw [if_neg c4] at H
     have UB : decide (cA < (l0.length : Int)) = false := decide_eq_false c4
     clear c4
     obtain rfl := Option.some.inj H
     go_wp2
     repeat (go_quiet (fail); try go_wp2)
     go_ret
     exact ⟨q1_11, q1_13⟩
 ·rw [if_neg c3] at H
  have iB : ((l0.length : Int) == (l1.length : Int)) = false := beq_eq_false_iff_ne.mpr c3
  have mB : ((l0.length : Int) != (l1.length : Int)) = true := bne_iff_ne.mpr c3
  have TB : (l0.length == l1.length) = false := by first | simpa using c3 | (simp at c3 ⊢; omega)
  obtain rfl := Option.some.inj H
  go_enter Try.func26, Try.ntmps26
  go_wp2
  repeat (go_quiet (fail); try go_wp2)
  go_ret
  exact ⟨q1_11, q1_13⟩

/-! ### laws_eqFact: function 68 -/
def laws_eqFact.f (iA : Int) (jA : Int) (kA : Int) (lA : Int) (mA : Int) (nA : Int) (oA : Int) (pA : Int) (NA : Int) (OA : Int) (PA : Int) (QA : Int) (RA : Int) (SA : Int) (TA : Int) (UA : Int) : Option (Bool) := if iA = NA then (if jA = OA then (if kA = PA then (if lA = QA then (if mA = RA then (if nA = SA then (if oA = TA then (if pA = UA then (some true) else (some false)) else (some false)) else (some false)) else (some false)) else (some false)) else (some false)) else (some false)) else (some false)
set_option maxHeartbeats 8000000 in
set_option maxRecDepth 100000 in
theorem laws_eqFact.calls (iA : Int) (jA : Int) (kA : Int) (lA : Int) (mA : Int) (nA : Int) (oA : Int) (pA : Int) (NA : Int) (OA : Int) (PA : Int) (QA : Int) (RA : Int) (SA : Int) (TA : Int) (UA : Int) (r : Bool) (w : World) (h : laws_eqFact.f iA jA kA lA mA nA oA pA NA OA PA QA RA SA TA UA = some r) :
  Calls Try.prog 68 #[.agg #[.int .i64 iA, .int .i64 jA, .int .i64 kA, .int .i64 lA, .int .i64 mA, .int .i64 nA, .int .i64 oA, .int .i64 pA], .agg #[.int .i64 NA, .int .i64 OA, .int .i64 PA, .int .i64 QA, .int .i64 RA, .int .i64 SA, .int .i64 TA, .int .i64 UA]] w fun e w' => e = .returned (.bool r) ∧ Below w.heap.size w w' := by
 have hu89 := Try.underlying89
 have HB := Aside0.mk (Below.refl w.heap.size w)
 have H : (if iA = NA then (if jA = OA then (if kA = PA then (if lA = QA then (if mA = RA then (if nA = SA then (if oA = TA then (if pA = UA then (some true) else (some false)) else (some false)) else (some false)) else (some false)) else (some false)) else (some false)) else (some false)) else (some false)) = some r := h
 clear h
 by_cases c3 : iA = NA
 ·rw [if_pos c3] at H
  have iB : (iA == NA) = true := beq_iff_eq.mpr c3
  have mB : (iA != NA) = false := bne_eq_false_iff_eq.mpr c3
  clear c3
  by_cases c4 : jA = OA
  ·rw [if_pos c4] at H
   have UB : (jA == OA) = true := beq_iff_eq.mpr c4
   have xI : (jA != OA) = false := bne_eq_false_iff_eq.mpr c4
   clear c4
   by_cases c5 : kA = PA
   ·rw [if_pos c5] at H
    have aC : (kA == PA) = true := beq_iff_eq.mpr c5
    have yI : (kA != PA) = false := bne_eq_false_iff_eq.mpr c5
    clear c5
    by_cases c6 : lA = QA
    ·rw [if_pos c6] at H
     have VB : (lA == QA) = true := beq_iff_eq.mpr c6
     have zI : (lA != QA) = false := bne_eq_false_iff_eq.mpr c6
     clear c6
     by_cases c7 : mA = RA
     ·rw [if_pos c7] at H
      have WB : (mA == RA) = true := beq_iff_eq.mpr c7
      have bC : (mA != RA) = false := bne_eq_false_iff_eq.mpr c7
      clear c7
      by_cases c8 : nA = SA
      ·rw [if_pos c8] at H
       have AI : (nA == SA) = true := beq_iff_eq.mpr c8
       have BI : (nA != SA) = false := bne_eq_false_iff_eq.mpr c8
       clear c8
       by_cases c9 : oA = TA
       ·rw [if_pos c9] at H
        have xC : (oA == TA) = true := beq_iff_eq.mpr c9
        have CI : (oA != TA) = false := bne_eq_false_iff_eq.mpr c9
        clear c9
        by_cases c10 : pA = UA
        ·rw [if_pos c10] at H
         have yC : (pA == UA) = true := beq_iff_eq.mpr c10
         have zC : (pA != UA) = false := bne_eq_false_iff_eq.mpr c10
         clear c10
         obtain rfl := Option.some.inj H
         go_enter Try.func68, Try.ntmps68
         go_wp2_with (first | ((with_reducible refine gate_dst (N := 2) rfl ?_); refine box_event ?hg (N := 2) ?hd (cs := #[.int .i64 iA, .int .i64 jA, .int .i64 kA, .int .i64 lA, .int .i64 mA, .int .i64 nA, .int .i64 oA, .int .i64 pA]) (t := 89) ?hr ?_; (case hd => rfl); (case hg => rfl); (case hr => first | (go_simp; done) | (go_simp; rfl)); intro dA hg jB hbox hb; have qA := Aside0.mk (below_step q1_0 hb); have rA := Aside0.mk (hbox); have uA := Aside0.mk ((q1_8 : w.heap.size ≤ dA)); have vA := Aside0.mk ((q1_8 : w.heap.size ≤ dA)); clear HB; have HB := qA; have aA := rA; have fB := uA; have aB := vA; clear qA rA uA vA; clear hb hbox hg) | ((with_reducible refine gate_dst (N := 3) rfl ?_); refine box_event ?hg (N := 3) ?hd (cs := #[.int .i64 NA, .int .i64 OA, .int .i64 PA, .int .i64 QA, .int .i64 RA, .int .i64 SA, .int .i64 TA, .int .i64 UA]) (t := 89) ?hr ?_; (case hd => rfl); (case hg => rfl); (case hr => first | (go_simp; done) | (go_simp; rfl)); intro eA hg vB hbox hb; have qA := Aside0.mk (blk_below (g := dA) (o := .cells #[.int .i64 iA, .int .i64 jA, .int .i64 kA, .int .i64 lA, .int .i64 mA, .int .i64 nA, .int .i64 oA, .int .i64 pA] 89 (0, 0)) q1_2 hb); have rA := Aside0.mk (below_step q1_1 hb); have uA := Aside0.mk (hbox); have vA := Aside0.mk ((q1_10 : w.heap.size ≤ eA)); have bB := Aside0.mk ((q1_10 : w.heap.size ≤ eA)); have cB := Aside0.mk ((q1_3 : dA ≠ eA)); have dB := Aside0.mk ((q1_4 : eA ≠ dA)); clear aA HB; have aA := qA; have HB := rA; have bA := uA; have gB := vA; have eB := bB; have gA := cB; have hA := dB; clear qA rA uA vA bB cB dB; clear hb hbox hg; have KJ := gA.out; have LJ := hA.out; have FC : vB.cell? ⟨dA, 0, none⟩ = some (.int .i64 iA) := (blk_cell aA.out 0).trans rfl; have GC : vB.cell? ⟨dA, 1, none⟩ = some (.int .i64 jA) := (blk_cell aA.out 1).trans rfl; have HC : vB.cell? ⟨dA, 2, none⟩ = some (.int .i64 kA) := (blk_cell aA.out 2).trans rfl; have IC : vB.cell? ⟨dA, 3, none⟩ = some (.int .i64 lA) := (blk_cell aA.out 3).trans rfl; have JC : vB.cell? ⟨dA, 4, none⟩ = some (.int .i64 mA) := (blk_cell aA.out 4).trans rfl; have KC : vB.cell? ⟨dA, 5, none⟩ = some (.int .i64 nA) := (blk_cell aA.out 5).trans rfl; have LC : vB.cell? ⟨dA, 6, none⟩ = some (.int .i64 oA) := (blk_cell aA.out 6).trans rfl; have MC : vB.cell? ⟨dA, 7, none⟩ = some (.int .i64 pA) := (blk_cell aA.out 7).trans rfl; have NC := blk_frozen aA.out 0; have OC := blk_frozen aA.out 1; have PC := blk_frozen aA.out 2; have QC := blk_frozen aA.out 3; have RC := blk_frozen aA.out 4; have SC := blk_frozen aA.out 5; have TC := blk_frozen aA.out 6; have UC := blk_frozen aA.out 7; have VC : vB.cell? ⟨eA, 0, none⟩ = some (.int .i64 NA) := (blk_cell bA.out 0).trans rfl; have WC : vB.cell? ⟨eA, 1, none⟩ = some (.int .i64 OA) := (blk_cell bA.out 1).trans rfl; have XC : vB.cell? ⟨eA, 2, none⟩ = some (.int .i64 PA) := (blk_cell bA.out 2).trans rfl; have YC : vB.cell? ⟨eA, 3, none⟩ = some (.int .i64 QA) := (blk_cell bA.out 3).trans rfl; have ZC : vB.cell? ⟨eA, 4, none⟩ = some (.int .i64 RA) := (blk_cell bA.out 4).trans rfl; have aD : vB.cell? ⟨eA, 5, none⟩ = some (.int .i64 SA) := (blk_cell bA.out 5).trans rfl; have bD : vB.cell? ⟨eA, 6, none⟩ = some (.int .i64 TA) := (blk_cell bA.out 6).trans rfl; have cD : vB.cell? ⟨eA, 7, none⟩ = some (.int .i64 UA) := (blk_cell bA.out 7).trans rfl; have dD := blk_frozen bA.out 0; have eD := blk_frozen bA.out 1; have fD := blk_frozen bA.out 2; have gD := blk_frozen bA.out 3; have hD := blk_frozen bA.out 4; have iD := blk_frozen bA.out 5; have jD := blk_frozen bA.out 6; have kD := blk_frozen bA.out 7))
         go_ret
         exact ⟨q1_6, q1_5⟩
        ·rw [if_neg c10] at H
         have yC : (pA == UA) = false := beq_eq_false_iff_ne.mpr c10
         have zC : (pA != UA) = true := bne_iff_ne.mpr c10
         obtain rfl := Option.some.inj H
         go_enter Try.func68, Try.ntmps68
         go_wp2_with (first | ((with_reducible refine gate_dst (N := 2) rfl ?_); refine box_event ?hg (N := 2) ?hd (cs := #[.int .i64 iA, .int .i64 jA, .int .i64 kA, .int .i64 lA, .int .i64 mA, .int .i64 nA, .int .i64 oA, .int .i64 pA]) (t := 89) ?hr ?_; (case hd => rfl); (case hg => rfl); (case hr => first | (go_simp; done) | (go_simp; rfl)); intro dA hg pK hbox hb; have qA := Aside0.mk (below_step q1_0 hb); have rA := Aside0.mk (hbox); have uA := Aside0.mk ((q1_8 : w.heap.size ≤ dA)); have vA := Aside0.mk ((q1_8 : w.heap.size ≤ dA)); clear HB; have HB := qA; have aA := rA; have fB := uA; have aB := vA; clear qA rA uA vA; clear hb hbox hg) | ((with_reducible refine gate_dst (N := 3) rfl ?_); refine box_event ?hg (N := 3) ?hd (cs := #[.int .i64 NA, .int .i64 OA, .int .i64 PA, .int .i64 QA, .int .i64 RA, .int .i64 SA, .int .i64 TA, .int .i64 UA]) (t := 89) ?hr ?_; (case hd => rfl); (case hg => rfl); (case hr => first | (go_simp; done) | (go_simp; rfl)); intro eA hg wB hbox hb; have qA := Aside0.mk (blk_below (g := dA) (o := .cells #[.int .i64 iA, .int .i64 jA, .int .i64 kA, .int .i64 lA, .int .i64 mA, .int .i64 nA, .int .i64 oA, .int .i64 pA] 89 (0, 0)) q1_2 hb); have rA := Aside0.mk (below_step q1_1 hb); have uA := Aside0.mk (hbox); have vA := Aside0.mk ((q1_10 : w.heap.size ≤ eA)); have bB := Aside0.mk ((q1_10 : w.heap.size ≤ eA)); have cB := Aside0.mk ((q1_3 : dA ≠ eA)); have dB := Aside0.mk ((q1_4 : eA ≠ dA)); clear aA HB; have aA := qA; have HB := rA; have bA := uA; have gB := vA; have eB := bB; have gA := cB; have hA := dB; clear qA rA uA vA bB cB dB; clear hb hbox hg; have MJ := gA.out; have NJ := hA.out; have lD : wB.cell? ⟨dA, 0, none⟩ = some (.int .i64 iA) := (blk_cell aA.out 0).trans rfl; have mD : wB.cell? ⟨dA, 1, none⟩ = some (.int .i64 jA) := (blk_cell aA.out 1).trans rfl; have nD : wB.cell? ⟨dA, 2, none⟩ = some (.int .i64 kA) := (blk_cell aA.out 2).trans rfl; have oD : wB.cell? ⟨dA, 3, none⟩ = some (.int .i64 lA) := (blk_cell aA.out 3).trans rfl; have pD : wB.cell? ⟨dA, 4, none⟩ = some (.int .i64 mA) := (blk_cell aA.out 4).trans rfl; have qD : wB.cell? ⟨dA, 5, none⟩ = some (.int .i64 nA) := (blk_cell aA.out 5).trans rfl; have rD : wB.cell? ⟨dA, 6, none⟩ = some (.int .i64 oA) := (blk_cell aA.out 6).trans rfl; have sD : wB.cell? ⟨dA, 7, none⟩ = some (.int .i64 pA) := (blk_cell aA.out 7).trans rfl; have tD := blk_frozen aA.out 0; have uD := blk_frozen aA.out 1; have vD := blk_frozen aA.out 2; have wD := blk_frozen aA.out 3; have xD := blk_frozen aA.out 4; have yD := blk_frozen aA.out 5; have zD := blk_frozen aA.out 6; have AD := blk_frozen aA.out 7; have BD : wB.cell? ⟨eA, 0, none⟩ = some (.int .i64 NA) := (blk_cell bA.out 0).trans rfl; have CD : wB.cell? ⟨eA, 1, none⟩ = some (.int .i64 OA) := (blk_cell bA.out 1).trans rfl; have DD : wB.cell? ⟨eA, 2, none⟩ = some (.int .i64 PA) := (blk_cell bA.out 2).trans rfl; have ED : wB.cell? ⟨eA, 3, none⟩ = some (.int .i64 QA) := (blk_cell bA.out 3).trans rfl; have FD : wB.cell? ⟨eA, 4, none⟩ = some (.int .i64 RA) := (blk_cell bA.out 4).trans rfl; have GD : wB.cell? ⟨eA, 5, none⟩ = some (.int .i64 SA) := (blk_cell bA.out 5).trans rfl; have HD : wB.cell? ⟨eA, 6, none⟩ = some (.int .i64 TA) := (blk_cell bA.out 6).trans rfl; have ID : wB.cell? ⟨eA, 7, none⟩ = some (.int .i64 UA) := (blk_cell bA.out 7).trans rfl; have JD := blk_frozen bA.out 0; have KD := blk_frozen bA.out 1; have LD := blk_frozen bA.out 2; have MD := blk_frozen bA.out 3; have ND := blk_frozen bA.out 4; have OD := blk_frozen bA.out 5; have PD := blk_frozen bA.out 6; have QD := blk_frozen bA.out 7))
         go_ret
         exact ⟨q1_6, q1_5⟩
       ·rw [if_neg c9] at H
        have xC : (oA == TA) = false := beq_eq_false_iff_ne.mpr c9
        have CI : (oA != TA) = true := bne_iff_ne.mpr c9
        obtain rfl := Option.some.inj H
        go_enter Try.func68, Try.ntmps68
        go_wp2_with (first | ((with_reducible refine gate_dst (N := 2) rfl ?_); refine box_event ?hg (N := 2) ?hd (cs := #[.int .i64 iA, .int .i64 jA, .int .i64 kA, .int .i64 lA, .int .i64 mA, .int .i64 nA, .int .i64 oA, .int .i64 pA]) (t := 89) ?hr ?_; (case hd => rfl); (case hg => rfl); (case hr => first | (go_simp; done) | (go_simp; rfl)); intro dA hg qK hbox hb; have qA := Aside0.mk (below_step q1_0 hb); have rA := Aside0.mk (hbox); have uA := Aside0.mk ((q1_8 : w.heap.size ≤ dA)); have vA := Aside0.mk ((q1_8 : w.heap.size ≤ dA)); clear HB; have HB := qA; have aA := rA; have fB := uA; have aB := vA; clear qA rA uA vA; clear hb hbox hg) | ((with_reducible refine gate_dst (N := 3) rfl ?_); refine box_event ?hg (N := 3) ?hd (cs := #[.int .i64 NA, .int .i64 OA, .int .i64 PA, .int .i64 QA, .int .i64 RA, .int .i64 SA, .int .i64 TA, .int .i64 UA]) (t := 89) ?hr ?_; (case hd => rfl); (case hg => rfl); (case hr => first | (go_simp; done) | (go_simp; rfl)); intro eA hg xB hbox hb; have qA := Aside0.mk (blk_below (g := dA) (o := .cells #[.int .i64 iA, .int .i64 jA, .int .i64 kA, .int .i64 lA, .int .i64 mA, .int .i64 nA, .int .i64 oA, .int .i64 pA] 89 (0, 0)) q1_2 hb); have rA := Aside0.mk (below_step q1_1 hb); have uA := Aside0.mk (hbox); have vA := Aside0.mk ((q1_10 : w.heap.size ≤ eA)); have bB := Aside0.mk ((q1_10 : w.heap.size ≤ eA)); have cB := Aside0.mk ((q1_3 : dA ≠ eA)); have dB := Aside0.mk ((q1_4 : eA ≠ dA)); clear aA HB; have aA := qA; have HB := rA; have bA := uA; have gB := vA; have eB := bB; have gA := cB; have hA := dB; clear qA rA uA vA bB cB dB; clear hb hbox hg; have OJ := gA.out; have PJ := hA.out; have RD : xB.cell? ⟨dA, 0, none⟩ = some (.int .i64 iA) := (blk_cell aA.out 0).trans rfl; have SD : xB.cell? ⟨dA, 1, none⟩ = some (.int .i64 jA) := (blk_cell aA.out 1).trans rfl; have TD : xB.cell? ⟨dA, 2, none⟩ = some (.int .i64 kA) := (blk_cell aA.out 2).trans rfl; have UD : xB.cell? ⟨dA, 3, none⟩ = some (.int .i64 lA) := (blk_cell aA.out 3).trans rfl; have VD : xB.cell? ⟨dA, 4, none⟩ = some (.int .i64 mA) := (blk_cell aA.out 4).trans rfl; have WD : xB.cell? ⟨dA, 5, none⟩ = some (.int .i64 nA) := (blk_cell aA.out 5).trans rfl; have XD : xB.cell? ⟨dA, 6, none⟩ = some (.int .i64 oA) := (blk_cell aA.out 6).trans rfl; have YD : xB.cell? ⟨dA, 7, none⟩ = some (.int .i64 pA) := (blk_cell aA.out 7).trans rfl; have ZD := blk_frozen aA.out 0; have aE := blk_frozen aA.out 1; have bE := blk_frozen aA.out 2; have cE := blk_frozen aA.out 3; have dE := blk_frozen aA.out 4; have eE := blk_frozen aA.out 5; have fE := blk_frozen aA.out 6; have gE := blk_frozen aA.out 7; have hE : xB.cell? ⟨eA, 0, none⟩ = some (.int .i64 NA) := (blk_cell bA.out 0).trans rfl; have iE : xB.cell? ⟨eA, 1, none⟩ = some (.int .i64 OA) := (blk_cell bA.out 1).trans rfl; have jE : xB.cell? ⟨eA, 2, none⟩ = some (.int .i64 PA) := (blk_cell bA.out 2).trans rfl; have kE : xB.cell? ⟨eA, 3, none⟩ = some (.int .i64 QA) := (blk_cell bA.out 3).trans rfl; have lE : xB.cell? ⟨eA, 4, none⟩ = some (.int .i64 RA) := (blk_cell bA.out 4).trans rfl; have mE : xB.cell? ⟨eA, 5, none⟩ = some (.int .i64 SA) := (blk_cell bA.out 5).trans rfl; have nE : xB.cell? ⟨eA, 6, none⟩ = some (.int .i64 TA) := (blk_cell bA.out 6).trans rfl; have oE : xB.cell? ⟨eA, 7, none⟩ = some (.int .i64 UA) := (blk_cell bA.out 7).trans rfl; have pE := blk_frozen bA.out 0; have qE := blk_frozen bA.out 1; have rE := blk_frozen bA.out 2; have sE := blk_frozen bA.out 3; have tE := blk_frozen bA.out 4; have uE := blk_frozen bA.out 5; have vE := blk_frozen bA.out 6; have wE := blk_frozen bA.out 7))
        go_ret
        exact ⟨q1_6, q1_5⟩
      ·rw [if_neg c8] at H
       have AI : (nA == SA) = false := beq_eq_false_iff_ne.mpr c8
       have BI : (nA != SA) = true := bne_iff_ne.mpr c8
       obtain rfl := Option.some.inj H
       go_enter Try.func68, Try.ntmps68
       go_wp2_with (first | ((with_reducible refine gate_dst (N := 2) rfl ?_); refine box_event ?hg (N := 2) ?hd (cs := #[.int .i64 iA, .int .i64 jA, .int .i64 kA, .int .i64 lA, .int .i64 mA, .int .i64 nA, .int .i64 oA, .int .i64 pA]) (t := 89) ?hr ?_; (case hd => rfl); (case hg => rfl); (case hr => first | (go_simp; done) | (go_simp; rfl)); intro dA hg rK hbox hb; have qA := Aside0.mk (below_step q1_0 hb); have rA := Aside0.mk (hbox); have uA := Aside0.mk ((q1_8 : w.heap.size ≤ dA)); have vA := Aside0.mk ((q1_8 : w.heap.size ≤ dA)); clear HB; have HB := qA; have aA := rA; have fB := uA; have aB := vA; clear qA rA uA vA; clear hb hbox hg) | ((with_reducible refine gate_dst (N := 3) rfl ?_); refine box_event ?hg (N := 3) ?hd (cs := #[.int .i64 NA, .int .i64 OA, .int .i64 PA, .int .i64 QA, .int .i64 RA, .int .i64 SA, .int .i64 TA, .int .i64 UA]) (t := 89) ?hr ?_; (case hd => rfl); (case hg => rfl); (case hr => first | (go_simp; done) | (go_simp; rfl)); intro eA hg yB hbox hb; have qA := Aside0.mk (blk_below (g := dA) (o := .cells #[.int .i64 iA, .int .i64 jA, .int .i64 kA, .int .i64 lA, .int .i64 mA, .int .i64 nA, .int .i64 oA, .int .i64 pA] 89 (0, 0)) q1_2 hb); have rA := Aside0.mk (below_step q1_1 hb); have uA := Aside0.mk (hbox); have vA := Aside0.mk ((q1_10 : w.heap.size ≤ eA)); have bB := Aside0.mk ((q1_10 : w.heap.size ≤ eA)); have cB := Aside0.mk ((q1_3 : dA ≠ eA)); have dB := Aside0.mk ((q1_4 : eA ≠ dA)); clear aA HB; have aA := qA; have HB := rA; have bA := uA; have gB := vA; have eB := bB; have gA := cB; have hA := dB; clear qA rA uA vA bB cB dB; clear hb hbox hg; have QJ := gA.out; have RJ := hA.out; have xE : yB.cell? ⟨dA, 0, none⟩ = some (.int .i64 iA) := (blk_cell aA.out 0).trans rfl; have yE : yB.cell? ⟨dA, 1, none⟩ = some (.int .i64 jA) := (blk_cell aA.out 1).trans rfl; have zE : yB.cell? ⟨dA, 2, none⟩ = some (.int .i64 kA) := (blk_cell aA.out 2).trans rfl; have AE : yB.cell? ⟨dA, 3, none⟩ = some (.int .i64 lA) := (blk_cell aA.out 3).trans rfl; have BE : yB.cell? ⟨dA, 4, none⟩ = some (.int .i64 mA) := (blk_cell aA.out 4).trans rfl; have CE : yB.cell? ⟨dA, 5, none⟩ = some (.int .i64 nA) := (blk_cell aA.out 5).trans rfl; have DE : yB.cell? ⟨dA, 6, none⟩ = some (.int .i64 oA) := (blk_cell aA.out 6).trans rfl; have EE : yB.cell? ⟨dA, 7, none⟩ = some (.int .i64 pA) := (blk_cell aA.out 7).trans rfl; have FE := blk_frozen aA.out 0; have GE := blk_frozen aA.out 1; have HE := blk_frozen aA.out 2; have IE := blk_frozen aA.out 3; have JE := blk_frozen aA.out 4; have KE := blk_frozen aA.out 5; have LE := blk_frozen aA.out 6; have ME := blk_frozen aA.out 7; have NE : yB.cell? ⟨eA, 0, none⟩ = some (.int .i64 NA) := (blk_cell bA.out 0).trans rfl; have OE : yB.cell? ⟨eA, 1, none⟩ = some (.int .i64 OA) := (blk_cell bA.out 1).trans rfl; have PE : yB.cell? ⟨eA, 2, none⟩ = some (.int .i64 PA) := (blk_cell bA.out 2).trans rfl; have QE : yB.cell? ⟨eA, 3, none⟩ = some (.int .i64 QA) := (blk_cell bA.out 3).trans rfl; have RE : yB.cell? ⟨eA, 4, none⟩ = some (.int .i64 RA) := (blk_cell bA.out 4).trans rfl; have SE : yB.cell? ⟨eA, 5, none⟩ = some (.int .i64 SA) := (blk_cell bA.out 5).trans rfl; have TE : yB.cell? ⟨eA, 6, none⟩ = some (.int .i64 TA) := (blk_cell bA.out 6).trans rfl; have UE : yB.cell? ⟨eA, 7, none⟩ = some (.int .i64 UA) := (blk_cell bA.out 7).trans rfl; have VE := blk_frozen bA.out 0; have WE := blk_frozen bA.out 1; have XE := blk_frozen bA.out 2; have YE := blk_frozen bA.out 3; have ZE := blk_frozen bA.out 4; have aF := blk_frozen bA.out 5; have bF := blk_frozen bA.out 6; have cF := blk_frozen bA.out 7))
       go_ret
       exact ⟨q1_6, q1_5⟩
     ·rw [if_neg c7] at H
      have WB : (mA == RA) = false := beq_eq_false_iff_ne.mpr c7
      have bC : (mA != RA) = true := bne_iff_ne.mpr c7
      obtain rfl := Option.some.inj H
      go_enter Try.func68, Try.ntmps68
      go_wp2_with (first | ((with_reducible refine gate_dst (N := 2) rfl ?_); refine box_event ?hg (N := 2) ?hd (cs := #[.int .i64 iA, .int .i64 jA, .int .i64 kA, .int .i64 lA, .int .i64 mA, .int .i64 nA, .int .i64 oA, .int .i64 pA]) (t := 89) ?hr ?_; (case hd => rfl); (case hg => rfl); (case hr => first | (go_simp; done) | (go_simp; rfl)); intro dA hg sK hbox hb; have qA := Aside0.mk (below_step q1_0 hb); have rA := Aside0.mk (hbox); have uA := Aside0.mk ((q1_8 : w.heap.size ≤ dA)); have vA := Aside0.mk ((q1_8 : w.heap.size ≤ dA)); clear HB; have HB := qA; have aA := rA; have fB := uA; have aB := vA; clear qA rA uA vA; clear hb hbox hg) | ((with_reducible refine gate_dst (N := 3) rfl ?_); refine box_event ?hg (N := 3) ?hd (cs := #[.int .i64 NA, .int .i64 OA, .int .i64 PA, .int .i64 QA, .int .i64 RA, .int .i64 SA, .int .i64 TA, .int .i64 UA]) (t := 89) ?hr ?_; (case hd => rfl); (case hg => rfl); (case hr => first | (go_simp; done) | (go_simp; rfl)); intro eA hg zB hbox hb; have qA := Aside0.mk (blk_below (g := dA) (o := .cells #[.int .i64 iA, .int .i64 jA, .int .i64 kA, .int .i64 lA, .int .i64 mA, .int .i64 nA, .int .i64 oA, .int .i64 pA] 89 (0, 0)) q1_2 hb); have rA := Aside0.mk (below_step q1_1 hb); have uA := Aside0.mk (hbox); have vA := Aside0.mk ((q1_10 : w.heap.size ≤ eA)); have bB := Aside0.mk ((q1_10 : w.heap.size ≤ eA)); have cB := Aside0.mk ((q1_3 : dA ≠ eA)); have dB := Aside0.mk ((q1_4 : eA ≠ dA)); clear aA HB; have aA := qA; have HB := rA; have bA := uA; have gB := vA; have eB := bB; have gA := cB; have hA := dB; clear qA rA uA vA bB cB dB; clear hb hbox hg; have SJ := gA.out; have TJ := hA.out; have dF : zB.cell? ⟨dA, 0, none⟩ = some (.int .i64 iA) := (blk_cell aA.out 0).trans rfl; have eF : zB.cell? ⟨dA, 1, none⟩ = some (.int .i64 jA) := (blk_cell aA.out 1).trans rfl; have fF : zB.cell? ⟨dA, 2, none⟩ = some (.int .i64 kA) := (blk_cell aA.out 2).trans rfl; have gF : zB.cell? ⟨dA, 3, none⟩ = some (.int .i64 lA) := (blk_cell aA.out 3).trans rfl; have hF : zB.cell? ⟨dA, 4, none⟩ = some (.int .i64 mA) := (blk_cell aA.out 4).trans rfl; have iF : zB.cell? ⟨dA, 5, none⟩ = some (.int .i64 nA) := (blk_cell aA.out 5).trans rfl; have jF : zB.cell? ⟨dA, 6, none⟩ = some (.int .i64 oA) := (blk_cell aA.out 6).trans rfl; have kF : zB.cell? ⟨dA, 7, none⟩ = some (.int .i64 pA) := (blk_cell aA.out 7).trans rfl; have lF := blk_frozen aA.out 0; have mF := blk_frozen aA.out 1; have nF := blk_frozen aA.out 2; have oF := blk_frozen aA.out 3; have pF := blk_frozen aA.out 4; have qF := blk_frozen aA.out 5; have rF := blk_frozen aA.out 6; have sF := blk_frozen aA.out 7; have tF : zB.cell? ⟨eA, 0, none⟩ = some (.int .i64 NA) := (blk_cell bA.out 0).trans rfl; have uF : zB.cell? ⟨eA, 1, none⟩ = some (.int .i64 OA) := (blk_cell bA.out 1).trans rfl; have vF : zB.cell? ⟨eA, 2, none⟩ = some (.int .i64 PA) := (blk_cell bA.out 2).trans rfl; have wF : zB.cell? ⟨eA, 3, none⟩ = some (.int .i64 QA) := (blk_cell bA.out 3).trans rfl; have xF : zB.cell? ⟨eA, 4, none⟩ = some (.int .i64 RA) := (blk_cell bA.out 4).trans rfl; have yF : zB.cell? ⟨eA, 5, none⟩ = some (.int .i64 SA) := (blk_cell bA.out 5).trans rfl; have zF : zB.cell? ⟨eA, 6, none⟩ = some (.int .i64 TA) := (blk_cell bA.out 6).trans rfl; have AF : zB.cell? ⟨eA, 7, none⟩ = some (.int .i64 UA) := (blk_cell bA.out 7).trans rfl; have BF := blk_frozen bA.out 0; have CF := blk_frozen bA.out 1; have DF := blk_frozen bA.out 2; have EF := blk_frozen bA.out 3; have FF := blk_frozen bA.out 4; have GF := blk_frozen bA.out 5; have HF := blk_frozen bA.out 6; have IF := blk_frozen bA.out 7))
      go_ret
      exact ⟨q1_6, q1_5⟩
    ·rw [if_neg c6] at H
     have VB : (lA == QA) = false := beq_eq_false_iff_ne.mpr c6
     have zI : (lA != QA) = true := bne_iff_ne.mpr c6
     obtain rfl := Option.some.inj H
     go_enter Try.func68, Try.ntmps68
     go_wp2_with (first | ((with_reducible refine gate_dst (N := 2) rfl ?_); refine box_event ?hg (N := 2) ?hd (cs := #[.int .i64 iA, .int .i64 jA, .int .i64 kA, .int .i64 lA, .int .i64 mA, .int .i64 nA, .int .i64 oA, .int .i64 pA]) (t := 89) ?hr ?_; (case hd => rfl); (case hg => rfl); (case hr => first | (go_simp; done) | (go_simp; rfl)); intro dA hg tK hbox hb; have qA := Aside0.mk (below_step q1_0 hb); have rA := Aside0.mk (hbox); have uA := Aside0.mk ((q1_8 : w.heap.size ≤ dA)); have vA := Aside0.mk ((q1_8 : w.heap.size ≤ dA)); clear HB; have HB := qA; have aA := rA; have fB := uA; have aB := vA; clear qA rA uA vA; clear hb hbox hg) | ((with_reducible refine gate_dst (N := 3) rfl ?_); refine box_event ?hg (N := 3) ?hd (cs := #[.int .i64 NA, .int .i64 OA, .int .i64 PA, .int .i64 QA, .int .i64 RA, .int .i64 SA, .int .i64 TA, .int .i64 UA]) (t := 89) ?hr ?_; (case hd => rfl); (case hg => rfl); (case hr => first | (go_simp; done) | (go_simp; rfl)); intro eA hg AB hbox hb; have qA := Aside0.mk (blk_below (g := dA) (o := .cells #[.int .i64 iA, .int .i64 jA, .int .i64 kA, .int .i64 lA, .int .i64 mA, .int .i64 nA, .int .i64 oA, .int .i64 pA] 89 (0, 0)) q1_2 hb); have rA := Aside0.mk (below_step q1_1 hb); have uA := Aside0.mk (hbox); have vA := Aside0.mk ((q1_10 : w.heap.size ≤ eA)); have bB := Aside0.mk ((q1_10 : w.heap.size ≤ eA)); have cB := Aside0.mk ((q1_3 : dA ≠ eA)); have dB := Aside0.mk ((q1_4 : eA ≠ dA)); clear aA HB; have aA := qA; have HB := rA; have bA := uA; have gB := vA; have eB := bB; have gA := cB; have hA := dB; clear qA rA uA vA bB cB dB; clear hb hbox hg; have UJ := gA.out; have VJ := hA.out; have JF : AB.cell? ⟨dA, 0, none⟩ = some (.int .i64 iA) := (blk_cell aA.out 0).trans rfl; have KF : AB.cell? ⟨dA, 1, none⟩ = some (.int .i64 jA) := (blk_cell aA.out 1).trans rfl; have LF : AB.cell? ⟨dA, 2, none⟩ = some (.int .i64 kA) := (blk_cell aA.out 2).trans rfl; have MF : AB.cell? ⟨dA, 3, none⟩ = some (.int .i64 lA) := (blk_cell aA.out 3).trans rfl; have NF : AB.cell? ⟨dA, 4, none⟩ = some (.int .i64 mA) := (blk_cell aA.out 4).trans rfl; have OF : AB.cell? ⟨dA, 5, none⟩ = some (.int .i64 nA) := (blk_cell aA.out 5).trans rfl; have PF : AB.cell? ⟨dA, 6, none⟩ = some (.int .i64 oA) := (blk_cell aA.out 6).trans rfl; have QF : AB.cell? ⟨dA, 7, none⟩ = some (.int .i64 pA) := (blk_cell aA.out 7).trans rfl; have RF := blk_frozen aA.out 0; have SF := blk_frozen aA.out 1; have TF := blk_frozen aA.out 2; have UF := blk_frozen aA.out 3; have VF := blk_frozen aA.out 4; have WF := blk_frozen aA.out 5; have XF := blk_frozen aA.out 6; have YF := blk_frozen aA.out 7; have ZF : AB.cell? ⟨eA, 0, none⟩ = some (.int .i64 NA) := (blk_cell bA.out 0).trans rfl; have aG : AB.cell? ⟨eA, 1, none⟩ = some (.int .i64 OA) := (blk_cell bA.out 1).trans rfl; have bG : AB.cell? ⟨eA, 2, none⟩ = some (.int .i64 PA) := (blk_cell bA.out 2).trans rfl; have cG : AB.cell? ⟨eA, 3, none⟩ = some (.int .i64 QA) := (blk_cell bA.out 3).trans rfl; have dG : AB.cell? ⟨eA, 4, none⟩ = some (.int .i64 RA) := (blk_cell bA.out 4).trans rfl; have eG : AB.cell? ⟨eA, 5, none⟩ = some (.int .i64 SA) := (blk_cell bA.out 5).trans rfl; have fG : AB.cell? ⟨eA, 6, none⟩ = some (.int .i64 TA) := (blk_cell bA.out 6).trans rfl; have gG : AB.cell? ⟨eA, 7, none⟩ = some (.int .i64 UA) := (blk_cell bA.out 7).trans rfl; have hG := blk_frozen bA.out 0; have iG := blk_frozen bA.out 1; have jG := blk_frozen bA.out 2; have kG := blk_frozen bA.out 3; have lG := blk_frozen bA.out 4; have mG := blk_frozen bA.out 5; have nG := blk_frozen bA.out 6; have oG := blk_frozen bA.out 7))
     go_ret
     exact ⟨q1_6, q1_5⟩
   ·rw [if_neg c5] at H
    have aC : (kA == PA) = false := beq_eq_false_iff_ne.mpr c5
    have yI : (kA != PA) = true := bne_iff_ne.mpr c5
    obtain rfl := Option.some.inj H
    go_enter Try.func68, Try.ntmps68
    go_wp2_with (first | ((with_reducible refine gate_dst (N := 2) rfl ?_); refine box_event ?hg (N := 2) ?hd (cs := #[.int .i64 iA, .int .i64 jA, .int .i64 kA, .int .i64 lA, .int .i64 mA, .int .i64 nA, .int .i64 oA, .int .i64 pA]) (t := 89) ?hr ?_; (case hd => rfl); (case hg => rfl); (case hr => first | (go_simp; done) | (go_simp; rfl)); intro dA hg uK hbox hb; have qA := Aside0.mk (below_step q1_0 hb); have rA := Aside0.mk (hbox); have uA := Aside0.mk ((q1_8 : w.heap.size ≤ dA)); have vA := Aside0.mk ((q1_8 : w.heap.size ≤ dA)); clear HB; have HB := qA; have aA := rA; have fB := uA; have aB := vA; clear qA rA uA vA; clear hb hbox hg) | ((with_reducible refine gate_dst (N := 3) rfl ?_); refine box_event ?hg (N := 3) ?hd (cs := #[.int .i64 NA, .int .i64 OA, .int .i64 PA, .int .i64 QA, .int .i64 RA, .int .i64 SA, .int .i64 TA, .int .i64 UA]) (t := 89) ?hr ?_; (case hd => rfl); (case hg => rfl); (case hr => first | (go_simp; done) | (go_simp; rfl)); intro eA hg BB hbox hb; have qA := Aside0.mk (blk_below (g := dA) (o := .cells #[.int .i64 iA, .int .i64 jA, .int .i64 kA, .int .i64 lA, .int .i64 mA, .int .i64 nA, .int .i64 oA, .int .i64 pA] 89 (0, 0)) q1_2 hb); have rA := Aside0.mk (below_step q1_1 hb); have uA := Aside0.mk (hbox); have vA := Aside0.mk ((q1_10 : w.heap.size ≤ eA)); have bB := Aside0.mk ((q1_10 : w.heap.size ≤ eA)); have cB := Aside0.mk ((q1_3 : dA ≠ eA)); have dB := Aside0.mk ((q1_4 : eA ≠ dA)); clear aA HB; have aA := qA; have HB := rA; have bA := uA; have gB := vA; have eB := bB; have gA := cB; have hA := dB; clear qA rA uA vA bB cB dB; clear hb hbox hg; have WJ := gA.out; have XJ := hA.out; have pG : BB.cell? ⟨dA, 0, none⟩ = some (.int .i64 iA) := (blk_cell aA.out 0).trans rfl; have qG : BB.cell? ⟨dA, 1, none⟩ = some (.int .i64 jA) := (blk_cell aA.out 1).trans rfl; have rG : BB.cell? ⟨dA, 2, none⟩ = some (.int .i64 kA) := (blk_cell aA.out 2).trans rfl; have sG : BB.cell? ⟨dA, 3, none⟩ = some (.int .i64 lA) := (blk_cell aA.out 3).trans rfl; have tG : BB.cell? ⟨dA, 4, none⟩ = some (.int .i64 mA) := (blk_cell aA.out 4).trans rfl; have uG : BB.cell? ⟨dA, 5, none⟩ = some (.int .i64 nA) := (blk_cell aA.out 5).trans rfl; have vG : BB.cell? ⟨dA, 6, none⟩ = some (.int .i64 oA) := (blk_cell aA.out 6).trans rfl; have wG : BB.cell? ⟨dA, 7, none⟩ = some (.int .i64 pA) := (blk_cell aA.out 7).trans rfl; have xG := blk_frozen aA.out 0; have yG := blk_frozen aA.out 1; have zG := blk_frozen aA.out 2; have AG := blk_frozen aA.out 3; have BG := blk_frozen aA.out 4; have CG := blk_frozen aA.out 5; have DG := blk_frozen aA.out 6; have EG := blk_frozen aA.out 7; have FG : BB.cell? ⟨eA, 0, none⟩ = some (.int .i64 NA) := (blk_cell bA.out 0).trans rfl; have GG : BB.cell? ⟨eA, 1, none⟩ = some (.int .i64 OA) := (blk_cell bA.out 1).trans rfl; have HG : BB.cell? ⟨eA, 2, none⟩ = some (.int .i64 PA) := (blk_cell bA.out 2).trans rfl; have IG : BB.cell? ⟨eA, 3, none⟩ = some (.int .i64 QA) := (blk_cell bA.out 3).trans rfl; have JG : BB.cell? ⟨eA, 4, none⟩ = some (.int .i64 RA) := (blk_cell bA.out 4).trans rfl; have KG : BB.cell? ⟨eA, 5, none⟩ = some (.int .i64 SA) := (blk_cell bA.out 5).trans rfl; have LG : BB.cell? ⟨eA, 6, none⟩ = some (.int .i64 TA) := (blk_cell bA.out 6).trans rfl; have MG : BB.cell? ⟨eA, 7, none⟩ = some (.int .i64 UA) := (blk_cell bA.out 7).trans rfl; have NG := blk_frozen bA.out 0; have OG := blk_frozen bA.out 1; have PG := blk_frozen bA.out 2; have QG := blk_frozen bA.out 3; have RG := blk_frozen bA.out 4; have SG := blk_frozen bA.out 5; have TG := blk_frozen bA.out 6; have UG := blk_frozen bA.out 7))
    go_ret
    exact ⟨q1_6, q1_5⟩
  ·rw [if_neg c4] at H
   have UB : (jA == OA) = false := beq_eq_false_iff_ne.mpr c4
   have xI : (jA != OA) = true := bne_iff_ne.mpr c4
   obtain rfl := Option.some.inj H
   go_enter Try.func68, Try.ntmps68
   go_wp2_with (first | ((with_reducible refine gate_dst (N := 2) rfl ?_); refine box_event ?hg (N := 2) ?hd (cs := #[.int .i64 iA, .int .i64 jA, .int .i64 kA, .int .i64 lA, .int .i64 mA, .int .i64 nA, .int .i64 oA, .int .i64 pA]) (t := 89) ?hr ?_; (case hd => rfl); (case hg => rfl); (case hr => first | (go_simp; done) | (go_simp; rfl)); intro dA hg vK hbox hb; have qA := Aside0.mk (below_step q1_0 hb); have rA := Aside0.mk (hbox); have uA := Aside0.mk ((q1_8 : w.heap.size ≤ dA)); have vA := Aside0.mk ((q1_8 : w.heap.size ≤ dA)); clear HB; have HB := qA; have aA := rA; have fB := uA; have aB := vA; clear qA rA uA vA; clear hb hbox hg) | ((with_reducible refine gate_dst (N := 3) rfl ?_); refine box_event ?hg (N := 3) ?hd (cs := #[.int .i64 NA, .int .i64 OA, .int .i64 PA, .int .i64 QA, .int .i64 RA, .int .i64 SA, .int .i64 TA, .int .i64 UA]) (t := 89) ?hr ?_; (case hd => rfl); (case hg => rfl); (case hr => first | (go_simp; done) | (go_simp; rfl)); intro eA hg CB hbox hb; have qA := Aside0.mk (blk_below (g := dA) (o := .cells #[.int .i64 iA, .int .i64 jA, .int .i64 kA, .int .i64 lA, .int .i64 mA, .int .i64 nA, .int .i64 oA, .int .i64 pA] 89 (0, 0)) q1_2 hb); have rA := Aside0.mk (below_step q1_1 hb); have uA := Aside0.mk (hbox); have vA := Aside0.mk ((q1_10 : w.heap.size ≤ eA)); have bB := Aside0.mk ((q1_10 : w.heap.size ≤ eA)); have cB := Aside0.mk ((q1_3 : dA ≠ eA)); have dB := Aside0.mk ((q1_4 : eA ≠ dA)); clear aA HB; have aA := qA; have HB := rA; have bA := uA; have gB := vA; have eB := bB; have gA := cB; have hA := dB; clear qA rA uA vA bB cB dB; clear hb hbox hg; have YJ := gA.out; have ZJ := hA.out; have VG : CB.cell? ⟨dA, 0, none⟩ = some (.int .i64 iA) := (blk_cell aA.out 0).trans rfl; have WG : CB.cell? ⟨dA, 1, none⟩ = some (.int .i64 jA) := (blk_cell aA.out 1).trans rfl; have XG : CB.cell? ⟨dA, 2, none⟩ = some (.int .i64 kA) := (blk_cell aA.out 2).trans rfl; have YG : CB.cell? ⟨dA, 3, none⟩ = some (.int .i64 lA) := (blk_cell aA.out 3).trans rfl; have ZG : CB.cell? ⟨dA, 4, none⟩ = some (.int .i64 mA) := (blk_cell aA.out 4).trans rfl; have aH : CB.cell? ⟨dA, 5, none⟩ = some (.int .i64 nA) := (blk_cell aA.out 5).trans rfl; have bH : CB.cell? ⟨dA, 6, none⟩ = some (.int .i64 oA) := (blk_cell aA.out 6).trans rfl; have cH : CB.cell? ⟨dA, 7, none⟩ = some (.int .i64 pA) := (blk_cell aA.out 7).trans rfl; have dH := blk_frozen aA.out 0; have eH := blk_frozen aA.out 1; have fH := blk_frozen aA.out 2; have gH := blk_frozen aA.out 3; have hH := blk_frozen aA.out 4; have iH := blk_frozen aA.out 5; have jH := blk_frozen aA.out 6; have kH := blk_frozen aA.out 7; have lH : CB.cell? ⟨eA, 0, none⟩ = some (.int .i64 NA) := (blk_cell bA.out 0).trans rfl; have mH : CB.cell? ⟨eA, 1, none⟩ = some (.int .i64 OA) := (blk_cell bA.out 1).trans rfl; have nH : CB.cell? ⟨eA, 2, none⟩ = some (.int .i64 PA) := (blk_cell bA.out 2).trans rfl; have oH : CB.cell? ⟨eA, 3, none⟩ = some (.int .i64 QA) := (blk_cell bA.out 3).trans rfl; have pH : CB.cell? ⟨eA, 4, none⟩ = some (.int .i64 RA) := (blk_cell bA.out 4).trans rfl; have qH : CB.cell? ⟨eA, 5, none⟩ = some (.int .i64 SA) := (blk_cell bA.out 5).trans rfl; have rH : CB.cell? ⟨eA, 6, none⟩ = some (.int .i64 TA) := (blk_cell bA.out 6).trans rfl; have sH : CB.cell? ⟨eA, 7, none⟩ = some (.int .i64 UA) := (blk_cell bA.out 7).trans rfl; have tH := blk_frozen bA.out 0; have uH := blk_frozen bA.out 1; have vH := blk_frozen bA.out 2; have wH := blk_frozen bA.out 3; have xH := blk_frozen bA.out 4; have yH := blk_frozen bA.out 5; have zH := blk_frozen bA.out 6; have AH := blk_frozen bA.out 7))
   go_ret
   exact ⟨q1_6, q1_5⟩
 ·rw [if_neg c3] at H
  have iB : (iA == NA) = false := beq_eq_false_iff_ne.mpr c3
  have mB : (iA != NA) = true := bne_iff_ne.mpr c3
  obtain rfl := Option.some.inj H
  go_enter Try.func68, Try.ntmps68
  go_wp2_with (first | ((with_reducible refine gate_dst (N := 2) rfl ?_); refine box_event ?hg (N := 2) ?hd (cs := #[.int .i64 iA, .int .i64 jA, .int .i64 kA, .int .i64 lA, .int .i64 mA, .int .i64 nA, .int .i64 oA, .int .i64 pA]) (t := 89) ?hr ?_; (case hd => rfl); (case hg => rfl); (case hr => first | (go_simp; done) | (go_simp; rfl)); intro dA hg wK hbox hb; have qA := Aside0.mk (below_step q1_0 hb); have rA := Aside0.mk (hbox); have uA := Aside0.mk ((q1_8 : w.heap.size ≤ dA)); have vA := Aside0.mk ((q1_8 : w.heap.size ≤ dA)); clear HB; have HB := qA; have aA := rA; have fB := uA; have aB := vA; clear qA rA uA vA; clear hb hbox hg) | ((with_reducible refine gate_dst (N := 3) rfl ?_); refine box_event ?hg (N := 3) ?hd (cs := #[.int .i64 NA, .int .i64 OA, .int .i64 PA, .int .i64 QA, .int .i64 RA, .int .i64 SA, .int .i64 TA, .int .i64 UA]) (t := 89) ?hr ?_; (case hd => rfl); (case hg => rfl); (case hr => first | (go_simp; done) | (go_simp; rfl)); intro eA hg DB hbox hb; have qA := Aside0.mk (blk_below (g := dA) (o := .cells #[.int .i64 iA, .int .i64 jA, .int .i64 kA, .int .i64 lA, .int .i64 mA, .int .i64 nA, .int .i64 oA, .int .i64 pA] 89 (0, 0)) q1_2 hb); have rA := Aside0.mk (below_step q1_1 hb); have uA := Aside0.mk (hbox); have vA := Aside0.mk ((q1_10 : w.heap.size ≤ eA)); have bB := Aside0.mk ((q1_10 : w.heap.size ≤ eA)); have cB := Aside0.mk ((q1_3 : dA ≠ eA)); have dB := Aside0.mk ((q1_4 : eA ≠ dA)); clear aA HB; have aA := qA; have HB := rA; have bA := uA; have gB := vA; have eB := bB; have gA := cB; have hA := dB; clear qA rA uA vA bB cB dB; clear hb hbox hg; have aK := gA.out; have bK := hA.out; have BH : DB.cell? ⟨dA, 0, none⟩ = some (.int .i64 iA) := (blk_cell aA.out 0).trans rfl; have CH : DB.cell? ⟨dA, 1, none⟩ = some (.int .i64 jA) := (blk_cell aA.out 1).trans rfl; have DH : DB.cell? ⟨dA, 2, none⟩ = some (.int .i64 kA) := (blk_cell aA.out 2).trans rfl; have EH : DB.cell? ⟨dA, 3, none⟩ = some (.int .i64 lA) := (blk_cell aA.out 3).trans rfl; have FH : DB.cell? ⟨dA, 4, none⟩ = some (.int .i64 mA) := (blk_cell aA.out 4).trans rfl; have GH : DB.cell? ⟨dA, 5, none⟩ = some (.int .i64 nA) := (blk_cell aA.out 5).trans rfl; have HH : DB.cell? ⟨dA, 6, none⟩ = some (.int .i64 oA) := (blk_cell aA.out 6).trans rfl; have IH : DB.cell? ⟨dA, 7, none⟩ = some (.int .i64 pA) := (blk_cell aA.out 7).trans rfl; have JH := blk_frozen aA.out 0; have KH := blk_frozen aA.out 1; have LH := blk_frozen aA.out 2; have MH := blk_frozen aA.out 3; have NH := blk_frozen aA.out 4; have OH := blk_frozen aA.out 5; have PH := blk_frozen aA.out 6; have QH := blk_frozen aA.out 7; have RH : DB.cell? ⟨eA, 0, none⟩ = some (.int .i64 NA) := (blk_cell bA.out 0).trans rfl; have SH : DB.cell? ⟨eA, 1, none⟩ = some (.int .i64 OA) := (blk_cell bA.out 1).trans rfl; have TH : DB.cell? ⟨eA, 2, none⟩ = some (.int .i64 PA) := (blk_cell bA.out 2).trans rfl; have UH : DB.cell? ⟨eA, 3, none⟩ = some (.int .i64 QA) := (blk_cell bA.out 3).trans rfl; have VH : DB.cell? ⟨eA, 4, none⟩ = some (.int .i64 RA) := (blk_cell bA.out 4).trans rfl; have WH : DB.cell? ⟨eA, 5, none⟩ = some (.int .i64 SA) := (blk_cell bA.out 5).trans rfl; have XH : DB.cell? ⟨eA, 6, none⟩ = some (.int .i64 TA) := (blk_cell bA.out 6).trans rfl; have YH : DB.cell? ⟨eA, 7, none⟩ = some (.int .i64 UA) := (blk_cell bA.out 7).trans rfl; have ZH := blk_frozen bA.out 0; have aI := blk_frozen bA.out 1; have bI := blk_frozen bA.out 2; have cI := blk_frozen bA.out 3; have dI := blk_frozen bA.out 4; have eI := blk_frozen bA.out 5; have fI := blk_frozen bA.out 6; have gI := blk_frozen bA.out 7))
  go_ret
  exact ⟨q1_6, q1_5⟩

/-! ### laws_eqFactS: function 38 -/
def laws_eqFactS.l0 : Nat → List (S89) → List (S89) → Int → Option (Bool)
 | 0, _, _, _ => none
 | k + 1, x0, x1, x5 => if x5 < (x0.length : Int) then (if 0 ≤ x5 then (if x5 < (x1.length : Int) then ((laws_eqFact.f ((rd_T89 x0 x5).f0) ((rd_T89 x0 x5).f1) ((rd_T89 x0 x5).f2) ((rd_T89 x0 x5).f3) ((rd_T89 x0 x5).f4) ((rd_T89 x0 x5).f5) ((rd_T89 x0 x5).f6) ((rd_T89 x0 x5).f7) ((rd_T89 x1 x5).f0) ((rd_T89 x1 x5).f1) ((rd_T89 x1 x5).f2) ((rd_T89 x1 x5).f3) ((rd_T89 x1 x5).f4) ((rd_T89 x1 x5).f5) ((rd_T89 x1 x5).f6) ((rd_T89 x1 x5).f7)).bind fun eC => (if eC = true then (laws_eqFactS.l0 k x0 x1 (wrap64 (x5 + 1))) else (some false))) else (none)) else (none)) else (some true)
def laws_eqFactS.f (k : Nat) (l0 : List (S89)) (l1 : List (S89)) : Option (Bool) := if (l0.length : Int) = (l1.length : Int) then (laws_eqFactS.l0 k l0 l1 0) else (some false)
theorem laws_eqFactS.mono_l : ∀ k, (∀ y0 y1 y2, LeO (laws_eqFactS.l0 k y0 y1 y2) (laws_eqFactS.l0 (k + 1) y0 y1 y2))
 | 0 => fun _ _ _ r h => by simp [laws_eqFactS.l0] at h
 | k + 1 => by
  have ih0 := laws_eqFactS.mono_l k
  ·intro y0 y1 y2
   unfold laws_eqFactS.l0
   repeat' first
   | (with_reducible exact ih0 _ _ _)
   | (with_reducible exact LeO.refl _)
   | (with_reducible exact LeO.none _)
   | (with_reducible refine LeO.ite ?_ ?_)
   | (with_reducible refine LeO.bind ?_ (fun _ => ?_))
   | exact ih0 _ _ _
   | exact LeO.none _
   | refine LeO.ite ?_ ?_
   | refine LeO.bind ?_ (fun _ => ?_)
theorem laws_eqFactS.mono : ∀ a0 a1 k, LeO (laws_eqFactS.f k a0 a1) (laws_eqFactS.f (k + 1) a0 a1) := by
 intro a0 a1 k
 have ih0 := laws_eqFactS.mono_l k
 unfold laws_eqFactS.f
 repeat' first
   | (with_reducible exact ih0 _ _ _)
   | (with_reducible exact LeO.refl _)
   | (with_reducible exact LeO.none _)
   | (with_reducible refine LeO.ite ?_ ?_)
   | (with_reducible refine LeO.bind ?_ (fun _ => ?_))
   | exact ih0 _ _ _
   | exact LeO.none _
   | refine LeO.ite ?_ ?_
   | refine LeO.bind ?_ (fun _ => ?_)
def laws_eqFactS.T6 : Bool × List (List Nat × List Nat) := (true, [([], []), ([], []), ([0, 1], [0, 1]), ([2], [2]), ([], []), ([], []), ([4, 5], [4, 5]), ([6], [6]), ([3, 7], [3, 7]), ([8], [8])])
def laws_eqFactS.B6 : List Nat := [0, 0, 3, 7, 0, 0, 48, 112, 255, 511]
theorem laws_eqFactS.tab6 : rtab .any (opsOf Try.f38 6) = laws_eqFactS.T6 := by kernel_rfl
theorem laws_eqFactS.bits6 : waitsOk laws_eqFactS.T6.2 laws_eqFactS.B6 = true := by kernel_rfl
set_option maxHeartbeats 8000000 in
set_option maxRecDepth 100000 in
theorem laws_eqFactS.calls (k : Nat) (A0 : Option Addr) (c0 : Nat) (l0 : List (S89)) (A1 : Option Addr) (c1 : Nat) (l1 : List (S89)) (r : Bool) (w : World) (hr0 : Kd.C k89 w A0 l0.length l0) (hc0 : l0.length ≤ c0) (hr1 : Kd.C k89 w A1 l1.length l1) (hc1 : l1.length ≤ c1) (h : laws_eqFactS.f k l0 l1 = some r) :
  Calls Try.prog 38 #[.slice A0 l0.length c0, .slice A1 l1.length c1] w fun e w' => e = .returned (.bool r) ∧ Below w.heap.size w w' := by
 have hu89 := Try.underlying89
 have HR0 := Aside0.mk hr0
 clear hr0 hc0
 have HR1 := Aside0.mk hr1
 clear hr1 hc1
 have HB := Aside0.mk (Below.refl w.heap.size w)
 have H : (if (l0.length : Int) = (l1.length : Int) then (laws_eqFactS.l0 k l0 l1 0) else (some false)) = some r := h
 clear h
 by_cases c3 : (l0.length : Int) = (l1.length : Int)
 ·rw [if_pos c3] at H
  have iB : ((l0.length : Int) == (l1.length : Int)) = true := beq_iff_eq.mpr c3
  have mB : ((l0.length : Int) != (l1.length : Int)) = false := bne_eq_false_iff_eq.mpr c3
  have TB : (l0.length == l1.length) = true := by first | simpa using c3 | (simp at c3 ⊢; omega)
  clear c3
  have H' := Aside0.mk H
  clear H
  go_enter Try.func38, Try.ntmps38
  go_wp2
  go_loopg [5] k (fun kq v5 w' => ∃ (cA : Int), v5 = .int .i64 cA ∧ Aside0 (laws_eqFactS.l0 kq l0 l1 cA = some r) ∧ Aside0 (kq ≤ k) ∧ Aside0 (Below w.heap.size w w'))
  case atStart => exact ⟨(0), q1_11, H', ⟨Nat.le_refl _⟩, ⟨q1_0⟩⟩
  case round =>
   clear H'
   (try clear c1); (try clear p2); (try clear c3); (try clear iB); (try clear mB); (try clear TB)
   obtain ⟨cA, rfl, HA, HK1, HB⟩ := hrel
   cases gk with
   | zero => exact absurd HA.out (by simp [laws_eqFactS.l0])
   | succ k1 =>
    have H := HA.out
    clear HA
    simp only [laws_eqFactS.l0] at H
    by_cases c4 : cA < (l0.length : Int)
    ·rw [if_pos c4] at H
     have UB : decide (cA < (l0.length : Int)) = true := decide_eq_true c4
     clear c4
     by_cases c5 : 0 ≤ cA
     ·rw [if_pos c5] at H
      have aC : decide (0 ≤ cA) = true := decide_eq_true c5
      clear c5
      by_cases c6 : cA < (l1.length : Int)
      ·rw [if_pos c6] at H
       have VB : decide (cA < (l1.length : Int)) = true := decide_eq_true c6
       clear c6
       replace H := Option.bind_eq_some_iff.mp H
       obtain ⟨eC, A70, H⟩ := H
       (try dsimp only at H)
       have A7 := Aside0.mk A70
       clear A70
       by_cases c8 : eC = true
       ·subst c8
        rw [if_pos rfl] at H
        have H' := Aside0.mk H
        clear H
        try go_wp2
        have qA := Aside0.mk (below_drew1 HB.out)
        clear HB
        have HB := qA
        clear qA
        have p105 : 0 ≤ (cA : Int) := of_decide_eq_true q1_7
        have q105 : cA < (l0.length : Int) := of_decide_eq_true q1_7
        obtain ⟨ad105, fC, wA, xA, yA, zA, AA, BA, CA, DA⟩ := at_T89 HR0.out cA p105 q105
        have hw105_7 := DA
        have hw105_6 := CA
        have hw105_5 := BA
        have hw105_4 := AA
        have hw105_3 := zA
        have hw105_2 := yA
        have hw105_1 := xA
        have hw105_0 := wA
        cases fC
        replace wA := (HB.out.cell (World.block_lt_of_cell? w _ wA)).trans wA
        replace xA := (HB.out.cell (World.block_lt_of_cell? w _ xA)).trans xA
        replace yA := (HB.out.cell (World.block_lt_of_cell? w _ yA)).trans yA
        replace zA := (HB.out.cell (World.block_lt_of_cell? w _ zA)).trans zA
        replace AA := (HB.out.cell (World.block_lt_of_cell? w _ AA)).trans AA
        replace BA := (HB.out.cell (World.block_lt_of_cell? w _ BA)).trans BA
        replace CA := (HB.out.cell (World.block_lt_of_cell? w _ CA)).trans CA
        replace DA := (HB.out.cell (World.block_lt_of_cell? w _ DA)).trans DA
        replace p105 := eq_true p105
        replace q105 := eq_true q105
        have p106 : 0 ≤ (cA : Int) := of_decide_eq_true q1_7
        have q106 : cA < (l1.length : Int) := of_decide_eq_true q1_7
        obtain ⟨ad106, gC, EA, FA, GA, IA, JA, KA, LA, MA⟩ := at_T89 HR1.out cA p106 q106
        have hw106_7 := MA
        have hw106_6 := LA
        have hw106_5 := KA
        have hw106_4 := JA
        have hw106_3 := IA
        have hw106_2 := GA
        have hw106_1 := FA
        have hw106_0 := EA
        cases gC
        replace EA := (HB.out.cell (World.block_lt_of_cell? w _ EA)).trans EA
        replace FA := (HB.out.cell (World.block_lt_of_cell? w _ FA)).trans FA
        replace GA := (HB.out.cell (World.block_lt_of_cell? w _ GA)).trans GA
        replace IA := (HB.out.cell (World.block_lt_of_cell? w _ IA)).trans IA
        replace JA := (HB.out.cell (World.block_lt_of_cell? w _ JA)).trans JA
        replace KA := (HB.out.cell (World.block_lt_of_cell? w _ KA)).trans KA
        replace LA := (HB.out.cell (World.block_lt_of_cell? w _ LA)).trans LA
        replace MA := (HB.out.cell (World.block_lt_of_cell? w _ MA)).trans MA
        replace p106 := eq_true p106
        replace q106 := eq_true q106
        refine start_ (n := 10) (S := fun w' => w'.cell? (ad105.add ((cA).toNat * 8)) = some (.int .i64 ((rd_T89 l0 cA).f0)) ∧ w'.cell? ⟨(ad105.add ((cA).toNat * 8)).block, (ad105.add ((cA).toNat * 8)).off + 1, none⟩ = some (.int .i64 ((rd_T89 l0 cA).f1)) ∧ w'.cell? ⟨(ad105.add ((cA).toNat * 8)).block, (ad105.add ((cA).toNat * 8)).off + 2, none⟩ = some (.int .i64 ((rd_T89 l0 cA).f2)) ∧ w'.cell? ⟨(ad105.add ((cA).toNat * 8)).block, (ad105.add ((cA).toNat * 8)).off + 3, none⟩ = some (.int .i64 ((rd_T89 l0 cA).f3)) ∧ w'.cell? ⟨(ad105.add ((cA).toNat * 8)).block, (ad105.add ((cA).toNat * 8)).off + 4, none⟩ = some (.int .i64 ((rd_T89 l0 cA).f4)) ∧ w'.cell? ⟨(ad105.add ((cA).toNat * 8)).block, (ad105.add ((cA).toNat * 8)).off + 5, none⟩ = some (.int .i64 ((rd_T89 l0 cA).f5)) ∧ w'.cell? ⟨(ad105.add ((cA).toNat * 8)).block, (ad105.add ((cA).toNat * 8)).off + 6, none⟩ = some (.int .i64 ((rd_T89 l0 cA).f6)) ∧ w'.cell? ⟨(ad105.add ((cA).toNat * 8)).block, (ad105.add ((cA).toNat * 8)).off + 7, none⟩ = some (.int .i64 ((rd_T89 l0 cA).f7)) ∧ w'.cell? (ad106.add ((cA).toNat * 8)) = some (.int .i64 ((rd_T89 l1 cA).f0)) ∧ w'.cell? ⟨(ad106.add ((cA).toNat * 8)).block, (ad106.add ((cA).toNat * 8)).off + 1, none⟩ = some (.int .i64 ((rd_T89 l1 cA).f1)) ∧ w'.cell? ⟨(ad106.add ((cA).toNat * 8)).block, (ad106.add ((cA).toNat * 8)).off + 2, none⟩ = some (.int .i64 ((rd_T89 l1 cA).f2)) ∧ w'.cell? ⟨(ad106.add ((cA).toNat * 8)).block, (ad106.add ((cA).toNat * 8)).off + 3, none⟩ = some (.int .i64 ((rd_T89 l1 cA).f3)) ∧ w'.cell? ⟨(ad106.add ((cA).toNat * 8)).block, (ad106.add ((cA).toNat * 8)).off + 4, none⟩ = some (.int .i64 ((rd_T89 l1 cA).f4)) ∧ w'.cell? ⟨(ad106.add ((cA).toNat * 8)).block, (ad106.add ((cA).toNat * 8)).off + 5, none⟩ = some (.int .i64 ((rd_T89 l1 cA).f5)) ∧ w'.cell? ⟨(ad106.add ((cA).toNat * 8)).block, (ad106.add ((cA).toNat * 8)).off + 6, none⟩ = some (.int .i64 ((rd_T89 l1 cA).f6)) ∧ w'.cell? ⟨(ad106.add ((cA).toNat * 8)).block, (ad106.add ((cA).toNat * 8)).off + 7, none⟩ = some (.int .i64 ((rd_T89 l1 cA).f7))) (ds := []) #[F,F,F,F,F,F,F,F,F,F] (by kernel_rfl) rfl rfl ⟨((HB.out.cell (World.block_lt_of_cell? w _ hw105_0)).trans hw105_0), ((HB.out.cell (World.block_lt_of_cell? w _ hw105_1)).trans hw105_1), ((HB.out.cell (World.block_lt_of_cell? w _ hw105_2)).trans hw105_2), ((HB.out.cell (World.block_lt_of_cell? w _ hw105_3)).trans hw105_3), ((HB.out.cell (World.block_lt_of_cell? w _ hw105_4)).trans hw105_4), ((HB.out.cell (World.block_lt_of_cell? w _ hw105_5)).trans hw105_5), ((HB.out.cell (World.block_lt_of_cell? w _ hw105_6)).trans hw105_6), ((HB.out.cell (World.block_lt_of_cell? w _ hw105_7)).trans hw105_7), ((HB.out.cell (World.block_lt_of_cell? w _ hw106_0)).trans hw106_0), ((HB.out.cell (World.block_lt_of_cell? w _ hw106_1)).trans hw106_1), ((HB.out.cell (World.block_lt_of_cell? w _ hw106_2)).trans hw106_2), ((HB.out.cell (World.block_lt_of_cell? w _ hw106_3)).trans hw106_3), ((HB.out.cell (World.block_lt_of_cell? w _ hw106_4)).trans hw106_4), ((HB.out.cell (World.block_lt_of_cell? w _ hw106_5)).trans hw106_5), ((HB.out.cell (World.block_lt_of_cell? w _ hw106_6)).trans hw106_6), ((HB.out.cell (World.block_lt_of_cell? w _ hw106_7)).trans hw106_7)⟩ (fun hHeld => ?_); refine with_tabW laws_eqFactS.tab6 laws_eqFactS.bits6 (fun HT_ HW_ => ?_)
        generalize wr.drew = w9 at HB wA xA yA zA AA BA CA DA EA FA GA IA JA KA LA MA hHeld ⊢
        refine q1_p 0 17 #[T,F,F,F,F,F,F,F,F,F] ?_
        refine q1_p 1 18 #[T,T,F,F,F,F,F,F,F,F] ?_
        refine q1_p 2 19 #[T,T,T,F,F,F,F,F,F,F] ?_
        refine q1_p 4 21 #[T,T,T,F,T,F,F,F,F,F] ?_
        refine q1_p 5 22 #[T,T,T,F,T,T,F,F,F,F] ?_
        refine q1_p 6 23 #[T,T,T,F,T,T,T,F,F,F] ?_
        refine take_ (i := 3) (N := some 20) (v := ?_) (a' := ?_) #[T,T,T,T,T,T,T,F,F,F] rfl rfl (take_ofW HT_.out HW_.out (by kernel_rfl)) (fun _ _ _ h => h) (Or.inl ⟨by rfl, ?_⟩) hHeld ?_ ?_
        rotate_left
        ·rintro w' ⟨s0, s1, s2, s3, s4, s5, s6, s7, s8, s9, DI, EI, FI, GI, HI, II⟩
         go_simp
         with_reducible rfl
        rotate_left
        ·simp only [Act.put, List.setIfInBounds_toArray, List.set_cons_zero, List.set_cons_succ, i64_w, i32_w]
         rfl
        refine take_ (i := 7) (N := some 24) (v := ?_) (a' := ?_) #[T,T,T,T,T,T,T,T,F,F] rfl rfl (take_ofW HT_.out HW_.out (by kernel_rfl)) (fun _ _ _ h => h) (Or.inl ⟨by rfl, ?_⟩) hHeld ?_ ?_
        rotate_left
        ·rintro w' ⟨s0, s1, s2, s3, s4, s5, s6, s7, s8, s9, DI, EI, FI, GI, HI, II⟩
         go_simp
         with_reducible rfl
        rotate_left
        ·simp only [Act.put, List.setIfInBounds_toArray, List.set_cons_zero, List.set_cons_succ, i64_w, i32_w]
         rfl
        refine one_ (i := 8) (N := some 25) #[T,T,T,T,T,T,T,T,T,F] rfl rfl (one_of HT_.out (by kernel_rfl)) (by decide) (fun K hK => ?_)
        refine goes_ Try.func68 (by kernel_rfl) rfl #[.agg #[.int .i64 ((rd_T89 l0 cA).f0), .int .i64 ((rd_T89 l0 cA).f1), .int .i64 ((rd_T89 l0 cA).f2), .int .i64 ((rd_T89 l0 cA).f3), .int .i64 ((rd_T89 l0 cA).f4), .int .i64 ((rd_T89 l0 cA).f5), .int .i64 ((rd_T89 l0 cA).f6), .int .i64 ((rd_T89 l0 cA).f7)], .agg #[.int .i64 ((rd_T89 l1 cA).f0), .int .i64 ((rd_T89 l1 cA).f1), .int .i64 ((rd_T89 l1 cA).f2), .int .i64 ((rd_T89 l1 cA).f3), .int .i64 ((rd_T89 l1 cA).f4), .int .i64 ((rd_T89 l1 cA).f5), .int .i64 ((rd_T89 l1 cA).f6), .int .i64 ((rd_T89 l1 cA).f7)]] (by rfl) rfl rfl q1_16 ?_
        with_reducible refine (laws_eqFact.calls ((rd_T89 l0 cA).f0) ((rd_T89 l0 cA).f1) ((rd_T89 l0 cA).f2) ((rd_T89 l0 cA).f3) ((rd_T89 l0 cA).f4) ((rd_T89 l0 cA).f5) ((rd_T89 l0 cA).f6) ((rd_T89 l0 cA).f7) ((rd_T89 l1 cA).f0) ((rd_T89 l1 cA).f1) ((rd_T89 l1 cA).f2) ((rd_T89 l1 cA).f3) ((rd_T89 l1 cA).f4) ((rd_T89 l1 cA).f5) ((rd_T89 l1 cA).f6) ((rd_T89 l1 cA).f7) true _ A7.out).mono ?_
        rintro e xK ⟨rfl, hb⟩
        refine ⟨_, rfl, ?_⟩
        have qA := Aside0.mk (below_step q1_0 hb)
        clear HB
        have HB := qA
        clear qA
        (try clear hb)
        (try clear hb2)
        (try clear hk)
        (try clear hi)
        refine hK.out _ _ ⟨((HB.out.cell (World.block_lt_of_cell? w _ hw105_0)).trans hw105_0), ((HB.out.cell (World.block_lt_of_cell? w _ hw105_1)).trans hw105_1), ((HB.out.cell (World.block_lt_of_cell? w _ hw105_2)).trans hw105_2), ((HB.out.cell (World.block_lt_of_cell? w _ hw105_3)).trans hw105_3), ((HB.out.cell (World.block_lt_of_cell? w _ hw105_4)).trans hw105_4), ((HB.out.cell (World.block_lt_of_cell? w _ hw105_5)).trans hw105_5), ((HB.out.cell (World.block_lt_of_cell? w _ hw105_6)).trans hw105_6), ((HB.out.cell (World.block_lt_of_cell? w _ hw105_7)).trans hw105_7), ((HB.out.cell (World.block_lt_of_cell? w _ hw106_0)).trans hw106_0), ((HB.out.cell (World.block_lt_of_cell? w _ hw106_1)).trans hw106_1), ((HB.out.cell (World.block_lt_of_cell? w _ hw106_2)).trans hw106_2), ((HB.out.cell (World.block_lt_of_cell? w _ hw106_3)).trans hw106_3), ((HB.out.cell (World.block_lt_of_cell? w _ hw106_4)).trans hw106_4), ((HB.out.cell (World.block_lt_of_cell? w _ hw106_5)).trans hw106_5), ((HB.out.cell (World.block_lt_of_cell? w _ hw106_6)).trans hw106_6), ((HB.out.cell (World.block_lt_of_cell? w _ hw106_7)).trans hw106_7)⟩ (fun hHeld => ?_)
        clear hK K
        refine norm_ (a' := ?_) ?_ ?_
        rotate_left
        ·show Act.put _ (some 25) _ = _
         simp only [Act.put, List.setIfInBounds_toArray, List.set_cons_zero, List.set_cons_succ, i64_w, i32_w]
         rfl
        refine q1_p 9 26 #[T,T,T,T,T,T,T,T,T,T] ?_
        refine done_ (done_of HT_.out (by kernel_rfl)) ?_
        try go_wp2
        go_roundg k1
        case measure => have := HK1.out; omega
        case rel => exact ⟨(wrap64 (cA + 1)), q1_11, H', ⟨by have := HK1.out; omega⟩, ⟨q1_0⟩⟩
       ·replace c8 := Bool.eq_false_iff.mpr c8
        subst c8
        rw [if_neg (show ¬ (false = true) by decide)] at H
        obtain rfl := Option.some.inj H
        try go_wp2
        have qA := Aside0.mk (below_drew1 HB.out)
        clear HB
        have HB := qA
        clear qA
        have p105 : 0 ≤ (cA : Int) := of_decide_eq_true q1_7
        have q105 : cA < (l0.length : Int) := of_decide_eq_true q1_7
        obtain ⟨ad105, fC, wA, xA, yA, zA, AA, BA, CA, DA⟩ := at_T89 HR0.out cA p105 q105
        have hw105_7 := DA
        have hw105_6 := CA
        have hw105_5 := BA
        have hw105_4 := AA
        have hw105_3 := zA
        have hw105_2 := yA
        have hw105_1 := xA
        have hw105_0 := wA
        cases fC
        replace wA := (HB.out.cell (World.block_lt_of_cell? w _ wA)).trans wA
        replace xA := (HB.out.cell (World.block_lt_of_cell? w _ xA)).trans xA
        replace yA := (HB.out.cell (World.block_lt_of_cell? w _ yA)).trans yA
        replace zA := (HB.out.cell (World.block_lt_of_cell? w _ zA)).trans zA
        replace AA := (HB.out.cell (World.block_lt_of_cell? w _ AA)).trans AA
        replace BA := (HB.out.cell (World.block_lt_of_cell? w _ BA)).trans BA
        replace CA := (HB.out.cell (World.block_lt_of_cell? w _ CA)).trans CA
        replace DA := (HB.out.cell (World.block_lt_of_cell? w _ DA)).trans DA
        replace p105 := eq_true p105
        replace q105 := eq_true q105
        have p106 : 0 ≤ (cA : Int) := of_decide_eq_true q1_7
        have q106 : cA < (l1.length : Int) := of_decide_eq_true q1_7
        obtain ⟨ad106, gC, EA, FA, GA, IA, JA, KA, LA, MA⟩ := at_T89 HR1.out cA p106 q106
        have hw106_7 := MA
        have hw106_6 := LA
        have hw106_5 := KA
        have hw106_4 := JA
        have hw106_3 := IA
        have hw106_2 := GA
        have hw106_1 := FA
        have hw106_0 := EA
        cases gC
        replace EA := (HB.out.cell (World.block_lt_of_cell? w _ EA)).trans EA
        replace FA := (HB.out.cell (World.block_lt_of_cell? w _ FA)).trans FA
        replace GA := (HB.out.cell (World.block_lt_of_cell? w _ GA)).trans GA
        replace IA := (HB.out.cell (World.block_lt_of_cell? w _ IA)).trans IA
        replace JA := (HB.out.cell (World.block_lt_of_cell? w _ JA)).trans JA
        replace KA := (HB.out.cell (World.block_lt_of_cell? w _ KA)).trans KA
        replace LA := (HB.out.cell (World.block_lt_of_cell? w _ LA)).trans LA
        replace MA := (HB.out.cell (World.block_lt_of_cell? w _ MA)).trans MA
        replace p106 := eq_true p106
        replace q106 := eq_true q106
        refine start_ (n := 10) (S := fun w' => w'.cell? (ad105.add ((cA).toNat * 8)) = some (.int .i64 ((rd_T89 l0 cA).f0)) ∧ w'.cell? ⟨(ad105.add ((cA).toNat * 8)).block, (ad105.add ((cA).toNat * 8)).off + 1, none⟩ = some (.int .i64 ((rd_T89 l0 cA).f1)) ∧ w'.cell? ⟨(ad105.add ((cA).toNat * 8)).block, (ad105.add ((cA).toNat * 8)).off + 2, none⟩ = some (.int .i64 ((rd_T89 l0 cA).f2)) ∧ w'.cell? ⟨(ad105.add ((cA).toNat * 8)).block, (ad105.add ((cA).toNat * 8)).off + 3, none⟩ = some (.int .i64 ((rd_T89 l0 cA).f3)) ∧ w'.cell? ⟨(ad105.add ((cA).toNat * 8)).block, (ad105.add ((cA).toNat * 8)).off + 4, none⟩ = some (.int .i64 ((rd_T89 l0 cA).f4)) ∧ w'.cell? ⟨(ad105.add ((cA).toNat * 8)).block, (ad105.add ((cA).toNat * 8)).off + 5, none⟩ = some (.int .i64 ((rd_T89 l0 cA).f5)) ∧ w'.cell? ⟨(ad105.add ((cA).toNat * 8)).block, (ad105.add ((cA).toNat * 8)).off + 6, none⟩ = some (.int .i64 ((rd_T89 l0 cA).f6)) ∧ w'.cell? ⟨(ad105.add ((cA).toNat * 8)).block, (ad105.add ((cA).toNat * 8)).off + 7, none⟩ = some (.int .i64 ((rd_T89 l0 cA).f7)) ∧ w'.cell? (ad106.add ((cA).toNat * 8)) = some (.int .i64 ((rd_T89 l1 cA).f0)) ∧ w'.cell? ⟨(ad106.add ((cA).toNat * 8)).block, (ad106.add ((cA).toNat * 8)).off + 1, none⟩ = some (.int .i64 ((rd_T89 l1 cA).f1)) ∧ w'.cell? ⟨(ad106.add ((cA).toNat * 8)).block, (ad106.add ((cA).toNat * 8)).off + 2, none⟩ = some (.int .i64 ((rd_T89 l1 cA).f2)) ∧ w'.cell? ⟨(ad106.add ((cA).toNat * 8)).block, (ad106.add ((cA).toNat * 8)).off + 3, none⟩ = some (.int .i64 ((rd_T89 l1 cA).f3)) ∧ w'.cell? ⟨(ad106.add ((cA).toNat * 8)).block, (ad106.add ((cA).toNat * 8)).off + 4, none⟩ = some (.int .i64 ((rd_T89 l1 cA).f4)) ∧ w'.cell? ⟨(ad106.add ((cA).toNat * 8)).block, (ad106.add ((cA).toNat * 8)).off + 5, none⟩ = some (.int .i64 ((rd_T89 l1 cA).f5)) ∧ w'.cell? ⟨(ad106.add ((cA).toNat * 8)).block, (ad106.add ((cA).toNat * 8)).off + 6, none⟩ = some (.int .i64 ((rd_T89 l1 cA).f6)) ∧ w'.cell? ⟨(ad106.add ((cA).toNat * 8)).block, (ad106.add ((cA).toNat * 8)).off + 7, none⟩ = some (.int .i64 ((rd_T89 l1 cA).f7))) (ds := []) #[F,F,F,F,F,F,F,F,F,F] (by kernel_rfl) rfl rfl ⟨((HB.out.cell (World.block_lt_of_cell? w _ hw105_0)).trans hw105_0), ((HB.out.cell (World.block_lt_of_cell? w _ hw105_1)).trans hw105_1), ((HB.out.cell (World.block_lt_of_cell? w _ hw105_2)).trans hw105_2), ((HB.out.cell (World.block_lt_of_cell? w _ hw105_3)).trans hw105_3), ((HB.out.cell (World.block_lt_of_cell? w _ hw105_4)).trans hw105_4), ((HB.out.cell (World.block_lt_of_cell? w _ hw105_5)).trans hw105_5), ((HB.out.cell (World.block_lt_of_cell? w _ hw105_6)).trans hw105_6), ((HB.out.cell (World.block_lt_of_cell? w _ hw105_7)).trans hw105_7), ((HB.out.cell (World.block_lt_of_cell? w _ hw106_0)).trans hw106_0), ((HB.out.cell (World.block_lt_of_cell? w _ hw106_1)).trans hw106_1), ((HB.out.cell (World.block_lt_of_cell? w _ hw106_2)).trans hw106_2), ((HB.out.cell (World.block_lt_of_cell? w _ hw106_3)).trans hw106_3), ((HB.out.cell (World.block_lt_of_cell? w _ hw106_4)).trans hw106_4), ((HB.out.cell (World.block_lt_of_cell? w _ hw106_5)).trans hw106_5), ((HB.out.cell (World.block_lt_of_cell? w _ hw106_6)).trans hw106_6), ((HB.out.cell (World.block_lt_of_cell? w _ hw106_7)).trans hw106_7)⟩ (fun hHeld => ?_); refine with_tabW laws_eqFactS.tab6 laws_eqFactS.bits6 (fun HT_ HW_ => ?_)
        generalize wr.drew = jB at HB wA xA yA zA AA BA CA DA EA FA GA IA JA KA LA MA hHeld ⊢
        refine q1_p 0 17 #[T,F,F,F,F,F,F,F,F,F] ?_
        refine q1_p 1 18 #[T,T,F,F,F,F,F,F,F,F] ?_
        refine q1_p 2 19 #[T,T,T,F,F,F,F,F,F,F] ?_
        refine q1_p 4 21 #[T,T,T,F,T,F,F,F,F,F] ?_
        refine q1_p 5 22 #[T,T,T,F,T,T,F,F,F,F] ?_
        refine q1_p 6 23 #[T,T,T,F,T,T,T,F,F,F] ?_
        refine take_ (i := 3) (N := some 20) (v := ?_) (a' := ?_) #[T,T,T,T,T,T,T,F,F,F] rfl rfl (take_ofW HT_.out HW_.out (by kernel_rfl)) (fun _ _ _ h => h) (Or.inl ⟨by rfl, ?_⟩) hHeld ?_ ?_
        rotate_left
        ·rintro w' ⟨s0, s1, s2, s3, s4, s5, s6, s7, s8, s9, DI, EI, FI, GI, HI, II⟩
         go_simp
         with_reducible rfl
        rotate_left
        ·simp only [Act.put, List.setIfInBounds_toArray, List.set_cons_zero, List.set_cons_succ, i64_w, i32_w]
         rfl
        refine take_ (i := 7) (N := some 24) (v := ?_) (a' := ?_) #[T,T,T,T,T,T,T,T,F,F] rfl rfl (take_ofW HT_.out HW_.out (by kernel_rfl)) (fun _ _ _ h => h) (Or.inl ⟨by rfl, ?_⟩) hHeld ?_ ?_
        rotate_left
        ·rintro w' ⟨s0, s1, s2, s3, s4, s5, s6, s7, s8, s9, DI, EI, FI, GI, HI, II⟩
         go_simp
         with_reducible rfl
        rotate_left
        ·simp only [Act.put, List.setIfInBounds_toArray, List.set_cons_zero, List.set_cons_succ, i64_w, i32_w]
         rfl
        refine one_ (i := 8) (N := some 25) #[T,T,T,T,T,T,T,T,T,F] rfl rfl (one_of HT_.out (by kernel_rfl)) (by decide) (fun K hK => ?_)
        refine goes_ Try.func68 (by kernel_rfl) rfl #[.agg #[.int .i64 ((rd_T89 l0 cA).f0), .int .i64 ((rd_T89 l0 cA).f1), .int .i64 ((rd_T89 l0 cA).f2), .int .i64 ((rd_T89 l0 cA).f3), .int .i64 ((rd_T89 l0 cA).f4), .int .i64 ((rd_T89 l0 cA).f5), .int .i64 ((rd_T89 l0 cA).f6), .int .i64 ((rd_T89 l0 cA).f7)], .agg #[.int .i64 ((rd_T89 l1 cA).f0), .int .i64 ((rd_T89 l1 cA).f1), .int .i64 ((rd_T89 l1 cA).f2), .int .i64 ((rd_T89 l1 cA).f3), .int .i64 ((rd_T89 l1 cA).f4), .int .i64 ((rd_T89 l1 cA).f5), .int .i64 ((rd_T89 l1 cA).f6), .int .i64 ((rd_T89 l1 cA).f7)]] (by rfl) rfl rfl q1_16 ?_
        with_reducible refine (laws_eqFact.calls ((rd_T89 l0 cA).f0) ((rd_T89 l0 cA).f1) ((rd_T89 l0 cA).f2) ((rd_T89 l0 cA).f3) ((rd_T89 l0 cA).f4) ((rd_T89 l0 cA).f5) ((rd_T89 l0 cA).f6) ((rd_T89 l0 cA).f7) ((rd_T89 l1 cA).f0) ((rd_T89 l1 cA).f1) ((rd_T89 l1 cA).f2) ((rd_T89 l1 cA).f3) ((rd_T89 l1 cA).f4) ((rd_T89 l1 cA).f5) ((rd_T89 l1 cA).f6) ((rd_T89 l1 cA).f7) false _ A7.out).mono ?_
        rintro e vB ⟨rfl, hb⟩
        refine ⟨_, rfl, ?_⟩
        have qA := Aside0.mk (below_step q1_0 hb)
        clear HB
        have HB := qA
        clear qA
        (try clear hb)
        (try clear hb2)
        (try clear hk)
        (try clear hi)
        refine hK.out _ _ ⟨((HB.out.cell (World.block_lt_of_cell? w _ hw105_0)).trans hw105_0), ((HB.out.cell (World.block_lt_of_cell? w _ hw105_1)).trans hw105_1), ((HB.out.cell (World.block_lt_of_cell? w _ hw105_2)).trans hw105_2), ((HB.out.cell (World.block_lt_of_cell? w _ hw105_3)).trans hw105_3), ((HB.out.cell (World.block_lt_of_cell? w _ hw105_4)).trans hw105_4), ((HB.out.cell (World.block_lt_of_cell? w _ hw105_5)).trans hw105_5), ((HB.out.cell (World.block_lt_of_cell? w _ hw105_6)).trans hw105_6), ((HB.out.cell (World.block_lt_of_cell? w _ hw105_7)).trans hw105_7), ((HB.out.cell (World.block_lt_of_cell? w _ hw106_0)).trans hw106_0), ((HB.out.cell (World.block_lt_of_cell? w _ hw106_1)).trans hw106_1), ((HB.out.cell (World.block_lt_of_cell? w _ hw106_2)).trans hw106_2), ((HB.out.cell (World.block_lt_of_cell? w _ hw106_3)).trans hw106_3), ((HB.out.cell (World.block_lt_of_cell? w _ hw106_4)).trans hw106_4), ((HB.out.cell (World.block_lt_of_cell? w _ hw106_5)).trans hw106_5), ((HB.out.cell (World.block_lt_of_cell? w _ hw106_6)).trans hw106_6), ((HB.out.cell (World.block_lt_of_cell? w _ hw106_7)).trans hw106_7)⟩ (fun hHeld => ?_)
        clear hK K
        refine norm_ (a' := ?_) ?_ ?_
        rotate_left
        ·show Act.put _ (some 25) _ = _
         simp only [Act.put, List.setIfInBounds_toArray, List.set_cons_zero, List.set_cons_succ, i64_w, i32_w]
         rfl
        refine q1_p 9 26 #[T,T,T,T,T,T,T,T,T,T] ?_
        refine done_ (done_of HT_.out (by kernel_rfl)) ?_
        try go_wp2
        go_ret
        exact ⟨q1_6, q1_0⟩
      ·rw [if_neg c6] at H
       exact absurd H (by simp)
     ·rw [if_neg c5] at H
      exact absurd H (by simp)
    ·rw [if_neg c4] at H
     have UB : decide (cA < (l0.length : Int)) = false := decide_eq_false c4
     clear c4
     obtain rfl := Option.some.inj H
     go_wp2
     go_ret
     exact ⟨q1_6, q1_0⟩
 ·rw [if_neg c3] at H
  have iB : ((l0.length : Int) == (l1.length : Int)) = false := beq_eq_false_iff_ne.mpr c3
  have mB : ((l0.length : Int) != (l1.length : Int)) = true := bne_iff_ne.mpr c3
  have TB : (l0.length == l1.length) = false := by first | simpa using c3 | (simp at c3 ⊢; omega)
  obtain rfl := Option.some.inj H
  go_enter Try.func38, Try.ntmps38
  go_wp2
  go_ret
  exact ⟨q1_6, q1_0⟩

/-! ### laws_szFactS: function 41 -/
def laws_szFactS.f (l0 : List (S92)) (a1 : Int) : Option (Int) := if (wrap64 (a1 - (l0.length : Int))) < 0 then (some (-1)) else (some (wrap64 (a1 - (l0.length : Int))))
set_option maxHeartbeats 8000000 in
set_option maxRecDepth 100000 in
theorem laws_szFactS.calls (A0 : Option Addr) (c0 : Nat) (l0 : List (S92)) (a1 : Int) (r : Int) (w : World) (hr0 : Kd.C k92 w A0 l0.length l0) (hc0 : l0.length ≤ c0) (h : laws_szFactS.f l0 a1 = some r) :
  Calls Try.prog 41 #[.slice A0 l0.length c0, .int .i64 a1] w fun e w' => e = .returned (.int .i64 r) ∧ Drawn0 w w' := by
 clear hr0 hc0
 have H : (if (wrap64 (a1 - (l0.length : Int))) < 0 then (some (-1)) else (some (wrap64 (a1 - (l0.length : Int))))) = some r := h
 clear h
 by_cases c3 : (wrap64 (a1 - (l0.length : Int))) < 0
 ·rw [if_pos c3] at H
  have iB : decide ((wrap64 (a1 - (l0.length : Int))) < 0) = true := decide_eq_true c3
  clear c3
  obtain rfl := Option.some.inj H
  go_enter Try.func41, Try.ntmps41
  go_wp2
  go_ret
  exact ⟨q1_11, q1_13⟩
 ·rw [if_neg c3] at H
  have iB : decide ((wrap64 (a1 - (l0.length : Int))) < 0) = false := decide_eq_false c3
  clear c3
  obtain rfl := Option.some.inj H
  go_enter Try.func41, Try.ntmps41
  go_wp2
  go_ret
  exact ⟨q1_11, q1_13⟩

/-! ### laws_toFact: function 69 -/
def laws_toFact.f (iA : Int) (jA : Int) (kA : Int) (lA : Int) (mA : Int) (nA : Int) (oA : Int) (pA : Int) : Option (Int × Int × Int × Int × Int × Int × Int × Int) := some (iA, jA, kA, lA, mA, nA, oA, pA)
set_option maxHeartbeats 8000000 in
set_option maxRecDepth 100000 in
theorem laws_toFact.calls (iA : Int) (jA : Int) (kA : Int) (lA : Int) (mA : Int) (nA : Int) (oA : Int) (pA : Int) (r1 : Int) (r2 : Int) (r3 : Int) (r4 : Int) (r5 : Int) (r6 : Int) (r7 : Int) (r8 : Int) (w : World) (h : laws_toFact.f iA jA kA lA mA nA oA pA = some (r1, r2, r3, r4, r5, r6, r7, r8)) :
  Calls Try.prog 69 #[.agg #[.int .i64 iA, .int .i64 jA, .int .i64 kA, .int .i64 lA, .int .i64 mA, .int .i64 nA, .int .i64 oA, .int .i64 pA]] w fun e w' => e = .returned (.agg #[.int .i64 r1, .int .i64 r2, .int .i64 r3, .int .i64 r4, .int .i64 r5, .int .i64 r6, .int .i64 r7, .int .i64 r8]) ∧ Below w.heap.size w w' := by
 have hu92 := Try.underlying92
 have hu89 := Try.underlying89
 have HB := Aside0.mk (Below.refl w.heap.size w)
 have H : (some (iA, jA, kA, lA, mA, nA, oA, pA)) = some (r1, r2, r3, r4, r5, r6, r7, r8) := h
 clear h
 simp only [Option.some.injEq, Prod.mk.injEq] at H
 obtain ⟨rfl, rfl, rfl, rfl, rfl, rfl, rfl, rfl⟩ := H
 go_enter Try.func69, Try.ntmps69
 go_wp2_with (first | ((with_reducible refine gate_dst (N := 1) rfl ?_); refine box_event ?hg (N := 1) ?hd (cs := #[.int .i64 iA, .int .i64 jA, .int .i64 kA, .int .i64 lA, .int .i64 mA, .int .i64 nA, .int .i64 oA, .int .i64 pA]) (t := 92) ?hr ?_; (case hd => rfl); (case hg => rfl); (case hr => first | (go_simp; done) | (go_simp; rfl)); intro VA hg w2 hbox hb; have qA := Aside0.mk (below_step q1_0 hb); have rA := Aside0.mk (hbox); have uA := Aside0.mk ((q1_8 : w.heap.size ≤ VA)); have vA := Aside0.mk ((q1_8 : w.heap.size ≤ VA)); clear HB; have HB := qA; have sA := rA; have cK := uA; have SB := vA; clear qA rA uA vA; clear hb hbox hg) | ((with_reducible refine gate_dst (N := 2) rfl ?_); refine box_event ?hg (N := 2) ?hd (cs := #[.int .i64 0, .int .i64 0, .int .i64 0, .int .i64 0, .int .i64 0, .int .i64 0, .int .i64 0, .int .i64 0]) (t := 89) ?hr ?_; (case hd => rfl); (case hg => rfl); (case hr => first | (go_simp; done) | (go_simp; rfl)); intro WA hg w3 hbox hb; have qA := Aside0.mk (blk_below (g := VA) (o := .cells #[.int .i64 iA, .int .i64 jA, .int .i64 kA, .int .i64 lA, .int .i64 mA, .int .i64 nA, .int .i64 oA, .int .i64 pA] 92 (0, 0)) q1_9 hb); have rA := Aside0.mk (below_step q1_14 hb); have uA := Aside0.mk (hbox); have vA := Aside0.mk ((by rw [hg]; exact (below_size q1_14) : w.heap.size ≤ WA)); have bB := Aside0.mk ((by rw [hg]; exact (below_size q1_14) : w.heap.size ≤ WA)); have cB := Aside0.mk ((q1_18 : VA ≠ WA)); have dB := Aside0.mk ((q1_19 : WA ≠ VA)); clear sA HB; have sA := qA; have HB := rA; have tA := uA; have dK := vA; have ZB := bB; have EB := cB; have FB := dB; clear qA rA uA vA bB cB dB; clear hb hbox hg) | ((with_reducible refine gate_dst (N := 3) rfl ?_); refine box_event ?hg (N := 3) ?hd (cs := #[.int .i64 0, .int .i64 0, .int .i64 0, .int .i64 0, .int .i64 0, .int .i64 0, .int .i64 0, .int .i64 0]) (t := 89) ?hr ?_; (case hd => rfl); (case hg => rfl); (case hr => first | (go_simp; done) | (go_simp; rfl)); intro YA hg w4 hbox hb; have qA := Aside0.mk (blk_below (g := VA) (o := .cells #[.int .i64 iA, .int .i64 jA, .int .i64 kA, .int .i64 lA, .int .i64 mA, .int .i64 nA, .int .i64 oA, .int .i64 pA] 92 (0, 0)) q1_9 hb); have rA := Aside0.mk (blk_below (g := WA) (o := .cells #[.int .i64 0, .int .i64 0, .int .i64 0, .int .i64 0, .int .i64 0, .int .i64 0, .int .i64 0, .int .i64 0] 89 (0, 0)) q1_17 hb); have uA := Aside0.mk (below_step q1_12 hb); have vA := Aside0.mk (hbox); have bB := Aside0.mk ((by rw [hg]; exact (below_size q1_12) : w.heap.size ≤ YA)); have cB := Aside0.mk ((by rw [hg]; exact (below_size q1_12) : w.heap.size ≤ YA)); have dB := Aside0.mk ((q1_18 : VA ≠ YA)); have eK := Aside0.mk ((q1_19 : YA ≠ VA)); have fK := Aside0.mk ((by rw [hg]; exact Nat.ne_of_lt (blk_lt (g := WA) (o := .cells #[.int .i64 0, .int .i64 0, .int .i64 0, .int .i64 0, .int .i64 0, .int .i64 0, .int .i64 0, .int .i64 0] 89 (0, 0)) q1_17) : WA ≠ YA)); have gK := Aside0.mk ((by rw [hg]; exact Nat.ne_of_gt (blk_lt (g := WA) (o := .cells #[.int .i64 0, .int .i64 0, .int .i64 0, .int .i64 0, .int .i64 0, .int .i64 0, .int .i64 0, .int .i64 0] 89 (0, 0)) q1_17) : YA ≠ WA)); clear sA tA HB; have sA := qA; have tA := rA; have HB := uA; have XA := vA; have iK := bB; have AC := cB; have GB := dB; have IB := eK; have kB := fK; have JB := gK; clear qA rA uA vA bB cB dB eK fK gK; clear hb hbox hg; have jK := EB.out; have kK := FB.out; have lK := GB.out; have mK := IB.out; have JI : w4.cell? ⟨VA, 0, none⟩ = some (.int .i64 iA) := (blk_cell sA.out 0).trans rfl; have KI : w4.cell? ⟨VA, 1, none⟩ = some (.int .i64 jA) := (blk_cell sA.out 1).trans rfl; have LI : w4.cell? ⟨VA, 2, none⟩ = some (.int .i64 kA) := (blk_cell sA.out 2).trans rfl; have MI : w4.cell? ⟨VA, 3, none⟩ = some (.int .i64 lA) := (blk_cell sA.out 3).trans rfl; have NI : w4.cell? ⟨VA, 4, none⟩ = some (.int .i64 mA) := (blk_cell sA.out 4).trans rfl; have OI : w4.cell? ⟨VA, 5, none⟩ = some (.int .i64 nA) := (blk_cell sA.out 5).trans rfl; have PI : w4.cell? ⟨VA, 6, none⟩ = some (.int .i64 oA) := (blk_cell sA.out 6).trans rfl; have QI : w4.cell? ⟨VA, 7, none⟩ = some (.int .i64 pA) := (blk_cell sA.out 7).trans rfl; have RI := blk_frozen sA.out 0; have SI := blk_frozen sA.out 1; have TI := blk_frozen sA.out 2; have UI := blk_frozen sA.out 3; have VI := blk_frozen sA.out 4; have WI := blk_frozen sA.out 5; have XI := blk_frozen sA.out 6; have YI := blk_frozen sA.out 7; have nK := JB.out; have oK := kB.out; have ZI : w4.cell? ⟨YA, 0, none⟩ = some (.int .i64 0) := (blk_cell XA.out 0).trans rfl; have aJ : w4.cell? ⟨YA, 1, none⟩ = some (.int .i64 0) := (blk_cell XA.out 1).trans rfl; have bJ : w4.cell? ⟨YA, 2, none⟩ = some (.int .i64 0) := (blk_cell XA.out 2).trans rfl; have cJ : w4.cell? ⟨YA, 3, none⟩ = some (.int .i64 0) := (blk_cell XA.out 3).trans rfl; have dJ : w4.cell? ⟨YA, 4, none⟩ = some (.int .i64 0) := (blk_cell XA.out 4).trans rfl; have eJ : w4.cell? ⟨YA, 5, none⟩ = some (.int .i64 0) := (blk_cell XA.out 5).trans rfl; have fJ : w4.cell? ⟨YA, 6, none⟩ = some (.int .i64 0) := (blk_cell XA.out 6).trans rfl; have gJ : w4.cell? ⟨YA, 7, none⟩ = some (.int .i64 0) := (blk_cell XA.out 7).trans rfl; have hJ := blk_frozen XA.out 0; have iJ := blk_frozen XA.out 1; have jJ := blk_frozen XA.out 2; have kJ := blk_frozen XA.out 3; have lJ := blk_frozen XA.out 4; have mJ := blk_frozen XA.out 5; have nJ := blk_frozen XA.out 6; have oJ := blk_frozen XA.out 7; have hI : w4.cell? ⟨WA, 0, none⟩ = some (.int .i64 0) := (blk_cell tA.out 0).trans rfl; have iI : w4.cell? ⟨WA, 1, none⟩ = some (.int .i64 0) := (blk_cell tA.out 1).trans rfl; have jI : w4.cell? ⟨WA, 2, none⟩ = some (.int .i64 0) := (blk_cell tA.out 2).trans rfl; have kI : w4.cell? ⟨WA, 3, none⟩ = some (.int .i64 0) := (blk_cell tA.out 3).trans rfl; have lI : w4.cell? ⟨WA, 4, none⟩ = some (.int .i64 0) := (blk_cell tA.out 4).trans rfl; have mI : w4.cell? ⟨WA, 5, none⟩ = some (.int .i64 0) := (blk_cell tA.out 5).trans rfl; have nI : w4.cell? ⟨WA, 6, none⟩ = some (.int .i64 0) := (blk_cell tA.out 6).trans rfl; have oI : w4.cell? ⟨WA, 7, none⟩ = some (.int .i64 0) := (blk_cell tA.out 7).trans rfl; have pI := blk_frozen tA.out 0; have qI := blk_frozen tA.out 1; have rI := blk_frozen tA.out 2; have sI := blk_frozen tA.out 3; have tI := blk_frozen tA.out 4; have uI := blk_frozen tA.out 5; have vI := blk_frozen tA.out 6; have wI := blk_frozen tA.out 7))
 refine bodyPost_ret (results_cell_row rfl _ _ WA 89 #[.int .i64 iA, .int .i64 jA, .int .i64 kA, .int .i64 lA, .int .i64 mA, .int .i64 nA, .int .i64 oA, .int .i64 pA] (0, 0) _ rfl (by (with_reducible repeat (first | refine blk_drewN ?_ _ | refine blk_drew ?_ | refine blk_alloc ?_ _)); refine blk_put (cs := #[.int .i64 iA, .int .i64 jA, .int .i64 kA, .int .i64 lA, .int .i64 mA, .int .i64 nA, .int .i64 oA, .int .i64 0]) ?_ 7 _ rfl; (with_reducible repeat (first | refine blk_drewN ?_ _ | refine blk_drew ?_ | refine blk_alloc ?_ _)); refine blk_put (cs := #[.int .i64 iA, .int .i64 jA, .int .i64 kA, .int .i64 lA, .int .i64 mA, .int .i64 nA, .int .i64 0, .int .i64 0]) ?_ 6 _ rfl; (with_reducible repeat (first | refine blk_drewN ?_ _ | refine blk_drew ?_ | refine blk_alloc ?_ _)); refine blk_put (cs := #[.int .i64 iA, .int .i64 jA, .int .i64 kA, .int .i64 lA, .int .i64 mA, .int .i64 0, .int .i64 0, .int .i64 0]) ?_ 5 _ rfl; (with_reducible repeat (first | refine blk_drewN ?_ _ | refine blk_drew ?_ | refine blk_alloc ?_ _)); refine blk_put (cs := #[.int .i64 iA, .int .i64 jA, .int .i64 kA, .int .i64 lA, .int .i64 0, .int .i64 0, .int .i64 0, .int .i64 0]) ?_ 4 _ rfl; (with_reducible repeat (first | refine blk_drewN ?_ _ | refine blk_drew ?_ | refine blk_alloc ?_ _)); refine blk_put (cs := #[.int .i64 iA, .int .i64 jA, .int .i64 kA, .int .i64 0, .int .i64 0, .int .i64 0, .int .i64 0, .int .i64 0]) ?_ 3 _ rfl; (with_reducible repeat (first | refine blk_drewN ?_ _ | refine blk_drew ?_ | refine blk_alloc ?_ _)); refine blk_put (cs := #[.int .i64 iA, .int .i64 jA, .int .i64 0, .int .i64 0, .int .i64 0, .int .i64 0, .int .i64 0, .int .i64 0]) ?_ 2 _ rfl; (with_reducible repeat (first | refine blk_drewN ?_ _ | refine blk_drew ?_ | refine blk_alloc ?_ _)); refine blk_put (cs := #[.int .i64 iA, .int .i64 0, .int .i64 0, .int .i64 0, .int .i64 0, .int .i64 0, .int .i64 0, .int .i64 0]) ?_ 1 _ rfl; (with_reducible repeat (first | refine blk_drewN ?_ _ | refine blk_drew ?_ | refine blk_alloc ?_ _)); refine blk_put (cs := #[.int .i64 0, .int .i64 0, .int .i64 0, .int .i64 0, .int .i64 0, .int .i64 0, .int .i64 0, .int .i64 0]) ?_ 0 _ rfl; (iterate 8 ((with_reducible repeat (first | refine blk_drewN ?_ _ | refine blk_drew ?_ | refine blk_alloc ?_ _)); refine blk_far ?_ kB.out _)); (with_reducible repeat (first | refine blk_drewN ?_ _ | refine blk_drew ?_ | refine blk_alloc ?_ _)); exact tA.out) Try.underlying89 rfl (by kernel_rfl)) rfl ?_
 exact ⟨q1_6, by repeat (first | (with_reducible first | exact HB.out | apply below_alloc | apply pw_below_drewN | apply below_drew1 | refine below_set ?_ SB.out | refine below_set ?_ ZB.out | refine below_set ?_ AC.out) | exact HB.out)⟩

/-! ### laws_toFactS: function 43 -/
def laws_toFactS.l0 : Nat → List (S92) → List (S89) → Int → Option ((List (S89)))
 | 0, _, _, _ => none
 | k + 1, x0, x3, x4 => if x4 < (x0.length : Int) then (if 0 ≤ x4 then ((laws_toFact.f ((rd_T92 x0 x4).f0) ((rd_T92 x0 x4).f1) ((rd_T92 x0 x4).f2) ((rd_T92 x0 x4).f3) ((rd_T92 x0 x4).f4) ((rd_T92 x0 x4).f5) ((rd_T92 x0 x4).f6) ((rd_T92 x0 x4).f7)).bind fun hB => (if x4 < (x3.length : Int) then (laws_toFactS.l0 k x0 (x3.set (x4 : Int).toNat (⟨hB.1, hB.2.1, hB.2.2.1, hB.2.2.2.1, hB.2.2.2.2.1, hB.2.2.2.2.2.1, hB.2.2.2.2.2.2.1, hB.2.2.2.2.2.2.2⟩ : S89)) (wrap64 (x4 + 1))) else (none))) else (none)) else (some x3)
def laws_toFactS.f (k : Nat) (l0 : List (S92)) : Option ((List (S89))) := if 0 ≤ (l0.length : Int) then (if ((l0.length : Int) : Int).toNat ≤ 4398046511104 then (laws_toFactS.l0 k l0 (List.replicate ((l0.length : Int) : Int).toNat z89) 0) else (none)) else (none)
theorem laws_toFactS.mono_l : ∀ k, (∀ y0 y1 y2, LeO (laws_toFactS.l0 k y0 y1 y2) (laws_toFactS.l0 (k + 1) y0 y1 y2))
 | 0 => fun _ _ _ r h => by simp [laws_toFactS.l0] at h
 | k + 1 => by
  have ih0 := laws_toFactS.mono_l k
  ·intro y0 y1 y2
   unfold laws_toFactS.l0
   repeat' first
   | (with_reducible exact ih0 _ _ _)
   | (with_reducible exact LeO.refl _)
   | (with_reducible exact LeO.none _)
   | (with_reducible refine LeO.ite ?_ ?_)
   | (with_reducible refine LeO.bind ?_ (fun _ => ?_))
   | exact ih0 _ _ _
   | exact LeO.none _
   | refine LeO.ite ?_ ?_
   | refine LeO.bind ?_ (fun _ => ?_)
theorem laws_toFactS.mono : ∀ a0 k, LeO (laws_toFactS.f k a0) (laws_toFactS.f (k + 1) a0) := by
 intro a0 k
 have ih0 := laws_toFactS.mono_l k
 unfold laws_toFactS.f
 repeat' first
   | (with_reducible exact ih0 _ _ _)
   | (with_reducible exact LeO.refl _)
   | (with_reducible exact LeO.none _)
   | (with_reducible refine LeO.ite ?_ ?_)
   | (with_reducible refine LeO.bind ?_ (fun _ => ?_))
   | exact ih0 _ _ _
   | exact LeO.none _
   | refine LeO.ite ?_ ?_
   | refine LeO.bind ?_ (fun _ => ?_)
set_option maxHeartbeats 8000000 in
set_option maxRecDepth 100000 in
theorem laws_toFactS.calls (k : Nat) (A0 : Option Addr) (c0 : Nat) (l0 : List (S92)) (r : List (S89)) (w : World) (hr0 : Kd.C k92 w A0 l0.length l0) (hc0 : l0.length ≤ c0) (h : laws_toFactS.f k l0 = some r) :
  Calls Try.prog 43 #[.slice A0 l0.length c0] w fun e w' => ∃ v0_ : Value, e = .returned (v0_) ∧ Kd.R k89 89 w' w.heap.size (fun _ => True) v0_ r ∧ Below w.heap.size w w' := by
 have hu92 := Try.underlying92
 have hu89 := Try.underlying89
 have HR0 := Aside0.mk hr0
 clear hr0 hc0
 have HB := Aside0.mk (Below.refl w.heap.size w)
 have H : (if 0 ≤ (l0.length : Int) then (if ((l0.length : Int) : Int).toNat ≤ 4398046511104 then (laws_toFactS.l0 k l0 (List.replicate ((l0.length : Int) : Int).toNat z89) 0) else (none)) else (none)) = some r := h
 clear h
 by_cases c2 : 0 ≤ (l0.length : Int)
 ·rw [if_pos c2] at H
  have pJ := eq_true c2
  have qJ : decide (0 ≤ (l0.length : Int)) = true := decide_eq_true c2
  clear c2
  by_cases c3 : ((l0.length : Int) : Int).toNat ≤ 4398046511104
  ·rw [if_pos c3] at H
   have iB := eq_true c3
   have mB : decide (((l0.length : Int) : Int).toNat ≤ 4398046511104) = true := decide_eq_true c3
   clear c3
   obtain ⟨y111, hy111⟩ : ∃ y_ : List (S89), y_ = (List.replicate ((l0.length : Int) : Int).toNat z89) := ⟨_, rfl⟩
   replace H : (laws_toFactS.l0 k l0 y111 0) = some r := by first | (rw [hy111]; with_reducible exact H) | (have H2_ := (Option.bind_some _ _).symm.trans H; rw [hy111]; with_reducible exact H2_) | (have H2_ := (Option.bind_some _ _).symm.trans H; with_reducible exact H2_) | with_reducible exact H | (rw [hy111]; exact H) | exact H
   have Ny111 := Aside0.mk hy111
   clear hy111
   have H' := Aside0.mk H
   clear H
   go_enter Try.func43, Try.ntmps43
   go_wp2_with (first | ((with_reducible refine gate_dst (N := 7) rfl ?_); refine Kd.R_make k89 _ 89 rfl (N := 7) rfl 60 _ _ rfl (l0.length : Int) rfl rfl Try.underlying60 (.agg #[(.int .i64 0), (.int .i64 0), (.int .i64 0), (.int .i64 0), (.int .i64 0), (.int .i64 0), (.int .i64 0), (.int .i64 0)]) 64 info89 rfl (by decide) (by omega) z89 (ok := fun _ => True) (okp := fun _ => True) (k89_mkM _ _ _ z89 ) (fun _ hk => hk) trivial (of_decide_eq_true q1_7) (Nat.le_trans (Nat.mul_le_mul_right _ (of_decide_eq_true q1_7 : (l0.length : Int).toNat ≤ 4398046511104)) (by omega)) (Below.refl _ _) (Nat.le_refl _) ?_; intro rJ w4 ho5 hb hg_ hnew_; clear hg_ hnew_; (first | rw [← Ny111.out] at ho5 | (simp only [Int.reduceToNat] at ho5; rw [← Ny111.out] at ho5)); have qA := Aside0.mk (Kd.R_lower ho5 (below_size q1_0)); have rA := Aside0.mk (below_step q1_0 hb); clear HB; have BC := qA; have HB := rA; clear qA rA; clear hb ho5))
   go_loopg [4] k (fun kq v4 w' => ∃ (ZA : List (S89)) (fA : Int), v4 = .int .i64 fA ∧ Aside0 (laws_toFactS.l0 kq l0 ZA fA = some r) ∧ Aside0 (kq ≤ k) ∧ Aside0 (Kd.R k89 89 w' w.heap.size (fun _ => True) rJ ZA) ∧ Aside0 (Below w.heap.size w w'))
   case atStart => exact ⟨(y111), (0), q1_11, H', ⟨Nat.le_refl _⟩, ⟨by (with_reducible repeat (first | apply Kd.R_alloc | apply Kd.R_drewN | apply Kd.R_drew)); exact BC.out⟩, ⟨q1_0⟩⟩
   case round =>
    clear H'
    (try clear c2); (try clear pJ); (try clear qJ); (try clear p2); (try clear c3); (try clear iB); (try clear mB); (try clear c4)
    obtain ⟨ZA, fA, rfl, HA, HK1, lB, HB⟩ := hrel
    cases gk with
    | zero => exact absurd HA.out (by simp [laws_toFactS.l0])
    | succ k1 =>
     have H := HA.out
     clear HA
     simp only [laws_toFactS.l0] at H
     by_cases c6 : fA < (l0.length : Int)
     ·rw [if_pos c6] at H
      have VB : decide (fA < (l0.length : Int)) = true := decide_eq_true c6
      clear c6
      by_cases c7 : 0 ≤ fA
      ·rw [if_pos c7] at H
       have WB : decide (0 ≤ fA) = true := decide_eq_true c7
       clear c7
       replace H := Option.bind_eq_some_iff.mp H
       obtain ⟨⟨KB, LB, MB, NB, OB, PB, QB, RB⟩, A80, H⟩ := H
       (try dsimp only at H)
       have A8 := Aside0.mk A80
       clear A80
       by_cases c9 : fA < (ZA.length : Int)
       ·rw [if_pos c9] at H
        have xC : decide (fA < (ZA.length : Int)) = true := decide_eq_true c9
        clear c9
        obtain ⟨y123, hy123⟩ : ∃ y_ : List (S89), y_ = (ZA.set (fA : Int).toNat (⟨KB, LB, MB, NB, OB, PB, QB, RB⟩ : S89)) := ⟨_, rfl⟩
        replace H : (laws_toFactS.l0 k1 l0 y123 (wrap64 (fA + 1))) = some r := by first | (rw [hy123]; with_reducible exact H) | (have H2_ := (Option.bind_some _ _).symm.trans H; rw [hy123]; with_reducible exact H2_) | (have H2_ := (Option.bind_some _ _).symm.trans H; with_reducible exact H2_) | with_reducible exact H | (rw [hy123]; exact H) | exact H
        have Ny123 := Aside0.mk hy123
        clear hy123
        have H' := Aside0.mk H
        clear H
        have p114 : 0 ≤ (fA : Int) := of_decide_eq_true q1_7
        have q114 : fA < (l0.length : Int) := of_decide_eq_true q1_7
        obtain ⟨ad114, sJ, nB, oB, pB, qB, rB, sB, tB, uB⟩ := at_T92 HR0.out fA p114 q114
        cases sJ
        replace nB := (HB.out.cell (World.block_lt_of_cell? w _ nB)).trans nB
        replace oB := (HB.out.cell (World.block_lt_of_cell? w _ oB)).trans oB
        replace pB := (HB.out.cell (World.block_lt_of_cell? w _ pB)).trans pB
        replace qB := (HB.out.cell (World.block_lt_of_cell? w _ qB)).trans qB
        replace rB := (HB.out.cell (World.block_lt_of_cell? w _ rB)).trans rB
        replace sB := (HB.out.cell (World.block_lt_of_cell? w _ sB)).trans sB
        replace tB := (HB.out.cell (World.block_lt_of_cell? w _ tB)).trans tB
        replace uB := (HB.out.cell (World.block_lt_of_cell? w _ uB)).trans uB
        replace p114 := eq_true p114
        replace q114 := eq_true q114
        go_wp2_with (first | ((with_reducible refine gate_callee (f := 69) rfl ?_); refine goesL_ (some 20) rfl rfl Try.func69 (by kernel_rfl) rfl #[.agg #[.int .i64 ((rd_T92 l0 fA).f0), .int .i64 ((rd_T92 l0 fA).f1), .int .i64 ((rd_T92 l0 fA).f2), .int .i64 ((rd_T92 l0 fA).f3), .int .i64 ((rd_T92 l0 fA).f4), .int .i64 ((rd_T92 l0 fA).f5), .int .i64 ((rd_T92 l0 fA).f6), .int .i64 ((rd_T92 l0 fA).f7)]] rfl q1_16 ?_; (with_reducible refine (laws_toFact.calls ((rd_T92 l0 fA).f0) ((rd_T92 l0 fA).f1) ((rd_T92 l0 fA).f2) ((rd_T92 l0 fA).f3) ((rd_T92 l0 fA).f4) ((rd_T92 l0 fA).f5) ((rd_T92 l0 fA).f6) ((rd_T92 l0 fA).f7) KB LB MB NB OB PB QB RB _ A8.out).mono ?_); rintro e jB ⟨rfl, hb⟩; refine ⟨_, rfl, ?_⟩; have qA := Aside0.mk (Kd.R_below q1_15 hb); have rA := Aside0.mk (below_step q1_0 hb); clear lB HB; have lB := qA; have HB := rA; clear qA rA; (try clear hb); (try clear hb2); (try clear hk); (try clear hi); have p10 : 0 ≤ (fA : Int) := of_decide_eq_true q1_7; have q10 : (fA : Int) < ((ZA.length : Int) : Int) := of_decide_eq_true q1_7; obtain ⟨go10, CC, DC, EC, gl10, cl10, HG10⟩ := Kd.R_form lB.out (by omega); (first | cases DC | (injection DC with ea_ en_ ec_; (first | subst ea_ | (injection ea_ with ea_; subst ea_)); subst ec_; clear en_)); have GB10 := Aside0.mk EC; have GG10 := Aside0.mk HG10; clear EC gl10 HG10; obtain ⟨ce10, hcl10, hM10, hcc10, hfr10⟩ := Kd.R_elem lB.out z89 (fA : Int) p10 q10; obtain rfl := k89_openM hM10; have tJ : jB.cell? ⟨go10, (fA : Int).toNat * 8, none⟩ = some (.int .i64 ((rd_T89 ZA fA).f0)) := hcc10 0 _ rfl; have uJ : jB.cell? ⟨go10, (fA : Int).toNat * 8 + 1, none⟩ = some (.int .i64 ((rd_T89 ZA fA).f1)) := hcc10 1 _ rfl; have vJ : jB.cell? ⟨go10, (fA : Int).toNat * 8 + 2, none⟩ = some (.int .i64 ((rd_T89 ZA fA).f2)) := hcc10 2 _ rfl; have wJ : jB.cell? ⟨go10, (fA : Int).toNat * 8 + 3, none⟩ = some (.int .i64 ((rd_T89 ZA fA).f3)) := hcc10 3 _ rfl; have xJ : jB.cell? ⟨go10, (fA : Int).toNat * 8 + 4, none⟩ = some (.int .i64 ((rd_T89 ZA fA).f4)) := hcc10 4 _ rfl; have yJ : jB.cell? ⟨go10, (fA : Int).toNat * 8 + 5, none⟩ = some (.int .i64 ((rd_T89 ZA fA).f5)) := hcc10 5 _ rfl; have zJ : jB.cell? ⟨go10, (fA : Int).toNat * 8 + 6, none⟩ = some (.int .i64 ((rd_T89 ZA fA).f6)) := hcc10 6 _ rfl; have AJ : jB.cell? ⟨go10, (fA : Int).toNat * 8 + 7, none⟩ = some (.int .i64 ((rd_T89 ZA fA).f7)) := hcc10 7 _ rfl; have BJ : jB.frozen? ⟨go10, (fA : Int).toNat * 8, none⟩ = false := hfr10 0; have CJ : jB.frozen? ⟨go10, (fA : Int).toNat * 8 + 1, none⟩ = false := hfr10 1; have DJ : jB.frozen? ⟨go10, (fA : Int).toNat * 8 + 2, none⟩ = false := hfr10 2; have EJ : jB.frozen? ⟨go10, (fA : Int).toNat * 8 + 3, none⟩ = false := hfr10 3; have FJ : jB.frozen? ⟨go10, (fA : Int).toNat * 8 + 4, none⟩ = false := hfr10 4; have GJ : jB.frozen? ⟨go10, (fA : Int).toNat * 8 + 5, none⟩ = false := hfr10 5; have HJ : jB.frozen? ⟨go10, (fA : Int).toNat * 8 + 6, none⟩ = false := hfr10 6; have IJ : jB.frozen? ⟨go10, (fA : Int).toNat * 8 + 7, none⟩ = false := hfr10 7; clear hcl10 hcc10 hfr10 hM10; replace p10 := eq_true p10; replace q10 := eq_true q10; have HX12 := Aside0.mk (show Kd.R k89 89 jB w.heap.size (fun _ => True) (.slice (some ⟨go10, 0, none⟩) ZA.length CC) ZA from q1_15); obtain ⟨ce12, hcl12, hM12, hcc12, hfr12⟩ := Kd.R_elem HX12.out z89 (fA : Int) (of_decide_eq_true q1_7) (by have h_ : (fA : Int) < ((ZA.length : Int) : Int) := of_decide_eq_true q1_7; first | exact h_ | (have e_ := (Kd.R_reads' lB.out).1; omega) | simpa using h_); obtain rfl := k89_openM hM12; have HP12 := Kd.R_seg HX12.out (fA : Int) (of_decide_eq_true q1_7) (by have h_ : (fA : Int) < ((ZA.length : Int) : Int) := of_decide_eq_true q1_7; first | exact h_ | (have e_ := (Kd.R_reads' lB.out).1; omega) | simpa using h_) (seg := [.int .i64 KB, .int .i64 LB, .int .i64 MB, .int .i64 NB, .int .i64 OB, .int .i64 PB, .int .i64 QB, .int .i64 RB]) (j := 0) hcl12 hcc12 (show 8 ≤ 8 from by decide) (x' := (⟨KB, LB, MB, NB, OB, PB, QB, RB⟩ : S89)) (k89_mkM _ _ _ (⟨KB, LB, MB, NB, OB, PB, QB, RB⟩ : S89) ) (fun _ hk => hk); have hC := hcc12 0 _ rfl; (try simp only [show (k89).sz = 8 from rfl, Nat.mul_one, Nat.add_zero] at hC); have iC := hfr12 0; (try simp only [show (k89).sz = 8 from rfl, Nat.mul_one, Nat.add_zero] at iC); have jC := hcc12 1 _ rfl; (try simp only [show (k89).sz = 8 from rfl, Nat.mul_one, Nat.add_zero] at jC); have kC := hfr12 1; (try simp only [show (k89).sz = 8 from rfl, Nat.mul_one, Nat.add_zero] at kC); have lC := hcc12 2 _ rfl; (try simp only [show (k89).sz = 8 from rfl, Nat.mul_one, Nat.add_zero] at lC); have mC := hfr12 2; (try simp only [show (k89).sz = 8 from rfl, Nat.mul_one, Nat.add_zero] at mC); have nC := hcc12 3 _ rfl; (try simp only [show (k89).sz = 8 from rfl, Nat.mul_one, Nat.add_zero] at nC); have oC := hfr12 3; (try simp only [show (k89).sz = 8 from rfl, Nat.mul_one, Nat.add_zero] at oC); have pC := hcc12 4 _ rfl; (try simp only [show (k89).sz = 8 from rfl, Nat.mul_one, Nat.add_zero] at pC); have qC := hfr12 4; (try simp only [show (k89).sz = 8 from rfl, Nat.mul_one, Nat.add_zero] at qC); have rC := hcc12 5 _ rfl; (try simp only [show (k89).sz = 8 from rfl, Nat.mul_one, Nat.add_zero] at rC); have sC := hfr12 5; (try simp only [show (k89).sz = 8 from rfl, Nat.mul_one, Nat.add_zero] at sC); have tC := hcc12 6 _ rfl; (try simp only [show (k89).sz = 8 from rfl, Nat.mul_one, Nat.add_zero] at tC); have uC := hfr12 6; (try simp only [show (k89).sz = 8 from rfl, Nat.mul_one, Nat.add_zero] at uC); have vC := hcc12 7 _ rfl; (try simp only [show (k89).sz = 8 from rfl, Nat.mul_one, Nat.add_zero] at vC); have wC := hfr12 7; (try simp only [show (k89).sz = 8 from rfl, Nat.mul_one, Nat.add_zero] at wC); clear hcl12 hcc12 hfr12 hM12) | ((with_reducible refine gate_store (t := 89) (p := 21) rfl ?_); refine store_event (t := 89) (p := 21) (v := ?vo_w13) (w1 := ((((((((jB.setCell ⟨go10, (fA : Int).toNat * 8, none⟩ (.int .i64 KB)).setCell ⟨go10, (fA : Int).toNat * 8 + 1, none⟩ (.int .i64 LB)).setCell ⟨go10, (fA : Int).toNat * 8 + 2, none⟩ (.int .i64 MB)).setCell ⟨go10, (fA : Int).toNat * 8 + 3, none⟩ (.int .i64 NB)).setCell ⟨go10, (fA : Int).toNat * 8 + 4, none⟩ (.int .i64 OB)).setCell ⟨go10, (fA : Int).toNat * 8 + 5, none⟩ (.int .i64 PB)).setCell ⟨go10, (fA : Int).toNat * 8 + 6, none⟩ (.int .i64 QB)).setCell ⟨go10, (fA : Int).toNat * 8 + 7, none⟩ (.int .i64 RB))) ?hg ?ho ?hn ?hr ?_; (case ho => rfl); (case hg => rfl); (case hn => rfl); (case hr => first | (go_simp; done) | (go_simp; rfl)); intro JJ hw; have hg : jB.grownBy JJ (some go10) := (by rw [hw]; exact HP12.2); have hp_ : Kd.R k89 89 JJ w.heap.size (fun _ => True) (.slice (some ⟨go10, 0, none⟩) ZA.length CC) y123 := (by rw [hw, Ny123.out]; exact HP12.1); clear HP12; have qA := Aside0.mk (hp_); have rA := Aside0.mk ((by rw [hw]; exact below_set (below_set (below_set (below_set (below_set (below_set (below_set (below_set (HB.out) GB10.out) GB10.out) GB10.out) GB10.out) GB10.out) GB10.out) GB10.out) GB10.out : Below w.heap.size w JJ)); clear lB HB; have lB := qA; have HB := rA; clear qA rA; clear hg hw hp_))
        go_roundg k1
        case measure => have := HK1.out; omega
        case rel => exact ⟨(y123), (wrap64 (fA + 1)), q1_11, H', ⟨by have := HK1.out; omega⟩, ⟨q1_15⟩, ⟨q1_0⟩⟩
       ·rw [if_neg c9] at H
        exact absurd H (by simp)
      ·rw [if_neg c7] at H
       exact absurd H (by simp)
     ·rw [if_neg c6] at H
      have VB : decide (fA < (l0.length : Int)) = false := decide_eq_false c6
      clear c6
      obtain rfl := Option.some.inj H
      go_wp2
      go_ret
      exact ⟨_, q1_6, q1_15, q1_0⟩
  ·rw [if_neg c3] at H
   exact absurd H (by simp)
 ·rw [if_neg c2] at H
  exact absurd H (by simp)

end Go.Proofs.Ytgghglocfdcegaa.PFnExactRingGood
