-- Written by the session's own patched copy of the printer (wip/patch_print.py).
import Derived.Test.YtgghglocfdcegaaPFnExactInTimex0
namespace Go.Proofs.Ytgghglocfdcegaa.PFnExactInTime
open Go.RowKit Go.Proofs.YtgghglocfdcegaaW.PrintWords Go.Proofs.YtgghglocfdcegaaW.PrintLast Go.Proofs.YtgghglocfdcegaaW.PrintMore
attribute [local go_sem] max2_int min2_int max_two min_two max_three min_three max_four min_four   -- for this text's walks alone
set_option linter.unusedVariables false
set_option linter.unusedSimpArgs false

theorem q1_p {P : Program} {ops : Array Oper} {Q : Exit → Act → World → Prop} {md : Region.Mode} {S : World → Prop} {ds : List Nat} (i n : Nat) {oi : Oper} {v : Value} {fuel : Nat} {l : Array Bool} {a : Act} {w : World} (l' : Array Bool) {a' : Act} (h : wpAnyLast P md ops Q S ds fuel l' a' w) (hi : ops[i]? = some oi := by rfl) (hN : oi.dst = some n := by rfl) (hc : anyB md ops l l' i = true := by exact any_of HT_.out (by kernel_rfl)) (hQ : ∀ c a w, Q (.panic c) (a.put oi.dst v) w → Q (.panic c) a w := by exact fun _ _ _ h => h) (hy : Yields P ops oi v a := by refine Or.inl ⟨by rfl, ?_⟩; intro w'; go_simp; with_reducible rfl) (ha : a.put (some n) v = a' := by simp only [Act.put, List.setIfInBounds_toArray, List.set_cons_zero, List.set_cons_succ, i64_w, i32_w]; rfl) : wpAnyLast P md ops Q S ds (fuel + 1) l a w := pure_ (N := some n) l' hi hN hc hQ hy ha h
theorem q1_u {P : Program} {ops : Array Oper} {Q : Exit → Act → World → Prop} {md : Region.Mode} {S : World → Prop} {ds : List Nat} (i n : Nat) {oi : Oper} {fuel : Nat} {l : Array Bool} {a : Act} {w : World} (l' : Array Bool) {a' : Act} (h : wpAnyLast P md ops Q S ds fuel l' a' w) (hi : ops[i]? = some oi := by rfl) (hN : oi.dst = some n := by rfl) (hc : anyB md ops l l' i = true := by exact any_of HT_.out (by kernel_rfl)) (hQ : ∀ c a w, Q (.panic c) (a.put oi.dst undef) w → Q (.panic c) a w := by exact fun _ _ _ h => h) (hy : Yields P ops oi undef a := by exact Or.inr ⟨by rfl, rfl⟩) (ha : a.put (some n) undef = a' := by simp only [Act.put, List.setIfInBounds_toArray, List.set_cons_zero, List.set_cons_succ, i64_w, i32_w]; rfl) : wpAnyLast P md ops Q S ds (fuel + 1) l a w := pure_ (N := some n) l' hi hN hc hQ hy ha h
open Bool renaming true → T, false → F
theorem q1_0 {p : Prop} (h : p := by repeat (first | (with_reducible first | exact HB.out | apply below_alloc | apply pw_below_drewN | apply below_drew1) | exact HB.out)) : p := h
theorem q1_1 {p : Prop} (h : p := by repeat (first | (with_reducible first | exact HB.out | apply below_alloc | apply pw_below_drewN | apply below_drew1 | refine below_set ?_ YA.out) | exact HB.out)) : p := h
theorem q1_2 {p : Prop} (h : p := by have h_ : (aA : Int) < ((gA.length : Int) : Int) := of_decide_eq_true (by first | (with_reducible assumption) | assumption); first | exact h_ | (have e_ := (Kd.R_reads' uA.out).1; omega) | simpa using h_) : p := h
theorem q1_3 {p : Prop} (h : p := by (with_reducible repeat (first | refine blk_drewN ?_ _ | refine blk_drew ?_ | refine blk_alloc ?_ _)); exact bA.out) : p := h
theorem q1_4 {p : Prop} (h : p := by first | (with_reducible assumption) | assumption) : p := h
theorem q1_5 {p : Prop} (h : p := by rw [hg]; exact Nat.ne_of_lt (blk_lt (g := dA) (o := .cells #[.int .i64 kA, .int .i64 lA, .int .i64 mA, .int .i64 nA, .int .i64 oA, .int .i64 pA, .int .i64 qA, .int .i64 rA] 89 (0, 0)) q1_3)) : p := h
theorem q1_6 {p : Prop} (h : p := by rw [hg]; exact Nat.ne_of_gt (blk_lt (g := dA) (o := .cells #[.int .i64 kA, .int .i64 lA, .int .i64 mA, .int .i64 nA, .int .i64 oA, .int .i64 pA, .int .i64 qA, .int .i64 rA] 89 (0, 0)) q1_3)) : p := h
theorem q1_7 {p : Prop} (h : p := by repeat (first | (with_reducible first | exact HB.out | apply below_alloc | apply pw_below_drewN | apply below_drew1 | refine below_set ?_ YA.out | refine below_set ?_ ZA.out) | exact HB.out)) : p := h
theorem q1_8 {p : Prop} (h : p := by repeat (first | (with_reducible first | exact HK.out | apply Kept.alloc | apply Kept.drewN | apply Kept.drew) | exact HK.out)) : p := h
theorem q1_9 {p : Prop} (h : p := by first | rfl | (simp [errW_none, errW_some] <;> rfl) | (simp [*, errW_none, errW_some] <;> rfl)) : p := h
theorem q1_10 {p : Prop} (h : p := by (with_reducible repeat (first | apply Kd.R_alloc | apply Kd.R_drewN | apply Kd.R_drew)); exact uA.out) : p := h
theorem q1_11 {p : Prop} (h : p := by rw [hg]; exact (below_size q1_0)) : p := h
theorem q1_12 {p : Prop} (h : p := by rw [hg]; exact (below_size q1_1)) : p := h
theorem q1_13 {p : Prop} (h : p := by rw [hw]; exact below_set (HB.out) GB5.out) : p := h
theorem q1_14 {p : Prop} (h : p := by first | rfl | (simp; done) | (simp [*]; done)) : p := h
/-! ### laws_eqFact: function 68 -/
def laws_eqFact.f (kA : Int) (lA : Int) (mA : Int) (nA : Int) (oA : Int) (pA : Int) (qA : Int) (rA : Int) (MA : Int) (NA : Int) (OA : Int) (PA : Int) (QA : Int) (RA : Int) (SA : Int) (TA : Int) : Option (Bool) := if kA = MA then (if lA = NA then (if mA = OA then (if nA = PA then (if oA = QA then (if pA = RA then (if qA = SA then (if rA = TA then (some true) else (some false)) else (some false)) else (some false)) else (some false)) else (some false)) else (some false)) else (some false)) else (some false)
set_option maxHeartbeats 8000000 in
set_option maxRecDepth 100000 in
theorem laws_eqFact.calls (kA : Int) (lA : Int) (mA : Int) (nA : Int) (oA : Int) (pA : Int) (qA : Int) (rA : Int) (MA : Int) (NA : Int) (OA : Int) (PA : Int) (QA : Int) (RA : Int) (SA : Int) (TA : Int) (r : Bool) (w : World) (h : laws_eqFact.f kA lA mA nA oA pA qA rA MA NA OA PA QA RA SA TA = some r) :
  Calls Try.prog 68 #[.agg #[.int .i64 kA, .int .i64 lA, .int .i64 mA, .int .i64 nA, .int .i64 oA, .int .i64 pA, .int .i64 qA, .int .i64 rA], .agg #[.int .i64 MA, .int .i64 NA, .int .i64 OA, .int .i64 PA, .int .i64 QA, .int .i64 RA, .int .i64 SA, .int .i64 TA]] w fun e w' => e = .returned (.bool r) ∧ Below w.heap.size w w' := by
 have hu89 := Try.underlying89
 have HB := Aside0.mk (Below.refl w.heap.size w)
 have H : (if kA = MA then (if lA = NA then (if mA = OA then (if nA = PA then (if oA = QA then (if pA = RA then (if qA = SA then (if rA = TA then (some true) else (some false)) else (some false)) else (some false)) else (some false)) else (some false)) else (some false)) else (some false)) else (some false)) = some r := h
 clear h
 by_cases c3 : kA = MA
 ·rw [if_pos c3] at H
  have sB : (kA == MA) = true := beq_iff_eq.mpr c3
  have tB : (kA != MA) = false := bne_eq_false_iff_eq.mpr c3
  clear c3
  by_cases c4 : lA = NA
  ·rw [if_pos c4] at H
   have uB : (lA == NA) = true := beq_iff_eq.mpr c4
   have wH : (lA != NA) = false := bne_eq_false_iff_eq.mpr c4
   clear c4
   by_cases c5 : mA = OA
   ·rw [if_pos c5] at H
    have PB : (mA == OA) = true := beq_iff_eq.mpr c5
    have xH : (mA != OA) = false := bne_eq_false_iff_eq.mpr c5
    clear c5
    by_cases c6 : nA = PA
    ·rw [if_pos c6] at H
     have QB : (nA == PA) = true := beq_iff_eq.mpr c6
     have yH : (nA != PA) = false := bne_eq_false_iff_eq.mpr c6
     clear c6
     by_cases c7 : oA = QA
     ·rw [if_pos c7] at H
      have zH : (oA == QA) = true := beq_iff_eq.mpr c7
      have AH : (oA != QA) = false := bne_eq_false_iff_eq.mpr c7
      clear c7
      by_cases c8 : pA = RA
      ·rw [if_pos c8] at H
       have BH : (pA == RA) = true := beq_iff_eq.mpr c8
       have CH : (pA != RA) = false := bne_eq_false_iff_eq.mpr c8
       clear c8
       by_cases c9 : qA = SA
       ·rw [if_pos c9] at H
        have DH : (qA == SA) = true := beq_iff_eq.mpr c9
        have EH : (qA != SA) = false := bne_eq_false_iff_eq.mpr c9
        clear c9
        by_cases c10 : rA = TA
        ·rw [if_pos c10] at H
         have RB : (rA == TA) = true := beq_iff_eq.mpr c10
         have SB : (rA != TA) = false := bne_eq_false_iff_eq.mpr c10
         clear c10
         obtain rfl := Option.some.inj H
         go_enter Try.func68, Try.ntmps68
         go_wp2_with (first | ((with_reducible refine gate_dst (N := 2) rfl ?_); refine box_event ?hg (N := 2) ?hd (cs := #[.int .i64 kA, .int .i64 lA, .int .i64 mA, .int .i64 nA, .int .i64 oA, .int .i64 pA, .int .i64 qA, .int .i64 rA]) (t := 89) ?hr ?_; (case hd => rfl); (case hg => rfl); (case hr => first | (go_simp; done) | (go_simp; rfl)); intro dA hg IK hbox hb; have jA := Aside0.mk (below_step q1_0 hb); have sA := Aside0.mk (hbox); have tA := Aside0.mk ((q1_11 : w.heap.size ≤ dA)); have UA := Aside0.mk ((q1_11 : w.heap.size ≤ dA)); clear HB; have HB := jA; have bA := sA; have aB := tA; have YA := UA; clear jA sA tA UA; clear hb hbox hg) | ((with_reducible refine gate_dst (N := 3) rfl ?_); refine box_event ?hg (N := 3) ?hd (cs := #[.int .i64 MA, .int .i64 NA, .int .i64 OA, .int .i64 PA, .int .i64 QA, .int .i64 RA, .int .i64 SA, .int .i64 TA]) (t := 89) ?hr ?_; (case hd => rfl); (case hg => rfl); (case hr => first | (go_simp; done) | (go_simp; rfl)); intro eA hg lB hbox hb; have jA := Aside0.mk (blk_below (g := dA) (o := .cells #[.int .i64 kA, .int .i64 lA, .int .i64 mA, .int .i64 nA, .int .i64 oA, .int .i64 pA, .int .i64 qA, .int .i64 rA] 89 (0, 0)) q1_3 hb); have sA := Aside0.mk (below_step q1_1 hb); have tA := Aside0.mk (hbox); have UA := Aside0.mk ((q1_12 : w.heap.size ≤ eA)); have bB := Aside0.mk ((q1_12 : w.heap.size ≤ eA)); have cB := Aside0.mk ((q1_5 : dA ≠ eA)); have dB := Aside0.mk ((q1_6 : eA ≠ dA)); clear bA HB; have bA := jA; have HB := sA; have cA := tA; have eB := UA; have ZA := bB; have hA := cB; have iA := dB; clear jA sA tA UA bB cB dB; clear hb hbox hg; have KI := hA.out; have LI := iA.out; have UB : lB.cell? ⟨dA, 0, none⟩ = some (.int .i64 kA) := (blk_cell bA.out 0).trans rfl; have VB : lB.cell? ⟨dA, 1, none⟩ = some (.int .i64 lA) := (blk_cell bA.out 1).trans rfl; have WB : lB.cell? ⟨dA, 2, none⟩ = some (.int .i64 mA) := (blk_cell bA.out 2).trans rfl; have XB : lB.cell? ⟨dA, 3, none⟩ = some (.int .i64 nA) := (blk_cell bA.out 3).trans rfl; have YB : lB.cell? ⟨dA, 4, none⟩ = some (.int .i64 oA) := (blk_cell bA.out 4).trans rfl; have ZB : lB.cell? ⟨dA, 5, none⟩ = some (.int .i64 pA) := (blk_cell bA.out 5).trans rfl; have aC : lB.cell? ⟨dA, 6, none⟩ = some (.int .i64 qA) := (blk_cell bA.out 6).trans rfl; have bC : lB.cell? ⟨dA, 7, none⟩ = some (.int .i64 rA) := (blk_cell bA.out 7).trans rfl; have cC := blk_frozen bA.out 0; have dC := blk_frozen bA.out 1; have eC := blk_frozen bA.out 2; have fC := blk_frozen bA.out 3; have gC := blk_frozen bA.out 4; have hC := blk_frozen bA.out 5; have iC := blk_frozen bA.out 6; have jC := blk_frozen bA.out 7; have kC : lB.cell? ⟨eA, 0, none⟩ = some (.int .i64 MA) := (blk_cell cA.out 0).trans rfl; have lC : lB.cell? ⟨eA, 1, none⟩ = some (.int .i64 NA) := (blk_cell cA.out 1).trans rfl; have mC : lB.cell? ⟨eA, 2, none⟩ = some (.int .i64 OA) := (blk_cell cA.out 2).trans rfl; have nC : lB.cell? ⟨eA, 3, none⟩ = some (.int .i64 PA) := (blk_cell cA.out 3).trans rfl; have oC : lB.cell? ⟨eA, 4, none⟩ = some (.int .i64 QA) := (blk_cell cA.out 4).trans rfl; have pC : lB.cell? ⟨eA, 5, none⟩ = some (.int .i64 RA) := (blk_cell cA.out 5).trans rfl; have qC : lB.cell? ⟨eA, 6, none⟩ = some (.int .i64 SA) := (blk_cell cA.out 6).trans rfl; have rC : lB.cell? ⟨eA, 7, none⟩ = some (.int .i64 TA) := (blk_cell cA.out 7).trans rfl; have sC := blk_frozen cA.out 0; have tC := blk_frozen cA.out 1; have uC := blk_frozen cA.out 2; have vC := blk_frozen cA.out 3; have wC := blk_frozen cA.out 4; have xC := blk_frozen cA.out 5; have yC := blk_frozen cA.out 6; have zC := blk_frozen cA.out 7))
         go_ret
         exact ⟨q1_9, q1_7⟩
        ·rw [if_neg c10] at H
         have RB : (rA == TA) = false := beq_eq_false_iff_ne.mpr c10
         have SB : (rA != TA) = true := bne_iff_ne.mpr c10
         obtain rfl := Option.some.inj H
         go_enter Try.func68, Try.ntmps68
         go_wp2_with (first | ((with_reducible refine gate_dst (N := 2) rfl ?_); refine box_event ?hg (N := 2) ?hd (cs := #[.int .i64 kA, .int .i64 lA, .int .i64 mA, .int .i64 nA, .int .i64 oA, .int .i64 pA, .int .i64 qA, .int .i64 rA]) (t := 89) ?hr ?_; (case hd => rfl); (case hg => rfl); (case hr => first | (go_simp; done) | (go_simp; rfl)); intro dA hg NK hbox hb; have jA := Aside0.mk (below_step q1_0 hb); have sA := Aside0.mk (hbox); have tA := Aside0.mk ((q1_11 : w.heap.size ≤ dA)); have UA := Aside0.mk ((q1_11 : w.heap.size ≤ dA)); clear HB; have HB := jA; have bA := sA; have aB := tA; have YA := UA; clear jA sA tA UA; clear hb hbox hg) | ((with_reducible refine gate_dst (N := 3) rfl ?_); refine box_event ?hg (N := 3) ?hd (cs := #[.int .i64 MA, .int .i64 NA, .int .i64 OA, .int .i64 PA, .int .i64 QA, .int .i64 RA, .int .i64 SA, .int .i64 TA]) (t := 89) ?hr ?_; (case hd => rfl); (case hg => rfl); (case hr => first | (go_simp; done) | (go_simp; rfl)); intro eA hg VA hbox hb; have jA := Aside0.mk (blk_below (g := dA) (o := .cells #[.int .i64 kA, .int .i64 lA, .int .i64 mA, .int .i64 nA, .int .i64 oA, .int .i64 pA, .int .i64 qA, .int .i64 rA] 89 (0, 0)) q1_3 hb); have sA := Aside0.mk (below_step q1_1 hb); have tA := Aside0.mk (hbox); have UA := Aside0.mk ((q1_12 : w.heap.size ≤ eA)); have bB := Aside0.mk ((q1_12 : w.heap.size ≤ eA)); have cB := Aside0.mk ((q1_5 : dA ≠ eA)); have dB := Aside0.mk ((q1_6 : eA ≠ dA)); clear bA HB; have bA := jA; have HB := sA; have cA := tA; have eB := UA; have ZA := bB; have hA := cB; have iA := dB; clear jA sA tA UA bB cB dB; clear hb hbox hg; have MI := hA.out; have NI := iA.out; have AC : VA.cell? ⟨dA, 0, none⟩ = some (.int .i64 kA) := (blk_cell bA.out 0).trans rfl; have BC : VA.cell? ⟨dA, 1, none⟩ = some (.int .i64 lA) := (blk_cell bA.out 1).trans rfl; have CC : VA.cell? ⟨dA, 2, none⟩ = some (.int .i64 mA) := (blk_cell bA.out 2).trans rfl; have DC : VA.cell? ⟨dA, 3, none⟩ = some (.int .i64 nA) := (blk_cell bA.out 3).trans rfl; have EC : VA.cell? ⟨dA, 4, none⟩ = some (.int .i64 oA) := (blk_cell bA.out 4).trans rfl; have FC : VA.cell? ⟨dA, 5, none⟩ = some (.int .i64 pA) := (blk_cell bA.out 5).trans rfl; have GC : VA.cell? ⟨dA, 6, none⟩ = some (.int .i64 qA) := (blk_cell bA.out 6).trans rfl; have HC : VA.cell? ⟨dA, 7, none⟩ = some (.int .i64 rA) := (blk_cell bA.out 7).trans rfl; have IC := blk_frozen bA.out 0; have JC := blk_frozen bA.out 1; have KC := blk_frozen bA.out 2; have LC := blk_frozen bA.out 3; have MC := blk_frozen bA.out 4; have NC := blk_frozen bA.out 5; have OC := blk_frozen bA.out 6; have PC := blk_frozen bA.out 7; have QC : VA.cell? ⟨eA, 0, none⟩ = some (.int .i64 MA) := (blk_cell cA.out 0).trans rfl; have RC : VA.cell? ⟨eA, 1, none⟩ = some (.int .i64 NA) := (blk_cell cA.out 1).trans rfl; have SC : VA.cell? ⟨eA, 2, none⟩ = some (.int .i64 OA) := (blk_cell cA.out 2).trans rfl; have TC : VA.cell? ⟨eA, 3, none⟩ = some (.int .i64 PA) := (blk_cell cA.out 3).trans rfl; have UC : VA.cell? ⟨eA, 4, none⟩ = some (.int .i64 QA) := (blk_cell cA.out 4).trans rfl; have VC : VA.cell? ⟨eA, 5, none⟩ = some (.int .i64 RA) := (blk_cell cA.out 5).trans rfl; have WC : VA.cell? ⟨eA, 6, none⟩ = some (.int .i64 SA) := (blk_cell cA.out 6).trans rfl; have XC : VA.cell? ⟨eA, 7, none⟩ = some (.int .i64 TA) := (blk_cell cA.out 7).trans rfl; have YC := blk_frozen cA.out 0; have ZC := blk_frozen cA.out 1; have aD := blk_frozen cA.out 2; have bD := blk_frozen cA.out 3; have cD := blk_frozen cA.out 4; have dD := blk_frozen cA.out 5; have eD := blk_frozen cA.out 6; have fD := blk_frozen cA.out 7))
         go_ret
         exact ⟨q1_9, q1_7⟩
       ·rw [if_neg c9] at H
        have DH : (qA == SA) = false := beq_eq_false_iff_ne.mpr c9
        have EH : (qA != SA) = true := bne_iff_ne.mpr c9
        obtain rfl := Option.some.inj H
        go_enter Try.func68, Try.ntmps68
        go_wp2_with (first | ((with_reducible refine gate_dst (N := 2) rfl ?_); refine box_event ?hg (N := 2) ?hd (cs := #[.int .i64 kA, .int .i64 lA, .int .i64 mA, .int .i64 nA, .int .i64 oA, .int .i64 pA, .int .i64 qA, .int .i64 rA]) (t := 89) ?hr ?_; (case hd => rfl); (case hg => rfl); (case hr => first | (go_simp; done) | (go_simp; rfl)); intro dA hg fB hbox hb; have jA := Aside0.mk (below_step q1_0 hb); have sA := Aside0.mk (hbox); have tA := Aside0.mk ((q1_11 : w.heap.size ≤ dA)); have UA := Aside0.mk ((q1_11 : w.heap.size ≤ dA)); clear HB; have HB := jA; have bA := sA; have aB := tA; have YA := UA; clear jA sA tA UA; clear hb hbox hg) | ((with_reducible refine gate_dst (N := 3) rfl ?_); refine box_event ?hg (N := 3) ?hd (cs := #[.int .i64 MA, .int .i64 NA, .int .i64 OA, .int .i64 PA, .int .i64 QA, .int .i64 RA, .int .i64 SA, .int .i64 TA]) (t := 89) ?hr ?_; (case hd => rfl); (case hg => rfl); (case hr => first | (go_simp; done) | (go_simp; rfl)); intro eA hg mB hbox hb; have jA := Aside0.mk (blk_below (g := dA) (o := .cells #[.int .i64 kA, .int .i64 lA, .int .i64 mA, .int .i64 nA, .int .i64 oA, .int .i64 pA, .int .i64 qA, .int .i64 rA] 89 (0, 0)) q1_3 hb); have sA := Aside0.mk (below_step q1_1 hb); have tA := Aside0.mk (hbox); have UA := Aside0.mk ((q1_12 : w.heap.size ≤ eA)); have bB := Aside0.mk ((q1_12 : w.heap.size ≤ eA)); have cB := Aside0.mk ((q1_5 : dA ≠ eA)); have dB := Aside0.mk ((q1_6 : eA ≠ dA)); clear bA HB; have bA := jA; have HB := sA; have cA := tA; have eB := UA; have ZA := bB; have hA := cB; have iA := dB; clear jA sA tA UA bB cB dB; clear hb hbox hg; have OI := hA.out; have PI := iA.out; have gD : mB.cell? ⟨dA, 0, none⟩ = some (.int .i64 kA) := (blk_cell bA.out 0).trans rfl; have hD : mB.cell? ⟨dA, 1, none⟩ = some (.int .i64 lA) := (blk_cell bA.out 1).trans rfl; have iD : mB.cell? ⟨dA, 2, none⟩ = some (.int .i64 mA) := (blk_cell bA.out 2).trans rfl; have jD : mB.cell? ⟨dA, 3, none⟩ = some (.int .i64 nA) := (blk_cell bA.out 3).trans rfl; have kD : mB.cell? ⟨dA, 4, none⟩ = some (.int .i64 oA) := (blk_cell bA.out 4).trans rfl; have lD : mB.cell? ⟨dA, 5, none⟩ = some (.int .i64 pA) := (blk_cell bA.out 5).trans rfl; have mD : mB.cell? ⟨dA, 6, none⟩ = some (.int .i64 qA) := (blk_cell bA.out 6).trans rfl; have nD : mB.cell? ⟨dA, 7, none⟩ = some (.int .i64 rA) := (blk_cell bA.out 7).trans rfl; have oD := blk_frozen bA.out 0; have pD := blk_frozen bA.out 1; have qD := blk_frozen bA.out 2; have rD := blk_frozen bA.out 3; have sD := blk_frozen bA.out 4; have tD := blk_frozen bA.out 5; have uD := blk_frozen bA.out 6; have vD := blk_frozen bA.out 7; have wD : mB.cell? ⟨eA, 0, none⟩ = some (.int .i64 MA) := (blk_cell cA.out 0).trans rfl; have xD : mB.cell? ⟨eA, 1, none⟩ = some (.int .i64 NA) := (blk_cell cA.out 1).trans rfl; have yD : mB.cell? ⟨eA, 2, none⟩ = some (.int .i64 OA) := (blk_cell cA.out 2).trans rfl; have zD : mB.cell? ⟨eA, 3, none⟩ = some (.int .i64 PA) := (blk_cell cA.out 3).trans rfl; have AD : mB.cell? ⟨eA, 4, none⟩ = some (.int .i64 QA) := (blk_cell cA.out 4).trans rfl; have BD : mB.cell? ⟨eA, 5, none⟩ = some (.int .i64 RA) := (blk_cell cA.out 5).trans rfl; have CD : mB.cell? ⟨eA, 6, none⟩ = some (.int .i64 SA) := (blk_cell cA.out 6).trans rfl; have DD : mB.cell? ⟨eA, 7, none⟩ = some (.int .i64 TA) := (blk_cell cA.out 7).trans rfl; have ED := blk_frozen cA.out 0; have FD := blk_frozen cA.out 1; have GD := blk_frozen cA.out 2; have HD := blk_frozen cA.out 3; have ID := blk_frozen cA.out 4; have JD := blk_frozen cA.out 5; have KD := blk_frozen cA.out 6; have LD := blk_frozen cA.out 7))
        go_ret
        exact ⟨q1_9, q1_7⟩
      ·rw [if_neg c8] at H
       have BH : (pA == RA) = false := beq_eq_false_iff_ne.mpr c8
       have CH : (pA != RA) = true := bne_iff_ne.mpr c8
       obtain rfl := Option.some.inj H
       go_enter Try.func68, Try.ntmps68
       go_wp2_with (first | ((with_reducible refine gate_dst (N := 2) rfl ?_); refine box_event ?hg (N := 2) ?hd (cs := #[.int .i64 kA, .int .i64 lA, .int .i64 mA, .int .i64 nA, .int .i64 oA, .int .i64 pA, .int .i64 qA, .int .i64 rA]) (t := 89) ?hr ?_; (case hd => rfl); (case hg => rfl); (case hr => first | (go_simp; done) | (go_simp; rfl)); intro dA hg OK hbox hb; have jA := Aside0.mk (below_step q1_0 hb); have sA := Aside0.mk (hbox); have tA := Aside0.mk ((q1_11 : w.heap.size ≤ dA)); have UA := Aside0.mk ((q1_11 : w.heap.size ≤ dA)); clear HB; have HB := jA; have bA := sA; have aB := tA; have YA := UA; clear jA sA tA UA; clear hb hbox hg) | ((with_reducible refine gate_dst (N := 3) rfl ?_); refine box_event ?hg (N := 3) ?hd (cs := #[.int .i64 MA, .int .i64 NA, .int .i64 OA, .int .i64 PA, .int .i64 QA, .int .i64 RA, .int .i64 SA, .int .i64 TA]) (t := 89) ?hr ?_; (case hd => rfl); (case hg => rfl); (case hr => first | (go_simp; done) | (go_simp; rfl)); intro eA hg WA hbox hb; have jA := Aside0.mk (blk_below (g := dA) (o := .cells #[.int .i64 kA, .int .i64 lA, .int .i64 mA, .int .i64 nA, .int .i64 oA, .int .i64 pA, .int .i64 qA, .int .i64 rA] 89 (0, 0)) q1_3 hb); have sA := Aside0.mk (below_step q1_1 hb); have tA := Aside0.mk (hbox); have UA := Aside0.mk ((q1_12 : w.heap.size ≤ eA)); have bB := Aside0.mk ((q1_12 : w.heap.size ≤ eA)); have cB := Aside0.mk ((q1_5 : dA ≠ eA)); have dB := Aside0.mk ((q1_6 : eA ≠ dA)); clear bA HB; have bA := jA; have HB := sA; have cA := tA; have eB := UA; have ZA := bB; have hA := cB; have iA := dB; clear jA sA tA UA bB cB dB; clear hb hbox hg; have QI := hA.out; have RI := iA.out; have MD : WA.cell? ⟨dA, 0, none⟩ = some (.int .i64 kA) := (blk_cell bA.out 0).trans rfl; have ND : WA.cell? ⟨dA, 1, none⟩ = some (.int .i64 lA) := (blk_cell bA.out 1).trans rfl; have OD : WA.cell? ⟨dA, 2, none⟩ = some (.int .i64 mA) := (blk_cell bA.out 2).trans rfl; have PD : WA.cell? ⟨dA, 3, none⟩ = some (.int .i64 nA) := (blk_cell bA.out 3).trans rfl; have QD : WA.cell? ⟨dA, 4, none⟩ = some (.int .i64 oA) := (blk_cell bA.out 4).trans rfl; have RD : WA.cell? ⟨dA, 5, none⟩ = some (.int .i64 pA) := (blk_cell bA.out 5).trans rfl; have SD : WA.cell? ⟨dA, 6, none⟩ = some (.int .i64 qA) := (blk_cell bA.out 6).trans rfl; have TD : WA.cell? ⟨dA, 7, none⟩ = some (.int .i64 rA) := (blk_cell bA.out 7).trans rfl; have UD := blk_frozen bA.out 0; have VD := blk_frozen bA.out 1; have WD := blk_frozen bA.out 2; have XD := blk_frozen bA.out 3; have YD := blk_frozen bA.out 4; have ZD := blk_frozen bA.out 5; have aE := blk_frozen bA.out 6; have bE := blk_frozen bA.out 7; have cE : WA.cell? ⟨eA, 0, none⟩ = some (.int .i64 MA) := (blk_cell cA.out 0).trans rfl; have dE : WA.cell? ⟨eA, 1, none⟩ = some (.int .i64 NA) := (blk_cell cA.out 1).trans rfl; have eE : WA.cell? ⟨eA, 2, none⟩ = some (.int .i64 OA) := (blk_cell cA.out 2).trans rfl; have fE : WA.cell? ⟨eA, 3, none⟩ = some (.int .i64 PA) := (blk_cell cA.out 3).trans rfl; have gE : WA.cell? ⟨eA, 4, none⟩ = some (.int .i64 QA) := (blk_cell cA.out 4).trans rfl; have hE : WA.cell? ⟨eA, 5, none⟩ = some (.int .i64 RA) := (blk_cell cA.out 5).trans rfl; have iE : WA.cell? ⟨eA, 6, none⟩ = some (.int .i64 SA) := (blk_cell cA.out 6).trans rfl; have jE : WA.cell? ⟨eA, 7, none⟩ = some (.int .i64 TA) := (blk_cell cA.out 7).trans rfl; have kE := blk_frozen cA.out 0; have lE := blk_frozen cA.out 1; have mE := blk_frozen cA.out 2; have nE := blk_frozen cA.out 3; have oE := blk_frozen cA.out 4; have pE := blk_frozen cA.out 5; have qE := blk_frozen cA.out 6; have rE := blk_frozen cA.out 7))
       go_ret
       exact ⟨q1_9, q1_7⟩
     ·rw [if_neg c7] at H
      have zH : (oA == QA) = false := beq_eq_false_iff_ne.mpr c7
      have AH : (oA != QA) = true := bne_iff_ne.mpr c7
      obtain rfl := Option.some.inj H
      go_enter Try.func68, Try.ntmps68
      go_wp2_with (first | ((with_reducible refine gate_dst (N := 2) rfl ?_); refine box_event ?hg (N := 2) ?hd (cs := #[.int .i64 kA, .int .i64 lA, .int .i64 mA, .int .i64 nA, .int .i64 oA, .int .i64 pA, .int .i64 qA, .int .i64 rA]) (t := 89) ?hr ?_; (case hd => rfl); (case hg => rfl); (case hr => first | (go_simp; done) | (go_simp; rfl)); intro dA hg PK hbox hb; have jA := Aside0.mk (below_step q1_0 hb); have sA := Aside0.mk (hbox); have tA := Aside0.mk ((q1_11 : w.heap.size ≤ dA)); have UA := Aside0.mk ((q1_11 : w.heap.size ≤ dA)); clear HB; have HB := jA; have bA := sA; have aB := tA; have YA := UA; clear jA sA tA UA; clear hb hbox hg) | ((with_reducible refine gate_dst (N := 3) rfl ?_); refine box_event ?hg (N := 3) ?hd (cs := #[.int .i64 MA, .int .i64 NA, .int .i64 OA, .int .i64 PA, .int .i64 QA, .int .i64 RA, .int .i64 SA, .int .i64 TA]) (t := 89) ?hr ?_; (case hd => rfl); (case hg => rfl); (case hr => first | (go_simp; done) | (go_simp; rfl)); intro eA hg nB hbox hb; have jA := Aside0.mk (blk_below (g := dA) (o := .cells #[.int .i64 kA, .int .i64 lA, .int .i64 mA, .int .i64 nA, .int .i64 oA, .int .i64 pA, .int .i64 qA, .int .i64 rA] 89 (0, 0)) q1_3 hb); have sA := Aside0.mk (below_step q1_1 hb); have tA := Aside0.mk (hbox); have UA := Aside0.mk ((q1_12 : w.heap.size ≤ eA)); have bB := Aside0.mk ((q1_12 : w.heap.size ≤ eA)); have cB := Aside0.mk ((q1_5 : dA ≠ eA)); have dB := Aside0.mk ((q1_6 : eA ≠ dA)); clear bA HB; have bA := jA; have HB := sA; have cA := tA; have eB := UA; have ZA := bB; have hA := cB; have iA := dB; clear jA sA tA UA bB cB dB; clear hb hbox hg; have SI := hA.out; have TI := iA.out; have sE : nB.cell? ⟨dA, 0, none⟩ = some (.int .i64 kA) := (blk_cell bA.out 0).trans rfl; have tE : nB.cell? ⟨dA, 1, none⟩ = some (.int .i64 lA) := (blk_cell bA.out 1).trans rfl; have uE : nB.cell? ⟨dA, 2, none⟩ = some (.int .i64 mA) := (blk_cell bA.out 2).trans rfl; have vE : nB.cell? ⟨dA, 3, none⟩ = some (.int .i64 nA) := (blk_cell bA.out 3).trans rfl; have wE : nB.cell? ⟨dA, 4, none⟩ = some (.int .i64 oA) := (blk_cell bA.out 4).trans rfl; have xE : nB.cell? ⟨dA, 5, none⟩ = some (.int .i64 pA) := (blk_cell bA.out 5).trans rfl; have yE : nB.cell? ⟨dA, 6, none⟩ = some (.int .i64 qA) := (blk_cell bA.out 6).trans rfl; have zE : nB.cell? ⟨dA, 7, none⟩ = some (.int .i64 rA) := (blk_cell bA.out 7).trans rfl; have AE := blk_frozen bA.out 0; have BE := blk_frozen bA.out 1; have CE := blk_frozen bA.out 2; have DE := blk_frozen bA.out 3; have EE := blk_frozen bA.out 4; have FE := blk_frozen bA.out 5; have GE := blk_frozen bA.out 6; have HE := blk_frozen bA.out 7; have IE : nB.cell? ⟨eA, 0, none⟩ = some (.int .i64 MA) := (blk_cell cA.out 0).trans rfl; have JE : nB.cell? ⟨eA, 1, none⟩ = some (.int .i64 NA) := (blk_cell cA.out 1).trans rfl; have KE : nB.cell? ⟨eA, 2, none⟩ = some (.int .i64 OA) := (blk_cell cA.out 2).trans rfl; have LE : nB.cell? ⟨eA, 3, none⟩ = some (.int .i64 PA) := (blk_cell cA.out 3).trans rfl; have ME : nB.cell? ⟨eA, 4, none⟩ = some (.int .i64 QA) := (blk_cell cA.out 4).trans rfl; have NE : nB.cell? ⟨eA, 5, none⟩ = some (.int .i64 RA) := (blk_cell cA.out 5).trans rfl; have OE : nB.cell? ⟨eA, 6, none⟩ = some (.int .i64 SA) := (blk_cell cA.out 6).trans rfl; have PE : nB.cell? ⟨eA, 7, none⟩ = some (.int .i64 TA) := (blk_cell cA.out 7).trans rfl; have QE := blk_frozen cA.out 0; have RE := blk_frozen cA.out 1; have SE := blk_frozen cA.out 2; have TE := blk_frozen cA.out 3; have UE := blk_frozen cA.out 4; have VE := blk_frozen cA.out 5; have WE := blk_frozen cA.out 6; have XE := blk_frozen cA.out 7))
      go_ret
      exact ⟨q1_9, q1_7⟩
    ·rw [if_neg c6] at H
     have QB : (nA == PA) = false := beq_eq_false_iff_ne.mpr c6
     have yH : (nA != PA) = true := bne_iff_ne.mpr c6
     obtain rfl := Option.some.inj H
     go_enter Try.func68, Try.ntmps68
     go_wp2_with (first | ((with_reducible refine gate_dst (N := 2) rfl ?_); refine box_event ?hg (N := 2) ?hd (cs := #[.int .i64 kA, .int .i64 lA, .int .i64 mA, .int .i64 nA, .int .i64 oA, .int .i64 pA, .int .i64 qA, .int .i64 rA]) (t := 89) ?hr ?_; (case hd => rfl); (case hg => rfl); (case hr => first | (go_simp; done) | (go_simp; rfl)); intro dA hg QK hbox hb; have jA := Aside0.mk (below_step q1_0 hb); have sA := Aside0.mk (hbox); have tA := Aside0.mk ((q1_11 : w.heap.size ≤ dA)); have UA := Aside0.mk ((q1_11 : w.heap.size ≤ dA)); clear HB; have HB := jA; have bA := sA; have aB := tA; have YA := UA; clear jA sA tA UA; clear hb hbox hg) | ((with_reducible refine gate_dst (N := 3) rfl ?_); refine box_event ?hg (N := 3) ?hd (cs := #[.int .i64 MA, .int .i64 NA, .int .i64 OA, .int .i64 PA, .int .i64 QA, .int .i64 RA, .int .i64 SA, .int .i64 TA]) (t := 89) ?hr ?_; (case hd => rfl); (case hg => rfl); (case hr => first | (go_simp; done) | (go_simp; rfl)); intro eA hg oB hbox hb; have jA := Aside0.mk (blk_below (g := dA) (o := .cells #[.int .i64 kA, .int .i64 lA, .int .i64 mA, .int .i64 nA, .int .i64 oA, .int .i64 pA, .int .i64 qA, .int .i64 rA] 89 (0, 0)) q1_3 hb); have sA := Aside0.mk (below_step q1_1 hb); have tA := Aside0.mk (hbox); have UA := Aside0.mk ((q1_12 : w.heap.size ≤ eA)); have bB := Aside0.mk ((q1_12 : w.heap.size ≤ eA)); have cB := Aside0.mk ((q1_5 : dA ≠ eA)); have dB := Aside0.mk ((q1_6 : eA ≠ dA)); clear bA HB; have bA := jA; have HB := sA; have cA := tA; have eB := UA; have ZA := bB; have hA := cB; have iA := dB; clear jA sA tA UA bB cB dB; clear hb hbox hg; have UI := hA.out; have VI := iA.out; have YE : oB.cell? ⟨dA, 0, none⟩ = some (.int .i64 kA) := (blk_cell bA.out 0).trans rfl; have ZE : oB.cell? ⟨dA, 1, none⟩ = some (.int .i64 lA) := (blk_cell bA.out 1).trans rfl; have aF : oB.cell? ⟨dA, 2, none⟩ = some (.int .i64 mA) := (blk_cell bA.out 2).trans rfl; have bF : oB.cell? ⟨dA, 3, none⟩ = some (.int .i64 nA) := (blk_cell bA.out 3).trans rfl; have cF : oB.cell? ⟨dA, 4, none⟩ = some (.int .i64 oA) := (blk_cell bA.out 4).trans rfl; have dF : oB.cell? ⟨dA, 5, none⟩ = some (.int .i64 pA) := (blk_cell bA.out 5).trans rfl; have eF : oB.cell? ⟨dA, 6, none⟩ = some (.int .i64 qA) := (blk_cell bA.out 6).trans rfl; have fF : oB.cell? ⟨dA, 7, none⟩ = some (.int .i64 rA) := (blk_cell bA.out 7).trans rfl; have gF := blk_frozen bA.out 0; have hF := blk_frozen bA.out 1; have iF := blk_frozen bA.out 2; have jF := blk_frozen bA.out 3; have kF := blk_frozen bA.out 4; have lF := blk_frozen bA.out 5; have mF := blk_frozen bA.out 6; have nF := blk_frozen bA.out 7; have oF : oB.cell? ⟨eA, 0, none⟩ = some (.int .i64 MA) := (blk_cell cA.out 0).trans rfl; have pF : oB.cell? ⟨eA, 1, none⟩ = some (.int .i64 NA) := (blk_cell cA.out 1).trans rfl; have qF : oB.cell? ⟨eA, 2, none⟩ = some (.int .i64 OA) := (blk_cell cA.out 2).trans rfl; have rF : oB.cell? ⟨eA, 3, none⟩ = some (.int .i64 PA) := (blk_cell cA.out 3).trans rfl; have sF : oB.cell? ⟨eA, 4, none⟩ = some (.int .i64 QA) := (blk_cell cA.out 4).trans rfl; have tF : oB.cell? ⟨eA, 5, none⟩ = some (.int .i64 RA) := (blk_cell cA.out 5).trans rfl; have uF : oB.cell? ⟨eA, 6, none⟩ = some (.int .i64 SA) := (blk_cell cA.out 6).trans rfl; have vF : oB.cell? ⟨eA, 7, none⟩ = some (.int .i64 TA) := (blk_cell cA.out 7).trans rfl; have wF := blk_frozen cA.out 0; have xF := blk_frozen cA.out 1; have yF := blk_frozen cA.out 2; have zF := blk_frozen cA.out 3; have AF := blk_frozen cA.out 4; have BF := blk_frozen cA.out 5; have CF := blk_frozen cA.out 6; have DF := blk_frozen cA.out 7))
     go_ret
     exact ⟨q1_9, q1_7⟩
   ·rw [if_neg c5] at H
    have PB : (mA == OA) = false := beq_eq_false_iff_ne.mpr c5
    have xH : (mA != OA) = true := bne_iff_ne.mpr c5
    obtain rfl := Option.some.inj H
    go_enter Try.func68, Try.ntmps68
    go_wp2_with (first | ((with_reducible refine gate_dst (N := 2) rfl ?_); refine box_event ?hg (N := 2) ?hd (cs := #[.int .i64 kA, .int .i64 lA, .int .i64 mA, .int .i64 nA, .int .i64 oA, .int .i64 pA, .int .i64 qA, .int .i64 rA]) (t := 89) ?hr ?_; (case hd => rfl); (case hg => rfl); (case hr => first | (go_simp; done) | (go_simp; rfl)); intro dA hg RK hbox hb; have jA := Aside0.mk (below_step q1_0 hb); have sA := Aside0.mk (hbox); have tA := Aside0.mk ((q1_11 : w.heap.size ≤ dA)); have UA := Aside0.mk ((q1_11 : w.heap.size ≤ dA)); clear HB; have HB := jA; have bA := sA; have aB := tA; have YA := UA; clear jA sA tA UA; clear hb hbox hg) | ((with_reducible refine gate_dst (N := 3) rfl ?_); refine box_event ?hg (N := 3) ?hd (cs := #[.int .i64 MA, .int .i64 NA, .int .i64 OA, .int .i64 PA, .int .i64 QA, .int .i64 RA, .int .i64 SA, .int .i64 TA]) (t := 89) ?hr ?_; (case hd => rfl); (case hg => rfl); (case hr => first | (go_simp; done) | (go_simp; rfl)); intro eA hg pB hbox hb; have jA := Aside0.mk (blk_below (g := dA) (o := .cells #[.int .i64 kA, .int .i64 lA, .int .i64 mA, .int .i64 nA, .int .i64 oA, .int .i64 pA, .int .i64 qA, .int .i64 rA] 89 (0, 0)) q1_3 hb); have sA := Aside0.mk (below_step q1_1 hb); have tA := Aside0.mk (hbox); have UA := Aside0.mk ((q1_12 : w.heap.size ≤ eA)); have bB := Aside0.mk ((q1_12 : w.heap.size ≤ eA)); have cB := Aside0.mk ((q1_5 : dA ≠ eA)); have dB := Aside0.mk ((q1_6 : eA ≠ dA)); clear bA HB; have bA := jA; have HB := sA; have cA := tA; have eB := UA; have ZA := bB; have hA := cB; have iA := dB; clear jA sA tA UA bB cB dB; clear hb hbox hg; have WI := hA.out; have XI := iA.out; have EF : pB.cell? ⟨dA, 0, none⟩ = some (.int .i64 kA) := (blk_cell bA.out 0).trans rfl; have FF : pB.cell? ⟨dA, 1, none⟩ = some (.int .i64 lA) := (blk_cell bA.out 1).trans rfl; have GF : pB.cell? ⟨dA, 2, none⟩ = some (.int .i64 mA) := (blk_cell bA.out 2).trans rfl; have HF : pB.cell? ⟨dA, 3, none⟩ = some (.int .i64 nA) := (blk_cell bA.out 3).trans rfl; have IF : pB.cell? ⟨dA, 4, none⟩ = some (.int .i64 oA) := (blk_cell bA.out 4).trans rfl; have JF : pB.cell? ⟨dA, 5, none⟩ = some (.int .i64 pA) := (blk_cell bA.out 5).trans rfl; have KF : pB.cell? ⟨dA, 6, none⟩ = some (.int .i64 qA) := (blk_cell bA.out 6).trans rfl; have LF : pB.cell? ⟨dA, 7, none⟩ = some (.int .i64 rA) := (blk_cell bA.out 7).trans rfl; have MF := blk_frozen bA.out 0; have NF := blk_frozen bA.out 1; have OF := blk_frozen bA.out 2; have PF := blk_frozen bA.out 3; have QF := blk_frozen bA.out 4; have RF := blk_frozen bA.out 5; have SF := blk_frozen bA.out 6; have TF := blk_frozen bA.out 7; have UF : pB.cell? ⟨eA, 0, none⟩ = some (.int .i64 MA) := (blk_cell cA.out 0).trans rfl; have VF : pB.cell? ⟨eA, 1, none⟩ = some (.int .i64 NA) := (blk_cell cA.out 1).trans rfl; have WF : pB.cell? ⟨eA, 2, none⟩ = some (.int .i64 OA) := (blk_cell cA.out 2).trans rfl; have XF : pB.cell? ⟨eA, 3, none⟩ = some (.int .i64 PA) := (blk_cell cA.out 3).trans rfl; have YF : pB.cell? ⟨eA, 4, none⟩ = some (.int .i64 QA) := (blk_cell cA.out 4).trans rfl; have ZF : pB.cell? ⟨eA, 5, none⟩ = some (.int .i64 RA) := (blk_cell cA.out 5).trans rfl; have aG : pB.cell? ⟨eA, 6, none⟩ = some (.int .i64 SA) := (blk_cell cA.out 6).trans rfl; have bG : pB.cell? ⟨eA, 7, none⟩ = some (.int .i64 TA) := (blk_cell cA.out 7).trans rfl; have cG := blk_frozen cA.out 0; have dG := blk_frozen cA.out 1; have eG := blk_frozen cA.out 2; have fG := blk_frozen cA.out 3; have gG := blk_frozen cA.out 4; have hG := blk_frozen cA.out 5; have iG := blk_frozen cA.out 6; have jG := blk_frozen cA.out 7))
    go_ret
    exact ⟨q1_9, q1_7⟩
  ·rw [if_neg c4] at H
   have uB : (lA == NA) = false := beq_eq_false_iff_ne.mpr c4
   have wH : (lA != NA) = true := bne_iff_ne.mpr c4
   obtain rfl := Option.some.inj H
   go_enter Try.func68, Try.ntmps68
   go_wp2_with (first | ((with_reducible refine gate_dst (N := 2) rfl ?_); refine box_event ?hg (N := 2) ?hd (cs := #[.int .i64 kA, .int .i64 lA, .int .i64 mA, .int .i64 nA, .int .i64 oA, .int .i64 pA, .int .i64 qA, .int .i64 rA]) (t := 89) ?hr ?_; (case hd => rfl); (case hg => rfl); (case hr => first | (go_simp; done) | (go_simp; rfl)); intro dA hg SK hbox hb; have jA := Aside0.mk (below_step q1_0 hb); have sA := Aside0.mk (hbox); have tA := Aside0.mk ((q1_11 : w.heap.size ≤ dA)); have UA := Aside0.mk ((q1_11 : w.heap.size ≤ dA)); clear HB; have HB := jA; have bA := sA; have aB := tA; have YA := UA; clear jA sA tA UA; clear hb hbox hg) | ((with_reducible refine gate_dst (N := 3) rfl ?_); refine box_event ?hg (N := 3) ?hd (cs := #[.int .i64 MA, .int .i64 NA, .int .i64 OA, .int .i64 PA, .int .i64 QA, .int .i64 RA, .int .i64 SA, .int .i64 TA]) (t := 89) ?hr ?_; (case hd => rfl); (case hg => rfl); (case hr => first | (go_simp; done) | (go_simp; rfl)); intro eA hg qB hbox hb; have jA := Aside0.mk (blk_below (g := dA) (o := .cells #[.int .i64 kA, .int .i64 lA, .int .i64 mA, .int .i64 nA, .int .i64 oA, .int .i64 pA, .int .i64 qA, .int .i64 rA] 89 (0, 0)) q1_3 hb); have sA := Aside0.mk (below_step q1_1 hb); have tA := Aside0.mk (hbox); have UA := Aside0.mk ((q1_12 : w.heap.size ≤ eA)); have bB := Aside0.mk ((q1_12 : w.heap.size ≤ eA)); have cB := Aside0.mk ((q1_5 : dA ≠ eA)); have dB := Aside0.mk ((q1_6 : eA ≠ dA)); clear bA HB; have bA := jA; have HB := sA; have cA := tA; have eB := UA; have ZA := bB; have hA := cB; have iA := dB; clear jA sA tA UA bB cB dB; clear hb hbox hg; have YI := hA.out; have ZI := iA.out; have kG : qB.cell? ⟨dA, 0, none⟩ = some (.int .i64 kA) := (blk_cell bA.out 0).trans rfl; have lG : qB.cell? ⟨dA, 1, none⟩ = some (.int .i64 lA) := (blk_cell bA.out 1).trans rfl; have mG : qB.cell? ⟨dA, 2, none⟩ = some (.int .i64 mA) := (blk_cell bA.out 2).trans rfl; have nG : qB.cell? ⟨dA, 3, none⟩ = some (.int .i64 nA) := (blk_cell bA.out 3).trans rfl; have oG : qB.cell? ⟨dA, 4, none⟩ = some (.int .i64 oA) := (blk_cell bA.out 4).trans rfl; have pG : qB.cell? ⟨dA, 5, none⟩ = some (.int .i64 pA) := (blk_cell bA.out 5).trans rfl; have qG : qB.cell? ⟨dA, 6, none⟩ = some (.int .i64 qA) := (blk_cell bA.out 6).trans rfl; have rG : qB.cell? ⟨dA, 7, none⟩ = some (.int .i64 rA) := (blk_cell bA.out 7).trans rfl; have sG := blk_frozen bA.out 0; have tG := blk_frozen bA.out 1; have uG := blk_frozen bA.out 2; have vG := blk_frozen bA.out 3; have wG := blk_frozen bA.out 4; have xG := blk_frozen bA.out 5; have yG := blk_frozen bA.out 6; have zG := blk_frozen bA.out 7; have AG : qB.cell? ⟨eA, 0, none⟩ = some (.int .i64 MA) := (blk_cell cA.out 0).trans rfl; have BG : qB.cell? ⟨eA, 1, none⟩ = some (.int .i64 NA) := (blk_cell cA.out 1).trans rfl; have CG : qB.cell? ⟨eA, 2, none⟩ = some (.int .i64 OA) := (blk_cell cA.out 2).trans rfl; have DG : qB.cell? ⟨eA, 3, none⟩ = some (.int .i64 PA) := (blk_cell cA.out 3).trans rfl; have EG : qB.cell? ⟨eA, 4, none⟩ = some (.int .i64 QA) := (blk_cell cA.out 4).trans rfl; have FG : qB.cell? ⟨eA, 5, none⟩ = some (.int .i64 RA) := (blk_cell cA.out 5).trans rfl; have GG : qB.cell? ⟨eA, 6, none⟩ = some (.int .i64 SA) := (blk_cell cA.out 6).trans rfl; have HG : qB.cell? ⟨eA, 7, none⟩ = some (.int .i64 TA) := (blk_cell cA.out 7).trans rfl; have IG := blk_frozen cA.out 0; have JG := blk_frozen cA.out 1; have KG := blk_frozen cA.out 2; have LG := blk_frozen cA.out 3; have MG := blk_frozen cA.out 4; have NG := blk_frozen cA.out 5; have OG := blk_frozen cA.out 6; have PG := blk_frozen cA.out 7))
   go_ret
   exact ⟨q1_9, q1_7⟩
 ·rw [if_neg c3] at H
  have sB : (kA == MA) = false := beq_eq_false_iff_ne.mpr c3
  have tB : (kA != MA) = true := bne_iff_ne.mpr c3
  obtain rfl := Option.some.inj H
  go_enter Try.func68, Try.ntmps68
  go_wp2_with (first | ((with_reducible refine gate_dst (N := 2) rfl ?_); refine box_event ?hg (N := 2) ?hd (cs := #[.int .i64 kA, .int .i64 lA, .int .i64 mA, .int .i64 nA, .int .i64 oA, .int .i64 pA, .int .i64 qA, .int .i64 rA]) (t := 89) ?hr ?_; (case hd => rfl); (case hg => rfl); (case hr => first | (go_simp; done) | (go_simp; rfl)); intro dA hg TK hbox hb; have jA := Aside0.mk (below_step q1_0 hb); have sA := Aside0.mk (hbox); have tA := Aside0.mk ((q1_11 : w.heap.size ≤ dA)); have UA := Aside0.mk ((q1_11 : w.heap.size ≤ dA)); clear HB; have HB := jA; have bA := sA; have aB := tA; have YA := UA; clear jA sA tA UA; clear hb hbox hg) | ((with_reducible refine gate_dst (N := 3) rfl ?_); refine box_event ?hg (N := 3) ?hd (cs := #[.int .i64 MA, .int .i64 NA, .int .i64 OA, .int .i64 PA, .int .i64 QA, .int .i64 RA, .int .i64 SA, .int .i64 TA]) (t := 89) ?hr ?_; (case hd => rfl); (case hg => rfl); (case hr => first | (go_simp; done) | (go_simp; rfl)); intro eA hg rB hbox hb; have jA := Aside0.mk (blk_below (g := dA) (o := .cells #[.int .i64 kA, .int .i64 lA, .int .i64 mA, .int .i64 nA, .int .i64 oA, .int .i64 pA, .int .i64 qA, .int .i64 rA] 89 (0, 0)) q1_3 hb); have sA := Aside0.mk (below_step q1_1 hb); have tA := Aside0.mk (hbox); have UA := Aside0.mk ((q1_12 : w.heap.size ≤ eA)); have bB := Aside0.mk ((q1_12 : w.heap.size ≤ eA)); have cB := Aside0.mk ((q1_5 : dA ≠ eA)); have dB := Aside0.mk ((q1_6 : eA ≠ dA)); clear bA HB; have bA := jA; have HB := sA; have cA := tA; have eB := UA; have ZA := bB; have hA := cB; have iA := dB; clear jA sA tA UA bB cB dB; clear hb hbox hg; have aJ := hA.out; have bJ := iA.out; have QG : rB.cell? ⟨dA, 0, none⟩ = some (.int .i64 kA) := (blk_cell bA.out 0).trans rfl; have RG : rB.cell? ⟨dA, 1, none⟩ = some (.int .i64 lA) := (blk_cell bA.out 1).trans rfl; have SG : rB.cell? ⟨dA, 2, none⟩ = some (.int .i64 mA) := (blk_cell bA.out 2).trans rfl; have TG : rB.cell? ⟨dA, 3, none⟩ = some (.int .i64 nA) := (blk_cell bA.out 3).trans rfl; have UG : rB.cell? ⟨dA, 4, none⟩ = some (.int .i64 oA) := (blk_cell bA.out 4).trans rfl; have VG : rB.cell? ⟨dA, 5, none⟩ = some (.int .i64 pA) := (blk_cell bA.out 5).trans rfl; have WG : rB.cell? ⟨dA, 6, none⟩ = some (.int .i64 qA) := (blk_cell bA.out 6).trans rfl; have XG : rB.cell? ⟨dA, 7, none⟩ = some (.int .i64 rA) := (blk_cell bA.out 7).trans rfl; have YG := blk_frozen bA.out 0; have ZG := blk_frozen bA.out 1; have aH := blk_frozen bA.out 2; have bH := blk_frozen bA.out 3; have cH := blk_frozen bA.out 4; have dH := blk_frozen bA.out 5; have eH := blk_frozen bA.out 6; have fH := blk_frozen bA.out 7; have gH : rB.cell? ⟨eA, 0, none⟩ = some (.int .i64 MA) := (blk_cell cA.out 0).trans rfl; have hH : rB.cell? ⟨eA, 1, none⟩ = some (.int .i64 NA) := (blk_cell cA.out 1).trans rfl; have iH : rB.cell? ⟨eA, 2, none⟩ = some (.int .i64 OA) := (blk_cell cA.out 2).trans rfl; have jH : rB.cell? ⟨eA, 3, none⟩ = some (.int .i64 PA) := (blk_cell cA.out 3).trans rfl; have kH : rB.cell? ⟨eA, 4, none⟩ = some (.int .i64 QA) := (blk_cell cA.out 4).trans rfl; have lH : rB.cell? ⟨eA, 5, none⟩ = some (.int .i64 RA) := (blk_cell cA.out 5).trans rfl; have mH : rB.cell? ⟨eA, 6, none⟩ = some (.int .i64 SA) := (blk_cell cA.out 6).trans rfl; have nH : rB.cell? ⟨eA, 7, none⟩ = some (.int .i64 TA) := (blk_cell cA.out 7).trans rfl; have oH := blk_frozen cA.out 0; have pH := blk_frozen cA.out 1; have qH := blk_frozen cA.out 2; have rH := blk_frozen cA.out 3; have sH := blk_frozen cA.out 4; have tH := blk_frozen cA.out 5; have uH := blk_frozen cA.out 6; have vH := blk_frozen cA.out 7))
  go_ret
  exact ⟨q1_9, q1_7⟩

/-! ### laws_eqFactS: function 38 -/
def laws_eqFactS.l0 : Nat → List (S89) → List (S89) → Int → Option (Bool)
 | 0, _, _, _ => none
 | k + 1, x0, x1, x5 => if x5 < (x0.length : Int) then (if 0 ≤ x5 then (if x5 < (x1.length : Int) then ((laws_eqFact.f ((rd_T89 x0 x5).f0) ((rd_T89 x0 x5).f1) ((rd_T89 x0 x5).f2) ((rd_T89 x0 x5).f3) ((rd_T89 x0 x5).f4) ((rd_T89 x0 x5).f5) ((rd_T89 x0 x5).f6) ((rd_T89 x0 x5).f7) ((rd_T89 x1 x5).f0) ((rd_T89 x1 x5).f1) ((rd_T89 x1 x5).f2) ((rd_T89 x1 x5).f3) ((rd_T89 x1 x5).f4) ((rd_T89 x1 x5).f5) ((rd_T89 x1 x5).f6) ((rd_T89 x1 x5).f7)).bind fun vB => (if vB = true then (laws_eqFactS.l0 k x0 x1 (wrap64 (x5 + 1))) else (some false))) else (none)) else (none)) else (some true)
def laws_eqFactS.f (k : Nat) (l0 : List (S89)) (l1 : List (S89)) : Option (Bool) := if (l0.length : Int) = (l1.length : Int) then (laws_eqFactS.l0 k l0 l1 0) else (some false)
theorem laws_eqFactS.mono_l : ∀ k, (∀ y0 y1 y2, LeO (laws_eqFactS.l0 k y0 y1 y2) (laws_eqFactS.l0 (k + 1) y0 y1 y2))
 | 0 => fun _ _ _ r h => by simp [laws_eqFactS.l0] at h
 | k + 1 => by
  have ih0 := laws_eqFactS.mono_l k
  ·intro y0 y1 y2
   unfold laws_eqFactS.l0
   repeat' first
   | (with_reducible exact ih0 _ _ _)
   | (with_reducible exact LeO.refl _)
   | (with_reducible exact LeO.none _)
   | (with_reducible refine LeO.ite ?_ ?_)
   | (with_reducible refine LeO.bind ?_ (fun _ => ?_))
   | exact ih0 _ _ _
   | exact LeO.none _
   | refine LeO.ite ?_ ?_
   | refine LeO.bind ?_ (fun _ => ?_)
theorem laws_eqFactS.mono : ∀ a0 a1 k, LeO (laws_eqFactS.f k a0 a1) (laws_eqFactS.f (k + 1) a0 a1) := by
 intro a0 a1 k
 have ih0 := laws_eqFactS.mono_l k
 unfold laws_eqFactS.f
 repeat' first
   | (with_reducible exact ih0 _ _ _)
   | (with_reducible exact LeO.refl _)
   | (with_reducible exact LeO.none _)
   | (with_reducible refine LeO.ite ?_ ?_)
   | (with_reducible refine LeO.bind ?_ (fun _ => ?_))
   | exact ih0 _ _ _
   | exact LeO.none _
   | refine LeO.ite ?_ ?_
   | refine LeO.bind ?_ (fun _ => ?_)
def laws_eqFactS.T6 : Bool × List (List Nat × List Nat) := (true, [([], []), ([], []), ([0, 1], [0, 1]), ([2], [2]), ([], []), ([], []), ([4, 5], [4, 5]), ([6], [6]), ([3, 7], [3, 7]), ([8], [8])])
def laws_eqFactS.B6 : List Nat := [0, 0, 3, 7, 0, 0, 48, 112, 255, 511]
theorem laws_eqFactS.tab6 : rtab .any (opsOf Try.f38 6) = laws_eqFactS.T6 := by kernel_rfl
theorem laws_eqFactS.bits6 : waitsOk laws_eqFactS.T6.2 laws_eqFactS.B6 = true := by kernel_rfl
set_option maxHeartbeats 8000000 in
set_option maxRecDepth 100000 in
theorem laws_eqFactS.calls (k : Nat) (A0 : Option Addr) (c0 : Nat) (l0 : List (S89)) (A1 : Option Addr) (c1 : Nat) (l1 : List (S89)) (r : Bool) (w : World) (hr0 : Kd.C k89 w A0 l0.length l0) (hc0 : l0.length ≤ c0) (hr1 : Kd.C k89 w A1 l1.length l1) (hc1 : l1.length ≤ c1) (h : laws_eqFactS.f k l0 l1 = some r) :
  Calls Try.prog 38 #[.slice A0 l0.length c0, .slice A1 l1.length c1] w fun e w' => e = .returned (.bool r) ∧ Below w.heap.size w w' := by
 have hu89 := Try.underlying89
 have HR0 := Aside0.mk hr0
 clear hr0 hc0
 have HR1 := Aside0.mk hr1
 clear hr1 hc1
 have HB := Aside0.mk (Below.refl w.heap.size w)
 have H : (if (l0.length : Int) = (l1.length : Int) then (laws_eqFactS.l0 k l0 l1 0) else (some false)) = some r := h
 clear h
 by_cases c3 : (l0.length : Int) = (l1.length : Int)
 ·rw [if_pos c3] at H
  have sB : ((l0.length : Int) == (l1.length : Int)) = true := beq_iff_eq.mpr c3
  have tB : ((l0.length : Int) != (l1.length : Int)) = false := bne_eq_false_iff_eq.mpr c3
  have TB : (l0.length == l1.length) = true := by first | simpa using c3 | (simp at c3 ⊢; omega)
  clear c3
  have H' := Aside0.mk H
  clear H
  go_enter Try.func38, Try.ntmps38
  go_wp2
  go_loopg [5] k (fun kq v5 w' => ∃ (aA : Int), v5 = .int .i64 aA ∧ Aside0 (laws_eqFactS.l0 kq l0 l1 aA = some r) ∧ Aside0 (kq ≤ k) ∧ Aside0 (Below w.heap.size w w'))
  case atStart => exact ⟨(0), q1_14, H', ⟨Nat.le_refl _⟩, ⟨q1_0⟩⟩
  case round =>
   clear H'
   (try clear c1); (try clear p2); (try clear c3); (try clear sB); (try clear tB); (try clear TB)
   obtain ⟨aA, rfl, HA, HK1, HB⟩ := hrel
   cases gk with
   | zero => exact absurd HA.out (by simp [laws_eqFactS.l0])
   | succ k1 =>
    have H := HA.out
    clear HA
    simp only [laws_eqFactS.l0] at H
    by_cases c4 : aA < (l0.length : Int)
    ·rw [if_pos c4] at H
     have uB : decide (aA < (l0.length : Int)) = true := decide_eq_true c4
     clear c4
     by_cases c5 : 0 ≤ aA
     ·rw [if_pos c5] at H
      have PB : decide (0 ≤ aA) = true := decide_eq_true c5
      clear c5
      by_cases c6 : aA < (l1.length : Int)
      ·rw [if_pos c6] at H
       have QB : decide (aA < (l1.length : Int)) = true := decide_eq_true c6
       clear c6
       replace H := Option.bind_eq_some_iff.mp H
       obtain ⟨vB, A70, H⟩ := H
       (try dsimp only at H)
       have A7 := Aside0.mk A70
       clear A70
       by_cases c8 : vB = true
       ·subst c8
        rw [if_pos rfl] at H
        have H' := Aside0.mk H
        clear H
        try go_wp2
        have jA := Aside0.mk (below_drew1 HB.out)
        clear HB
        have HB := jA
        clear jA
        have p103 : 0 ≤ (aA : Int) := of_decide_eq_true q1_4
        have q103 : aA < (l0.length : Int) := of_decide_eq_true q1_4
        obtain ⟨ad103, wB, vA, wA, xA, yA, zA, AA, BA, CA⟩ := at_T89 HR0.out aA p103 q103
        have hw103_7 := CA
        have hw103_6 := BA
        have hw103_5 := AA
        have hw103_4 := zA
        have hw103_3 := yA
        have hw103_2 := xA
        have hw103_1 := wA
        have hw103_0 := vA
        cases wB
        replace vA := (HB.out.cell (World.block_lt_of_cell? w _ vA)).trans vA
        replace wA := (HB.out.cell (World.block_lt_of_cell? w _ wA)).trans wA
        replace xA := (HB.out.cell (World.block_lt_of_cell? w _ xA)).trans xA
        replace yA := (HB.out.cell (World.block_lt_of_cell? w _ yA)).trans yA
        replace zA := (HB.out.cell (World.block_lt_of_cell? w _ zA)).trans zA
        replace AA := (HB.out.cell (World.block_lt_of_cell? w _ AA)).trans AA
        replace BA := (HB.out.cell (World.block_lt_of_cell? w _ BA)).trans BA
        replace CA := (HB.out.cell (World.block_lt_of_cell? w _ CA)).trans CA
        replace p103 := eq_true p103
        replace q103 := eq_true q103
        have p104 : 0 ≤ (aA : Int) := of_decide_eq_true q1_4
        have q104 : aA < (l1.length : Int) := of_decide_eq_true q1_4
        obtain ⟨ad104, xB, DA, EA, FA, GA, IA, JA, KA, LA⟩ := at_T89 HR1.out aA p104 q104
        have hw104_7 := LA
        have hw104_6 := KA
        have hw104_5 := JA
        have hw104_4 := IA
        have hw104_3 := GA
        have hw104_2 := FA
        have hw104_1 := EA
        have hw104_0 := DA
        cases xB
        replace DA := (HB.out.cell (World.block_lt_of_cell? w _ DA)).trans DA
        replace EA := (HB.out.cell (World.block_lt_of_cell? w _ EA)).trans EA
        replace FA := (HB.out.cell (World.block_lt_of_cell? w _ FA)).trans FA
        replace GA := (HB.out.cell (World.block_lt_of_cell? w _ GA)).trans GA
        replace IA := (HB.out.cell (World.block_lt_of_cell? w _ IA)).trans IA
        replace JA := (HB.out.cell (World.block_lt_of_cell? w _ JA)).trans JA
        replace KA := (HB.out.cell (World.block_lt_of_cell? w _ KA)).trans KA
        replace LA := (HB.out.cell (World.block_lt_of_cell? w _ LA)).trans LA
        replace p104 := eq_true p104
        replace q104 := eq_true q104
        refine start_ (n := 10) (S := fun w' => w'.cell? (ad103.add ((aA).toNat * 8)) = some (.int .i64 ((rd_T89 l0 aA).f0)) ∧ w'.cell? ⟨(ad103.add ((aA).toNat * 8)).block, (ad103.add ((aA).toNat * 8)).off + 1, none⟩ = some (.int .i64 ((rd_T89 l0 aA).f1)) ∧ w'.cell? ⟨(ad103.add ((aA).toNat * 8)).block, (ad103.add ((aA).toNat * 8)).off + 2, none⟩ = some (.int .i64 ((rd_T89 l0 aA).f2)) ∧ w'.cell? ⟨(ad103.add ((aA).toNat * 8)).block, (ad103.add ((aA).toNat * 8)).off + 3, none⟩ = some (.int .i64 ((rd_T89 l0 aA).f3)) ∧ w'.cell? ⟨(ad103.add ((aA).toNat * 8)).block, (ad103.add ((aA).toNat * 8)).off + 4, none⟩ = some (.int .i64 ((rd_T89 l0 aA).f4)) ∧ w'.cell? ⟨(ad103.add ((aA).toNat * 8)).block, (ad103.add ((aA).toNat * 8)).off + 5, none⟩ = some (.int .i64 ((rd_T89 l0 aA).f5)) ∧ w'.cell? ⟨(ad103.add ((aA).toNat * 8)).block, (ad103.add ((aA).toNat * 8)).off + 6, none⟩ = some (.int .i64 ((rd_T89 l0 aA).f6)) ∧ w'.cell? ⟨(ad103.add ((aA).toNat * 8)).block, (ad103.add ((aA).toNat * 8)).off + 7, none⟩ = some (.int .i64 ((rd_T89 l0 aA).f7)) ∧ w'.cell? (ad104.add ((aA).toNat * 8)) = some (.int .i64 ((rd_T89 l1 aA).f0)) ∧ w'.cell? ⟨(ad104.add ((aA).toNat * 8)).block, (ad104.add ((aA).toNat * 8)).off + 1, none⟩ = some (.int .i64 ((rd_T89 l1 aA).f1)) ∧ w'.cell? ⟨(ad104.add ((aA).toNat * 8)).block, (ad104.add ((aA).toNat * 8)).off + 2, none⟩ = some (.int .i64 ((rd_T89 l1 aA).f2)) ∧ w'.cell? ⟨(ad104.add ((aA).toNat * 8)).block, (ad104.add ((aA).toNat * 8)).off + 3, none⟩ = some (.int .i64 ((rd_T89 l1 aA).f3)) ∧ w'.cell? ⟨(ad104.add ((aA).toNat * 8)).block, (ad104.add ((aA).toNat * 8)).off + 4, none⟩ = some (.int .i64 ((rd_T89 l1 aA).f4)) ∧ w'.cell? ⟨(ad104.add ((aA).toNat * 8)).block, (ad104.add ((aA).toNat * 8)).off + 5, none⟩ = some (.int .i64 ((rd_T89 l1 aA).f5)) ∧ w'.cell? ⟨(ad104.add ((aA).toNat * 8)).block, (ad104.add ((aA).toNat * 8)).off + 6, none⟩ = some (.int .i64 ((rd_T89 l1 aA).f6)) ∧ w'.cell? ⟨(ad104.add ((aA).toNat * 8)).block, (ad104.add ((aA).toNat * 8)).off + 7, none⟩ = some (.int .i64 ((rd_T89 l1 aA).f7))) (ds := []) #[F,F,F,F,F,F,F,F,F,F] (by kernel_rfl) rfl rfl ⟨((HB.out.cell (World.block_lt_of_cell? w _ hw103_0)).trans hw103_0), ((HB.out.cell (World.block_lt_of_cell? w _ hw103_1)).trans hw103_1), ((HB.out.cell (World.block_lt_of_cell? w _ hw103_2)).trans hw103_2), ((HB.out.cell (World.block_lt_of_cell? w _ hw103_3)).trans hw103_3), ((HB.out.cell (World.block_lt_of_cell? w _ hw103_4)).trans hw103_4), ((HB.out.cell (World.block_lt_of_cell? w _ hw103_5)).trans hw103_5), ((HB.out.cell (World.block_lt_of_cell? w _ hw103_6)).trans hw103_6), ((HB.out.cell (World.block_lt_of_cell? w _ hw103_7)).trans hw103_7), ((HB.out.cell (World.block_lt_of_cell? w _ hw104_0)).trans hw104_0), ((HB.out.cell (World.block_lt_of_cell? w _ hw104_1)).trans hw104_1), ((HB.out.cell (World.block_lt_of_cell? w _ hw104_2)).trans hw104_2), ((HB.out.cell (World.block_lt_of_cell? w _ hw104_3)).trans hw104_3), ((HB.out.cell (World.block_lt_of_cell? w _ hw104_4)).trans hw104_4), ((HB.out.cell (World.block_lt_of_cell? w _ hw104_5)).trans hw104_5), ((HB.out.cell (World.block_lt_of_cell? w _ hw104_6)).trans hw104_6), ((HB.out.cell (World.block_lt_of_cell? w _ hw104_7)).trans hw104_7)⟩ (fun hHeld => ?_); refine with_tabW laws_eqFactS.tab6 laws_eqFactS.bits6 (fun HT_ HW_ => ?_)
        generalize wr.drew = w9 at HB vA wA xA yA zA AA BA CA DA EA FA GA IA JA KA LA hHeld ⊢
        refine q1_p 0 17 #[T,F,F,F,F,F,F,F,F,F] ?_
        refine q1_p 1 18 #[T,T,F,F,F,F,F,F,F,F] ?_
        refine q1_p 2 19 #[T,T,T,F,F,F,F,F,F,F] ?_
        refine q1_p 4 21 #[T,T,T,F,T,F,F,F,F,F] ?_
        refine q1_p 5 22 #[T,T,T,F,T,T,F,F,F,F] ?_
        refine q1_p 6 23 #[T,T,T,F,T,T,T,F,F,F] ?_
        refine take_ (i := 3) (N := some 20) (v := ?_) (a' := ?_) #[T,T,T,T,T,T,T,F,F,F] rfl rfl (take_ofW HT_.out HW_.out (by kernel_rfl)) (fun _ _ _ h => h) (Or.inl ⟨by rfl, ?_⟩) hHeld ?_ ?_
        rotate_left
        ·rintro w' ⟨s0, s1, s2, s3, s4, s5, s6, s7, s8, s9, FH, GH, HH, IH, JH, KH⟩
         go_simp
         with_reducible rfl
        rotate_left
        ·simp only [Act.put, List.setIfInBounds_toArray, List.set_cons_zero, List.set_cons_succ, i64_w, i32_w]
         rfl
        refine take_ (i := 7) (N := some 24) (v := ?_) (a' := ?_) #[T,T,T,T,T,T,T,T,F,F] rfl rfl (take_ofW HT_.out HW_.out (by kernel_rfl)) (fun _ _ _ h => h) (Or.inl ⟨by rfl, ?_⟩) hHeld ?_ ?_
        rotate_left
        ·rintro w' ⟨s0, s1, s2, s3, s4, s5, s6, s7, s8, s9, FH, GH, HH, IH, JH, KH⟩
         go_simp
         with_reducible rfl
        rotate_left
        ·simp only [Act.put, List.setIfInBounds_toArray, List.set_cons_zero, List.set_cons_succ, i64_w, i32_w]
         rfl
        refine one_ (i := 8) (N := some 25) #[T,T,T,T,T,T,T,T,T,F] rfl rfl (one_of HT_.out (by kernel_rfl)) (by decide) (fun K hK => ?_)
        refine goes_ Try.func68 (by kernel_rfl) rfl #[.agg #[.int .i64 ((rd_T89 l0 aA).f0), .int .i64 ((rd_T89 l0 aA).f1), .int .i64 ((rd_T89 l0 aA).f2), .int .i64 ((rd_T89 l0 aA).f3), .int .i64 ((rd_T89 l0 aA).f4), .int .i64 ((rd_T89 l0 aA).f5), .int .i64 ((rd_T89 l0 aA).f6), .int .i64 ((rd_T89 l0 aA).f7)], .agg #[.int .i64 ((rd_T89 l1 aA).f0), .int .i64 ((rd_T89 l1 aA).f1), .int .i64 ((rd_T89 l1 aA).f2), .int .i64 ((rd_T89 l1 aA).f3), .int .i64 ((rd_T89 l1 aA).f4), .int .i64 ((rd_T89 l1 aA).f5), .int .i64 ((rd_T89 l1 aA).f6), .int .i64 ((rd_T89 l1 aA).f7)]] (by rfl) rfl rfl (by (try simp only [List.map_toArray, List.map_cons, List.map_nil]); first | done | rfl | (simp only [List.length_drop, List.length_take]; rfl)) ?_
        with_reducible refine (laws_eqFact.calls ((rd_T89 l0 aA).f0) ((rd_T89 l0 aA).f1) ((rd_T89 l0 aA).f2) ((rd_T89 l0 aA).f3) ((rd_T89 l0 aA).f4) ((rd_T89 l0 aA).f5) ((rd_T89 l0 aA).f6) ((rd_T89 l0 aA).f7) ((rd_T89 l1 aA).f0) ((rd_T89 l1 aA).f1) ((rd_T89 l1 aA).f2) ((rd_T89 l1 aA).f3) ((rd_T89 l1 aA).f4) ((rd_T89 l1 aA).f5) ((rd_T89 l1 aA).f6) ((rd_T89 l1 aA).f7) true _ A7.out).mono ?_
        rintro e UK ⟨rfl, hb⟩
        refine ⟨_, rfl, ?_⟩
        have jA := Aside0.mk (below_step q1_0 hb)
        clear HB
        have HB := jA
        clear jA
        (try clear hb)
        (try clear hb2)
        (try clear hk)
        (try clear hi)
        refine hK.out _ _ ⟨((HB.out.cell (World.block_lt_of_cell? w _ hw103_0)).trans hw103_0), ((HB.out.cell (World.block_lt_of_cell? w _ hw103_1)).trans hw103_1), ((HB.out.cell (World.block_lt_of_cell? w _ hw103_2)).trans hw103_2), ((HB.out.cell (World.block_lt_of_cell? w _ hw103_3)).trans hw103_3), ((HB.out.cell (World.block_lt_of_cell? w _ hw103_4)).trans hw103_4), ((HB.out.cell (World.block_lt_of_cell? w _ hw103_5)).trans hw103_5), ((HB.out.cell (World.block_lt_of_cell? w _ hw103_6)).trans hw103_6), ((HB.out.cell (World.block_lt_of_cell? w _ hw103_7)).trans hw103_7), ((HB.out.cell (World.block_lt_of_cell? w _ hw104_0)).trans hw104_0), ((HB.out.cell (World.block_lt_of_cell? w _ hw104_1)).trans hw104_1), ((HB.out.cell (World.block_lt_of_cell? w _ hw104_2)).trans hw104_2), ((HB.out.cell (World.block_lt_of_cell? w _ hw104_3)).trans hw104_3), ((HB.out.cell (World.block_lt_of_cell? w _ hw104_4)).trans hw104_4), ((HB.out.cell (World.block_lt_of_cell? w _ hw104_5)).trans hw104_5), ((HB.out.cell (World.block_lt_of_cell? w _ hw104_6)).trans hw104_6), ((HB.out.cell (World.block_lt_of_cell? w _ hw104_7)).trans hw104_7)⟩ (fun hHeld => ?_)
        clear hK K
        refine norm_ (a' := ?_) ?_ ?_
        rotate_left
        ·show Act.put _ (some 25) _ = _
         simp only [Act.put, List.setIfInBounds_toArray, List.set_cons_zero, List.set_cons_succ, i64_w, i32_w]
         rfl
        refine q1_p 9 26 #[T,T,T,T,T,T,T,T,T,T] ?_
        refine done_ (done_of HT_.out (by kernel_rfl)) ?_
        try go_wp2
        go_roundg k1
        case measure => have := HK1.out; omega
        case rel => exact ⟨(wrap64 (aA + 1)), q1_14, H', ⟨by have := HK1.out; omega⟩, ⟨q1_0⟩⟩
       ·replace c8 := Bool.eq_false_iff.mpr c8
        subst c8
        rw [if_neg (show ¬ (false = true) by decide)] at H
        obtain rfl := Option.some.inj H
        try go_wp2
        have jA := Aside0.mk (below_drew1 HB.out)
        clear HB
        have HB := jA
        clear jA
        have p103 : 0 ≤ (aA : Int) := of_decide_eq_true q1_4
        have q103 : aA < (l0.length : Int) := of_decide_eq_true q1_4
        obtain ⟨ad103, wB, vA, wA, xA, yA, zA, AA, BA, CA⟩ := at_T89 HR0.out aA p103 q103
        have hw103_7 := CA
        have hw103_6 := BA
        have hw103_5 := AA
        have hw103_4 := zA
        have hw103_3 := yA
        have hw103_2 := xA
        have hw103_1 := wA
        have hw103_0 := vA
        cases wB
        replace vA := (HB.out.cell (World.block_lt_of_cell? w _ vA)).trans vA
        replace wA := (HB.out.cell (World.block_lt_of_cell? w _ wA)).trans wA
        replace xA := (HB.out.cell (World.block_lt_of_cell? w _ xA)).trans xA
        replace yA := (HB.out.cell (World.block_lt_of_cell? w _ yA)).trans yA
        replace zA := (HB.out.cell (World.block_lt_of_cell? w _ zA)).trans zA
        replace AA := (HB.out.cell (World.block_lt_of_cell? w _ AA)).trans AA
        replace BA := (HB.out.cell (World.block_lt_of_cell? w _ BA)).trans BA
        replace CA := (HB.out.cell (World.block_lt_of_cell? w _ CA)).trans CA
        replace p103 := eq_true p103
        replace q103 := eq_true q103
        have p104 : 0 ≤ (aA : Int) := of_decide_eq_true q1_4
        have q104 : aA < (l1.length : Int) := of_decide_eq_true q1_4
        obtain ⟨ad104, xB, DA, EA, FA, GA, IA, JA, KA, LA⟩ := at_T89 HR1.out aA p104 q104
        have hw104_7 := LA
        have hw104_6 := KA
        have hw104_5 := JA
        have hw104_4 := IA
        have hw104_3 := GA
        have hw104_2 := FA
        have hw104_1 := EA
        have hw104_0 := DA
        cases xB
        replace DA := (HB.out.cell (World.block_lt_of_cell? w _ DA)).trans DA
        replace EA := (HB.out.cell (World.block_lt_of_cell? w _ EA)).trans EA
        replace FA := (HB.out.cell (World.block_lt_of_cell? w _ FA)).trans FA
        replace GA := (HB.out.cell (World.block_lt_of_cell? w _ GA)).trans GA
        replace IA := (HB.out.cell (World.block_lt_of_cell? w _ IA)).trans IA
        replace JA := (HB.out.cell (World.block_lt_of_cell? w _ JA)).trans JA
        replace KA := (HB.out.cell (World.block_lt_of_cell? w _ KA)).trans KA
        replace LA := (HB.out.cell (World.block_lt_of_cell? w _ LA)).trans LA
        replace p104 := eq_true p104
        replace q104 := eq_true q104
        refine start_ (n := 10) (S := fun w' => w'.cell? (ad103.add ((aA).toNat * 8)) = some (.int .i64 ((rd_T89 l0 aA).f0)) ∧ w'.cell? ⟨(ad103.add ((aA).toNat * 8)).block, (ad103.add ((aA).toNat * 8)).off + 1, none⟩ = some (.int .i64 ((rd_T89 l0 aA).f1)) ∧ w'.cell? ⟨(ad103.add ((aA).toNat * 8)).block, (ad103.add ((aA).toNat * 8)).off + 2, none⟩ = some (.int .i64 ((rd_T89 l0 aA).f2)) ∧ w'.cell? ⟨(ad103.add ((aA).toNat * 8)).block, (ad103.add ((aA).toNat * 8)).off + 3, none⟩ = some (.int .i64 ((rd_T89 l0 aA).f3)) ∧ w'.cell? ⟨(ad103.add ((aA).toNat * 8)).block, (ad103.add ((aA).toNat * 8)).off + 4, none⟩ = some (.int .i64 ((rd_T89 l0 aA).f4)) ∧ w'.cell? ⟨(ad103.add ((aA).toNat * 8)).block, (ad103.add ((aA).toNat * 8)).off + 5, none⟩ = some (.int .i64 ((rd_T89 l0 aA).f5)) ∧ w'.cell? ⟨(ad103.add ((aA).toNat * 8)).block, (ad103.add ((aA).toNat * 8)).off + 6, none⟩ = some (.int .i64 ((rd_T89 l0 aA).f6)) ∧ w'.cell? ⟨(ad103.add ((aA).toNat * 8)).block, (ad103.add ((aA).toNat * 8)).off + 7, none⟩ = some (.int .i64 ((rd_T89 l0 aA).f7)) ∧ w'.cell? (ad104.add ((aA).toNat * 8)) = some (.int .i64 ((rd_T89 l1 aA).f0)) ∧ w'.cell? ⟨(ad104.add ((aA).toNat * 8)).block, (ad104.add ((aA).toNat * 8)).off + 1, none⟩ = some (.int .i64 ((rd_T89 l1 aA).f1)) ∧ w'.cell? ⟨(ad104.add ((aA).toNat * 8)).block, (ad104.add ((aA).toNat * 8)).off + 2, none⟩ = some (.int .i64 ((rd_T89 l1 aA).f2)) ∧ w'.cell? ⟨(ad104.add ((aA).toNat * 8)).block, (ad104.add ((aA).toNat * 8)).off + 3, none⟩ = some (.int .i64 ((rd_T89 l1 aA).f3)) ∧ w'.cell? ⟨(ad104.add ((aA).toNat * 8)).block, (ad104.add ((aA).toNat * 8)).off + 4, none⟩ = some (.int .i64 ((rd_T89 l1 aA).f4)) ∧ w'.cell? ⟨(ad104.add ((aA).toNat * 8)).block, (ad104.add ((aA).toNat * 8)).off + 5, none⟩ = some (.int .i64 ((rd_T89 l1 aA).f5)) ∧ w'.cell? ⟨(ad104.add ((aA).toNat * 8)).block, (ad104.add ((aA).toNat * 8)).off + 6, none⟩ = some (.int .i64 ((rd_T89 l1 aA).f6)) ∧ w'.cell? ⟨(ad104.add ((aA).toNat * 8)).block, (ad104.add ((aA).toNat * 8)).off + 7, none⟩ = some (.int .i64 ((rd_T89 l1 aA).f7))) (ds := []) #[F,F,F,F,F,F,F,F,F,F] (by kernel_rfl) rfl rfl ⟨((HB.out.cell (World.block_lt_of_cell? w _ hw103_0)).trans hw103_0), ((HB.out.cell (World.block_lt_of_cell? w _ hw103_1)).trans hw103_1), ((HB.out.cell (World.block_lt_of_cell? w _ hw103_2)).trans hw103_2), ((HB.out.cell (World.block_lt_of_cell? w _ hw103_3)).trans hw103_3), ((HB.out.cell (World.block_lt_of_cell? w _ hw103_4)).trans hw103_4), ((HB.out.cell (World.block_lt_of_cell? w _ hw103_5)).trans hw103_5), ((HB.out.cell (World.block_lt_of_cell? w _ hw103_6)).trans hw103_6), ((HB.out.cell (World.block_lt_of_cell? w _ hw103_7)).trans hw103_7), ((HB.out.cell (World.block_lt_of_cell? w _ hw104_0)).trans hw104_0), ((HB.out.cell (World.block_lt_of_cell? w _ hw104_1)).trans hw104_1), ((HB.out.cell (World.block_lt_of_cell? w _ hw104_2)).trans hw104_2), ((HB.out.cell (World.block_lt_of_cell? w _ hw104_3)).trans hw104_3), ((HB.out.cell (World.block_lt_of_cell? w _ hw104_4)).trans hw104_4), ((HB.out.cell (World.block_lt_of_cell? w _ hw104_5)).trans hw104_5), ((HB.out.cell (World.block_lt_of_cell? w _ hw104_6)).trans hw104_6), ((HB.out.cell (World.block_lt_of_cell? w _ hw104_7)).trans hw104_7)⟩ (fun hHeld => ?_); refine with_tabW laws_eqFactS.tab6 laws_eqFactS.bits6 (fun HT_ HW_ => ?_)
        generalize wr.drew = IK at HB vA wA xA yA zA AA BA CA DA EA FA GA IA JA KA LA hHeld ⊢
        refine q1_p 0 17 #[T,F,F,F,F,F,F,F,F,F] ?_
        refine q1_p 1 18 #[T,T,F,F,F,F,F,F,F,F] ?_
        refine q1_p 2 19 #[T,T,T,F,F,F,F,F,F,F] ?_
        refine q1_p 4 21 #[T,T,T,F,T,F,F,F,F,F] ?_
        refine q1_p 5 22 #[T,T,T,F,T,T,F,F,F,F] ?_
        refine q1_p 6 23 #[T,T,T,F,T,T,T,F,F,F] ?_
        refine take_ (i := 3) (N := some 20) (v := ?_) (a' := ?_) #[T,T,T,T,T,T,T,F,F,F] rfl rfl (take_ofW HT_.out HW_.out (by kernel_rfl)) (fun _ _ _ h => h) (Or.inl ⟨by rfl, ?_⟩) hHeld ?_ ?_
        rotate_left
        ·rintro w' ⟨s0, s1, s2, s3, s4, s5, s6, s7, s8, s9, FH, GH, HH, IH, JH, KH⟩
         go_simp
         with_reducible rfl
        rotate_left
        ·simp only [Act.put, List.setIfInBounds_toArray, List.set_cons_zero, List.set_cons_succ, i64_w, i32_w]
         rfl
        refine take_ (i := 7) (N := some 24) (v := ?_) (a' := ?_) #[T,T,T,T,T,T,T,T,F,F] rfl rfl (take_ofW HT_.out HW_.out (by kernel_rfl)) (fun _ _ _ h => h) (Or.inl ⟨by rfl, ?_⟩) hHeld ?_ ?_
        rotate_left
        ·rintro w' ⟨s0, s1, s2, s3, s4, s5, s6, s7, s8, s9, FH, GH, HH, IH, JH, KH⟩
         go_simp
         with_reducible rfl
        rotate_left
        ·simp only [Act.put, List.setIfInBounds_toArray, List.set_cons_zero, List.set_cons_succ, i64_w, i32_w]
         rfl
        refine one_ (i := 8) (N := some 25) #[T,T,T,T,T,T,T,T,T,F] rfl rfl (one_of HT_.out (by kernel_rfl)) (by decide) (fun K hK => ?_)
        refine goes_ Try.func68 (by kernel_rfl) rfl #[.agg #[.int .i64 ((rd_T89 l0 aA).f0), .int .i64 ((rd_T89 l0 aA).f1), .int .i64 ((rd_T89 l0 aA).f2), .int .i64 ((rd_T89 l0 aA).f3), .int .i64 ((rd_T89 l0 aA).f4), .int .i64 ((rd_T89 l0 aA).f5), .int .i64 ((rd_T89 l0 aA).f6), .int .i64 ((rd_T89 l0 aA).f7)], .agg #[.int .i64 ((rd_T89 l1 aA).f0), .int .i64 ((rd_T89 l1 aA).f1), .int .i64 ((rd_T89 l1 aA).f2), .int .i64 ((rd_T89 l1 aA).f3), .int .i64 ((rd_T89 l1 aA).f4), .int .i64 ((rd_T89 l1 aA).f5), .int .i64 ((rd_T89 l1 aA).f6), .int .i64 ((rd_T89 l1 aA).f7)]] (by rfl) rfl rfl (by (try simp only [List.map_toArray, List.map_cons, List.map_nil]); first | done | rfl | (simp only [List.length_drop, List.length_take]; rfl)) ?_
        with_reducible refine (laws_eqFact.calls ((rd_T89 l0 aA).f0) ((rd_T89 l0 aA).f1) ((rd_T89 l0 aA).f2) ((rd_T89 l0 aA).f3) ((rd_T89 l0 aA).f4) ((rd_T89 l0 aA).f5) ((rd_T89 l0 aA).f6) ((rd_T89 l0 aA).f7) ((rd_T89 l1 aA).f0) ((rd_T89 l1 aA).f1) ((rd_T89 l1 aA).f2) ((rd_T89 l1 aA).f3) ((rd_T89 l1 aA).f4) ((rd_T89 l1 aA).f5) ((rd_T89 l1 aA).f6) ((rd_T89 l1 aA).f7) false _ A7.out).mono ?_
        rintro e lB ⟨rfl, hb⟩
        refine ⟨_, rfl, ?_⟩
        have jA := Aside0.mk (below_step q1_0 hb)
        clear HB
        have HB := jA
        clear jA
        (try clear hb)
        (try clear hb2)
        (try clear hk)
        (try clear hi)
        refine hK.out _ _ ⟨((HB.out.cell (World.block_lt_of_cell? w _ hw103_0)).trans hw103_0), ((HB.out.cell (World.block_lt_of_cell? w _ hw103_1)).trans hw103_1), ((HB.out.cell (World.block_lt_of_cell? w _ hw103_2)).trans hw103_2), ((HB.out.cell (World.block_lt_of_cell? w _ hw103_3)).trans hw103_3), ((HB.out.cell (World.block_lt_of_cell? w _ hw103_4)).trans hw103_4), ((HB.out.cell (World.block_lt_of_cell? w _ hw103_5)).trans hw103_5), ((HB.out.cell (World.block_lt_of_cell? w _ hw103_6)).trans hw103_6), ((HB.out.cell (World.block_lt_of_cell? w _ hw103_7)).trans hw103_7), ((HB.out.cell (World.block_lt_of_cell? w _ hw104_0)).trans hw104_0), ((HB.out.cell (World.block_lt_of_cell? w _ hw104_1)).trans hw104_1), ((HB.out.cell (World.block_lt_of_cell? w _ hw104_2)).trans hw104_2), ((HB.out.cell (World.block_lt_of_cell? w _ hw104_3)).trans hw104_3), ((HB.out.cell (World.block_lt_of_cell? w _ hw104_4)).trans hw104_4), ((HB.out.cell (World.block_lt_of_cell? w _ hw104_5)).trans hw104_5), ((HB.out.cell (World.block_lt_of_cell? w _ hw104_6)).trans hw104_6), ((HB.out.cell (World.block_lt_of_cell? w _ hw104_7)).trans hw104_7)⟩ (fun hHeld => ?_)
        clear hK K
        refine norm_ (a' := ?_) ?_ ?_
        rotate_left
        ·show Act.put _ (some 25) _ = _
         simp only [Act.put, List.setIfInBounds_toArray, List.set_cons_zero, List.set_cons_succ, i64_w, i32_w]
         rfl
        refine q1_p 9 26 #[T,T,T,T,T,T,T,T,T,T] ?_
        refine done_ (done_of HT_.out (by kernel_rfl)) ?_
        try go_wp2
        go_ret
        exact ⟨q1_9, q1_0⟩
      ·rw [if_neg c6] at H
       exact absurd H (by simp)
     ·rw [if_neg c5] at H
      exact absurd H (by simp)
    ·rw [if_neg c4] at H
     have uB : decide (aA < (l0.length : Int)) = false := decide_eq_false c4
     clear c4
     obtain rfl := Option.some.inj H
     go_wp2
     go_ret
     exact ⟨q1_9, q1_0⟩
 ·rw [if_neg c3] at H
  have sB : ((l0.length : Int) == (l1.length : Int)) = false := beq_eq_false_iff_ne.mpr c3
  have tB : ((l0.length : Int) != (l1.length : Int)) = true := bne_iff_ne.mpr c3
  have TB : (l0.length == l1.length) = false := by first | simpa using c3 | (simp at c3 ⊢; omega)
  obtain rfl := Option.some.inj H
  go_enter Try.func38, Try.ntmps38
  go_wp2
  go_ret
  exact ⟨q1_9, q1_0⟩

/-! ### laws_markFactS: function 39 -/
def laws_markFactS.l0 : Nat → List (S89) → Int → Int → Option (Int × (List (S89)))
 | 0, _, _, _ => none
 | k + 1, x0, x1, x5 => if x5 < (x0.length : Int) then (if 0 ≤ x5 then ((some (x0.set (x5 : Int).toNat (⟨x1, (rd_T89 x0 x5).f1, (rd_T89 x0 x5).f2, (rd_T89 x0 x5).f3, (rd_T89 x0 x5).f4, (rd_T89 x0 x5).f5, (rd_T89 x0 x5).f6, (rd_T89 x0 x5).f7⟩ : S89) : List (S89))).bind fun y106 => ((some (y106.set (x5 : Int).toNat (⟨(rd_T89 y106 x5).f0, wrap64 (x1 + 1), (rd_T89 y106 x5).f2, (rd_T89 y106 x5).f3, (rd_T89 y106 x5).f4, (rd_T89 y106 x5).f5, (rd_T89 y106 x5).f6, (rd_T89 y106 x5).f7⟩ : S89) : List (S89))).bind fun y107 => ((some (y107.set (x5 : Int).toNat (⟨(rd_T89 y107 x5).f0, (rd_T89 y107 x5).f1, wrap64 ((wrap64 (x1 + 1)) + 1), (rd_T89 y107 x5).f3, (rd_T89 y107 x5).f4, (rd_T89 y107 x5).f5, (rd_T89 y107 x5).f6, (rd_T89 y107 x5).f7⟩ : S89) : List (S89))).bind fun y108 => ((some (y108.set (x5 : Int).toNat (⟨(rd_T89 y108 x5).f0, (rd_T89 y108 x5).f1, (rd_T89 y108 x5).f2, wrap64 ((wrap64 ((wrap64 (x1 + 1)) + 1)) + 1), (rd_T89 y108 x5).f4, (rd_T89 y108 x5).f5, (rd_T89 y108 x5).f6, (rd_T89 y108 x5).f7⟩ : S89) : List (S89))).bind fun y109 => ((some (y109.set (x5 : Int).toNat (⟨(rd_T89 y109 x5).f0, (rd_T89 y109 x5).f1, (rd_T89 y109 x5).f2, (rd_T89 y109 x5).f3, wrap64 ((wrap64 ((wrap64 ((wrap64 (x1 + 1)) + 1)) + 1)) + 1), (rd_T89 y109 x5).f5, (rd_T89 y109 x5).f6, (rd_T89 y109 x5).f7⟩ : S89) : List (S89))).bind fun y110 => ((some (y110.set (x5 : Int).toNat (⟨(rd_T89 y110 x5).f0, (rd_T89 y110 x5).f1, (rd_T89 y110 x5).f2, (rd_T89 y110 x5).f3, (rd_T89 y110 x5).f4, wrap64 ((wrap64 ((wrap64 ((wrap64 ((wrap64 (x1 + 1)) + 1)) + 1)) + 1)) + 1), (rd_T89 y110 x5).f6, (rd_T89 y110 x5).f7⟩ : S89) : List (S89))).bind fun y111 => ((some (y111.set (x5 : Int).toNat (⟨(rd_T89 y111 x5).f0, (rd_T89 y111 x5).f1, (rd_T89 y111 x5).f2, (rd_T89 y111 x5).f3, (rd_T89 y111 x5).f4, (rd_T89 y111 x5).f5, wrap64 ((wrap64 ((wrap64 ((wrap64 ((wrap64 ((wrap64 (x1 + 1)) + 1)) + 1)) + 1)) + 1)) + 1), (rd_T89 y111 x5).f7⟩ : S89) : List (S89))).bind fun y112 => (laws_markFactS.l0 k (y112.set (x5 : Int).toNat (⟨(rd_T89 y112 x5).f0, (rd_T89 y112 x5).f1, (rd_T89 y112 x5).f2, (rd_T89 y112 x5).f3, (rd_T89 y112 x5).f4, (rd_T89 y112 x5).f5, (rd_T89 y112 x5).f6, wrap64 ((wrap64 ((wrap64 ((wrap64 ((wrap64 ((wrap64 ((wrap64 (x1 + 1)) + 1)) + 1)) + 1)) + 1)) + 1)) + 1)⟩ : S89)) (wrap64 ((wrap64 ((wrap64 ((wrap64 ((wrap64 ((wrap64 ((wrap64 ((wrap64 (x1 + 1)) + 1)) + 1)) + 1)) + 1)) + 1)) + 1)) + 1)) (wrap64 (x5 + 1)))))))))) else (none)) else (some (x1, x0))
def laws_markFactS.f (k : Nat) (l0 : List (S89)) (a1 : Int) : Option (Int × (List (S89))) := laws_markFactS.l0 k l0 a1 0
theorem laws_markFactS.mono_l : ∀ k, (∀ y0 y1 y2, LeO (laws_markFactS.l0 k y0 y1 y2) (laws_markFactS.l0 (k + 1) y0 y1 y2))
 | 0 => fun _ _ _ r h => by simp [laws_markFactS.l0] at h
 | k + 1 => by
  have ih0 := laws_markFactS.mono_l k
  ·intro y0 y1 y2
   unfold laws_markFactS.l0
   repeat' first
   | (with_reducible exact ih0 _ _ _)
   | (with_reducible exact LeO.refl _)
   | (with_reducible exact LeO.none _)
   | (with_reducible refine LeO.ite ?_ ?_)
   | (with_reducible refine LeO.bind ?_ (fun _ => ?_))
   | exact ih0 _ _ _
   | exact LeO.none _
   | refine LeO.ite ?_ ?_
   | refine LeO.bind ?_ (fun _ => ?_)
theorem laws_markFactS.mono : ∀ a0 a1 k, LeO (laws_markFactS.f k a0 a1) (laws_markFactS.f (k + 1) a0 a1) := by
 intro a0 a1 k
 have ih0 := laws_markFactS.mono_l k
 unfold laws_markFactS.f
 repeat' first
   | (with_reducible exact ih0 _ _ _)
   | (with_reducible exact LeO.refl _)
   | (with_reducible exact LeO.none _)
   | (with_reducible refine LeO.ite ?_ ?_)
   | (with_reducible refine LeO.bind ?_ (fun _ => ?_))
   | exact ih0 _ _ _
   | exact LeO.none _
   | refine LeO.ite ?_ ?_
   | refine LeO.bind ?_ (fun _ => ?_)
set_option maxHeartbeats 8000000 in
set_option maxRecDepth 100000 in
theorem laws_markFactS.calls (k : Nat) (P0_ : Nat → Prop) (u9000_ : Value) (l0 : List (S89)) (a1 : Int) (r1 : Int) (r2 : List (S89)) (w0 w : World) (hB : Below w0.heap.size w0 w) (ho0 : Kd.R k89 89 w w0.heap.size P0_ u9000_ l0) (h : laws_markFactS.f k l0 a1 = some (r1, r2)) :
  Calls Try.prog 39 #[u9000_, .int .i64 a1] w fun e w' => e = .returned (.int .i64 r1) ∧ Kd.R k89 89 w' w0.heap.size (fun k_ => (P0_ k_ ∨ w.heap.size ≤ k_)) u9000_ r2 ∧ Below w0.heap.size w0 w' ∧ Kept w w' (fun k_ => P0_ k_) := by
 have JK := Aside0.mk (show Kd.R k89 89 w w0.heap.size (fun k_ => (P0_ k_ ∨ w.heap.size ≤ k_)) u9000_ l0 from Kd.R_mono ho0 (fun k_ hk => (.inl hk)))
 have HK := Aside0.mk (Kept.refl w (fun k_ => P0_ k_))
 have HW0 := Aside0.mk hB.size
 have HB := Aside0.mk hB
 clear hB
 have H : (laws_markFactS.l0 k l0 a1 0) = some (r1, r2) := h
 clear h
 have H' := Aside0.mk H
 clear H
 go_enter Try.func39, Try.ntmps39
 go_wp2
 go_loopg [1, 5] k (fun kq v1 v5 w' => ∃ (gA : List (S89)) (fA : Int) (aA : Int), v1 = .int .i64 fA ∧ v5 = .int .i64 aA ∧ Aside0 (laws_markFactS.l0 kq gA fA aA = some (r1, r2)) ∧ Aside0 (kq ≤ k) ∧ Aside0 (Kd.R k89 89 w' w0.heap.size (fun k_ => (P0_ k_ ∨ w.heap.size ≤ k_)) u9000_ gA) ∧ Aside0 (Kept w w' (fun k_ => P0_ k_)) ∧ Aside0 (Below w0.heap.size w0 w'))
 case atStart => exact ⟨(l0), (a1), (0), q1_14, q1_14, H', ⟨Nat.le_refl _⟩, ⟨by (with_reducible repeat (first | apply Kd.R_alloc | apply Kd.R_drewN | apply Kd.R_drew)); exact JK.out⟩, ⟨q1_8⟩, ⟨q1_0⟩⟩
 case round =>
  clear H'
  try clear p2
  obtain ⟨gA, fA, aA, rfl, rfl, HA, HK1, uA, HK, HB⟩ := hrel
  cases gk with
  | zero => exact absurd HA.out (by simp [laws_markFactS.l0])
  | succ k1 =>
   have H := HA.out
   clear HA
   simp only [laws_markFactS.l0] at H
   by_cases c3 : aA < (gA.length : Int)
   ·rw [if_pos c3] at H
    have sB : decide (aA < (gA.length : Int)) = true := decide_eq_true c3
    clear c3
    by_cases c4 : 0 ≤ aA
    ·rw [if_pos c4] at H
     have uB : decide (0 ≤ aA) = true := decide_eq_true c4
     clear c4
     obtain ⟨y106, hy106⟩ : ∃ y_ : List (S89), y_ = (gA.set (aA : Int).toNat (⟨fA, (rd_T89 gA aA).f1, (rd_T89 gA aA).f2, (rd_T89 gA aA).f3, (rd_T89 gA aA).f4, (rd_T89 gA aA).f5, (rd_T89 gA aA).f6, (rd_T89 gA aA).f7⟩ : S89)) := ⟨_, rfl⟩
     replace H : ((some (y106.set (aA : Int).toNat (⟨(rd_T89 y106 aA).f0, wrap64 (fA + 1), (rd_T89 y106 aA).f2, (rd_T89 y106 aA).f3, (rd_T89 y106 aA).f4, (rd_T89 y106 aA).f5, (rd_T89 y106 aA).f6, (rd_T89 y106 aA).f7⟩ : S89) : List (S89))).bind fun y107 => ((some (y107.set (aA : Int).toNat (⟨(rd_T89 y107 aA).f0, (rd_T89 y107 aA).f1, wrap64 ((wrap64 (fA + 1)) + 1), (rd_T89 y107 aA).f3, (rd_T89 y107 aA).f4, (rd_T89 y107 aA).f5, (rd_T89 y107 aA).f6, (rd_T89 y107 aA).f7⟩ : S89) : List (S89))).bind fun y108 => ((some (y108.set (aA : Int).toNat (⟨(rd_T89 y108 aA).f0, (rd_T89 y108 aA).f1, (rd_T89 y108 aA).f2, wrap64 ((wrap64 ((wrap64 (fA + 1)) + 1)) + 1), (rd_T89 y108 aA).f4, (rd_T89 y108 aA).f5, (rd_T89 y108 aA).f6, (rd_T89 y108 aA).f7⟩ : S89) : List (S89))).bind fun y109 => ((some (y109.set (aA : Int).toNat (⟨(rd_T89 y109 aA).f0, (rd_T89 y109 aA).f1, (rd_T89 y109 aA).f2, (rd_T89 y109 aA).f3, wrap64 ((wrap64 ((wrap64 ((wrap64 (fA + 1)) + 1)) + 1)) + 1), (rd_T89 y109 aA).f5, (rd_T89 y109 aA).f6, (rd_T89 y109 aA).f7⟩ : S89) : List (S89))).bind fun y110 => ((some (y110.set (aA : Int).toNat (⟨(rd_T89 y110 aA).f0, (rd_T89 y110 aA).f1, (rd_T89 y110 aA).f2, (rd_T89 y110 aA).f3, (rd_T89 y110 aA).f4, wrap64 ((wrap64 ((wrap64 ((wrap64 ((wrap64 (fA + 1)) + 1)) + 1)) + 1)) + 1), (rd_T89 y110 aA).f6, (rd_T89 y110 aA).f7⟩ : S89) : List (S89))).bind fun y111 => ((some (y111.set (aA : Int).toNat (⟨(rd_T89 y111 aA).f0, (rd_T89 y111 aA).f1, (rd_T89 y111 aA).f2, (rd_T89 y111 aA).f3, (rd_T89 y111 aA).f4, (rd_T89 y111 aA).f5, wrap64 ((wrap64 ((wrap64 ((wrap64 ((wrap64 ((wrap64 (fA + 1)) + 1)) + 1)) + 1)) + 1)) + 1), (rd_T89 y111 aA).f7⟩ : S89) : List (S89))).bind fun y112 => (laws_markFactS.l0 k1 (y112.set (aA : Int).toNat (⟨(rd_T89 y112 aA).f0, (rd_T89 y112 aA).f1, (rd_T89 y112 aA).f2, (rd_T89 y112 aA).f3, (rd_T89 y112 aA).f4, (rd_T89 y112 aA).f5, (rd_T89 y112 aA).f6, wrap64 ((wrap64 ((wrap64 ((wrap64 ((wrap64 ((wrap64 ((wrap64 (fA + 1)) + 1)) + 1)) + 1)) + 1)) + 1)) + 1)⟩ : S89)) (wrap64 ((wrap64 ((wrap64 ((wrap64 ((wrap64 ((wrap64 ((wrap64 ((wrap64 (fA + 1)) + 1)) + 1)) + 1)) + 1)) + 1)) + 1)) + 1)) (wrap64 (aA + 1))))))))) = some (r1, r2) := by first | (rw [hy106]; with_reducible exact H) | (have H2_ := (Option.bind_some _ _).symm.trans H; rw [hy106]; with_reducible exact H2_) | (have H2_ := (Option.bind_some _ _).symm.trans H; with_reducible exact H2_) | with_reducible exact H | (rw [hy106]; exact H) | exact H
     have Ny106 := Aside0.mk hy106
     clear hy106
     obtain ⟨y107, hy107⟩ : ∃ y_ : List (S89), y_ = (y106.set (aA : Int).toNat (⟨(rd_T89 y106 aA).f0, wrap64 (fA + 1), (rd_T89 y106 aA).f2, (rd_T89 y106 aA).f3, (rd_T89 y106 aA).f4, (rd_T89 y106 aA).f5, (rd_T89 y106 aA).f6, (rd_T89 y106 aA).f7⟩ : S89)) := ⟨_, rfl⟩
     replace H : ((some (y107.set (aA : Int).toNat (⟨(rd_T89 y107 aA).f0, (rd_T89 y107 aA).f1, wrap64 ((wrap64 (fA + 1)) + 1), (rd_T89 y107 aA).f3, (rd_T89 y107 aA).f4, (rd_T89 y107 aA).f5, (rd_T89 y107 aA).f6, (rd_T89 y107 aA).f7⟩ : S89) : List (S89))).bind fun y108 => ((some (y108.set (aA : Int).toNat (⟨(rd_T89 y108 aA).f0, (rd_T89 y108 aA).f1, (rd_T89 y108 aA).f2, wrap64 ((wrap64 ((wrap64 (fA + 1)) + 1)) + 1), (rd_T89 y108 aA).f4, (rd_T89 y108 aA).f5, (rd_T89 y108 aA).f6, (rd_T89 y108 aA).f7⟩ : S89) : List (S89))).bind fun y109 => ((some (y109.set (aA : Int).toNat (⟨(rd_T89 y109 aA).f0, (rd_T89 y109 aA).f1, (rd_T89 y109 aA).f2, (rd_T89 y109 aA).f3, wrap64 ((wrap64 ((wrap64 ((wrap64 (fA + 1)) + 1)) + 1)) + 1), (rd_T89 y109 aA).f5, (rd_T89 y109 aA).f6, (rd_T89 y109 aA).f7⟩ : S89) : List (S89))).bind fun y110 => ((some (y110.set (aA : Int).toNat (⟨(rd_T89 y110 aA).f0, (rd_T89 y110 aA).f1, (rd_T89 y110 aA).f2, (rd_T89 y110 aA).f3, (rd_T89 y110 aA).f4, wrap64 ((wrap64 ((wrap64 ((wrap64 ((wrap64 (fA + 1)) + 1)) + 1)) + 1)) + 1), (rd_T89 y110 aA).f6, (rd_T89 y110 aA).f7⟩ : S89) : List (S89))).bind fun y111 => ((some (y111.set (aA : Int).toNat (⟨(rd_T89 y111 aA).f0, (rd_T89 y111 aA).f1, (rd_T89 y111 aA).f2, (rd_T89 y111 aA).f3, (rd_T89 y111 aA).f4, (rd_T89 y111 aA).f5, wrap64 ((wrap64 ((wrap64 ((wrap64 ((wrap64 ((wrap64 (fA + 1)) + 1)) + 1)) + 1)) + 1)) + 1), (rd_T89 y111 aA).f7⟩ : S89) : List (S89))).bind fun y112 => (laws_markFactS.l0 k1 (y112.set (aA : Int).toNat (⟨(rd_T89 y112 aA).f0, (rd_T89 y112 aA).f1, (rd_T89 y112 aA).f2, (rd_T89 y112 aA).f3, (rd_T89 y112 aA).f4, (rd_T89 y112 aA).f5, (rd_T89 y112 aA).f6, wrap64 ((wrap64 ((wrap64 ((wrap64 ((wrap64 ((wrap64 ((wrap64 (fA + 1)) + 1)) + 1)) + 1)) + 1)) + 1)) + 1)⟩ : S89)) (wrap64 ((wrap64 ((wrap64 ((wrap64 ((wrap64 ((wrap64 ((wrap64 ((wrap64 (fA + 1)) + 1)) + 1)) + 1)) + 1)) + 1)) + 1)) + 1)) (wrap64 (aA + 1)))))))) = some (r1, r2) := by first | (rw [hy107]; with_reducible exact H) | (have H2_ := (Option.bind_some _ _).symm.trans H; rw [hy107]; with_reducible exact H2_) | (have H2_ := (Option.bind_some _ _).symm.trans H; with_reducible exact H2_) | with_reducible exact H | (rw [hy107]; exact H) | exact H
     have Ny107 := Aside0.mk hy107
     clear hy107
     obtain ⟨y108, hy108⟩ : ∃ y_ : List (S89), y_ = (y107.set (aA : Int).toNat (⟨(rd_T89 y107 aA).f0, (rd_T89 y107 aA).f1, wrap64 ((wrap64 (fA + 1)) + 1), (rd_T89 y107 aA).f3, (rd_T89 y107 aA).f4, (rd_T89 y107 aA).f5, (rd_T89 y107 aA).f6, (rd_T89 y107 aA).f7⟩ : S89)) := ⟨_, rfl⟩
     replace H : ((some (y108.set (aA : Int).toNat (⟨(rd_T89 y108 aA).f0, (rd_T89 y108 aA).f1, (rd_T89 y108 aA).f2, wrap64 ((wrap64 ((wrap64 (fA + 1)) + 1)) + 1), (rd_T89 y108 aA).f4, (rd_T89 y108 aA).f5, (rd_T89 y108 aA).f6, (rd_T89 y108 aA).f7⟩ : S89) : List (S89))).bind fun y109 => ((some (y109.set (aA : Int).toNat (⟨(rd_T89 y109 aA).f0, (rd_T89 y109 aA).f1, (rd_T89 y109 aA).f2, (rd_T89 y109 aA).f3, wrap64 ((wrap64 ((wrap64 ((wrap64 (fA + 1)) + 1)) + 1)) + 1), (rd_T89 y109 aA).f5, (rd_T89 y109 aA).f6, (rd_T89 y109 aA).f7⟩ : S89) : List (S89))).bind fun y110 => ((some (y110.set (aA : Int).toNat (⟨(rd_T89 y110 aA).f0, (rd_T89 y110 aA).f1, (rd_T89 y110 aA).f2, (rd_T89 y110 aA).f3, (rd_T89 y110 aA).f4, wrap64 ((wrap64 ((wrap64 ((wrap64 ((wrap64 (fA + 1)) + 1)) + 1)) + 1)) + 1), (rd_T89 y110 aA).f6, (rd_T89 y110 aA).f7⟩ : S89) : List (S89))).bind fun y111 => ((some (y111.set (aA : Int).toNat (⟨(rd_T89 y111 aA).f0, (rd_T89 y111 aA).f1, (rd_T89 y111 aA).f2, (rd_T89 y111 aA).f3, (rd_T89 y111 aA).f4, (rd_T89 y111 aA).f5, wrap64 ((wrap64 ((wrap64 ((wrap64 ((wrap64 ((wrap64 (fA + 1)) + 1)) + 1)) + 1)) + 1)) + 1), (rd_T89 y111 aA).f7⟩ : S89) : List (S89))).bind fun y112 => (laws_markFactS.l0 k1 (y112.set (aA : Int).toNat (⟨(rd_T89 y112 aA).f0, (rd_T89 y112 aA).f1, (rd_T89 y112 aA).f2, (rd_T89 y112 aA).f3, (rd_T89 y112 aA).f4, (rd_T89 y112 aA).f5, (rd_T89 y112 aA).f6, wrap64 ((wrap64 ((wrap64 ((wrap64 ((wrap64 ((wrap64 ((wrap64 (fA + 1)) + 1)) + 1)) + 1)) + 1)) + 1)) + 1)⟩ : S89)) (wrap64 ((wrap64 ((wrap64 ((wrap64 ((wrap64 ((wrap64 ((wrap64 ((wrap64 (fA + 1)) + 1)) + 1)) + 1)) + 1)) + 1)) + 1)) + 1)) (wrap64 (aA + 1))))))) = some (r1, r2) := by first | (rw [hy108]; with_reducible exact H) | (have H2_ := (Option.bind_some _ _).symm.trans H; rw [hy108]; with_reducible exact H2_) | (have H2_ := (Option.bind_some _ _).symm.trans H; with_reducible exact H2_) | with_reducible exact H | (rw [hy108]; exact H) | exact H
     have Ny108 := Aside0.mk hy108
     clear hy108
     obtain ⟨y109, hy109⟩ : ∃ y_ : List (S89), y_ = (y108.set (aA : Int).toNat (⟨(rd_T89 y108 aA).f0, (rd_T89 y108 aA).f1, (rd_T89 y108 aA).f2, wrap64 ((wrap64 ((wrap64 (fA + 1)) + 1)) + 1), (rd_T89 y108 aA).f4, (rd_T89 y108 aA).f5, (rd_T89 y108 aA).f6, (rd_T89 y108 aA).f7⟩ : S89)) := ⟨_, rfl⟩
     replace H : ((some (y109.set (aA : Int).toNat (⟨(rd_T89 y109 aA).f0, (rd_T89 y109 aA).f1, (rd_T89 y109 aA).f2, (rd_T89 y109 aA).f3, wrap64 ((wrap64 ((wrap64 ((wrap64 (fA + 1)) + 1)) + 1)) + 1), (rd_T89 y109 aA).f5, (rd_T89 y109 aA).f6, (rd_T89 y109 aA).f7⟩ : S89) : List (S89))).bind fun y110 => ((some (y110.set (aA : Int).toNat (⟨(rd_T89 y110 aA).f0, (rd_T89 y110 aA).f1, (rd_T89 y110 aA).f2, (rd_T89 y110 aA).f3, (rd_T89 y110 aA).f4, wrap64 ((wrap64 ((wrap64 ((wrap64 ((wrap64 (fA + 1)) + 1)) + 1)) + 1)) + 1), (rd_T89 y110 aA).f6, (rd_T89 y110 aA).f7⟩ : S89) : List (S89))).bind fun y111 => ((some (y111.set (aA : Int).toNat (⟨(rd_T89 y111 aA).f0, (rd_T89 y111 aA).f1, (rd_T89 y111 aA).f2, (rd_T89 y111 aA).f3, (rd_T89 y111 aA).f4, (rd_T89 y111 aA).f5, wrap64 ((wrap64 ((wrap64 ((wrap64 ((wrap64 ((wrap64 (fA + 1)) + 1)) + 1)) + 1)) + 1)) + 1), (rd_T89 y111 aA).f7⟩ : S89) : List (S89))).bind fun y112 => (laws_markFactS.l0 k1 (y112.set (aA : Int).toNat (⟨(rd_T89 y112 aA).f0, (rd_T89 y112 aA).f1, (rd_T89 y112 aA).f2, (rd_T89 y112 aA).f3, (rd_T89 y112 aA).f4, (rd_T89 y112 aA).f5, (rd_T89 y112 aA).f6, wrap64 ((wrap64 ((wrap64 ((wrap64 ((wrap64 ((wrap64 ((wrap64 (fA + 1)) + 1)) + 1)) + 1)) + 1)) + 1)) + 1)⟩ : S89)) (wrap64 ((wrap64 ((wrap64 ((wrap64 ((wrap64 ((wrap64 ((wrap64 ((wrap64 (fA + 1)) + 1)) + 1)) + 1)) + 1)) + 1)) + 1)) + 1)) (wrap64 (aA + 1)))))) = some (r1, r2) := by first | (rw [hy109]; with_reducible exact H) | (have H2_ := (Option.bind_some _ _).symm.trans H; rw [hy109]; with_reducible exact H2_) | (have H2_ := (Option.bind_some _ _).symm.trans H; with_reducible exact H2_) | with_reducible exact H | (rw [hy109]; exact H) | exact H
     have Ny109 := Aside0.mk hy109
     clear hy109
     obtain ⟨y110, hy110⟩ : ∃ y_ : List (S89), y_ = (y109.set (aA : Int).toNat (⟨(rd_T89 y109 aA).f0, (rd_T89 y109 aA).f1, (rd_T89 y109 aA).f2, (rd_T89 y109 aA).f3, wrap64 ((wrap64 ((wrap64 ((wrap64 (fA + 1)) + 1)) + 1)) + 1), (rd_T89 y109 aA).f5, (rd_T89 y109 aA).f6, (rd_T89 y109 aA).f7⟩ : S89)) := ⟨_, rfl⟩
     replace H : ((some (y110.set (aA : Int).toNat (⟨(rd_T89 y110 aA).f0, (rd_T89 y110 aA).f1, (rd_T89 y110 aA).f2, (rd_T89 y110 aA).f3, (rd_T89 y110 aA).f4, wrap64 ((wrap64 ((wrap64 ((wrap64 ((wrap64 (fA + 1)) + 1)) + 1)) + 1)) + 1), (rd_T89 y110 aA).f6, (rd_T89 y110 aA).f7⟩ : S89) : List (S89))).bind fun y111 => ((some (y111.set (aA : Int).toNat (⟨(rd_T89 y111 aA).f0, (rd_T89 y111 aA).f1, (rd_T89 y111 aA).f2, (rd_T89 y111 aA).f3, (rd_T89 y111 aA).f4, (rd_T89 y111 aA).f5, wrap64 ((wrap64 ((wrap64 ((wrap64 ((wrap64 ((wrap64 (fA + 1)) + 1)) + 1)) + 1)) + 1)) + 1), (rd_T89 y111 aA).f7⟩ : S89) : List (S89))).bind fun y112 => (laws_markFactS.l0 k1 (y112.set (aA : Int).toNat (⟨(rd_T89 y112 aA).f0, (rd_T89 y112 aA).f1, (rd_T89 y112 aA).f2, (rd_T89 y112 aA).f3, (rd_T89 y112 aA).f4, (rd_T89 y112 aA).f5, (rd_T89 y112 aA).f6, wrap64 ((wrap64 ((wrap64 ((wrap64 ((wrap64 ((wrap64 ((wrap64 (fA + 1)) + 1)) + 1)) + 1)) + 1)) + 1)) + 1)⟩ : S89)) (wrap64 ((wrap64 ((wrap64 ((wrap64 ((wrap64 ((wrap64 ((wrap64 ((wrap64 (fA + 1)) + 1)) + 1)) + 1)) + 1)) + 1)) + 1)) + 1)) (wrap64 (aA + 1))))) = some (r1, r2) := by first | (rw [hy110]; with_reducible exact H) | (have H2_ := (Option.bind_some _ _).symm.trans H; rw [hy110]; with_reducible exact H2_) | (have H2_ := (Option.bind_some _ _).symm.trans H; with_reducible exact H2_) | with_reducible exact H | (rw [hy110]; exact H) | exact H
     have Ny110 := Aside0.mk hy110
     clear hy110
     obtain ⟨y111, hy111⟩ : ∃ y_ : List (S89), y_ = (y110.set (aA : Int).toNat (⟨(rd_T89 y110 aA).f0, (rd_T89 y110 aA).f1, (rd_T89 y110 aA).f2, (rd_T89 y110 aA).f3, (rd_T89 y110 aA).f4, wrap64 ((wrap64 ((wrap64 ((wrap64 ((wrap64 (fA + 1)) + 1)) + 1)) + 1)) + 1), (rd_T89 y110 aA).f6, (rd_T89 y110 aA).f7⟩ : S89)) := ⟨_, rfl⟩
     replace H : ((some (y111.set (aA : Int).toNat (⟨(rd_T89 y111 aA).f0, (rd_T89 y111 aA).f1, (rd_T89 y111 aA).f2, (rd_T89 y111 aA).f3, (rd_T89 y111 aA).f4, (rd_T89 y111 aA).f5, wrap64 ((wrap64 ((wrap64 ((wrap64 ((wrap64 ((wrap64 (fA + 1)) + 1)) + 1)) + 1)) + 1)) + 1), (rd_T89 y111 aA).f7⟩ : S89) : List (S89))).bind fun y112 => (laws_markFactS.l0 k1 (y112.set (aA : Int).toNat (⟨(rd_T89 y112 aA).f0, (rd_T89 y112 aA).f1, (rd_T89 y112 aA).f2, (rd_T89 y112 aA).f3, (rd_T89 y112 aA).f4, (rd_T89 y112 aA).f5, (rd_T89 y112 aA).f6, wrap64 ((wrap64 ((wrap64 ((wrap64 ((wrap64 ((wrap64 ((wrap64 (fA + 1)) + 1)) + 1)) + 1)) + 1)) + 1)) + 1)⟩ : S89)) (wrap64 ((wrap64 ((wrap64 ((wrap64 ((wrap64 ((wrap64 ((wrap64 ((wrap64 (fA + 1)) + 1)) + 1)) + 1)) + 1)) + 1)) + 1)) + 1)) (wrap64 (aA + 1)))) = some (r1, r2) := by first | (rw [hy111]; with_reducible exact H) | (have H2_ := (Option.bind_some _ _).symm.trans H; rw [hy111]; with_reducible exact H2_) | (have H2_ := (Option.bind_some _ _).symm.trans H; with_reducible exact H2_) | with_reducible exact H | (rw [hy111]; exact H) | exact H
     have Ny111 := Aside0.mk hy111
     clear hy111
     obtain ⟨y112, hy112⟩ : ∃ y_ : List (S89), y_ = (y111.set (aA : Int).toNat (⟨(rd_T89 y111 aA).f0, (rd_T89 y111 aA).f1, (rd_T89 y111 aA).f2, (rd_T89 y111 aA).f3, (rd_T89 y111 aA).f4, (rd_T89 y111 aA).f5, wrap64 ((wrap64 ((wrap64 ((wrap64 ((wrap64 ((wrap64 (fA + 1)) + 1)) + 1)) + 1)) + 1)) + 1), (rd_T89 y111 aA).f7⟩ : S89)) := ⟨_, rfl⟩
     replace H : (laws_markFactS.l0 k1 (y112.set (aA : Int).toNat (⟨(rd_T89 y112 aA).f0, (rd_T89 y112 aA).f1, (rd_T89 y112 aA).f2, (rd_T89 y112 aA).f3, (rd_T89 y112 aA).f4, (rd_T89 y112 aA).f5, (rd_T89 y112 aA).f6, wrap64 ((wrap64 ((wrap64 ((wrap64 ((wrap64 ((wrap64 ((wrap64 (fA + 1)) + 1)) + 1)) + 1)) + 1)) + 1)) + 1)⟩ : S89)) (wrap64 ((wrap64 ((wrap64 ((wrap64 ((wrap64 ((wrap64 ((wrap64 ((wrap64 (fA + 1)) + 1)) + 1)) + 1)) + 1)) + 1)) + 1)) + 1)) (wrap64 (aA + 1))) = some (r1, r2) := by first | (rw [hy112]; with_reducible exact H) | (have H2_ := (Option.bind_some _ _).symm.trans H; rw [hy112]; with_reducible exact H2_) | (have H2_ := (Option.bind_some _ _).symm.trans H; with_reducible exact H2_) | with_reducible exact H | (rw [hy112]; exact H) | exact H
     have Ny112 := Aside0.mk hy112
     clear hy112
     obtain ⟨y113, hy113⟩ : ∃ y_ : List (S89), y_ = (y112.set (aA : Int).toNat (⟨(rd_T89 y112 aA).f0, (rd_T89 y112 aA).f1, (rd_T89 y112 aA).f2, (rd_T89 y112 aA).f3, (rd_T89 y112 aA).f4, (rd_T89 y112 aA).f5, (rd_T89 y112 aA).f6, wrap64 ((wrap64 ((wrap64 ((wrap64 ((wrap64 ((wrap64 ((wrap64 (fA + 1)) + 1)) + 1)) + 1)) + 1)) + 1)) + 1)⟩ : S89)) := ⟨_, rfl⟩
     replace H : (laws_markFactS.l0 k1 y113 (wrap64 ((wrap64 ((wrap64 ((wrap64 ((wrap64 ((wrap64 ((wrap64 ((wrap64 (fA + 1)) + 1)) + 1)) + 1)) + 1)) + 1)) + 1)) + 1)) (wrap64 (aA + 1))) = some (r1, r2) := by first | (rw [hy113]; with_reducible exact H) | (have H2_ := (Option.bind_some _ _).symm.trans H; rw [hy113]; with_reducible exact H2_) | (have H2_ := (Option.bind_some _ _).symm.trans H; with_reducible exact H2_) | with_reducible exact H | (rw [hy113]; exact H) | exact H
     have Ny113 := Aside0.mk hy113
     clear hy113
     have H' := Aside0.mk H
     clear H
     obtain ⟨KK, XA, LH⟩ := Kd.R_slice uA.out
     subst LH
     have p5 : 0 ≤ (aA : Int) := of_decide_eq_true q1_4
     have q5 : (aA : Int) < ((gA.length : Int) : Int) := of_decide_eq_true q1_4
     obtain ⟨go5, VK, cJ, dJ, gl5, cl5, HG5⟩ := Kd.R_form uA.out (by omega)
     (first | cases cJ | (injection cJ with ea_ en_ ec_; (first | subst ea_ | (injection ea_ with ea_; subst ea_)); subst ec_; clear en_))
     have GB5 := Aside0.mk dJ
     have GG5 := Aside0.mk HG5
     clear dJ gl5 HG5
     obtain ⟨ce5, hcl5, hM5, hcc5, hfr5⟩ := Kd.R_elem uA.out z89 (aA : Int) p5 q5
     obtain rfl := k89_openM hM5
     have eJ : wr.cell? ⟨go5, (aA : Int).toNat * 8, none⟩ = some (.int .i64 ((rd_T89 gA aA).f0)) := hcc5 0 _ rfl
     have fJ : wr.cell? ⟨go5, (aA : Int).toNat * 8 + 1, none⟩ = some (.int .i64 ((rd_T89 gA aA).f1)) := hcc5 1 _ rfl
     have gJ : wr.cell? ⟨go5, (aA : Int).toNat * 8 + 2, none⟩ = some (.int .i64 ((rd_T89 gA aA).f2)) := hcc5 2 _ rfl
     have hJ : wr.cell? ⟨go5, (aA : Int).toNat * 8 + 3, none⟩ = some (.int .i64 ((rd_T89 gA aA).f3)) := hcc5 3 _ rfl
     have iJ : wr.cell? ⟨go5, (aA : Int).toNat * 8 + 4, none⟩ = some (.int .i64 ((rd_T89 gA aA).f4)) := hcc5 4 _ rfl
     have jJ : wr.cell? ⟨go5, (aA : Int).toNat * 8 + 5, none⟩ = some (.int .i64 ((rd_T89 gA aA).f5)) := hcc5 5 _ rfl
     have kJ : wr.cell? ⟨go5, (aA : Int).toNat * 8 + 6, none⟩ = some (.int .i64 ((rd_T89 gA aA).f6)) := hcc5 6 _ rfl
     have lJ : wr.cell? ⟨go5, (aA : Int).toNat * 8 + 7, none⟩ = some (.int .i64 ((rd_T89 gA aA).f7)) := hcc5 7 _ rfl
     have mJ : wr.frozen? ⟨go5, (aA : Int).toNat * 8, none⟩ = false := hfr5 0
     have nJ : wr.frozen? ⟨go5, (aA : Int).toNat * 8 + 1, none⟩ = false := hfr5 1
     have oJ : wr.frozen? ⟨go5, (aA : Int).toNat * 8 + 2, none⟩ = false := hfr5 2
     have pJ : wr.frozen? ⟨go5, (aA : Int).toNat * 8 + 3, none⟩ = false := hfr5 3
     have qJ : wr.frozen? ⟨go5, (aA : Int).toNat * 8 + 4, none⟩ = false := hfr5 4
     have rJ : wr.frozen? ⟨go5, (aA : Int).toNat * 8 + 5, none⟩ = false := hfr5 5
     have sJ : wr.frozen? ⟨go5, (aA : Int).toNat * 8 + 6, none⟩ = false := hfr5 6
     have tJ : wr.frozen? ⟨go5, (aA : Int).toNat * 8 + 7, none⟩ = false := hfr5 7
     clear hcl5 hcc5 hfr5 hM5
     replace p5 := eq_true p5
     replace q5 := eq_true q5
     have HX14 := Aside0.mk (show Kd.R k89 89 wr w0.heap.size (fun k_ => (P0_ k_ ∨ w.heap.size ≤ k_)) (.slice (some ⟨go5, 0, none⟩) gA.length XA) gA from q1_10)
     obtain ⟨ce14, hcl14, hM14, hcc14, hfr14⟩ := Kd.R_elem HX14.out z89 (aA : Int) (of_decide_eq_true q1_4) q1_2
     obtain rfl := k89_openM hM14
     have HP14 := Kd.R_seg HX14.out (aA : Int) (of_decide_eq_true q1_4) q1_2 (seg := [.int .i64 fA]) (j := 0) hcl14 hcc14 (show 1 ≤ 8 from by decide) (x' := (⟨fA, (rd_T89 gA aA).f1, (rd_T89 gA aA).f2, (rd_T89 gA aA).f3, (rd_T89 gA aA).f4, (rd_T89 gA aA).f5, (rd_T89 gA aA).f6, (rd_T89 gA aA).f7⟩ : S89)) (k89_mkM _ _ _ (⟨fA, (rd_T89 gA aA).f1, (rd_T89 gA aA).f2, (rd_T89 gA aA).f3, (rd_T89 gA aA).f4, (rd_T89 gA aA).f5, (rd_T89 gA aA).f6, (rd_T89 gA aA).f7⟩ : S89) ) (fun _ hk => hk)
     have yB := hcc14 0 _ rfl
     (try simp only [show (k89).sz = 8 from rfl, Nat.mul_one, Nat.add_zero] at yB)
     have zB := hfr14 0
     (try simp only [show (k89).sz = 8 from rfl, Nat.mul_one, Nat.add_zero] at zB)
     clear hcl14 hcc14 hfr14 hM14
     go_wp2_with (first | ((with_reducible refine gate_store (t := 3) (p := 16) rfl ?_); refine store_event (t := 3) (p := 16) (v := ?vo_w15) (w1 := (wr.setCell ⟨go5, (aA : Int).toNat * 8, none⟩ (.int .i64 fA))) ?hg ?ho ?hn ?hr ?_; (case ho => rfl); (case hg => rfl); (case hn => rfl); (case hr => first | (go_simp; done) | (go_simp; rfl)); intro gB hw; have hg : wr.grownBy gB (some go5) := (by rw [hw]; exact HP14.2); have hp_ : Kd.R k89 89 gB w0.heap.size (fun k_ => (P0_ k_ ∨ w.heap.size ≤ k_)) (.slice (some ⟨go5, 0, none⟩) gA.length XA) y106 := (by rw [hw, Ny106.out]; exact HP14.1); clear HP14; have jA := Aside0.mk (hp_); have sA := Aside0.mk ((q1_13 : Below w0.heap.size w0 gB)); have tA := Aside0.mk (Kept.of_grown (S := (fun k_ => P0_ k_)) hg q1_8 (fun k_ e_ => (uA.out.1 k_ e_))); clear uA HB HK; have uA := jA; have HB := sA; have HK := tA; clear jA sA tA; clear hg hw hp_; have p6 : 0 ≤ (aA : Int) := of_decide_eq_true q1_4; have q6 : (aA : Int) < ((gA.length : Int) : Int) := of_decide_eq_true q1_4; obtain ⟨ce6, hcl6, hM6, hcc6, hfr6⟩ := Kd.R_elem uA.out z89 (aA : Int) p6 q6; obtain rfl := k89_openM hM6; have uJ : gB.cell? ⟨go5, (aA : Int).toNat * 8, none⟩ = some (.int .i64 ((rd_T89 y106 aA).f0)) := hcc6 0 _ rfl; have vJ : gB.cell? ⟨go5, (aA : Int).toNat * 8 + 1, none⟩ = some (.int .i64 ((rd_T89 y106 aA).f1)) := hcc6 1 _ rfl; have wJ : gB.cell? ⟨go5, (aA : Int).toNat * 8 + 2, none⟩ = some (.int .i64 ((rd_T89 y106 aA).f2)) := hcc6 2 _ rfl; have xJ : gB.cell? ⟨go5, (aA : Int).toNat * 8 + 3, none⟩ = some (.int .i64 ((rd_T89 y106 aA).f3)) := hcc6 3 _ rfl; have yJ : gB.cell? ⟨go5, (aA : Int).toNat * 8 + 4, none⟩ = some (.int .i64 ((rd_T89 y106 aA).f4)) := hcc6 4 _ rfl; have zJ : gB.cell? ⟨go5, (aA : Int).toNat * 8 + 5, none⟩ = some (.int .i64 ((rd_T89 y106 aA).f5)) := hcc6 5 _ rfl; have AJ : gB.cell? ⟨go5, (aA : Int).toNat * 8 + 6, none⟩ = some (.int .i64 ((rd_T89 y106 aA).f6)) := hcc6 6 _ rfl; have BJ : gB.cell? ⟨go5, (aA : Int).toNat * 8 + 7, none⟩ = some (.int .i64 ((rd_T89 y106 aA).f7)) := hcc6 7 _ rfl; have CJ : gB.frozen? ⟨go5, (aA : Int).toNat * 8, none⟩ = false := hfr6 0; have DJ : gB.frozen? ⟨go5, (aA : Int).toNat * 8 + 1, none⟩ = false := hfr6 1; have EJ : gB.frozen? ⟨go5, (aA : Int).toNat * 8 + 2, none⟩ = false := hfr6 2; have FJ : gB.frozen? ⟨go5, (aA : Int).toNat * 8 + 3, none⟩ = false := hfr6 3; have GJ : gB.frozen? ⟨go5, (aA : Int).toNat * 8 + 4, none⟩ = false := hfr6 4; have HJ : gB.frozen? ⟨go5, (aA : Int).toNat * 8 + 5, none⟩ = false := hfr6 5; have IJ : gB.frozen? ⟨go5, (aA : Int).toNat * 8 + 6, none⟩ = false := hfr6 6; have JJ : gB.frozen? ⟨go5, (aA : Int).toNat * 8 + 7, none⟩ = false := hfr6 7; clear hcl6 hcc6 hfr6 hM6; replace p6 := eq_true p6; replace q6 := eq_true q6; have HX16 := Aside0.mk (show Kd.R k89 89 gB w0.heap.size (fun k_ => (P0_ k_ ∨ w.heap.size ≤ k_)) (.slice (some ⟨go5, 0, none⟩) gA.length XA) y106 from q1_10); obtain ⟨ce16, hcl16, hM16, hcc16, hfr16⟩ := Kd.R_elem HX16.out z89 (aA : Int) (of_decide_eq_true q1_4) q1_2; obtain rfl := k89_openM hM16; have HP16 := Kd.R_seg HX16.out (aA : Int) (of_decide_eq_true q1_4) q1_2 (seg := [.int .i64 (wrap64 (fA + 1))]) (j := 1) hcl16 hcc16 (show 2 ≤ 8 from by decide) (x' := (⟨(rd_T89 y106 aA).f0, wrap64 (fA + 1), (rd_T89 y106 aA).f2, (rd_T89 y106 aA).f3, (rd_T89 y106 aA).f4, (rd_T89 y106 aA).f5, (rd_T89 y106 aA).f6, (rd_T89 y106 aA).f7⟩ : S89)) (k89_mkM _ _ _ (⟨(rd_T89 y106 aA).f0, wrap64 (fA + 1), (rd_T89 y106 aA).f2, (rd_T89 y106 aA).f3, (rd_T89 y106 aA).f4, (rd_T89 y106 aA).f5, (rd_T89 y106 aA).f6, (rd_T89 y106 aA).f7⟩ : S89) ) (fun _ hk => hk); have AB := hcc16 1 _ rfl; (try simp only [show (k89).sz = 8 from rfl, Nat.mul_one, Nat.add_zero] at AB); have BB := hfr16 1; (try simp only [show (k89).sz = 8 from rfl, Nat.mul_one, Nat.add_zero] at BB); clear hcl16 hcc16 hfr16 hM16) | ((with_reducible refine gate_store (t := 3) (p := 23) rfl ?_); refine store_event (t := 3) (p := 23) (v := ?vo_w17) (w1 := (gB.setCell ⟨go5, (aA : Int).toNat * 8 + 1, none⟩ (.int .i64 (wrap64 (fA + 1))))) ?hg ?ho ?hn ?hr ?_; (case ho => rfl); (case hg => rfl); (case hn => rfl); (case hr => first | (go_simp; done) | (go_simp; rfl)); intro VA hw; have hg : gB.grownBy VA (some go5) := (by rw [hw]; exact HP16.2); have hp_ : Kd.R k89 89 VA w0.heap.size (fun k_ => (P0_ k_ ∨ w.heap.size ≤ k_)) (.slice (some ⟨go5, 0, none⟩) gA.length XA) y107 := (by rw [hw, Ny107.out]; exact HP16.1); clear HP16; have jA := Aside0.mk (hp_); have sA := Aside0.mk ((q1_13 : Below w0.heap.size w0 VA)); have tA := Aside0.mk (Kept.of_grown (S := (fun k_ => P0_ k_)) hg q1_8 (fun k_ e_ => (uA.out.1 k_ e_))); clear uA HB HK; have uA := jA; have HB := sA; have HK := tA; clear jA sA tA; clear hg hw hp_; have p7 : 0 ≤ (aA : Int) := of_decide_eq_true q1_4; have q7 : (aA : Int) < ((gA.length : Int) : Int) := of_decide_eq_true q1_4; obtain ⟨ce7, hcl7, hM7, hcc7, hfr7⟩ := Kd.R_elem uA.out z89 (aA : Int) p7 q7; obtain rfl := k89_openM hM7; have KJ : VA.cell? ⟨go5, (aA : Int).toNat * 8, none⟩ = some (.int .i64 ((rd_T89 y107 aA).f0)) := hcc7 0 _ rfl; have LJ : VA.cell? ⟨go5, (aA : Int).toNat * 8 + 1, none⟩ = some (.int .i64 ((rd_T89 y107 aA).f1)) := hcc7 1 _ rfl; have MJ : VA.cell? ⟨go5, (aA : Int).toNat * 8 + 2, none⟩ = some (.int .i64 ((rd_T89 y107 aA).f2)) := hcc7 2 _ rfl; have NJ : VA.cell? ⟨go5, (aA : Int).toNat * 8 + 3, none⟩ = some (.int .i64 ((rd_T89 y107 aA).f3)) := hcc7 3 _ rfl; have OJ : VA.cell? ⟨go5, (aA : Int).toNat * 8 + 4, none⟩ = some (.int .i64 ((rd_T89 y107 aA).f4)) := hcc7 4 _ rfl; have PJ : VA.cell? ⟨go5, (aA : Int).toNat * 8 + 5, none⟩ = some (.int .i64 ((rd_T89 y107 aA).f5)) := hcc7 5 _ rfl; have QJ : VA.cell? ⟨go5, (aA : Int).toNat * 8 + 6, none⟩ = some (.int .i64 ((rd_T89 y107 aA).f6)) := hcc7 6 _ rfl; have RJ : VA.cell? ⟨go5, (aA : Int).toNat * 8 + 7, none⟩ = some (.int .i64 ((rd_T89 y107 aA).f7)) := hcc7 7 _ rfl; have SJ : VA.frozen? ⟨go5, (aA : Int).toNat * 8, none⟩ = false := hfr7 0; have TJ : VA.frozen? ⟨go5, (aA : Int).toNat * 8 + 1, none⟩ = false := hfr7 1; have UJ : VA.frozen? ⟨go5, (aA : Int).toNat * 8 + 2, none⟩ = false := hfr7 2; have VJ : VA.frozen? ⟨go5, (aA : Int).toNat * 8 + 3, none⟩ = false := hfr7 3; have WJ : VA.frozen? ⟨go5, (aA : Int).toNat * 8 + 4, none⟩ = false := hfr7 4; have XJ : VA.frozen? ⟨go5, (aA : Int).toNat * 8 + 5, none⟩ = false := hfr7 5; have YJ : VA.frozen? ⟨go5, (aA : Int).toNat * 8 + 6, none⟩ = false := hfr7 6; have ZJ : VA.frozen? ⟨go5, (aA : Int).toNat * 8 + 7, none⟩ = false := hfr7 7; clear hcl7 hcc7 hfr7 hM7; replace p7 := eq_true p7; replace q7 := eq_true q7; have HX18 := Aside0.mk (show Kd.R k89 89 VA w0.heap.size (fun k_ => (P0_ k_ ∨ w.heap.size ≤ k_)) (.slice (some ⟨go5, 0, none⟩) gA.length XA) y107 from q1_10); obtain ⟨ce18, hcl18, hM18, hcc18, hfr18⟩ := Kd.R_elem HX18.out z89 (aA : Int) (of_decide_eq_true q1_4) q1_2; obtain rfl := k89_openM hM18; have HP18 := Kd.R_seg HX18.out (aA : Int) (of_decide_eq_true q1_4) q1_2 (seg := [.int .i64 (wrap64 ((wrap64 (fA + 1)) + 1))]) (j := 2) hcl18 hcc18 (show 3 ≤ 8 from by decide) (x' := (⟨(rd_T89 y107 aA).f0, (rd_T89 y107 aA).f1, wrap64 ((wrap64 (fA + 1)) + 1), (rd_T89 y107 aA).f3, (rd_T89 y107 aA).f4, (rd_T89 y107 aA).f5, (rd_T89 y107 aA).f6, (rd_T89 y107 aA).f7⟩ : S89)) (k89_mkM _ _ _ (⟨(rd_T89 y107 aA).f0, (rd_T89 y107 aA).f1, wrap64 ((wrap64 (fA + 1)) + 1), (rd_T89 y107 aA).f3, (rd_T89 y107 aA).f4, (rd_T89 y107 aA).f5, (rd_T89 y107 aA).f6, (rd_T89 y107 aA).f7⟩ : S89) ) (fun _ hk => hk); have CB := hcc18 2 _ rfl; (try simp only [show (k89).sz = 8 from rfl, Nat.mul_one, Nat.add_zero] at CB); have DB := hfr18 2; (try simp only [show (k89).sz = 8 from rfl, Nat.mul_one, Nat.add_zero] at DB); clear hcl18 hcc18 hfr18 hM18) | ((with_reducible refine gate_store (t := 3) (p := 30) rfl ?_); refine store_event (t := 3) (p := 30) (v := ?vo_w19) (w1 := (VA.setCell ⟨go5, (aA : Int).toNat * 8 + 2, none⟩ (.int .i64 (wrap64 ((wrap64 (fA + 1)) + 1))))) ?hg ?ho ?hn ?hr ?_; (case ho => rfl); (case hg => rfl); (case hn => rfl); (case hr => first | (go_simp; done) | (go_simp; rfl)); intro iB hw; have hg : VA.grownBy iB (some go5) := (by rw [hw]; exact HP18.2); have hp_ : Kd.R k89 89 iB w0.heap.size (fun k_ => (P0_ k_ ∨ w.heap.size ≤ k_)) (.slice (some ⟨go5, 0, none⟩) gA.length XA) y108 := (by rw [hw, Ny108.out]; exact HP18.1); clear HP18; have jA := Aside0.mk (hp_); have sA := Aside0.mk ((q1_13 : Below w0.heap.size w0 iB)); have tA := Aside0.mk (Kept.of_grown (S := (fun k_ => P0_ k_)) hg q1_8 (fun k_ e_ => (uA.out.1 k_ e_))); clear uA HB HK; have uA := jA; have HB := sA; have HK := tA; clear jA sA tA; clear hg hw hp_; have p8 : 0 ≤ (aA : Int) := of_decide_eq_true q1_4; have q8 : (aA : Int) < ((gA.length : Int) : Int) := of_decide_eq_true q1_4; obtain ⟨ce8, hcl8, hM8, hcc8, hfr8⟩ := Kd.R_elem uA.out z89 (aA : Int) p8 q8; obtain rfl := k89_openM hM8; have aK : iB.cell? ⟨go5, (aA : Int).toNat * 8, none⟩ = some (.int .i64 ((rd_T89 y108 aA).f0)) := hcc8 0 _ rfl; have bK : iB.cell? ⟨go5, (aA : Int).toNat * 8 + 1, none⟩ = some (.int .i64 ((rd_T89 y108 aA).f1)) := hcc8 1 _ rfl; have cK : iB.cell? ⟨go5, (aA : Int).toNat * 8 + 2, none⟩ = some (.int .i64 ((rd_T89 y108 aA).f2)) := hcc8 2 _ rfl; have dK : iB.cell? ⟨go5, (aA : Int).toNat * 8 + 3, none⟩ = some (.int .i64 ((rd_T89 y108 aA).f3)) := hcc8 3 _ rfl; have eK : iB.cell? ⟨go5, (aA : Int).toNat * 8 + 4, none⟩ = some (.int .i64 ((rd_T89 y108 aA).f4)) := hcc8 4 _ rfl; have fK : iB.cell? ⟨go5, (aA : Int).toNat * 8 + 5, none⟩ = some (.int .i64 ((rd_T89 y108 aA).f5)) := hcc8 5 _ rfl; have gK : iB.cell? ⟨go5, (aA : Int).toNat * 8 + 6, none⟩ = some (.int .i64 ((rd_T89 y108 aA).f6)) := hcc8 6 _ rfl; have iK : iB.cell? ⟨go5, (aA : Int).toNat * 8 + 7, none⟩ = some (.int .i64 ((rd_T89 y108 aA).f7)) := hcc8 7 _ rfl; have jK : iB.frozen? ⟨go5, (aA : Int).toNat * 8, none⟩ = false := hfr8 0; have kK : iB.frozen? ⟨go5, (aA : Int).toNat * 8 + 1, none⟩ = false := hfr8 1; have lK : iB.frozen? ⟨go5, (aA : Int).toNat * 8 + 2, none⟩ = false := hfr8 2; have mK : iB.frozen? ⟨go5, (aA : Int).toNat * 8 + 3, none⟩ = false := hfr8 3; have nK : iB.frozen? ⟨go5, (aA : Int).toNat * 8 + 4, none⟩ = false := hfr8 4; have oK : iB.frozen? ⟨go5, (aA : Int).toNat * 8 + 5, none⟩ = false := hfr8 5; have pK : iB.frozen? ⟨go5, (aA : Int).toNat * 8 + 6, none⟩ = false := hfr8 6; have qK : iB.frozen? ⟨go5, (aA : Int).toNat * 8 + 7, none⟩ = false := hfr8 7; clear hcl8 hcc8 hfr8 hM8; replace p8 := eq_true p8; replace q8 := eq_true q8; have HX20 := Aside0.mk (show Kd.R k89 89 iB w0.heap.size (fun k_ => (P0_ k_ ∨ w.heap.size ≤ k_)) (.slice (some ⟨go5, 0, none⟩) gA.length XA) y108 from q1_10); obtain ⟨ce20, hcl20, hM20, hcc20, hfr20⟩ := Kd.R_elem HX20.out z89 (aA : Int) (of_decide_eq_true q1_4) q1_2; obtain rfl := k89_openM hM20; have HP20 := Kd.R_seg HX20.out (aA : Int) (of_decide_eq_true q1_4) q1_2 (seg := [.int .i64 (wrap64 ((wrap64 ((wrap64 (fA + 1)) + 1)) + 1))]) (j := 3) hcl20 hcc20 (show 4 ≤ 8 from by decide) (x' := (⟨(rd_T89 y108 aA).f0, (rd_T89 y108 aA).f1, (rd_T89 y108 aA).f2, wrap64 ((wrap64 ((wrap64 (fA + 1)) + 1)) + 1), (rd_T89 y108 aA).f4, (rd_T89 y108 aA).f5, (rd_T89 y108 aA).f6, (rd_T89 y108 aA).f7⟩ : S89)) (k89_mkM _ _ _ (⟨(rd_T89 y108 aA).f0, (rd_T89 y108 aA).f1, (rd_T89 y108 aA).f2, wrap64 ((wrap64 ((wrap64 (fA + 1)) + 1)) + 1), (rd_T89 y108 aA).f4, (rd_T89 y108 aA).f5, (rd_T89 y108 aA).f6, (rd_T89 y108 aA).f7⟩ : S89) ) (fun _ hk => hk); have EB := hcc20 3 _ rfl; (try simp only [show (k89).sz = 8 from rfl, Nat.mul_one, Nat.add_zero] at EB); have FB := hfr20 3; (try simp only [show (k89).sz = 8 from rfl, Nat.mul_one, Nat.add_zero] at FB); clear hcl20 hcc20 hfr20 hM20) | ((with_reducible refine gate_store (t := 3) (p := 37) rfl ?_); refine store_event (t := 3) (p := 37) (v := ?vo_w21) (w1 := (iB.setCell ⟨go5, (aA : Int).toNat * 8 + 3, none⟩ (.int .i64 (wrap64 ((wrap64 ((wrap64 (fA + 1)) + 1)) + 1))))) ?hg ?ho ?hn ?hr ?_; (case ho => rfl); (case hg => rfl); (case hn => rfl); (case hr => first | (go_simp; done) | (go_simp; rfl)); intro fB hw; have hg : iB.grownBy fB (some go5) := (by rw [hw]; exact HP20.2); have hp_ : Kd.R k89 89 fB w0.heap.size (fun k_ => (P0_ k_ ∨ w.heap.size ≤ k_)) (.slice (some ⟨go5, 0, none⟩) gA.length XA) y109 := (by rw [hw, Ny109.out]; exact HP20.1); clear HP20; have jA := Aside0.mk (hp_); have sA := Aside0.mk ((q1_13 : Below w0.heap.size w0 fB)); have tA := Aside0.mk (Kept.of_grown (S := (fun k_ => P0_ k_)) hg q1_8 (fun k_ e_ => (uA.out.1 k_ e_))); clear uA HB HK; have uA := jA; have HB := sA; have HK := tA; clear jA sA tA; clear hg hw hp_; have p9 : 0 ≤ (aA : Int) := of_decide_eq_true q1_4; have q9 : (aA : Int) < ((gA.length : Int) : Int) := of_decide_eq_true q1_4; obtain ⟨ce9, hcl9, hM9, hcc9, hfr9⟩ := Kd.R_elem uA.out z89 (aA : Int) p9 q9; obtain rfl := k89_openM hM9; have rK : fB.cell? ⟨go5, (aA : Int).toNat * 8, none⟩ = some (.int .i64 ((rd_T89 y109 aA).f0)) := hcc9 0 _ rfl; have sK : fB.cell? ⟨go5, (aA : Int).toNat * 8 + 1, none⟩ = some (.int .i64 ((rd_T89 y109 aA).f1)) := hcc9 1 _ rfl; have tK : fB.cell? ⟨go5, (aA : Int).toNat * 8 + 2, none⟩ = some (.int .i64 ((rd_T89 y109 aA).f2)) := hcc9 2 _ rfl; have uK : fB.cell? ⟨go5, (aA : Int).toNat * 8 + 3, none⟩ = some (.int .i64 ((rd_T89 y109 aA).f3)) := hcc9 3 _ rfl; have vK : fB.cell? ⟨go5, (aA : Int).toNat * 8 + 4, none⟩ = some (.int .i64 ((rd_T89 y109 aA).f4)) := hcc9 4 _ rfl; have wK : fB.cell? ⟨go5, (aA : Int).toNat * 8 + 5, none⟩ = some (.int .i64 ((rd_T89 y109 aA).f5)) := hcc9 5 _ rfl; have xK : fB.cell? ⟨go5, (aA : Int).toNat * 8 + 6, none⟩ = some (.int .i64 ((rd_T89 y109 aA).f6)) := hcc9 6 _ rfl; have yK : fB.cell? ⟨go5, (aA : Int).toNat * 8 + 7, none⟩ = some (.int .i64 ((rd_T89 y109 aA).f7)) := hcc9 7 _ rfl; have zK : fB.frozen? ⟨go5, (aA : Int).toNat * 8, none⟩ = false := hfr9 0; have AK : fB.frozen? ⟨go5, (aA : Int).toNat * 8 + 1, none⟩ = false := hfr9 1; have BK : fB.frozen? ⟨go5, (aA : Int).toNat * 8 + 2, none⟩ = false := hfr9 2; have CK : fB.frozen? ⟨go5, (aA : Int).toNat * 8 + 3, none⟩ = false := hfr9 3; have DK : fB.frozen? ⟨go5, (aA : Int).toNat * 8 + 4, none⟩ = false := hfr9 4; have EK : fB.frozen? ⟨go5, (aA : Int).toNat * 8 + 5, none⟩ = false := hfr9 5; have FK : fB.frozen? ⟨go5, (aA : Int).toNat * 8 + 6, none⟩ = false := hfr9 6; have GK : fB.frozen? ⟨go5, (aA : Int).toNat * 8 + 7, none⟩ = false := hfr9 7; clear hcl9 hcc9 hfr9 hM9; replace p9 := eq_true p9; replace q9 := eq_true q9; have HX22 := Aside0.mk (show Kd.R k89 89 fB w0.heap.size (fun k_ => (P0_ k_ ∨ w.heap.size ≤ k_)) (.slice (some ⟨go5, 0, none⟩) gA.length XA) y109 from q1_10); obtain ⟨ce22, hcl22, hM22, hcc22, hfr22⟩ := Kd.R_elem HX22.out z89 (aA : Int) (of_decide_eq_true q1_4) q1_2; obtain rfl := k89_openM hM22; have HP22 := Kd.R_seg HX22.out (aA : Int) (of_decide_eq_true q1_4) q1_2 (seg := [.int .i64 (wrap64 ((wrap64 ((wrap64 ((wrap64 (fA + 1)) + 1)) + 1)) + 1))]) (j := 4) hcl22 hcc22 (show 5 ≤ 8 from by decide) (x' := (⟨(rd_T89 y109 aA).f0, (rd_T89 y109 aA).f1, (rd_T89 y109 aA).f2, (rd_T89 y109 aA).f3, wrap64 ((wrap64 ((wrap64 ((wrap64 (fA + 1)) + 1)) + 1)) + 1), (rd_T89 y109 aA).f5, (rd_T89 y109 aA).f6, (rd_T89 y109 aA).f7⟩ : S89)) (k89_mkM _ _ _ (⟨(rd_T89 y109 aA).f0, (rd_T89 y109 aA).f1, (rd_T89 y109 aA).f2, (rd_T89 y109 aA).f3, wrap64 ((wrap64 ((wrap64 ((wrap64 (fA + 1)) + 1)) + 1)) + 1), (rd_T89 y109 aA).f5, (rd_T89 y109 aA).f6, (rd_T89 y109 aA).f7⟩ : S89) ) (fun _ hk => hk); have GB := hcc22 4 _ rfl; (try simp only [show (k89).sz = 8 from rfl, Nat.mul_one, Nat.add_zero] at GB); have IB := hfr22 4; (try simp only [show (k89).sz = 8 from rfl, Nat.mul_one, Nat.add_zero] at IB); clear hcl22 hcc22 hfr22 hM22) | ((with_reducible refine gate_store (t := 3) (p := 44) rfl ?_); refine store_event (t := 3) (p := 44) (v := ?vo_w23) (w1 := (fB.setCell ⟨go5, (aA : Int).toNat * 8 + 4, none⟩ (.int .i64 (wrap64 ((wrap64 ((wrap64 ((wrap64 (fA + 1)) + 1)) + 1)) + 1))))) ?hg ?ho ?hn ?hr ?_; (case ho => rfl); (case hg => rfl); (case hn => rfl); (case hr => first | (go_simp; done) | (go_simp; rfl)); intro jB hw; have hg : fB.grownBy jB (some go5) := (by rw [hw]; exact HP22.2); have hp_ : Kd.R k89 89 jB w0.heap.size (fun k_ => (P0_ k_ ∨ w.heap.size ≤ k_)) (.slice (some ⟨go5, 0, none⟩) gA.length XA) y110 := (by rw [hw, Ny110.out]; exact HP22.1); clear HP22; have jA := Aside0.mk (hp_); have sA := Aside0.mk ((q1_13 : Below w0.heap.size w0 jB)); have tA := Aside0.mk (Kept.of_grown (S := (fun k_ => P0_ k_)) hg q1_8 (fun k_ e_ => (uA.out.1 k_ e_))); clear uA HB HK; have uA := jA; have HB := sA; have HK := tA; clear jA sA tA; clear hg hw hp_; have p10 : 0 ≤ (aA : Int) := of_decide_eq_true q1_4; have q10 : (aA : Int) < ((gA.length : Int) : Int) := of_decide_eq_true q1_4; obtain ⟨ce10, hcl10, hM10, hcc10, hfr10⟩ := Kd.R_elem uA.out z89 (aA : Int) p10 q10; obtain rfl := k89_openM hM10; have MH : jB.cell? ⟨go5, (aA : Int).toNat * 8, none⟩ = some (.int .i64 ((rd_T89 y110 aA).f0)) := hcc10 0 _ rfl; have NH : jB.cell? ⟨go5, (aA : Int).toNat * 8 + 1, none⟩ = some (.int .i64 ((rd_T89 y110 aA).f1)) := hcc10 1 _ rfl; have OH : jB.cell? ⟨go5, (aA : Int).toNat * 8 + 2, none⟩ = some (.int .i64 ((rd_T89 y110 aA).f2)) := hcc10 2 _ rfl; have PH : jB.cell? ⟨go5, (aA : Int).toNat * 8 + 3, none⟩ = some (.int .i64 ((rd_T89 y110 aA).f3)) := hcc10 3 _ rfl; have QH : jB.cell? ⟨go5, (aA : Int).toNat * 8 + 4, none⟩ = some (.int .i64 ((rd_T89 y110 aA).f4)) := hcc10 4 _ rfl; have RH : jB.cell? ⟨go5, (aA : Int).toNat * 8 + 5, none⟩ = some (.int .i64 ((rd_T89 y110 aA).f5)) := hcc10 5 _ rfl; have SH : jB.cell? ⟨go5, (aA : Int).toNat * 8 + 6, none⟩ = some (.int .i64 ((rd_T89 y110 aA).f6)) := hcc10 6 _ rfl; have TH : jB.cell? ⟨go5, (aA : Int).toNat * 8 + 7, none⟩ = some (.int .i64 ((rd_T89 y110 aA).f7)) := hcc10 7 _ rfl; have UH : jB.frozen? ⟨go5, (aA : Int).toNat * 8, none⟩ = false := hfr10 0; have VH : jB.frozen? ⟨go5, (aA : Int).toNat * 8 + 1, none⟩ = false := hfr10 1; have WH : jB.frozen? ⟨go5, (aA : Int).toNat * 8 + 2, none⟩ = false := hfr10 2; have XH : jB.frozen? ⟨go5, (aA : Int).toNat * 8 + 3, none⟩ = false := hfr10 3; have YH : jB.frozen? ⟨go5, (aA : Int).toNat * 8 + 4, none⟩ = false := hfr10 4; have ZH : jB.frozen? ⟨go5, (aA : Int).toNat * 8 + 5, none⟩ = false := hfr10 5; have aI : jB.frozen? ⟨go5, (aA : Int).toNat * 8 + 6, none⟩ = false := hfr10 6; have bI : jB.frozen? ⟨go5, (aA : Int).toNat * 8 + 7, none⟩ = false := hfr10 7; clear hcl10 hcc10 hfr10 hM10; replace p10 := eq_true p10; replace q10 := eq_true q10; have HX24 := Aside0.mk (show Kd.R k89 89 jB w0.heap.size (fun k_ => (P0_ k_ ∨ w.heap.size ≤ k_)) (.slice (some ⟨go5, 0, none⟩) gA.length XA) y110 from q1_10); obtain ⟨ce24, hcl24, hM24, hcc24, hfr24⟩ := Kd.R_elem HX24.out z89 (aA : Int) (of_decide_eq_true q1_4) q1_2; obtain rfl := k89_openM hM24; have HP24 := Kd.R_seg HX24.out (aA : Int) (of_decide_eq_true q1_4) q1_2 (seg := [.int .i64 (wrap64 ((wrap64 ((wrap64 ((wrap64 ((wrap64 (fA + 1)) + 1)) + 1)) + 1)) + 1))]) (j := 5) hcl24 hcc24 (show 6 ≤ 8 from by decide) (x' := (⟨(rd_T89 y110 aA).f0, (rd_T89 y110 aA).f1, (rd_T89 y110 aA).f2, (rd_T89 y110 aA).f3, (rd_T89 y110 aA).f4, wrap64 ((wrap64 ((wrap64 ((wrap64 ((wrap64 (fA + 1)) + 1)) + 1)) + 1)) + 1), (rd_T89 y110 aA).f6, (rd_T89 y110 aA).f7⟩ : S89)) (k89_mkM _ _ _ (⟨(rd_T89 y110 aA).f0, (rd_T89 y110 aA).f1, (rd_T89 y110 aA).f2, (rd_T89 y110 aA).f3, (rd_T89 y110 aA).f4, wrap64 ((wrap64 ((wrap64 ((wrap64 ((wrap64 (fA + 1)) + 1)) + 1)) + 1)) + 1), (rd_T89 y110 aA).f6, (rd_T89 y110 aA).f7⟩ : S89) ) (fun _ hk => hk); have JB := hcc24 5 _ rfl; (try simp only [show (k89).sz = 8 from rfl, Nat.mul_one, Nat.add_zero] at JB); have KB := hfr24 5; (try simp only [show (k89).sz = 8 from rfl, Nat.mul_one, Nat.add_zero] at KB); clear hcl24 hcc24 hfr24 hM24) | ((with_reducible refine gate_store (t := 3) (p := 51) rfl ?_); refine store_event (t := 3) (p := 51) (v := ?vo_w25) (w1 := (jB.setCell ⟨go5, (aA : Int).toNat * 8 + 5, none⟩ (.int .i64 (wrap64 ((wrap64 ((wrap64 ((wrap64 ((wrap64 (fA + 1)) + 1)) + 1)) + 1)) + 1))))) ?hg ?ho ?hn ?hr ?_; (case ho => rfl); (case hg => rfl); (case hn => rfl); (case hr => first | (go_simp; done) | (go_simp; rfl)); intro kB hw; have hg : jB.grownBy kB (some go5) := (by rw [hw]; exact HP24.2); have hp_ : Kd.R k89 89 kB w0.heap.size (fun k_ => (P0_ k_ ∨ w.heap.size ≤ k_)) (.slice (some ⟨go5, 0, none⟩) gA.length XA) y111 := (by rw [hw, Ny111.out]; exact HP24.1); clear HP24; have jA := Aside0.mk (hp_); have sA := Aside0.mk ((q1_13 : Below w0.heap.size w0 kB)); have tA := Aside0.mk (Kept.of_grown (S := (fun k_ => P0_ k_)) hg q1_8 (fun k_ e_ => (uA.out.1 k_ e_))); clear uA HB HK; have uA := jA; have HB := sA; have HK := tA; clear jA sA tA; clear hg hw hp_; have p11 : 0 ≤ (aA : Int) := of_decide_eq_true q1_4; have q11 : (aA : Int) < ((gA.length : Int) : Int) := of_decide_eq_true q1_4; obtain ⟨ce11, hcl11, hM11, hcc11, hfr11⟩ := Kd.R_elem uA.out z89 (aA : Int) p11 q11; obtain rfl := k89_openM hM11; have cI : kB.cell? ⟨go5, (aA : Int).toNat * 8, none⟩ = some (.int .i64 ((rd_T89 y111 aA).f0)) := hcc11 0 _ rfl; have dI : kB.cell? ⟨go5, (aA : Int).toNat * 8 + 1, none⟩ = some (.int .i64 ((rd_T89 y111 aA).f1)) := hcc11 1 _ rfl; have eI : kB.cell? ⟨go5, (aA : Int).toNat * 8 + 2, none⟩ = some (.int .i64 ((rd_T89 y111 aA).f2)) := hcc11 2 _ rfl; have fI : kB.cell? ⟨go5, (aA : Int).toNat * 8 + 3, none⟩ = some (.int .i64 ((rd_T89 y111 aA).f3)) := hcc11 3 _ rfl; have gI : kB.cell? ⟨go5, (aA : Int).toNat * 8 + 4, none⟩ = some (.int .i64 ((rd_T89 y111 aA).f4)) := hcc11 4 _ rfl; have hI : kB.cell? ⟨go5, (aA : Int).toNat * 8 + 5, none⟩ = some (.int .i64 ((rd_T89 y111 aA).f5)) := hcc11 5 _ rfl; have iI : kB.cell? ⟨go5, (aA : Int).toNat * 8 + 6, none⟩ = some (.int .i64 ((rd_T89 y111 aA).f6)) := hcc11 6 _ rfl; have jI : kB.cell? ⟨go5, (aA : Int).toNat * 8 + 7, none⟩ = some (.int .i64 ((rd_T89 y111 aA).f7)) := hcc11 7 _ rfl; have kI : kB.frozen? ⟨go5, (aA : Int).toNat * 8, none⟩ = false := hfr11 0; have lI : kB.frozen? ⟨go5, (aA : Int).toNat * 8 + 1, none⟩ = false := hfr11 1; have mI : kB.frozen? ⟨go5, (aA : Int).toNat * 8 + 2, none⟩ = false := hfr11 2; have nI : kB.frozen? ⟨go5, (aA : Int).toNat * 8 + 3, none⟩ = false := hfr11 3; have oI : kB.frozen? ⟨go5, (aA : Int).toNat * 8 + 4, none⟩ = false := hfr11 4; have pI : kB.frozen? ⟨go5, (aA : Int).toNat * 8 + 5, none⟩ = false := hfr11 5; have qI : kB.frozen? ⟨go5, (aA : Int).toNat * 8 + 6, none⟩ = false := hfr11 6; have rI : kB.frozen? ⟨go5, (aA : Int).toNat * 8 + 7, none⟩ = false := hfr11 7; clear hcl11 hcc11 hfr11 hM11; replace p11 := eq_true p11; replace q11 := eq_true q11; have HX26 := Aside0.mk (show Kd.R k89 89 kB w0.heap.size (fun k_ => (P0_ k_ ∨ w.heap.size ≤ k_)) (.slice (some ⟨go5, 0, none⟩) gA.length XA) y111 from q1_10); obtain ⟨ce26, hcl26, hM26, hcc26, hfr26⟩ := Kd.R_elem HX26.out z89 (aA : Int) (of_decide_eq_true q1_4) q1_2; obtain rfl := k89_openM hM26; have HP26 := Kd.R_seg HX26.out (aA : Int) (of_decide_eq_true q1_4) q1_2 (seg := [.int .i64 (wrap64 ((wrap64 ((wrap64 ((wrap64 ((wrap64 ((wrap64 (fA + 1)) + 1)) + 1)) + 1)) + 1)) + 1))]) (j := 6) hcl26 hcc26 (show 7 ≤ 8 from by decide) (x' := (⟨(rd_T89 y111 aA).f0, (rd_T89 y111 aA).f1, (rd_T89 y111 aA).f2, (rd_T89 y111 aA).f3, (rd_T89 y111 aA).f4, (rd_T89 y111 aA).f5, wrap64 ((wrap64 ((wrap64 ((wrap64 ((wrap64 ((wrap64 (fA + 1)) + 1)) + 1)) + 1)) + 1)) + 1), (rd_T89 y111 aA).f7⟩ : S89)) (k89_mkM _ _ _ (⟨(rd_T89 y111 aA).f0, (rd_T89 y111 aA).f1, (rd_T89 y111 aA).f2, (rd_T89 y111 aA).f3, (rd_T89 y111 aA).f4, (rd_T89 y111 aA).f5, wrap64 ((wrap64 ((wrap64 ((wrap64 ((wrap64 ((wrap64 (fA + 1)) + 1)) + 1)) + 1)) + 1)) + 1), (rd_T89 y111 aA).f7⟩ : S89) ) (fun _ hk => hk); have LB := hcc26 6 _ rfl; (try simp only [show (k89).sz = 8 from rfl, Nat.mul_one, Nat.add_zero] at LB); have MB := hfr26 6; (try simp only [show (k89).sz = 8 from rfl, Nat.mul_one, Nat.add_zero] at MB); clear hcl26 hcc26 hfr26 hM26) | ((with_reducible refine gate_store (t := 3) (p := 58) rfl ?_); refine store_event (t := 3) (p := 58) (v := ?vo_w27) (w1 := (kB.setCell ⟨go5, (aA : Int).toNat * 8 + 6, none⟩ (.int .i64 (wrap64 ((wrap64 ((wrap64 ((wrap64 ((wrap64 ((wrap64 (fA + 1)) + 1)) + 1)) + 1)) + 1)) + 1))))) ?hg ?ho ?hn ?hr ?_; (case ho => rfl); (case hg => rfl); (case hn => rfl); (case hr => first | (go_simp; done) | (go_simp; rfl)); intro WA hw; have hg : kB.grownBy WA (some go5) := (by rw [hw]; exact HP26.2); have hp_ : Kd.R k89 89 WA w0.heap.size (fun k_ => (P0_ k_ ∨ w.heap.size ≤ k_)) (.slice (some ⟨go5, 0, none⟩) gA.length XA) y112 := (by rw [hw, Ny112.out]; exact HP26.1); clear HP26; have jA := Aside0.mk (hp_); have sA := Aside0.mk ((q1_13 : Below w0.heap.size w0 WA)); have tA := Aside0.mk (Kept.of_grown (S := (fun k_ => P0_ k_)) hg q1_8 (fun k_ e_ => (uA.out.1 k_ e_))); clear uA HB HK; have uA := jA; have HB := sA; have HK := tA; clear jA sA tA; clear hg hw hp_; have p12 : 0 ≤ (aA : Int) := of_decide_eq_true q1_4; have q12 : (aA : Int) < ((gA.length : Int) : Int) := of_decide_eq_true q1_4; obtain ⟨ce12, hcl12, hM12, hcc12, hfr12⟩ := Kd.R_elem uA.out z89 (aA : Int) p12 q12; obtain rfl := k89_openM hM12; have sI : WA.cell? ⟨go5, (aA : Int).toNat * 8, none⟩ = some (.int .i64 ((rd_T89 y112 aA).f0)) := hcc12 0 _ rfl; have tI : WA.cell? ⟨go5, (aA : Int).toNat * 8 + 1, none⟩ = some (.int .i64 ((rd_T89 y112 aA).f1)) := hcc12 1 _ rfl; have uI : WA.cell? ⟨go5, (aA : Int).toNat * 8 + 2, none⟩ = some (.int .i64 ((rd_T89 y112 aA).f2)) := hcc12 2 _ rfl; have vI : WA.cell? ⟨go5, (aA : Int).toNat * 8 + 3, none⟩ = some (.int .i64 ((rd_T89 y112 aA).f3)) := hcc12 3 _ rfl; have wI : WA.cell? ⟨go5, (aA : Int).toNat * 8 + 4, none⟩ = some (.int .i64 ((rd_T89 y112 aA).f4)) := hcc12 4 _ rfl; have xI : WA.cell? ⟨go5, (aA : Int).toNat * 8 + 5, none⟩ = some (.int .i64 ((rd_T89 y112 aA).f5)) := hcc12 5 _ rfl; have yI : WA.cell? ⟨go5, (aA : Int).toNat * 8 + 6, none⟩ = some (.int .i64 ((rd_T89 y112 aA).f6)) := hcc12 6 _ rfl; have zI : WA.cell? ⟨go5, (aA : Int).toNat * 8 + 7, none⟩ = some (.int .i64 ((rd_T89 y112 aA).f7)) := hcc12 7 _ rfl; have AI : WA.frozen? ⟨go5, (aA : Int).toNat * 8, none⟩ = false := hfr12 0; have BI : WA.frozen? ⟨go5, (aA : Int).toNat * 8 + 1, none⟩ = false := hfr12 1; have CI : WA.frozen? ⟨go5, (aA : Int).toNat * 8 + 2, none⟩ = false := hfr12 2; have DI : WA.frozen? ⟨go5, (aA : Int).toNat * 8 + 3, none⟩ = false := hfr12 3; have EI : WA.frozen? ⟨go5, (aA : Int).toNat * 8 + 4, none⟩ = false := hfr12 4; have FI : WA.frozen? ⟨go5, (aA : Int).toNat * 8 + 5, none⟩ = false := hfr12 5; have GI : WA.frozen? ⟨go5, (aA : Int).toNat * 8 + 6, none⟩ = false := hfr12 6; have HI : WA.frozen? ⟨go5, (aA : Int).toNat * 8 + 7, none⟩ = false := hfr12 7; clear hcl12 hcc12 hfr12 hM12; replace p12 := eq_true p12; replace q12 := eq_true q12; have HX28 := Aside0.mk (show Kd.R k89 89 WA w0.heap.size (fun k_ => (P0_ k_ ∨ w.heap.size ≤ k_)) (.slice (some ⟨go5, 0, none⟩) gA.length XA) y112 from q1_10); obtain ⟨ce28, hcl28, hM28, hcc28, hfr28⟩ := Kd.R_elem HX28.out z89 (aA : Int) (of_decide_eq_true q1_4) q1_2; obtain rfl := k89_openM hM28; have HP28 := Kd.R_seg HX28.out (aA : Int) (of_decide_eq_true q1_4) q1_2 (seg := [.int .i64 (wrap64 ((wrap64 ((wrap64 ((wrap64 ((wrap64 ((wrap64 ((wrap64 (fA + 1)) + 1)) + 1)) + 1)) + 1)) + 1)) + 1))]) (j := 7) hcl28 hcc28 (show 8 ≤ 8 from by decide) (x' := (⟨(rd_T89 y112 aA).f0, (rd_T89 y112 aA).f1, (rd_T89 y112 aA).f2, (rd_T89 y112 aA).f3, (rd_T89 y112 aA).f4, (rd_T89 y112 aA).f5, (rd_T89 y112 aA).f6, wrap64 ((wrap64 ((wrap64 ((wrap64 ((wrap64 ((wrap64 ((wrap64 (fA + 1)) + 1)) + 1)) + 1)) + 1)) + 1)) + 1)⟩ : S89)) (k89_mkM _ _ _ (⟨(rd_T89 y112 aA).f0, (rd_T89 y112 aA).f1, (rd_T89 y112 aA).f2, (rd_T89 y112 aA).f3, (rd_T89 y112 aA).f4, (rd_T89 y112 aA).f5, (rd_T89 y112 aA).f6, wrap64 ((wrap64 ((wrap64 ((wrap64 ((wrap64 ((wrap64 ((wrap64 (fA + 1)) + 1)) + 1)) + 1)) + 1)) + 1)) + 1)⟩ : S89) ) (fun _ hk => hk); have NB := hcc28 7 _ rfl; (try simp only [show (k89).sz = 8 from rfl, Nat.mul_one, Nat.add_zero] at NB); have OB := hfr28 7; (try simp only [show (k89).sz = 8 from rfl, Nat.mul_one, Nat.add_zero] at OB); clear hcl28 hcc28 hfr28 hM28) | ((with_reducible refine gate_store (t := 3) (p := 65) rfl ?_); refine store_event (t := 3) (p := 65) (v := ?vo_w29) (w1 := (WA.setCell ⟨go5, (aA : Int).toNat * 8 + 7, none⟩ (.int .i64 (wrap64 ((wrap64 ((wrap64 ((wrap64 ((wrap64 ((wrap64 ((wrap64 (fA + 1)) + 1)) + 1)) + 1)) + 1)) + 1)) + 1))))) ?hg ?ho ?hn ?hr ?_; (case ho => rfl); (case hg => rfl); (case hn => rfl); (case hr => first | (go_simp; done) | (go_simp; rfl)); intro II hw; have hg : WA.grownBy II (some go5) := (by rw [hw]; exact HP28.2); have hp_ : Kd.R k89 89 II w0.heap.size (fun k_ => (P0_ k_ ∨ w.heap.size ≤ k_)) (.slice (some ⟨go5, 0, none⟩) gA.length XA) y113 := (by rw [hw, Ny113.out]; exact HP28.1); clear HP28; have jA := Aside0.mk (hp_); have sA := Aside0.mk ((q1_13 : Below w0.heap.size w0 II)); have tA := Aside0.mk (Kept.of_grown (S := (fun k_ => P0_ k_)) hg q1_8 (fun k_ e_ => (uA.out.1 k_ e_))); clear uA HB HK; have uA := jA; have HB := sA; have HK := tA; clear jA sA tA; clear hg hw hp_))
     go_roundg k1
     case measure => have := HK1.out; omega
     case rel => exact ⟨(y113), (wrap64 ((wrap64 ((wrap64 ((wrap64 ((wrap64 ((wrap64 ((wrap64 ((wrap64 (fA + 1)) + 1)) + 1)) + 1)) + 1)) + 1)) + 1)) + 1)), (wrap64 (aA + 1)), q1_14, q1_14, H', ⟨by have := HK1.out; omega⟩, ⟨q1_10⟩, ⟨q1_8⟩, ⟨q1_0⟩⟩
    ·rw [if_neg c4] at H
     exact absurd H (by simp)
   ·rw [if_neg c3] at H
    have sB : decide (aA < (gA.length : Int)) = false := decide_eq_false c3
    clear c3
    simp only [Option.some.injEq, Prod.mk.injEq] at H
    obtain ⟨rfl, rfl⟩ := H
    obtain ⟨LK, MK, JI⟩ := Kd.R_slice uA.out
    subst JI
    go_wp2
    go_ret
    exact ⟨q1_9, q1_10, q1_0, q1_8⟩

end Go.Proofs.Ytgghglocfdcegaa.PFnExactInTime
