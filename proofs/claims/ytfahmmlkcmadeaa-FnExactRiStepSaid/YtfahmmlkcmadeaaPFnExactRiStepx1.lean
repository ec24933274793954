-- Written by the session's own patched copy of the printer (wip/patch_print.py).
import Derived.Test.YtfahmmlkcmadeaaPFnExactRiStepx0
namespace Go.Proofs.Ytfahmmlkcmadeaa.PFnExactRiStep
open Go.RowKit Go.Proofs.YtfahmmlkcmadeaaW.PrintWords Go.Proofs.YtfahmmlkcmadeaaW.PrintLast Go.Proofs.YtfahmmlkcmadeaaW.PrintMore
attribute [local go_sem] max2_int min2_int max_two min_two max_three min_three max_four min_four   -- for this text's walks alone
set_option linter.unusedVariables false
set_option linter.unusedSimpArgs false

theorem q1_0 {p : Prop} (h : p := by repeat (first | (with_reducible first | exact HB.out | apply below_alloc | apply pw_below_drewN | apply below_drew1) | exact HB.out)) : p := h
theorem q1_1 {p : Prop} (h : p := by repeat (first | (with_reducible first | exact HB.out | apply below_alloc | apply pw_below_drewN | apply below_drew1 | refine below_set ?_ UA.out) | exact HB.out)) : p := h
theorem q1_2 {p : Prop} (h : p := by (with_reducible repeat (first | refine blk_drewN ?_ _ | refine blk_drew ?_ | refine blk_alloc ?_ _)); exact aA.out) : p := h
theorem q1_3 {p : Prop} (h : p := by rw [hg]; exact Nat.ne_of_lt (blk_lt (g := cA) (o := .cells #[.int .i64 iA, .int .i64 jA, .int .i64 kA, .int .i64 lA, .int .i64 mA, .int .i64 nA, .int .i64 oA, .int .i64 qA, .int .i64 rA, .bool pA] 23 (0, 0)) q1_2)) : p := h
theorem q1_4 {p : Prop} (h : p := by rw [hg]; exact Nat.ne_of_gt (blk_lt (g := cA) (o := .cells #[.int .i64 iA, .int .i64 jA, .int .i64 kA, .int .i64 lA, .int .i64 mA, .int .i64 nA, .int .i64 oA, .int .i64 qA, .int .i64 rA, .bool pA] 23 (0, 0)) q1_2)) : p := h
theorem q1_5 {p : Prop} (h : p := by repeat (first | (with_reducible first | exact HB.out | apply below_alloc | apply pw_below_drewN | apply below_drew1 | refine below_set ?_ UA.out | refine below_set ?_ WA.out) | exact HB.out)) : p := h
theorem q1_6 {p : Prop} (h : p := by first | rfl | (simp [errW_none, errW_some] <;> rfl) | (simp [*, errW_none, errW_some] <;> rfl)) : p := h
theorem q1_7 {p : Prop} (h : p := by rw [hg]; exact (below_size q1_0)) : p := h
theorem q1_8 {p : Prop} (h : p := by first | (with_reducible assumption) | assumption) : p := h
theorem q1_9 {p : Prop} (h : p := by repeat (first | exact (Kd.C_below VB.out HB.out) | (with_reducible refine Kd.C_alloc ?_ _) | (with_reducible refine Kd.C_drewN ?_ _) | (with_reducible refine Kd.C_drew ?_))) : p := h
theorem q1_10 {p : Prop} (h : p := by (try simp only [List.map_toArray, List.map_cons, List.map_nil]); first | done | rfl | (simp only [List.length_drop, List.length_take]; rfl)) : p := h
theorem q1_11 {p : Prop} (h : p := by repeat (first | (with_reducible first | exact HB.out | apply below_alloc | apply pw_below_drewN | apply below_drew1 | refine below_set ?_ OB.out) | exact HB.out)) : p := h
theorem q1_12 {p : Prop} (h : p := by first | rfl | (simp; done) | (simp [*]; done)) : p := h
theorem q1_13 {p : Prop} (h : p := by rw [hg]; exact (below_size q1_1)) : p := h
theorem q1_14 {p : Prop} (h : p := by (with_reducible repeat (first | refine blk_drewN ?_ _ | refine blk_drew ?_ | refine blk_alloc ?_ _)); exact aB.out) : p := h
theorem q1_15 {p : Prop} (h : p := by (with_reducible repeat (first | refine blk_drewN ?_ _ | refine blk_drew ?_ | refine blk_alloc ?_ _)); exact wA.out) : p := h
theorem q1_16 {p : Prop} (h : p := by repeat (first | exact Drawn0.refl _ | apply Drawn0.step)) : p := h
theorem q1_17 {p : Prop} (h : p := by repeat (first | (with_reducible first | exact HK.out | apply Kept.alloc | apply Kept.drewN | apply Kept.drew) | exact HK.out)) : p := h
theorem q1_18 {p : Prop} (h : p := by repeat (first | (with_reducible first | exact HB.out | apply below_alloc | apply pw_below_drewN | apply below_drew1 | refine below_set ?_ WB.out | refine below_set ?_ mC.out) | exact HB.out)) : p := h
theorem q1_19 {p : Prop} (h : p := by repeat (first | (with_reducible first | exact HB.out | apply below_alloc | apply pw_below_drewN | apply below_drew1 | refine below_set ?_ WB.out) | exact HB.out)) : p := h
theorem q1_20 {p : Prop} (h : p := by rw [hg]; exact Nat.ne_of_lt (blk_lt (g := LA) (o := .cells #[.int .i64 iA, .int .i64 jA, .int .i64 kA, .int .i64 lA, .int .i64 mA, .int .i64 nA, .int .i64 oA, .int .i64 qA, .int .i64 rA, .bool pA] 35 (0, 0)) q1_15)) : p := h
theorem q1_21 {p : Prop} (h : p := by rw [hg]; exact Nat.ne_of_gt (blk_lt (g := LA) (o := .cells #[.int .i64 iA, .int .i64 jA, .int .i64 kA, .int .i64 lA, .int .i64 mA, .int .i64 nA, .int .i64 oA, .int .i64 qA, .int .i64 rA, .bool pA] 35 (0, 0)) q1_15)) : p := h
theorem q1_22 {p : Prop} (h : p := by (with_reducible repeat (first | refine blk_drewN ?_ _ | refine blk_drew ?_ | refine blk_alloc ?_ _)); exact xA.out) : p := h
/-! ### laws_eqCall: function 17 -/
def laws_eqCall.f (iA : Int) (jA : Int) (kA : Int) (lA : Int) (mA : Int) (nA : Int) (oA : Int) (qA : Int) (rA : Int) (pA : Bool) (zA : Int) (AA : Int) (BA : Int) (CA : Int) (DA : Int) (EA : Int) (FA : Int) (GA : Int) (IA : Int) (yA : Bool) : Option (Bool) := if iA = zA then (if jA = AA then (if kA = BA then (if lA = CA then (if mA = DA then (if nA = EA then (if oA = FA then (if qA = GA then (if rA = IA then (if (pA != yA) = true then (some false) else (some true)) else (some false)) else (some false)) else (some false)) else (some false)) else (some false)) else (some false)) else (some false)) else (some false)) else (some false)
set_option maxHeartbeats 8000000 in
set_option maxRecDepth 100000 in
theorem laws_eqCall.calls (iA : Int) (jA : Int) (kA : Int) (lA : Int) (mA : Int) (nA : Int) (oA : Int) (qA : Int) (rA : Int) (pA : Bool) (zA : Int) (AA : Int) (BA : Int) (CA : Int) (DA : Int) (EA : Int) (FA : Int) (GA : Int) (IA : Int) (yA : Bool) (r : Bool) (w : World) (h : laws_eqCall.f iA jA kA lA mA nA oA qA rA pA zA AA BA CA DA EA FA GA IA yA = some r) :
  Calls Try.prog 17 #[.agg #[.int .i64 iA, .int .i64 jA, .int .i64 kA, .int .i64 lA, .int .i64 mA, .int .i64 nA, .int .i64 oA, .int .i64 qA, .int .i64 rA, .bool pA], .agg #[.int .i64 zA, .int .i64 AA, .int .i64 BA, .int .i64 CA, .int .i64 DA, .int .i64 EA, .int .i64 FA, .int .i64 GA, .int .i64 IA, .bool yA]] w fun e w' => e = .returned (.bool r) ∧ Below w.heap.size w w' := by
 have hu23 := Try.underlying23
 have HB := Aside0.mk (Below.refl w.heap.size w)
 have H : (if iA = zA then (if jA = AA then (if kA = BA then (if lA = CA then (if mA = DA then (if nA = EA then (if oA = FA then (if qA = GA then (if rA = IA then (if (pA != yA) = true then (some false) else (some true)) else (some false)) else (some false)) else (some false)) else (some false)) else (some false)) else (some false)) else (some false)) else (some false)) else (some false)) = some r := h
 clear h
 by_cases c3 : iA = zA
 ·rw [if_pos c3] at H
  have jB : (iA == zA) = true := beq_iff_eq.mpr c3
  have PB : (iA != zA) = false := bne_eq_false_iff_eq.mpr c3
  clear c3
  by_cases c4 : jA = AA
  ·rw [if_pos c4] at H
   have CB : (jA == AA) = true := beq_iff_eq.mpr c4
   have QL : (jA != AA) = false := bne_eq_false_iff_eq.mpr c4
   clear c4
   by_cases c5 : kA = BA
   ·rw [if_pos c5] at H
    have gC : (kA == BA) = true := beq_iff_eq.mpr c5
    have tC : (kA != BA) = false := bne_eq_false_iff_eq.mpr c5
    clear c5
    by_cases c6 : lA = CA
    ·rw [if_pos c6] at H
     have hC : (lA == CA) = true := beq_iff_eq.mpr c6
     have RL : (lA != CA) = false := bne_eq_false_iff_eq.mpr c6
     clear c6
     by_cases c7 : mA = DA
     ·rw [if_pos c7] at H
      have iC : (mA == DA) = true := beq_iff_eq.mpr c7
      have uC : (mA != DA) = false := bne_eq_false_iff_eq.mpr c7
      clear c7
      by_cases c8 : nA = EA
      ·rw [if_pos c8] at H
       have BC : (nA == EA) = true := beq_iff_eq.mpr c8
       have SL : (nA != EA) = false := bne_eq_false_iff_eq.mpr c8
       clear c8
       by_cases c9 : oA = FA
       ·rw [if_pos c9] at H
        have TL : (oA == FA) = true := beq_iff_eq.mpr c9
        have UL : (oA != FA) = false := bne_eq_false_iff_eq.mpr c9
        clear c9
        by_cases c10 : qA = GA
        ·rw [if_pos c10] at H
         have CC : (qA == GA) = true := beq_iff_eq.mpr c10
         have DC : (qA != GA) = false := bne_eq_false_iff_eq.mpr c10
         clear c10
         by_cases c11 : rA = IA
         ·rw [if_pos c11] at H
          have EC : (rA == IA) = true := beq_iff_eq.mpr c11
          have FC : (rA != IA) = false := bne_eq_false_iff_eq.mpr c11
          clear c11
          by_cases c12 : (pA != yA) = true
          ·rw [if_pos c12] at H
           have GC : (pA != yA) = true := c12
           (try (have HC : decide (pA = yA) = false := by simpa using c12))
           (try (have IC : (pA == yA) = false := by simpa using c12))
           (try (have NM : ¬ (pA = yA) := by simpa using c12))
           clear c12
           obtain rfl := Option.some.inj H
           go_enter Try.func17, Try.ntmps17
           go_wp2_with (first | ((with_reducible refine gate_dst (N := 2) rfl ?_); refine box_event ?hg (N := 2) ?hd (cs := #[.int .i64 iA, .int .i64 jA, .int .i64 kA, .int .i64 lA, .int .i64 mA, .int .i64 nA, .int .i64 oA, .int .i64 qA, .int .i64 rA, .bool pA]) (t := 23) ?hr ?_; (case hd => rfl); (case hg => rfl); (case hr => first | (go_simp; done) | (go_simp; rfl)); intro cA hg MN hbox hb; have sA := Aside0.mk (below_step q1_0 hb); have tA := Aside0.mk (hbox); have uA := Aside0.mk ((q1_7 : w.heap.size ≤ cA)); have vA := Aside0.mk ((q1_7 : w.heap.size ≤ cA)); clear HB; have HB := sA; have aA := tA; have bB := uA; have UA := vA; clear sA tA uA vA; clear hb hbox hg) | ((with_reducible refine gate_dst (N := 3) rfl ?_); refine box_event ?hg (N := 3) ?hd (cs := #[.int .i64 zA, .int .i64 AA, .int .i64 BA, .int .i64 CA, .int .i64 DA, .int .i64 EA, .int .i64 FA, .int .i64 GA, .int .i64 IA, .bool yA]) (t := 23) ?hr ?_; (case hd => rfl); (case hg => rfl); (case hr => first | (go_simp; done) | (go_simp; rfl)); intro dA hg pB hbox hb; have sA := Aside0.mk (blk_below (g := cA) (o := .cells #[.int .i64 iA, .int .i64 jA, .int .i64 kA, .int .i64 lA, .int .i64 mA, .int .i64 nA, .int .i64 oA, .int .i64 qA, .int .i64 rA, .bool pA] 23 (0, 0)) q1_2 hb); have tA := Aside0.mk (below_step q1_1 hb); have uA := Aside0.mk (hbox); have vA := Aside0.mk ((q1_13 : w.heap.size ≤ dA)); have RA := Aside0.mk ((q1_13 : w.heap.size ≤ dA)); have SA := Aside0.mk ((q1_3 : cA ≠ dA)); have TA := Aside0.mk ((q1_4 : dA ≠ cA)); clear aA HB; have aA := sA; have HB := tA; have bA := uA; have cB := vA; have WA := RA; have eA := SA; have fA := TA; clear sA tA uA vA RA SA TA; clear hb hbox hg; have OM := eA.out; have PM := fA.out; have SC : pB.cell? ⟨cA, 0, none⟩ = some (.int .i64 iA) := (blk_cell aA.out 0).trans rfl; have TC : pB.cell? ⟨cA, 1, none⟩ = some (.int .i64 jA) := (blk_cell aA.out 1).trans rfl; have UC : pB.cell? ⟨cA, 2, none⟩ = some (.int .i64 kA) := (blk_cell aA.out 2).trans rfl; have VC : pB.cell? ⟨cA, 3, none⟩ = some (.int .i64 lA) := (blk_cell aA.out 3).trans rfl; have WC : pB.cell? ⟨cA, 4, none⟩ = some (.int .i64 mA) := (blk_cell aA.out 4).trans rfl; have XC : pB.cell? ⟨cA, 5, none⟩ = some (.int .i64 nA) := (blk_cell aA.out 5).trans rfl; have YC : pB.cell? ⟨cA, 6, none⟩ = some (.int .i64 oA) := (blk_cell aA.out 6).trans rfl; have ZC : pB.cell? ⟨cA, 7, none⟩ = some (.int .i64 qA) := (blk_cell aA.out 7).trans rfl; have aD : pB.cell? ⟨cA, 8, none⟩ = some (.int .i64 rA) := (blk_cell aA.out 8).trans rfl; have bD : pB.cell? ⟨cA, 9, none⟩ = some (.bool pA) := (blk_cell aA.out 9).trans rfl; have cD := blk_frozen aA.out 0; have dD := blk_frozen aA.out 1; have eD := blk_frozen aA.out 2; have fD := blk_frozen aA.out 3; have gD := blk_frozen aA.out 4; have hD := blk_frozen aA.out 5; have iD := blk_frozen aA.out 6; have jD := blk_frozen aA.out 7; have kD := blk_frozen aA.out 8; have lD := blk_frozen aA.out 9; have mD : pB.cell? ⟨dA, 0, none⟩ = some (.int .i64 zA) := (blk_cell bA.out 0).trans rfl; have nD : pB.cell? ⟨dA, 1, none⟩ = some (.int .i64 AA) := (blk_cell bA.out 1).trans rfl; have oD : pB.cell? ⟨dA, 2, none⟩ = some (.int .i64 BA) := (blk_cell bA.out 2).trans rfl; have pD : pB.cell? ⟨dA, 3, none⟩ = some (.int .i64 CA) := (blk_cell bA.out 3).trans rfl; have qD : pB.cell? ⟨dA, 4, none⟩ = some (.int .i64 DA) := (blk_cell bA.out 4).trans rfl; have rD : pB.cell? ⟨dA, 5, none⟩ = some (.int .i64 EA) := (blk_cell bA.out 5).trans rfl; have sD : pB.cell? ⟨dA, 6, none⟩ = some (.int .i64 FA) := (blk_cell bA.out 6).trans rfl; have tD : pB.cell? ⟨dA, 7, none⟩ = some (.int .i64 GA) := (blk_cell bA.out 7).trans rfl; have uD : pB.cell? ⟨dA, 8, none⟩ = some (.int .i64 IA) := (blk_cell bA.out 8).trans rfl; have vD : pB.cell? ⟨dA, 9, none⟩ = some (.bool yA) := (blk_cell bA.out 9).trans rfl; have wD := blk_frozen bA.out 0; have xD := blk_frozen bA.out 1; have yD := blk_frozen bA.out 2; have zD := blk_frozen bA.out 3; have AD := blk_frozen bA.out 4; have BD := blk_frozen bA.out 5; have CD := blk_frozen bA.out 6; have DD := blk_frozen bA.out 7; have ED := blk_frozen bA.out 8; have FD := blk_frozen bA.out 9))
           go_ret
           exact ⟨q1_6, q1_5⟩
          ·rw [if_neg c12] at H
           have GC : (pA != yA) = false := by simpa using c12
           (try (have HC : decide (pA = yA) = true := by simpa using c12))
           (try (have IC : (pA == yA) = true := by simpa using c12))
           clear c12
           obtain rfl := Option.some.inj H
           go_enter Try.func17, Try.ntmps17
           go_wp2_with (first | ((with_reducible refine gate_dst (N := 2) rfl ?_); refine box_event ?hg (N := 2) ?hd (cs := #[.int .i64 iA, .int .i64 jA, .int .i64 kA, .int .i64 lA, .int .i64 mA, .int .i64 nA, .int .i64 oA, .int .i64 qA, .int .i64 rA, .bool pA]) (t := 23) ?hr ?_; (case hd => rfl); (case hg => rfl); (case hr => first | (go_simp; done) | (go_simp; rfl)); intro cA hg NN hbox hb; have sA := Aside0.mk (below_step q1_0 hb); have tA := Aside0.mk (hbox); have uA := Aside0.mk ((q1_7 : w.heap.size ≤ cA)); have vA := Aside0.mk ((q1_7 : w.heap.size ≤ cA)); clear HB; have HB := sA; have aA := tA; have bB := uA; have UA := vA; clear sA tA uA vA; clear hb hbox hg) | ((with_reducible refine gate_dst (N := 3) rfl ?_); refine box_event ?hg (N := 3) ?hd (cs := #[.int .i64 zA, .int .i64 AA, .int .i64 BA, .int .i64 CA, .int .i64 DA, .int .i64 EA, .int .i64 FA, .int .i64 GA, .int .i64 IA, .bool yA]) (t := 23) ?hr ?_; (case hd => rfl); (case hg => rfl); (case hr => first | (go_simp; done) | (go_simp; rfl)); intro dA hg qB hbox hb; have sA := Aside0.mk (blk_below (g := cA) (o := .cells #[.int .i64 iA, .int .i64 jA, .int .i64 kA, .int .i64 lA, .int .i64 mA, .int .i64 nA, .int .i64 oA, .int .i64 qA, .int .i64 rA, .bool pA] 23 (0, 0)) q1_2 hb); have tA := Aside0.mk (below_step q1_1 hb); have uA := Aside0.mk (hbox); have vA := Aside0.mk ((q1_13 : w.heap.size ≤ dA)); have RA := Aside0.mk ((q1_13 : w.heap.size ≤ dA)); have SA := Aside0.mk ((q1_3 : cA ≠ dA)); have TA := Aside0.mk ((q1_4 : dA ≠ cA)); clear aA HB; have aA := sA; have HB := tA; have bA := uA; have cB := vA; have WA := RA; have eA := SA; have fA := TA; clear sA tA uA vA RA SA TA; clear hb hbox hg; have QM := eA.out; have RM := fA.out; have GD : qB.cell? ⟨cA, 0, none⟩ = some (.int .i64 iA) := (blk_cell aA.out 0).trans rfl; have HD : qB.cell? ⟨cA, 1, none⟩ = some (.int .i64 jA) := (blk_cell aA.out 1).trans rfl; have ID : qB.cell? ⟨cA, 2, none⟩ = some (.int .i64 kA) := (blk_cell aA.out 2).trans rfl; have JD : qB.cell? ⟨cA, 3, none⟩ = some (.int .i64 lA) := (blk_cell aA.out 3).trans rfl; have KD : qB.cell? ⟨cA, 4, none⟩ = some (.int .i64 mA) := (blk_cell aA.out 4).trans rfl; have LD : qB.cell? ⟨cA, 5, none⟩ = some (.int .i64 nA) := (blk_cell aA.out 5).trans rfl; have MD : qB.cell? ⟨cA, 6, none⟩ = some (.int .i64 oA) := (blk_cell aA.out 6).trans rfl; have ND : qB.cell? ⟨cA, 7, none⟩ = some (.int .i64 qA) := (blk_cell aA.out 7).trans rfl; have OD : qB.cell? ⟨cA, 8, none⟩ = some (.int .i64 rA) := (blk_cell aA.out 8).trans rfl; have PD : qB.cell? ⟨cA, 9, none⟩ = some (.bool pA) := (blk_cell aA.out 9).trans rfl; have QD := blk_frozen aA.out 0; have RD := blk_frozen aA.out 1; have SD := blk_frozen aA.out 2; have TD := blk_frozen aA.out 3; have UD := blk_frozen aA.out 4; have VD := blk_frozen aA.out 5; have WD := blk_frozen aA.out 6; have XD := blk_frozen aA.out 7; have YD := blk_frozen aA.out 8; have ZD := blk_frozen aA.out 9; have aE : qB.cell? ⟨dA, 0, none⟩ = some (.int .i64 zA) := (blk_cell bA.out 0).trans rfl; have bE : qB.cell? ⟨dA, 1, none⟩ = some (.int .i64 AA) := (blk_cell bA.out 1).trans rfl; have cE : qB.cell? ⟨dA, 2, none⟩ = some (.int .i64 BA) := (blk_cell bA.out 2).trans rfl; have dE : qB.cell? ⟨dA, 3, none⟩ = some (.int .i64 CA) := (blk_cell bA.out 3).trans rfl; have eE : qB.cell? ⟨dA, 4, none⟩ = some (.int .i64 DA) := (blk_cell bA.out 4).trans rfl; have fE : qB.cell? ⟨dA, 5, none⟩ = some (.int .i64 EA) := (blk_cell bA.out 5).trans rfl; have gE : qB.cell? ⟨dA, 6, none⟩ = some (.int .i64 FA) := (blk_cell bA.out 6).trans rfl; have hE : qB.cell? ⟨dA, 7, none⟩ = some (.int .i64 GA) := (blk_cell bA.out 7).trans rfl; have iE : qB.cell? ⟨dA, 8, none⟩ = some (.int .i64 IA) := (blk_cell bA.out 8).trans rfl; have jE : qB.cell? ⟨dA, 9, none⟩ = some (.bool yA) := (blk_cell bA.out 9).trans rfl; have kE := blk_frozen bA.out 0; have lE := blk_frozen bA.out 1; have mE := blk_frozen bA.out 2; have nE := blk_frozen bA.out 3; have oE := blk_frozen bA.out 4; have pE := blk_frozen bA.out 5; have qE := blk_frozen bA.out 6; have rE := blk_frozen bA.out 7; have sE := blk_frozen bA.out 8; have tE := blk_frozen bA.out 9))
           go_ret
           exact ⟨q1_6, q1_5⟩
         ·rw [if_neg c11] at H
          have EC : (rA == IA) = false := beq_eq_false_iff_ne.mpr c11
          have FC : (rA != IA) = true := bne_iff_ne.mpr c11
          obtain rfl := Option.some.inj H
          go_enter Try.func17, Try.ntmps17
          go_wp2_with (first | ((with_reducible refine gate_dst (N := 2) rfl ?_); refine box_event ?hg (N := 2) ?hd (cs := #[.int .i64 iA, .int .i64 jA, .int .i64 kA, .int .i64 lA, .int .i64 mA, .int .i64 nA, .int .i64 oA, .int .i64 qA, .int .i64 rA, .bool pA]) (t := 23) ?hr ?_; (case hd => rfl); (case hg => rfl); (case hr => first | (go_simp; done) | (go_simp; rfl)); intro cA hg ON hbox hb; have sA := Aside0.mk (below_step q1_0 hb); have tA := Aside0.mk (hbox); have uA := Aside0.mk ((q1_7 : w.heap.size ≤ cA)); have vA := Aside0.mk ((q1_7 : w.heap.size ≤ cA)); clear HB; have HB := sA; have aA := tA; have bB := uA; have UA := vA; clear sA tA uA vA; clear hb hbox hg) | ((with_reducible refine gate_dst (N := 3) rfl ?_); refine box_event ?hg (N := 3) ?hd (cs := #[.int .i64 zA, .int .i64 AA, .int .i64 BA, .int .i64 CA, .int .i64 DA, .int .i64 EA, .int .i64 FA, .int .i64 GA, .int .i64 IA, .bool yA]) (t := 23) ?hr ?_; (case hd => rfl); (case hg => rfl); (case hr => first | (go_simp; done) | (go_simp; rfl)); intro dA hg rB hbox hb; have sA := Aside0.mk (blk_below (g := cA) (o := .cells #[.int .i64 iA, .int .i64 jA, .int .i64 kA, .int .i64 lA, .int .i64 mA, .int .i64 nA, .int .i64 oA, .int .i64 qA, .int .i64 rA, .bool pA] 23 (0, 0)) q1_2 hb); have tA := Aside0.mk (below_step q1_1 hb); have uA := Aside0.mk (hbox); have vA := Aside0.mk ((q1_13 : w.heap.size ≤ dA)); have RA := Aside0.mk ((q1_13 : w.heap.size ≤ dA)); have SA := Aside0.mk ((q1_3 : cA ≠ dA)); have TA := Aside0.mk ((q1_4 : dA ≠ cA)); clear aA HB; have aA := sA; have HB := tA; have bA := uA; have cB := vA; have WA := RA; have eA := SA; have fA := TA; clear sA tA uA vA RA SA TA; clear hb hbox hg; have SM := eA.out; have TM := fA.out; have uE : rB.cell? ⟨cA, 0, none⟩ = some (.int .i64 iA) := (blk_cell aA.out 0).trans rfl; have vE : rB.cell? ⟨cA, 1, none⟩ = some (.int .i64 jA) := (blk_cell aA.out 1).trans rfl; have wE : rB.cell? ⟨cA, 2, none⟩ = some (.int .i64 kA) := (blk_cell aA.out 2).trans rfl; have xE : rB.cell? ⟨cA, 3, none⟩ = some (.int .i64 lA) := (blk_cell aA.out 3).trans rfl; have yE : rB.cell? ⟨cA, 4, none⟩ = some (.int .i64 mA) := (blk_cell aA.out 4).trans rfl; have zE : rB.cell? ⟨cA, 5, none⟩ = some (.int .i64 nA) := (blk_cell aA.out 5).trans rfl; have AE : rB.cell? ⟨cA, 6, none⟩ = some (.int .i64 oA) := (blk_cell aA.out 6).trans rfl; have BE : rB.cell? ⟨cA, 7, none⟩ = some (.int .i64 qA) := (blk_cell aA.out 7).trans rfl; have CE : rB.cell? ⟨cA, 8, none⟩ = some (.int .i64 rA) := (blk_cell aA.out 8).trans rfl; have DE : rB.cell? ⟨cA, 9, none⟩ = some (.bool pA) := (blk_cell aA.out 9).trans rfl; have EE := blk_frozen aA.out 0; have FE := blk_frozen aA.out 1; have GE := blk_frozen aA.out 2; have HE := blk_frozen aA.out 3; have IE := blk_frozen aA.out 4; have JE := blk_frozen aA.out 5; have KE := blk_frozen aA.out 6; have LE := blk_frozen aA.out 7; have ME := blk_frozen aA.out 8; have NE := blk_frozen aA.out 9; have OE : rB.cell? ⟨dA, 0, none⟩ = some (.int .i64 zA) := (blk_cell bA.out 0).trans rfl; have PE : rB.cell? ⟨dA, 1, none⟩ = some (.int .i64 AA) := (blk_cell bA.out 1).trans rfl; have QE : rB.cell? ⟨dA, 2, none⟩ = some (.int .i64 BA) := (blk_cell bA.out 2).trans rfl; have RE : rB.cell? ⟨dA, 3, none⟩ = some (.int .i64 CA) := (blk_cell bA.out 3).trans rfl; have SE : rB.cell? ⟨dA, 4, none⟩ = some (.int .i64 DA) := (blk_cell bA.out 4).trans rfl; have TE : rB.cell? ⟨dA, 5, none⟩ = some (.int .i64 EA) := (blk_cell bA.out 5).trans rfl; have UE : rB.cell? ⟨dA, 6, none⟩ = some (.int .i64 FA) := (blk_cell bA.out 6).trans rfl; have VE : rB.cell? ⟨dA, 7, none⟩ = some (.int .i64 GA) := (blk_cell bA.out 7).trans rfl; have WE : rB.cell? ⟨dA, 8, none⟩ = some (.int .i64 IA) := (blk_cell bA.out 8).trans rfl; have XE : rB.cell? ⟨dA, 9, none⟩ = some (.bool yA) := (blk_cell bA.out 9).trans rfl; have YE := blk_frozen bA.out 0; have ZE := blk_frozen bA.out 1; have aF := blk_frozen bA.out 2; have bF := blk_frozen bA.out 3; have cF := blk_frozen bA.out 4; have dF := blk_frozen bA.out 5; have eF := blk_frozen bA.out 6; have fF := blk_frozen bA.out 7; have gF := blk_frozen bA.out 8; have hF := blk_frozen bA.out 9))
          go_ret
          exact ⟨q1_6, q1_5⟩
        ·rw [if_neg c10] at H
         have CC : (qA == GA) = false := beq_eq_false_iff_ne.mpr c10
         have DC : (qA != GA) = true := bne_iff_ne.mpr c10
         obtain rfl := Option.some.inj H
         go_enter Try.func17, Try.ntmps17
         go_wp2_with (first | ((with_reducible refine gate_dst (N := 2) rfl ?_); refine box_event ?hg (N := 2) ?hd (cs := #[.int .i64 iA, .int .i64 jA, .int .i64 kA, .int .i64 lA, .int .i64 mA, .int .i64 nA, .int .i64 oA, .int .i64 qA, .int .i64 rA, .bool pA]) (t := 23) ?hr ?_; (case hd => rfl); (case hg => rfl); (case hr => first | (go_simp; done) | (go_simp; rfl)); intro cA hg PN hbox hb; have sA := Aside0.mk (below_step q1_0 hb); have tA := Aside0.mk (hbox); have uA := Aside0.mk ((q1_7 : w.heap.size ≤ cA)); have vA := Aside0.mk ((q1_7 : w.heap.size ≤ cA)); clear HB; have HB := sA; have aA := tA; have bB := uA; have UA := vA; clear sA tA uA vA; clear hb hbox hg) | ((with_reducible refine gate_dst (N := 3) rfl ?_); refine box_event ?hg (N := 3) ?hd (cs := #[.int .i64 zA, .int .i64 AA, .int .i64 BA, .int .i64 CA, .int .i64 DA, .int .i64 EA, .int .i64 FA, .int .i64 GA, .int .i64 IA, .bool yA]) (t := 23) ?hr ?_; (case hd => rfl); (case hg => rfl); (case hr => first | (go_simp; done) | (go_simp; rfl)); intro dA hg sB hbox hb; have sA := Aside0.mk (blk_below (g := cA) (o := .cells #[.int .i64 iA, .int .i64 jA, .int .i64 kA, .int .i64 lA, .int .i64 mA, .int .i64 nA, .int .i64 oA, .int .i64 qA, .int .i64 rA, .bool pA] 23 (0, 0)) q1_2 hb); have tA := Aside0.mk (below_step q1_1 hb); have uA := Aside0.mk (hbox); have vA := Aside0.mk ((q1_13 : w.heap.size ≤ dA)); have RA := Aside0.mk ((q1_13 : w.heap.size ≤ dA)); have SA := Aside0.mk ((q1_3 : cA ≠ dA)); have TA := Aside0.mk ((q1_4 : dA ≠ cA)); clear aA HB; have aA := sA; have HB := tA; have bA := uA; have cB := vA; have WA := RA; have eA := SA; have fA := TA; clear sA tA uA vA RA SA TA; clear hb hbox hg; have UM := eA.out; have VM := fA.out; have iF : sB.cell? ⟨cA, 0, none⟩ = some (.int .i64 iA) := (blk_cell aA.out 0).trans rfl; have jF : sB.cell? ⟨cA, 1, none⟩ = some (.int .i64 jA) := (blk_cell aA.out 1).trans rfl; have kF : sB.cell? ⟨cA, 2, none⟩ = some (.int .i64 kA) := (blk_cell aA.out 2).trans rfl; have lF : sB.cell? ⟨cA, 3, none⟩ = some (.int .i64 lA) := (blk_cell aA.out 3).trans rfl; have mF : sB.cell? ⟨cA, 4, none⟩ = some (.int .i64 mA) := (blk_cell aA.out 4).trans rfl; have nF : sB.cell? ⟨cA, 5, none⟩ = some (.int .i64 nA) := (blk_cell aA.out 5).trans rfl; have oF : sB.cell? ⟨cA, 6, none⟩ = some (.int .i64 oA) := (blk_cell aA.out 6).trans rfl; have pF : sB.cell? ⟨cA, 7, none⟩ = some (.int .i64 qA) := (blk_cell aA.out 7).trans rfl; have qF : sB.cell? ⟨cA, 8, none⟩ = some (.int .i64 rA) := (blk_cell aA.out 8).trans rfl; have rF : sB.cell? ⟨cA, 9, none⟩ = some (.bool pA) := (blk_cell aA.out 9).trans rfl; have sF := blk_frozen aA.out 0; have tF := blk_frozen aA.out 1; have uF := blk_frozen aA.out 2; have vF := blk_frozen aA.out 3; have wF := blk_frozen aA.out 4; have xF := blk_frozen aA.out 5; have yF := blk_frozen aA.out 6; have zF := blk_frozen aA.out 7; have AF := blk_frozen aA.out 8; have BF := blk_frozen aA.out 9; have CF : sB.cell? ⟨dA, 0, none⟩ = some (.int .i64 zA) := (blk_cell bA.out 0).trans rfl; have DF : sB.cell? ⟨dA, 1, none⟩ = some (.int .i64 AA) := (blk_cell bA.out 1).trans rfl; have EF : sB.cell? ⟨dA, 2, none⟩ = some (.int .i64 BA) := (blk_cell bA.out 2).trans rfl; have FF : sB.cell? ⟨dA, 3, none⟩ = some (.int .i64 CA) := (blk_cell bA.out 3).trans rfl; have GF : sB.cell? ⟨dA, 4, none⟩ = some (.int .i64 DA) := (blk_cell bA.out 4).trans rfl; have HF : sB.cell? ⟨dA, 5, none⟩ = some (.int .i64 EA) := (blk_cell bA.out 5).trans rfl; have IF : sB.cell? ⟨dA, 6, none⟩ = some (.int .i64 FA) := (blk_cell bA.out 6).trans rfl; have JF : sB.cell? ⟨dA, 7, none⟩ = some (.int .i64 GA) := (blk_cell bA.out 7).trans rfl; have KF : sB.cell? ⟨dA, 8, none⟩ = some (.int .i64 IA) := (blk_cell bA.out 8).trans rfl; have LF : sB.cell? ⟨dA, 9, none⟩ = some (.bool yA) := (blk_cell bA.out 9).trans rfl; have MF := blk_frozen bA.out 0; have NF := blk_frozen bA.out 1; have OF := blk_frozen bA.out 2; have PF := blk_frozen bA.out 3; have QF := blk_frozen bA.out 4; have RF := blk_frozen bA.out 5; have SF := blk_frozen bA.out 6; have TF := blk_frozen bA.out 7; have UF := blk_frozen bA.out 8; have VF := blk_frozen bA.out 9))
         go_ret
         exact ⟨q1_6, q1_5⟩
       ·rw [if_neg c9] at H
        have TL : (oA == FA) = false := beq_eq_false_iff_ne.mpr c9
        have UL : (oA != FA) = true := bne_iff_ne.mpr c9
        obtain rfl := Option.some.inj H
        go_enter Try.func17, Try.ntmps17
        go_wp2_with (first | ((with_reducible refine gate_dst (N := 2) rfl ?_); refine box_event ?hg (N := 2) ?hd (cs := #[.int .i64 iA, .int .i64 jA, .int .i64 kA, .int .i64 lA, .int .i64 mA, .int .i64 nA, .int .i64 oA, .int .i64 qA, .int .i64 rA, .bool pA]) (t := 23) ?hr ?_; (case hd => rfl); (case hg => rfl); (case hr => first | (go_simp; done) | (go_simp; rfl)); intro cA hg QN hbox hb; have sA := Aside0.mk (below_step q1_0 hb); have tA := Aside0.mk (hbox); have uA := Aside0.mk ((q1_7 : w.heap.size ≤ cA)); have vA := Aside0.mk ((q1_7 : w.heap.size ≤ cA)); clear HB; have HB := sA; have aA := tA; have bB := uA; have UA := vA; clear sA tA uA vA; clear hb hbox hg) | ((with_reducible refine gate_dst (N := 3) rfl ?_); refine box_event ?hg (N := 3) ?hd (cs := #[.int .i64 zA, .int .i64 AA, .int .i64 BA, .int .i64 CA, .int .i64 DA, .int .i64 EA, .int .i64 FA, .int .i64 GA, .int .i64 IA, .bool yA]) (t := 23) ?hr ?_; (case hd => rfl); (case hg => rfl); (case hr => first | (go_simp; done) | (go_simp; rfl)); intro dA hg tB hbox hb; have sA := Aside0.mk (blk_below (g := cA) (o := .cells #[.int .i64 iA, .int .i64 jA, .int .i64 kA, .int .i64 lA, .int .i64 mA, .int .i64 nA, .int .i64 oA, .int .i64 qA, .int .i64 rA, .bool pA] 23 (0, 0)) q1_2 hb); have tA := Aside0.mk (below_step q1_1 hb); have uA := Aside0.mk (hbox); have vA := Aside0.mk ((q1_13 : w.heap.size ≤ dA)); have RA := Aside0.mk ((q1_13 : w.heap.size ≤ dA)); have SA := Aside0.mk ((q1_3 : cA ≠ dA)); have TA := Aside0.mk ((q1_4 : dA ≠ cA)); clear aA HB; have aA := sA; have HB := tA; have bA := uA; have cB := vA; have WA := RA; have eA := SA; have fA := TA; clear sA tA uA vA RA SA TA; clear hb hbox hg; have WM := eA.out; have XM := fA.out; have WF : tB.cell? ⟨cA, 0, none⟩ = some (.int .i64 iA) := (blk_cell aA.out 0).trans rfl; have XF : tB.cell? ⟨cA, 1, none⟩ = some (.int .i64 jA) := (blk_cell aA.out 1).trans rfl; have YF : tB.cell? ⟨cA, 2, none⟩ = some (.int .i64 kA) := (blk_cell aA.out 2).trans rfl; have ZF : tB.cell? ⟨cA, 3, none⟩ = some (.int .i64 lA) := (blk_cell aA.out 3).trans rfl; have aG : tB.cell? ⟨cA, 4, none⟩ = some (.int .i64 mA) := (blk_cell aA.out 4).trans rfl; have bG : tB.cell? ⟨cA, 5, none⟩ = some (.int .i64 nA) := (blk_cell aA.out 5).trans rfl; have cG : tB.cell? ⟨cA, 6, none⟩ = some (.int .i64 oA) := (blk_cell aA.out 6).trans rfl; have dG : tB.cell? ⟨cA, 7, none⟩ = some (.int .i64 qA) := (blk_cell aA.out 7).trans rfl; have eG : tB.cell? ⟨cA, 8, none⟩ = some (.int .i64 rA) := (blk_cell aA.out 8).trans rfl; have fG : tB.cell? ⟨cA, 9, none⟩ = some (.bool pA) := (blk_cell aA.out 9).trans rfl; have gG := blk_frozen aA.out 0; have hG := blk_frozen aA.out 1; have iG := blk_frozen aA.out 2; have jG := blk_frozen aA.out 3; have kG := blk_frozen aA.out 4; have lG := blk_frozen aA.out 5; have mG := blk_frozen aA.out 6; have nG := blk_frozen aA.out 7; have oG := blk_frozen aA.out 8; have pG := blk_frozen aA.out 9; have qG : tB.cell? ⟨dA, 0, none⟩ = some (.int .i64 zA) := (blk_cell bA.out 0).trans rfl; have rG : tB.cell? ⟨dA, 1, none⟩ = some (.int .i64 AA) := (blk_cell bA.out 1).trans rfl; have sG : tB.cell? ⟨dA, 2, none⟩ = some (.int .i64 BA) := (blk_cell bA.out 2).trans rfl; have tG : tB.cell? ⟨dA, 3, none⟩ = some (.int .i64 CA) := (blk_cell bA.out 3).trans rfl; have uG : tB.cell? ⟨dA, 4, none⟩ = some (.int .i64 DA) := (blk_cell bA.out 4).trans rfl; have vG : tB.cell? ⟨dA, 5, none⟩ = some (.int .i64 EA) := (blk_cell bA.out 5).trans rfl; have wG : tB.cell? ⟨dA, 6, none⟩ = some (.int .i64 FA) := (blk_cell bA.out 6).trans rfl; have xG : tB.cell? ⟨dA, 7, none⟩ = some (.int .i64 GA) := (blk_cell bA.out 7).trans rfl; have yG : tB.cell? ⟨dA, 8, none⟩ = some (.int .i64 IA) := (blk_cell bA.out 8).trans rfl; have zG : tB.cell? ⟨dA, 9, none⟩ = some (.bool yA) := (blk_cell bA.out 9).trans rfl; have AG := blk_frozen bA.out 0; have BG := blk_frozen bA.out 1; have CG := blk_frozen bA.out 2; have DG := blk_frozen bA.out 3; have EG := blk_frozen bA.out 4; have FG := blk_frozen bA.out 5; have GG := blk_frozen bA.out 6; have HG := blk_frozen bA.out 7; have IG := blk_frozen bA.out 8; have JG := blk_frozen bA.out 9))
        go_ret
        exact ⟨q1_6, q1_5⟩
      ·rw [if_neg c8] at H
       have BC : (nA == EA) = false := beq_eq_false_iff_ne.mpr c8
       have SL : (nA != EA) = true := bne_iff_ne.mpr c8
       obtain rfl := Option.some.inj H
       go_enter Try.func17, Try.ntmps17
       go_wp2_with (first | ((with_reducible refine gate_dst (N := 2) rfl ?_); refine box_event ?hg (N := 2) ?hd (cs := #[.int .i64 iA, .int .i64 jA, .int .i64 kA, .int .i64 lA, .int .i64 mA, .int .i64 nA, .int .i64 oA, .int .i64 qA, .int .i64 rA, .bool pA]) (t := 23) ?hr ?_; (case hd => rfl); (case hg => rfl); (case hr => first | (go_simp; done) | (go_simp; rfl)); intro cA hg RN hbox hb; have sA := Aside0.mk (below_step q1_0 hb); have tA := Aside0.mk (hbox); have uA := Aside0.mk ((q1_7 : w.heap.size ≤ cA)); have vA := Aside0.mk ((q1_7 : w.heap.size ≤ cA)); clear HB; have HB := sA; have aA := tA; have bB := uA; have UA := vA; clear sA tA uA vA; clear hb hbox hg) | ((with_reducible refine gate_dst (N := 3) rfl ?_); refine box_event ?hg (N := 3) ?hd (cs := #[.int .i64 zA, .int .i64 AA, .int .i64 BA, .int .i64 CA, .int .i64 DA, .int .i64 EA, .int .i64 FA, .int .i64 GA, .int .i64 IA, .bool yA]) (t := 23) ?hr ?_; (case hd => rfl); (case hg => rfl); (case hr => first | (go_simp; done) | (go_simp; rfl)); intro dA hg uB hbox hb; have sA := Aside0.mk (blk_below (g := cA) (o := .cells #[.int .i64 iA, .int .i64 jA, .int .i64 kA, .int .i64 lA, .int .i64 mA, .int .i64 nA, .int .i64 oA, .int .i64 qA, .int .i64 rA, .bool pA] 23 (0, 0)) q1_2 hb); have tA := Aside0.mk (below_step q1_1 hb); have uA := Aside0.mk (hbox); have vA := Aside0.mk ((q1_13 : w.heap.size ≤ dA)); have RA := Aside0.mk ((q1_13 : w.heap.size ≤ dA)); have SA := Aside0.mk ((q1_3 : cA ≠ dA)); have TA := Aside0.mk ((q1_4 : dA ≠ cA)); clear aA HB; have aA := sA; have HB := tA; have bA := uA; have cB := vA; have WA := RA; have eA := SA; have fA := TA; clear sA tA uA vA RA SA TA; clear hb hbox hg; have YM := eA.out; have ZM := fA.out; have KG : uB.cell? ⟨cA, 0, none⟩ = some (.int .i64 iA) := (blk_cell aA.out 0).trans rfl; have LG : uB.cell? ⟨cA, 1, none⟩ = some (.int .i64 jA) := (blk_cell aA.out 1).trans rfl; have MG : uB.cell? ⟨cA, 2, none⟩ = some (.int .i64 kA) := (blk_cell aA.out 2).trans rfl; have NG : uB.cell? ⟨cA, 3, none⟩ = some (.int .i64 lA) := (blk_cell aA.out 3).trans rfl; have OG : uB.cell? ⟨cA, 4, none⟩ = some (.int .i64 mA) := (blk_cell aA.out 4).trans rfl; have PG : uB.cell? ⟨cA, 5, none⟩ = some (.int .i64 nA) := (blk_cell aA.out 5).trans rfl; have QG : uB.cell? ⟨cA, 6, none⟩ = some (.int .i64 oA) := (blk_cell aA.out 6).trans rfl; have RG : uB.cell? ⟨cA, 7, none⟩ = some (.int .i64 qA) := (blk_cell aA.out 7).trans rfl; have SG : uB.cell? ⟨cA, 8, none⟩ = some (.int .i64 rA) := (blk_cell aA.out 8).trans rfl; have TG : uB.cell? ⟨cA, 9, none⟩ = some (.bool pA) := (blk_cell aA.out 9).trans rfl; have UG := blk_frozen aA.out 0; have VG := blk_frozen aA.out 1; have WG := blk_frozen aA.out 2; have XG := blk_frozen aA.out 3; have YG := blk_frozen aA.out 4; have ZG := blk_frozen aA.out 5; have aH := blk_frozen aA.out 6; have bH := blk_frozen aA.out 7; have cH := blk_frozen aA.out 8; have dH := blk_frozen aA.out 9; have eH : uB.cell? ⟨dA, 0, none⟩ = some (.int .i64 zA) := (blk_cell bA.out 0).trans rfl; have fH : uB.cell? ⟨dA, 1, none⟩ = some (.int .i64 AA) := (blk_cell bA.out 1).trans rfl; have gH : uB.cell? ⟨dA, 2, none⟩ = some (.int .i64 BA) := (blk_cell bA.out 2).trans rfl; have hH : uB.cell? ⟨dA, 3, none⟩ = some (.int .i64 CA) := (blk_cell bA.out 3).trans rfl; have iH : uB.cell? ⟨dA, 4, none⟩ = some (.int .i64 DA) := (blk_cell bA.out 4).trans rfl; have jH : uB.cell? ⟨dA, 5, none⟩ = some (.int .i64 EA) := (blk_cell bA.out 5).trans rfl; have kH : uB.cell? ⟨dA, 6, none⟩ = some (.int .i64 FA) := (blk_cell bA.out 6).trans rfl; have lH : uB.cell? ⟨dA, 7, none⟩ = some (.int .i64 GA) := (blk_cell bA.out 7).trans rfl; have mH : uB.cell? ⟨dA, 8, none⟩ = some (.int .i64 IA) := (blk_cell bA.out 8).trans rfl; have nH : uB.cell? ⟨dA, 9, none⟩ = some (.bool yA) := (blk_cell bA.out 9).trans rfl; have oH := blk_frozen bA.out 0; have pH := blk_frozen bA.out 1; have qH := blk_frozen bA.out 2; have rH := blk_frozen bA.out 3; have sH := blk_frozen bA.out 4; have tH := blk_frozen bA.out 5; have uH := blk_frozen bA.out 6; have vH := blk_frozen bA.out 7; have wH := blk_frozen bA.out 8; have xH := blk_frozen bA.out 9))
       go_ret
       exact ⟨q1_6, q1_5⟩
     ·rw [if_neg c7] at H
      have iC : (mA == DA) = false := beq_eq_false_iff_ne.mpr c7
      have uC : (mA != DA) = true := bne_iff_ne.mpr c7
      obtain rfl := Option.some.inj H
      go_enter Try.func17, Try.ntmps17
      go_wp2_with (first | ((with_reducible refine gate_dst (N := 2) rfl ?_); refine box_event ?hg (N := 2) ?hd (cs := #[.int .i64 iA, .int .i64 jA, .int .i64 kA, .int .i64 lA, .int .i64 mA, .int .i64 nA, .int .i64 oA, .int .i64 qA, .int .i64 rA, .bool pA]) (t := 23) ?hr ?_; (case hd => rfl); (case hg => rfl); (case hr => first | (go_simp; done) | (go_simp; rfl)); intro cA hg SN hbox hb; have sA := Aside0.mk (below_step q1_0 hb); have tA := Aside0.mk (hbox); have uA := Aside0.mk ((q1_7 : w.heap.size ≤ cA)); have vA := Aside0.mk ((q1_7 : w.heap.size ≤ cA)); clear HB; have HB := sA; have aA := tA; have bB := uA; have UA := vA; clear sA tA uA vA; clear hb hbox hg) | ((with_reducible refine gate_dst (N := 3) rfl ?_); refine box_event ?hg (N := 3) ?hd (cs := #[.int .i64 zA, .int .i64 AA, .int .i64 BA, .int .i64 CA, .int .i64 DA, .int .i64 EA, .int .i64 FA, .int .i64 GA, .int .i64 IA, .bool yA]) (t := 23) ?hr ?_; (case hd => rfl); (case hg => rfl); (case hr => first | (go_simp; done) | (go_simp; rfl)); intro dA hg vB hbox hb; have sA := Aside0.mk (blk_below (g := cA) (o := .cells #[.int .i64 iA, .int .i64 jA, .int .i64 kA, .int .i64 lA, .int .i64 mA, .int .i64 nA, .int .i64 oA, .int .i64 qA, .int .i64 rA, .bool pA] 23 (0, 0)) q1_2 hb); have tA := Aside0.mk (below_step q1_1 hb); have uA := Aside0.mk (hbox); have vA := Aside0.mk ((q1_13 : w.heap.size ≤ dA)); have RA := Aside0.mk ((q1_13 : w.heap.size ≤ dA)); have SA := Aside0.mk ((q1_3 : cA ≠ dA)); have TA := Aside0.mk ((q1_4 : dA ≠ cA)); clear aA HB; have aA := sA; have HB := tA; have bA := uA; have cB := vA; have WA := RA; have eA := SA; have fA := TA; clear sA tA uA vA RA SA TA; clear hb hbox hg; have aN := eA.out; have bN := fA.out; have yH : vB.cell? ⟨cA, 0, none⟩ = some (.int .i64 iA) := (blk_cell aA.out 0).trans rfl; have zH : vB.cell? ⟨cA, 1, none⟩ = some (.int .i64 jA) := (blk_cell aA.out 1).trans rfl; have AH : vB.cell? ⟨cA, 2, none⟩ = some (.int .i64 kA) := (blk_cell aA.out 2).trans rfl; have BH : vB.cell? ⟨cA, 3, none⟩ = some (.int .i64 lA) := (blk_cell aA.out 3).trans rfl; have CH : vB.cell? ⟨cA, 4, none⟩ = some (.int .i64 mA) := (blk_cell aA.out 4).trans rfl; have DH : vB.cell? ⟨cA, 5, none⟩ = some (.int .i64 nA) := (blk_cell aA.out 5).trans rfl; have EH : vB.cell? ⟨cA, 6, none⟩ = some (.int .i64 oA) := (blk_cell aA.out 6).trans rfl; have FH : vB.cell? ⟨cA, 7, none⟩ = some (.int .i64 qA) := (blk_cell aA.out 7).trans rfl; have GH : vB.cell? ⟨cA, 8, none⟩ = some (.int .i64 rA) := (blk_cell aA.out 8).trans rfl; have HH : vB.cell? ⟨cA, 9, none⟩ = some (.bool pA) := (blk_cell aA.out 9).trans rfl; have IH := blk_frozen aA.out 0; have JH := blk_frozen aA.out 1; have KH := blk_frozen aA.out 2; have LH := blk_frozen aA.out 3; have MH := blk_frozen aA.out 4; have NH := blk_frozen aA.out 5; have OH := blk_frozen aA.out 6; have PH := blk_frozen aA.out 7; have QH := blk_frozen aA.out 8; have RH := blk_frozen aA.out 9; have SH : vB.cell? ⟨dA, 0, none⟩ = some (.int .i64 zA) := (blk_cell bA.out 0).trans rfl; have TH : vB.cell? ⟨dA, 1, none⟩ = some (.int .i64 AA) := (blk_cell bA.out 1).trans rfl; have UH : vB.cell? ⟨dA, 2, none⟩ = some (.int .i64 BA) := (blk_cell bA.out 2).trans rfl; have VH : vB.cell? ⟨dA, 3, none⟩ = some (.int .i64 CA) := (blk_cell bA.out 3).trans rfl; have WH : vB.cell? ⟨dA, 4, none⟩ = some (.int .i64 DA) := (blk_cell bA.out 4).trans rfl; have XH : vB.cell? ⟨dA, 5, none⟩ = some (.int .i64 EA) := (blk_cell bA.out 5).trans rfl; have YH : vB.cell? ⟨dA, 6, none⟩ = some (.int .i64 FA) := (blk_cell bA.out 6).trans rfl; have ZH : vB.cell? ⟨dA, 7, none⟩ = some (.int .i64 GA) := (blk_cell bA.out 7).trans rfl; have aI : vB.cell? ⟨dA, 8, none⟩ = some (.int .i64 IA) := (blk_cell bA.out 8).trans rfl; have bI : vB.cell? ⟨dA, 9, none⟩ = some (.bool yA) := (blk_cell bA.out 9).trans rfl; have cI := blk_frozen bA.out 0; have dI := blk_frozen bA.out 1; have eI := blk_frozen bA.out 2; have fI := blk_frozen bA.out 3; have gI := blk_frozen bA.out 4; have hI := blk_frozen bA.out 5; have iI := blk_frozen bA.out 6; have jI := blk_frozen bA.out 7; have kI := blk_frozen bA.out 8; have lI := blk_frozen bA.out 9))
      go_ret
      exact ⟨q1_6, q1_5⟩
    ·rw [if_neg c6] at H
     have hC : (lA == CA) = false := beq_eq_false_iff_ne.mpr c6
     have RL : (lA != CA) = true := bne_iff_ne.mpr c6
     obtain rfl := Option.some.inj H
     go_enter Try.func17, Try.ntmps17
     go_wp2_with (first | ((with_reducible refine gate_dst (N := 2) rfl ?_); refine box_event ?hg (N := 2) ?hd (cs := #[.int .i64 iA, .int .i64 jA, .int .i64 kA, .int .i64 lA, .int .i64 mA, .int .i64 nA, .int .i64 oA, .int .i64 qA, .int .i64 rA, .bool pA]) (t := 23) ?hr ?_; (case hd => rfl); (case hg => rfl); (case hr => first | (go_simp; done) | (go_simp; rfl)); intro cA hg TN hbox hb; have sA := Aside0.mk (below_step q1_0 hb); have tA := Aside0.mk (hbox); have uA := Aside0.mk ((q1_7 : w.heap.size ≤ cA)); have vA := Aside0.mk ((q1_7 : w.heap.size ≤ cA)); clear HB; have HB := sA; have aA := tA; have bB := uA; have UA := vA; clear sA tA uA vA; clear hb hbox hg) | ((with_reducible refine gate_dst (N := 3) rfl ?_); refine box_event ?hg (N := 3) ?hd (cs := #[.int .i64 zA, .int .i64 AA, .int .i64 BA, .int .i64 CA, .int .i64 DA, .int .i64 EA, .int .i64 FA, .int .i64 GA, .int .i64 IA, .bool yA]) (t := 23) ?hr ?_; (case hd => rfl); (case hg => rfl); (case hr => first | (go_simp; done) | (go_simp; rfl)); intro dA hg wB hbox hb; have sA := Aside0.mk (blk_below (g := cA) (o := .cells #[.int .i64 iA, .int .i64 jA, .int .i64 kA, .int .i64 lA, .int .i64 mA, .int .i64 nA, .int .i64 oA, .int .i64 qA, .int .i64 rA, .bool pA] 23 (0, 0)) q1_2 hb); have tA := Aside0.mk (below_step q1_1 hb); have uA := Aside0.mk (hbox); have vA := Aside0.mk ((q1_13 : w.heap.size ≤ dA)); have RA := Aside0.mk ((q1_13 : w.heap.size ≤ dA)); have SA := Aside0.mk ((q1_3 : cA ≠ dA)); have TA := Aside0.mk ((q1_4 : dA ≠ cA)); clear aA HB; have aA := sA; have HB := tA; have bA := uA; have cB := vA; have WA := RA; have eA := SA; have fA := TA; clear sA tA uA vA RA SA TA; clear hb hbox hg; have cN := eA.out; have dN := fA.out; have mI : wB.cell? ⟨cA, 0, none⟩ = some (.int .i64 iA) := (blk_cell aA.out 0).trans rfl; have nI : wB.cell? ⟨cA, 1, none⟩ = some (.int .i64 jA) := (blk_cell aA.out 1).trans rfl; have oI : wB.cell? ⟨cA, 2, none⟩ = some (.int .i64 kA) := (blk_cell aA.out 2).trans rfl; have pI : wB.cell? ⟨cA, 3, none⟩ = some (.int .i64 lA) := (blk_cell aA.out 3).trans rfl; have qI : wB.cell? ⟨cA, 4, none⟩ = some (.int .i64 mA) := (blk_cell aA.out 4).trans rfl; have rI : wB.cell? ⟨cA, 5, none⟩ = some (.int .i64 nA) := (blk_cell aA.out 5).trans rfl; have sI : wB.cell? ⟨cA, 6, none⟩ = some (.int .i64 oA) := (blk_cell aA.out 6).trans rfl; have tI : wB.cell? ⟨cA, 7, none⟩ = some (.int .i64 qA) := (blk_cell aA.out 7).trans rfl; have uI : wB.cell? ⟨cA, 8, none⟩ = some (.int .i64 rA) := (blk_cell aA.out 8).trans rfl; have vI : wB.cell? ⟨cA, 9, none⟩ = some (.bool pA) := (blk_cell aA.out 9).trans rfl; have wI := blk_frozen aA.out 0; have xI := blk_frozen aA.out 1; have yI := blk_frozen aA.out 2; have zI := blk_frozen aA.out 3; have AI := blk_frozen aA.out 4; have BI := blk_frozen aA.out 5; have CI := blk_frozen aA.out 6; have DI := blk_frozen aA.out 7; have EI := blk_frozen aA.out 8; have FI := blk_frozen aA.out 9; have GI : wB.cell? ⟨dA, 0, none⟩ = some (.int .i64 zA) := (blk_cell bA.out 0).trans rfl; have HI : wB.cell? ⟨dA, 1, none⟩ = some (.int .i64 AA) := (blk_cell bA.out 1).trans rfl; have II : wB.cell? ⟨dA, 2, none⟩ = some (.int .i64 BA) := (blk_cell bA.out 2).trans rfl; have JI : wB.cell? ⟨dA, 3, none⟩ = some (.int .i64 CA) := (blk_cell bA.out 3).trans rfl; have KI : wB.cell? ⟨dA, 4, none⟩ = some (.int .i64 DA) := (blk_cell bA.out 4).trans rfl; have LI : wB.cell? ⟨dA, 5, none⟩ = some (.int .i64 EA) := (blk_cell bA.out 5).trans rfl; have MI : wB.cell? ⟨dA, 6, none⟩ = some (.int .i64 FA) := (blk_cell bA.out 6).trans rfl; have NI : wB.cell? ⟨dA, 7, none⟩ = some (.int .i64 GA) := (blk_cell bA.out 7).trans rfl; have OI : wB.cell? ⟨dA, 8, none⟩ = some (.int .i64 IA) := (blk_cell bA.out 8).trans rfl; have PI : wB.cell? ⟨dA, 9, none⟩ = some (.bool yA) := (blk_cell bA.out 9).trans rfl; have QI := blk_frozen bA.out 0; have RI := blk_frozen bA.out 1; have SI := blk_frozen bA.out 2; have TI := blk_frozen bA.out 3; have UI := blk_frozen bA.out 4; have VI := blk_frozen bA.out 5; have WI := blk_frozen bA.out 6; have XI := blk_frozen bA.out 7; have YI := blk_frozen bA.out 8; have ZI := blk_frozen bA.out 9))
     go_ret
     exact ⟨q1_6, q1_5⟩
   ·rw [if_neg c5] at H
    have gC : (kA == BA) = false := beq_eq_false_iff_ne.mpr c5
    have tC : (kA != BA) = true := bne_iff_ne.mpr c5
    obtain rfl := Option.some.inj H
    go_enter Try.func17, Try.ntmps17
    go_wp2_with (first | ((with_reducible refine gate_dst (N := 2) rfl ?_); refine box_event ?hg (N := 2) ?hd (cs := #[.int .i64 iA, .int .i64 jA, .int .i64 kA, .int .i64 lA, .int .i64 mA, .int .i64 nA, .int .i64 oA, .int .i64 qA, .int .i64 rA, .bool pA]) (t := 23) ?hr ?_; (case hd => rfl); (case hg => rfl); (case hr => first | (go_simp; done) | (go_simp; rfl)); intro cA hg UN hbox hb; have sA := Aside0.mk (below_step q1_0 hb); have tA := Aside0.mk (hbox); have uA := Aside0.mk ((q1_7 : w.heap.size ≤ cA)); have vA := Aside0.mk ((q1_7 : w.heap.size ≤ cA)); clear HB; have HB := sA; have aA := tA; have bB := uA; have UA := vA; clear sA tA uA vA; clear hb hbox hg) | ((with_reducible refine gate_dst (N := 3) rfl ?_); refine box_event ?hg (N := 3) ?hd (cs := #[.int .i64 zA, .int .i64 AA, .int .i64 BA, .int .i64 CA, .int .i64 DA, .int .i64 EA, .int .i64 FA, .int .i64 GA, .int .i64 IA, .bool yA]) (t := 23) ?hr ?_; (case hd => rfl); (case hg => rfl); (case hr => first | (go_simp; done) | (go_simp; rfl)); intro dA hg xB hbox hb; have sA := Aside0.mk (blk_below (g := cA) (o := .cells #[.int .i64 iA, .int .i64 jA, .int .i64 kA, .int .i64 lA, .int .i64 mA, .int .i64 nA, .int .i64 oA, .int .i64 qA, .int .i64 rA, .bool pA] 23 (0, 0)) q1_2 hb); have tA := Aside0.mk (below_step q1_1 hb); have uA := Aside0.mk (hbox); have vA := Aside0.mk ((q1_13 : w.heap.size ≤ dA)); have RA := Aside0.mk ((q1_13 : w.heap.size ≤ dA)); have SA := Aside0.mk ((q1_3 : cA ≠ dA)); have TA := Aside0.mk ((q1_4 : dA ≠ cA)); clear aA HB; have aA := sA; have HB := tA; have bA := uA; have cB := vA; have WA := RA; have eA := SA; have fA := TA; clear sA tA uA vA RA SA TA; clear hb hbox hg; have eN := eA.out; have fN := fA.out; have aJ : xB.cell? ⟨cA, 0, none⟩ = some (.int .i64 iA) := (blk_cell aA.out 0).trans rfl; have bJ : xB.cell? ⟨cA, 1, none⟩ = some (.int .i64 jA) := (blk_cell aA.out 1).trans rfl; have cJ : xB.cell? ⟨cA, 2, none⟩ = some (.int .i64 kA) := (blk_cell aA.out 2).trans rfl; have dJ : xB.cell? ⟨cA, 3, none⟩ = some (.int .i64 lA) := (blk_cell aA.out 3).trans rfl; have eJ : xB.cell? ⟨cA, 4, none⟩ = some (.int .i64 mA) := (blk_cell aA.out 4).trans rfl; have fJ : xB.cell? ⟨cA, 5, none⟩ = some (.int .i64 nA) := (blk_cell aA.out 5).trans rfl; have gJ : xB.cell? ⟨cA, 6, none⟩ = some (.int .i64 oA) := (blk_cell aA.out 6).trans rfl; have hJ : xB.cell? ⟨cA, 7, none⟩ = some (.int .i64 qA) := (blk_cell aA.out 7).trans rfl; have iJ : xB.cell? ⟨cA, 8, none⟩ = some (.int .i64 rA) := (blk_cell aA.out 8).trans rfl; have jJ : xB.cell? ⟨cA, 9, none⟩ = some (.bool pA) := (blk_cell aA.out 9).trans rfl; have kJ := blk_frozen aA.out 0; have lJ := blk_frozen aA.out 1; have mJ := blk_frozen aA.out 2; have nJ := blk_frozen aA.out 3; have oJ := blk_frozen aA.out 4; have pJ := blk_frozen aA.out 5; have qJ := blk_frozen aA.out 6; have rJ := blk_frozen aA.out 7; have sJ := blk_frozen aA.out 8; have tJ := blk_frozen aA.out 9; have uJ : xB.cell? ⟨dA, 0, none⟩ = some (.int .i64 zA) := (blk_cell bA.out 0).trans rfl; have vJ : xB.cell? ⟨dA, 1, none⟩ = some (.int .i64 AA) := (blk_cell bA.out 1).trans rfl; have wJ : xB.cell? ⟨dA, 2, none⟩ = some (.int .i64 BA) := (blk_cell bA.out 2).trans rfl; have xJ : xB.cell? ⟨dA, 3, none⟩ = some (.int .i64 CA) := (blk_cell bA.out 3).trans rfl; have yJ : xB.cell? ⟨dA, 4, none⟩ = some (.int .i64 DA) := (blk_cell bA.out 4).trans rfl; have zJ : xB.cell? ⟨dA, 5, none⟩ = some (.int .i64 EA) := (blk_cell bA.out 5).trans rfl; have AJ : xB.cell? ⟨dA, 6, none⟩ = some (.int .i64 FA) := (blk_cell bA.out 6).trans rfl; have BJ : xB.cell? ⟨dA, 7, none⟩ = some (.int .i64 GA) := (blk_cell bA.out 7).trans rfl; have CJ : xB.cell? ⟨dA, 8, none⟩ = some (.int .i64 IA) := (blk_cell bA.out 8).trans rfl; have DJ : xB.cell? ⟨dA, 9, none⟩ = some (.bool yA) := (blk_cell bA.out 9).trans rfl; have EJ := blk_frozen bA.out 0; have FJ := blk_frozen bA.out 1; have GJ := blk_frozen bA.out 2; have HJ := blk_frozen bA.out 3; have IJ := blk_frozen bA.out 4; have JJ := blk_frozen bA.out 5; have KJ := blk_frozen bA.out 6; have LJ := blk_frozen bA.out 7; have MJ := blk_frozen bA.out 8; have NJ := blk_frozen bA.out 9))
    go_ret
    exact ⟨q1_6, q1_5⟩
  ·rw [if_neg c4] at H
   have CB : (jA == AA) = false := beq_eq_false_iff_ne.mpr c4
   have QL : (jA != AA) = true := bne_iff_ne.mpr c4
   obtain rfl := Option.some.inj H
   go_enter Try.func17, Try.ntmps17
   go_wp2_with (first | ((with_reducible refine gate_dst (N := 2) rfl ?_); refine box_event ?hg (N := 2) ?hd (cs := #[.int .i64 iA, .int .i64 jA, .int .i64 kA, .int .i64 lA, .int .i64 mA, .int .i64 nA, .int .i64 oA, .int .i64 qA, .int .i64 rA, .bool pA]) (t := 23) ?hr ?_; (case hd => rfl); (case hg => rfl); (case hr => first | (go_simp; done) | (go_simp; rfl)); intro cA hg VN hbox hb; have sA := Aside0.mk (below_step q1_0 hb); have tA := Aside0.mk (hbox); have uA := Aside0.mk ((q1_7 : w.heap.size ≤ cA)); have vA := Aside0.mk ((q1_7 : w.heap.size ≤ cA)); clear HB; have HB := sA; have aA := tA; have bB := uA; have UA := vA; clear sA tA uA vA; clear hb hbox hg) | ((with_reducible refine gate_dst (N := 3) rfl ?_); refine box_event ?hg (N := 3) ?hd (cs := #[.int .i64 zA, .int .i64 AA, .int .i64 BA, .int .i64 CA, .int .i64 DA, .int .i64 EA, .int .i64 FA, .int .i64 GA, .int .i64 IA, .bool yA]) (t := 23) ?hr ?_; (case hd => rfl); (case hg => rfl); (case hr => first | (go_simp; done) | (go_simp; rfl)); intro dA hg yB hbox hb; have sA := Aside0.mk (blk_below (g := cA) (o := .cells #[.int .i64 iA, .int .i64 jA, .int .i64 kA, .int .i64 lA, .int .i64 mA, .int .i64 nA, .int .i64 oA, .int .i64 qA, .int .i64 rA, .bool pA] 23 (0, 0)) q1_2 hb); have tA := Aside0.mk (below_step q1_1 hb); have uA := Aside0.mk (hbox); have vA := Aside0.mk ((q1_13 : w.heap.size ≤ dA)); have RA := Aside0.mk ((q1_13 : w.heap.size ≤ dA)); have SA := Aside0.mk ((q1_3 : cA ≠ dA)); have TA := Aside0.mk ((q1_4 : dA ≠ cA)); clear aA HB; have aA := sA; have HB := tA; have bA := uA; have cB := vA; have WA := RA; have eA := SA; have fA := TA; clear sA tA uA vA RA SA TA; clear hb hbox hg; have gN := eA.out; have hN := fA.out; have OJ : yB.cell? ⟨cA, 0, none⟩ = some (.int .i64 iA) := (blk_cell aA.out 0).trans rfl; have PJ : yB.cell? ⟨cA, 1, none⟩ = some (.int .i64 jA) := (blk_cell aA.out 1).trans rfl; have QJ : yB.cell? ⟨cA, 2, none⟩ = some (.int .i64 kA) := (blk_cell aA.out 2).trans rfl; have RJ : yB.cell? ⟨cA, 3, none⟩ = some (.int .i64 lA) := (blk_cell aA.out 3).trans rfl; have SJ : yB.cell? ⟨cA, 4, none⟩ = some (.int .i64 mA) := (blk_cell aA.out 4).trans rfl; have TJ : yB.cell? ⟨cA, 5, none⟩ = some (.int .i64 nA) := (blk_cell aA.out 5).trans rfl; have UJ : yB.cell? ⟨cA, 6, none⟩ = some (.int .i64 oA) := (blk_cell aA.out 6).trans rfl; have VJ : yB.cell? ⟨cA, 7, none⟩ = some (.int .i64 qA) := (blk_cell aA.out 7).trans rfl; have WJ : yB.cell? ⟨cA, 8, none⟩ = some (.int .i64 rA) := (blk_cell aA.out 8).trans rfl; have XJ : yB.cell? ⟨cA, 9, none⟩ = some (.bool pA) := (blk_cell aA.out 9).trans rfl; have YJ := blk_frozen aA.out 0; have ZJ := blk_frozen aA.out 1; have aK := blk_frozen aA.out 2; have bK := blk_frozen aA.out 3; have cK := blk_frozen aA.out 4; have dK := blk_frozen aA.out 5; have eK := blk_frozen aA.out 6; have fK := blk_frozen aA.out 7; have gK := blk_frozen aA.out 8; have hK := blk_frozen aA.out 9; have iK : yB.cell? ⟨dA, 0, none⟩ = some (.int .i64 zA) := (blk_cell bA.out 0).trans rfl; have jK : yB.cell? ⟨dA, 1, none⟩ = some (.int .i64 AA) := (blk_cell bA.out 1).trans rfl; have kK : yB.cell? ⟨dA, 2, none⟩ = some (.int .i64 BA) := (blk_cell bA.out 2).trans rfl; have lK : yB.cell? ⟨dA, 3, none⟩ = some (.int .i64 CA) := (blk_cell bA.out 3).trans rfl; have mK : yB.cell? ⟨dA, 4, none⟩ = some (.int .i64 DA) := (blk_cell bA.out 4).trans rfl; have nK : yB.cell? ⟨dA, 5, none⟩ = some (.int .i64 EA) := (blk_cell bA.out 5).trans rfl; have oK : yB.cell? ⟨dA, 6, none⟩ = some (.int .i64 FA) := (blk_cell bA.out 6).trans rfl; have pK : yB.cell? ⟨dA, 7, none⟩ = some (.int .i64 GA) := (blk_cell bA.out 7).trans rfl; have qK : yB.cell? ⟨dA, 8, none⟩ = some (.int .i64 IA) := (blk_cell bA.out 8).trans rfl; have rK : yB.cell? ⟨dA, 9, none⟩ = some (.bool yA) := (blk_cell bA.out 9).trans rfl; have sK := blk_frozen bA.out 0; have tK := blk_frozen bA.out 1; have uK := blk_frozen bA.out 2; have vK := blk_frozen bA.out 3; have wK := blk_frozen bA.out 4; have xK := blk_frozen bA.out 5; have yK := blk_frozen bA.out 6; have zK := blk_frozen bA.out 7; have AK := blk_frozen bA.out 8; have BK := blk_frozen bA.out 9))
   go_ret
   exact ⟨q1_6, q1_5⟩
 ·rw [if_neg c3] at H
  have jB : (iA == zA) = false := beq_eq_false_iff_ne.mpr c3
  have PB : (iA != zA) = true := bne_iff_ne.mpr c3
  obtain rfl := Option.some.inj H
  go_enter Try.func17, Try.ntmps17
  go_wp2_with (first | ((with_reducible refine gate_dst (N := 2) rfl ?_); refine box_event ?hg (N := 2) ?hd (cs := #[.int .i64 iA, .int .i64 jA, .int .i64 kA, .int .i64 lA, .int .i64 mA, .int .i64 nA, .int .i64 oA, .int .i64 qA, .int .i64 rA, .bool pA]) (t := 23) ?hr ?_; (case hd => rfl); (case hg => rfl); (case hr => first | (go_simp; done) | (go_simp; rfl)); intro cA hg WN hbox hb; have sA := Aside0.mk (below_step q1_0 hb); have tA := Aside0.mk (hbox); have uA := Aside0.mk ((q1_7 : w.heap.size ≤ cA)); have vA := Aside0.mk ((q1_7 : w.heap.size ≤ cA)); clear HB; have HB := sA; have aA := tA; have bB := uA; have UA := vA; clear sA tA uA vA; clear hb hbox hg) | ((with_reducible refine gate_dst (N := 3) rfl ?_); refine box_event ?hg (N := 3) ?hd (cs := #[.int .i64 zA, .int .i64 AA, .int .i64 BA, .int .i64 CA, .int .i64 DA, .int .i64 EA, .int .i64 FA, .int .i64 GA, .int .i64 IA, .bool yA]) (t := 23) ?hr ?_; (case hd => rfl); (case hg => rfl); (case hr => first | (go_simp; done) | (go_simp; rfl)); intro dA hg zB hbox hb; have sA := Aside0.mk (blk_below (g := cA) (o := .cells #[.int .i64 iA, .int .i64 jA, .int .i64 kA, .int .i64 lA, .int .i64 mA, .int .i64 nA, .int .i64 oA, .int .i64 qA, .int .i64 rA, .bool pA] 23 (0, 0)) q1_2 hb); have tA := Aside0.mk (below_step q1_1 hb); have uA := Aside0.mk (hbox); have vA := Aside0.mk ((q1_13 : w.heap.size ≤ dA)); have RA := Aside0.mk ((q1_13 : w.heap.size ≤ dA)); have SA := Aside0.mk ((q1_3 : cA ≠ dA)); have TA := Aside0.mk ((q1_4 : dA ≠ cA)); clear aA HB; have aA := sA; have HB := tA; have bA := uA; have cB := vA; have WA := RA; have eA := SA; have fA := TA; clear sA tA uA vA RA SA TA; clear hb hbox hg; have iN := eA.out; have jN := fA.out; have CK : zB.cell? ⟨cA, 0, none⟩ = some (.int .i64 iA) := (blk_cell aA.out 0).trans rfl; have DK : zB.cell? ⟨cA, 1, none⟩ = some (.int .i64 jA) := (blk_cell aA.out 1).trans rfl; have EK : zB.cell? ⟨cA, 2, none⟩ = some (.int .i64 kA) := (blk_cell aA.out 2).trans rfl; have FK : zB.cell? ⟨cA, 3, none⟩ = some (.int .i64 lA) := (blk_cell aA.out 3).trans rfl; have GK : zB.cell? ⟨cA, 4, none⟩ = some (.int .i64 mA) := (blk_cell aA.out 4).trans rfl; have IK : zB.cell? ⟨cA, 5, none⟩ = some (.int .i64 nA) := (blk_cell aA.out 5).trans rfl; have JK : zB.cell? ⟨cA, 6, none⟩ = some (.int .i64 oA) := (blk_cell aA.out 6).trans rfl; have KK : zB.cell? ⟨cA, 7, none⟩ = some (.int .i64 qA) := (blk_cell aA.out 7).trans rfl; have LK : zB.cell? ⟨cA, 8, none⟩ = some (.int .i64 rA) := (blk_cell aA.out 8).trans rfl; have MK : zB.cell? ⟨cA, 9, none⟩ = some (.bool pA) := (blk_cell aA.out 9).trans rfl; have NK := blk_frozen aA.out 0; have OK := blk_frozen aA.out 1; have PK := blk_frozen aA.out 2; have QK := blk_frozen aA.out 3; have RK := blk_frozen aA.out 4; have SK := blk_frozen aA.out 5; have TK := blk_frozen aA.out 6; have UK := blk_frozen aA.out 7; have VK := blk_frozen aA.out 8; have WK := blk_frozen aA.out 9; have XK : zB.cell? ⟨dA, 0, none⟩ = some (.int .i64 zA) := (blk_cell bA.out 0).trans rfl; have YK : zB.cell? ⟨dA, 1, none⟩ = some (.int .i64 AA) := (blk_cell bA.out 1).trans rfl; have ZK : zB.cell? ⟨dA, 2, none⟩ = some (.int .i64 BA) := (blk_cell bA.out 2).trans rfl; have aL : zB.cell? ⟨dA, 3, none⟩ = some (.int .i64 CA) := (blk_cell bA.out 3).trans rfl; have bL : zB.cell? ⟨dA, 4, none⟩ = some (.int .i64 DA) := (blk_cell bA.out 4).trans rfl; have cL : zB.cell? ⟨dA, 5, none⟩ = some (.int .i64 EA) := (blk_cell bA.out 5).trans rfl; have dL : zB.cell? ⟨dA, 6, none⟩ = some (.int .i64 FA) := (blk_cell bA.out 6).trans rfl; have eL : zB.cell? ⟨dA, 7, none⟩ = some (.int .i64 GA) := (blk_cell bA.out 7).trans rfl; have fL : zB.cell? ⟨dA, 8, none⟩ = some (.int .i64 IA) := (blk_cell bA.out 8).trans rfl; have gL : zB.cell? ⟨dA, 9, none⟩ = some (.bool yA) := (blk_cell bA.out 9).trans rfl; have hL := blk_frozen bA.out 0; have iL := blk_frozen bA.out 1; have jL := blk_frozen bA.out 2; have kL := blk_frozen bA.out 3; have lL := blk_frozen bA.out 4; have mL := blk_frozen bA.out 5; have nL := blk_frozen bA.out 6; have oL := blk_frozen bA.out 7; have pL := blk_frozen bA.out 8; have qL := blk_frozen bA.out 9))
  go_ret
  exact ⟨q1_6, q1_5⟩

/-! ### laws_eqIntS: function 33 -/
def laws_eqIntS.l0 : Nat → List Int → List Int → Int → Option (Bool)
 | 0, _, _, _ => none
 | k + 1, x0, x1, x5 => if x5 < (x0.length : Int) then (if 0 ≤ x5 then (if x5 < (x1.length : Int) then (if (rd x0 x5) = (rd x1 x5) then (laws_eqIntS.l0 k x0 x1 (wrap64 (x5 + 1))) else (some false)) else (none)) else (none)) else (some true)
def laws_eqIntS.f (k : Nat) (l0 : List Int) (l1 : List Int) : Option (Bool) := if (l0.length : Int) = (l1.length : Int) then (laws_eqIntS.l0 k l0 l1 0) else (some false)
theorem laws_eqIntS.mono_l : ∀ k, (∀ y0 y1 y2, LeO (laws_eqIntS.l0 k y0 y1 y2) (laws_eqIntS.l0 (k + 1) y0 y1 y2))
 | 0 => fun _ _ _ r h => by simp [laws_eqIntS.l0] at h
 | k + 1 => by
  have ih0 := laws_eqIntS.mono_l k
  ·intro y0 y1 y2
   unfold laws_eqIntS.l0
   repeat' first
   | (with_reducible exact ih0 _ _ _)
   | (with_reducible exact LeO.refl _)
   | (with_reducible exact LeO.none _)
   | (with_reducible refine LeO.ite ?_ ?_)
   | (with_reducible refine LeO.bind ?_ (fun _ => ?_))
   | exact ih0 _ _ _
   | exact LeO.none _
   | refine LeO.ite ?_ ?_
   | refine LeO.bind ?_ (fun _ => ?_)
theorem laws_eqIntS.mono : ∀ a0 a1 k, LeO (laws_eqIntS.f k a0 a1) (laws_eqIntS.f (k + 1) a0 a1) := by
 intro a0 a1 k
 have ih0 := laws_eqIntS.mono_l k
 unfold laws_eqIntS.f
 repeat' first
   | (with_reducible exact ih0 _ _ _)
   | (with_reducible exact LeO.refl _)
   | (with_reducible exact LeO.none _)
   | (with_reducible refine LeO.ite ?_ ?_)
   | (with_reducible refine LeO.bind ?_ (fun _ => ?_))
   | exact ih0 _ _ _
   | exact LeO.none _
   | refine LeO.ite ?_ ?_
   | refine LeO.bind ?_ (fun _ => ?_)
set_option maxHeartbeats 8000000 in
set_option maxRecDepth 100000 in
theorem laws_eqIntS.calls (k : Nat) (A0 : Option Addr) (c0 : Nat) (l0 : List Int) (A1 : Option Addr) (c1 : Nat) (l1 : List Int) (r : Bool) (w : World) (hr0 : Kd.C (Kd.int .i64) w A0 l0.length l0) (hc0 : l0.length ≤ c0) (hr1 : Kd.C (Kd.int .i64) w A1 l1.length l1) (hc1 : l1.length ≤ c1) (h : laws_eqIntS.f k l0 l1 = some r) :
  Calls Try.prog 33 #[.slice A0 l0.length c0, .slice A1 l1.length c1] w fun e w' => e = .returned (.bool r) ∧ Drawn0 w w' := by
 have HR0 := Aside0.mk hr0
 clear hr0 hc0
 have HR1 := Aside0.mk hr1
 clear hr1 hc1
 have H : (if (l0.length : Int) = (l1.length : Int) then (laws_eqIntS.l0 k l0 l1 0) else (some false)) = some r := h
 clear h
 by_cases c3 : (l0.length : Int) = (l1.length : Int)
 ·rw [if_pos c3] at H
  have jB : ((l0.length : Int) == (l1.length : Int)) = true := beq_iff_eq.mpr c3
  have PB : ((l0.length : Int) != (l1.length : Int)) = false := bne_eq_false_iff_eq.mpr c3
  have JC : (l0.length == l1.length) = true := by first | simpa using c3 | (simp at c3 ⊢; omega)
  clear c3
  have H' := Aside0.mk H
  clear H
  go_enter Try.func33, Try.ntmps33
  go_wp2
  repeat (go_quiet (fail); try go_wp2)
  go_loopg [5] k (fun kq v5 w' => ∃ (gA : Int), v5 = .int .i64 gA ∧ Aside0 (laws_eqIntS.l0 kq l0 l1 gA = some r) ∧ Aside0 (kq ≤ k) ∧ Drawn0 w w')
  case atStart => exact ⟨(0), q1_12, H', ⟨Nat.le_refl _⟩, q1_16⟩
  case round =>
   clear H'
   (try clear c1); (try clear p2); (try clear c3); (try clear jB); (try clear PB); (try clear JC)
   obtain ⟨gA, rfl, HA, HK1, ⟨m1, rfl⟩⟩ := hrel
   cases gk with
   | zero => exact absurd HA.out (by simp [laws_eqIntS.l0])
   | succ k1 =>
    have H := HA.out
    clear HA
    simp only [laws_eqIntS.l0] at H
    by_cases c4 : gA < (l0.length : Int)
    ·rw [if_pos c4] at H
     have CB : decide (gA < (l0.length : Int)) = true := decide_eq_true c4
     clear c4
     by_cases c5 : 0 ≤ gA
     ·rw [if_pos c5] at H
      have gC : decide (0 ≤ gA) = true := decide_eq_true c5
      clear c5
      by_cases c6 : gA < (l1.length : Int)
      ·rw [if_pos c6] at H
       have hC : decide (gA < (l1.length : Int)) = true := decide_eq_true c6
       clear c6
       by_cases c7 : (rd l0 gA) = (rd l1 gA)
       ·rw [if_pos c7] at H
        have iC : ((rd l0 gA) == (rd l1 gA)) = true := beq_iff_eq.mpr c7
        have uC : ((rd l0 gA) != (rd l1 gA)) = false := bne_eq_false_iff_eq.mpr c7
        clear c7
        have H' := Aside0.mk H
        clear H
        have p103 : 0 ≤ (gA : Int) := of_decide_eq_true q1_8
        have q103 : gA < (l0.length : Int) := of_decide_eq_true q1_8
        obtain ⟨ad103, vC, jC⟩ := Kd.at_int HR0.out gA p103 q103
        cases vC
        replace p103 := eq_true p103
        replace q103 := eq_true q103
        have p104 : 0 ≤ (gA : Int) := of_decide_eq_true q1_8
        have q104 : gA < (l1.length : Int) := of_decide_eq_true q1_8
        obtain ⟨ad104, wC, kC⟩ := Kd.at_int HR1.out gA p104 q104
        cases wC
        replace p104 := eq_true p104
        replace q104 := eq_true q104
        go_wp2
        repeat (go_quiet (fail); try go_wp2)
        go_roundg k1
        case measure => have := HK1.out; omega
        case rel => exact ⟨(wrap64 (gA + 1)), q1_12, H', ⟨by have := HK1.out; omega⟩, q1_16⟩
       ·rw [if_neg c7] at H
        have iC : ((rd l0 gA) == (rd l1 gA)) = false := beq_eq_false_iff_ne.mpr c7
        have uC : ((rd l0 gA) != (rd l1 gA)) = true := bne_iff_ne.mpr c7
        obtain rfl := Option.some.inj H
        have p103 : 0 ≤ (gA : Int) := of_decide_eq_true q1_8
        have q103 : gA < (l0.length : Int) := of_decide_eq_true q1_8
        obtain ⟨ad103, vC, jC⟩ := Kd.at_int HR0.out gA p103 q103
        cases vC
        replace p103 := eq_true p103
        replace q103 := eq_true q103
        have p104 : 0 ≤ (gA : Int) := of_decide_eq_true q1_8
        have q104 : gA < (l1.length : Int) := of_decide_eq_true q1_8
        obtain ⟨ad104, wC, kC⟩ := Kd.at_int HR1.out gA p104 q104
        cases wC
        replace p104 := eq_true p104
        replace q104 := eq_true q104
        go_wp2
        repeat (go_quiet (fail); try go_wp2)
        go_ret
        exact ⟨q1_12, q1_16⟩
      ·rw [if_neg c6] at H
       exact absurd H (by simp)
     ·rw [if_neg c5] at H
      exact absurd H (by simp)
    ·rw [if_neg c4] at H
     have CB : decide (gA < (l0.length : Int)) = false := decide_eq_false c4
     clear c4
     obtain rfl := Option.some.inj H
     go_wp2
     repeat (go_quiet (fail); try go_wp2)
     go_ret
     exact ⟨q1_12, q1_16⟩
 ·rw [if_neg c3] at H
  have jB : ((l0.length : Int) == (l1.length : Int)) = false := beq_eq_false_iff_ne.mpr c3
  have PB : ((l0.length : Int) != (l1.length : Int)) = true := bne_iff_ne.mpr c3
  have JC : (l0.length == l1.length) = false := by first | simpa using c3 | (simp at c3 ⊢; omega)
  obtain rfl := Option.some.inj H
  go_enter Try.func33, Try.ntmps33
  go_wp2
  repeat (go_quiet (fail); try go_wp2)
  go_ret
  exact ⟨q1_12, q1_16⟩

/-! ### laws_eqMem: function 20 -/
def laws_eqMem.f (k : Nat) (hA : List Int) (ZA : List Int) : Option (Bool) := (laws_eqIntS.f k hA ZA).bind fun XB => (if XB = true then (some true) else (some false))
theorem laws_eqMem.mono : ∀ a0 a1 k, LeO (laws_eqMem.f k a0 a1) (laws_eqMem.f (k + 1) a0 a1) := by
 intro a0 a1 k
 unfold laws_eqMem.f
 repeat' first
   | (with_reducible exact laws_eqIntS.mono _ _ _)
   | (with_reducible exact LeO.refl _)
   | (with_reducible exact LeO.none _)
   | (with_reducible refine LeO.ite ?_ ?_)
   | (with_reducible refine LeO.bind ?_ (fun _ => ?_))
   | exact laws_eqIntS.mono _ _ _
   | exact LeO.none _
   | refine LeO.ite ?_ ?_
   | refine LeO.bind ?_ (fun _ => ?_)
set_option maxHeartbeats 8000000 in
set_option maxRecDepth 100000 in
theorem laws_eqMem.calls (k : Nat) (JA : Option Addr) (KA : Nat) (hA : List Int) (FB : Option Addr) (GB : Nat) (ZA : List Int) (r : Bool) (w : World) (fB : Kd.C (Kd.int .i64) w JA hA.length hA) (gB : hA.length ≤ KA) (nC : Kd.C (Kd.int .i64) w FB ZA.length ZA) (oC : ZA.length ≤ GB) (h : laws_eqMem.f k hA ZA = some r) :
  Calls Try.prog 20 #[.agg #[.slice JA hA.length KA], .agg #[.slice FB ZA.length GB]] w fun e w' => e = .returned (.bool r) ∧ Below w.heap.size w w' := by
 have hu29 := Try.underlying29
 have VB := Aside0.mk fB
 have iB := Aside0.mk gB
 clear fB gB
 have pC := Aside0.mk nC
 have qC := Aside0.mk oC
 clear nC oC
 have HB := Aside0.mk (Below.refl w.heap.size w)
 have H : ((laws_eqIntS.f k hA ZA).bind fun XB => (if XB = true then (some true) else (some false))) = some r := h
 clear h
 replace H := Option.bind_eq_some_iff.mp H
 obtain ⟨XB, A30, H⟩ := H
 (try dsimp only at H)
 have A3 := Aside0.mk A30
 clear A30
 by_cases c4 : XB = true
 ·subst c4
  rw [if_pos rfl] at H
  obtain rfl := Option.some.inj H
  go_enter Try.func20, Try.ntmps20
  go_wp2_with (first | ((with_reducible refine gate_dst (N := 2) rfl ?_); refine box_event ?hg (N := 2) ?hd (cs := #[.slice JA hA.length KA]) (t := 29) ?hr ?_; (case hd => rfl); (case hg => rfl); (case hr => first | (go_simp; done) | (go_simp; rfl)); intro OA hg w5 hbox hb; have sA := Aside0.mk (below_step q1_0 hb); have tA := Aside0.mk (hbox); have uA := Aside0.mk ((q1_7 : w.heap.size ≤ OA)); have vA := Aside0.mk ((q1_7 : w.heap.size ≤ OA)); clear HB; have HB := sA; have aB := tA; have KC := uA; have OB := vA; clear sA tA uA vA; clear hb hbox hg) | ((with_reducible refine gate_dst (N := 3) rfl ?_); refine box_event ?hg (N := 3) ?hd (cs := #[.slice FB ZA.length GB]) (t := 29) ?hr ?_; (case hd => rfl); (case hg => rfl); (case hr => first | (go_simp; done) | (go_simp; rfl)); intro XA hg w6 hbox hb; have sA := Aside0.mk (blk_below (g := OA) (o := .cells #[.slice JA hA.length KA] 29 (0, 0)) q1_14 hb); have tA := Aside0.mk (below_step q1_11 hb); have uA := Aside0.mk (hbox); have vA := Aside0.mk ((by rw [hg]; exact (below_size q1_11) : w.heap.size ≤ XA)); have RA := Aside0.mk ((by rw [hg]; exact (below_size q1_11) : w.heap.size ≤ XA)); have SA := Aside0.mk ((by rw [hg]; exact Nat.ne_of_lt (blk_lt (g := OA) (o := .cells #[.slice JA hA.length KA] 29 (0, 0)) q1_14) : OA ≠ XA)); have TA := Aside0.mk ((by rw [hg]; exact Nat.ne_of_gt (blk_lt (g := OA) (o := .cells #[.slice JA hA.length KA] 29 (0, 0)) q1_14) : XA ≠ OA)); clear aB HB; have aB := sA; have HB := tA; have IB := uA; have LC := vA; have YB := RA; have dB := SA; have eB := TA; clear sA tA uA vA RA SA TA; clear hb hbox hg; have AN := dB.out; have BN := eB.out; have ZB : w6.cell? ⟨OA, 0, none⟩ = some (.slice JA hA.length KA) := (blk_cell aB.out 0).trans rfl; have aC := blk_frozen aB.out 0; have xC : w6.cell? ⟨XA, 0, none⟩ = some (.slice FB ZA.length GB) := (blk_cell IB.out 0).trans rfl; have yC := blk_frozen IB.out 0) | ((with_reducible refine gate_callee (f := 33) rfl ?_); refine goesL_ (some 9) rfl rfl Try.func33 (by kernel_rfl) rfl #[.slice JA hA.length KA, .slice FB ZA.length GB] rfl q1_10 ?_; (with_reducible refine (laws_eqIntS.calls k _ _ hA _ _ ZA true _ ?side1 ?side2 ?side3 ?side4 A3.out).mono ?_); (case side1 => exact q1_9); (case side2 => exact iB.out); (case side3 => repeat (first | exact (Kd.C_below pC.out HB.out) | (with_reducible refine Kd.C_alloc ?_ _) | (with_reducible refine Kd.C_drewN ?_ _) | (with_reducible refine Kd.C_drew ?_))); (case side4 => exact qC.out); rintro e w' ⟨rfl, ⟨nd, rfl⟩⟩; refine ⟨_, rfl, ?_⟩))
  go_ret
  exact ⟨q1_6, by repeat (first | (with_reducible first | exact HB.out | apply below_alloc | apply pw_below_drewN | apply below_drew1 | refine below_set ?_ OB.out | refine below_set ?_ YB.out) | exact HB.out)⟩
 ·replace c4 := Bool.eq_false_iff.mpr c4
  subst c4
  rw [if_neg (show ¬ (false = true) by decide)] at H
  obtain rfl := Option.some.inj H
  go_enter Try.func20, Try.ntmps20
  go_wp2_with (first | ((with_reducible refine gate_dst (N := 2) rfl ?_); refine box_event ?hg (N := 2) ?hd (cs := #[.slice JA hA.length KA]) (t := 29) ?hr ?_; (case hd => rfl); (case hg => rfl); (case hr => first | (go_simp; done) | (go_simp; rfl)); intro OA hg XN hbox hb; have sA := Aside0.mk (below_step q1_0 hb); have tA := Aside0.mk (hbox); have uA := Aside0.mk ((q1_7 : w.heap.size ≤ OA)); have vA := Aside0.mk ((q1_7 : w.heap.size ≤ OA)); clear HB; have HB := sA; have aB := tA; have KC := uA; have OB := vA; clear sA tA uA vA; clear hb hbox hg) | ((with_reducible refine gate_dst (N := 3) rfl ?_); refine box_event ?hg (N := 3) ?hd (cs := #[.slice FB ZA.length GB]) (t := 29) ?hr ?_; (case hd => rfl); (case hg => rfl); (case hr => first | (go_simp; done) | (go_simp; rfl)); intro XA hg AC hbox hb; have sA := Aside0.mk (blk_below (g := OA) (o := .cells #[.slice JA hA.length KA] 29 (0, 0)) q1_14 hb); have tA := Aside0.mk (below_step q1_11 hb); have uA := Aside0.mk (hbox); have vA := Aside0.mk ((by rw [hg]; exact (below_size q1_11) : w.heap.size ≤ XA)); have RA := Aside0.mk ((by rw [hg]; exact (below_size q1_11) : w.heap.size ≤ XA)); have SA := Aside0.mk ((by rw [hg]; exact Nat.ne_of_lt (blk_lt (g := OA) (o := .cells #[.slice JA hA.length KA] 29 (0, 0)) q1_14) : OA ≠ XA)); have TA := Aside0.mk ((by rw [hg]; exact Nat.ne_of_gt (blk_lt (g := OA) (o := .cells #[.slice JA hA.length KA] 29 (0, 0)) q1_14) : XA ≠ OA)); clear aB HB; have aB := sA; have HB := tA; have IB := uA; have LC := vA; have YB := RA; have dB := SA; have eB := TA; clear sA tA uA vA RA SA TA; clear hb hbox hg; have kN := dB.out; have lN := eB.out; have rL : AC.cell? ⟨OA, 0, none⟩ = some (.slice JA hA.length KA) := (blk_cell aB.out 0).trans rfl; have sL := blk_frozen aB.out 0; have tL : AC.cell? ⟨XA, 0, none⟩ = some (.slice FB ZA.length GB) := (blk_cell IB.out 0).trans rfl; have uL := blk_frozen IB.out 0) | ((with_reducible refine gate_callee (f := 33) rfl ?_); refine goesL_ (some 9) rfl rfl Try.func33 (by kernel_rfl) rfl #[.slice JA hA.length KA, .slice FB ZA.length GB] rfl q1_10 ?_; (with_reducible refine (laws_eqIntS.calls k _ _ hA _ _ ZA false _ ?side1 ?side2 ?side3 ?side4 A3.out).mono ?_); (case side1 => exact q1_9); (case side2 => exact iB.out); (case side3 => repeat (first | exact (Kd.C_below pC.out HB.out) | (with_reducible refine Kd.C_alloc ?_ _) | (with_reducible refine Kd.C_drewN ?_ _) | (with_reducible refine Kd.C_drew ?_))); (case side4 => exact qC.out); rintro e w' ⟨rfl, ⟨nd, rfl⟩⟩; refine ⟨_, rfl, ?_⟩))
  go_ret
  exact ⟨q1_6, by repeat (first | (with_reducible first | exact HB.out | apply below_alloc | apply pw_below_drewN | apply below_drew1 | refine below_set ?_ OB.out | refine below_set ?_ YB.out) | exact HB.out)⟩

/-! ### laws_markIntS: function 34 -/
def laws_markIntS.l0 : Nat → List Int → Int → Int → Option (Int × List Int)
 | 0, _, _, _ => none
 | k + 1, x0, x1, x5 => if x5 < (x0.length : Int) then (if 0 ≤ x5 then (laws_markIntS.l0 k (x0.set (x5 : Int).toNat x1) (wrap64 (x1 + 1)) (wrap64 (x5 + 1))) else (none)) else (some (x1, x0))
def laws_markIntS.f (k : Nat) (l0 : List Int) (a1 : Int) : Option (Int × List Int) := laws_markIntS.l0 k l0 a1 0
theorem laws_markIntS.mono_l : ∀ k, (∀ y0 y1 y2, LeO (laws_markIntS.l0 k y0 y1 y2) (laws_markIntS.l0 (k + 1) y0 y1 y2))
 | 0 => fun _ _ _ r h => by simp [laws_markIntS.l0] at h
 | k + 1 => by
  have ih0 := laws_markIntS.mono_l k
  ·intro y0 y1 y2
   unfold laws_markIntS.l0
   repeat' first
   | (with_reducible exact ih0 _ _ _)
   | (with_reducible exact LeO.refl _)
   | (with_reducible exact LeO.none _)
   | (with_reducible refine LeO.ite ?_ ?_)
   | (with_reducible refine LeO.bind ?_ (fun _ => ?_))
   | exact ih0 _ _ _
   | exact LeO.none _
   | refine LeO.ite ?_ ?_
   | refine LeO.bind ?_ (fun _ => ?_)
theorem laws_markIntS.mono : ∀ a0 a1 k, LeO (laws_markIntS.f k a0 a1) (laws_markIntS.f (k + 1) a0 a1) := by
 intro a0 a1 k
 have ih0 := laws_markIntS.mono_l k
 unfold laws_markIntS.f
 repeat' first
   | (with_reducible exact ih0 _ _ _)
   | (with_reducible exact LeO.refl _)
   | (with_reducible exact LeO.none _)
   | (with_reducible refine LeO.ite ?_ ?_)
   | (with_reducible refine LeO.bind ?_ (fun _ => ?_))
   | exact ih0 _ _ _
   | exact LeO.none _
   | refine LeO.ite ?_ ?_
   | refine LeO.bind ?_ (fun _ => ?_)
set_option maxHeartbeats 8000000 in
set_option maxRecDepth 100000 in
theorem laws_markIntS.calls (k : Nat) (P0_ : Nat → Prop) (u9000_ : Value) (l0 : List Int) (a1 : Int) (r1 : Int) (r2 : List Int) (w0 w : World) (hB : Below w0.heap.size w0 w) (ho0 : Kd.R (Kd.int .i64) 3 w w0.heap.size P0_ u9000_ l0) (h : laws_markIntS.f k l0 a1 = some (r1, r2)) :
  Calls Try.prog 34 #[u9000_, .int .i64 a1] w fun e w' => e = .returned (.int .i64 r1) ∧ Kd.R (Kd.int .i64) 3 w' w0.heap.size (fun k_ => (P0_ k_ ∨ w.heap.size ≤ k_)) u9000_ r2 ∧ Below w0.heap.size w0 w' ∧ Kept w w' (fun k_ => P0_ k_) := by
 have CN := Aside0.mk (show Kd.R (Kd.int .i64) 3 w w0.heap.size (fun k_ => (P0_ k_ ∨ w.heap.size ≤ k_)) u9000_ l0 from Kd.R_mono ho0 (fun k_ hk => (.inl hk)))
 have HK := Aside0.mk (Kept.refl w (fun k_ => P0_ k_))
 have HW0 := Aside0.mk hB.size
 have HB := Aside0.mk hB
 clear hB
 have H : (laws_markIntS.l0 k l0 a1 0) = some (r1, r2) := h
 clear h
 have H' := Aside0.mk H
 clear H
 go_enter Try.func34, Try.ntmps34
 go_wp2
 go_loopg [1, 5] k (fun kq v1 v5 w' => ∃ (DB : List Int) (VA : Int) (gA : Int), v1 = .int .i64 VA ∧ v5 = .int .i64 gA ∧ Aside0 (laws_markIntS.l0 kq DB VA gA = some (r1, r2)) ∧ Aside0 (kq ≤ k) ∧ Aside0 (Kd.R (Kd.int .i64) 3 w' w0.heap.size (fun k_ => (P0_ k_ ∨ w.heap.size ≤ k_)) u9000_ DB) ∧ Aside0 (Kept w w' (fun k_ => P0_ k_)) ∧ Aside0 (Below w0.heap.size w0 w'))
 case atStart => exact ⟨(l0), (a1), (0), q1_12, q1_12, H', ⟨Nat.le_refl _⟩, ⟨by (with_reducible repeat (first | apply Kd.R_alloc | apply Kd.R_drewN | apply Kd.R_drew)); exact CN.out⟩, ⟨q1_17⟩, ⟨q1_0⟩⟩
 case round =>
  clear H'
  try clear p2
  obtain ⟨DB, VA, gA, rfl, rfl, HA, HK1, oB, HK, HB⟩ := hrel
  cases gk with
  | zero => exact absurd HA.out (by simp [laws_markIntS.l0])
  | succ k1 =>
   have H := HA.out
   clear HA
   simp only [laws_markIntS.l0] at H
   by_cases c3 : gA < (DB.length : Int)
   ·rw [if_pos c3] at H
    have jB : decide (gA < (DB.length : Int)) = true := decide_eq_true c3
    clear c3
    by_cases c4 : 0 ≤ gA
    ·rw [if_pos c4] at H
     have CB : decide (0 ≤ gA) = true := decide_eq_true c4
     clear c4
     obtain ⟨y108, hy108⟩ : ∃ y_ : List Int, y_ = (DB.set (gA : Int).toNat VA) := ⟨_, rfl⟩
     replace H : (laws_markIntS.l0 k1 y108 (wrap64 (VA + 1)) (wrap64 (gA + 1))) = some (r1, r2) := by first | (rw [hy108]; with_reducible exact H) | (have H2_ := (Option.bind_some _ _).symm.trans H; rw [hy108]; with_reducible exact H2_) | (have H2_ := (Option.bind_some _ _).symm.trans H; with_reducible exact H2_) | with_reducible exact H | (rw [hy108]; exact H) | exact H
     have Ny108 := Aside0.mk hy108
     clear hy108
     have H' := Aside0.mk H
     clear H
     obtain ⟨YN, DN, EN⟩ := Kd.R_slice oB.out
     subst EN
     have p5 : 0 ≤ (gA : Int) := of_decide_eq_true q1_8
     have q5 : (gA : Int) < ((DB.length : Int) : Int) := of_decide_eq_true q1_8
     obtain ⟨go5, ZN, mN, nN, gl5, cl5, HG5⟩ := Kd.R_form oB.out (by omega)
     (first | cases mN | (injection mN with ea_ en_ ec_; (first | subst ea_ | (injection ea_ with ea_; subst ea_)); subst ec_; clear en_))
     have GB5 := Aside0.mk nN
     have GG5 := Aside0.mk HG5
     clear nN gl5 HG5
     obtain ⟨oN, pN⟩ := Kd.R_celln 0 oB.out (gA : Int) p5 q5
     replace p5 := eq_true p5
     replace q5 := eq_true q5
     have HP7 := Kd.R_putg oB.out (gA : Int) VA
     go_wp2_with (first | ((with_reducible refine gate_store (t := 3) (p := 15) rfl ?_); refine store_event (t := 3) (p := 15) (v := ?vo_w8) (w1 := (wr.setCell ⟨go5, (gA : Int).toNat, none⟩ (.int .i64 VA))) ?hg ?ho ?hn ?hr ?_; (case ho => rfl); (case hg => rfl); (case hn => rfl); (case hr => first | (go_simp; done) | (go_simp; rfl)); intro w8 hw; have hg : wr.grownBy w8 (some go5) := (by rw [hw]; exact HP7.2); have hp_ : Kd.R (Kd.int .i64) 3 w8 w0.heap.size (fun k_ => (P0_ k_ ∨ w.heap.size ≤ k_)) (.slice (some ⟨go5, 0, none⟩) DB.length DN) y108 := (by rw [hw, Ny108.out]; exact HP7.1); clear HP7; have sA := Aside0.mk (hp_); have tA := Aside0.mk ((by rw [hw]; exact below_set (HB.out) GB5.out : Below w0.heap.size w0 w8)); have uA := Aside0.mk (Kept.of_grown (S := (fun k_ => P0_ k_)) hg q1_17 (fun k_ e_ => (oB.out.1 k_ e_))); clear oB HB HK; have oB := sA; have HB := tA; have HK := uA; clear sA tA uA; clear hg hw hp_))
     go_roundg k1
     case measure => have := HK1.out; omega
     case rel => exact ⟨(y108), (wrap64 (VA + 1)), (wrap64 (gA + 1)), q1_12, q1_12, H', ⟨by have := HK1.out; omega⟩, ⟨by (with_reducible repeat (first | apply Kd.R_alloc | apply Kd.R_drewN | apply Kd.R_drew)); exact oB.out⟩, ⟨q1_17⟩, ⟨q1_0⟩⟩
    ·rw [if_neg c4] at H
     exact absurd H (by simp)
   ·rw [if_neg c3] at H
    have jB : decide (gA < (DB.length : Int)) = false := decide_eq_false c3
    clear c3
    simp only [Option.some.injEq, Prod.mk.injEq] at H
    obtain ⟨rfl, rfl⟩ := H
    obtain ⟨aO, qN, vL⟩ := Kd.R_slice oB.out
    subst vL
    go_wp2
    go_ret
    exact ⟨q1_6, by (with_reducible repeat (first | apply Kd.R_alloc | apply Kd.R_drewN | apply Kd.R_drew)); exact oB.out, q1_0, q1_17⟩

/-! ### laws_markMem: function 21 -/
def laws_markMem.f (k : Nat) (hA : List Int) (a1 : Int) : Option (Int × List Int) := (laws_markIntS.f k hA a1).bind fun JB => (some (JB.1, JB.2))
theorem laws_markMem.mono : ∀ a0 a1 k, LeO (laws_markMem.f k a0 a1) (laws_markMem.f (k + 1) a0 a1) := by
 intro a0 a1 k
 unfold laws_markMem.f
 repeat' first
   | (with_reducible exact laws_markIntS.mono _ _ _)
   | (with_reducible exact LeO.refl _)
   | (with_reducible exact LeO.none _)
   | (with_reducible refine LeO.ite ?_ ?_)
   | (with_reducible refine LeO.bind ?_ (fun _ => ?_))
   | exact laws_markIntS.mono _ _ _
   | exact LeO.none _
   | refine LeO.ite ?_ ?_
   | refine LeO.bind ?_ (fun _ => ?_)
set_option maxHeartbeats 8000000 in
set_option maxRecDepth 100000 in
theorem laws_markMem.calls (k : Nat) (P0_0_ : Nat → Prop) (u9000_ : Value) (hA : List Int) (a1 : Int) (r1 : Int) (r2 : List Int) (w0 w : World) (hB : Below w0.heap.size w0 w) (ho0_0 : Kd.R (Kd.int .i64) 3 w w0.heap.size P0_0_ u9000_ hA) (h : laws_markMem.f k hA a1 = some (r1, r2)) :
  Calls Try.prog 21 #[.agg #[u9000_], .int .i64 a1] w fun e w' => e = .returned (.int .i64 r1) ∧ Kd.R (Kd.int .i64) 3 w' w0.heap.size (fun k_ => (P0_0_ k_ ∨ w.heap.size ≤ k_)) u9000_ r2 ∧ Below w0.heap.size w0 w' ∧ Kept w w' (fun k_ => P0_0_ k_) := by
 have hu29 := Try.underlying29
 have YA := Aside0.mk (show Kd.R (Kd.int .i64) 3 w w0.heap.size (fun k_ => (P0_0_ k_ ∨ w.heap.size ≤ k_)) u9000_ hA from Kd.R_mono ho0_0 (fun k_ hk => (.inl hk)))
 have HK := Aside0.mk (Kept.refl w (fun k_ => P0_0_ k_))
 have HW0 := Aside0.mk hB.size
 have HB := Aside0.mk hB
 clear hB
 have H : ((laws_markIntS.f k hA a1).bind fun JB => (some (JB.1, JB.2))) = some (r1, r2) := h
 clear h
 replace H := Option.bind_eq_some_iff.mp H
 obtain ⟨⟨VL, WL⟩, A30, H⟩ := H
 (try dsimp only at H)
 have A3 := Aside0.mk A30
 clear A30
 simp only [Option.some.injEq, Prod.mk.injEq] at H
 obtain ⟨rfl, rfl⟩ := H
 obtain ⟨MC, NC, FN⟩ := Kd.R_slice YA.out
 subst FN
 go_enter Try.func21, Try.ntmps21
 go_wp2_with (first | ((with_reducible refine gate_dst (N := 2) rfl ?_); refine box_event ?hg (N := 2) ?hd (cs := #[.slice MC hA.length NC]) (t := 29) ?hr ?_; (case hd => rfl); (case hg => rfl); (case hr => first | (go_simp; done) | (go_simp; rfl)); intro bC hg w5 hbox hb; have sA := Aside0.mk (Kd.R_below (by (with_reducible repeat (first | apply Kd.R_alloc | apply Kd.R_drewN | apply Kd.R_drew)); exact YA.out) hb); have tA := Aside0.mk (Kept.below (S := (fun k_ => P0_0_ k_)) q1_17 hb); have uA := Aside0.mk (below_step q1_0 hb); have vA := Aside0.mk (hbox); have RA := Aside0.mk ((by rw [hg]; exact (by first | exact HK.out.1 | exact (show Kept w _ (fun k_ => P0_0_ k_) from by repeat (first | (with_reducible first | exact HK.out | apply Kept.alloc | apply Kept.drewN | apply Kept.drew) | exact HK.out)).1) : w.heap.size ≤ bC)); have SA := Aside0.mk ((q1_7 : w0.heap.size ≤ bC)); clear YA HK HB; have YA := sA; have HK := tA; have HB := uA; have AB := vA; have rC := RA; have sC := SA; clear sA tA uA vA RA SA; clear hb hbox hg; have cC : w5.cell? ⟨bC, 0, none⟩ = some (.slice MC hA.length NC) := (blk_cell AB.out 0).trans rfl; have dC := blk_frozen AB.out 0) | ((with_reducible refine gate_callee (f := 34) rfl ?_); refine goesL_ (some 8) rfl rfl Try.func34 (by kernel_rfl) rfl #[.slice MC hA.length NC, .int .i64 a1] rfl q1_10 ?_; (with_reducible refine (laws_markIntS.calls k (fun k_ => some k_ = (.slice MC hA.length NC : Value).ownBlock) (.slice MC hA.length NC) hA a1 VL WL w0 _ ?side1 ?side2 A3.out).mono ?_); (case side1 => repeat (first | (with_reducible first | exact HB.out | apply below_alloc | apply pw_below_drewN | apply below_drew1 | refine below_set ?_ sC.out) | exact HB.out)); (case side2 => exact Kd.R_tight rfl YA.out); rintro e w7 ⟨rfl, hy0, hb, hkp⟩; refine ⟨_, rfl, ?_⟩; have sA := Aside0.mk (Kd.R_reok rfl hy0 (fun k_ e_ => YA.out.1 k_ e_)); have tA := Aside0.mk (blk_kept (by (with_reducible repeat (first | refine blk_drewN ?_ _ | refine blk_drew ?_ | refine blk_alloc ?_ _)); exact AB.out) hkp (fun hs_ => (fun e_ => (Kd.R_ne YA.out AB.out (by decide)) e_) hs_)); have uA := Aside0.mk (Kept.then_ (S := (fun k_ => P0_0_ k_)) (by repeat (first | (with_reducible first | exact HK.out | apply Kept.alloc | apply Kept.drewN | apply Kept.drew | refine Kept.setCell ?_ (.inr rC.out) _) | exact HK.out)) hkp (fun k_ hs_ => (fun e_ => (YA.out.1 k_ e_.symm)) hs_)); have vA := Aside0.mk (hb); clear YA AB HK HB; have YA := sA; have AB := tA; have HK := uA; have HB := vA; clear sA tA uA vA; (try clear hb); (try clear hkp); (try clear hy0)))
 go_ret
 exact ⟨q1_6, by (with_reducible repeat (first | apply Kd.R_alloc | apply Kd.R_drewN | apply Kd.R_drew)); exact YA.out, by repeat (first | (with_reducible first | exact HB.out | apply below_alloc | apply pw_below_drewN | apply below_drew1 | refine below_set ?_ sC.out) | exact HB.out), by repeat (first | (with_reducible first | exact HK.out | apply Kept.alloc | apply Kept.drewN | apply Kept.drew | refine Kept.setCell ?_ (.inr rC.out) _) | exact HK.out)⟩

/-! ### laws_heldIntS: function 35 -/
def laws_heldIntS.l0 : Nat → List Int → Int → Int → Option (Int)
 | 0, _, _, _ => none
 | k + 1, x0, x1, x5 => if x5 < (x0.length : Int) then (if 0 ≤ x5 then (if (rd x0 x5) = x1 then (laws_heldIntS.l0 k x0 (wrap64 (x1 + 1)) (wrap64 (x5 + 1))) else (some (-1))) else (none)) else (some x1)
def laws_heldIntS.f (k : Nat) (l0 : List Int) (a1 : Int) : Option (Int) := laws_heldIntS.l0 k l0 a1 0
theorem laws_heldIntS.mono_l : ∀ k, (∀ y0 y1 y2, LeO (laws_heldIntS.l0 k y0 y1 y2) (laws_heldIntS.l0 (k + 1) y0 y1 y2))
 | 0 => fun _ _ _ r h => by simp [laws_heldIntS.l0] at h
 | k + 1 => by
  have ih0 := laws_heldIntS.mono_l k
  ·intro y0 y1 y2
   unfold laws_heldIntS.l0
   repeat' first
   | (with_reducible exact ih0 _ _ _)
   | (with_reducible exact LeO.refl _)
   | (with_reducible exact LeO.none _)
   | (with_reducible refine LeO.ite ?_ ?_)
   | (with_reducible refine LeO.bind ?_ (fun _ => ?_))
   | exact ih0 _ _ _
   | exact LeO.none _
   | refine LeO.ite ?_ ?_
   | refine LeO.bind ?_ (fun _ => ?_)
theorem laws_heldIntS.mono : ∀ a0 a1 k, LeO (laws_heldIntS.f k a0 a1) (laws_heldIntS.f (k + 1) a0 a1) := by
 intro a0 a1 k
 have ih0 := laws_heldIntS.mono_l k
 unfold laws_heldIntS.f
 repeat' first
   | (with_reducible exact ih0 _ _ _)
   | (with_reducible exact LeO.refl _)
   | (with_reducible exact LeO.none _)
   | (with_reducible refine LeO.ite ?_ ?_)
   | (with_reducible refine LeO.bind ?_ (fun _ => ?_))
   | exact ih0 _ _ _
   | exact LeO.none _
   | refine LeO.ite ?_ ?_
   | refine LeO.bind ?_ (fun _ => ?_)
set_option maxHeartbeats 8000000 in
set_option maxRecDepth 100000 in
theorem laws_heldIntS.calls (k : Nat) (A0 : Option Addr) (c0 : Nat) (l0 : List Int) (a1 : Int) (r : Int) (w : World) (hr0 : Kd.C (Kd.int .i64) w A0 l0.length l0) (hc0 : l0.length ≤ c0) (h : laws_heldIntS.f k l0 a1 = some r) :
  Calls Try.prog 35 #[.slice A0 l0.length c0, .int .i64 a1] w fun e w' => e = .returned (.int .i64 r) ∧ Drawn0 w w' := by
 have HR0 := Aside0.mk hr0
 clear hr0 hc0
 have H : (laws_heldIntS.l0 k l0 a1 0) = some r := h
 clear h
 have H' := Aside0.mk H
 clear H
 go_enter Try.func35, Try.ntmps35
 go_wp2
 go_loopg [1, 5] k (fun kq v1 v5 w' => ∃ (VA : Int) (gA : Int), v1 = .int .i64 VA ∧ v5 = .int .i64 gA ∧ Aside0 (laws_heldIntS.l0 kq l0 VA gA = some r) ∧ Aside0 (kq ≤ k) ∧ Drawn0 w w')
 case atStart => exact ⟨(a1), (0), q1_12, q1_12, H', ⟨Nat.le_refl _⟩, q1_16⟩
 case round =>
  clear H'
  try clear p2
  obtain ⟨VA, gA, rfl, rfl, HA, HK1, ⟨m1, rfl⟩⟩ := hrel
  cases gk with
  | zero => exact absurd HA.out (by simp [laws_heldIntS.l0])
  | succ k1 =>
   have H := HA.out
   clear HA
   simp only [laws_heldIntS.l0] at H
   by_cases c3 : gA < (l0.length : Int)
   ·rw [if_pos c3] at H
    have jB : decide (gA < (l0.length : Int)) = true := decide_eq_true c3
    clear c3
    by_cases c4 : 0 ≤ gA
    ·rw [if_pos c4] at H
     have CB : decide (0 ≤ gA) = true := decide_eq_true c4
     clear c4
     by_cases c5 : (rd l0 gA) = VA
     ·rw [if_pos c5] at H
      have gC : ((rd l0 gA) == VA) = true := beq_iff_eq.mpr c5
      have tC : ((rd l0 gA) != VA) = false := bne_eq_false_iff_eq.mpr c5
      clear c5
      have H' := Aside0.mk H
      clear H
      have p112 : 0 ≤ (gA : Int) := of_decide_eq_true q1_8
      have q112 : gA < (l0.length : Int) := of_decide_eq_true q1_8
      obtain ⟨ad112, zC, lC⟩ := Kd.at_int HR0.out gA p112 q112
      cases zC
      replace p112 := eq_true p112
      replace q112 := eq_true q112
      go_wp2
      go_roundg k1
      case measure => have := HK1.out; omega
      case rel => exact ⟨(wrap64 (VA + 1)), (wrap64 (gA + 1)), q1_12, q1_12, H', ⟨by have := HK1.out; omega⟩, q1_16⟩
     ·rw [if_neg c5] at H
      have gC : ((rd l0 gA) == VA) = false := beq_eq_false_iff_ne.mpr c5
      have tC : ((rd l0 gA) != VA) = true := bne_iff_ne.mpr c5
      obtain rfl := Option.some.inj H
      have p112 : 0 ≤ (gA : Int) := of_decide_eq_true q1_8
      have q112 : gA < (l0.length : Int) := of_decide_eq_true q1_8
      obtain ⟨ad112, zC, lC⟩ := Kd.at_int HR0.out gA p112 q112
      cases zC
      replace p112 := eq_true p112
      replace q112 := eq_true q112
      go_wp2
      go_ret
      exact ⟨q1_12, q1_16⟩
    ·rw [if_neg c4] at H
     exact absurd H (by simp)
   ·rw [if_neg c3] at H
    have jB : decide (gA < (l0.length : Int)) = false := decide_eq_false c3
    clear c3
    obtain rfl := Option.some.inj H
    go_wp2
    go_ret
    exact ⟨q1_12, q1_16⟩

/-! ### laws_heldMem: function 22 -/
def laws_heldMem.f (k : Nat) (hA : List Int) (a1 : Int) : Option (Int) := (laws_heldIntS.f k hA a1).bind fun kB => (if kB < 0 then (some (-1)) else (some kB))
theorem laws_heldMem.mono : ∀ a0 a1 k, LeO (laws_heldMem.f k a0 a1) (laws_heldMem.f (k + 1) a0 a1) := by
 intro a0 a1 k
 unfold laws_heldMem.f
 repeat' first
   | (with_reducible exact laws_heldIntS.mono _ _ _)
   | (with_reducible exact LeO.refl _)
   | (with_reducible exact LeO.none _)
   | (with_reducible refine LeO.ite ?_ ?_)
   | (with_reducible refine LeO.bind ?_ (fun _ => ?_))
   | exact laws_heldIntS.mono _ _ _
   | exact LeO.none _
   | refine LeO.ite ?_ ?_
   | refine LeO.bind ?_ (fun _ => ?_)
set_option maxHeartbeats 8000000 in
set_option maxRecDepth 100000 in
theorem laws_heldMem.calls (k : Nat) (JA : Option Addr) (KA : Nat) (hA : List Int) (a1 : Int) (r : Int) (w : World) (fB : Kd.C (Kd.int .i64) w JA hA.length hA) (gB : hA.length ≤ KA) (h : laws_heldMem.f k hA a1 = some r) :
  Calls Try.prog 22 #[.agg #[.slice JA hA.length KA], .int .i64 a1] w fun e w' => e = .returned (.int .i64 r) ∧ Below w.heap.size w w' := by
 have hu29 := Try.underlying29
 have VB := Aside0.mk fB
 have iB := Aside0.mk gB
 clear fB gB
 have HB := Aside0.mk (Below.refl w.heap.size w)
 have H : ((laws_heldIntS.f k hA a1).bind fun kB => (if kB < 0 then (some (-1)) else (some kB))) = some r := h
 clear h
 replace H := Option.bind_eq_some_iff.mp H
 obtain ⟨kB, A30, H⟩ := H
 (try dsimp only at H)
 have A3 := Aside0.mk A30
 clear A30
 by_cases c4 : kB < 0
 ·rw [if_pos c4] at H
  have CB : decide (kB < 0) = true := decide_eq_true c4
  clear c4
  obtain rfl := Option.some.inj H
  go_enter Try.func22, Try.ntmps22
  go_wp2_with (first | ((with_reducible refine gate_dst (N := 2) rfl ?_); refine box_event ?hg (N := 2) ?hd (cs := #[.slice JA hA.length KA]) (t := 29) ?hr ?_; (case hd => rfl); (case hg => rfl); (case hr => first | (go_simp; done) | (go_simp; rfl)); intro lB hg w5 hbox hb; have sA := Aside0.mk (below_step q1_0 hb); have tA := Aside0.mk (hbox); have uA := Aside0.mk ((q1_7 : w.heap.size ≤ lB)); have vA := Aside0.mk ((q1_7 : w.heap.size ≤ lB)); clear HB; have HB := sA; have KB := tA; have OC := uA; have eC := vA; clear sA tA uA vA; clear hb hbox hg; have cC : w5.cell? ⟨lB, 0, none⟩ = some (.slice JA hA.length KA) := (blk_cell KB.out 0).trans rfl; have dC := blk_frozen KB.out 0) | ((with_reducible refine gate_callee (f := 35) rfl ?_); refine goesL_ (some 8) rfl rfl Try.func35 (by kernel_rfl) rfl #[.slice JA hA.length KA, .int .i64 a1] rfl q1_10 ?_; (with_reducible refine (laws_heldIntS.calls k _ _ hA a1 kB _ ?side1 ?side2 A3.out).mono ?_); (case side1 => exact q1_9); (case side2 => exact iB.out); rintro e w' ⟨rfl, ⟨nd, rfl⟩⟩; refine ⟨_, rfl, ?_⟩))
  go_ret
  exact ⟨q1_6, by repeat (first | (with_reducible first | exact HB.out | apply below_alloc | apply pw_below_drewN | apply below_drew1 | refine below_set ?_ eC.out) | exact HB.out)⟩
 ·rw [if_neg c4] at H
  have CB : decide (kB < 0) = false := decide_eq_false c4
  clear c4
  obtain rfl := Option.some.inj H
  go_enter Try.func22, Try.ntmps22
  go_wp2_with (first | ((with_reducible refine gate_dst (N := 2) rfl ?_); refine box_event ?hg (N := 2) ?hd (cs := #[.slice JA hA.length KA]) (t := 29) ?hr ?_; (case hd => rfl); (case hg => rfl); (case hr => first | (go_simp; done) | (go_simp; rfl)); intro lB hg w7 hbox hb; have sA := Aside0.mk (below_step q1_0 hb); have tA := Aside0.mk (hbox); have uA := Aside0.mk ((q1_7 : w.heap.size ≤ lB)); have vA := Aside0.mk ((q1_7 : w.heap.size ≤ lB)); clear HB; have HB := sA; have KB := tA; have OC := uA; have eC := vA; clear sA tA uA vA; clear hb hbox hg; have ZB : w7.cell? ⟨lB, 0, none⟩ = some (.slice JA hA.length KA) := (blk_cell KB.out 0).trans rfl; have aC := blk_frozen KB.out 0) | ((with_reducible refine gate_callee (f := 35) rfl ?_); refine goesL_ (some 8) rfl rfl Try.func35 (by kernel_rfl) rfl #[.slice JA hA.length KA, .int .i64 a1] rfl q1_10 ?_; (with_reducible refine (laws_heldIntS.calls k _ _ hA a1 kB _ ?side1 ?side2 A3.out).mono ?_); (case side1 => exact q1_9); (case side2 => exact iB.out); rintro e w' ⟨rfl, ⟨nd, rfl⟩⟩; refine ⟨_, rfl, ?_⟩))
  go_ret
  exact ⟨q1_6, by repeat (first | (with_reducible first | exact HB.out | apply below_alloc | apply pw_below_drewN | apply below_drew1 | refine below_set ?_ eC.out) | exact HB.out)⟩

/-! ### laws_toCall: function 24 -/
def laws_toCall.f (iA : Int) (jA : Int) (kA : Int) (lA : Int) (mA : Int) (nA : Int) (oA : Int) (qA : Int) (rA : Int) (pA : Bool) : Option (Int × Int × Int × Int × Int × Int × Int × Int × Int × Bool) := some (iA, jA, kA, lA, mA, nA, oA, qA, rA, pA)
set_option maxHeartbeats 8000000 in
set_option maxRecDepth 100000 in
theorem laws_toCall.calls (iA : Int) (jA : Int) (kA : Int) (lA : Int) (mA : Int) (nA : Int) (oA : Int) (qA : Int) (rA : Int) (pA : Bool) (r1 : Int) (r2 : Int) (r3 : Int) (r4 : Int) (r5 : Int) (r6 : Int) (r7 : Int) (r8 : Int) (r9 : Int) (r10 : Bool) (w : World) (h : laws_toCall.f iA jA kA lA mA nA oA qA rA pA = some (r1, r2, r3, r4, r5, r6, r7, r8, r9, r10)) :
  Calls Try.prog 24 #[.agg #[.int .i64 iA, .int .i64 jA, .int .i64 kA, .int .i64 lA, .int .i64 mA, .int .i64 nA, .int .i64 oA, .int .i64 qA, .int .i64 rA, .bool pA]] w fun e w' => e = .returned (.agg #[.int .i64 r1, .int .i64 r2, .int .i64 r3, .int .i64 r4, .int .i64 r5, .int .i64 r6, .int .i64 r7, .int .i64 r8, .int .i64 r9, .bool r10]) ∧ Below w.heap.size w w' := by
 have hu35 := Try.underlying35
 have hu23 := Try.underlying23
 have HB := Aside0.mk (Below.refl w.heap.size w)
 have H : (some (iA, jA, kA, lA, mA, nA, oA, qA, rA, pA)) = some (r1, r2, r3, r4, r5, r6, r7, r8, r9, r10) := h
 clear h
 simp only [Option.some.injEq, Prod.mk.injEq] at H
 obtain ⟨rfl, rfl, rfl, rfl, rfl, rfl, rfl, rfl, rfl, rfl⟩ := H
 go_enter Try.func24, Try.ntmps24
 go_wp2_with (first | ((with_reducible refine gate_dst (N := 1) rfl ?_); refine box_event ?hg (N := 1) ?hd (cs := #[.int .i64 iA, .int .i64 jA, .int .i64 kA, .int .i64 lA, .int .i64 mA, .int .i64 nA, .int .i64 oA, .int .i64 qA, .int .i64 rA, .bool pA]) (t := 35) ?hr ?_; (case hd => rfl); (case hg => rfl); (case hr => first | (go_simp; done) | (go_simp; rfl)); intro LA hg w2 hbox hb; have sA := Aside0.mk (below_step q1_0 hb); have tA := Aside0.mk (hbox); have uA := Aside0.mk ((q1_7 : w.heap.size ≤ LA)); have vA := Aside0.mk ((q1_7 : w.heap.size ≤ LA)); clear HB; have HB := sA; have wA := tA; have rN := uA; have WB := vA; clear sA tA uA vA; clear hb hbox hg) | ((with_reducible refine gate_dst (N := 2) rfl ?_); refine box_event ?hg (N := 2) ?hd (cs := #[.int .i64 0, .int .i64 0, .int .i64 0, .int .i64 0, .int .i64 0, .int .i64 0, .int .i64 0, .int .i64 0, .int .i64 0, .bool false]) (t := 23) ?hr ?_; (case hd => rfl); (case hg => rfl); (case hr => first | (go_simp; done) | (go_simp; rfl)); intro MA hg w3 hbox hb; have sA := Aside0.mk (blk_below (g := LA) (o := .cells #[.int .i64 iA, .int .i64 jA, .int .i64 kA, .int .i64 lA, .int .i64 mA, .int .i64 nA, .int .i64 oA, .int .i64 qA, .int .i64 rA, .bool pA] 35 (0, 0)) q1_15 hb); have tA := Aside0.mk (below_step q1_19 hb); have uA := Aside0.mk (hbox); have vA := Aside0.mk ((by rw [hg]; exact (below_size q1_19) : w.heap.size ≤ MA)); have RA := Aside0.mk ((by rw [hg]; exact (below_size q1_19) : w.heap.size ≤ MA)); have SA := Aside0.mk ((q1_20 : LA ≠ MA)); have TA := Aside0.mk ((q1_21 : MA ≠ LA)); clear wA HB; have wA := sA; have HB := tA; have xA := uA; have sN := vA; have mC := RA; have QB := SA; have RB := TA; clear sA tA uA vA RA SA TA; clear hb hbox hg) | ((with_reducible refine gate_dst (N := 3) rfl ?_); refine box_event ?hg (N := 3) ?hd (cs := #[.int .i64 0, .int .i64 0, .int .i64 0, .int .i64 0, .int .i64 0, .int .i64 0, .int .i64 0, .int .i64 0, .int .i64 0, .bool false]) (t := 23) ?hr ?_; (case hd => rfl); (case hg => rfl); (case hr => first | (go_simp; done) | (go_simp; rfl)); intro PA hg w4 hbox hb; have sA := Aside0.mk (blk_below (g := LA) (o := .cells #[.int .i64 iA, .int .i64 jA, .int .i64 kA, .int .i64 lA, .int .i64 mA, .int .i64 nA, .int .i64 oA, .int .i64 qA, .int .i64 rA, .bool pA] 35 (0, 0)) q1_15 hb); have tA := Aside0.mk (blk_below (g := MA) (o := .cells #[.int .i64 0, .int .i64 0, .int .i64 0, .int .i64 0, .int .i64 0, .int .i64 0, .int .i64 0, .int .i64 0, .int .i64 0, .bool false] 23 (0, 0)) q1_22 hb); have uA := Aside0.mk (below_step q1_18 hb); have vA := Aside0.mk (hbox); have RA := Aside0.mk ((by rw [hg]; exact (below_size q1_18) : w.heap.size ≤ PA)); have SA := Aside0.mk ((by rw [hg]; exact (below_size q1_18) : w.heap.size ≤ PA)); have TA := Aside0.mk ((q1_20 : LA ≠ PA)); have tN := Aside0.mk ((q1_21 : PA ≠ LA)); have uN := Aside0.mk ((by rw [hg]; exact Nat.ne_of_lt (blk_lt (g := MA) (o := .cells #[.int .i64 0, .int .i64 0, .int .i64 0, .int .i64 0, .int .i64 0, .int .i64 0, .int .i64 0, .int .i64 0, .int .i64 0, .bool false] 23 (0, 0)) q1_22) : MA ≠ PA)); have vN := Aside0.mk ((by rw [hg]; exact Nat.ne_of_gt (blk_lt (g := MA) (o := .cells #[.int .i64 0, .int .i64 0, .int .i64 0, .int .i64 0, .int .i64 0, .int .i64 0, .int .i64 0, .int .i64 0, .int .i64 0, .bool false] 23 (0, 0)) q1_22) : PA ≠ MA)); clear wA xA HB; have wA := sA; have xA := tA; have HB := uA; have NA := vA; have wN := RA; have PC := SA; have SB := TA; have TB := tN; have BB := uN; have UB := vN; clear sA tA uA vA RA SA TA tN uN vN; clear hb hbox hg; have GN := QB.out; have HN := RB.out; have IN := SB.out; have JN := TB.out; have XL : w4.cell? ⟨LA, 0, none⟩ = some (.int .i64 iA) := (blk_cell wA.out 0).trans rfl; have YL : w4.cell? ⟨LA, 1, none⟩ = some (.int .i64 jA) := (blk_cell wA.out 1).trans rfl; have ZL : w4.cell? ⟨LA, 2, none⟩ = some (.int .i64 kA) := (blk_cell wA.out 2).trans rfl; have aM : w4.cell? ⟨LA, 3, none⟩ = some (.int .i64 lA) := (blk_cell wA.out 3).trans rfl; have bM : w4.cell? ⟨LA, 4, none⟩ = some (.int .i64 mA) := (blk_cell wA.out 4).trans rfl; have cM : w4.cell? ⟨LA, 5, none⟩ = some (.int .i64 nA) := (blk_cell wA.out 5).trans rfl; have dM : w4.cell? ⟨LA, 6, none⟩ = some (.int .i64 oA) := (blk_cell wA.out 6).trans rfl; have eM : w4.cell? ⟨LA, 7, none⟩ = some (.int .i64 qA) := (blk_cell wA.out 7).trans rfl; have fM : w4.cell? ⟨LA, 8, none⟩ = some (.int .i64 rA) := (blk_cell wA.out 8).trans rfl; have gM : w4.cell? ⟨LA, 9, none⟩ = some (.bool pA) := (blk_cell wA.out 9).trans rfl; have hM := blk_frozen wA.out 0; have iM := blk_frozen wA.out 1; have jM := blk_frozen wA.out 2; have kM := blk_frozen wA.out 3; have lM := blk_frozen wA.out 4; have mM := blk_frozen wA.out 5; have nM := blk_frozen wA.out 6; have oM := blk_frozen wA.out 7; have pM := blk_frozen wA.out 8; have qM := blk_frozen wA.out 9; have KN := UB.out; have LN := BB.out; have xC : w4.cell? ⟨PA, 0, none⟩ = some (.int .i64 0) := (blk_cell NA.out 0).trans rfl; have rM : w4.cell? ⟨PA, 1, none⟩ = some (.int .i64 0) := (blk_cell NA.out 1).trans rfl; have sM : w4.cell? ⟨PA, 2, none⟩ = some (.int .i64 0) := (blk_cell NA.out 2).trans rfl; have tM : w4.cell? ⟨PA, 3, none⟩ = some (.int .i64 0) := (blk_cell NA.out 3).trans rfl; have uM : w4.cell? ⟨PA, 4, none⟩ = some (.int .i64 0) := (blk_cell NA.out 4).trans rfl; have vM : w4.cell? ⟨PA, 5, none⟩ = some (.int .i64 0) := (blk_cell NA.out 5).trans rfl; have wM : w4.cell? ⟨PA, 6, none⟩ = some (.int .i64 0) := (blk_cell NA.out 6).trans rfl; have xM : w4.cell? ⟨PA, 7, none⟩ = some (.int .i64 0) := (blk_cell NA.out 7).trans rfl; have yM : w4.cell? ⟨PA, 8, none⟩ = some (.int .i64 0) := (blk_cell NA.out 8).trans rfl; have zM : w4.cell? ⟨PA, 9, none⟩ = some (.bool false) := (blk_cell NA.out 9).trans rfl; have yC := blk_frozen NA.out 0; have AM := blk_frozen NA.out 1; have BM := blk_frozen NA.out 2; have CM := blk_frozen NA.out 3; have DM := blk_frozen NA.out 4; have EM := blk_frozen NA.out 5; have FM := blk_frozen NA.out 6; have GM := blk_frozen NA.out 7; have HM := blk_frozen NA.out 8; have IM := blk_frozen NA.out 9; have wL : w4.cell? ⟨MA, 0, none⟩ = some (.int .i64 0) := (blk_cell xA.out 0).trans rfl; have xL : w4.cell? ⟨MA, 1, none⟩ = some (.int .i64 0) := (blk_cell xA.out 1).trans rfl; have yL : w4.cell? ⟨MA, 2, none⟩ = some (.int .i64 0) := (blk_cell xA.out 2).trans rfl; have zL : w4.cell? ⟨MA, 3, none⟩ = some (.int .i64 0) := (blk_cell xA.out 3).trans rfl; have AL : w4.cell? ⟨MA, 4, none⟩ = some (.int .i64 0) := (blk_cell xA.out 4).trans rfl; have BL : w4.cell? ⟨MA, 5, none⟩ = some (.int .i64 0) := (blk_cell xA.out 5).trans rfl; have CL : w4.cell? ⟨MA, 6, none⟩ = some (.int .i64 0) := (blk_cell xA.out 6).trans rfl; have DL : w4.cell? ⟨MA, 7, none⟩ = some (.int .i64 0) := (blk_cell xA.out 7).trans rfl; have EL : w4.cell? ⟨MA, 8, none⟩ = some (.int .i64 0) := (blk_cell xA.out 8).trans rfl; have FL : w4.cell? ⟨MA, 9, none⟩ = some (.bool false) := (blk_cell xA.out 9).trans rfl; have GL := blk_frozen xA.out 0; have HL := blk_frozen xA.out 1; have IL := blk_frozen xA.out 2; have JL := blk_frozen xA.out 3; have KL := blk_frozen xA.out 4; have LL := blk_frozen xA.out 5; have ML := blk_frozen xA.out 6; have NL := blk_frozen xA.out 7; have OL := blk_frozen xA.out 8; have PL := blk_frozen xA.out 9))
 refine bodyPost_ret (results_cell_row rfl _ _ MA 23 #[.int .i64 iA, .int .i64 jA, .int .i64 kA, .int .i64 lA, .int .i64 mA, .int .i64 nA, .int .i64 oA, .int .i64 qA, .int .i64 rA, .bool pA] (0, 0) _ rfl (by (with_reducible repeat (first | refine blk_drewN ?_ _ | refine blk_drew ?_ | refine blk_alloc ?_ _)); refine blk_put (cs := #[.int .i64 iA, .int .i64 jA, .int .i64 kA, .int .i64 lA, .int .i64 mA, .int .i64 nA, .int .i64 oA, .int .i64 qA, .int .i64 rA, .bool false]) ?_ 9 _ rfl; (with_reducible repeat (first | refine blk_drewN ?_ _ | refine blk_drew ?_ | refine blk_alloc ?_ _)); refine blk_put (cs := #[.int .i64 iA, .int .i64 jA, .int .i64 kA, .int .i64 lA, .int .i64 mA, .int .i64 nA, .int .i64 oA, .int .i64 qA, .int .i64 0, .bool false]) ?_ 8 _ rfl; (with_reducible repeat (first | refine blk_drewN ?_ _ | refine blk_drew ?_ | refine blk_alloc ?_ _)); refine blk_put (cs := #[.int .i64 iA, .int .i64 jA, .int .i64 kA, .int .i64 lA, .int .i64 mA, .int .i64 nA, .int .i64 oA, .int .i64 0, .int .i64 0, .bool false]) ?_ 7 _ rfl; (with_reducible repeat (first | refine blk_drewN ?_ _ | refine blk_drew ?_ | refine blk_alloc ?_ _)); refine blk_put (cs := #[.int .i64 iA, .int .i64 jA, .int .i64 kA, .int .i64 lA, .int .i64 mA, .int .i64 nA, .int .i64 0, .int .i64 0, .int .i64 0, .bool false]) ?_ 6 _ rfl; (with_reducible repeat (first | refine blk_drewN ?_ _ | refine blk_drew ?_ | refine blk_alloc ?_ _)); refine blk_put (cs := #[.int .i64 iA, .int .i64 jA, .int .i64 kA, .int .i64 lA, .int .i64 mA, .int .i64 0, .int .i64 0, .int .i64 0, .int .i64 0, .bool false]) ?_ 5 _ rfl; (with_reducible repeat (first | refine blk_drewN ?_ _ | refine blk_drew ?_ | refine blk_alloc ?_ _)); refine blk_put (cs := #[.int .i64 iA, .int .i64 jA, .int .i64 kA, .int .i64 lA, .int .i64 0, .int .i64 0, .int .i64 0, .int .i64 0, .int .i64 0, .bool false]) ?_ 4 _ rfl; (with_reducible repeat (first | refine blk_drewN ?_ _ | refine blk_drew ?_ | refine blk_alloc ?_ _)); refine blk_put (cs := #[.int .i64 iA, .int .i64 jA, .int .i64 kA, .int .i64 0, .int .i64 0, .int .i64 0, .int .i64 0, .int .i64 0, .int .i64 0, .bool false]) ?_ 3 _ rfl; (with_reducible repeat (first | refine blk_drewN ?_ _ | refine blk_drew ?_ | refine blk_alloc ?_ _)); refine blk_put (cs := #[.int .i64 iA, .int .i64 jA, .int .i64 0, .int .i64 0, .int .i64 0, .int .i64 0, .int .i64 0, .int .i64 0, .int .i64 0, .bool false]) ?_ 2 _ rfl; (with_reducible repeat (first | refine blk_drewN ?_ _ | refine blk_drew ?_ | refine blk_alloc ?_ _)); refine blk_put (cs := #[.int .i64 iA, .int .i64 0, .int .i64 0, .int .i64 0, .int .i64 0, .int .i64 0, .int .i64 0, .int .i64 0, .int .i64 0, .bool false]) ?_ 1 _ rfl; (with_reducible repeat (first | refine blk_drewN ?_ _ | refine blk_drew ?_ | refine blk_alloc ?_ _)); refine blk_put (cs := #[.int .i64 0, .int .i64 0, .int .i64 0, .int .i64 0, .int .i64 0, .int .i64 0, .int .i64 0, .int .i64 0, .int .i64 0, .bool false]) ?_ 0 _ rfl; (iterate 10 ((with_reducible repeat (first | refine blk_drewN ?_ _ | refine blk_drew ?_ | refine blk_alloc ?_ _)); refine blk_far ?_ BB.out _)); (with_reducible repeat (first | refine blk_drewN ?_ _ | refine blk_drew ?_ | refine blk_alloc ?_ _)); exact xA.out) Try.underlying23 rfl (by kernel_rfl)) rfl ?_
 exact ⟨q1_6, by repeat (first | (with_reducible first | exact HB.out | apply below_alloc | apply pw_below_drewN | apply below_drew1 | refine below_set ?_ WB.out | refine below_set ?_ mC.out | refine below_set ?_ PC.out) | exact HB.out)⟩

/-! ### laws_szIntS: function 63 -/
def laws_szIntS.f (l0 : List Int) (a1 : Int) : Option (Int) := if (wrap64 (a1 - (l0.length : Int))) < 0 then (some (-1)) else (some (wrap64 (a1 - (l0.length : Int))))
set_option maxHeartbeats 8000000 in
set_option maxRecDepth 100000 in
theorem laws_szIntS.calls (A0 : Option Addr) (c0 : Nat) (l0 : List Int) (a1 : Int) (r : Int) (w : World) (hr0 : Kd.C (Kd.int .i64) w A0 l0.length l0) (hc0 : l0.length ≤ c0) (h : laws_szIntS.f l0 a1 = some r) :
  Calls Try.prog 63 #[.slice A0 l0.length c0, .int .i64 a1] w fun e w' => e = .returned (.int .i64 r) ∧ Drawn0 w w' := by
 clear hr0 hc0
 have H : (if (wrap64 (a1 - (l0.length : Int))) < 0 then (some (-1)) else (some (wrap64 (a1 - (l0.length : Int))))) = some r := h
 clear h
 by_cases c3 : (wrap64 (a1 - (l0.length : Int))) < 0
 ·rw [if_pos c3] at H
  have jB : decide ((wrap64 (a1 - (l0.length : Int))) < 0) = true := decide_eq_true c3
  clear c3
  obtain rfl := Option.some.inj H
  go_enter Try.func63, Try.ntmps63
  go_wp2
  go_ret
  exact ⟨q1_12, q1_16⟩
 ·rw [if_neg c3] at H
  have jB : decide ((wrap64 (a1 - (l0.length : Int))) < 0) = false := decide_eq_false c3
  clear c3
  obtain rfl := Option.some.inj H
  go_enter Try.func63, Try.ntmps63
  go_wp2
  go_ret
  exact ⟨q1_12, q1_16⟩

/-! ### laws_szMem: function 27 -/
def laws_szMem.f (hA : List Int) (a1 : Int) : Option (Int) := (laws_szIntS.f hA a1).bind fun mB => (if mB < 0 then (some (-1)) else (some mB))
set_option maxHeartbeats 8000000 in
set_option maxRecDepth 100000 in
theorem laws_szMem.calls (JA : Option Addr) (KA : Nat) (hA : List Int) (a1 : Int) (r : Int) (w : World) (fB : Kd.C (Kd.int .i64) w JA hA.length hA) (gB : hA.length ≤ KA) (h : laws_szMem.f hA a1 = some r) :
  Calls Try.prog 27 #[.agg #[.slice JA hA.length KA], .int .i64 a1] w fun e w' => e = .returned (.int .i64 r) ∧ Below w.heap.size w w' := by
 have hu43 := Try.underlying43
 have VB := Aside0.mk fB
 have iB := Aside0.mk gB
 clear fB gB
 have HB := Aside0.mk (Below.refl w.heap.size w)
 have H : ((laws_szIntS.f hA a1).bind fun mB => (if mB < 0 then (some (-1)) else (some mB))) = some r := h
 clear h
 replace H := Option.bind_eq_some_iff.mp H
 obtain ⟨mB, A30, H⟩ := H
 (try dsimp only at H)
 have A3 := Aside0.mk A30
 clear A30
 by_cases c4 : mB < 0
 ·rw [if_pos c4] at H
  have CB : decide (mB < 0) = true := decide_eq_true c4
  clear c4
  obtain rfl := Option.some.inj H
  go_enter Try.func27, Try.ntmps27
  go_wp2_with (first | ((with_reducible refine gate_dst (N := 2) rfl ?_); refine box_event ?hg (N := 2) ?hd (cs := #[.slice JA hA.length KA]) (t := 43) ?hr ?_; (case hd => rfl); (case hg => rfl); (case hr => first | (go_simp; done) | (go_simp; rfl)); intro nB hg w5 hbox hb; have sA := Aside0.mk (below_step q1_0 hb); have tA := Aside0.mk (hbox); have uA := Aside0.mk ((q1_7 : w.heap.size ≤ nB)); have vA := Aside0.mk ((q1_7 : w.heap.size ≤ nB)); clear HB; have HB := sA; have LB := tA; have QC := uA; have fC := vA; clear sA tA uA vA; clear hb hbox hg; have cC : w5.cell? ⟨nB, 0, none⟩ = some (.slice JA hA.length KA) := (blk_cell LB.out 0).trans rfl; have dC := blk_frozen LB.out 0) | ((with_reducible refine gate_callee (f := 63) rfl ?_); refine goesL_ (some 8) rfl rfl Try.func63 (by kernel_rfl) rfl #[.slice JA hA.length KA, .int .i64 a1] rfl q1_10 ?_; (with_reducible refine (laws_szIntS.calls _ _ hA a1 mB _ ?side1 ?side2 A3.out).mono ?_); (case side1 => exact q1_9); (case side2 => exact iB.out); rintro e w' ⟨rfl, ⟨nd, rfl⟩⟩; refine ⟨_, rfl, ?_⟩))
  go_ret
  exact ⟨q1_6, by repeat (first | (with_reducible first | exact HB.out | apply below_alloc | apply pw_below_drewN | apply below_drew1 | refine below_set ?_ fC.out) | exact HB.out)⟩
 ·rw [if_neg c4] at H
  have CB : decide (mB < 0) = false := decide_eq_false c4
  clear c4
  obtain rfl := Option.some.inj H
  go_enter Try.func27, Try.ntmps27
  go_wp2_with (first | ((with_reducible refine gate_dst (N := 2) rfl ?_); refine box_event ?hg (N := 2) ?hd (cs := #[.slice JA hA.length KA]) (t := 43) ?hr ?_; (case hd => rfl); (case hg => rfl); (case hr => first | (go_simp; done) | (go_simp; rfl)); intro nB hg w7 hbox hb; have sA := Aside0.mk (below_step q1_0 hb); have tA := Aside0.mk (hbox); have uA := Aside0.mk ((q1_7 : w.heap.size ≤ nB)); have vA := Aside0.mk ((q1_7 : w.heap.size ≤ nB)); clear HB; have HB := sA; have LB := tA; have QC := uA; have fC := vA; clear sA tA uA vA; clear hb hbox hg; have ZB : w7.cell? ⟨nB, 0, none⟩ = some (.slice JA hA.length KA) := (blk_cell LB.out 0).trans rfl; have aC := blk_frozen LB.out 0) | ((with_reducible refine gate_callee (f := 63) rfl ?_); refine goesL_ (some 8) rfl rfl Try.func63 (by kernel_rfl) rfl #[.slice JA hA.length KA, .int .i64 a1] rfl q1_10 ?_; (with_reducible refine (laws_szIntS.calls _ _ hA a1 mB _ ?side1 ?side2 A3.out).mono ?_); (case side1 => exact q1_9); (case side2 => exact iB.out); rintro e w' ⟨rfl, ⟨nd, rfl⟩⟩; refine ⟨_, rfl, ?_⟩))
  go_ret
  exact ⟨q1_6, by repeat (first | (with_reducible first | exact HB.out | apply below_alloc | apply pw_below_drewN | apply below_drew1 | refine below_set ?_ fC.out) | exact HB.out)⟩

/-! ### laws_toIntS: function 67 -/
def laws_toIntS.l0 : Nat → List Int → List Int → Int → Option (List Int)
 | 0, _, _, _ => none
 | k + 1, x0, x3, x4 => if x4 < (x0.length : Int) then (if 0 ≤ x4 then (if x4 < (x3.length : Int) then (laws_toIntS.l0 k x0 (x3.set (x4 : Int).toNat (rd x0 x4)) (wrap64 (x4 + 1))) else (none)) else (none)) else (some x3)
def laws_toIntS.f (k : Nat) (l0 : List Int) : Option (List Int) := if 0 ≤ (l0.length : Int) then (if ((l0.length : Int) : Int).toNat ≤ 35184372088832 then (laws_toIntS.l0 k l0 (List.replicate ((l0.length : Int) : Int).toNat 0) 0) else (none)) else (none)
theorem laws_toIntS.mono_l : ∀ k, (∀ y0 y1 y2, LeO (laws_toIntS.l0 k y0 y1 y2) (laws_toIntS.l0 (k + 1) y0 y1 y2))
 | 0 => fun _ _ _ r h => by simp [laws_toIntS.l0] at h
 | k + 1 => by
  have ih0 := laws_toIntS.mono_l k
  ·intro y0 y1 y2
   unfold laws_toIntS.l0
   repeat' first
   | (with_reducible exact ih0 _ _ _)
   | (with_reducible exact LeO.refl _)
   | (with_reducible exact LeO.none _)
   | (with_reducible refine LeO.ite ?_ ?_)
   | (with_reducible refine LeO.bind ?_ (fun _ => ?_))
   | exact ih0 _ _ _
   | exact LeO.none _
   | refine LeO.ite ?_ ?_
   | refine LeO.bind ?_ (fun _ => ?_)
theorem laws_toIntS.mono : ∀ a0 k, LeO (laws_toIntS.f k a0) (laws_toIntS.f (k + 1) a0) := by
 intro a0 k
 have ih0 := laws_toIntS.mono_l k
 unfold laws_toIntS.f
 repeat' first
   | (with_reducible exact ih0 _ _ _)
   | (with_reducible exact LeO.refl _)
   | (with_reducible exact LeO.none _)
   | (with_reducible refine LeO.ite ?_ ?_)
   | (with_reducible refine LeO.bind ?_ (fun _ => ?_))
   | exact ih0 _ _ _
   | exact LeO.none _
   | refine LeO.ite ?_ ?_
   | refine LeO.bind ?_ (fun _ => ?_)
set_option maxHeartbeats 8000000 in
set_option maxRecDepth 100000 in
theorem laws_toIntS.calls (k : Nat) (A0 : Option Addr) (c0 : Nat) (l0 : List Int) (r : List Int) (w : World) (hr0 : Kd.C (Kd.int .i64) w A0 l0.length l0) (hc0 : l0.length ≤ c0) (h : laws_toIntS.f k l0 = some r) :
  Calls Try.prog 67 #[.slice A0 l0.length c0] w fun e w' => ∃ v0_ : Value, e = .returned (v0_) ∧ Kd.R (Kd.int .i64) 3 w' w.heap.size (fun _ => True) v0_ r ∧ Below w.heap.size w w' := by
 have HR0 := Aside0.mk hr0
 clear hr0 hc0
 have HB := Aside0.mk (Below.refl w.heap.size w)
 have H : (if 0 ≤ (l0.length : Int) then (if ((l0.length : Int) : Int).toNat ≤ 35184372088832 then (laws_toIntS.l0 k l0 (List.replicate ((l0.length : Int) : Int).toNat 0) 0) else (none)) else (none)) = some r := h
 clear h
 by_cases c2 : 0 ≤ (l0.length : Int)
 ·rw [if_pos c2] at H
  have JM := eq_true c2
  have KM : decide (0 ≤ (l0.length : Int)) = true := decide_eq_true c2
  clear c2
  by_cases c3 : ((l0.length : Int) : Int).toNat ≤ 35184372088832
  ·rw [if_pos c3] at H
   have jB := eq_true c3
   have PB : decide (((l0.length : Int) : Int).toNat ≤ 35184372088832) = true := decide_eq_true c3
   clear c3
   obtain ⟨y120, hy120⟩ : ∃ y_ : List Int, y_ = (List.replicate ((l0.length : Int) : Int).toNat 0) := ⟨_, rfl⟩
   replace H : (laws_toIntS.l0 k l0 y120 0) = some r := by first | (rw [hy120]; with_reducible exact H) | (have H2_ := (Option.bind_some _ _).symm.trans H; rw [hy120]; with_reducible exact H2_) | (have H2_ := (Option.bind_some _ _).symm.trans H; with_reducible exact H2_) | with_reducible exact H | (rw [hy120]; exact H) | exact H
   have Ny120 := Aside0.mk hy120
   clear hy120
   have H' := Aside0.mk H
   clear H
   go_enter Try.func67, Try.ntmps67
   go_wp2_with (first | ((with_reducible refine gate_dst (N := 7) rfl ?_); refine Kd.R_make (Kd.int .i64) _ 3 rfl (N := 7) rfl 27 _ _ rfl (l0.length : Int) rfl rfl Try.underlying27 (.int .i64 0) 8 info3 rfl (by decide) (by omega) 0 (ok := fun _ => True) (okp := fun _ => True) rfl (fun _ hk => hk) trivial (of_decide_eq_true q1_8) (Nat.le_trans (Nat.mul_le_mul_right _ (of_decide_eq_true q1_8 : (l0.length : Int).toNat ≤ 35184372088832)) (by omega)) (Below.refl _ _) (Nat.le_refl _) ?_; intro LM w4 ho5 hb hg_ hnew_; clear hg_ hnew_; (first | rw [← Ny120.out] at ho5 | (simp only [Int.reduceToNat] at ho5; rw [← Ny120.out] at ho5)); have sA := Aside0.mk (Kd.R_lower ho5 (below_size q1_0)); have tA := Aside0.mk (below_step q1_0 hb); clear HB; have RC := sA; have HB := tA; clear sA tA; clear hb ho5))
   go_loopg [4] k (fun kq v4 w' => ∃ (MB : List Int) (QA : Int), v4 = .int .i64 QA ∧ Aside0 (laws_toIntS.l0 kq l0 MB QA = some r) ∧ Aside0 (kq ≤ k) ∧ Aside0 (Kd.R (Kd.int .i64) 3 w' w.heap.size (fun _ => True) LM MB) ∧ Aside0 (Below w.heap.size w w'))
   case atStart => exact ⟨(y120), (0), q1_12, H', ⟨Nat.le_refl _⟩, ⟨by (with_reducible repeat (first | apply Kd.R_alloc | apply Kd.R_drewN | apply Kd.R_drew)); exact RC.out⟩, ⟨q1_0⟩⟩
   case round =>
    clear H'
    (try clear c2); (try clear JM); (try clear KM); (try clear p2); (try clear c3); (try clear jB); (try clear PB)
    obtain ⟨MB, QA, rfl, HA, HK1, NB, HB⟩ := hrel
    cases gk with
    | zero => exact absurd HA.out (by simp [laws_toIntS.l0])
    | succ k1 =>
     have H := HA.out
     clear HA
     simp only [laws_toIntS.l0] at H
     by_cases c6 : QA < (l0.length : Int)
     ·rw [if_pos c6] at H
      have hC : decide (QA < (l0.length : Int)) = true := decide_eq_true c6
      clear c6
      by_cases c7 : 0 ≤ QA
      ·rw [if_pos c7] at H
       have iC : decide (0 ≤ QA) = true := decide_eq_true c7
       clear c7
       by_cases c8 : QA < (MB.length : Int)
       ·rw [if_pos c8] at H
        have BC : decide (QA < (MB.length : Int)) = true := decide_eq_true c8
        clear c8
        obtain ⟨y124, hy124⟩ : ∃ y_ : List Int, y_ = (MB.set (QA : Int).toNat (rd l0 QA)) := ⟨_, rfl⟩
        replace H : (laws_toIntS.l0 k1 l0 y124 (wrap64 (QA + 1))) = some r := by first | (rw [hy124]; with_reducible exact H) | (have H2_ := (Option.bind_some _ _).symm.trans H; rw [hy124]; with_reducible exact H2_) | (have H2_ := (Option.bind_some _ _).symm.trans H; with_reducible exact H2_) | with_reducible exact H | (rw [hy124]; exact H) | exact H
        have Ny124 := Aside0.mk hy124
        clear hy124
        have H' := Aside0.mk H
        clear H
        have p123 : 0 ≤ (QA : Int) := of_decide_eq_true q1_8
        have q123 : QA < (l0.length : Int) := of_decide_eq_true q1_8
        obtain ⟨ad123, MM, EB⟩ := Kd.at_int HR0.out QA p123 q123
        cases MM
        replace EB := (HB.out.cell (World.block_lt_of_cell? w _ EB)).trans EB
        replace p123 := eq_true p123
        replace q123 := eq_true q123
        have p9 : 0 ≤ (QA : Int) := of_decide_eq_true q1_8
        have q9 : (QA : Int) < ((MB.length : Int) : Int) := of_decide_eq_true q1_8
        obtain ⟨go9, qN, vL, xN, gl9, cl9, HG9⟩ := Kd.R_form NB.out (by omega)
        (first | cases vL | (injection vL with ea_ en_ ec_; (first | subst ea_ | (injection ea_ with ea_; subst ea_)); subst ec_; clear en_))
        have GB9 := Aside0.mk xN
        have GG9 := Aside0.mk HG9
        clear xN gl9 HG9
        obtain ⟨yN, zN⟩ := Kd.R_celln 0 NB.out (QA : Int) p9 q9
        replace p9 := eq_true p9
        replace q9 := eq_true q9
        have HP10 := Kd.R_putg NB.out (QA : Int) (rd l0 QA)
        go_wp2_with (first | ((with_reducible refine gate_store (t := 3) (p := 20) rfl ?_); refine store_event (t := 3) (p := 20) (v := ?vo_w11) (w1 := (wr.setCell ⟨go9, (QA : Int).toNat, none⟩ (.int .i64 (rd l0 QA)))) ?hg ?ho ?hn ?hr ?_; (case ho => rfl); (case hg => rfl); (case hn => rfl); (case hr => first | (go_simp; done) | (go_simp; rfl)); intro AC hw; have hg : wr.grownBy AC (some go9) := (by rw [hw]; exact HP10.2); have hp_ : Kd.R (Kd.int .i64) 3 AC w.heap.size (fun _ => True) (.slice (some ⟨go9, 0, none⟩) MB.length qN) y124 := (by rw [hw, Ny124.out]; exact HP10.1); clear HP10; have sA := Aside0.mk (hp_); have tA := Aside0.mk ((by rw [hw]; exact below_set (HB.out) GB9.out : Below w.heap.size w AC)); clear NB HB; have NB := sA; have HB := tA; clear sA tA; clear hg hw hp_))
        go_roundg k1
        case measure => have := HK1.out; omega
        case rel => exact ⟨(y124), (wrap64 (QA + 1)), q1_12, H', ⟨by have := HK1.out; omega⟩, ⟨by (with_reducible repeat (first | apply Kd.R_alloc | apply Kd.R_drewN | apply Kd.R_drew)); exact NB.out⟩, ⟨q1_0⟩⟩
       ·rw [if_neg c8] at H
        exact absurd H (by simp)
      ·rw [if_neg c7] at H
       exact absurd H (by simp)
     ·rw [if_neg c6] at H
      have hC : decide (QA < (l0.length : Int)) = false := decide_eq_false c6
      clear c6
      obtain rfl := Option.some.inj H
      go_wp2
      go_ret
      exact ⟨_, q1_6, by (with_reducible repeat (first | apply Kd.R_alloc | apply Kd.R_drewN | apply Kd.R_drew)); exact NB.out, q1_0⟩
  ·rw [if_neg c3] at H
   exact absurd H (by simp)
 ·rw [if_neg c2] at H
  exact absurd H (by simp)

end Go.Proofs.Ytfahmmlkcmadeaa.PFnExactRiStep
