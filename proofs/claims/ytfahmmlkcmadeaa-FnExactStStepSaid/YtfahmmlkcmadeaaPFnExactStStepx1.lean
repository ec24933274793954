-- Written by the session's own patched copy of the printer (wip/patch_print.py).
import Derived.Test.YtfahmmlkcmadeaaPFnExactStStepx0
namespace Go.Proofs.Ytfahmmlkcmadeaa.PFnExactStStep
open Go.RowKit Go.Proofs.YtfahmmlkcmadeaaW.PrintWords Go.Proofs.YtfahmmlkcmadeaaW.PrintLast Go.Proofs.YtfahmmlkcmadeaaW.PrintMore
attribute [local go_sem] max2_int min2_int max_two min_two max_three min_three max_four min_four   -- for this text's walks alone
set_option linter.unusedVariables false
set_option linter.unusedSimpArgs false

theorem q1_0 {p : Prop} (h : p := by repeat (first | (with_reducible first | exact HB.out | apply below_alloc | apply pw_below_drewN | apply below_drew1) | exact HB.out)) : p := h
theorem q1_1 {p : Prop} (h : p := by repeat (first | (with_reducible first | exact HB.out | apply below_alloc | apply pw_below_drewN | apply below_drew1 | refine below_set ?_ VA.out) | exact HB.out)) : p := h
theorem q1_2 {p : Prop} (h : p := by (with_reducible repeat (first | refine blk_drewN ?_ _ | refine blk_drew ?_ | refine blk_alloc ?_ _)); exact aA.out) : p := h
theorem q1_3 {p : Prop} (h : p := by rw [hg]; exact Nat.ne_of_lt (blk_lt (g := cA) (o := .cells #[.int .i64 eA, .int .i64 fA, .int .i64 iA, .int .i64 kA, .int .i64 lA, .int .i64 nA, .int .i64 jA, .int .i64 qA, .int .i64 rA, .bool oA] 23 (0, 0)) q1_2)) : p := h
theorem q1_4 {p : Prop} (h : p := by rw [hg]; exact Nat.ne_of_gt (blk_lt (g := cA) (o := .cells #[.int .i64 eA, .int .i64 fA, .int .i64 iA, .int .i64 kA, .int .i64 lA, .int .i64 nA, .int .i64 jA, .int .i64 qA, .int .i64 rA, .bool oA] 23 (0, 0)) q1_2)) : p := h
theorem q1_5 {p : Prop} (h : p := by first | rfl | (simp [errW_none, errW_some] <;> rfl) | (simp [*, errW_none, errW_some] <;> rfl)) : p := h
theorem q1_6 {p : Prop} (h : p := by repeat (first | (with_reducible first | exact HB.out | apply below_alloc | apply pw_below_drewN | apply below_drew1 | refine below_set ?_ VA.out | refine below_set ?_ XA.out) | exact HB.out)) : p := h
theorem q1_7 {p : Prop} (h : p := by rw [hg]; exact (below_size q1_0)) : p := h
theorem q1_8 {p : Prop} (h : p := by (try simp only [List.map_toArray, List.map_cons, List.map_nil]); first | done | rfl | (simp only [List.length_drop, List.length_take]; rfl)) : p := h
theorem q1_9 {p : Prop} (h : p := by first | rfl | (simp; done) | (simp [*]; done)) : p := h
theorem q1_10 {p : Prop} (h : p := by repeat (first | exact Drawn0.refl _ | apply Drawn0.step)) : p := h
theorem q1_11 {p : Prop} (h : p := by repeat (first | exact (Kd.C_below VB.out HB.out) | (with_reducible refine Kd.C_alloc ?_ _) | (with_reducible refine Kd.C_drewN ?_ _) | (with_reducible refine Kd.C_drew ?_))) : p := h
theorem q1_12 {p : Prop} (h : p := by repeat (first | (with_reducible first | exact HB.out | apply below_alloc | apply pw_below_drewN | apply below_drew1 | refine below_set ?_ PB.out) | exact HB.out)) : p := h
theorem q1_13 {p : Prop} (h : p := by rw [hg]; exact (below_size q1_1)) : p := h
theorem q1_14 {p : Prop} (h : p := by first | (with_reducible assumption) | assumption) : p := h
theorem q1_15 {p : Prop} (h : p := by (with_reducible repeat (first | refine blk_drewN ?_ _ | refine blk_drew ?_ | refine blk_alloc ?_ _)); exact bB.out) : p := h
theorem q1_16 {p : Prop} (h : p := by (with_reducible repeat (first | refine blk_drewN ?_ _ | refine blk_drew ?_ | refine blk_alloc ?_ _)); exact xA.out) : p := h
theorem q1_17 {p : Prop} (h : p := by repeat (first | (with_reducible first | exact HK.out | apply Kept.alloc | apply Kept.drewN | apply Kept.drew) | exact HK.out)) : p := h
theorem q1_18 {p : Prop} (h : p := by repeat (first | (with_reducible first | exact HB.out | apply below_alloc | apply pw_below_drewN | apply below_drew1 | refine below_set ?_ WB.out | refine below_set ?_ oC.out) | exact HB.out)) : p := h
theorem q1_19 {p : Prop} (h : p := by repeat (first | (with_reducible first | exact HB.out | apply below_alloc | apply pw_below_drewN | apply below_drew1 | refine below_set ?_ WB.out) | exact HB.out)) : p := h
theorem q1_20 {p : Prop} (h : p := by rw [hg]; exact Nat.ne_of_lt (blk_lt (g := NA) (o := .cells #[.int .i64 eA, .int .i64 fA, .int .i64 iA, .int .i64 kA, .int .i64 lA, .int .i64 nA, .int .i64 jA, .int .i64 qA, .int .i64 rA, .bool oA] 35 (0, 0)) q1_16)) : p := h
theorem q1_21 {p : Prop} (h : p := by rw [hg]; exact Nat.ne_of_gt (blk_lt (g := NA) (o := .cells #[.int .i64 eA, .int .i64 fA, .int .i64 iA, .int .i64 kA, .int .i64 lA, .int .i64 nA, .int .i64 jA, .int .i64 qA, .int .i64 rA, .bool oA] 35 (0, 0)) q1_16)) : p := h
theorem q1_22 {p : Prop} (h : p := by (with_reducible repeat (first | refine blk_drewN ?_ _ | refine blk_drew ?_ | refine blk_alloc ?_ _)); exact zA.out) : p := h
/-! ### laws_eqCall: function 17 -/
def laws_eqCall.f (eA : Int) (fA : Int) (iA : Int) (kA : Int) (lA : Int) (nA : Int) (jA : Int) (qA : Int) (rA : Int) (oA : Bool) (BA : Int) (CA : Int) (DA : Int) (EA : Int) (FA : Int) (GA : Int) (IA : Int) (JA : Int) (KA : Int) (AA : Bool) : Option (Bool) := if eA = BA then (if fA = CA then (if iA = DA then (if kA = EA then (if lA = FA then (if nA = GA then (if jA = IA then (if qA = JA then (if rA = KA then (if (oA != AA) = true then (some false) else (some true)) else (some false)) else (some false)) else (some false)) else (some false)) else (some false)) else (some false)) else (some false)) else (some false)) else (some false)
set_option maxHeartbeats 8000000 in
set_option maxRecDepth 100000 in
theorem laws_eqCall.calls (eA : Int) (fA : Int) (iA : Int) (kA : Int) (lA : Int) (nA : Int) (jA : Int) (qA : Int) (rA : Int) (oA : Bool) (BA : Int) (CA : Int) (DA : Int) (EA : Int) (FA : Int) (GA : Int) (IA : Int) (JA : Int) (KA : Int) (AA : Bool) (r : Bool) (w : World) (h : laws_eqCall.f eA fA iA kA lA nA jA qA rA oA BA CA DA EA FA GA IA JA KA AA = some r) :
  Calls Try.prog 17 #[.agg #[.int .i64 eA, .int .i64 fA, .int .i64 iA, .int .i64 kA, .int .i64 lA, .int .i64 nA, .int .i64 jA, .int .i64 qA, .int .i64 rA, .bool oA], .agg #[.int .i64 BA, .int .i64 CA, .int .i64 DA, .int .i64 EA, .int .i64 FA, .int .i64 GA, .int .i64 IA, .int .i64 JA, .int .i64 KA, .bool AA]] w fun e w' => e = .returned (.bool r) ∧ Below w.heap.size w w' := by
 have hu23 := Try.underlying23
 have HB := Aside0.mk (Below.refl w.heap.size w)
 have H : (if eA = BA then (if fA = CA then (if iA = DA then (if kA = EA then (if lA = FA then (if nA = GA then (if jA = IA then (if qA = JA then (if rA = KA then (if (oA != AA) = true then (some false) else (some true)) else (some false)) else (some false)) else (some false)) else (some false)) else (some false)) else (some false)) else (some false)) else (some false)) else (some false)) = some r := h
 clear h
 by_cases c3 : eA = BA
 ·rw [if_pos c3] at H
  have lB : (eA == BA) = true := beq_iff_eq.mpr c3
  have jC : (eA != BA) = false := bne_eq_false_iff_eq.mpr c3
  clear c3
  by_cases c4 : fA = CA
  ·rw [if_pos c4] at H
   have mB : (fA == CA) = true := beq_iff_eq.mpr c4
   have mM : (fA != CA) = false := bne_eq_false_iff_eq.mpr c4
   clear c4
   by_cases c5 : iA = DA
   ·rw [if_pos c5] at H
    have kC : (iA == DA) = true := beq_iff_eq.mpr c5
    have vC : (iA != DA) = false := bne_eq_false_iff_eq.mpr c5
    clear c5
    by_cases c6 : kA = EA
    ·rw [if_pos c6] at H
     have XC : (kA == EA) = true := beq_iff_eq.mpr c6
     have nM : (kA != EA) = false := bne_eq_false_iff_eq.mpr c6
     clear c6
     by_cases c7 : lA = FA
     ·rw [if_pos c7] at H
      have wC : (lA == FA) = true := beq_iff_eq.mpr c7
      have xC : (lA != FA) = false := bne_eq_false_iff_eq.mpr c7
      clear c7
      by_cases c8 : nA = GA
      ·rw [if_pos c8] at H
       have oM : (nA == GA) = true := beq_iff_eq.mpr c8
       have pM : (nA != GA) = false := bne_eq_false_iff_eq.mpr c8
       clear c8
       by_cases c9 : jA = IA
       ·rw [if_pos c9] at H
        have qM : (jA == IA) = true := beq_iff_eq.mpr c9
        have rM : (jA != IA) = false := bne_eq_false_iff_eq.mpr c9
        clear c9
        by_cases c10 : qA = JA
        ·rw [if_pos c10] at H
         have YC : (qA == JA) = true := beq_iff_eq.mpr c10
         have ZC : (qA != JA) = false := bne_eq_false_iff_eq.mpr c10
         clear c10
         by_cases c11 : rA = KA
         ·rw [if_pos c11] at H
          have aD : (rA == KA) = true := beq_iff_eq.mpr c11
          have bD : (rA != KA) = false := bne_eq_false_iff_eq.mpr c11
          clear c11
          by_cases c12 : (oA != AA) = true
          ·rw [if_pos c12] at H
           have cD : (oA != AA) = true := c12
           (try (have dD : decide (oA = AA) = false := by simpa using c12))
           (try (have eD : (oA == AA) = false := by simpa using c12))
           (try (have uN : ¬ (oA = AA) := by simpa using c12))
           clear c12
           obtain rfl := Option.some.inj H
           go_enter Try.func17, Try.ntmps17
           go_wp2_with (first | ((with_reducible refine gate_dst (N := 2) rfl ?_); refine box_event ?hg (N := 2) ?hd (cs := #[.int .i64 eA, .int .i64 fA, .int .i64 iA, .int .i64 kA, .int .i64 lA, .int .i64 nA, .int .i64 jA, .int .i64 qA, .int .i64 rA, .bool oA]) (t := 23) ?hr ?_; (case hd => rfl); (case hg => rfl); (case hr => first | (go_simp; done) | (go_simp; rfl)); intro cA hg sO hbox hb; have tA := Aside0.mk (below_step q1_0 hb); have uA := Aside0.mk (hbox); have vA := Aside0.mk ((q1_7 : w.heap.size ≤ cA)); have wA := Aside0.mk ((q1_7 : w.heap.size ≤ cA)); clear HB; have HB := tA; have aA := uA; have cB := vA; have VA := wA; clear tA uA vA wA; clear hb hbox hg) | ((with_reducible refine gate_dst (N := 3) rfl ?_); refine box_event ?hg (N := 3) ?hd (cs := #[.int .i64 BA, .int .i64 CA, .int .i64 DA, .int .i64 EA, .int .i64 FA, .int .i64 GA, .int .i64 IA, .int .i64 JA, .int .i64 KA, .bool AA]) (t := 23) ?hr ?_; (case hd => rfl); (case hg => rfl); (case hr => first | (go_simp; done) | (go_simp; rfl)); intro dA hg tB hbox hb; have tA := Aside0.mk (blk_below (g := cA) (o := .cells #[.int .i64 eA, .int .i64 fA, .int .i64 iA, .int .i64 kA, .int .i64 lA, .int .i64 nA, .int .i64 jA, .int .i64 qA, .int .i64 rA, .bool oA] 23 (0, 0)) q1_2 hb); have uA := Aside0.mk (below_step q1_1 hb); have vA := Aside0.mk (hbox); have wA := Aside0.mk ((q1_13 : w.heap.size ≤ dA)); have SA := Aside0.mk ((q1_13 : w.heap.size ≤ dA)); have TA := Aside0.mk ((q1_3 : cA ≠ dA)); have UA := Aside0.mk ((q1_4 : dA ≠ cA)); clear aA HB; have aA := tA; have HB := uA; have bA := vA; have dB := wA; have XA := SA; have gA := TA; have hA := UA; clear tA uA vA wA SA TA UA; clear hb hbox hg; have vN := gA.out; have wN := hA.out; have pD : tB.cell? ⟨cA, 0, none⟩ = some (.int .i64 eA) := (blk_cell aA.out 0).trans rfl; have qD : tB.cell? ⟨cA, 1, none⟩ = some (.int .i64 fA) := (blk_cell aA.out 1).trans rfl; have rD : tB.cell? ⟨cA, 2, none⟩ = some (.int .i64 iA) := (blk_cell aA.out 2).trans rfl; have sD : tB.cell? ⟨cA, 3, none⟩ = some (.int .i64 kA) := (blk_cell aA.out 3).trans rfl; have tD : tB.cell? ⟨cA, 4, none⟩ = some (.int .i64 lA) := (blk_cell aA.out 4).trans rfl; have uD : tB.cell? ⟨cA, 5, none⟩ = some (.int .i64 nA) := (blk_cell aA.out 5).trans rfl; have vD : tB.cell? ⟨cA, 6, none⟩ = some (.int .i64 jA) := (blk_cell aA.out 6).trans rfl; have wD : tB.cell? ⟨cA, 7, none⟩ = some (.int .i64 qA) := (blk_cell aA.out 7).trans rfl; have xD : tB.cell? ⟨cA, 8, none⟩ = some (.int .i64 rA) := (blk_cell aA.out 8).trans rfl; have yD : tB.cell? ⟨cA, 9, none⟩ = some (.bool oA) := (blk_cell aA.out 9).trans rfl; have zD := blk_frozen aA.out 0; have AD := blk_frozen aA.out 1; have BD := blk_frozen aA.out 2; have CD := blk_frozen aA.out 3; have DD := blk_frozen aA.out 4; have ED := blk_frozen aA.out 5; have FD := blk_frozen aA.out 6; have GD := blk_frozen aA.out 7; have HD := blk_frozen aA.out 8; have ID := blk_frozen aA.out 9; have JD : tB.cell? ⟨dA, 0, none⟩ = some (.int .i64 BA) := (blk_cell bA.out 0).trans rfl; have KD : tB.cell? ⟨dA, 1, none⟩ = some (.int .i64 CA) := (blk_cell bA.out 1).trans rfl; have LD : tB.cell? ⟨dA, 2, none⟩ = some (.int .i64 DA) := (blk_cell bA.out 2).trans rfl; have MD : tB.cell? ⟨dA, 3, none⟩ = some (.int .i64 EA) := (blk_cell bA.out 3).trans rfl; have ND : tB.cell? ⟨dA, 4, none⟩ = some (.int .i64 FA) := (blk_cell bA.out 4).trans rfl; have OD : tB.cell? ⟨dA, 5, none⟩ = some (.int .i64 GA) := (blk_cell bA.out 5).trans rfl; have PD : tB.cell? ⟨dA, 6, none⟩ = some (.int .i64 IA) := (blk_cell bA.out 6).trans rfl; have QD : tB.cell? ⟨dA, 7, none⟩ = some (.int .i64 JA) := (blk_cell bA.out 7).trans rfl; have RD : tB.cell? ⟨dA, 8, none⟩ = some (.int .i64 KA) := (blk_cell bA.out 8).trans rfl; have SD : tB.cell? ⟨dA, 9, none⟩ = some (.bool AA) := (blk_cell bA.out 9).trans rfl; have TD := blk_frozen bA.out 0; have UD := blk_frozen bA.out 1; have VD := blk_frozen bA.out 2; have WD := blk_frozen bA.out 3; have XD := blk_frozen bA.out 4; have YD := blk_frozen bA.out 5; have ZD := blk_frozen bA.out 6; have aE := blk_frozen bA.out 7; have bE := blk_frozen bA.out 8; have cE := blk_frozen bA.out 9))
           go_ret
           exact ⟨q1_5, q1_6⟩
          ·rw [if_neg c12] at H
           have cD : (oA != AA) = false := by simpa using c12
           (try (have dD : decide (oA = AA) = true := by simpa using c12))
           (try (have eD : (oA == AA) = true := by simpa using c12))
           clear c12
           obtain rfl := Option.some.inj H
           go_enter Try.func17, Try.ntmps17
           go_wp2_with (first | ((with_reducible refine gate_dst (N := 2) rfl ?_); refine box_event ?hg (N := 2) ?hd (cs := #[.int .i64 eA, .int .i64 fA, .int .i64 iA, .int .i64 kA, .int .i64 lA, .int .i64 nA, .int .i64 jA, .int .i64 qA, .int .i64 rA, .bool oA]) (t := 23) ?hr ?_; (case hd => rfl); (case hg => rfl); (case hr => first | (go_simp; done) | (go_simp; rfl)); intro cA hg tO hbox hb; have tA := Aside0.mk (below_step q1_0 hb); have uA := Aside0.mk (hbox); have vA := Aside0.mk ((q1_7 : w.heap.size ≤ cA)); have wA := Aside0.mk ((q1_7 : w.heap.size ≤ cA)); clear HB; have HB := tA; have aA := uA; have cB := vA; have VA := wA; clear tA uA vA wA; clear hb hbox hg) | ((with_reducible refine gate_dst (N := 3) rfl ?_); refine box_event ?hg (N := 3) ?hd (cs := #[.int .i64 BA, .int .i64 CA, .int .i64 DA, .int .i64 EA, .int .i64 FA, .int .i64 GA, .int .i64 IA, .int .i64 JA, .int .i64 KA, .bool AA]) (t := 23) ?hr ?_; (case hd => rfl); (case hg => rfl); (case hr => first | (go_simp; done) | (go_simp; rfl)); intro dA hg uB hbox hb; have tA := Aside0.mk (blk_below (g := cA) (o := .cells #[.int .i64 eA, .int .i64 fA, .int .i64 iA, .int .i64 kA, .int .i64 lA, .int .i64 nA, .int .i64 jA, .int .i64 qA, .int .i64 rA, .bool oA] 23 (0, 0)) q1_2 hb); have uA := Aside0.mk (below_step q1_1 hb); have vA := Aside0.mk (hbox); have wA := Aside0.mk ((q1_13 : w.heap.size ≤ dA)); have SA := Aside0.mk ((q1_13 : w.heap.size ≤ dA)); have TA := Aside0.mk ((q1_3 : cA ≠ dA)); have UA := Aside0.mk ((q1_4 : dA ≠ cA)); clear aA HB; have aA := tA; have HB := uA; have bA := vA; have dB := wA; have XA := SA; have gA := TA; have hA := UA; clear tA uA vA wA SA TA UA; clear hb hbox hg; have xN := gA.out; have yN := hA.out; have dE : uB.cell? ⟨cA, 0, none⟩ = some (.int .i64 eA) := (blk_cell aA.out 0).trans rfl; have eE : uB.cell? ⟨cA, 1, none⟩ = some (.int .i64 fA) := (blk_cell aA.out 1).trans rfl; have fE : uB.cell? ⟨cA, 2, none⟩ = some (.int .i64 iA) := (blk_cell aA.out 2).trans rfl; have gE : uB.cell? ⟨cA, 3, none⟩ = some (.int .i64 kA) := (blk_cell aA.out 3).trans rfl; have hE : uB.cell? ⟨cA, 4, none⟩ = some (.int .i64 lA) := (blk_cell aA.out 4).trans rfl; have iE : uB.cell? ⟨cA, 5, none⟩ = some (.int .i64 nA) := (blk_cell aA.out 5).trans rfl; have jE : uB.cell? ⟨cA, 6, none⟩ = some (.int .i64 jA) := (blk_cell aA.out 6).trans rfl; have kE : uB.cell? ⟨cA, 7, none⟩ = some (.int .i64 qA) := (blk_cell aA.out 7).trans rfl; have lE : uB.cell? ⟨cA, 8, none⟩ = some (.int .i64 rA) := (blk_cell aA.out 8).trans rfl; have mE : uB.cell? ⟨cA, 9, none⟩ = some (.bool oA) := (blk_cell aA.out 9).trans rfl; have nE := blk_frozen aA.out 0; have oE := blk_frozen aA.out 1; have pE := blk_frozen aA.out 2; have qE := blk_frozen aA.out 3; have rE := blk_frozen aA.out 4; have sE := blk_frozen aA.out 5; have tE := blk_frozen aA.out 6; have uE := blk_frozen aA.out 7; have vE := blk_frozen aA.out 8; have wE := blk_frozen aA.out 9; have xE : uB.cell? ⟨dA, 0, none⟩ = some (.int .i64 BA) := (blk_cell bA.out 0).trans rfl; have yE : uB.cell? ⟨dA, 1, none⟩ = some (.int .i64 CA) := (blk_cell bA.out 1).trans rfl; have zE : uB.cell? ⟨dA, 2, none⟩ = some (.int .i64 DA) := (blk_cell bA.out 2).trans rfl; have AE : uB.cell? ⟨dA, 3, none⟩ = some (.int .i64 EA) := (blk_cell bA.out 3).trans rfl; have BE : uB.cell? ⟨dA, 4, none⟩ = some (.int .i64 FA) := (blk_cell bA.out 4).trans rfl; have CE : uB.cell? ⟨dA, 5, none⟩ = some (.int .i64 GA) := (blk_cell bA.out 5).trans rfl; have DE : uB.cell? ⟨dA, 6, none⟩ = some (.int .i64 IA) := (blk_cell bA.out 6).trans rfl; have EE : uB.cell? ⟨dA, 7, none⟩ = some (.int .i64 JA) := (blk_cell bA.out 7).trans rfl; have FE : uB.cell? ⟨dA, 8, none⟩ = some (.int .i64 KA) := (blk_cell bA.out 8).trans rfl; have GE : uB.cell? ⟨dA, 9, none⟩ = some (.bool AA) := (blk_cell bA.out 9).trans rfl; have HE := blk_frozen bA.out 0; have IE := blk_frozen bA.out 1; have JE := blk_frozen bA.out 2; have KE := blk_frozen bA.out 3; have LE := blk_frozen bA.out 4; have ME := blk_frozen bA.out 5; have NE := blk_frozen bA.out 6; have OE := blk_frozen bA.out 7; have PE := blk_frozen bA.out 8; have QE := blk_frozen bA.out 9))
           go_ret
           exact ⟨q1_5, q1_6⟩
         ·rw [if_neg c11] at H
          have aD : (rA == KA) = false := beq_eq_false_iff_ne.mpr c11
          have bD : (rA != KA) = true := bne_iff_ne.mpr c11
          obtain rfl := Option.some.inj H
          go_enter Try.func17, Try.ntmps17
          go_wp2_with (first | ((with_reducible refine gate_dst (N := 2) rfl ?_); refine box_event ?hg (N := 2) ?hd (cs := #[.int .i64 eA, .int .i64 fA, .int .i64 iA, .int .i64 kA, .int .i64 lA, .int .i64 nA, .int .i64 jA, .int .i64 qA, .int .i64 rA, .bool oA]) (t := 23) ?hr ?_; (case hd => rfl); (case hg => rfl); (case hr => first | (go_simp; done) | (go_simp; rfl)); intro cA hg uO hbox hb; have tA := Aside0.mk (below_step q1_0 hb); have uA := Aside0.mk (hbox); have vA := Aside0.mk ((q1_7 : w.heap.size ≤ cA)); have wA := Aside0.mk ((q1_7 : w.heap.size ≤ cA)); clear HB; have HB := tA; have aA := uA; have cB := vA; have VA := wA; clear tA uA vA wA; clear hb hbox hg) | ((with_reducible refine gate_dst (N := 3) rfl ?_); refine box_event ?hg (N := 3) ?hd (cs := #[.int .i64 BA, .int .i64 CA, .int .i64 DA, .int .i64 EA, .int .i64 FA, .int .i64 GA, .int .i64 IA, .int .i64 JA, .int .i64 KA, .bool AA]) (t := 23) ?hr ?_; (case hd => rfl); (case hg => rfl); (case hr => first | (go_simp; done) | (go_simp; rfl)); intro dA hg vB hbox hb; have tA := Aside0.mk (blk_below (g := cA) (o := .cells #[.int .i64 eA, .int .i64 fA, .int .i64 iA, .int .i64 kA, .int .i64 lA, .int .i64 nA, .int .i64 jA, .int .i64 qA, .int .i64 rA, .bool oA] 23 (0, 0)) q1_2 hb); have uA := Aside0.mk (below_step q1_1 hb); have vA := Aside0.mk (hbox); have wA := Aside0.mk ((q1_13 : w.heap.size ≤ dA)); have SA := Aside0.mk ((q1_13 : w.heap.size ≤ dA)); have TA := Aside0.mk ((q1_3 : cA ≠ dA)); have UA := Aside0.mk ((q1_4 : dA ≠ cA)); clear aA HB; have aA := tA; have HB := uA; have bA := vA; have dB := wA; have XA := SA; have gA := TA; have hA := UA; clear tA uA vA wA SA TA UA; clear hb hbox hg; have zN := gA.out; have AN := hA.out; have RE : vB.cell? ⟨cA, 0, none⟩ = some (.int .i64 eA) := (blk_cell aA.out 0).trans rfl; have SE : vB.cell? ⟨cA, 1, none⟩ = some (.int .i64 fA) := (blk_cell aA.out 1).trans rfl; have TE : vB.cell? ⟨cA, 2, none⟩ = some (.int .i64 iA) := (blk_cell aA.out 2).trans rfl; have UE : vB.cell? ⟨cA, 3, none⟩ = some (.int .i64 kA) := (blk_cell aA.out 3).trans rfl; have VE : vB.cell? ⟨cA, 4, none⟩ = some (.int .i64 lA) := (blk_cell aA.out 4).trans rfl; have WE : vB.cell? ⟨cA, 5, none⟩ = some (.int .i64 nA) := (blk_cell aA.out 5).trans rfl; have XE : vB.cell? ⟨cA, 6, none⟩ = some (.int .i64 jA) := (blk_cell aA.out 6).trans rfl; have YE : vB.cell? ⟨cA, 7, none⟩ = some (.int .i64 qA) := (blk_cell aA.out 7).trans rfl; have ZE : vB.cell? ⟨cA, 8, none⟩ = some (.int .i64 rA) := (blk_cell aA.out 8).trans rfl; have aF : vB.cell? ⟨cA, 9, none⟩ = some (.bool oA) := (blk_cell aA.out 9).trans rfl; have bF := blk_frozen aA.out 0; have cF := blk_frozen aA.out 1; have dF := blk_frozen aA.out 2; have eF := blk_frozen aA.out 3; have fF := blk_frozen aA.out 4; have gF := blk_frozen aA.out 5; have hF := blk_frozen aA.out 6; have iF := blk_frozen aA.out 7; have jF := blk_frozen aA.out 8; have kF := blk_frozen aA.out 9; have lF : vB.cell? ⟨dA, 0, none⟩ = some (.int .i64 BA) := (blk_cell bA.out 0).trans rfl; have mF : vB.cell? ⟨dA, 1, none⟩ = some (.int .i64 CA) := (blk_cell bA.out 1).trans rfl; have nF : vB.cell? ⟨dA, 2, none⟩ = some (.int .i64 DA) := (blk_cell bA.out 2).trans rfl; have oF : vB.cell? ⟨dA, 3, none⟩ = some (.int .i64 EA) := (blk_cell bA.out 3).trans rfl; have pF : vB.cell? ⟨dA, 4, none⟩ = some (.int .i64 FA) := (blk_cell bA.out 4).trans rfl; have qF : vB.cell? ⟨dA, 5, none⟩ = some (.int .i64 GA) := (blk_cell bA.out 5).trans rfl; have rF : vB.cell? ⟨dA, 6, none⟩ = some (.int .i64 IA) := (blk_cell bA.out 6).trans rfl; have sF : vB.cell? ⟨dA, 7, none⟩ = some (.int .i64 JA) := (blk_cell bA.out 7).trans rfl; have tF : vB.cell? ⟨dA, 8, none⟩ = some (.int .i64 KA) := (blk_cell bA.out 8).trans rfl; have uF : vB.cell? ⟨dA, 9, none⟩ = some (.bool AA) := (blk_cell bA.out 9).trans rfl; have vF := blk_frozen bA.out 0; have wF := blk_frozen bA.out 1; have xF := blk_frozen bA.out 2; have yF := blk_frozen bA.out 3; have zF := blk_frozen bA.out 4; have AF := blk_frozen bA.out 5; have BF := blk_frozen bA.out 6; have CF := blk_frozen bA.out 7; have DF := blk_frozen bA.out 8; have EF := blk_frozen bA.out 9))
          go_ret
          exact ⟨q1_5, q1_6⟩
        ·rw [if_neg c10] at H
         have YC : (qA == JA) = false := beq_eq_false_iff_ne.mpr c10
         have ZC : (qA != JA) = true := bne_iff_ne.mpr c10
         obtain rfl := Option.some.inj H
         go_enter Try.func17, Try.ntmps17
         go_wp2_with (first | ((with_reducible refine gate_dst (N := 2) rfl ?_); refine box_event ?hg (N := 2) ?hd (cs := #[.int .i64 eA, .int .i64 fA, .int .i64 iA, .int .i64 kA, .int .i64 lA, .int .i64 nA, .int .i64 jA, .int .i64 qA, .int .i64 rA, .bool oA]) (t := 23) ?hr ?_; (case hd => rfl); (case hg => rfl); (case hr => first | (go_simp; done) | (go_simp; rfl)); intro cA hg vO hbox hb; have tA := Aside0.mk (below_step q1_0 hb); have uA := Aside0.mk (hbox); have vA := Aside0.mk ((q1_7 : w.heap.size ≤ cA)); have wA := Aside0.mk ((q1_7 : w.heap.size ≤ cA)); clear HB; have HB := tA; have aA := uA; have cB := vA; have VA := wA; clear tA uA vA wA; clear hb hbox hg) | ((with_reducible refine gate_dst (N := 3) rfl ?_); refine box_event ?hg (N := 3) ?hd (cs := #[.int .i64 BA, .int .i64 CA, .int .i64 DA, .int .i64 EA, .int .i64 FA, .int .i64 GA, .int .i64 IA, .int .i64 JA, .int .i64 KA, .bool AA]) (t := 23) ?hr ?_; (case hd => rfl); (case hg => rfl); (case hr => first | (go_simp; done) | (go_simp; rfl)); intro dA hg wB hbox hb; have tA := Aside0.mk (blk_below (g := cA) (o := .cells #[.int .i64 eA, .int .i64 fA, .int .i64 iA, .int .i64 kA, .int .i64 lA, .int .i64 nA, .int .i64 jA, .int .i64 qA, .int .i64 rA, .bool oA] 23 (0, 0)) q1_2 hb); have uA := Aside0.mk (below_step q1_1 hb); have vA := Aside0.mk (hbox); have wA := Aside0.mk ((q1_13 : w.heap.size ≤ dA)); have SA := Aside0.mk ((q1_13 : w.heap.size ≤ dA)); have TA := Aside0.mk ((q1_3 : cA ≠ dA)); have UA := Aside0.mk ((q1_4 : dA ≠ cA)); clear aA HB; have aA := tA; have HB := uA; have bA := vA; have dB := wA; have XA := SA; have gA := TA; have hA := UA; clear tA uA vA wA SA TA UA; clear hb hbox hg; have BN := gA.out; have CN := hA.out; have FF : wB.cell? ⟨cA, 0, none⟩ = some (.int .i64 eA) := (blk_cell aA.out 0).trans rfl; have GF : wB.cell? ⟨cA, 1, none⟩ = some (.int .i64 fA) := (blk_cell aA.out 1).trans rfl; have HF : wB.cell? ⟨cA, 2, none⟩ = some (.int .i64 iA) := (blk_cell aA.out 2).trans rfl; have IF : wB.cell? ⟨cA, 3, none⟩ = some (.int .i64 kA) := (blk_cell aA.out 3).trans rfl; have JF : wB.cell? ⟨cA, 4, none⟩ = some (.int .i64 lA) := (blk_cell aA.out 4).trans rfl; have KF : wB.cell? ⟨cA, 5, none⟩ = some (.int .i64 nA) := (blk_cell aA.out 5).trans rfl; have LF : wB.cell? ⟨cA, 6, none⟩ = some (.int .i64 jA) := (blk_cell aA.out 6).trans rfl; have MF : wB.cell? ⟨cA, 7, none⟩ = some (.int .i64 qA) := (blk_cell aA.out 7).trans rfl; have NF : wB.cell? ⟨cA, 8, none⟩ = some (.int .i64 rA) := (blk_cell aA.out 8).trans rfl; have OF : wB.cell? ⟨cA, 9, none⟩ = some (.bool oA) := (blk_cell aA.out 9).trans rfl; have PF := blk_frozen aA.out 0; have QF := blk_frozen aA.out 1; have RF := blk_frozen aA.out 2; have SF := blk_frozen aA.out 3; have TF := blk_frozen aA.out 4; have UF := blk_frozen aA.out 5; have VF := blk_frozen aA.out 6; have WF := blk_frozen aA.out 7; have XF := blk_frozen aA.out 8; have YF := blk_frozen aA.out 9; have ZF : wB.cell? ⟨dA, 0, none⟩ = some (.int .i64 BA) := (blk_cell bA.out 0).trans rfl; have aG : wB.cell? ⟨dA, 1, none⟩ = some (.int .i64 CA) := (blk_cell bA.out 1).trans rfl; have bG : wB.cell? ⟨dA, 2, none⟩ = some (.int .i64 DA) := (blk_cell bA.out 2).trans rfl; have cG : wB.cell? ⟨dA, 3, none⟩ = some (.int .i64 EA) := (blk_cell bA.out 3).trans rfl; have dG : wB.cell? ⟨dA, 4, none⟩ = some (.int .i64 FA) := (blk_cell bA.out 4).trans rfl; have eG : wB.cell? ⟨dA, 5, none⟩ = some (.int .i64 GA) := (blk_cell bA.out 5).trans rfl; have fG : wB.cell? ⟨dA, 6, none⟩ = some (.int .i64 IA) := (blk_cell bA.out 6).trans rfl; have gG : wB.cell? ⟨dA, 7, none⟩ = some (.int .i64 JA) := (blk_cell bA.out 7).trans rfl; have hG : wB.cell? ⟨dA, 8, none⟩ = some (.int .i64 KA) := (blk_cell bA.out 8).trans rfl; have iG : wB.cell? ⟨dA, 9, none⟩ = some (.bool AA) := (blk_cell bA.out 9).trans rfl; have jG := blk_frozen bA.out 0; have kG := blk_frozen bA.out 1; have lG := blk_frozen bA.out 2; have mG := blk_frozen bA.out 3; have nG := blk_frozen bA.out 4; have oG := blk_frozen bA.out 5; have pG := blk_frozen bA.out 6; have qG := blk_frozen bA.out 7; have rG := blk_frozen bA.out 8; have sG := blk_frozen bA.out 9))
         go_ret
         exact ⟨q1_5, q1_6⟩
       ·rw [if_neg c9] at H
        have qM : (jA == IA) = false := beq_eq_false_iff_ne.mpr c9
        have rM : (jA != IA) = true := bne_iff_ne.mpr c9
        obtain rfl := Option.some.inj H
        go_enter Try.func17, Try.ntmps17
        go_wp2_with (first | ((with_reducible refine gate_dst (N := 2) rfl ?_); refine box_event ?hg (N := 2) ?hd (cs := #[.int .i64 eA, .int .i64 fA, .int .i64 iA, .int .i64 kA, .int .i64 lA, .int .i64 nA, .int .i64 jA, .int .i64 qA, .int .i64 rA, .bool oA]) (t := 23) ?hr ?_; (case hd => rfl); (case hg => rfl); (case hr => first | (go_simp; done) | (go_simp; rfl)); intro cA hg wO hbox hb; have tA := Aside0.mk (below_step q1_0 hb); have uA := Aside0.mk (hbox); have vA := Aside0.mk ((q1_7 : w.heap.size ≤ cA)); have wA := Aside0.mk ((q1_7 : w.heap.size ≤ cA)); clear HB; have HB := tA; have aA := uA; have cB := vA; have VA := wA; clear tA uA vA wA; clear hb hbox hg) | ((with_reducible refine gate_dst (N := 3) rfl ?_); refine box_event ?hg (N := 3) ?hd (cs := #[.int .i64 BA, .int .i64 CA, .int .i64 DA, .int .i64 EA, .int .i64 FA, .int .i64 GA, .int .i64 IA, .int .i64 JA, .int .i64 KA, .bool AA]) (t := 23) ?hr ?_; (case hd => rfl); (case hg => rfl); (case hr => first | (go_simp; done) | (go_simp; rfl)); intro dA hg xB hbox hb; have tA := Aside0.mk (blk_below (g := cA) (o := .cells #[.int .i64 eA, .int .i64 fA, .int .i64 iA, .int .i64 kA, .int .i64 lA, .int .i64 nA, .int .i64 jA, .int .i64 qA, .int .i64 rA, .bool oA] 23 (0, 0)) q1_2 hb); have uA := Aside0.mk (below_step q1_1 hb); have vA := Aside0.mk (hbox); have wA := Aside0.mk ((q1_13 : w.heap.size ≤ dA)); have SA := Aside0.mk ((q1_13 : w.heap.size ≤ dA)); have TA := Aside0.mk ((q1_3 : cA ≠ dA)); have UA := Aside0.mk ((q1_4 : dA ≠ cA)); clear aA HB; have aA := tA; have HB := uA; have bA := vA; have dB := wA; have XA := SA; have gA := TA; have hA := UA; clear tA uA vA wA SA TA UA; clear hb hbox hg; have DN := gA.out; have EN := hA.out; have tG : xB.cell? ⟨cA, 0, none⟩ = some (.int .i64 eA) := (blk_cell aA.out 0).trans rfl; have uG : xB.cell? ⟨cA, 1, none⟩ = some (.int .i64 fA) := (blk_cell aA.out 1).trans rfl; have vG : xB.cell? ⟨cA, 2, none⟩ = some (.int .i64 iA) := (blk_cell aA.out 2).trans rfl; have wG : xB.cell? ⟨cA, 3, none⟩ = some (.int .i64 kA) := (blk_cell aA.out 3).trans rfl; have xG : xB.cell? ⟨cA, 4, none⟩ = some (.int .i64 lA) := (blk_cell aA.out 4).trans rfl; have yG : xB.cell? ⟨cA, 5, none⟩ = some (.int .i64 nA) := (blk_cell aA.out 5).trans rfl; have zG : xB.cell? ⟨cA, 6, none⟩ = some (.int .i64 jA) := (blk_cell aA.out 6).trans rfl; have AG : xB.cell? ⟨cA, 7, none⟩ = some (.int .i64 qA) := (blk_cell aA.out 7).trans rfl; have BG : xB.cell? ⟨cA, 8, none⟩ = some (.int .i64 rA) := (blk_cell aA.out 8).trans rfl; have CG : xB.cell? ⟨cA, 9, none⟩ = some (.bool oA) := (blk_cell aA.out 9).trans rfl; have DG := blk_frozen aA.out 0; have EG := blk_frozen aA.out 1; have FG := blk_frozen aA.out 2; have GG := blk_frozen aA.out 3; have HG := blk_frozen aA.out 4; have IG := blk_frozen aA.out 5; have JG := blk_frozen aA.out 6; have KG := blk_frozen aA.out 7; have LG := blk_frozen aA.out 8; have MG := blk_frozen aA.out 9; have NG : xB.cell? ⟨dA, 0, none⟩ = some (.int .i64 BA) := (blk_cell bA.out 0).trans rfl; have OG : xB.cell? ⟨dA, 1, none⟩ = some (.int .i64 CA) := (blk_cell bA.out 1).trans rfl; have PG : xB.cell? ⟨dA, 2, none⟩ = some (.int .i64 DA) := (blk_cell bA.out 2).trans rfl; have QG : xB.cell? ⟨dA, 3, none⟩ = some (.int .i64 EA) := (blk_cell bA.out 3).trans rfl; have RG : xB.cell? ⟨dA, 4, none⟩ = some (.int .i64 FA) := (blk_cell bA.out 4).trans rfl; have SG : xB.cell? ⟨dA, 5, none⟩ = some (.int .i64 GA) := (blk_cell bA.out 5).trans rfl; have TG : xB.cell? ⟨dA, 6, none⟩ = some (.int .i64 IA) := (blk_cell bA.out 6).trans rfl; have UG : xB.cell? ⟨dA, 7, none⟩ = some (.int .i64 JA) := (blk_cell bA.out 7).trans rfl; have VG : xB.cell? ⟨dA, 8, none⟩ = some (.int .i64 KA) := (blk_cell bA.out 8).trans rfl; have WG : xB.cell? ⟨dA, 9, none⟩ = some (.bool AA) := (blk_cell bA.out 9).trans rfl; have XG := blk_frozen bA.out 0; have YG := blk_frozen bA.out 1; have ZG := blk_frozen bA.out 2; have aH := blk_frozen bA.out 3; have bH := blk_frozen bA.out 4; have cH := blk_frozen bA.out 5; have dH := blk_frozen bA.out 6; have eH := blk_frozen bA.out 7; have fH := blk_frozen bA.out 8; have gH := blk_frozen bA.out 9))
        go_ret
        exact ⟨q1_5, q1_6⟩
      ·rw [if_neg c8] at H
       have oM : (nA == GA) = false := beq_eq_false_iff_ne.mpr c8
       have pM : (nA != GA) = true := bne_iff_ne.mpr c8
       obtain rfl := Option.some.inj H
       go_enter Try.func17, Try.ntmps17
       go_wp2_with (first | ((with_reducible refine gate_dst (N := 2) rfl ?_); refine box_event ?hg (N := 2) ?hd (cs := #[.int .i64 eA, .int .i64 fA, .int .i64 iA, .int .i64 kA, .int .i64 lA, .int .i64 nA, .int .i64 jA, .int .i64 qA, .int .i64 rA, .bool oA]) (t := 23) ?hr ?_; (case hd => rfl); (case hg => rfl); (case hr => first | (go_simp; done) | (go_simp; rfl)); intro cA hg xO hbox hb; have tA := Aside0.mk (below_step q1_0 hb); have uA := Aside0.mk (hbox); have vA := Aside0.mk ((q1_7 : w.heap.size ≤ cA)); have wA := Aside0.mk ((q1_7 : w.heap.size ≤ cA)); clear HB; have HB := tA; have aA := uA; have cB := vA; have VA := wA; clear tA uA vA wA; clear hb hbox hg) | ((with_reducible refine gate_dst (N := 3) rfl ?_); refine box_event ?hg (N := 3) ?hd (cs := #[.int .i64 BA, .int .i64 CA, .int .i64 DA, .int .i64 EA, .int .i64 FA, .int .i64 GA, .int .i64 IA, .int .i64 JA, .int .i64 KA, .bool AA]) (t := 23) ?hr ?_; (case hd => rfl); (case hg => rfl); (case hr => first | (go_simp; done) | (go_simp; rfl)); intro dA hg yB hbox hb; have tA := Aside0.mk (blk_below (g := cA) (o := .cells #[.int .i64 eA, .int .i64 fA, .int .i64 iA, .int .i64 kA, .int .i64 lA, .int .i64 nA, .int .i64 jA, .int .i64 qA, .int .i64 rA, .bool oA] 23 (0, 0)) q1_2 hb); have uA := Aside0.mk (below_step q1_1 hb); have vA := Aside0.mk (hbox); have wA := Aside0.mk ((q1_13 : w.heap.size ≤ dA)); have SA := Aside0.mk ((q1_13 : w.heap.size ≤ dA)); have TA := Aside0.mk ((q1_3 : cA ≠ dA)); have UA := Aside0.mk ((q1_4 : dA ≠ cA)); clear aA HB; have aA := tA; have HB := uA; have bA := vA; have dB := wA; have XA := SA; have gA := TA; have hA := UA; clear tA uA vA wA SA TA UA; clear hb hbox hg; have FN := gA.out; have GN := hA.out; have hH : yB.cell? ⟨cA, 0, none⟩ = some (.int .i64 eA) := (blk_cell aA.out 0).trans rfl; have iH : yB.cell? ⟨cA, 1, none⟩ = some (.int .i64 fA) := (blk_cell aA.out 1).trans rfl; have jH : yB.cell? ⟨cA, 2, none⟩ = some (.int .i64 iA) := (blk_cell aA.out 2).trans rfl; have kH : yB.cell? ⟨cA, 3, none⟩ = some (.int .i64 kA) := (blk_cell aA.out 3).trans rfl; have lH : yB.cell? ⟨cA, 4, none⟩ = some (.int .i64 lA) := (blk_cell aA.out 4).trans rfl; have mH : yB.cell? ⟨cA, 5, none⟩ = some (.int .i64 nA) := (blk_cell aA.out 5).trans rfl; have nH : yB.cell? ⟨cA, 6, none⟩ = some (.int .i64 jA) := (blk_cell aA.out 6).trans rfl; have oH : yB.cell? ⟨cA, 7, none⟩ = some (.int .i64 qA) := (blk_cell aA.out 7).trans rfl; have pH : yB.cell? ⟨cA, 8, none⟩ = some (.int .i64 rA) := (blk_cell aA.out 8).trans rfl; have qH : yB.cell? ⟨cA, 9, none⟩ = some (.bool oA) := (blk_cell aA.out 9).trans rfl; have rH := blk_frozen aA.out 0; have sH := blk_frozen aA.out 1; have tH := blk_frozen aA.out 2; have uH := blk_frozen aA.out 3; have vH := blk_frozen aA.out 4; have wH := blk_frozen aA.out 5; have xH := blk_frozen aA.out 6; have yH := blk_frozen aA.out 7; have zH := blk_frozen aA.out 8; have AH := blk_frozen aA.out 9; have BH : yB.cell? ⟨dA, 0, none⟩ = some (.int .i64 BA) := (blk_cell bA.out 0).trans rfl; have CH : yB.cell? ⟨dA, 1, none⟩ = some (.int .i64 CA) := (blk_cell bA.out 1).trans rfl; have DH : yB.cell? ⟨dA, 2, none⟩ = some (.int .i64 DA) := (blk_cell bA.out 2).trans rfl; have EH : yB.cell? ⟨dA, 3, none⟩ = some (.int .i64 EA) := (blk_cell bA.out 3).trans rfl; have FH : yB.cell? ⟨dA, 4, none⟩ = some (.int .i64 FA) := (blk_cell bA.out 4).trans rfl; have GH : yB.cell? ⟨dA, 5, none⟩ = some (.int .i64 GA) := (blk_cell bA.out 5).trans rfl; have HH : yB.cell? ⟨dA, 6, none⟩ = some (.int .i64 IA) := (blk_cell bA.out 6).trans rfl; have IH : yB.cell? ⟨dA, 7, none⟩ = some (.int .i64 JA) := (blk_cell bA.out 7).trans rfl; have JH : yB.cell? ⟨dA, 8, none⟩ = some (.int .i64 KA) := (blk_cell bA.out 8).trans rfl; have KH : yB.cell? ⟨dA, 9, none⟩ = some (.bool AA) := (blk_cell bA.out 9).trans rfl; have LH := blk_frozen bA.out 0; have MH := blk_frozen bA.out 1; have NH := blk_frozen bA.out 2; have OH := blk_frozen bA.out 3; have PH := blk_frozen bA.out 4; have QH := blk_frozen bA.out 5; have RH := blk_frozen bA.out 6; have SH := blk_frozen bA.out 7; have TH := blk_frozen bA.out 8; have UH := blk_frozen bA.out 9))
       go_ret
       exact ⟨q1_5, q1_6⟩
     ·rw [if_neg c7] at H
      have wC : (lA == FA) = false := beq_eq_false_iff_ne.mpr c7
      have xC : (lA != FA) = true := bne_iff_ne.mpr c7
      obtain rfl := Option.some.inj H
      go_enter Try.func17, Try.ntmps17
      go_wp2_with (first | ((with_reducible refine gate_dst (N := 2) rfl ?_); refine box_event ?hg (N := 2) ?hd (cs := #[.int .i64 eA, .int .i64 fA, .int .i64 iA, .int .i64 kA, .int .i64 lA, .int .i64 nA, .int .i64 jA, .int .i64 qA, .int .i64 rA, .bool oA]) (t := 23) ?hr ?_; (case hd => rfl); (case hg => rfl); (case hr => first | (go_simp; done) | (go_simp; rfl)); intro cA hg yO hbox hb; have tA := Aside0.mk (below_step q1_0 hb); have uA := Aside0.mk (hbox); have vA := Aside0.mk ((q1_7 : w.heap.size ≤ cA)); have wA := Aside0.mk ((q1_7 : w.heap.size ≤ cA)); clear HB; have HB := tA; have aA := uA; have cB := vA; have VA := wA; clear tA uA vA wA; clear hb hbox hg) | ((with_reducible refine gate_dst (N := 3) rfl ?_); refine box_event ?hg (N := 3) ?hd (cs := #[.int .i64 BA, .int .i64 CA, .int .i64 DA, .int .i64 EA, .int .i64 FA, .int .i64 GA, .int .i64 IA, .int .i64 JA, .int .i64 KA, .bool AA]) (t := 23) ?hr ?_; (case hd => rfl); (case hg => rfl); (case hr => first | (go_simp; done) | (go_simp; rfl)); intro dA hg zB hbox hb; have tA := Aside0.mk (blk_below (g := cA) (o := .cells #[.int .i64 eA, .int .i64 fA, .int .i64 iA, .int .i64 kA, .int .i64 lA, .int .i64 nA, .int .i64 jA, .int .i64 qA, .int .i64 rA, .bool oA] 23 (0, 0)) q1_2 hb); have uA := Aside0.mk (below_step q1_1 hb); have vA := Aside0.mk (hbox); have wA := Aside0.mk ((q1_13 : w.heap.size ≤ dA)); have SA := Aside0.mk ((q1_13 : w.heap.size ≤ dA)); have TA := Aside0.mk ((q1_3 : cA ≠ dA)); have UA := Aside0.mk ((q1_4 : dA ≠ cA)); clear aA HB; have aA := tA; have HB := uA; have bA := vA; have dB := wA; have XA := SA; have gA := TA; have hA := UA; clear tA uA vA wA SA TA UA; clear hb hbox hg; have HN := gA.out; have IN := hA.out; have VH : zB.cell? ⟨cA, 0, none⟩ = some (.int .i64 eA) := (blk_cell aA.out 0).trans rfl; have WH : zB.cell? ⟨cA, 1, none⟩ = some (.int .i64 fA) := (blk_cell aA.out 1).trans rfl; have XH : zB.cell? ⟨cA, 2, none⟩ = some (.int .i64 iA) := (blk_cell aA.out 2).trans rfl; have YH : zB.cell? ⟨cA, 3, none⟩ = some (.int .i64 kA) := (blk_cell aA.out 3).trans rfl; have ZH : zB.cell? ⟨cA, 4, none⟩ = some (.int .i64 lA) := (blk_cell aA.out 4).trans rfl; have aI : zB.cell? ⟨cA, 5, none⟩ = some (.int .i64 nA) := (blk_cell aA.out 5).trans rfl; have bI : zB.cell? ⟨cA, 6, none⟩ = some (.int .i64 jA) := (blk_cell aA.out 6).trans rfl; have cI : zB.cell? ⟨cA, 7, none⟩ = some (.int .i64 qA) := (blk_cell aA.out 7).trans rfl; have dI : zB.cell? ⟨cA, 8, none⟩ = some (.int .i64 rA) := (blk_cell aA.out 8).trans rfl; have eI : zB.cell? ⟨cA, 9, none⟩ = some (.bool oA) := (blk_cell aA.out 9).trans rfl; have fI := blk_frozen aA.out 0; have gI := blk_frozen aA.out 1; have hI := blk_frozen aA.out 2; have iI := blk_frozen aA.out 3; have jI := blk_frozen aA.out 4; have kI := blk_frozen aA.out 5; have lI := blk_frozen aA.out 6; have mI := blk_frozen aA.out 7; have nI := blk_frozen aA.out 8; have oI := blk_frozen aA.out 9; have pI : zB.cell? ⟨dA, 0, none⟩ = some (.int .i64 BA) := (blk_cell bA.out 0).trans rfl; have qI : zB.cell? ⟨dA, 1, none⟩ = some (.int .i64 CA) := (blk_cell bA.out 1).trans rfl; have rI : zB.cell? ⟨dA, 2, none⟩ = some (.int .i64 DA) := (blk_cell bA.out 2).trans rfl; have sI : zB.cell? ⟨dA, 3, none⟩ = some (.int .i64 EA) := (blk_cell bA.out 3).trans rfl; have tI : zB.cell? ⟨dA, 4, none⟩ = some (.int .i64 FA) := (blk_cell bA.out 4).trans rfl; have uI : zB.cell? ⟨dA, 5, none⟩ = some (.int .i64 GA) := (blk_cell bA.out 5).trans rfl; have vI : zB.cell? ⟨dA, 6, none⟩ = some (.int .i64 IA) := (blk_cell bA.out 6).trans rfl; have wI : zB.cell? ⟨dA, 7, none⟩ = some (.int .i64 JA) := (blk_cell bA.out 7).trans rfl; have xI : zB.cell? ⟨dA, 8, none⟩ = some (.int .i64 KA) := (blk_cell bA.out 8).trans rfl; have yI : zB.cell? ⟨dA, 9, none⟩ = some (.bool AA) := (blk_cell bA.out 9).trans rfl; have zI := blk_frozen bA.out 0; have AI := blk_frozen bA.out 1; have BI := blk_frozen bA.out 2; have CI := blk_frozen bA.out 3; have DI := blk_frozen bA.out 4; have EI := blk_frozen bA.out 5; have FI := blk_frozen bA.out 6; have GI := blk_frozen bA.out 7; have HI := blk_frozen bA.out 8; have II := blk_frozen bA.out 9))
      go_ret
      exact ⟨q1_5, q1_6⟩
    ·rw [if_neg c6] at H
     have XC : (kA == EA) = false := beq_eq_false_iff_ne.mpr c6
     have nM : (kA != EA) = true := bne_iff_ne.mpr c6
     obtain rfl := Option.some.inj H
     go_enter Try.func17, Try.ntmps17
     go_wp2_with (first | ((with_reducible refine gate_dst (N := 2) rfl ?_); refine box_event ?hg (N := 2) ?hd (cs := #[.int .i64 eA, .int .i64 fA, .int .i64 iA, .int .i64 kA, .int .i64 lA, .int .i64 nA, .int .i64 jA, .int .i64 qA, .int .i64 rA, .bool oA]) (t := 23) ?hr ?_; (case hd => rfl); (case hg => rfl); (case hr => first | (go_simp; done) | (go_simp; rfl)); intro cA hg zO hbox hb; have tA := Aside0.mk (below_step q1_0 hb); have uA := Aside0.mk (hbox); have vA := Aside0.mk ((q1_7 : w.heap.size ≤ cA)); have wA := Aside0.mk ((q1_7 : w.heap.size ≤ cA)); clear HB; have HB := tA; have aA := uA; have cB := vA; have VA := wA; clear tA uA vA wA; clear hb hbox hg) | ((with_reducible refine gate_dst (N := 3) rfl ?_); refine box_event ?hg (N := 3) ?hd (cs := #[.int .i64 BA, .int .i64 CA, .int .i64 DA, .int .i64 EA, .int .i64 FA, .int .i64 GA, .int .i64 IA, .int .i64 JA, .int .i64 KA, .bool AA]) (t := 23) ?hr ?_; (case hd => rfl); (case hg => rfl); (case hr => first | (go_simp; done) | (go_simp; rfl)); intro dA hg AB hbox hb; have tA := Aside0.mk (blk_below (g := cA) (o := .cells #[.int .i64 eA, .int .i64 fA, .int .i64 iA, .int .i64 kA, .int .i64 lA, .int .i64 nA, .int .i64 jA, .int .i64 qA, .int .i64 rA, .bool oA] 23 (0, 0)) q1_2 hb); have uA := Aside0.mk (below_step q1_1 hb); have vA := Aside0.mk (hbox); have wA := Aside0.mk ((q1_13 : w.heap.size ≤ dA)); have SA := Aside0.mk ((q1_13 : w.heap.size ≤ dA)); have TA := Aside0.mk ((q1_3 : cA ≠ dA)); have UA := Aside0.mk ((q1_4 : dA ≠ cA)); clear aA HB; have aA := tA; have HB := uA; have bA := vA; have dB := wA; have XA := SA; have gA := TA; have hA := UA; clear tA uA vA wA SA TA UA; clear hb hbox hg; have JN := gA.out; have KN := hA.out; have JI : AB.cell? ⟨cA, 0, none⟩ = some (.int .i64 eA) := (blk_cell aA.out 0).trans rfl; have KI : AB.cell? ⟨cA, 1, none⟩ = some (.int .i64 fA) := (blk_cell aA.out 1).trans rfl; have LI : AB.cell? ⟨cA, 2, none⟩ = some (.int .i64 iA) := (blk_cell aA.out 2).trans rfl; have MI : AB.cell? ⟨cA, 3, none⟩ = some (.int .i64 kA) := (blk_cell aA.out 3).trans rfl; have NI : AB.cell? ⟨cA, 4, none⟩ = some (.int .i64 lA) := (blk_cell aA.out 4).trans rfl; have OI : AB.cell? ⟨cA, 5, none⟩ = some (.int .i64 nA) := (blk_cell aA.out 5).trans rfl; have PI : AB.cell? ⟨cA, 6, none⟩ = some (.int .i64 jA) := (blk_cell aA.out 6).trans rfl; have QI : AB.cell? ⟨cA, 7, none⟩ = some (.int .i64 qA) := (blk_cell aA.out 7).trans rfl; have RI : AB.cell? ⟨cA, 8, none⟩ = some (.int .i64 rA) := (blk_cell aA.out 8).trans rfl; have SI : AB.cell? ⟨cA, 9, none⟩ = some (.bool oA) := (blk_cell aA.out 9).trans rfl; have TI := blk_frozen aA.out 0; have UI := blk_frozen aA.out 1; have VI := blk_frozen aA.out 2; have WI := blk_frozen aA.out 3; have XI := blk_frozen aA.out 4; have YI := blk_frozen aA.out 5; have ZI := blk_frozen aA.out 6; have aJ := blk_frozen aA.out 7; have bJ := blk_frozen aA.out 8; have cJ := blk_frozen aA.out 9; have dJ : AB.cell? ⟨dA, 0, none⟩ = some (.int .i64 BA) := (blk_cell bA.out 0).trans rfl; have eJ : AB.cell? ⟨dA, 1, none⟩ = some (.int .i64 CA) := (blk_cell bA.out 1).trans rfl; have fJ : AB.cell? ⟨dA, 2, none⟩ = some (.int .i64 DA) := (blk_cell bA.out 2).trans rfl; have gJ : AB.cell? ⟨dA, 3, none⟩ = some (.int .i64 EA) := (blk_cell bA.out 3).trans rfl; have hJ : AB.cell? ⟨dA, 4, none⟩ = some (.int .i64 FA) := (blk_cell bA.out 4).trans rfl; have iJ : AB.cell? ⟨dA, 5, none⟩ = some (.int .i64 GA) := (blk_cell bA.out 5).trans rfl; have jJ : AB.cell? ⟨dA, 6, none⟩ = some (.int .i64 IA) := (blk_cell bA.out 6).trans rfl; have kJ : AB.cell? ⟨dA, 7, none⟩ = some (.int .i64 JA) := (blk_cell bA.out 7).trans rfl; have lJ : AB.cell? ⟨dA, 8, none⟩ = some (.int .i64 KA) := (blk_cell bA.out 8).trans rfl; have mJ : AB.cell? ⟨dA, 9, none⟩ = some (.bool AA) := (blk_cell bA.out 9).trans rfl; have nJ := blk_frozen bA.out 0; have oJ := blk_frozen bA.out 1; have pJ := blk_frozen bA.out 2; have qJ := blk_frozen bA.out 3; have rJ := blk_frozen bA.out 4; have sJ := blk_frozen bA.out 5; have tJ := blk_frozen bA.out 6; have uJ := blk_frozen bA.out 7; have vJ := blk_frozen bA.out 8; have wJ := blk_frozen bA.out 9))
     go_ret
     exact ⟨q1_5, q1_6⟩
   ·rw [if_neg c5] at H
    have kC : (iA == DA) = false := beq_eq_false_iff_ne.mpr c5
    have vC : (iA != DA) = true := bne_iff_ne.mpr c5
    obtain rfl := Option.some.inj H
    go_enter Try.func17, Try.ntmps17
    go_wp2_with (first | ((with_reducible refine gate_dst (N := 2) rfl ?_); refine box_event ?hg (N := 2) ?hd (cs := #[.int .i64 eA, .int .i64 fA, .int .i64 iA, .int .i64 kA, .int .i64 lA, .int .i64 nA, .int .i64 jA, .int .i64 qA, .int .i64 rA, .bool oA]) (t := 23) ?hr ?_; (case hd => rfl); (case hg => rfl); (case hr => first | (go_simp; done) | (go_simp; rfl)); intro cA hg AO hbox hb; have tA := Aside0.mk (below_step q1_0 hb); have uA := Aside0.mk (hbox); have vA := Aside0.mk ((q1_7 : w.heap.size ≤ cA)); have wA := Aside0.mk ((q1_7 : w.heap.size ≤ cA)); clear HB; have HB := tA; have aA := uA; have cB := vA; have VA := wA; clear tA uA vA wA; clear hb hbox hg) | ((with_reducible refine gate_dst (N := 3) rfl ?_); refine box_event ?hg (N := 3) ?hd (cs := #[.int .i64 BA, .int .i64 CA, .int .i64 DA, .int .i64 EA, .int .i64 FA, .int .i64 GA, .int .i64 IA, .int .i64 JA, .int .i64 KA, .bool AA]) (t := 23) ?hr ?_; (case hd => rfl); (case hg => rfl); (case hr => first | (go_simp; done) | (go_simp; rfl)); intro dA hg BB hbox hb; have tA := Aside0.mk (blk_below (g := cA) (o := .cells #[.int .i64 eA, .int .i64 fA, .int .i64 iA, .int .i64 kA, .int .i64 lA, .int .i64 nA, .int .i64 jA, .int .i64 qA, .int .i64 rA, .bool oA] 23 (0, 0)) q1_2 hb); have uA := Aside0.mk (below_step q1_1 hb); have vA := Aside0.mk (hbox); have wA := Aside0.mk ((q1_13 : w.heap.size ≤ dA)); have SA := Aside0.mk ((q1_13 : w.heap.size ≤ dA)); have TA := Aside0.mk ((q1_3 : cA ≠ dA)); have UA := Aside0.mk ((q1_4 : dA ≠ cA)); clear aA HB; have aA := tA; have HB := uA; have bA := vA; have dB := wA; have XA := SA; have gA := TA; have hA := UA; clear tA uA vA wA SA TA UA; clear hb hbox hg; have LN := gA.out; have MN := hA.out; have xJ : BB.cell? ⟨cA, 0, none⟩ = some (.int .i64 eA) := (blk_cell aA.out 0).trans rfl; have yJ : BB.cell? ⟨cA, 1, none⟩ = some (.int .i64 fA) := (blk_cell aA.out 1).trans rfl; have zJ : BB.cell? ⟨cA, 2, none⟩ = some (.int .i64 iA) := (blk_cell aA.out 2).trans rfl; have AJ : BB.cell? ⟨cA, 3, none⟩ = some (.int .i64 kA) := (blk_cell aA.out 3).trans rfl; have BJ : BB.cell? ⟨cA, 4, none⟩ = some (.int .i64 lA) := (blk_cell aA.out 4).trans rfl; have CJ : BB.cell? ⟨cA, 5, none⟩ = some (.int .i64 nA) := (blk_cell aA.out 5).trans rfl; have DJ : BB.cell? ⟨cA, 6, none⟩ = some (.int .i64 jA) := (blk_cell aA.out 6).trans rfl; have EJ : BB.cell? ⟨cA, 7, none⟩ = some (.int .i64 qA) := (blk_cell aA.out 7).trans rfl; have FJ : BB.cell? ⟨cA, 8, none⟩ = some (.int .i64 rA) := (blk_cell aA.out 8).trans rfl; have GJ : BB.cell? ⟨cA, 9, none⟩ = some (.bool oA) := (blk_cell aA.out 9).trans rfl; have HJ := blk_frozen aA.out 0; have IJ := blk_frozen aA.out 1; have JJ := blk_frozen aA.out 2; have KJ := blk_frozen aA.out 3; have LJ := blk_frozen aA.out 4; have MJ := blk_frozen aA.out 5; have NJ := blk_frozen aA.out 6; have OJ := blk_frozen aA.out 7; have PJ := blk_frozen aA.out 8; have QJ := blk_frozen aA.out 9; have RJ : BB.cell? ⟨dA, 0, none⟩ = some (.int .i64 BA) := (blk_cell bA.out 0).trans rfl; have SJ : BB.cell? ⟨dA, 1, none⟩ = some (.int .i64 CA) := (blk_cell bA.out 1).trans rfl; have TJ : BB.cell? ⟨dA, 2, none⟩ = some (.int .i64 DA) := (blk_cell bA.out 2).trans rfl; have UJ : BB.cell? ⟨dA, 3, none⟩ = some (.int .i64 EA) := (blk_cell bA.out 3).trans rfl; have VJ : BB.cell? ⟨dA, 4, none⟩ = some (.int .i64 FA) := (blk_cell bA.out 4).trans rfl; have WJ : BB.cell? ⟨dA, 5, none⟩ = some (.int .i64 GA) := (blk_cell bA.out 5).trans rfl; have XJ : BB.cell? ⟨dA, 6, none⟩ = some (.int .i64 IA) := (blk_cell bA.out 6).trans rfl; have YJ : BB.cell? ⟨dA, 7, none⟩ = some (.int .i64 JA) := (blk_cell bA.out 7).trans rfl; have ZJ : BB.cell? ⟨dA, 8, none⟩ = some (.int .i64 KA) := (blk_cell bA.out 8).trans rfl; have aK : BB.cell? ⟨dA, 9, none⟩ = some (.bool AA) := (blk_cell bA.out 9).trans rfl; have bK := blk_frozen bA.out 0; have cK := blk_frozen bA.out 1; have dK := blk_frozen bA.out 2; have eK := blk_frozen bA.out 3; have fK := blk_frozen bA.out 4; have gK := blk_frozen bA.out 5; have hK := blk_frozen bA.out 6; have iK := blk_frozen bA.out 7; have jK := blk_frozen bA.out 8; have kK := blk_frozen bA.out 9))
    go_ret
    exact ⟨q1_5, q1_6⟩
  ·rw [if_neg c4] at H
   have mB : (fA == CA) = false := beq_eq_false_iff_ne.mpr c4
   have mM : (fA != CA) = true := bne_iff_ne.mpr c4
   obtain rfl := Option.some.inj H
   go_enter Try.func17, Try.ntmps17
   go_wp2_with (first | ((with_reducible refine gate_dst (N := 2) rfl ?_); refine box_event ?hg (N := 2) ?hd (cs := #[.int .i64 eA, .int .i64 fA, .int .i64 iA, .int .i64 kA, .int .i64 lA, .int .i64 nA, .int .i64 jA, .int .i64 qA, .int .i64 rA, .bool oA]) (t := 23) ?hr ?_; (case hd => rfl); (case hg => rfl); (case hr => first | (go_simp; done) | (go_simp; rfl)); intro cA hg BO hbox hb; have tA := Aside0.mk (below_step q1_0 hb); have uA := Aside0.mk (hbox); have vA := Aside0.mk ((q1_7 : w.heap.size ≤ cA)); have wA := Aside0.mk ((q1_7 : w.heap.size ≤ cA)); clear HB; have HB := tA; have aA := uA; have cB := vA; have VA := wA; clear tA uA vA wA; clear hb hbox hg) | ((with_reducible refine gate_dst (N := 3) rfl ?_); refine box_event ?hg (N := 3) ?hd (cs := #[.int .i64 BA, .int .i64 CA, .int .i64 DA, .int .i64 EA, .int .i64 FA, .int .i64 GA, .int .i64 IA, .int .i64 JA, .int .i64 KA, .bool AA]) (t := 23) ?hr ?_; (case hd => rfl); (case hg => rfl); (case hr => first | (go_simp; done) | (go_simp; rfl)); intro dA hg CB hbox hb; have tA := Aside0.mk (blk_below (g := cA) (o := .cells #[.int .i64 eA, .int .i64 fA, .int .i64 iA, .int .i64 kA, .int .i64 lA, .int .i64 nA, .int .i64 jA, .int .i64 qA, .int .i64 rA, .bool oA] 23 (0, 0)) q1_2 hb); have uA := Aside0.mk (below_step q1_1 hb); have vA := Aside0.mk (hbox); have wA := Aside0.mk ((q1_13 : w.heap.size ≤ dA)); have SA := Aside0.mk ((q1_13 : w.heap.size ≤ dA)); have TA := Aside0.mk ((q1_3 : cA ≠ dA)); have UA := Aside0.mk ((q1_4 : dA ≠ cA)); clear aA HB; have aA := tA; have HB := uA; have bA := vA; have dB := wA; have XA := SA; have gA := TA; have hA := UA; clear tA uA vA wA SA TA UA; clear hb hbox hg; have NN := gA.out; have ON := hA.out; have lK : CB.cell? ⟨cA, 0, none⟩ = some (.int .i64 eA) := (blk_cell aA.out 0).trans rfl; have mK : CB.cell? ⟨cA, 1, none⟩ = some (.int .i64 fA) := (blk_cell aA.out 1).trans rfl; have nK : CB.cell? ⟨cA, 2, none⟩ = some (.int .i64 iA) := (blk_cell aA.out 2).trans rfl; have oK : CB.cell? ⟨cA, 3, none⟩ = some (.int .i64 kA) := (blk_cell aA.out 3).trans rfl; have pK : CB.cell? ⟨cA, 4, none⟩ = some (.int .i64 lA) := (blk_cell aA.out 4).trans rfl; have qK : CB.cell? ⟨cA, 5, none⟩ = some (.int .i64 nA) := (blk_cell aA.out 5).trans rfl; have rK : CB.cell? ⟨cA, 6, none⟩ = some (.int .i64 jA) := (blk_cell aA.out 6).trans rfl; have sK : CB.cell? ⟨cA, 7, none⟩ = some (.int .i64 qA) := (blk_cell aA.out 7).trans rfl; have tK : CB.cell? ⟨cA, 8, none⟩ = some (.int .i64 rA) := (blk_cell aA.out 8).trans rfl; have uK : CB.cell? ⟨cA, 9, none⟩ = some (.bool oA) := (blk_cell aA.out 9).trans rfl; have vK := blk_frozen aA.out 0; have wK := blk_frozen aA.out 1; have xK := blk_frozen aA.out 2; have yK := blk_frozen aA.out 3; have zK := blk_frozen aA.out 4; have AK := blk_frozen aA.out 5; have BK := blk_frozen aA.out 6; have CK := blk_frozen aA.out 7; have DK := blk_frozen aA.out 8; have EK := blk_frozen aA.out 9; have FK : CB.cell? ⟨dA, 0, none⟩ = some (.int .i64 BA) := (blk_cell bA.out 0).trans rfl; have GK : CB.cell? ⟨dA, 1, none⟩ = some (.int .i64 CA) := (blk_cell bA.out 1).trans rfl; have IK : CB.cell? ⟨dA, 2, none⟩ = some (.int .i64 DA) := (blk_cell bA.out 2).trans rfl; have JK : CB.cell? ⟨dA, 3, none⟩ = some (.int .i64 EA) := (blk_cell bA.out 3).trans rfl; have KK : CB.cell? ⟨dA, 4, none⟩ = some (.int .i64 FA) := (blk_cell bA.out 4).trans rfl; have LK : CB.cell? ⟨dA, 5, none⟩ = some (.int .i64 GA) := (blk_cell bA.out 5).trans rfl; have MK : CB.cell? ⟨dA, 6, none⟩ = some (.int .i64 IA) := (blk_cell bA.out 6).trans rfl; have NK : CB.cell? ⟨dA, 7, none⟩ = some (.int .i64 JA) := (blk_cell bA.out 7).trans rfl; have OK : CB.cell? ⟨dA, 8, none⟩ = some (.int .i64 KA) := (blk_cell bA.out 8).trans rfl; have PK : CB.cell? ⟨dA, 9, none⟩ = some (.bool AA) := (blk_cell bA.out 9).trans rfl; have QK := blk_frozen bA.out 0; have RK := blk_frozen bA.out 1; have SK := blk_frozen bA.out 2; have TK := blk_frozen bA.out 3; have UK := blk_frozen bA.out 4; have VK := blk_frozen bA.out 5; have WK := blk_frozen bA.out 6; have XK := blk_frozen bA.out 7; have YK := blk_frozen bA.out 8; have ZK := blk_frozen bA.out 9))
   go_ret
   exact ⟨q1_5, q1_6⟩
 ·rw [if_neg c3] at H
  have lB : (eA == BA) = false := beq_eq_false_iff_ne.mpr c3
  have jC : (eA != BA) = true := bne_iff_ne.mpr c3
  obtain rfl := Option.some.inj H
  go_enter Try.func17, Try.ntmps17
  go_wp2_with (first | ((with_reducible refine gate_dst (N := 2) rfl ?_); refine box_event ?hg (N := 2) ?hd (cs := #[.int .i64 eA, .int .i64 fA, .int .i64 iA, .int .i64 kA, .int .i64 lA, .int .i64 nA, .int .i64 jA, .int .i64 qA, .int .i64 rA, .bool oA]) (t := 23) ?hr ?_; (case hd => rfl); (case hg => rfl); (case hr => first | (go_simp; done) | (go_simp; rfl)); intro cA hg CO hbox hb; have tA := Aside0.mk (below_step q1_0 hb); have uA := Aside0.mk (hbox); have vA := Aside0.mk ((q1_7 : w.heap.size ≤ cA)); have wA := Aside0.mk ((q1_7 : w.heap.size ≤ cA)); clear HB; have HB := tA; have aA := uA; have cB := vA; have VA := wA; clear tA uA vA wA; clear hb hbox hg) | ((with_reducible refine gate_dst (N := 3) rfl ?_); refine box_event ?hg (N := 3) ?hd (cs := #[.int .i64 BA, .int .i64 CA, .int .i64 DA, .int .i64 EA, .int .i64 FA, .int .i64 GA, .int .i64 IA, .int .i64 JA, .int .i64 KA, .bool AA]) (t := 23) ?hr ?_; (case hd => rfl); (case hg => rfl); (case hr => first | (go_simp; done) | (go_simp; rfl)); intro dA hg DB hbox hb; have tA := Aside0.mk (blk_below (g := cA) (o := .cells #[.int .i64 eA, .int .i64 fA, .int .i64 iA, .int .i64 kA, .int .i64 lA, .int .i64 nA, .int .i64 jA, .int .i64 qA, .int .i64 rA, .bool oA] 23 (0, 0)) q1_2 hb); have uA := Aside0.mk (below_step q1_1 hb); have vA := Aside0.mk (hbox); have wA := Aside0.mk ((q1_13 : w.heap.size ≤ dA)); have SA := Aside0.mk ((q1_13 : w.heap.size ≤ dA)); have TA := Aside0.mk ((q1_3 : cA ≠ dA)); have UA := Aside0.mk ((q1_4 : dA ≠ cA)); clear aA HB; have aA := tA; have HB := uA; have bA := vA; have dB := wA; have XA := SA; have gA := TA; have hA := UA; clear tA uA vA wA SA TA UA; clear hb hbox hg; have PN := gA.out; have QN := hA.out; have aL : DB.cell? ⟨cA, 0, none⟩ = some (.int .i64 eA) := (blk_cell aA.out 0).trans rfl; have bL : DB.cell? ⟨cA, 1, none⟩ = some (.int .i64 fA) := (blk_cell aA.out 1).trans rfl; have cL : DB.cell? ⟨cA, 2, none⟩ = some (.int .i64 iA) := (blk_cell aA.out 2).trans rfl; have dL : DB.cell? ⟨cA, 3, none⟩ = some (.int .i64 kA) := (blk_cell aA.out 3).trans rfl; have eL : DB.cell? ⟨cA, 4, none⟩ = some (.int .i64 lA) := (blk_cell aA.out 4).trans rfl; have fL : DB.cell? ⟨cA, 5, none⟩ = some (.int .i64 nA) := (blk_cell aA.out 5).trans rfl; have gL : DB.cell? ⟨cA, 6, none⟩ = some (.int .i64 jA) := (blk_cell aA.out 6).trans rfl; have hL : DB.cell? ⟨cA, 7, none⟩ = some (.int .i64 qA) := (blk_cell aA.out 7).trans rfl; have iL : DB.cell? ⟨cA, 8, none⟩ = some (.int .i64 rA) := (blk_cell aA.out 8).trans rfl; have jL : DB.cell? ⟨cA, 9, none⟩ = some (.bool oA) := (blk_cell aA.out 9).trans rfl; have kL := blk_frozen aA.out 0; have lL := blk_frozen aA.out 1; have mL := blk_frozen aA.out 2; have nL := blk_frozen aA.out 3; have oL := blk_frozen aA.out 4; have pL := blk_frozen aA.out 5; have qL := blk_frozen aA.out 6; have rL := blk_frozen aA.out 7; have sL := blk_frozen aA.out 8; have tL := blk_frozen aA.out 9; have uL : DB.cell? ⟨dA, 0, none⟩ = some (.int .i64 BA) := (blk_cell bA.out 0).trans rfl; have vL : DB.cell? ⟨dA, 1, none⟩ = some (.int .i64 CA) := (blk_cell bA.out 1).trans rfl; have wL : DB.cell? ⟨dA, 2, none⟩ = some (.int .i64 DA) := (blk_cell bA.out 2).trans rfl; have xL : DB.cell? ⟨dA, 3, none⟩ = some (.int .i64 EA) := (blk_cell bA.out 3).trans rfl; have yL : DB.cell? ⟨dA, 4, none⟩ = some (.int .i64 FA) := (blk_cell bA.out 4).trans rfl; have zL : DB.cell? ⟨dA, 5, none⟩ = some (.int .i64 GA) := (blk_cell bA.out 5).trans rfl; have AL : DB.cell? ⟨dA, 6, none⟩ = some (.int .i64 IA) := (blk_cell bA.out 6).trans rfl; have BL : DB.cell? ⟨dA, 7, none⟩ = some (.int .i64 JA) := (blk_cell bA.out 7).trans rfl; have CL : DB.cell? ⟨dA, 8, none⟩ = some (.int .i64 KA) := (blk_cell bA.out 8).trans rfl; have DL : DB.cell? ⟨dA, 9, none⟩ = some (.bool AA) := (blk_cell bA.out 9).trans rfl; have EL := blk_frozen bA.out 0; have FL := blk_frozen bA.out 1; have GL := blk_frozen bA.out 2; have HL := blk_frozen bA.out 3; have IL := blk_frozen bA.out 4; have JL := blk_frozen bA.out 5; have KL := blk_frozen bA.out 6; have LL := blk_frozen bA.out 7; have ML := blk_frozen bA.out 8; have NL := blk_frozen bA.out 9))
  go_ret
  exact ⟨q1_5, q1_6⟩

/-! ### laws_eqIntS: function 33 -/
def laws_eqIntS.l0 : Nat → List Int → List Int → Int → Option (Bool)
 | 0, _, _, _ => none
 | k + 1, x0, x1, x5 => if x5 < (x0.length : Int) then (if 0 ≤ x5 then (if x5 < (x1.length : Int) then (if (rd x0 x5) = (rd x1 x5) then (laws_eqIntS.l0 k x0 x1 (wrap64 (x5 + 1))) else (some false)) else (none)) else (none)) else (some true)
def laws_eqIntS.f (k : Nat) (l0 : List Int) (l1 : List Int) : Option (Bool) := if (l0.length : Int) = (l1.length : Int) then (laws_eqIntS.l0 k l0 l1 0) else (some false)
theorem laws_eqIntS.mono_l : ∀ k, (∀ y0 y1 y2, LeO (laws_eqIntS.l0 k y0 y1 y2) (laws_eqIntS.l0 (k + 1) y0 y1 y2))
 | 0 => fun _ _ _ r h => by simp [laws_eqIntS.l0] at h
 | k + 1 => by
  have ih0 := laws_eqIntS.mono_l k
  ·intro y0 y1 y2
   unfold laws_eqIntS.l0
   repeat' first
   | (with_reducible exact ih0 _ _ _)
   | (with_reducible exact LeO.refl _)
   | (with_reducible exact LeO.none _)
   | (with_reducible refine LeO.ite ?_ ?_)
   | (with_reducible refine LeO.bind ?_ (fun _ => ?_))
   | exact ih0 _ _ _
   | exact LeO.none _
   | refine LeO.ite ?_ ?_
   | refine LeO.bind ?_ (fun _ => ?_)
theorem laws_eqIntS.mono : ∀ a0 a1 k, LeO (laws_eqIntS.f k a0 a1) (laws_eqIntS.f (k + 1) a0 a1) := by
 intro a0 a1 k
 have ih0 := laws_eqIntS.mono_l k
 unfold laws_eqIntS.f
 repeat' first
   | (with_reducible exact ih0 _ _ _)
   | (with_reducible exact LeO.refl _)
   | (with_reducible exact LeO.none _)
   | (with_reducible refine LeO.ite ?_ ?_)
   | (with_reducible refine LeO.bind ?_ (fun _ => ?_))
   | exact ih0 _ _ _
   | exact LeO.none _
   | refine LeO.ite ?_ ?_
   | refine LeO.bind ?_ (fun _ => ?_)
set_option maxHeartbeats 8000000 in
set_option maxRecDepth 100000 in
theorem laws_eqIntS.calls (k : Nat) (A0 : Option Addr) (c0 : Nat) (l0 : List Int) (A1 : Option Addr) (c1 : Nat) (l1 : List Int) (r : Bool) (w : World) (hr0 : Kd.C (Kd.int .i64) w A0 l0.length l0) (hc0 : l0.length ≤ c0) (hr1 : Kd.C (Kd.int .i64) w A1 l1.length l1) (hc1 : l1.length ≤ c1) (h : laws_eqIntS.f k l0 l1 = some r) :
  Calls Try.prog 33 #[.slice A0 l0.length c0, .slice A1 l1.length c1] w fun e w' => e = .returned (.bool r) ∧ Drawn0 w w' := by
 have HR0 := Aside0.mk hr0
 clear hr0 hc0
 have HR1 := Aside0.mk hr1
 clear hr1 hc1
 have H : (if (l0.length : Int) = (l1.length : Int) then (laws_eqIntS.l0 k l0 l1 0) else (some false)) = some r := h
 clear h
 by_cases c3 : (l0.length : Int) = (l1.length : Int)
 ·rw [if_pos c3] at H
  have lB : ((l0.length : Int) == (l1.length : Int)) = true := beq_iff_eq.mpr c3
  have jC : ((l0.length : Int) != (l1.length : Int)) = false := bne_eq_false_iff_eq.mpr c3
  have fD : (l0.length == l1.length) = true := by first | simpa using c3 | (simp at c3 ⊢; omega)
  clear c3
  have H' := Aside0.mk H
  clear H
  go_enter Try.func33, Try.ntmps33
  go_wp2
  repeat (go_quiet (fail); try go_wp2)
  go_loopg [5] k (fun kq v5 w' => ∃ (mA : Int), v5 = .int .i64 mA ∧ Aside0 (laws_eqIntS.l0 kq l0 l1 mA = some r) ∧ Aside0 (kq ≤ k) ∧ Drawn0 w w')
  case atStart => exact ⟨(0), q1_9, H', ⟨Nat.le_refl _⟩, q1_10⟩
  case round =>
   clear H'
   (try clear c1); (try clear p2); (try clear c3); (try clear lB); (try clear jC); (try clear fD)
   obtain ⟨mA, rfl, HA, HK1, ⟨m1, rfl⟩⟩ := hrel
   cases gk with
   | zero => exact absurd HA.out (by simp [laws_eqIntS.l0])
   | succ k1 =>
    have H := HA.out
    clear HA
    simp only [laws_eqIntS.l0] at H
    by_cases c4 : mA < (l0.length : Int)
    ·rw [if_pos c4] at H
     have mB : decide (mA < (l0.length : Int)) = true := decide_eq_true c4
     clear c4
     by_cases c5 : 0 ≤ mA
     ·rw [if_pos c5] at H
      have kC : decide (0 ≤ mA) = true := decide_eq_true c5
      clear c5
      by_cases c6 : mA < (l1.length : Int)
      ·rw [if_pos c6] at H
       have XC : decide (mA < (l1.length : Int)) = true := decide_eq_true c6
       clear c6
       by_cases c7 : (rd l0 mA) = (rd l1 mA)
       ·rw [if_pos c7] at H
        have wC : ((rd l0 mA) == (rd l1 mA)) = true := beq_iff_eq.mpr c7
        have xC : ((rd l0 mA) != (rd l1 mA)) = false := bne_eq_false_iff_eq.mpr c7
        clear c7
        have H' := Aside0.mk H
        clear H
        have p103 : 0 ≤ (mA : Int) := of_decide_eq_true q1_14
        have q103 : mA < (l0.length : Int) := of_decide_eq_true q1_14
        obtain ⟨ad103, yC, lC⟩ := Kd.at_int HR0.out mA p103 q103
        cases yC
        replace p103 := eq_true p103
        replace q103 := eq_true q103
        have p104 : 0 ≤ (mA : Int) := of_decide_eq_true q1_14
        have q104 : mA < (l1.length : Int) := of_decide_eq_true q1_14
        obtain ⟨ad104, zC, mC⟩ := Kd.at_int HR1.out mA p104 q104
        cases zC
        replace p104 := eq_true p104
        replace q104 := eq_true q104
        go_wp2
        repeat (go_quiet (fail); try go_wp2)
        go_roundg k1
        case measure => have := HK1.out; omega
        case rel => exact ⟨(wrap64 (mA + 1)), q1_9, H', ⟨by have := HK1.out; omega⟩, q1_10⟩
       ·rw [if_neg c7] at H
        have wC : ((rd l0 mA) == (rd l1 mA)) = false := beq_eq_false_iff_ne.mpr c7
        have xC : ((rd l0 mA) != (rd l1 mA)) = true := bne_iff_ne.mpr c7
        obtain rfl := Option.some.inj H
        have p103 : 0 ≤ (mA : Int) := of_decide_eq_true q1_14
        have q103 : mA < (l0.length : Int) := of_decide_eq_true q1_14
        obtain ⟨ad103, yC, lC⟩ := Kd.at_int HR0.out mA p103 q103
        cases yC
        replace p103 := eq_true p103
        replace q103 := eq_true q103
        have p104 : 0 ≤ (mA : Int) := of_decide_eq_true q1_14
        have q104 : mA < (l1.length : Int) := of_decide_eq_true q1_14
        obtain ⟨ad104, zC, mC⟩ := Kd.at_int HR1.out mA p104 q104
        cases zC
        replace p104 := eq_true p104
        replace q104 := eq_true q104
        go_wp2
        repeat (go_quiet (fail); try go_wp2)
        go_ret
        exact ⟨q1_9, q1_10⟩
      ·rw [if_neg c6] at H
       exact absurd H (by simp)
     ·rw [if_neg c5] at H
      exact absurd H (by simp)
    ·rw [if_neg c4] at H
     have mB : decide (mA < (l0.length : Int)) = false := decide_eq_false c4
     clear c4
     obtain rfl := Option.some.inj H
     go_wp2
     repeat (go_quiet (fail); try go_wp2)
     go_ret
     exact ⟨q1_9, q1_10⟩
 ·rw [if_neg c3] at H
  have lB : ((l0.length : Int) == (l1.length : Int)) = false := beq_eq_false_iff_ne.mpr c3
  have jC : ((l0.length : Int) != (l1.length : Int)) = true := bne_iff_ne.mpr c3
  have fD : (l0.length == l1.length) = false := by first | simpa using c3 | (simp at c3 ⊢; omega)
  obtain rfl := Option.some.inj H
  go_enter Try.func33, Try.ntmps33
  go_wp2
  repeat (go_quiet (fail); try go_wp2)
  go_ret
  exact ⟨q1_9, q1_10⟩

/-! ### laws_eqMem: function 20 -/
def laws_eqMem.f (k : Nat) (pA : List Int) (aB : List Int) : Option (Bool) := (laws_eqIntS.f k pA aB).bind fun XB => (if XB = true then (some true) else (some false))
theorem laws_eqMem.mono : ∀ a0 a1 k, LeO (laws_eqMem.f k a0 a1) (laws_eqMem.f (k + 1) a0 a1) := by
 intro a0 a1 k
 unfold laws_eqMem.f
 repeat' first
   | (with_reducible exact laws_eqIntS.mono _ _ _)
   | (with_reducible exact LeO.refl _)
   | (with_reducible exact LeO.none _)
   | (with_reducible refine LeO.ite ?_ ?_)
   | (with_reducible refine LeO.bind ?_ (fun _ => ?_))
   | exact laws_eqIntS.mono _ _ _
   | exact LeO.none _
   | refine LeO.ite ?_ ?_
   | refine LeO.bind ?_ (fun _ => ?_)
set_option maxHeartbeats 8000000 in
set_option maxRecDepth 100000 in
theorem laws_eqMem.calls (k : Nat) (LA : Option Addr) (MA : Nat) (pA : List Int) (IB : Option Addr) (JB : Nat) (aB : List Int) (r : Bool) (w : World) (iB : Kd.C (Kd.int .i64) w LA pA.length pA) (jB : pA.length ≤ MA) (pC : Kd.C (Kd.int .i64) w IB aB.length aB) (qC : aB.length ≤ JB) (h : laws_eqMem.f k pA aB = some r) :
  Calls Try.prog 20 #[.agg #[.slice LA pA.length MA], .agg #[.slice IB aB.length JB]] w fun e w' => e = .returned (.bool r) ∧ Below w.heap.size w w' := by
 have hu29 := Try.underlying29
 have VB := Aside0.mk iB
 have kB := Aside0.mk jB
 clear iB jB
 have rC := Aside0.mk pC
 have sC := Aside0.mk qC
 clear pC qC
 have HB := Aside0.mk (Below.refl w.heap.size w)
 have H : ((laws_eqIntS.f k pA aB).bind fun XB => (if XB = true then (some true) else (some false))) = some r := h
 clear h
 replace H := Option.bind_eq_some_iff.mp H
 obtain ⟨XB, A30, H⟩ := H
 (try dsimp only at H)
 have A3 := Aside0.mk A30
 clear A30
 by_cases c4 : XB = true
 ·subst c4
  rw [if_pos rfl] at H
  obtain rfl := Option.some.inj H
  go_enter Try.func20, Try.ntmps20
  go_wp2_with (first | ((with_reducible refine gate_dst (N := 2) rfl ?_); refine box_event ?hg (N := 2) ?hd (cs := #[.slice LA pA.length MA]) (t := 29) ?hr ?_; (case hd => rfl); (case hg => rfl); (case hr => first | (go_simp; done) | (go_simp; rfl)); intro QA hg w5 hbox hb; have tA := Aside0.mk (below_step q1_0 hb); have uA := Aside0.mk (hbox); have vA := Aside0.mk ((q1_7 : w.heap.size ≤ QA)); have wA := Aside0.mk ((q1_7 : w.heap.size ≤ QA)); clear HB; have HB := tA; have bB := uA; have gD := vA; have PB := wA; clear tA uA vA wA; clear hb hbox hg) | ((with_reducible refine gate_dst (N := 3) rfl ?_); refine box_event ?hg (N := 3) ?hd (cs := #[.slice IB aB.length JB]) (t := 29) ?hr ?_; (case hd => rfl); (case hg => rfl); (case hr => first | (go_simp; done) | (go_simp; rfl)); intro YA hg w6 hbox hb; have tA := Aside0.mk (blk_below (g := QA) (o := .cells #[.slice LA pA.length MA] 29 (0, 0)) q1_15 hb); have uA := Aside0.mk (below_step q1_12 hb); have vA := Aside0.mk (hbox); have wA := Aside0.mk ((by rw [hg]; exact (below_size q1_12) : w.heap.size ≤ YA)); have SA := Aside0.mk ((by rw [hg]; exact (below_size q1_12) : w.heap.size ≤ YA)); have TA := Aside0.mk ((by rw [hg]; exact Nat.ne_of_lt (blk_lt (g := QA) (o := .cells #[.slice LA pA.length MA] 29 (0, 0)) q1_15) : QA ≠ YA)); have UA := Aside0.mk ((by rw [hg]; exact Nat.ne_of_gt (blk_lt (g := QA) (o := .cells #[.slice LA pA.length MA] 29 (0, 0)) q1_15) : YA ≠ QA)); clear bB HB; have bB := tA; have HB := uA; have KB := vA; have hD := wA; have YB := SA; have fB := TA; have gB := UA; clear tA uA vA wA SA TA UA; clear hb hbox hg; have fO := fB.out; have gO := gB.out; have ZB : w6.cell? ⟨QA, 0, none⟩ = some (.slice LA pA.length MA) := (blk_cell bB.out 0).trans rfl; have aC := blk_frozen bB.out 0; have AC : w6.cell? ⟨YA, 0, none⟩ = some (.slice IB aB.length JB) := (blk_cell KB.out 0).trans rfl; have BC := blk_frozen KB.out 0) | ((with_reducible refine gate_callee (f := 33) rfl ?_); refine goesL_ (some 9) rfl rfl Try.func33 (by kernel_rfl) rfl #[.slice LA pA.length MA, .slice IB aB.length JB] rfl q1_8 ?_; (with_reducible refine (laws_eqIntS.calls k _ _ pA _ _ aB true _ ?side1 ?side2 ?side3 ?side4 A3.out).mono ?_); (case side1 => exact q1_11); (case side2 => exact kB.out); (case side3 => repeat (first | exact (Kd.C_below rC.out HB.out) | (with_reducible refine Kd.C_alloc ?_ _) | (with_reducible refine Kd.C_drewN ?_ _) | (with_reducible refine Kd.C_drew ?_))); (case side4 => exact sC.out); rintro e w' ⟨rfl, ⟨nd, rfl⟩⟩; refine ⟨_, rfl, ?_⟩))
  go_ret
  exact ⟨q1_5, by repeat (first | (with_reducible first | exact HB.out | apply below_alloc | apply pw_below_drewN | apply below_drew1 | refine below_set ?_ PB.out | refine below_set ?_ YB.out) | exact HB.out)⟩
 ·replace c4 := Bool.eq_false_iff.mpr c4
  subst c4
  rw [if_neg (show ¬ (false = true) by decide)] at H
  obtain rfl := Option.some.inj H
  go_enter Try.func20, Try.ntmps20
  go_wp2_with (first | ((with_reducible refine gate_dst (N := 2) rfl ?_); refine box_event ?hg (N := 2) ?hd (cs := #[.slice LA pA.length MA]) (t := 29) ?hr ?_; (case hd => rfl); (case hg => rfl); (case hr => first | (go_simp; done) | (go_simp; rfl)); intro QA hg DO hbox hb; have tA := Aside0.mk (below_step q1_0 hb); have uA := Aside0.mk (hbox); have vA := Aside0.mk ((q1_7 : w.heap.size ≤ QA)); have wA := Aside0.mk ((q1_7 : w.heap.size ≤ QA)); clear HB; have HB := tA; have bB := uA; have gD := vA; have PB := wA; clear tA uA vA wA; clear hb hbox hg) | ((with_reducible refine gate_dst (N := 3) rfl ?_); refine box_event ?hg (N := 3) ?hd (cs := #[.slice IB aB.length JB]) (t := 29) ?hr ?_; (case hd => rfl); (case hg => rfl); (case hr => first | (go_simp; done) | (go_simp; rfl)); intro YA hg RN hbox hb; have tA := Aside0.mk (blk_below (g := QA) (o := .cells #[.slice LA pA.length MA] 29 (0, 0)) q1_15 hb); have uA := Aside0.mk (below_step q1_12 hb); have vA := Aside0.mk (hbox); have wA := Aside0.mk ((by rw [hg]; exact (below_size q1_12) : w.heap.size ≤ YA)); have SA := Aside0.mk ((by rw [hg]; exact (below_size q1_12) : w.heap.size ≤ YA)); have TA := Aside0.mk ((by rw [hg]; exact Nat.ne_of_lt (blk_lt (g := QA) (o := .cells #[.slice LA pA.length MA] 29 (0, 0)) q1_15) : QA ≠ YA)); have UA := Aside0.mk ((by rw [hg]; exact Nat.ne_of_gt (blk_lt (g := QA) (o := .cells #[.slice LA pA.length MA] 29 (0, 0)) q1_15) : YA ≠ QA)); clear bB HB; have bB := tA; have HB := uA; have KB := vA; have hD := wA; have YB := SA; have fB := TA; have gB := UA; clear tA uA vA wA SA TA UA; clear hb hbox hg; have SN := fB.out; have TN := gB.out; have OL : RN.cell? ⟨QA, 0, none⟩ = some (.slice LA pA.length MA) := (blk_cell bB.out 0).trans rfl; have PL := blk_frozen bB.out 0; have QL : RN.cell? ⟨YA, 0, none⟩ = some (.slice IB aB.length JB) := (blk_cell KB.out 0).trans rfl; have RL := blk_frozen KB.out 0) | ((with_reducible refine gate_callee (f := 33) rfl ?_); refine goesL_ (some 9) rfl rfl Try.func33 (by kernel_rfl) rfl #[.slice LA pA.length MA, .slice IB aB.length JB] rfl q1_8 ?_; (with_reducible refine (laws_eqIntS.calls k _ _ pA _ _ aB false _ ?side1 ?side2 ?side3 ?side4 A3.out).mono ?_); (case side1 => exact q1_11); (case side2 => exact kB.out); (case side3 => repeat (first | exact (Kd.C_below rC.out HB.out) | (with_reducible refine Kd.C_alloc ?_ _) | (with_reducible refine Kd.C_drewN ?_ _) | (with_reducible refine Kd.C_drew ?_))); (case side4 => exact sC.out); rintro e w' ⟨rfl, ⟨nd, rfl⟩⟩; refine ⟨_, rfl, ?_⟩))
  go_ret
  exact ⟨q1_5, by repeat (first | (with_reducible first | exact HB.out | apply below_alloc | apply pw_below_drewN | apply below_drew1 | refine below_set ?_ PB.out | refine below_set ?_ YB.out) | exact HB.out)⟩

/-! ### laws_markIntS: function 34 -/
def laws_markIntS.l0 : Nat → List Int → Int → Int → Option (Int × List Int)
 | 0, _, _, _ => none
 | k + 1, x0, x1, x5 => if x5 < (x0.length : Int) then (if 0 ≤ x5 then (laws_markIntS.l0 k (x0.set (x5 : Int).toNat x1) (wrap64 (x1 + 1)) (wrap64 (x5 + 1))) else (none)) else (some (x1, x0))
def laws_markIntS.f (k : Nat) (l0 : List Int) (a1 : Int) : Option (Int × List Int) := laws_markIntS.l0 k l0 a1 0
theorem laws_markIntS.mono_l : ∀ k, (∀ y0 y1 y2, LeO (laws_markIntS.l0 k y0 y1 y2) (laws_markIntS.l0 (k + 1) y0 y1 y2))
 | 0 => fun _ _ _ r h => by simp [laws_markIntS.l0] at h
 | k + 1 => by
  have ih0 := laws_markIntS.mono_l k
  ·intro y0 y1 y2
   unfold laws_markIntS.l0
   repeat' first
   | (with_reducible exact ih0 _ _ _)
   | (with_reducible exact LeO.refl _)
   | (with_reducible exact LeO.none _)
   | (with_reducible refine LeO.ite ?_ ?_)
   | (with_reducible refine LeO.bind ?_ (fun _ => ?_))
   | exact ih0 _ _ _
   | exact LeO.none _
   | refine LeO.ite ?_ ?_
   | refine LeO.bind ?_ (fun _ => ?_)
theorem laws_markIntS.mono : ∀ a0 a1 k, LeO (laws_markIntS.f k a0 a1) (laws_markIntS.f (k + 1) a0 a1) := by
 intro a0 a1 k
 have ih0 := laws_markIntS.mono_l k
 unfold laws_markIntS.f
 repeat' first
   | (with_reducible exact ih0 _ _ _)
   | (with_reducible exact LeO.refl _)
   | (with_reducible exact LeO.none _)
   | (with_reducible refine LeO.ite ?_ ?_)
   | (with_reducible refine LeO.bind ?_ (fun _ => ?_))
   | exact ih0 _ _ _
   | exact LeO.none _
   | refine LeO.ite ?_ ?_
   | refine LeO.bind ?_ (fun _ => ?_)
set_option maxHeartbeats 8000000 in
set_option maxRecDepth 100000 in
theorem laws_markIntS.calls (k : Nat) (P0_ : Nat → Prop) (u9000_ : Value) (l0 : List Int) (a1 : Int) (r1 : Int) (r2 : List Int) (w0 w : World) (hB : Below w0.heap.size w0 w) (ho0 : Kd.R (Kd.int .i64) 3 w w0.heap.size P0_ u9000_ l0) (h : laws_markIntS.f k l0 a1 = some (r1, r2)) :
  Calls Try.prog 34 #[u9000_, .int .i64 a1] w fun e w' => e = .returned (.int .i64 r1) ∧ Kd.R (Kd.int .i64) 3 w' w0.heap.size (fun k_ => (P0_ k_ ∨ w.heap.size ≤ k_)) u9000_ r2 ∧ Below w0.heap.size w0 w' ∧ Kept w w' (fun k_ => P0_ k_) := by
 have hO := Aside0.mk (show Kd.R (Kd.int .i64) 3 w w0.heap.size (fun k_ => (P0_ k_ ∨ w.heap.size ≤ k_)) u9000_ l0 from Kd.R_mono ho0 (fun k_ hk => (.inl hk)))
 have HK := Aside0.mk (Kept.refl w (fun k_ => P0_ k_))
 have HW0 := Aside0.mk hB.size
 have HB := Aside0.mk hB
 clear hB
 have H : (laws_markIntS.l0 k l0 a1 0) = some (r1, r2) := h
 clear h
 have H' := Aside0.mk H
 clear H
 go_enter Try.func34, Try.ntmps34
 go_wp2
 go_loopg [1, 5] k (fun kq v1 v5 w' => ∃ (GB : List Int) (WA : Int) (mA : Int), v1 = .int .i64 WA ∧ v5 = .int .i64 mA ∧ Aside0 (laws_markIntS.l0 kq GB WA mA = some (r1, r2)) ∧ Aside0 (kq ≤ k) ∧ Aside0 (Kd.R (Kd.int .i64) 3 w' w0.heap.size (fun k_ => (P0_ k_ ∨ w.heap.size ≤ k_)) u9000_ GB) ∧ Aside0 (Kept w w' (fun k_ => P0_ k_)) ∧ Aside0 (Below w0.heap.size w0 w'))
 case atStart => exact ⟨(l0), (a1), (0), q1_9, q1_9, H', ⟨Nat.le_refl _⟩, ⟨by (with_reducible repeat (first | apply Kd.R_alloc | apply Kd.R_drewN | apply Kd.R_drew)); exact hO.out⟩, ⟨q1_17⟩, ⟨q1_0⟩⟩
 case round =>
  clear H'
  try clear p2
  obtain ⟨GB, WA, mA, rfl, rfl, HA, HK1, sB, HK, HB⟩ := hrel
  cases gk with
  | zero => exact absurd HA.out (by simp [laws_markIntS.l0])
  | succ k1 =>
   have H := HA.out
   clear HA
   simp only [laws_markIntS.l0] at H
   by_cases c3 : mA < (GB.length : Int)
   ·rw [if_pos c3] at H
    have lB : decide (mA < (GB.length : Int)) = true := decide_eq_true c3
    clear c3
    by_cases c4 : 0 ≤ mA
    ·rw [if_pos c4] at H
     have mB : decide (0 ≤ mA) = true := decide_eq_true c4
     clear c4
     obtain ⟨y108, hy108⟩ : ∃ y_ : List Int, y_ = (GB.set (mA : Int).toNat WA) := ⟨_, rfl⟩
     replace H : (laws_markIntS.l0 k1 y108 (wrap64 (WA + 1)) (wrap64 (mA + 1))) = some (r1, r2) := by first | (rw [hy108]; with_reducible exact H) | (have H2_ := (Option.bind_some _ _).symm.trans H; rw [hy108]; with_reducible exact H2_) | (have H2_ := (Option.bind_some _ _).symm.trans H; with_reducible exact H2_) | with_reducible exact H | (rw [hy108]; exact H) | exact H
     have Ny108 := Aside0.mk hy108
     clear hy108
     have H' := Aside0.mk H
     clear H
     obtain ⟨EO, iO, jO⟩ := Kd.R_slice sB.out
     subst jO
     have p5 : 0 ≤ (mA : Int) := of_decide_eq_true q1_14
     have q5 : (mA : Int) < ((GB.length : Int) : Int) := of_decide_eq_true q1_14
     obtain ⟨go5, FO, UN, VN, gl5, cl5, HG5⟩ := Kd.R_form sB.out (by omega)
     (first | cases UN | (injection UN with ea_ en_ ec_; (first | subst ea_ | (injection ea_ with ea_; subst ea_)); subst ec_; clear en_))
     have GB5 := Aside0.mk VN
     have GG5 := Aside0.mk HG5
     clear VN gl5 HG5
     obtain ⟨WN, XN⟩ := Kd.R_celln 0 sB.out (mA : Int) p5 q5
     replace p5 := eq_true p5
     replace q5 := eq_true q5
     have HP7 := Kd.R_putg sB.out (mA : Int) WA
     go_wp2_with (first | ((with_reducible refine gate_store (t := 3) (p := 15) rfl ?_); refine store_event (t := 3) (p := 15) (v := ?vo_w8) (w1 := (wr.setCell ⟨go5, (mA : Int).toNat, none⟩ (.int .i64 WA))) ?hg ?ho ?hn ?hr ?_; (case ho => rfl); (case hg => rfl); (case hn => rfl); (case hr => first | (go_simp; done) | (go_simp; rfl)); intro w8 hw; have hg : wr.grownBy w8 (some go5) := (by rw [hw]; exact HP7.2); have hp_ : Kd.R (Kd.int .i64) 3 w8 w0.heap.size (fun k_ => (P0_ k_ ∨ w.heap.size ≤ k_)) (.slice (some ⟨go5, 0, none⟩) GB.length iO) y108 := (by rw [hw, Ny108.out]; exact HP7.1); clear HP7; have tA := Aside0.mk (hp_); have uA := Aside0.mk ((by rw [hw]; exact below_set (HB.out) GB5.out : Below w0.heap.size w0 w8)); have vA := Aside0.mk (Kept.of_grown (S := (fun k_ => P0_ k_)) hg q1_17 (fun k_ e_ => (sB.out.1 k_ e_))); clear sB HB HK; have sB := tA; have HB := uA; have HK := vA; clear tA uA vA; clear hg hw hp_))
     go_roundg k1
     case measure => have := HK1.out; omega
     case rel => exact ⟨(y108), (wrap64 (WA + 1)), (wrap64 (mA + 1)), q1_9, q1_9, H', ⟨by have := HK1.out; omega⟩, ⟨by (with_reducible repeat (first | apply Kd.R_alloc | apply Kd.R_drewN | apply Kd.R_drew)); exact sB.out⟩, ⟨q1_17⟩, ⟨q1_0⟩⟩
    ·rw [if_neg c4] at H
     exact absurd H (by simp)
   ·rw [if_neg c3] at H
    have lB : decide (mA < (GB.length : Int)) = false := decide_eq_false c3
    clear c3
    simp only [Option.some.injEq, Prod.mk.injEq] at H
    obtain ⟨rfl, rfl⟩ := H
    obtain ⟨GO, HO, kO⟩ := Kd.R_slice sB.out
    subst kO
    go_wp2
    go_ret
    exact ⟨q1_5, by (with_reducible repeat (first | apply Kd.R_alloc | apply Kd.R_drewN | apply Kd.R_drew)); exact sB.out, q1_0, q1_17⟩

/-! ### laws_markMem: function 21 -/
def laws_markMem.f (k : Nat) (pA : List Int) (a1 : Int) : Option (Int × List Int) := (laws_markIntS.f k pA a1).bind fun LB => (some (LB.1, LB.2))
theorem laws_markMem.mono : ∀ a0 a1 k, LeO (laws_markMem.f k a0 a1) (laws_markMem.f (k + 1) a0 a1) := by
 intro a0 a1 k
 unfold laws_markMem.f
 repeat' first
   | (with_reducible exact laws_markIntS.mono _ _ _)
   | (with_reducible exact LeO.refl _)
   | (with_reducible exact LeO.none _)
   | (with_reducible refine LeO.ite ?_ ?_)
   | (with_reducible refine LeO.bind ?_ (fun _ => ?_))
   | exact laws_markIntS.mono _ _ _
   | exact LeO.none _
   | refine LeO.ite ?_ ?_
   | refine LeO.bind ?_ (fun _ => ?_)
set_option maxHeartbeats 8000000 in
set_option maxRecDepth 100000 in
theorem laws_markMem.calls (k : Nat) (P0_0_ : Nat → Prop) (u9000_ : Value) (pA : List Int) (a1 : Int) (r1 : Int) (r2 : List Int) (w0 w : World) (hB : Below w0.heap.size w0 w) (ho0_0 : Kd.R (Kd.int .i64) 3 w w0.heap.size P0_0_ u9000_ pA) (h : laws_markMem.f k pA a1 = some (r1, r2)) :
  Calls Try.prog 21 #[.agg #[u9000_], .int .i64 a1] w fun e w' => e = .returned (.int .i64 r1) ∧ Kd.R (Kd.int .i64) 3 w' w0.heap.size (fun k_ => (P0_0_ k_ ∨ w.heap.size ≤ k_)) u9000_ r2 ∧ Below w0.heap.size w0 w' ∧ Kept w w' (fun k_ => P0_0_ k_) := by
 have hu29 := Try.underlying29
 have ZA := Aside0.mk (show Kd.R (Kd.int .i64) 3 w w0.heap.size (fun k_ => (P0_0_ k_ ∨ w.heap.size ≤ k_)) u9000_ pA from Kd.R_mono ho0_0 (fun k_ hk => (.inl hk)))
 have HK := Aside0.mk (Kept.refl w (fun k_ => P0_0_ k_))
 have HW0 := Aside0.mk hB.size
 have HB := Aside0.mk hB
 clear hB
 have H : ((laws_markIntS.f k pA a1).bind fun LB => (some (LB.1, LB.2))) = some (r1, r2) := h
 clear h
 replace H := Option.bind_eq_some_iff.mp H
 obtain ⟨⟨sM, tM⟩, A30, H⟩ := H
 (try dsimp only at H)
 have A3 := Aside0.mk A30
 clear A30
 simp only [Option.some.injEq, Prod.mk.injEq] at H
 obtain ⟨rfl, rfl⟩ := H
 obtain ⟨iD, jD, lO⟩ := Kd.R_slice ZA.out
 subst lO
 go_enter Try.func21, Try.ntmps21
 go_wp2_with (first | ((with_reducible refine gate_dst (N := 2) rfl ?_); refine box_event ?hg (N := 2) ?hd (cs := #[.slice iD pA.length jD]) (t := 29) ?hr ?_; (case hd => rfl); (case hg => rfl); (case hr => first | (go_simp; done) | (go_simp; rfl)); intro bC hg w5 hbox hb; have tA := Aside0.mk (Kd.R_below (by (with_reducible repeat (first | apply Kd.R_alloc | apply Kd.R_drewN | apply Kd.R_drew)); exact ZA.out) hb); have uA := Aside0.mk (Kept.below (S := (fun k_ => P0_0_ k_)) q1_17 hb); have vA := Aside0.mk (below_step q1_0 hb); have wA := Aside0.mk (hbox); have SA := Aside0.mk ((by rw [hg]; exact (by first | exact HK.out.1 | exact (show Kept w _ (fun k_ => P0_0_ k_) from by repeat (first | (with_reducible first | exact HK.out | apply Kept.alloc | apply Kept.drewN | apply Kept.drew) | exact HK.out)).1) : w.heap.size ≤ bC)); have TA := Aside0.mk ((q1_7 : w0.heap.size ≤ bC)); clear ZA HK HB; have ZA := tA; have HK := uA; have HB := vA; have EB := wA; have tC := SA; have uC := TA; clear tA uA vA wA SA TA; clear hb hbox hg; have cC : w5.cell? ⟨bC, 0, none⟩ = some (.slice iD pA.length jD) := (blk_cell EB.out 0).trans rfl; have dC := blk_frozen EB.out 0) | ((with_reducible refine gate_callee (f := 34) rfl ?_); refine goesL_ (some 8) rfl rfl Try.func34 (by kernel_rfl) rfl #[.slice iD pA.length jD, .int .i64 a1] rfl q1_8 ?_; (with_reducible refine (laws_markIntS.calls k (fun k_ => some k_ = (.slice iD pA.length jD : Value).ownBlock) (.slice iD pA.length jD) pA a1 sM tM w0 _ ?side1 ?side2 A3.out).mono ?_); (case side1 => repeat (first | (with_reducible first | exact HB.out | apply below_alloc | apply pw_below_drewN | apply below_drew1 | refine below_set ?_ uC.out) | exact HB.out)); (case side2 => exact Kd.R_tight rfl ZA.out); rintro e w7 ⟨rfl, hy0, hb, hkp⟩; refine ⟨_, rfl, ?_⟩; have tA := Aside0.mk (Kd.R_reok rfl hy0 (fun k_ e_ => ZA.out.1 k_ e_)); have uA := Aside0.mk (blk_kept (by (with_reducible repeat (first | refine blk_drewN ?_ _ | refine blk_drew ?_ | refine blk_alloc ?_ _)); exact EB.out) hkp (fun hs_ => (fun e_ => (Kd.R_ne ZA.out EB.out (by decide)) e_) hs_)); have vA := Aside0.mk (Kept.then_ (S := (fun k_ => P0_0_ k_)) (by repeat (first | (with_reducible first | exact HK.out | apply Kept.alloc | apply Kept.drewN | apply Kept.drew | refine Kept.setCell ?_ (.inr tC.out) _) | exact HK.out)) hkp (fun k_ hs_ => (fun e_ => (ZA.out.1 k_ e_.symm)) hs_)); have wA := Aside0.mk (hb); clear ZA EB HK HB; have ZA := tA; have EB := uA; have HK := vA; have HB := wA; clear tA uA vA wA; (try clear hb); (try clear hkp); (try clear hy0)))
 go_ret
 exact ⟨q1_5, by (with_reducible repeat (first | apply Kd.R_alloc | apply Kd.R_drewN | apply Kd.R_drew)); exact ZA.out, by repeat (first | (with_reducible first | exact HB.out | apply below_alloc | apply pw_below_drewN | apply below_drew1 | refine below_set ?_ uC.out) | exact HB.out), by repeat (first | (with_reducible first | exact HK.out | apply Kept.alloc | apply Kept.drewN | apply Kept.drew | refine Kept.setCell ?_ (.inr tC.out) _) | exact HK.out)⟩

/-! ### laws_heldIntS: function 35 -/
def laws_heldIntS.l0 : Nat → List Int → Int → Int → Option (Int)
 | 0, _, _, _ => none
 | k + 1, x0, x1, x5 => if x5 < (x0.length : Int) then (if 0 ≤ x5 then (if (rd x0 x5) = x1 then (laws_heldIntS.l0 k x0 (wrap64 (x1 + 1)) (wrap64 (x5 + 1))) else (some (-1))) else (none)) else (some x1)
def laws_heldIntS.f (k : Nat) (l0 : List Int) (a1 : Int) : Option (Int) := laws_heldIntS.l0 k l0 a1 0
theorem laws_heldIntS.mono_l : ∀ k, (∀ y0 y1 y2, LeO (laws_heldIntS.l0 k y0 y1 y2) (laws_heldIntS.l0 (k + 1) y0 y1 y2))
 | 0 => fun _ _ _ r h => by simp [laws_heldIntS.l0] at h
 | k + 1 => by
  have ih0 := laws_heldIntS.mono_l k
  ·intro y0 y1 y2
   unfold laws_heldIntS.l0
   repeat' first
   | (with_reducible exact ih0 _ _ _)
   | (with_reducible exact LeO.refl _)
   | (with_reducible exact LeO.none _)
   | (with_reducible refine LeO.ite ?_ ?_)
   | (with_reducible refine LeO.bind ?_ (fun _ => ?_))
   | exact ih0 _ _ _
   | exact LeO.none _
   | refine LeO.ite ?_ ?_
   | refine LeO.bind ?_ (fun _ => ?_)
theorem laws_heldIntS.mono : ∀ a0 a1 k, LeO (laws_heldIntS.f k a0 a1) (laws_heldIntS.f (k + 1) a0 a1) := by
 intro a0 a1 k
 have ih0 := laws_heldIntS.mono_l k
 unfold laws_heldIntS.f
 repeat' first
   | (with_reducible exact ih0 _ _ _)
   | (with_reducible exact LeO.refl _)
   | (with_reducible exact LeO.none _)
   | (with_reducible refine LeO.ite ?_ ?_)
   | (with_reducible refine LeO.bind ?_ (fun _ => ?_))
   | exact ih0 _ _ _
   | exact LeO.none _
   | refine LeO.ite ?_ ?_
   | refine LeO.bind ?_ (fun _ => ?_)
set_option maxHeartbeats 8000000 in
set_option maxRecDepth 100000 in
theorem laws_heldIntS.calls (k : Nat) (A0 : Option Addr) (c0 : Nat) (l0 : List Int) (a1 : Int) (r : Int) (w : World) (hr0 : Kd.C (Kd.int .i64) w A0 l0.length l0) (hc0 : l0.length ≤ c0) (h : laws_heldIntS.f k l0 a1 = some r) :
  Calls Try.prog 35 #[.slice A0 l0.length c0, .int .i64 a1] w fun e w' => e = .returned (.int .i64 r) ∧ Drawn0 w w' := by
 have HR0 := Aside0.mk hr0
 clear hr0 hc0
 have H : (laws_heldIntS.l0 k l0 a1 0) = some r := h
 clear h
 have H' := Aside0.mk H
 clear H
 go_enter Try.func35, Try.ntmps35
 go_wp2
 go_loopg [1, 5] k (fun kq v1 v5 w' => ∃ (WA : Int) (mA : Int), v1 = .int .i64 WA ∧ v5 = .int .i64 mA ∧ Aside0 (laws_heldIntS.l0 kq l0 WA mA = some r) ∧ Aside0 (kq ≤ k) ∧ Drawn0 w w')
 case atStart => exact ⟨(a1), (0), q1_9, q1_9, H', ⟨Nat.le_refl _⟩, q1_10⟩
 case round =>
  clear H'
  try clear p2
  obtain ⟨WA, mA, rfl, rfl, HA, HK1, ⟨m1, rfl⟩⟩ := hrel
  cases gk with
  | zero => exact absurd HA.out (by simp [laws_heldIntS.l0])
  | succ k1 =>
   have H := HA.out
   clear HA
   simp only [laws_heldIntS.l0] at H
   by_cases c3 : mA < (l0.length : Int)
   ·rw [if_pos c3] at H
    have lB : decide (mA < (l0.length : Int)) = true := decide_eq_true c3
    clear c3
    by_cases c4 : 0 ≤ mA
    ·rw [if_pos c4] at H
     have mB : decide (0 ≤ mA) = true := decide_eq_true c4
     clear c4
     by_cases c5 : (rd l0 mA) = WA
     ·rw [if_pos c5] at H
      have kC : ((rd l0 mA) == WA) = true := beq_iff_eq.mpr c5
      have vC : ((rd l0 mA) != WA) = false := bne_eq_false_iff_eq.mpr c5
      clear c5
      have H' := Aside0.mk H
      clear H
      have p112 : 0 ≤ (mA : Int) := of_decide_eq_true q1_14
      have q112 : mA < (l0.length : Int) := of_decide_eq_true q1_14
      obtain ⟨ad112, CC, nC⟩ := Kd.at_int HR0.out mA p112 q112
      cases CC
      replace p112 := eq_true p112
      replace q112 := eq_true q112
      go_wp2
      go_roundg k1
      case measure => have := HK1.out; omega
      case rel => exact ⟨(wrap64 (WA + 1)), (wrap64 (mA + 1)), q1_9, q1_9, H', ⟨by have := HK1.out; omega⟩, q1_10⟩
     ·rw [if_neg c5] at H
      have kC : ((rd l0 mA) == WA) = false := beq_eq_false_iff_ne.mpr c5
      have vC : ((rd l0 mA) != WA) = true := bne_iff_ne.mpr c5
      obtain rfl := Option.some.inj H
      have p112 : 0 ≤ (mA : Int) := of_decide_eq_true q1_14
      have q112 : mA < (l0.length : Int) := of_decide_eq_true q1_14
      obtain ⟨ad112, CC, nC⟩ := Kd.at_int HR0.out mA p112 q112
      cases CC
      replace p112 := eq_true p112
      replace q112 := eq_true q112
      go_wp2
      go_ret
      exact ⟨q1_9, q1_10⟩
    ·rw [if_neg c4] at H
     exact absurd H (by simp)
   ·rw [if_neg c3] at H
    have lB : decide (mA < (l0.length : Int)) = false := decide_eq_false c3
    clear c3
    obtain rfl := Option.some.inj H
    go_wp2
    go_ret
    exact ⟨q1_9, q1_10⟩

/-! ### laws_heldMem: function 22 -/
def laws_heldMem.f (k : Nat) (pA : List Int) (a1 : Int) : Option (Int) := (laws_heldIntS.f k pA a1).bind fun nB => (if nB < 0 then (some (-1)) else (some nB))
theorem laws_heldMem.mono : ∀ a0 a1 k, LeO (laws_heldMem.f k a0 a1) (laws_heldMem.f (k + 1) a0 a1) := by
 intro a0 a1 k
 unfold laws_heldMem.f
 repeat' first
   | (with_reducible exact laws_heldIntS.mono _ _ _)
   | (with_reducible exact LeO.refl _)
   | (with_reducible exact LeO.none _)
   | (with_reducible refine LeO.ite ?_ ?_)
   | (with_reducible refine LeO.bind ?_ (fun _ => ?_))
   | exact laws_heldIntS.mono _ _ _
   | exact LeO.none _
   | refine LeO.ite ?_ ?_
   | refine LeO.bind ?_ (fun _ => ?_)
set_option maxHeartbeats 8000000 in
set_option maxRecDepth 100000 in
theorem laws_heldMem.calls (k : Nat) (LA : Option Addr) (MA : Nat) (pA : List Int) (a1 : Int) (r : Int) (w : World) (iB : Kd.C (Kd.int .i64) w LA pA.length pA) (jB : pA.length ≤ MA) (h : laws_heldMem.f k pA a1 = some r) :
  Calls Try.prog 22 #[.agg #[.slice LA pA.length MA], .int .i64 a1] w fun e w' => e = .returned (.int .i64 r) ∧ Below w.heap.size w w' := by
 have hu29 := Try.underlying29
 have VB := Aside0.mk iB
 have kB := Aside0.mk jB
 clear iB jB
 have HB := Aside0.mk (Below.refl w.heap.size w)
 have H : ((laws_heldIntS.f k pA a1).bind fun nB => (if nB < 0 then (some (-1)) else (some nB))) = some r := h
 clear h
 replace H := Option.bind_eq_some_iff.mp H
 obtain ⟨nB, A30, H⟩ := H
 (try dsimp only at H)
 have A3 := Aside0.mk A30
 clear A30
 by_cases c4 : nB < 0
 ·rw [if_pos c4] at H
  have mB : decide (nB < 0) = true := decide_eq_true c4
  clear c4
  obtain rfl := Option.some.inj H
  go_enter Try.func22, Try.ntmps22
  go_wp2_with (first | ((with_reducible refine gate_dst (N := 2) rfl ?_); refine box_event ?hg (N := 2) ?hd (cs := #[.slice LA pA.length MA]) (t := 29) ?hr ?_; (case hd => rfl); (case hg => rfl); (case hr => first | (go_simp; done) | (go_simp; rfl)); intro oB hg w5 hbox hb; have tA := Aside0.mk (below_step q1_0 hb); have uA := Aside0.mk (hbox); have vA := Aside0.mk ((q1_7 : w.heap.size ≤ oB)); have wA := Aside0.mk ((q1_7 : w.heap.size ≤ oB)); clear HB; have HB := tA; have MB := uA; have kD := vA; have eC := wA; clear tA uA vA wA; clear hb hbox hg; have cC : w5.cell? ⟨oB, 0, none⟩ = some (.slice LA pA.length MA) := (blk_cell MB.out 0).trans rfl; have dC := blk_frozen MB.out 0) | ((with_reducible refine gate_callee (f := 35) rfl ?_); refine goesL_ (some 8) rfl rfl Try.func35 (by kernel_rfl) rfl #[.slice LA pA.length MA, .int .i64 a1] rfl q1_8 ?_; (with_reducible refine (laws_heldIntS.calls k _ _ pA a1 nB _ ?side1 ?side2 A3.out).mono ?_); (case side1 => exact q1_11); (case side2 => exact kB.out); rintro e w' ⟨rfl, ⟨nd, rfl⟩⟩; refine ⟨_, rfl, ?_⟩))
  go_ret
  exact ⟨q1_5, by repeat (first | (with_reducible first | exact HB.out | apply below_alloc | apply pw_below_drewN | apply below_drew1 | refine below_set ?_ eC.out) | exact HB.out)⟩
 ·rw [if_neg c4] at H
  have mB : decide (nB < 0) = false := decide_eq_false c4
  clear c4
  obtain rfl := Option.some.inj H
  go_enter Try.func22, Try.ntmps22
  go_wp2_with (first | ((with_reducible refine gate_dst (N := 2) rfl ?_); refine box_event ?hg (N := 2) ?hd (cs := #[.slice LA pA.length MA]) (t := 29) ?hr ?_; (case hd => rfl); (case hg => rfl); (case hr => first | (go_simp; done) | (go_simp; rfl)); intro oB hg w7 hbox hb; have tA := Aside0.mk (below_step q1_0 hb); have uA := Aside0.mk (hbox); have vA := Aside0.mk ((q1_7 : w.heap.size ≤ oB)); have wA := Aside0.mk ((q1_7 : w.heap.size ≤ oB)); clear HB; have HB := tA; have MB := uA; have kD := vA; have eC := wA; clear tA uA vA wA; clear hb hbox hg; have ZB : w7.cell? ⟨oB, 0, none⟩ = some (.slice LA pA.length MA) := (blk_cell MB.out 0).trans rfl; have aC := blk_frozen MB.out 0) | ((with_reducible refine gate_callee (f := 35) rfl ?_); refine goesL_ (some 8) rfl rfl Try.func35 (by kernel_rfl) rfl #[.slice LA pA.length MA, .int .i64 a1] rfl q1_8 ?_; (with_reducible refine (laws_heldIntS.calls k _ _ pA a1 nB _ ?side1 ?side2 A3.out).mono ?_); (case side1 => exact q1_11); (case side2 => exact kB.out); rintro e w' ⟨rfl, ⟨nd, rfl⟩⟩; refine ⟨_, rfl, ?_⟩))
  go_ret
  exact ⟨q1_5, by repeat (first | (with_reducible first | exact HB.out | apply below_alloc | apply pw_below_drewN | apply below_drew1 | refine below_set ?_ eC.out) | exact HB.out)⟩

/-! ### laws_toCall: function 24 -/
def laws_toCall.f (eA : Int) (fA : Int) (iA : Int) (kA : Int) (lA : Int) (nA : Int) (jA : Int) (qA : Int) (rA : Int) (oA : Bool) : Option (Int × Int × Int × Int × Int × Int × Int × Int × Int × Bool) := some (eA, fA, iA, kA, lA, nA, jA, qA, rA, oA)
set_option maxHeartbeats 8000000 in
set_option maxRecDepth 100000 in
theorem laws_toCall.calls (eA : Int) (fA : Int) (iA : Int) (kA : Int) (lA : Int) (nA : Int) (jA : Int) (qA : Int) (rA : Int) (oA : Bool) (r1 : Int) (r2 : Int) (r3 : Int) (r4 : Int) (r5 : Int) (r6 : Int) (r7 : Int) (r8 : Int) (r9 : Int) (r10 : Bool) (w : World) (h : laws_toCall.f eA fA iA kA lA nA jA qA rA oA = some (r1, r2, r3, r4, r5, r6, r7, r8, r9, r10)) :
  Calls Try.prog 24 #[.agg #[.int .i64 eA, .int .i64 fA, .int .i64 iA, .int .i64 kA, .int .i64 lA, .int .i64 nA, .int .i64 jA, .int .i64 qA, .int .i64 rA, .bool oA]] w fun e w' => e = .returned (.agg #[.int .i64 r1, .int .i64 r2, .int .i64 r3, .int .i64 r4, .int .i64 r5, .int .i64 r6, .int .i64 r7, .int .i64 r8, .int .i64 r9, .bool r10]) ∧ Below w.heap.size w w' := by
 have hu35 := Try.underlying35
 have hu23 := Try.underlying23
 have HB := Aside0.mk (Below.refl w.heap.size w)
 have H : (some (eA, fA, iA, kA, lA, nA, jA, qA, rA, oA)) = some (r1, r2, r3, r4, r5, r6, r7, r8, r9, r10) := h
 clear h
 simp only [Option.some.injEq, Prod.mk.injEq] at H
 obtain ⟨rfl, rfl, rfl, rfl, rfl, rfl, rfl, rfl, rfl, rfl⟩ := H
 go_enter Try.func24, Try.ntmps24
 go_wp2_with (first | ((with_reducible refine gate_dst (N := 1) rfl ?_); refine box_event ?hg (N := 1) ?hd (cs := #[.int .i64 eA, .int .i64 fA, .int .i64 iA, .int .i64 kA, .int .i64 lA, .int .i64 nA, .int .i64 jA, .int .i64 qA, .int .i64 rA, .bool oA]) (t := 35) ?hr ?_; (case hd => rfl); (case hg => rfl); (case hr => first | (go_simp; done) | (go_simp; rfl)); intro NA hg w2 hbox hb; have tA := Aside0.mk (below_step q1_0 hb); have uA := Aside0.mk (hbox); have vA := Aside0.mk ((q1_7 : w.heap.size ≤ NA)); have wA := Aside0.mk ((q1_7 : w.heap.size ≤ NA)); clear HB; have HB := tA; have xA := uA; have YN := vA; have WB := wA; clear tA uA vA wA; clear hb hbox hg) | ((with_reducible refine gate_dst (N := 2) rfl ?_); refine box_event ?hg (N := 2) ?hd (cs := #[.int .i64 0, .int .i64 0, .int .i64 0, .int .i64 0, .int .i64 0, .int .i64 0, .int .i64 0, .int .i64 0, .int .i64 0, .bool false]) (t := 23) ?hr ?_; (case hd => rfl); (case hg => rfl); (case hr => first | (go_simp; done) | (go_simp; rfl)); intro OA hg w3 hbox hb; have tA := Aside0.mk (blk_below (g := NA) (o := .cells #[.int .i64 eA, .int .i64 fA, .int .i64 iA, .int .i64 kA, .int .i64 lA, .int .i64 nA, .int .i64 jA, .int .i64 qA, .int .i64 rA, .bool oA] 35 (0, 0)) q1_16 hb); have uA := Aside0.mk (below_step q1_19 hb); have vA := Aside0.mk (hbox); have wA := Aside0.mk ((by rw [hg]; exact (below_size q1_19) : w.heap.size ≤ OA)); have SA := Aside0.mk ((by rw [hg]; exact (below_size q1_19) : w.heap.size ≤ OA)); have TA := Aside0.mk ((q1_20 : NA ≠ OA)); have UA := Aside0.mk ((q1_21 : OA ≠ NA)); clear xA HB; have xA := tA; have HB := uA; have zA := vA; have ZN := wA; have oC := SA; have QB := TA; have RB := UA; clear tA uA vA wA SA TA UA; clear hb hbox hg) | ((with_reducible refine gate_dst (N := 3) rfl ?_); refine box_event ?hg (N := 3) ?hd (cs := #[.int .i64 0, .int .i64 0, .int .i64 0, .int .i64 0, .int .i64 0, .int .i64 0, .int .i64 0, .int .i64 0, .int .i64 0, .bool false]) (t := 23) ?hr ?_; (case hd => rfl); (case hg => rfl); (case hr => first | (go_simp; done) | (go_simp; rfl)); intro RA hg w4 hbox hb; have tA := Aside0.mk (blk_below (g := NA) (o := .cells #[.int .i64 eA, .int .i64 fA, .int .i64 iA, .int .i64 kA, .int .i64 lA, .int .i64 nA, .int .i64 jA, .int .i64 qA, .int .i64 rA, .bool oA] 35 (0, 0)) q1_16 hb); have uA := Aside0.mk (blk_below (g := OA) (o := .cells #[.int .i64 0, .int .i64 0, .int .i64 0, .int .i64 0, .int .i64 0, .int .i64 0, .int .i64 0, .int .i64 0, .int .i64 0, .bool false] 23 (0, 0)) q1_22 hb); have vA := Aside0.mk (below_step q1_18 hb); have wA := Aside0.mk (hbox); have SA := Aside0.mk ((by rw [hg]; exact (below_size q1_18) : w.heap.size ≤ RA)); have TA := Aside0.mk ((by rw [hg]; exact (below_size q1_18) : w.heap.size ≤ RA)); have UA := Aside0.mk ((q1_20 : NA ≠ RA)); have aO := Aside0.mk ((q1_21 : RA ≠ NA)); have bO := Aside0.mk ((by rw [hg]; exact Nat.ne_of_lt (blk_lt (g := OA) (o := .cells #[.int .i64 0, .int .i64 0, .int .i64 0, .int .i64 0, .int .i64 0, .int .i64 0, .int .i64 0, .int .i64 0, .int .i64 0, .bool false] 23 (0, 0)) q1_22) : OA ≠ RA)); have cO := Aside0.mk ((by rw [hg]; exact Nat.ne_of_gt (blk_lt (g := OA) (o := .cells #[.int .i64 0, .int .i64 0, .int .i64 0, .int .i64 0, .int .i64 0, .int .i64 0, .int .i64 0, .int .i64 0, .int .i64 0, .bool false] 23 (0, 0)) q1_22) : RA ≠ OA)); clear xA zA HB; have xA := tA; have zA := uA; have HB := vA; have PA := wA; have dO := SA; have lD := TA; have SB := UA; have TB := aO; have FB := bO; have UB := cO; clear tA uA vA wA SA TA UA aO bO cO; clear hb hbox hg; have mO := QB.out; have nO := RB.out; have oO := SB.out; have pO := TB.out; have DC : w4.cell? ⟨NA, 0, none⟩ = some (.int .i64 eA) := (blk_cell xA.out 0).trans rfl; have EC : w4.cell? ⟨NA, 1, none⟩ = some (.int .i64 fA) := (blk_cell xA.out 1).trans rfl; have FC : w4.cell? ⟨NA, 2, none⟩ = some (.int .i64 iA) := (blk_cell xA.out 2).trans rfl; have GC : w4.cell? ⟨NA, 3, none⟩ = some (.int .i64 kA) := (blk_cell xA.out 3).trans rfl; have HC : w4.cell? ⟨NA, 4, none⟩ = some (.int .i64 lA) := (blk_cell xA.out 4).trans rfl; have IC : w4.cell? ⟨NA, 5, none⟩ = some (.int .i64 nA) := (blk_cell xA.out 5).trans rfl; have JC : w4.cell? ⟨NA, 6, none⟩ = some (.int .i64 jA) := (blk_cell xA.out 6).trans rfl; have KC : w4.cell? ⟨NA, 7, none⟩ = some (.int .i64 qA) := (blk_cell xA.out 7).trans rfl; have LC : w4.cell? ⟨NA, 8, none⟩ = some (.int .i64 rA) := (blk_cell xA.out 8).trans rfl; have MC : w4.cell? ⟨NA, 9, none⟩ = some (.bool oA) := (blk_cell xA.out 9).trans rfl; have NC := blk_frozen xA.out 0; have OC := blk_frozen xA.out 1; have PC := blk_frozen xA.out 2; have QC := blk_frozen xA.out 3; have RC := blk_frozen xA.out 4; have SC := blk_frozen xA.out 5; have TC := blk_frozen xA.out 6; have UC := blk_frozen xA.out 7; have VC := blk_frozen xA.out 8; have WC := blk_frozen xA.out 9; have qO := UB.out; have rO := FB.out; have AC : w4.cell? ⟨RA, 0, none⟩ = some (.int .i64 0) := (blk_cell PA.out 0).trans rfl; have uM : w4.cell? ⟨RA, 1, none⟩ = some (.int .i64 0) := (blk_cell PA.out 1).trans rfl; have vM : w4.cell? ⟨RA, 2, none⟩ = some (.int .i64 0) := (blk_cell PA.out 2).trans rfl; have wM : w4.cell? ⟨RA, 3, none⟩ = some (.int .i64 0) := (blk_cell PA.out 3).trans rfl; have xM : w4.cell? ⟨RA, 4, none⟩ = some (.int .i64 0) := (blk_cell PA.out 4).trans rfl; have yM : w4.cell? ⟨RA, 5, none⟩ = some (.int .i64 0) := (blk_cell PA.out 5).trans rfl; have zM : w4.cell? ⟨RA, 6, none⟩ = some (.int .i64 0) := (blk_cell PA.out 6).trans rfl; have AM : w4.cell? ⟨RA, 7, none⟩ = some (.int .i64 0) := (blk_cell PA.out 7).trans rfl; have BM : w4.cell? ⟨RA, 8, none⟩ = some (.int .i64 0) := (blk_cell PA.out 8).trans rfl; have CM : w4.cell? ⟨RA, 9, none⟩ = some (.bool false) := (blk_cell PA.out 9).trans rfl; have BC := blk_frozen PA.out 0; have DM := blk_frozen PA.out 1; have EM := blk_frozen PA.out 2; have FM := blk_frozen PA.out 3; have GM := blk_frozen PA.out 4; have HM := blk_frozen PA.out 5; have IM := blk_frozen PA.out 6; have JM := blk_frozen PA.out 7; have KM := blk_frozen PA.out 8; have LM := blk_frozen PA.out 9; have SL : w4.cell? ⟨OA, 0, none⟩ = some (.int .i64 0) := (blk_cell zA.out 0).trans rfl; have TL : w4.cell? ⟨OA, 1, none⟩ = some (.int .i64 0) := (blk_cell zA.out 1).trans rfl; have UL : w4.cell? ⟨OA, 2, none⟩ = some (.int .i64 0) := (blk_cell zA.out 2).trans rfl; have VL : w4.cell? ⟨OA, 3, none⟩ = some (.int .i64 0) := (blk_cell zA.out 3).trans rfl; have WL : w4.cell? ⟨OA, 4, none⟩ = some (.int .i64 0) := (blk_cell zA.out 4).trans rfl; have XL : w4.cell? ⟨OA, 5, none⟩ = some (.int .i64 0) := (blk_cell zA.out 5).trans rfl; have YL : w4.cell? ⟨OA, 6, none⟩ = some (.int .i64 0) := (blk_cell zA.out 6).trans rfl; have ZL : w4.cell? ⟨OA, 7, none⟩ = some (.int .i64 0) := (blk_cell zA.out 7).trans rfl; have aM : w4.cell? ⟨OA, 8, none⟩ = some (.int .i64 0) := (blk_cell zA.out 8).trans rfl; have bM : w4.cell? ⟨OA, 9, none⟩ = some (.bool false) := (blk_cell zA.out 9).trans rfl; have cM := blk_frozen zA.out 0; have dM := blk_frozen zA.out 1; have eM := blk_frozen zA.out 2; have fM := blk_frozen zA.out 3; have gM := blk_frozen zA.out 4; have hM := blk_frozen zA.out 5; have iM := blk_frozen zA.out 6; have jM := blk_frozen zA.out 7; have kM := blk_frozen zA.out 8; have lM := blk_frozen zA.out 9))
 refine bodyPost_ret (results_cell_row rfl _ _ OA 23 #[.int .i64 eA, .int .i64 fA, .int .i64 iA, .int .i64 kA, .int .i64 lA, .int .i64 nA, .int .i64 jA, .int .i64 qA, .int .i64 rA, .bool oA] (0, 0) _ rfl (by (with_reducible repeat (first | refine blk_drewN ?_ _ | refine blk_drew ?_ | refine blk_alloc ?_ _)); refine blk_put (cs := #[.int .i64 eA, .int .i64 fA, .int .i64 iA, .int .i64 kA, .int .i64 lA, .int .i64 nA, .int .i64 jA, .int .i64 qA, .int .i64 rA, .bool false]) ?_ 9 _ rfl; (with_reducible repeat (first | refine blk_drewN ?_ _ | refine blk_drew ?_ | refine blk_alloc ?_ _)); refine blk_put (cs := #[.int .i64 eA, .int .i64 fA, .int .i64 iA, .int .i64 kA, .int .i64 lA, .int .i64 nA, .int .i64 jA, .int .i64 qA, .int .i64 0, .bool false]) ?_ 8 _ rfl; (with_reducible repeat (first | refine blk_drewN ?_ _ | refine blk_drew ?_ | refine blk_alloc ?_ _)); refine blk_put (cs := #[.int .i64 eA, .int .i64 fA, .int .i64 iA, .int .i64 kA, .int .i64 lA, .int .i64 nA, .int .i64 jA, .int .i64 0, .int .i64 0, .bool false]) ?_ 7 _ rfl; (with_reducible repeat (first | refine blk_drewN ?_ _ | refine blk_drew ?_ | refine blk_alloc ?_ _)); refine blk_put (cs := #[.int .i64 eA, .int .i64 fA, .int .i64 iA, .int .i64 kA, .int .i64 lA, .int .i64 nA, .int .i64 0, .int .i64 0, .int .i64 0, .bool false]) ?_ 6 _ rfl; (with_reducible repeat (first | refine blk_drewN ?_ _ | refine blk_drew ?_ | refine blk_alloc ?_ _)); refine blk_put (cs := #[.int .i64 eA, .int .i64 fA, .int .i64 iA, .int .i64 kA, .int .i64 lA, .int .i64 0, .int .i64 0, .int .i64 0, .int .i64 0, .bool false]) ?_ 5 _ rfl; (with_reducible repeat (first | refine blk_drewN ?_ _ | refine blk_drew ?_ | refine blk_alloc ?_ _)); refine blk_put (cs := #[.int .i64 eA, .int .i64 fA, .int .i64 iA, .int .i64 kA, .int .i64 0, .int .i64 0, .int .i64 0, .int .i64 0, .int .i64 0, .bool false]) ?_ 4 _ rfl; (with_reducible repeat (first | refine blk_drewN ?_ _ | refine blk_drew ?_ | refine blk_alloc ?_ _)); refine blk_put (cs := #[.int .i64 eA, .int .i64 fA, .int .i64 iA, .int .i64 0, .int .i64 0, .int .i64 0, .int .i64 0, .int .i64 0, .int .i64 0, .bool false]) ?_ 3 _ rfl; (with_reducible repeat (first | refine blk_drewN ?_ _ | refine blk_drew ?_ | refine blk_alloc ?_ _)); refine blk_put (cs := #[.int .i64 eA, .int .i64 fA, .int .i64 0, .int .i64 0, .int .i64 0, .int .i64 0, .int .i64 0, .int .i64 0, .int .i64 0, .bool false]) ?_ 2 _ rfl; (with_reducible repeat (first | refine blk_drewN ?_ _ | refine blk_drew ?_ | refine blk_alloc ?_ _)); refine blk_put (cs := #[.int .i64 eA, .int .i64 0, .int .i64 0, .int .i64 0, .int .i64 0, .int .i64 0, .int .i64 0, .int .i64 0, .int .i64 0, .bool false]) ?_ 1 _ rfl; (with_reducible repeat (first | refine blk_drewN ?_ _ | refine blk_drew ?_ | refine blk_alloc ?_ _)); refine blk_put (cs := #[.int .i64 0, .int .i64 0, .int .i64 0, .int .i64 0, .int .i64 0, .int .i64 0, .int .i64 0, .int .i64 0, .int .i64 0, .bool false]) ?_ 0 _ rfl; (iterate 10 ((with_reducible repeat (first | refine blk_drewN ?_ _ | refine blk_drew ?_ | refine blk_alloc ?_ _)); refine blk_far ?_ FB.out _)); (with_reducible repeat (first | refine blk_drewN ?_ _ | refine blk_drew ?_ | refine blk_alloc ?_ _)); exact zA.out) Try.underlying23 rfl (by kernel_rfl)) rfl ?_
 exact ⟨q1_5, by repeat (first | (with_reducible first | exact HB.out | apply below_alloc | apply pw_below_drewN | apply below_drew1 | refine below_set ?_ WB.out | refine below_set ?_ oC.out | refine below_set ?_ lD.out) | exact HB.out)⟩

/-! ### laws_szIntS: function 63 -/
def laws_szIntS.f (l0 : List Int) (a1 : Int) : Option (Int) := if (wrap64 (a1 - (l0.length : Int))) < 0 then (some (-1)) else (some (wrap64 (a1 - (l0.length : Int))))
set_option maxHeartbeats 8000000 in
set_option maxRecDepth 100000 in
theorem laws_szIntS.calls (A0 : Option Addr) (c0 : Nat) (l0 : List Int) (a1 : Int) (r : Int) (w : World) (hr0 : Kd.C (Kd.int .i64) w A0 l0.length l0) (hc0 : l0.length ≤ c0) (h : laws_szIntS.f l0 a1 = some r) :
  Calls Try.prog 63 #[.slice A0 l0.length c0, .int .i64 a1] w fun e w' => e = .returned (.int .i64 r) ∧ Drawn0 w w' := by
 clear hr0 hc0
 have H : (if (wrap64 (a1 - (l0.length : Int))) < 0 then (some (-1)) else (some (wrap64 (a1 - (l0.length : Int))))) = some r := h
 clear h
 by_cases c3 : (wrap64 (a1 - (l0.length : Int))) < 0
 ·rw [if_pos c3] at H
  have lB : decide ((wrap64 (a1 - (l0.length : Int))) < 0) = true := decide_eq_true c3
  clear c3
  obtain rfl := Option.some.inj H
  go_enter Try.func63, Try.ntmps63
  go_wp2
  go_ret
  exact ⟨q1_9, q1_10⟩
 ·rw [if_neg c3] at H
  have lB : decide ((wrap64 (a1 - (l0.length : Int))) < 0) = false := decide_eq_false c3
  clear c3
  obtain rfl := Option.some.inj H
  go_enter Try.func63, Try.ntmps63
  go_wp2
  go_ret
  exact ⟨q1_9, q1_10⟩

/-! ### laws_szMem: function 27 -/
def laws_szMem.f (pA : List Int) (a1 : Int) : Option (Int) := (laws_szIntS.f pA a1).bind fun pB => (if pB < 0 then (some (-1)) else (some pB))
set_option maxHeartbeats 8000000 in
set_option maxRecDepth 100000 in
theorem laws_szMem.calls (LA : Option Addr) (MA : Nat) (pA : List Int) (a1 : Int) (r : Int) (w : World) (iB : Kd.C (Kd.int .i64) w LA pA.length pA) (jB : pA.length ≤ MA) (h : laws_szMem.f pA a1 = some r) :
  Calls Try.prog 27 #[.agg #[.slice LA pA.length MA], .int .i64 a1] w fun e w' => e = .returned (.int .i64 r) ∧ Below w.heap.size w w' := by
 have hu43 := Try.underlying43
 have VB := Aside0.mk iB
 have kB := Aside0.mk jB
 clear iB jB
 have HB := Aside0.mk (Below.refl w.heap.size w)
 have H : ((laws_szIntS.f pA a1).bind fun pB => (if pB < 0 then (some (-1)) else (some pB))) = some r := h
 clear h
 replace H := Option.bind_eq_some_iff.mp H
 obtain ⟨pB, A30, H⟩ := H
 (try dsimp only at H)
 have A3 := Aside0.mk A30
 clear A30
 by_cases c4 : pB < 0
 ·rw [if_pos c4] at H
  have mB : decide (pB < 0) = true := decide_eq_true c4
  clear c4
  obtain rfl := Option.some.inj H
  go_enter Try.func27, Try.ntmps27
  go_wp2_with (first | ((with_reducible refine gate_dst (N := 2) rfl ?_); refine box_event ?hg (N := 2) ?hd (cs := #[.slice LA pA.length MA]) (t := 43) ?hr ?_; (case hd => rfl); (case hg => rfl); (case hr => first | (go_simp; done) | (go_simp; rfl)); intro qB hg w5 hbox hb; have tA := Aside0.mk (below_step q1_0 hb); have uA := Aside0.mk (hbox); have vA := Aside0.mk ((q1_7 : w.heap.size ≤ qB)); have wA := Aside0.mk ((q1_7 : w.heap.size ≤ qB)); clear HB; have HB := tA; have NB := uA; have mD := vA; have fC := wA; clear tA uA vA wA; clear hb hbox hg; have cC : w5.cell? ⟨qB, 0, none⟩ = some (.slice LA pA.length MA) := (blk_cell NB.out 0).trans rfl; have dC := blk_frozen NB.out 0) | ((with_reducible refine gate_callee (f := 63) rfl ?_); refine goesL_ (some 8) rfl rfl Try.func63 (by kernel_rfl) rfl #[.slice LA pA.length MA, .int .i64 a1] rfl q1_8 ?_; (with_reducible refine (laws_szIntS.calls _ _ pA a1 pB _ ?side1 ?side2 A3.out).mono ?_); (case side1 => exact q1_11); (case side2 => exact kB.out); rintro e w' ⟨rfl, ⟨nd, rfl⟩⟩; refine ⟨_, rfl, ?_⟩))
  go_ret
  exact ⟨q1_5, by repeat (first | (with_reducible first | exact HB.out | apply below_alloc | apply pw_below_drewN | apply below_drew1 | refine below_set ?_ fC.out) | exact HB.out)⟩
 ·rw [if_neg c4] at H
  have mB : decide (pB < 0) = false := decide_eq_false c4
  clear c4
  obtain rfl := Option.some.inj H
  go_enter Try.func27, Try.ntmps27
  go_wp2_with (first | ((with_reducible refine gate_dst (N := 2) rfl ?_); refine box_event ?hg (N := 2) ?hd (cs := #[.slice LA pA.length MA]) (t := 43) ?hr ?_; (case hd => rfl); (case hg => rfl); (case hr => first | (go_simp; done) | (go_simp; rfl)); intro qB hg w7 hbox hb; have tA := Aside0.mk (below_step q1_0 hb); have uA := Aside0.mk (hbox); have vA := Aside0.mk ((q1_7 : w.heap.size ≤ qB)); have wA := Aside0.mk ((q1_7 : w.heap.size ≤ qB)); clear HB; have HB := tA; have NB := uA; have mD := vA; have fC := wA; clear tA uA vA wA; clear hb hbox hg; have ZB : w7.cell? ⟨qB, 0, none⟩ = some (.slice LA pA.length MA) := (blk_cell NB.out 0).trans rfl; have aC := blk_frozen NB.out 0) | ((with_reducible refine gate_callee (f := 63) rfl ?_); refine goesL_ (some 8) rfl rfl Try.func63 (by kernel_rfl) rfl #[.slice LA pA.length MA, .int .i64 a1] rfl q1_8 ?_; (with_reducible refine (laws_szIntS.calls _ _ pA a1 pB _ ?side1 ?side2 A3.out).mono ?_); (case side1 => exact q1_11); (case side2 => exact kB.out); rintro e w' ⟨rfl, ⟨nd, rfl⟩⟩; refine ⟨_, rfl, ?_⟩))
  go_ret
  exact ⟨q1_5, by repeat (first | (with_reducible first | exact HB.out | apply below_alloc | apply pw_below_drewN | apply below_drew1 | refine below_set ?_ fC.out) | exact HB.out)⟩

/-! ### spec_l03Size: function 49 -/
def spec_l03Size.f (a0 : Int) : Option (Bool) := if a0 ≥ 1 then (some (decide (a0 ≤ 16))) else (some false)
set_option maxHeartbeats 8000000 in
set_option maxRecDepth 100000 in
theorem spec_l03Size.calls (a0 : Int) (r : Bool) (w : World) (h : spec_l03Size.f a0 = some r) :
  Calls Try.prog 49 #[.int .i64 a0] w fun e w' => e = .returned (.bool r) ∧ Drawn0 w w' := by
 have H : (if a0 ≥ 1 then (some (decide (a0 ≤ 16))) else (some false)) = some r := h
 clear h
 by_cases c2 : a0 ≥ 1
 ·rw [if_pos c2] at H
  have gC : decide (1 ≤ a0) = true := decide_eq_true c2
  clear c2
  obtain rfl := Option.some.inj H
  go_enter Try.func49, Try.ntmps49
  go_wp2
  go_ret
  exact ⟨q1_9, q1_10⟩
 ·rw [if_neg c2] at H
  have gC : decide (1 ≤ a0) = false := decide_eq_false c2
  clear c2
  obtain rfl := Option.some.inj H
  go_enter Try.func49, Try.ntmps49
  go_wp2
  go_ret
  exact ⟨q1_9, q1_10⟩

/-! ### spec_Unpack: function 71 -/
def spec_Unpack.f (a0 : Int) : Option (Int × Int × Bool) := if a0 < 0 then (some (0, 0, false)) else (if (wrap64 (Int.tdiv a0 1048576)) > 1073741823 then (some (0, 0, false)) else (some (wrap64 (Int.tdiv a0 1048576), Int.tmod a0 1048576, true)))
set_option maxHeartbeats 8000000 in
set_option maxRecDepth 100000 in
theorem spec_Unpack.calls (a0 : Int) (r1 : Int) (r2 : Int) (r3 : Bool) (w : World) (h : spec_Unpack.f a0 = some (r1, r2, r3)) :
  Calls Try.prog 71 #[.int .i64 a0] w fun e w' => e = .returned (.tuple #[.int .i64 r1, .int .i64 r2, .bool r3]) ∧ Drawn0 w w' := by
 have H : (if a0 < 0 then (some (0, 0, false)) else (if (wrap64 (Int.tdiv a0 1048576)) > 1073741823 then (some (0, 0, false)) else (some (wrap64 (Int.tdiv a0 1048576), Int.tmod a0 1048576, true)))) = some (r1, r2, r3) := h
 clear h
 by_cases c2 : a0 < 0
 ·rw [if_pos c2] at H
  have gC : decide (a0 < 0) = true := decide_eq_true c2
  clear c2
  simp only [Option.some.injEq, Prod.mk.injEq] at H
  obtain ⟨rfl, rfl, rfl⟩ := H
  go_enter Try.func71, Try.ntmps71
  go_wp2
  go_ret3
  exact ⟨q1_9, q1_10⟩
 ·rw [if_neg c2] at H
  have gC : decide (a0 < 0) = false := decide_eq_false c2
  clear c2
  by_cases c3 : (wrap64 (Int.tdiv a0 1048576)) > 1073741823
  ·rw [if_pos c3] at H
   have lB : decide (1073741823 < (wrap64 (Int.tdiv a0 1048576))) = true := decide_eq_true c3
   clear c3
   simp only [Option.some.injEq, Prod.mk.injEq] at H
   obtain ⟨rfl, rfl, rfl⟩ := H
   go_enter Try.func71, Try.ntmps71
   go_wp2
   go_ret3
   exact ⟨q1_9, q1_10⟩
  ·rw [if_neg c3] at H
   have lB : decide (1073741823 < (wrap64 (Int.tdiv a0 1048576))) = false := decide_eq_false c3
   clear c3
   simp only [Option.some.injEq, Prod.mk.injEq] at H
   obtain ⟨rfl, rfl, rfl⟩ := H
   go_enter Try.func71, Try.ntmps71
   go_wp2
   go_ret3
   exact ⟨q1_9, q1_10⟩

/-! ### spec_l03Word: function 55 -/
def spec_l03Word.f (a0 : Int) : Option (Int × Int) := (spec_Unpack.f a0).bind fun OB => (some (OB.1, OB.2.1))
set_option maxHeartbeats 8000000 in
set_option maxRecDepth 100000 in
theorem spec_l03Word.calls (a0 : Int) (r1 : Int) (r2 : Int) (w : World) (h : spec_l03Word.f a0 = some (r1, r2)) :
  Calls Try.prog 55 #[.int .i64 a0] w fun e w' => e = .returned (.tuple #[.int .i64 r1, .int .i64 r2]) ∧ Drawn0 w w' := by
 have H : ((spec_Unpack.f a0).bind fun OB => (some (OB.1, OB.2.1))) = some (r1, r2) := h
 clear h
 replace H := Option.bind_eq_some_iff.mp H
 obtain ⟨⟨MM, NM, OM⟩, A20, H⟩ := H
 (try dsimp only at H)
 have A2 := Aside0.mk A20
 clear A20
 simp only [Option.some.injEq, Prod.mk.injEq] at H
 obtain ⟨rfl, rfl⟩ := H
 go_enter Try.func55, Try.ntmps55
 go_wp2_with (first | ((with_reducible refine gate_callee (f := 71) rfl ?_); refine goesL_ (some 9) rfl rfl Try.func71 (by kernel_rfl) rfl #[.int .i64 a0] rfl q1_8 ?_; (with_reducible refine (spec_Unpack.calls a0 MM NM OM _ A2.out).mono ?_); rintro e w' ⟨rfl, ⟨nd, rfl⟩⟩; refine ⟨_, rfl, ?_⟩))
 go_ret2
 exact ⟨q1_9, q1_10⟩

/-! ### spec_l03Place: function 52 -/
def spec_l03Place.f (eA : Int) (fA : Int) (iA : Int) (kA : Int) (lA : Int) (nA : Int) (jA : Int) (qA : Int) (rA : Int) (oA : Bool) : Option (Int) := if eA = 1 then (some fA) else ((spec_l03Word.f jA).bind fun hC => (some (wrap64 (hC.2 - 1))))
set_option maxHeartbeats 8000000 in
set_option maxRecDepth 100000 in
theorem spec_l03Place.calls (eA : Int) (fA : Int) (iA : Int) (kA : Int) (lA : Int) (nA : Int) (jA : Int) (qA : Int) (rA : Int) (oA : Bool) (r : Int) (w : World) (h : spec_l03Place.f eA fA iA kA lA nA jA qA rA oA = some r) :
  Calls Try.prog 52 #[.agg #[.int .i64 eA, .int .i64 fA, .int .i64 iA, .int .i64 kA, .int .i64 lA, .int .i64 nA, .int .i64 jA, .int .i64 qA, .int .i64 rA, .bool oA]] w fun e w' => e = .returned (.int .i64 r) ∧ Below w.heap.size w w' := by
 have hu23 := Try.underlying23
 have HB := Aside0.mk (Below.refl w.heap.size w)
 have H : (if eA = 1 then (some fA) else ((spec_l03Word.f jA).bind fun hC => (some (wrap64 (hC.2 - 1))))) = some r := h
 clear h
 by_cases c2 : eA = 1
 ·rw [if_pos c2] at H
  have gC : (eA == 1) = true := beq_iff_eq.mpr c2
  have PM : (eA != 1) = false := bne_eq_false_iff_eq.mpr c2
  clear c2
  obtain rfl := Option.some.inj H
  go_enter Try.func52, Try.ntmps52
  go_wp2_with (first | ((with_reducible refine gate_dst (N := 1) rfl ?_); refine box_event ?hg (N := 1) ?hd (cs := #[.int .i64 eA, .int .i64 fA, .int .i64 iA, .int .i64 kA, .int .i64 lA, .int .i64 nA, .int .i64 jA, .int .i64 qA, .int .i64 rA, .bool oA]) (t := 23) ?hr ?_; (case hd => rfl); (case hg => rfl); (case hr => first | (go_simp; done) | (go_simp; rfl)); intro yA hg w3 hbox hb; have tA := Aside0.mk (below_step q1_0 hb); have uA := Aside0.mk (hbox); have vA := Aside0.mk ((q1_7 : w.heap.size ≤ yA)); have wA := Aside0.mk ((q1_7 : w.heap.size ≤ yA)); clear HB; have HB := tA; have sA := uA; have nD := vA; have iC := wA; clear tA uA vA wA; clear hb hbox hg; have QM : w3.cell? ⟨yA, 0, none⟩ = some (.int .i64 eA) := (blk_cell sA.out 0).trans rfl; have RM : w3.cell? ⟨yA, 1, none⟩ = some (.int .i64 fA) := (blk_cell sA.out 1).trans rfl; have SM : w3.cell? ⟨yA, 2, none⟩ = some (.int .i64 iA) := (blk_cell sA.out 2).trans rfl; have TM : w3.cell? ⟨yA, 3, none⟩ = some (.int .i64 kA) := (blk_cell sA.out 3).trans rfl; have UM : w3.cell? ⟨yA, 4, none⟩ = some (.int .i64 lA) := (blk_cell sA.out 4).trans rfl; have VM : w3.cell? ⟨yA, 5, none⟩ = some (.int .i64 nA) := (blk_cell sA.out 5).trans rfl; have WM : w3.cell? ⟨yA, 6, none⟩ = some (.int .i64 jA) := (blk_cell sA.out 6).trans rfl; have XM : w3.cell? ⟨yA, 7, none⟩ = some (.int .i64 qA) := (blk_cell sA.out 7).trans rfl; have YM : w3.cell? ⟨yA, 8, none⟩ = some (.int .i64 rA) := (blk_cell sA.out 8).trans rfl; have ZM : w3.cell? ⟨yA, 9, none⟩ = some (.bool oA) := (blk_cell sA.out 9).trans rfl; have aN := blk_frozen sA.out 0; have bN := blk_frozen sA.out 1; have cN := blk_frozen sA.out 2; have dN := blk_frozen sA.out 3; have eN := blk_frozen sA.out 4; have fN := blk_frozen sA.out 5; have gN := blk_frozen sA.out 6; have hN := blk_frozen sA.out 7; have iN := blk_frozen sA.out 8; have jN := blk_frozen sA.out 9))
  go_ret
  exact ⟨q1_5, by repeat (first | (with_reducible first | exact HB.out | apply below_alloc | apply pw_below_drewN | apply below_drew1 | refine below_set ?_ iC.out) | exact HB.out)⟩
 ·rw [if_neg c2] at H
  have gC : (eA == 1) = false := beq_eq_false_iff_ne.mpr c2
  have PM : (eA != 1) = true := bne_iff_ne.mpr c2
  replace H := Option.bind_eq_some_iff.mp H
  obtain ⟨⟨kN, lN⟩, A50, H⟩ := H
  (try dsimp only at H)
  have A5 := Aside0.mk A50
  clear A50
  obtain rfl := Option.some.inj H
  go_enter Try.func52, Try.ntmps52
  go_wp2_with (first | ((with_reducible refine gate_dst (N := 1) rfl ?_); refine box_event ?hg (N := 1) ?hd (cs := #[.int .i64 eA, .int .i64 fA, .int .i64 iA, .int .i64 kA, .int .i64 lA, .int .i64 nA, .int .i64 jA, .int .i64 qA, .int .i64 rA, .bool oA]) (t := 23) ?hr ?_; (case hd => rfl); (case hg => rfl); (case hr => first | (go_simp; done) | (go_simp; rfl)); intro yA hg w6 hbox hb; have tA := Aside0.mk (below_step q1_0 hb); have uA := Aside0.mk (hbox); have vA := Aside0.mk ((q1_7 : w.heap.size ≤ yA)); have wA := Aside0.mk ((q1_7 : w.heap.size ≤ yA)); clear HB; have HB := tA; have sA := uA; have nD := vA; have iC := wA; clear tA uA vA wA; clear hb hbox hg; have DC : w6.cell? ⟨yA, 0, none⟩ = some (.int .i64 eA) := (blk_cell sA.out 0).trans rfl; have EC : w6.cell? ⟨yA, 1, none⟩ = some (.int .i64 fA) := (blk_cell sA.out 1).trans rfl; have FC : w6.cell? ⟨yA, 2, none⟩ = some (.int .i64 iA) := (blk_cell sA.out 2).trans rfl; have GC : w6.cell? ⟨yA, 3, none⟩ = some (.int .i64 kA) := (blk_cell sA.out 3).trans rfl; have HC : w6.cell? ⟨yA, 4, none⟩ = some (.int .i64 lA) := (blk_cell sA.out 4).trans rfl; have IC : w6.cell? ⟨yA, 5, none⟩ = some (.int .i64 nA) := (blk_cell sA.out 5).trans rfl; have JC : w6.cell? ⟨yA, 6, none⟩ = some (.int .i64 jA) := (blk_cell sA.out 6).trans rfl; have KC : w6.cell? ⟨yA, 7, none⟩ = some (.int .i64 qA) := (blk_cell sA.out 7).trans rfl; have LC : w6.cell? ⟨yA, 8, none⟩ = some (.int .i64 rA) := (blk_cell sA.out 8).trans rfl; have MC : w6.cell? ⟨yA, 9, none⟩ = some (.bool oA) := (blk_cell sA.out 9).trans rfl; have NC := blk_frozen sA.out 0; have OC := blk_frozen sA.out 1; have PC := blk_frozen sA.out 2; have QC := blk_frozen sA.out 3; have RC := blk_frozen sA.out 4; have SC := blk_frozen sA.out 5; have TC := blk_frozen sA.out 6; have UC := blk_frozen sA.out 7; have VC := blk_frozen sA.out 8; have WC := blk_frozen sA.out 9) | ((with_reducible refine gate_callee (f := 55) rfl ?_); refine goesL_ (some 13) rfl rfl Try.func55 (by kernel_rfl) rfl #[.int .i64 jA] rfl q1_8 ?_; (with_reducible refine (spec_l03Word.calls jA kN lN _ A5.out).mono ?_); rintro e w' ⟨rfl, ⟨nd, rfl⟩⟩; refine ⟨_, rfl, ?_⟩))
  go_ret
  exact ⟨q1_5, by repeat (first | (with_reducible first | exact HB.out | apply below_alloc | apply pw_below_drewN | apply below_drew1 | refine below_set ?_ iC.out) | exact HB.out)⟩

/-! ### spec_l03Load: function 53 -/
def spec_l03Load.f (a0 : Int) : Option (Int × Int × Int × Int × Bool) := some (1, a0, 0, 0, true)
set_option maxHeartbeats 8000000 in
set_option maxRecDepth 100000 in
theorem spec_l03Load.calls (a0 : Int) (r1 : Int) (r2 : Int) (r3 : Int) (r4 : Int) (r5 : Bool) (w : World) (h : spec_l03Load.f a0 = some (r1, r2, r3, r4, r5)) :
  Calls Try.prog 53 #[.int .i64 a0] w fun e w' => e = .returned (.tuple #[.agg #[.int .i64 r1, .int .i64 r2, .int .i64 r3, .int .i64 r4], .bool r5]) ∧ Below w.heap.size w w' := by
 have hu37 := Try.underlying37
 have HB := Aside0.mk (Below.refl w.heap.size w)
 have H : (some (1, a0, 0, 0, true)) = some (r1, r2, r3, r4, r5) := h
 clear h
 simp only [Option.some.injEq, Prod.mk.injEq] at H
 obtain ⟨rfl, rfl, rfl, rfl, rfl⟩ := H
 go_enter Try.func53, Try.ntmps53
 go_wp2_with (first | ((with_reducible refine gate_dst (N := 2) rfl ?_); refine box_event ?hg (N := 2) ?hd (cs := #[.int .i64 0, .int .i64 0, .int .i64 0, .int .i64 0]) (t := 37) ?hr ?_; (case hd => rfl); (case hg => rfl); (case hr => first | (go_simp; done) | (go_simp; rfl)); intro rB hg w2 hbox hb; have tA := Aside0.mk (below_step q1_0 hb); have uA := Aside0.mk (hbox); have vA := Aside0.mk ((q1_7 : w.heap.size ≤ rB)); have wA := Aside0.mk ((q1_7 : w.heap.size ≤ rB)); clear HB; have HB := tA; have eB := uA; have eO := vA; have oD := wA; clear tA uA vA wA; clear hb hbox hg; have mN : w2.cell? ⟨rB, 0, none⟩ = some (.int .i64 0) := (blk_cell eB.out 0).trans rfl; have nN : w2.cell? ⟨rB, 1, none⟩ = some (.int .i64 0) := (blk_cell eB.out 1).trans rfl; have oN : w2.cell? ⟨rB, 2, none⟩ = some (.int .i64 0) := (blk_cell eB.out 2).trans rfl; have pN : w2.cell? ⟨rB, 3, none⟩ = some (.int .i64 0) := (blk_cell eB.out 3).trans rfl; have qN := blk_frozen eB.out 0; have rN := blk_frozen eB.out 1; have sN := blk_frozen eB.out 2; have tN := blk_frozen eB.out 3))
 refine bodyPost_ret (results_ct rfl _ _ rB 37 #[.int .i64 1, .int .i64 a0, .int .i64 0, .int .i64 0] (0, 0) _ rfl (by (with_reducible repeat (first | refine blk_drewN ?_ _ | refine blk_drew ?_ | refine blk_alloc ?_ _)); refine blk_put (cs := #[.int .i64 1, .int .i64 a0, .int .i64 0, .int .i64 0]) ?_ 3 _ rfl; (with_reducible repeat (first | refine blk_drewN ?_ _ | refine blk_drew ?_ | refine blk_alloc ?_ _)); refine blk_put (cs := #[.int .i64 1, .int .i64 a0, .int .i64 0, .int .i64 0]) ?_ 2 _ rfl; (with_reducible repeat (first | refine blk_drewN ?_ _ | refine blk_drew ?_ | refine blk_alloc ?_ _)); refine blk_put (cs := #[.int .i64 1, .int .i64 0, .int .i64 0, .int .i64 0]) ?_ 1 _ rfl; (with_reducible repeat (first | refine blk_drewN ?_ _ | refine blk_drew ?_ | refine blk_alloc ?_ _)); refine blk_put (cs := #[.int .i64 0, .int .i64 0, .int .i64 0, .int .i64 0]) ?_ 0 _ rfl; (with_reducible repeat (first | refine blk_drewN ?_ _ | refine blk_drew ?_ | refine blk_alloc ?_ _)); exact eB.out) Try.underlying37 rfl (by kernel_rfl)) rfl ?_
 exact ⟨q1_5, by repeat (first | (with_reducible first | exact HB.out | apply below_alloc | apply pw_below_drewN | apply below_drew1 | refine below_set ?_ oD.out) | exact HB.out)⟩

/-! ### spec_l01In: function 54 -/
def spec_l01In.f (a0 : Int) (a1 : Int) (a2 : Int) : Option (Bool) := if a0 ≥ a1 then (some (decide (a0 ≤ a2))) else (some false)
set_option maxHeartbeats 8000000 in
set_option maxRecDepth 100000 in
theorem spec_l01In.calls (a0 : Int) (a1 : Int) (a2 : Int) (r : Bool) (w : World) (h : spec_l01In.f a0 a1 a2 = some r) :
  Calls Try.prog 54 #[.int .i64 a0, .int .i64 a1, .int .i64 a2] w fun e w' => e = .returned (.bool r) ∧ Drawn0 w w' := by
 have H : (if a0 ≥ a1 then (some (decide (a0 ≤ a2))) else (some false)) = some r := h
 clear h
 by_cases c4 : a0 ≥ a1
 ·rw [if_pos c4] at H
  have mB : decide (a1 ≤ a0) = true := decide_eq_true c4
  clear c4
  obtain rfl := Option.some.inj H
  go_enter Try.func54, Try.ntmps54
  go_wp2
  go_ret
  exact ⟨q1_9, q1_10⟩
 ·rw [if_neg c4] at H
  have mB : decide (a1 ≤ a0) = false := decide_eq_false c4
  clear c4
  obtain rfl := Option.some.inj H
  go_enter Try.func54, Try.ntmps54
  go_wp2
  go_ret
  exact ⟨q1_9, q1_10⟩

end Go.Proofs.Ytfahmmlkcmadeaa.PFnExactStStep
