-- Written by the session's own patched copy of the printer (wip/patch_print.py).
import Derived.Test.YtgghglocfdcegaaPFnExactCrewNewx0
import Derived.Test.YtgghglocfdcegaaPFnExactCrewNewx5
namespace Go.Proofs.Ytgghglocfdcegaa.PFnExactCrewNew
open Go.RowKit Go.Proofs.YtgghglocfdcegaaW.PrintWords Go.Proofs.YtgghglocfdcegaaW.PrintLast Go.Proofs.YtgghglocfdcegaaW.PrintMore
attribute [local go_sem] max2_int min2_int max_two min_two max_three min_three max_four min_four   -- for this text's walks alone
set_option linter.unusedVariables false
set_option linter.unusedSimpArgs false

theorem q6_p {P : Program} {ops : Array Oper} {Q : Exit → Act → World → Prop} {md : Region.Mode} {S : World → Prop} {ds : List Nat} (i n : Nat) {oi : Oper} {v : Value} {fuel : Nat} {l : Array Bool} {a : Act} {w : World} (l' : Array Bool) {a' : Act} (h : wpAnyLast P md ops Q S ds fuel l' a' w) (hi : ops[i]? = some oi := by rfl) (hN : oi.dst = some n := by rfl) (hc : anyB md ops l l' i = true := by exact any_of HT_.out (by kernel_rfl)) (hQ : ∀ c a w, Q (.panic c) (a.put oi.dst v) w → Q (.panic c) a w := by exact fun _ _ _ h => h) (hy : Yields P ops oi v a := by refine Or.inl ⟨by rfl, ?_⟩; intro w'; go_simp; with_reducible rfl) (ha : a.put (some n) v = a' := by simp only [Act.put, List.setIfInBounds_toArray, List.set_cons_zero, List.set_cons_succ, i64_w, i32_w]; rfl) : wpAnyLast P md ops Q S ds (fuel + 1) l a w := pure_ (N := some n) l' hi hN hc hQ hy ha h
theorem q6_u {P : Program} {ops : Array Oper} {Q : Exit → Act → World → Prop} {md : Region.Mode} {S : World → Prop} {ds : List Nat} (i n : Nat) {oi : Oper} {fuel : Nat} {l : Array Bool} {a : Act} {w : World} (l' : Array Bool) {a' : Act} (h : wpAnyLast P md ops Q S ds fuel l' a' w) (hi : ops[i]? = some oi := by rfl) (hN : oi.dst = some n := by rfl) (hc : anyB md ops l l' i = true := by exact any_of HT_.out (by kernel_rfl)) (hQ : ∀ c a w, Q (.panic c) (a.put oi.dst undef) w → Q (.panic c) a w := by exact fun _ _ _ h => h) (hy : Yields P ops oi undef a := by exact Or.inr ⟨by rfl, rfl⟩) (ha : a.put (some n) undef = a' := by simp only [Act.put, List.setIfInBounds_toArray, List.set_cons_zero, List.set_cons_succ, i64_w, i32_w]; rfl) : wpAnyLast P md ops Q S ds (fuel + 1) l a w := pure_ (N := some n) l' hi hN hc hQ hy ha h
open Bool renaming true → T, false → F
theorem q6_0 {p : Prop} (h : p := by repeat (first | (with_reducible first | exact HB.out | apply below_alloc | apply pw_below_drewN | apply below_drew1) | exact HB.out)) : p := h
theorem q6_1 {p : Prop} (h : p := by repeat (first | (with_reducible first | exact HB.out | apply below_alloc | apply pw_below_drewN | apply below_drew1 | refine below_set ?_ BB.out) | exact HB.out)) : p := h
theorem q6_2 {p : Prop} (h : p := by (with_reducible repeat (first | refine blk_drewN ?_ _ | refine blk_drew ?_ | refine blk_alloc ?_ _)); exact aA.out) : p := h
theorem q6_3 {p : Prop} (h : p := by repeat (first | (with_reducible first | exact HB.out | apply below_alloc | apply pw_below_drewN | apply below_drew1 | refine below_set ?_ JB.out | refine below_set ?_ SB.out) | exact HB.out)) : p := h
theorem q6_4 {p : Prop} (h : p := by rw [hg]; exact Nat.ne_of_lt (blk_lt (g := cA) (o := .cells #[.int .i64 sA, .int .i64 jA, .int .i64 tA, .int .i64 uA, .int .i64 vA, .int .i64 wA, .int .i64 xA, .int .i64 yA, .int .i64 zA, .bool qA] 75 (0, 0)) q6_2)) : p := h
theorem q6_5 {p : Prop} (h : p := by rw [hg]; exact Nat.ne_of_gt (blk_lt (g := cA) (o := .cells #[.int .i64 sA, .int .i64 jA, .int .i64 tA, .int .i64 uA, .int .i64 vA, .int .i64 wA, .int .i64 xA, .int .i64 yA, .int .i64 zA, .bool qA] 75 (0, 0)) q6_2)) : p := h
theorem q6_6 {p : Prop} (h : p := by repeat (first | (with_reducible first | exact HB.out | apply below_alloc | apply pw_below_drewN | apply below_drew1 | refine below_set ?_ JB.out) | exact HB.out)) : p := h
theorem q6_7 {p : Prop} (h : p := by (with_reducible repeat (first | refine blk_drewN ?_ _ | refine blk_drew ?_ | refine blk_alloc ?_ _)); exact fA.out) : p := h
theorem q6_8 {p : Prop} (h : p := by repeat (first | (with_reducible first | exact HB.out | apply below_alloc | apply pw_below_drewN | apply below_drew1 | refine below_set ?_ BB.out | refine below_set ?_ CB.out) | exact HB.out)) : p := h
theorem q6_9 {p : Prop} (h : p := by first | rfl | (simp [errW_none, errW_some] <;> rfl) | (simp [*, errW_none, errW_some] <;> rfl)) : p := h
theorem q6_10 {p : Prop} (h : p := by (try simp only [List.map_toArray, List.map_cons, List.map_nil]); first | done | rfl | (simp only [List.length_drop, List.length_take]; rfl)) : p := h
theorem q6_11 {p : Prop} (h : p := by rw [hg]; exact (below_size q6_0)) : p := h
theorem q6_12 {p : Prop} (h : p := by rw [hg]; exact Nat.ne_of_lt (blk_lt (g := hA) (o := .cells #[.slice IA AA.length JA, .int .i64 jA, .slice TA BA.length UA, .slice WA CA.length XA] 55 (0, 0)) q6_7)) : p := h
theorem q6_13 {p : Prop} (h : p := by rw [hg]; exact Nat.ne_of_gt (blk_lt (g := hA) (o := .cells #[.slice IA AA.length JA, .int .i64 jA, .slice TA BA.length UA, .slice WA CA.length XA] 55 (0, 0)) q6_7)) : p := h
theorem q6_14 {p : Prop} (h : p := by repeat (first | exact (Kd.C_below TD.out HB.out) | (with_reducible refine Kd.C_alloc ?_ _) | (with_reducible refine Kd.C_drewN ?_ _) | (with_reducible refine Kd.C_drew ?_))) : p := h
theorem q6_15 {p : Prop} (h : p := by repeat (first | exact (Kd.C_below UD.out HB.out) | (with_reducible refine Kd.C_alloc ?_ _) | (with_reducible refine Kd.C_drewN ?_ _) | (with_reducible refine Kd.C_drew ?_))) : p := h
theorem q6_16 {p : Prop} (h : p := by rw [hg]; exact (below_size q6_1)) : p := h
theorem q6_17 {p : Prop} (h : p := by (with_reducible repeat (first | refine blk_drewN ?_ _ | refine blk_drew ?_ | refine blk_alloc ?_ _)); exact gA.out) : p := h
theorem q6_18 {p : Prop} (h : p := by repeat (first | exact (Kd.C_below VD.out HB.out) | (with_reducible refine Kd.C_alloc ?_ _) | (with_reducible refine Kd.C_drewN ?_ _) | (with_reducible refine Kd.C_drew ?_))) : p := h
theorem q6_19 {p : Prop} (h : p := by repeat (first | exact (Kd.C_below WD.out HB.out) | (with_reducible refine Kd.C_alloc ?_ _) | (with_reducible refine Kd.C_drewN ?_ _) | (with_reducible refine Kd.C_drew ?_))) : p := h
theorem q6_20 {p : Prop} (h : p := by first | (with_reducible assumption) | assumption) : p := h
theorem q6_21 {p : Prop} (h : p := by rw [hg]; exact (below_size q6_6)) : p := h
/-! ### laws_eqCall: function 92 -/
def laws_eqCall.f (sA : Int) (jA : Int) (tA : Int) (uA : Int) (vA : Int) (wA : Int) (xA : Int) (yA : Int) (zA : Int) (qA : Bool) (LA : Int) (mA : Int) (MA : Int) (NA : Int) (OA : Int) (PA : Int) (QA : Int) (RA : Int) (SA : Int) (EA : Bool) : Option (Bool) := if sA = LA then (if jA = mA then (if tA = MA then (if uA = NA then (if vA = OA then (if wA = PA then (if xA = QA then (if yA = RA then (if zA = SA then (if (qA != EA) = true then (some false) else (some true)) else (some false)) else (some false)) else (some false)) else (some false)) else (some false)) else (some false)) else (some false)) else (some false)) else (some false)
set_option maxHeartbeats 8000000 in
set_option maxRecDepth 100000 in
theorem laws_eqCall.calls (sA : Int) (jA : Int) (tA : Int) (uA : Int) (vA : Int) (wA : Int) (xA : Int) (yA : Int) (zA : Int) (qA : Bool) (LA : Int) (mA : Int) (MA : Int) (NA : Int) (OA : Int) (PA : Int) (QA : Int) (RA : Int) (SA : Int) (EA : Bool) (r : Bool) (w : World) (h : laws_eqCall.f sA jA tA uA vA wA xA yA zA qA LA mA MA NA OA PA QA RA SA EA = some r) :
  Calls Try.prog 92 #[.agg #[.int .i64 sA, .int .i64 jA, .int .i64 tA, .int .i64 uA, .int .i64 vA, .int .i64 wA, .int .i64 xA, .int .i64 yA, .int .i64 zA, .bool qA], .agg #[.int .i64 LA, .int .i64 mA, .int .i64 MA, .int .i64 NA, .int .i64 OA, .int .i64 PA, .int .i64 QA, .int .i64 RA, .int .i64 SA, .bool EA]] w fun e w' => e = .returned (.bool r) ∧ Below w.heap.size w w' := by
 have hu75 := Try.underlying75
 have HB := Aside0.mk (Below.refl w.heap.size w)
 have H : (if sA = LA then (if jA = mA then (if tA = MA then (if uA = NA then (if vA = OA then (if wA = PA then (if xA = QA then (if yA = RA then (if zA = SA then (if (qA != EA) = true then (some false) else (some true)) else (some false)) else (some false)) else (some false)) else (some false)) else (some false)) else (some false)) else (some false)) else (some false)) else (some false)) = some r := h
 clear h
 by_cases c3 : sA = LA
 ·rw [if_pos c3] at H
  have cC : (sA == LA) = true := beq_iff_eq.mpr c3
  have dC : (sA != LA) = false := bne_eq_false_iff_eq.mpr c3
  clear c3
  by_cases c4 : jA = mA
  ·rw [if_pos c4] at H
   have OD : (jA == mA) = true := beq_iff_eq.mpr c4
   have XM : (jA != mA) = false := bne_eq_false_iff_eq.mpr c4
   clear c4
   by_cases c5 : tA = MA
   ·rw [if_pos c5] at H
    have eC : (tA == MA) = true := beq_iff_eq.mpr c5
    have PD : (tA != MA) = false := bne_eq_false_iff_eq.mpr c5
    clear c5
    by_cases c6 : uA = NA
    ·rw [if_pos c6] at H
     have XD : (uA == NA) = true := beq_iff_eq.mpr c6
     have YM : (uA != NA) = false := bne_eq_false_iff_eq.mpr c6
     clear c6
     by_cases c7 : vA = OA
     ·rw [if_pos c7] at H
      have ZM : (vA == OA) = true := beq_iff_eq.mpr c7
      have aN : (vA != OA) = false := bne_eq_false_iff_eq.mpr c7
      clear c7
      by_cases c8 : wA = PA
      ·rw [if_pos c8] at H
       have bN : (wA == PA) = true := beq_iff_eq.mpr c8
       have cN : (wA != PA) = false := bne_eq_false_iff_eq.mpr c8
       clear c8
       by_cases c9 : xA = QA
       ·rw [if_pos c9] at H
        have dN : (xA == QA) = true := beq_iff_eq.mpr c9
        have eN : (xA != QA) = false := bne_eq_false_iff_eq.mpr c9
        clear c9
        by_cases c10 : yA = RA
        ·rw [if_pos c10] at H
         have YD : (yA == RA) = true := beq_iff_eq.mpr c10
         have ZD : (yA != RA) = false := bne_eq_false_iff_eq.mpr c10
         clear c10
         by_cases c11 : zA = SA
         ·rw [if_pos c11] at H
          have aE : (zA == SA) = true := beq_iff_eq.mpr c11
          have bE : (zA != SA) = false := bne_eq_false_iff_eq.mpr c11
          clear c11
          by_cases c12 : (qA != EA) = true
          ·rw [if_pos c12] at H
           have cE : (qA != EA) = true := c12
           (try (have dE : decide (qA = EA) = false := by simpa using c12))
           (try (have eE : (qA == EA) = false := by simpa using c12))
           (try (have qN : ¬ (qA = EA) := by simpa using c12))
           clear c12
           obtain rfl := Option.some.inj H
           go_enter Try.func92, Try.ntmps92
           go_wp2_with (first | ((with_reducible refine gate_dst (N := 2) rfl ?_); refine box_event ?hg (N := 2) ?hd (cs := #[.int .i64 sA, .int .i64 jA, .int .i64 tA, .int .i64 uA, .int .i64 vA, .int .i64 wA, .int .i64 xA, .int .i64 yA, .int .i64 zA, .bool qA]) (t := 75) ?hr ?_; (case hd => rfl); (case hg => rfl); (case hr => first | (go_simp; done) | (go_simp; rfl)); intro cA hg VN hbox hb; have nA := Aside0.mk (below_step q6_0 hb); have oA := Aside0.mk (hbox); have pA := Aside0.mk ((q6_11 : w.heap.size ≤ cA)); have rA := Aside0.mk ((q6_11 : w.heap.size ≤ cA)); clear HB; have HB := nA; have aA := oA; have DB := pA; have BB := rA; clear nA oA pA rA; clear hb hbox hg) | ((with_reducible refine gate_dst (N := 3) rfl ?_); refine box_event ?hg (N := 3) ?hd (cs := #[.int .i64 LA, .int .i64 mA, .int .i64 MA, .int .i64 NA, .int .i64 OA, .int .i64 PA, .int .i64 QA, .int .i64 RA, .int .i64 SA, .bool EA]) (t := 75) ?hr ?_; (case hd => rfl); (case hg => rfl); (case hr => first | (go_simp; done) | (go_simp; rfl)); intro dA hg KB hbox hb; have nA := Aside0.mk (blk_below (g := cA) (o := .cells #[.int .i64 sA, .int .i64 jA, .int .i64 tA, .int .i64 uA, .int .i64 vA, .int .i64 wA, .int .i64 xA, .int .i64 yA, .int .i64 zA, .bool qA] 75 (0, 0)) q6_2 hb); have oA := Aside0.mk (below_step q6_1 hb); have pA := Aside0.mk (hbox); have rA := Aside0.mk ((q6_16 : w.heap.size ≤ dA)); have wB := Aside0.mk ((q6_16 : w.heap.size ≤ dA)); have xB := Aside0.mk ((q6_4 : cA ≠ dA)); have yB := Aside0.mk ((q6_5 : dA ≠ cA)); clear aA HB; have aA := nA; have HB := oA; have bA := pA; have EB := rA; have CB := wB; have kA := xB; have lA := yB; clear nA oA pA rA wB xB yB; clear hb hbox hg; have rN := kA.out; have sN := lA.out; have fC : KB.cell? ⟨cA, 0, none⟩ = some (.int .i64 sA) := (blk_cell aA.out 0).trans rfl; have gC : KB.cell? ⟨cA, 1, none⟩ = some (.int .i64 jA) := (blk_cell aA.out 1).trans rfl; have hC : KB.cell? ⟨cA, 2, none⟩ = some (.int .i64 tA) := (blk_cell aA.out 2).trans rfl; have iC : KB.cell? ⟨cA, 3, none⟩ = some (.int .i64 uA) := (blk_cell aA.out 3).trans rfl; have iE : KB.cell? ⟨cA, 4, none⟩ = some (.int .i64 vA) := (blk_cell aA.out 4).trans rfl; have jE : KB.cell? ⟨cA, 5, none⟩ = some (.int .i64 wA) := (blk_cell aA.out 5).trans rfl; have kE : KB.cell? ⟨cA, 6, none⟩ = some (.int .i64 xA) := (blk_cell aA.out 6).trans rfl; have lE : KB.cell? ⟨cA, 7, none⟩ = some (.int .i64 yA) := (blk_cell aA.out 7).trans rfl; have mE : KB.cell? ⟨cA, 8, none⟩ = some (.int .i64 zA) := (blk_cell aA.out 8).trans rfl; have nE : KB.cell? ⟨cA, 9, none⟩ = some (.bool qA) := (blk_cell aA.out 9).trans rfl; have jC := blk_frozen aA.out 0; have kC := blk_frozen aA.out 1; have lC := blk_frozen aA.out 2; have mC := blk_frozen aA.out 3; have oE := blk_frozen aA.out 4; have pE := blk_frozen aA.out 5; have qE := blk_frozen aA.out 6; have rE := blk_frozen aA.out 7; have sE := blk_frozen aA.out 8; have tE := blk_frozen aA.out 9; have nC : KB.cell? ⟨dA, 0, none⟩ = some (.int .i64 LA) := (blk_cell bA.out 0).trans rfl; have oC : KB.cell? ⟨dA, 1, none⟩ = some (.int .i64 mA) := (blk_cell bA.out 1).trans rfl; have pC : KB.cell? ⟨dA, 2, none⟩ = some (.int .i64 MA) := (blk_cell bA.out 2).trans rfl; have qC : KB.cell? ⟨dA, 3, none⟩ = some (.int .i64 NA) := (blk_cell bA.out 3).trans rfl; have uE : KB.cell? ⟨dA, 4, none⟩ = some (.int .i64 OA) := (blk_cell bA.out 4).trans rfl; have vE : KB.cell? ⟨dA, 5, none⟩ = some (.int .i64 PA) := (blk_cell bA.out 5).trans rfl; have wE : KB.cell? ⟨dA, 6, none⟩ = some (.int .i64 QA) := (blk_cell bA.out 6).trans rfl; have xE : KB.cell? ⟨dA, 7, none⟩ = some (.int .i64 RA) := (blk_cell bA.out 7).trans rfl; have yE : KB.cell? ⟨dA, 8, none⟩ = some (.int .i64 SA) := (blk_cell bA.out 8).trans rfl; have zE : KB.cell? ⟨dA, 9, none⟩ = some (.bool EA) := (blk_cell bA.out 9).trans rfl; have rC := blk_frozen bA.out 0; have sC := blk_frozen bA.out 1; have tC := blk_frozen bA.out 2; have uC := blk_frozen bA.out 3; have AE := blk_frozen bA.out 4; have BE := blk_frozen bA.out 5; have CE := blk_frozen bA.out 6; have DE := blk_frozen bA.out 7; have EE := blk_frozen bA.out 8; have FE := blk_frozen bA.out 9))
           go_ret
           exact ⟨q6_9, q6_8⟩
          ·rw [if_neg c12] at H
           have cE : (qA != EA) = false := by simpa using c12
           (try (have dE : decide (qA = EA) = true := by simpa using c12))
           (try (have eE : (qA == EA) = true := by simpa using c12))
           clear c12
           obtain rfl := Option.some.inj H
           go_enter Try.func92, Try.ntmps92
           go_wp2_with (first | ((with_reducible refine gate_dst (N := 2) rfl ?_); refine box_event ?hg (N := 2) ?hd (cs := #[.int .i64 sA, .int .i64 jA, .int .i64 tA, .int .i64 uA, .int .i64 vA, .int .i64 wA, .int .i64 xA, .int .i64 yA, .int .i64 zA, .bool qA]) (t := 75) ?hr ?_; (case hd => rfl); (case hg => rfl); (case hr => first | (go_simp; done) | (go_simp; rfl)); intro cA hg TN hbox hb; have nA := Aside0.mk (below_step q6_0 hb); have oA := Aside0.mk (hbox); have pA := Aside0.mk ((q6_11 : w.heap.size ≤ cA)); have rA := Aside0.mk ((q6_11 : w.heap.size ≤ cA)); clear HB; have HB := nA; have aA := oA; have DB := pA; have BB := rA; clear nA oA pA rA; clear hb hbox hg) | ((with_reducible refine gate_dst (N := 3) rfl ?_); refine box_event ?hg (N := 3) ?hd (cs := #[.int .i64 LA, .int .i64 mA, .int .i64 MA, .int .i64 NA, .int .i64 OA, .int .i64 PA, .int .i64 QA, .int .i64 RA, .int .i64 SA, .bool EA]) (t := 75) ?hr ?_; (case hd => rfl); (case hg => rfl); (case hr => first | (go_simp; done) | (go_simp; rfl)); intro dA hg FB hbox hb; have nA := Aside0.mk (blk_below (g := cA) (o := .cells #[.int .i64 sA, .int .i64 jA, .int .i64 tA, .int .i64 uA, .int .i64 vA, .int .i64 wA, .int .i64 xA, .int .i64 yA, .int .i64 zA, .bool qA] 75 (0, 0)) q6_2 hb); have oA := Aside0.mk (below_step q6_1 hb); have pA := Aside0.mk (hbox); have rA := Aside0.mk ((q6_16 : w.heap.size ≤ dA)); have wB := Aside0.mk ((q6_16 : w.heap.size ≤ dA)); have xB := Aside0.mk ((q6_4 : cA ≠ dA)); have yB := Aside0.mk ((q6_5 : dA ≠ cA)); clear aA HB; have aA := nA; have HB := oA; have bA := pA; have EB := rA; have CB := wB; have kA := xB; have lA := yB; clear nA oA pA rA wB xB yB; clear hb hbox hg; have fE := kA.out; have gE := lA.out; have vC : FB.cell? ⟨cA, 0, none⟩ = some (.int .i64 sA) := (blk_cell aA.out 0).trans rfl; have wC : FB.cell? ⟨cA, 1, none⟩ = some (.int .i64 jA) := (blk_cell aA.out 1).trans rfl; have xC : FB.cell? ⟨cA, 2, none⟩ = some (.int .i64 tA) := (blk_cell aA.out 2).trans rfl; have yC : FB.cell? ⟨cA, 3, none⟩ = some (.int .i64 uA) := (blk_cell aA.out 3).trans rfl; have GE : FB.cell? ⟨cA, 4, none⟩ = some (.int .i64 vA) := (blk_cell aA.out 4).trans rfl; have HE : FB.cell? ⟨cA, 5, none⟩ = some (.int .i64 wA) := (blk_cell aA.out 5).trans rfl; have IE : FB.cell? ⟨cA, 6, none⟩ = some (.int .i64 xA) := (blk_cell aA.out 6).trans rfl; have JE : FB.cell? ⟨cA, 7, none⟩ = some (.int .i64 yA) := (blk_cell aA.out 7).trans rfl; have KE : FB.cell? ⟨cA, 8, none⟩ = some (.int .i64 zA) := (blk_cell aA.out 8).trans rfl; have LE : FB.cell? ⟨cA, 9, none⟩ = some (.bool qA) := (blk_cell aA.out 9).trans rfl; have zC := blk_frozen aA.out 0; have AC := blk_frozen aA.out 1; have BC := blk_frozen aA.out 2; have CC := blk_frozen aA.out 3; have ME := blk_frozen aA.out 4; have NE := blk_frozen aA.out 5; have OE := blk_frozen aA.out 6; have PE := blk_frozen aA.out 7; have QE := blk_frozen aA.out 8; have RE := blk_frozen aA.out 9; have DC : FB.cell? ⟨dA, 0, none⟩ = some (.int .i64 LA) := (blk_cell bA.out 0).trans rfl; have EC : FB.cell? ⟨dA, 1, none⟩ = some (.int .i64 mA) := (blk_cell bA.out 1).trans rfl; have FC : FB.cell? ⟨dA, 2, none⟩ = some (.int .i64 MA) := (blk_cell bA.out 2).trans rfl; have GC : FB.cell? ⟨dA, 3, none⟩ = some (.int .i64 NA) := (blk_cell bA.out 3).trans rfl; have SE : FB.cell? ⟨dA, 4, none⟩ = some (.int .i64 OA) := (blk_cell bA.out 4).trans rfl; have TE : FB.cell? ⟨dA, 5, none⟩ = some (.int .i64 PA) := (blk_cell bA.out 5).trans rfl; have UE : FB.cell? ⟨dA, 6, none⟩ = some (.int .i64 QA) := (blk_cell bA.out 6).trans rfl; have VE : FB.cell? ⟨dA, 7, none⟩ = some (.int .i64 RA) := (blk_cell bA.out 7).trans rfl; have WE : FB.cell? ⟨dA, 8, none⟩ = some (.int .i64 SA) := (blk_cell bA.out 8).trans rfl; have XE : FB.cell? ⟨dA, 9, none⟩ = some (.bool EA) := (blk_cell bA.out 9).trans rfl; have HC := blk_frozen bA.out 0; have IC := blk_frozen bA.out 1; have JC := blk_frozen bA.out 2; have KC := blk_frozen bA.out 3; have YE := blk_frozen bA.out 4; have ZE := blk_frozen bA.out 5; have aF := blk_frozen bA.out 6; have bF := blk_frozen bA.out 7; have cF := blk_frozen bA.out 8; have dF := blk_frozen bA.out 9))
           go_ret
           exact ⟨q6_9, q6_8⟩
         ·rw [if_neg c11] at H
          have aE : (zA == SA) = false := beq_eq_false_iff_ne.mpr c11
          have bE : (zA != SA) = true := bne_iff_ne.mpr c11
          obtain rfl := Option.some.inj H
          go_enter Try.func92, Try.ntmps92
          go_wp2_with (first | ((with_reducible refine gate_dst (N := 2) rfl ?_); refine box_event ?hg (N := 2) ?hd (cs := #[.int .i64 sA, .int .i64 jA, .int .i64 tA, .int .i64 uA, .int .i64 vA, .int .i64 wA, .int .i64 xA, .int .i64 yA, .int .i64 zA, .bool qA]) (t := 75) ?hr ?_; (case hd => rfl); (case hg => rfl); (case hr => first | (go_simp; done) | (go_simp; rfl)); intro cA hg LC hbox hb; have nA := Aside0.mk (below_step q6_0 hb); have oA := Aside0.mk (hbox); have pA := Aside0.mk ((q6_11 : w.heap.size ≤ cA)); have rA := Aside0.mk ((q6_11 : w.heap.size ≤ cA)); clear HB; have HB := nA; have aA := oA; have DB := pA; have BB := rA; clear nA oA pA rA; clear hb hbox hg) | ((with_reducible refine gate_dst (N := 3) rfl ?_); refine box_event ?hg (N := 3) ?hd (cs := #[.int .i64 LA, .int .i64 mA, .int .i64 MA, .int .i64 NA, .int .i64 OA, .int .i64 PA, .int .i64 QA, .int .i64 RA, .int .i64 SA, .bool EA]) (t := 75) ?hr ?_; (case hd => rfl); (case hg => rfl); (case hr => first | (go_simp; done) | (go_simp; rfl)); intro dA hg LB hbox hb; have nA := Aside0.mk (blk_below (g := cA) (o := .cells #[.int .i64 sA, .int .i64 jA, .int .i64 tA, .int .i64 uA, .int .i64 vA, .int .i64 wA, .int .i64 xA, .int .i64 yA, .int .i64 zA, .bool qA] 75 (0, 0)) q6_2 hb); have oA := Aside0.mk (below_step q6_1 hb); have pA := Aside0.mk (hbox); have rA := Aside0.mk ((q6_16 : w.heap.size ≤ dA)); have wB := Aside0.mk ((q6_16 : w.heap.size ≤ dA)); have xB := Aside0.mk ((q6_4 : cA ≠ dA)); have yB := Aside0.mk ((q6_5 : dA ≠ cA)); clear aA HB; have aA := nA; have HB := oA; have bA := pA; have EB := rA; have CB := wB; have kA := xB; have lA := yB; clear nA oA pA rA wB xB yB; clear hb hbox hg; have tN := kA.out; have uN := lA.out; have eF : LB.cell? ⟨cA, 0, none⟩ = some (.int .i64 sA) := (blk_cell aA.out 0).trans rfl; have fF : LB.cell? ⟨cA, 1, none⟩ = some (.int .i64 jA) := (blk_cell aA.out 1).trans rfl; have gF : LB.cell? ⟨cA, 2, none⟩ = some (.int .i64 tA) := (blk_cell aA.out 2).trans rfl; have hF : LB.cell? ⟨cA, 3, none⟩ = some (.int .i64 uA) := (blk_cell aA.out 3).trans rfl; have iF : LB.cell? ⟨cA, 4, none⟩ = some (.int .i64 vA) := (blk_cell aA.out 4).trans rfl; have jF : LB.cell? ⟨cA, 5, none⟩ = some (.int .i64 wA) := (blk_cell aA.out 5).trans rfl; have kF : LB.cell? ⟨cA, 6, none⟩ = some (.int .i64 xA) := (blk_cell aA.out 6).trans rfl; have lF : LB.cell? ⟨cA, 7, none⟩ = some (.int .i64 yA) := (blk_cell aA.out 7).trans rfl; have mF : LB.cell? ⟨cA, 8, none⟩ = some (.int .i64 zA) := (blk_cell aA.out 8).trans rfl; have nF : LB.cell? ⟨cA, 9, none⟩ = some (.bool qA) := (blk_cell aA.out 9).trans rfl; have oF := blk_frozen aA.out 0; have pF := blk_frozen aA.out 1; have qF := blk_frozen aA.out 2; have rF := blk_frozen aA.out 3; have sF := blk_frozen aA.out 4; have tF := blk_frozen aA.out 5; have uF := blk_frozen aA.out 6; have vF := blk_frozen aA.out 7; have wF := blk_frozen aA.out 8; have xF := blk_frozen aA.out 9; have yF : LB.cell? ⟨dA, 0, none⟩ = some (.int .i64 LA) := (blk_cell bA.out 0).trans rfl; have zF : LB.cell? ⟨dA, 1, none⟩ = some (.int .i64 mA) := (blk_cell bA.out 1).trans rfl; have AF : LB.cell? ⟨dA, 2, none⟩ = some (.int .i64 MA) := (blk_cell bA.out 2).trans rfl; have BF : LB.cell? ⟨dA, 3, none⟩ = some (.int .i64 NA) := (blk_cell bA.out 3).trans rfl; have CF : LB.cell? ⟨dA, 4, none⟩ = some (.int .i64 OA) := (blk_cell bA.out 4).trans rfl; have DF : LB.cell? ⟨dA, 5, none⟩ = some (.int .i64 PA) := (blk_cell bA.out 5).trans rfl; have EF : LB.cell? ⟨dA, 6, none⟩ = some (.int .i64 QA) := (blk_cell bA.out 6).trans rfl; have FF : LB.cell? ⟨dA, 7, none⟩ = some (.int .i64 RA) := (blk_cell bA.out 7).trans rfl; have GF : LB.cell? ⟨dA, 8, none⟩ = some (.int .i64 SA) := (blk_cell bA.out 8).trans rfl; have HF : LB.cell? ⟨dA, 9, none⟩ = some (.bool EA) := (blk_cell bA.out 9).trans rfl; have IF := blk_frozen bA.out 0; have JF := blk_frozen bA.out 1; have KF := blk_frozen bA.out 2; have LF := blk_frozen bA.out 3; have MF := blk_frozen bA.out 4; have NF := blk_frozen bA.out 5; have OF := blk_frozen bA.out 6; have PF := blk_frozen bA.out 7; have QF := blk_frozen bA.out 8; have RF := blk_frozen bA.out 9))
          go_ret
          exact ⟨q6_9, q6_8⟩
        ·rw [if_neg c10] at H
         have YD : (yA == RA) = false := beq_eq_false_iff_ne.mpr c10
         have ZD : (yA != RA) = true := bne_iff_ne.mpr c10
         obtain rfl := Option.some.inj H
         go_enter Try.func92, Try.ntmps92
         go_wp2_with (first | ((with_reducible refine gate_dst (N := 2) rfl ?_); refine box_event ?hg (N := 2) ?hd (cs := #[.int .i64 sA, .int .i64 jA, .int .i64 tA, .int .i64 uA, .int .i64 vA, .int .i64 wA, .int .i64 xA, .int .i64 yA, .int .i64 zA, .bool qA]) (t := 75) ?hr ?_; (case hd => rfl); (case hg => rfl); (case hr => first | (go_simp; done) | (go_simp; rfl)); intro cA hg WN hbox hb; have nA := Aside0.mk (below_step q6_0 hb); have oA := Aside0.mk (hbox); have pA := Aside0.mk ((q6_11 : w.heap.size ≤ cA)); have rA := Aside0.mk ((q6_11 : w.heap.size ≤ cA)); clear HB; have HB := nA; have aA := oA; have DB := pA; have BB := rA; clear nA oA pA rA; clear hb hbox hg) | ((with_reducible refine gate_dst (N := 3) rfl ?_); refine box_event ?hg (N := 3) ?hd (cs := #[.int .i64 LA, .int .i64 mA, .int .i64 MA, .int .i64 NA, .int .i64 OA, .int .i64 PA, .int .i64 QA, .int .i64 RA, .int .i64 SA, .bool EA]) (t := 75) ?hr ?_; (case hd => rfl); (case hg => rfl); (case hr => first | (go_simp; done) | (go_simp; rfl)); intro dA hg MB hbox hb; have nA := Aside0.mk (blk_below (g := cA) (o := .cells #[.int .i64 sA, .int .i64 jA, .int .i64 tA, .int .i64 uA, .int .i64 vA, .int .i64 wA, .int .i64 xA, .int .i64 yA, .int .i64 zA, .bool qA] 75 (0, 0)) q6_2 hb); have oA := Aside0.mk (below_step q6_1 hb); have pA := Aside0.mk (hbox); have rA := Aside0.mk ((q6_16 : w.heap.size ≤ dA)); have wB := Aside0.mk ((q6_16 : w.heap.size ≤ dA)); have xB := Aside0.mk ((q6_4 : cA ≠ dA)); have yB := Aside0.mk ((q6_5 : dA ≠ cA)); clear aA HB; have aA := nA; have HB := oA; have bA := pA; have EB := rA; have CB := wB; have kA := xB; have lA := yB; clear nA oA pA rA wB xB yB; clear hb hbox hg; have vN := kA.out; have wN := lA.out; have SF : MB.cell? ⟨cA, 0, none⟩ = some (.int .i64 sA) := (blk_cell aA.out 0).trans rfl; have TF : MB.cell? ⟨cA, 1, none⟩ = some (.int .i64 jA) := (blk_cell aA.out 1).trans rfl; have UF : MB.cell? ⟨cA, 2, none⟩ = some (.int .i64 tA) := (blk_cell aA.out 2).trans rfl; have VF : MB.cell? ⟨cA, 3, none⟩ = some (.int .i64 uA) := (blk_cell aA.out 3).trans rfl; have WF : MB.cell? ⟨cA, 4, none⟩ = some (.int .i64 vA) := (blk_cell aA.out 4).trans rfl; have XF : MB.cell? ⟨cA, 5, none⟩ = some (.int .i64 wA) := (blk_cell aA.out 5).trans rfl; have YF : MB.cell? ⟨cA, 6, none⟩ = some (.int .i64 xA) := (blk_cell aA.out 6).trans rfl; have ZF : MB.cell? ⟨cA, 7, none⟩ = some (.int .i64 yA) := (blk_cell aA.out 7).trans rfl; have aG : MB.cell? ⟨cA, 8, none⟩ = some (.int .i64 zA) := (blk_cell aA.out 8).trans rfl; have bG : MB.cell? ⟨cA, 9, none⟩ = some (.bool qA) := (blk_cell aA.out 9).trans rfl; have cG := blk_frozen aA.out 0; have dG := blk_frozen aA.out 1; have eG := blk_frozen aA.out 2; have fG := blk_frozen aA.out 3; have gG := blk_frozen aA.out 4; have hG := blk_frozen aA.out 5; have iG := blk_frozen aA.out 6; have jG := blk_frozen aA.out 7; have kG := blk_frozen aA.out 8; have lG := blk_frozen aA.out 9; have MC : MB.cell? ⟨dA, 0, none⟩ = some (.int .i64 LA) := (blk_cell bA.out 0).trans rfl; have NC : MB.cell? ⟨dA, 1, none⟩ = some (.int .i64 mA) := (blk_cell bA.out 1).trans rfl; have OC : MB.cell? ⟨dA, 2, none⟩ = some (.int .i64 MA) := (blk_cell bA.out 2).trans rfl; have PC : MB.cell? ⟨dA, 3, none⟩ = some (.int .i64 NA) := (blk_cell bA.out 3).trans rfl; have mG : MB.cell? ⟨dA, 4, none⟩ = some (.int .i64 OA) := (blk_cell bA.out 4).trans rfl; have nG : MB.cell? ⟨dA, 5, none⟩ = some (.int .i64 PA) := (blk_cell bA.out 5).trans rfl; have oG : MB.cell? ⟨dA, 6, none⟩ = some (.int .i64 QA) := (blk_cell bA.out 6).trans rfl; have pG : MB.cell? ⟨dA, 7, none⟩ = some (.int .i64 RA) := (blk_cell bA.out 7).trans rfl; have qG : MB.cell? ⟨dA, 8, none⟩ = some (.int .i64 SA) := (blk_cell bA.out 8).trans rfl; have rG : MB.cell? ⟨dA, 9, none⟩ = some (.bool EA) := (blk_cell bA.out 9).trans rfl; have QC := blk_frozen bA.out 0; have RC := blk_frozen bA.out 1; have SC := blk_frozen bA.out 2; have TC := blk_frozen bA.out 3; have sG := blk_frozen bA.out 4; have tG := blk_frozen bA.out 5; have uG := blk_frozen bA.out 6; have vG := blk_frozen bA.out 7; have wG := blk_frozen bA.out 8; have xG := blk_frozen bA.out 9))
         go_ret
         exact ⟨q6_9, q6_8⟩
       ·rw [if_neg c9] at H
        have dN : (xA == QA) = false := beq_eq_false_iff_ne.mpr c9
        have eN : (xA != QA) = true := bne_iff_ne.mpr c9
        obtain rfl := Option.some.inj H
        go_enter Try.func92, Try.ntmps92
        go_wp2_with (first | ((with_reducible refine gate_dst (N := 2) rfl ?_); refine box_event ?hg (N := 2) ?hd (cs := #[.int .i64 sA, .int .i64 jA, .int .i64 tA, .int .i64 uA, .int .i64 vA, .int .i64 wA, .int .i64 xA, .int .i64 yA, .int .i64 zA, .bool qA]) (t := 75) ?hr ?_; (case hd => rfl); (case hg => rfl); (case hr => first | (go_simp; done) | (go_simp; rfl)); intro cA hg XN hbox hb; have nA := Aside0.mk (below_step q6_0 hb); have oA := Aside0.mk (hbox); have pA := Aside0.mk ((q6_11 : w.heap.size ≤ cA)); have rA := Aside0.mk ((q6_11 : w.heap.size ≤ cA)); clear HB; have HB := nA; have aA := oA; have DB := pA; have BB := rA; clear nA oA pA rA; clear hb hbox hg) | ((with_reducible refine gate_dst (N := 3) rfl ?_); refine box_event ?hg (N := 3) ?hd (cs := #[.int .i64 LA, .int .i64 mA, .int .i64 MA, .int .i64 NA, .int .i64 OA, .int .i64 PA, .int .i64 QA, .int .i64 RA, .int .i64 SA, .bool EA]) (t := 75) ?hr ?_; (case hd => rfl); (case hg => rfl); (case hr => first | (go_simp; done) | (go_simp; rfl)); intro dA hg IB hbox hb; have nA := Aside0.mk (blk_below (g := cA) (o := .cells #[.int .i64 sA, .int .i64 jA, .int .i64 tA, .int .i64 uA, .int .i64 vA, .int .i64 wA, .int .i64 xA, .int .i64 yA, .int .i64 zA, .bool qA] 75 (0, 0)) q6_2 hb); have oA := Aside0.mk (below_step q6_1 hb); have pA := Aside0.mk (hbox); have rA := Aside0.mk ((q6_16 : w.heap.size ≤ dA)); have wB := Aside0.mk ((q6_16 : w.heap.size ≤ dA)); have xB := Aside0.mk ((q6_4 : cA ≠ dA)); have yB := Aside0.mk ((q6_5 : dA ≠ cA)); clear aA HB; have aA := nA; have HB := oA; have bA := pA; have EB := rA; have CB := wB; have kA := xB; have lA := yB; clear nA oA pA rA wB xB yB; clear hb hbox hg; have xN := kA.out; have yN := lA.out; have yG : IB.cell? ⟨cA, 0, none⟩ = some (.int .i64 sA) := (blk_cell aA.out 0).trans rfl; have zG : IB.cell? ⟨cA, 1, none⟩ = some (.int .i64 jA) := (blk_cell aA.out 1).trans rfl; have AG : IB.cell? ⟨cA, 2, none⟩ = some (.int .i64 tA) := (blk_cell aA.out 2).trans rfl; have BG : IB.cell? ⟨cA, 3, none⟩ = some (.int .i64 uA) := (blk_cell aA.out 3).trans rfl; have CG : IB.cell? ⟨cA, 4, none⟩ = some (.int .i64 vA) := (blk_cell aA.out 4).trans rfl; have DG : IB.cell? ⟨cA, 5, none⟩ = some (.int .i64 wA) := (blk_cell aA.out 5).trans rfl; have EG : IB.cell? ⟨cA, 6, none⟩ = some (.int .i64 xA) := (blk_cell aA.out 6).trans rfl; have FG : IB.cell? ⟨cA, 7, none⟩ = some (.int .i64 yA) := (blk_cell aA.out 7).trans rfl; have GG : IB.cell? ⟨cA, 8, none⟩ = some (.int .i64 zA) := (blk_cell aA.out 8).trans rfl; have HG : IB.cell? ⟨cA, 9, none⟩ = some (.bool qA) := (blk_cell aA.out 9).trans rfl; have IG := blk_frozen aA.out 0; have JG := blk_frozen aA.out 1; have KG := blk_frozen aA.out 2; have LG := blk_frozen aA.out 3; have MG := blk_frozen aA.out 4; have NG := blk_frozen aA.out 5; have OG := blk_frozen aA.out 6; have PG := blk_frozen aA.out 7; have QG := blk_frozen aA.out 8; have RG := blk_frozen aA.out 9; have UC : IB.cell? ⟨dA, 0, none⟩ = some (.int .i64 LA) := (blk_cell bA.out 0).trans rfl; have VC : IB.cell? ⟨dA, 1, none⟩ = some (.int .i64 mA) := (blk_cell bA.out 1).trans rfl; have WC : IB.cell? ⟨dA, 2, none⟩ = some (.int .i64 MA) := (blk_cell bA.out 2).trans rfl; have XC : IB.cell? ⟨dA, 3, none⟩ = some (.int .i64 NA) := (blk_cell bA.out 3).trans rfl; have SG : IB.cell? ⟨dA, 4, none⟩ = some (.int .i64 OA) := (blk_cell bA.out 4).trans rfl; have TG : IB.cell? ⟨dA, 5, none⟩ = some (.int .i64 PA) := (blk_cell bA.out 5).trans rfl; have UG : IB.cell? ⟨dA, 6, none⟩ = some (.int .i64 QA) := (blk_cell bA.out 6).trans rfl; have VG : IB.cell? ⟨dA, 7, none⟩ = some (.int .i64 RA) := (blk_cell bA.out 7).trans rfl; have WG : IB.cell? ⟨dA, 8, none⟩ = some (.int .i64 SA) := (blk_cell bA.out 8).trans rfl; have XG : IB.cell? ⟨dA, 9, none⟩ = some (.bool EA) := (blk_cell bA.out 9).trans rfl; have YC := blk_frozen bA.out 0; have ZC := blk_frozen bA.out 1; have aD := blk_frozen bA.out 2; have bD := blk_frozen bA.out 3; have YG := blk_frozen bA.out 4; have ZG := blk_frozen bA.out 5; have aH := blk_frozen bA.out 6; have bH := blk_frozen bA.out 7; have cH := blk_frozen bA.out 8; have dH := blk_frozen bA.out 9))
        go_ret
        exact ⟨q6_9, q6_8⟩
      ·rw [if_neg c8] at H
       have bN : (wA == PA) = false := beq_eq_false_iff_ne.mpr c8
       have cN : (wA != PA) = true := bne_iff_ne.mpr c8
       obtain rfl := Option.some.inj H
       go_enter Try.func92, Try.ntmps92
       go_wp2_with (first | ((with_reducible refine gate_dst (N := 2) rfl ?_); refine box_event ?hg (N := 2) ?hd (cs := #[.int .i64 sA, .int .i64 jA, .int .i64 tA, .int .i64 uA, .int .i64 vA, .int .i64 wA, .int .i64 xA, .int .i64 yA, .int .i64 zA, .bool qA]) (t := 75) ?hr ?_; (case hd => rfl); (case hg => rfl); (case hr => first | (go_simp; done) | (go_simp; rfl)); intro cA hg YN hbox hb; have nA := Aside0.mk (below_step q6_0 hb); have oA := Aside0.mk (hbox); have pA := Aside0.mk ((q6_11 : w.heap.size ≤ cA)); have rA := Aside0.mk ((q6_11 : w.heap.size ≤ cA)); clear HB; have HB := nA; have aA := oA; have DB := pA; have BB := rA; clear nA oA pA rA; clear hb hbox hg) | ((with_reducible refine gate_dst (N := 3) rfl ?_); refine box_event ?hg (N := 3) ?hd (cs := #[.int .i64 LA, .int .i64 mA, .int .i64 MA, .int .i64 NA, .int .i64 OA, .int .i64 PA, .int .i64 QA, .int .i64 RA, .int .i64 SA, .bool EA]) (t := 75) ?hr ?_; (case hd => rfl); (case hg => rfl); (case hr => first | (go_simp; done) | (go_simp; rfl)); intro dA hg GB hbox hb; have nA := Aside0.mk (blk_below (g := cA) (o := .cells #[.int .i64 sA, .int .i64 jA, .int .i64 tA, .int .i64 uA, .int .i64 vA, .int .i64 wA, .int .i64 xA, .int .i64 yA, .int .i64 zA, .bool qA] 75 (0, 0)) q6_2 hb); have oA := Aside0.mk (below_step q6_1 hb); have pA := Aside0.mk (hbox); have rA := Aside0.mk ((q6_16 : w.heap.size ≤ dA)); have wB := Aside0.mk ((q6_16 : w.heap.size ≤ dA)); have xB := Aside0.mk ((q6_4 : cA ≠ dA)); have yB := Aside0.mk ((q6_5 : dA ≠ cA)); clear aA HB; have aA := nA; have HB := oA; have bA := pA; have EB := rA; have CB := wB; have kA := xB; have lA := yB; clear nA oA pA rA wB xB yB; clear hb hbox hg; have zN := kA.out; have AN := lA.out; have cD : GB.cell? ⟨cA, 0, none⟩ = some (.int .i64 sA) := (blk_cell aA.out 0).trans rfl; have dD : GB.cell? ⟨cA, 1, none⟩ = some (.int .i64 jA) := (blk_cell aA.out 1).trans rfl; have eD : GB.cell? ⟨cA, 2, none⟩ = some (.int .i64 tA) := (blk_cell aA.out 2).trans rfl; have fD : GB.cell? ⟨cA, 3, none⟩ = some (.int .i64 uA) := (blk_cell aA.out 3).trans rfl; have eH : GB.cell? ⟨cA, 4, none⟩ = some (.int .i64 vA) := (blk_cell aA.out 4).trans rfl; have fH : GB.cell? ⟨cA, 5, none⟩ = some (.int .i64 wA) := (blk_cell aA.out 5).trans rfl; have gH : GB.cell? ⟨cA, 6, none⟩ = some (.int .i64 xA) := (blk_cell aA.out 6).trans rfl; have hH : GB.cell? ⟨cA, 7, none⟩ = some (.int .i64 yA) := (blk_cell aA.out 7).trans rfl; have iH : GB.cell? ⟨cA, 8, none⟩ = some (.int .i64 zA) := (blk_cell aA.out 8).trans rfl; have jH : GB.cell? ⟨cA, 9, none⟩ = some (.bool qA) := (blk_cell aA.out 9).trans rfl; have gD := blk_frozen aA.out 0; have hD := blk_frozen aA.out 1; have iD := blk_frozen aA.out 2; have jD := blk_frozen aA.out 3; have kH := blk_frozen aA.out 4; have lH := blk_frozen aA.out 5; have mH := blk_frozen aA.out 6; have nH := blk_frozen aA.out 7; have oH := blk_frozen aA.out 8; have pH := blk_frozen aA.out 9; have qH : GB.cell? ⟨dA, 0, none⟩ = some (.int .i64 LA) := (blk_cell bA.out 0).trans rfl; have rH : GB.cell? ⟨dA, 1, none⟩ = some (.int .i64 mA) := (blk_cell bA.out 1).trans rfl; have sH : GB.cell? ⟨dA, 2, none⟩ = some (.int .i64 MA) := (blk_cell bA.out 2).trans rfl; have tH : GB.cell? ⟨dA, 3, none⟩ = some (.int .i64 NA) := (blk_cell bA.out 3).trans rfl; have uH : GB.cell? ⟨dA, 4, none⟩ = some (.int .i64 OA) := (blk_cell bA.out 4).trans rfl; have vH : GB.cell? ⟨dA, 5, none⟩ = some (.int .i64 PA) := (blk_cell bA.out 5).trans rfl; have wH : GB.cell? ⟨dA, 6, none⟩ = some (.int .i64 QA) := (blk_cell bA.out 6).trans rfl; have xH : GB.cell? ⟨dA, 7, none⟩ = some (.int .i64 RA) := (blk_cell bA.out 7).trans rfl; have yH : GB.cell? ⟨dA, 8, none⟩ = some (.int .i64 SA) := (blk_cell bA.out 8).trans rfl; have zH : GB.cell? ⟨dA, 9, none⟩ = some (.bool EA) := (blk_cell bA.out 9).trans rfl; have AH := blk_frozen bA.out 0; have BH := blk_frozen bA.out 1; have CH := blk_frozen bA.out 2; have DH := blk_frozen bA.out 3; have EH := blk_frozen bA.out 4; have FH := blk_frozen bA.out 5; have GH := blk_frozen bA.out 6; have HH := blk_frozen bA.out 7; have IH := blk_frozen bA.out 8; have JH := blk_frozen bA.out 9))
       go_ret
       exact ⟨q6_9, q6_8⟩
     ·rw [if_neg c7] at H
      have ZM : (vA == OA) = false := beq_eq_false_iff_ne.mpr c7
      have aN : (vA != OA) = true := bne_iff_ne.mpr c7
      obtain rfl := Option.some.inj H
      go_enter Try.func92, Try.ntmps92
      go_wp2_with (first | ((with_reducible refine gate_dst (N := 2) rfl ?_); refine box_event ?hg (N := 2) ?hd (cs := #[.int .i64 sA, .int .i64 jA, .int .i64 tA, .int .i64 uA, .int .i64 vA, .int .i64 wA, .int .i64 xA, .int .i64 yA, .int .i64 zA, .bool qA]) (t := 75) ?hr ?_; (case hd => rfl); (case hg => rfl); (case hr => first | (go_simp; done) | (go_simp; rfl)); intro cA hg kD hbox hb; have nA := Aside0.mk (below_step q6_0 hb); have oA := Aside0.mk (hbox); have pA := Aside0.mk ((q6_11 : w.heap.size ≤ cA)); have rA := Aside0.mk ((q6_11 : w.heap.size ≤ cA)); clear HB; have HB := nA; have aA := oA; have DB := pA; have BB := rA; clear nA oA pA rA; clear hb hbox hg) | ((with_reducible refine gate_dst (N := 3) rfl ?_); refine box_event ?hg (N := 3) ?hd (cs := #[.int .i64 LA, .int .i64 mA, .int .i64 MA, .int .i64 NA, .int .i64 OA, .int .i64 PA, .int .i64 QA, .int .i64 RA, .int .i64 SA, .bool EA]) (t := 75) ?hr ?_; (case hd => rfl); (case hg => rfl); (case hr => first | (go_simp; done) | (go_simp; rfl)); intro dA hg NB hbox hb; have nA := Aside0.mk (blk_below (g := cA) (o := .cells #[.int .i64 sA, .int .i64 jA, .int .i64 tA, .int .i64 uA, .int .i64 vA, .int .i64 wA, .int .i64 xA, .int .i64 yA, .int .i64 zA, .bool qA] 75 (0, 0)) q6_2 hb); have oA := Aside0.mk (below_step q6_1 hb); have pA := Aside0.mk (hbox); have rA := Aside0.mk ((q6_16 : w.heap.size ≤ dA)); have wB := Aside0.mk ((q6_16 : w.heap.size ≤ dA)); have xB := Aside0.mk ((q6_4 : cA ≠ dA)); have yB := Aside0.mk ((q6_5 : dA ≠ cA)); clear aA HB; have aA := nA; have HB := oA; have bA := pA; have EB := rA; have CB := wB; have kA := xB; have lA := yB; clear nA oA pA rA wB xB yB; clear hb hbox hg; have BN := kA.out; have CN := lA.out; have lD : NB.cell? ⟨cA, 0, none⟩ = some (.int .i64 sA) := (blk_cell aA.out 0).trans rfl; have mD : NB.cell? ⟨cA, 1, none⟩ = some (.int .i64 jA) := (blk_cell aA.out 1).trans rfl; have nD : NB.cell? ⟨cA, 2, none⟩ = some (.int .i64 tA) := (blk_cell aA.out 2).trans rfl; have oD : NB.cell? ⟨cA, 3, none⟩ = some (.int .i64 uA) := (blk_cell aA.out 3).trans rfl; have KH : NB.cell? ⟨cA, 4, none⟩ = some (.int .i64 vA) := (blk_cell aA.out 4).trans rfl; have LH : NB.cell? ⟨cA, 5, none⟩ = some (.int .i64 wA) := (blk_cell aA.out 5).trans rfl; have MH : NB.cell? ⟨cA, 6, none⟩ = some (.int .i64 xA) := (blk_cell aA.out 6).trans rfl; have NH : NB.cell? ⟨cA, 7, none⟩ = some (.int .i64 yA) := (blk_cell aA.out 7).trans rfl; have OH : NB.cell? ⟨cA, 8, none⟩ = some (.int .i64 zA) := (blk_cell aA.out 8).trans rfl; have PH : NB.cell? ⟨cA, 9, none⟩ = some (.bool qA) := (blk_cell aA.out 9).trans rfl; have pD := blk_frozen aA.out 0; have qD := blk_frozen aA.out 1; have rD := blk_frozen aA.out 2; have sD := blk_frozen aA.out 3; have QH := blk_frozen aA.out 4; have RH := blk_frozen aA.out 5; have SH := blk_frozen aA.out 6; have TH := blk_frozen aA.out 7; have UH := blk_frozen aA.out 8; have VH := blk_frozen aA.out 9; have WH : NB.cell? ⟨dA, 0, none⟩ = some (.int .i64 LA) := (blk_cell bA.out 0).trans rfl; have XH : NB.cell? ⟨dA, 1, none⟩ = some (.int .i64 mA) := (blk_cell bA.out 1).trans rfl; have YH : NB.cell? ⟨dA, 2, none⟩ = some (.int .i64 MA) := (blk_cell bA.out 2).trans rfl; have ZH : NB.cell? ⟨dA, 3, none⟩ = some (.int .i64 NA) := (blk_cell bA.out 3).trans rfl; have aI : NB.cell? ⟨dA, 4, none⟩ = some (.int .i64 OA) := (blk_cell bA.out 4).trans rfl; have bI : NB.cell? ⟨dA, 5, none⟩ = some (.int .i64 PA) := (blk_cell bA.out 5).trans rfl; have cI : NB.cell? ⟨dA, 6, none⟩ = some (.int .i64 QA) := (blk_cell bA.out 6).trans rfl; have dI : NB.cell? ⟨dA, 7, none⟩ = some (.int .i64 RA) := (blk_cell bA.out 7).trans rfl; have eI : NB.cell? ⟨dA, 8, none⟩ = some (.int .i64 SA) := (blk_cell bA.out 8).trans rfl; have fI : NB.cell? ⟨dA, 9, none⟩ = some (.bool EA) := (blk_cell bA.out 9).trans rfl; have gI := blk_frozen bA.out 0; have hI := blk_frozen bA.out 1; have iI := blk_frozen bA.out 2; have jI := blk_frozen bA.out 3; have kI := blk_frozen bA.out 4; have lI := blk_frozen bA.out 5; have mI := blk_frozen bA.out 6; have nI := blk_frozen bA.out 7; have oI := blk_frozen bA.out 8; have pI := blk_frozen bA.out 9))
      go_ret
      exact ⟨q6_9, q6_8⟩
    ·rw [if_neg c6] at H
     have XD : (uA == NA) = false := beq_eq_false_iff_ne.mpr c6
     have YM : (uA != NA) = true := bne_iff_ne.mpr c6
     obtain rfl := Option.some.inj H
     go_enter Try.func92, Try.ntmps92
     go_wp2_with (first | ((with_reducible refine gate_dst (N := 2) rfl ?_); refine box_event ?hg (N := 2) ?hd (cs := #[.int .i64 sA, .int .i64 jA, .int .i64 tA, .int .i64 uA, .int .i64 vA, .int .i64 wA, .int .i64 xA, .int .i64 yA, .int .i64 zA, .bool qA]) (t := 75) ?hr ?_; (case hd => rfl); (case hg => rfl); (case hr => first | (go_simp; done) | (go_simp; rfl)); intro cA hg ZN hbox hb; have nA := Aside0.mk (below_step q6_0 hb); have oA := Aside0.mk (hbox); have pA := Aside0.mk ((q6_11 : w.heap.size ≤ cA)); have rA := Aside0.mk ((q6_11 : w.heap.size ≤ cA)); clear HB; have HB := nA; have aA := oA; have DB := pA; have BB := rA; clear nA oA pA rA; clear hb hbox hg) | ((with_reducible refine gate_dst (N := 3) rfl ?_); refine box_event ?hg (N := 3) ?hd (cs := #[.int .i64 LA, .int .i64 mA, .int .i64 MA, .int .i64 NA, .int .i64 OA, .int .i64 PA, .int .i64 QA, .int .i64 RA, .int .i64 SA, .bool EA]) (t := 75) ?hr ?_; (case hd => rfl); (case hg => rfl); (case hr => first | (go_simp; done) | (go_simp; rfl)); intro dA hg OB hbox hb; have nA := Aside0.mk (blk_below (g := cA) (o := .cells #[.int .i64 sA, .int .i64 jA, .int .i64 tA, .int .i64 uA, .int .i64 vA, .int .i64 wA, .int .i64 xA, .int .i64 yA, .int .i64 zA, .bool qA] 75 (0, 0)) q6_2 hb); have oA := Aside0.mk (below_step q6_1 hb); have pA := Aside0.mk (hbox); have rA := Aside0.mk ((q6_16 : w.heap.size ≤ dA)); have wB := Aside0.mk ((q6_16 : w.heap.size ≤ dA)); have xB := Aside0.mk ((q6_4 : cA ≠ dA)); have yB := Aside0.mk ((q6_5 : dA ≠ cA)); clear aA HB; have aA := nA; have HB := oA; have bA := pA; have EB := rA; have CB := wB; have kA := xB; have lA := yB; clear nA oA pA rA wB xB yB; clear hb hbox hg; have DN := kA.out; have EN := lA.out; have qI : OB.cell? ⟨cA, 0, none⟩ = some (.int .i64 sA) := (blk_cell aA.out 0).trans rfl; have rI : OB.cell? ⟨cA, 1, none⟩ = some (.int .i64 jA) := (blk_cell aA.out 1).trans rfl; have sI : OB.cell? ⟨cA, 2, none⟩ = some (.int .i64 tA) := (blk_cell aA.out 2).trans rfl; have tI : OB.cell? ⟨cA, 3, none⟩ = some (.int .i64 uA) := (blk_cell aA.out 3).trans rfl; have uI : OB.cell? ⟨cA, 4, none⟩ = some (.int .i64 vA) := (blk_cell aA.out 4).trans rfl; have vI : OB.cell? ⟨cA, 5, none⟩ = some (.int .i64 wA) := (blk_cell aA.out 5).trans rfl; have wI : OB.cell? ⟨cA, 6, none⟩ = some (.int .i64 xA) := (blk_cell aA.out 6).trans rfl; have xI : OB.cell? ⟨cA, 7, none⟩ = some (.int .i64 yA) := (blk_cell aA.out 7).trans rfl; have yI : OB.cell? ⟨cA, 8, none⟩ = some (.int .i64 zA) := (blk_cell aA.out 8).trans rfl; have zI : OB.cell? ⟨cA, 9, none⟩ = some (.bool qA) := (blk_cell aA.out 9).trans rfl; have AI := blk_frozen aA.out 0; have BI := blk_frozen aA.out 1; have CI := blk_frozen aA.out 2; have DI := blk_frozen aA.out 3; have EI := blk_frozen aA.out 4; have FI := blk_frozen aA.out 5; have GI := blk_frozen aA.out 6; have HI := blk_frozen aA.out 7; have II := blk_frozen aA.out 8; have JI := blk_frozen aA.out 9; have KI : OB.cell? ⟨dA, 0, none⟩ = some (.int .i64 LA) := (blk_cell bA.out 0).trans rfl; have LI : OB.cell? ⟨dA, 1, none⟩ = some (.int .i64 mA) := (blk_cell bA.out 1).trans rfl; have MI : OB.cell? ⟨dA, 2, none⟩ = some (.int .i64 MA) := (blk_cell bA.out 2).trans rfl; have NI : OB.cell? ⟨dA, 3, none⟩ = some (.int .i64 NA) := (blk_cell bA.out 3).trans rfl; have OI : OB.cell? ⟨dA, 4, none⟩ = some (.int .i64 OA) := (blk_cell bA.out 4).trans rfl; have PI : OB.cell? ⟨dA, 5, none⟩ = some (.int .i64 PA) := (blk_cell bA.out 5).trans rfl; have QI : OB.cell? ⟨dA, 6, none⟩ = some (.int .i64 QA) := (blk_cell bA.out 6).trans rfl; have RI : OB.cell? ⟨dA, 7, none⟩ = some (.int .i64 RA) := (blk_cell bA.out 7).trans rfl; have SI : OB.cell? ⟨dA, 8, none⟩ = some (.int .i64 SA) := (blk_cell bA.out 8).trans rfl; have TI : OB.cell? ⟨dA, 9, none⟩ = some (.bool EA) := (blk_cell bA.out 9).trans rfl; have UI := blk_frozen bA.out 0; have VI := blk_frozen bA.out 1; have WI := blk_frozen bA.out 2; have XI := blk_frozen bA.out 3; have YI := blk_frozen bA.out 4; have ZI := blk_frozen bA.out 5; have aJ := blk_frozen bA.out 6; have bJ := blk_frozen bA.out 7; have cJ := blk_frozen bA.out 8; have dJ := blk_frozen bA.out 9))
     go_ret
     exact ⟨q6_9, q6_8⟩
   ·rw [if_neg c5] at H
    have eC : (tA == MA) = false := beq_eq_false_iff_ne.mpr c5
    have PD : (tA != MA) = true := bne_iff_ne.mpr c5
    obtain rfl := Option.some.inj H
    go_enter Try.func92, Try.ntmps92
    go_wp2_with (first | ((with_reducible refine gate_dst (N := 2) rfl ?_); refine box_event ?hg (N := 2) ?hd (cs := #[.int .i64 sA, .int .i64 jA, .int .i64 tA, .int .i64 uA, .int .i64 vA, .int .i64 wA, .int .i64 xA, .int .i64 yA, .int .i64 zA, .bool qA]) (t := 75) ?hr ?_; (case hd => rfl); (case hg => rfl); (case hr => first | (go_simp; done) | (go_simp; rfl)); intro cA hg aO hbox hb; have nA := Aside0.mk (below_step q6_0 hb); have oA := Aside0.mk (hbox); have pA := Aside0.mk ((q6_11 : w.heap.size ≤ cA)); have rA := Aside0.mk ((q6_11 : w.heap.size ≤ cA)); clear HB; have HB := nA; have aA := oA; have DB := pA; have BB := rA; clear nA oA pA rA; clear hb hbox hg) | ((with_reducible refine gate_dst (N := 3) rfl ?_); refine box_event ?hg (N := 3) ?hd (cs := #[.int .i64 LA, .int .i64 mA, .int .i64 MA, .int .i64 NA, .int .i64 OA, .int .i64 PA, .int .i64 QA, .int .i64 RA, .int .i64 SA, .bool EA]) (t := 75) ?hr ?_; (case hd => rfl); (case hg => rfl); (case hr => first | (go_simp; done) | (go_simp; rfl)); intro dA hg PB hbox hb; have nA := Aside0.mk (blk_below (g := cA) (o := .cells #[.int .i64 sA, .int .i64 jA, .int .i64 tA, .int .i64 uA, .int .i64 vA, .int .i64 wA, .int .i64 xA, .int .i64 yA, .int .i64 zA, .bool qA] 75 (0, 0)) q6_2 hb); have oA := Aside0.mk (below_step q6_1 hb); have pA := Aside0.mk (hbox); have rA := Aside0.mk ((q6_16 : w.heap.size ≤ dA)); have wB := Aside0.mk ((q6_16 : w.heap.size ≤ dA)); have xB := Aside0.mk ((q6_4 : cA ≠ dA)); have yB := Aside0.mk ((q6_5 : dA ≠ cA)); clear aA HB; have aA := nA; have HB := oA; have bA := pA; have EB := rA; have CB := wB; have kA := xB; have lA := yB; clear nA oA pA rA wB xB yB; clear hb hbox hg; have FN := kA.out; have GN := lA.out; have eJ : PB.cell? ⟨cA, 0, none⟩ = some (.int .i64 sA) := (blk_cell aA.out 0).trans rfl; have fJ : PB.cell? ⟨cA, 1, none⟩ = some (.int .i64 jA) := (blk_cell aA.out 1).trans rfl; have gJ : PB.cell? ⟨cA, 2, none⟩ = some (.int .i64 tA) := (blk_cell aA.out 2).trans rfl; have hJ : PB.cell? ⟨cA, 3, none⟩ = some (.int .i64 uA) := (blk_cell aA.out 3).trans rfl; have iJ : PB.cell? ⟨cA, 4, none⟩ = some (.int .i64 vA) := (blk_cell aA.out 4).trans rfl; have jJ : PB.cell? ⟨cA, 5, none⟩ = some (.int .i64 wA) := (blk_cell aA.out 5).trans rfl; have kJ : PB.cell? ⟨cA, 6, none⟩ = some (.int .i64 xA) := (blk_cell aA.out 6).trans rfl; have lJ : PB.cell? ⟨cA, 7, none⟩ = some (.int .i64 yA) := (blk_cell aA.out 7).trans rfl; have mJ : PB.cell? ⟨cA, 8, none⟩ = some (.int .i64 zA) := (blk_cell aA.out 8).trans rfl; have nJ : PB.cell? ⟨cA, 9, none⟩ = some (.bool qA) := (blk_cell aA.out 9).trans rfl; have oJ := blk_frozen aA.out 0; have pJ := blk_frozen aA.out 1; have qJ := blk_frozen aA.out 2; have rJ := blk_frozen aA.out 3; have sJ := blk_frozen aA.out 4; have tJ := blk_frozen aA.out 5; have uJ := blk_frozen aA.out 6; have vJ := blk_frozen aA.out 7; have wJ := blk_frozen aA.out 8; have xJ := blk_frozen aA.out 9; have yJ : PB.cell? ⟨dA, 0, none⟩ = some (.int .i64 LA) := (blk_cell bA.out 0).trans rfl; have zJ : PB.cell? ⟨dA, 1, none⟩ = some (.int .i64 mA) := (blk_cell bA.out 1).trans rfl; have AJ : PB.cell? ⟨dA, 2, none⟩ = some (.int .i64 MA) := (blk_cell bA.out 2).trans rfl; have BJ : PB.cell? ⟨dA, 3, none⟩ = some (.int .i64 NA) := (blk_cell bA.out 3).trans rfl; have CJ : PB.cell? ⟨dA, 4, none⟩ = some (.int .i64 OA) := (blk_cell bA.out 4).trans rfl; have DJ : PB.cell? ⟨dA, 5, none⟩ = some (.int .i64 PA) := (blk_cell bA.out 5).trans rfl; have EJ : PB.cell? ⟨dA, 6, none⟩ = some (.int .i64 QA) := (blk_cell bA.out 6).trans rfl; have FJ : PB.cell? ⟨dA, 7, none⟩ = some (.int .i64 RA) := (blk_cell bA.out 7).trans rfl; have GJ : PB.cell? ⟨dA, 8, none⟩ = some (.int .i64 SA) := (blk_cell bA.out 8).trans rfl; have HJ : PB.cell? ⟨dA, 9, none⟩ = some (.bool EA) := (blk_cell bA.out 9).trans rfl; have IJ := blk_frozen bA.out 0; have JJ := blk_frozen bA.out 1; have KJ := blk_frozen bA.out 2; have LJ := blk_frozen bA.out 3; have MJ := blk_frozen bA.out 4; have NJ := blk_frozen bA.out 5; have OJ := blk_frozen bA.out 6; have PJ := blk_frozen bA.out 7; have QJ := blk_frozen bA.out 8; have RJ := blk_frozen bA.out 9))
    go_ret
    exact ⟨q6_9, q6_8⟩
  ·rw [if_neg c4] at H
   have OD : (jA == mA) = false := beq_eq_false_iff_ne.mpr c4
   have XM : (jA != mA) = true := bne_iff_ne.mpr c4
   obtain rfl := Option.some.inj H
   go_enter Try.func92, Try.ntmps92
   go_wp2_with (first | ((with_reducible refine gate_dst (N := 2) rfl ?_); refine box_event ?hg (N := 2) ?hd (cs := #[.int .i64 sA, .int .i64 jA, .int .i64 tA, .int .i64 uA, .int .i64 vA, .int .i64 wA, .int .i64 xA, .int .i64 yA, .int .i64 zA, .bool qA]) (t := 75) ?hr ?_; (case hd => rfl); (case hg => rfl); (case hr => first | (go_simp; done) | (go_simp; rfl)); intro cA hg bO hbox hb; have nA := Aside0.mk (below_step q6_0 hb); have oA := Aside0.mk (hbox); have pA := Aside0.mk ((q6_11 : w.heap.size ≤ cA)); have rA := Aside0.mk ((q6_11 : w.heap.size ≤ cA)); clear HB; have HB := nA; have aA := oA; have DB := pA; have BB := rA; clear nA oA pA rA; clear hb hbox hg) | ((with_reducible refine gate_dst (N := 3) rfl ?_); refine box_event ?hg (N := 3) ?hd (cs := #[.int .i64 LA, .int .i64 mA, .int .i64 MA, .int .i64 NA, .int .i64 OA, .int .i64 PA, .int .i64 QA, .int .i64 RA, .int .i64 SA, .bool EA]) (t := 75) ?hr ?_; (case hd => rfl); (case hg => rfl); (case hr => first | (go_simp; done) | (go_simp; rfl)); intro dA hg QB hbox hb; have nA := Aside0.mk (blk_below (g := cA) (o := .cells #[.int .i64 sA, .int .i64 jA, .int .i64 tA, .int .i64 uA, .int .i64 vA, .int .i64 wA, .int .i64 xA, .int .i64 yA, .int .i64 zA, .bool qA] 75 (0, 0)) q6_2 hb); have oA := Aside0.mk (below_step q6_1 hb); have pA := Aside0.mk (hbox); have rA := Aside0.mk ((q6_16 : w.heap.size ≤ dA)); have wB := Aside0.mk ((q6_16 : w.heap.size ≤ dA)); have xB := Aside0.mk ((q6_4 : cA ≠ dA)); have yB := Aside0.mk ((q6_5 : dA ≠ cA)); clear aA HB; have aA := nA; have HB := oA; have bA := pA; have EB := rA; have CB := wB; have kA := xB; have lA := yB; clear nA oA pA rA wB xB yB; clear hb hbox hg; have HN := kA.out; have IN := lA.out; have SJ : QB.cell? ⟨cA, 0, none⟩ = some (.int .i64 sA) := (blk_cell aA.out 0).trans rfl; have TJ : QB.cell? ⟨cA, 1, none⟩ = some (.int .i64 jA) := (blk_cell aA.out 1).trans rfl; have UJ : QB.cell? ⟨cA, 2, none⟩ = some (.int .i64 tA) := (blk_cell aA.out 2).trans rfl; have VJ : QB.cell? ⟨cA, 3, none⟩ = some (.int .i64 uA) := (blk_cell aA.out 3).trans rfl; have WJ : QB.cell? ⟨cA, 4, none⟩ = some (.int .i64 vA) := (blk_cell aA.out 4).trans rfl; have XJ : QB.cell? ⟨cA, 5, none⟩ = some (.int .i64 wA) := (blk_cell aA.out 5).trans rfl; have YJ : QB.cell? ⟨cA, 6, none⟩ = some (.int .i64 xA) := (blk_cell aA.out 6).trans rfl; have ZJ : QB.cell? ⟨cA, 7, none⟩ = some (.int .i64 yA) := (blk_cell aA.out 7).trans rfl; have aK : QB.cell? ⟨cA, 8, none⟩ = some (.int .i64 zA) := (blk_cell aA.out 8).trans rfl; have bK : QB.cell? ⟨cA, 9, none⟩ = some (.bool qA) := (blk_cell aA.out 9).trans rfl; have cK := blk_frozen aA.out 0; have dK := blk_frozen aA.out 1; have eK := blk_frozen aA.out 2; have fK := blk_frozen aA.out 3; have gK := blk_frozen aA.out 4; have iK := blk_frozen aA.out 5; have jK := blk_frozen aA.out 6; have kK := blk_frozen aA.out 7; have lK := blk_frozen aA.out 8; have mK := blk_frozen aA.out 9; have nK : QB.cell? ⟨dA, 0, none⟩ = some (.int .i64 LA) := (blk_cell bA.out 0).trans rfl; have oK : QB.cell? ⟨dA, 1, none⟩ = some (.int .i64 mA) := (blk_cell bA.out 1).trans rfl; have pK : QB.cell? ⟨dA, 2, none⟩ = some (.int .i64 MA) := (blk_cell bA.out 2).trans rfl; have qK : QB.cell? ⟨dA, 3, none⟩ = some (.int .i64 NA) := (blk_cell bA.out 3).trans rfl; have rK : QB.cell? ⟨dA, 4, none⟩ = some (.int .i64 OA) := (blk_cell bA.out 4).trans rfl; have sK : QB.cell? ⟨dA, 5, none⟩ = some (.int .i64 PA) := (blk_cell bA.out 5).trans rfl; have tK : QB.cell? ⟨dA, 6, none⟩ = some (.int .i64 QA) := (blk_cell bA.out 6).trans rfl; have uK : QB.cell? ⟨dA, 7, none⟩ = some (.int .i64 RA) := (blk_cell bA.out 7).trans rfl; have vK : QB.cell? ⟨dA, 8, none⟩ = some (.int .i64 SA) := (blk_cell bA.out 8).trans rfl; have wK : QB.cell? ⟨dA, 9, none⟩ = some (.bool EA) := (blk_cell bA.out 9).trans rfl; have xK := blk_frozen bA.out 0; have yK := blk_frozen bA.out 1; have zK := blk_frozen bA.out 2; have AK := blk_frozen bA.out 3; have BK := blk_frozen bA.out 4; have CK := blk_frozen bA.out 5; have DK := blk_frozen bA.out 6; have EK := blk_frozen bA.out 7; have FK := blk_frozen bA.out 8; have GK := blk_frozen bA.out 9))
   go_ret
   exact ⟨q6_9, q6_8⟩
 ·rw [if_neg c3] at H
  have cC : (sA == LA) = false := beq_eq_false_iff_ne.mpr c3
  have dC : (sA != LA) = true := bne_iff_ne.mpr c3
  obtain rfl := Option.some.inj H
  go_enter Try.func92, Try.ntmps92
  go_wp2_with (first | ((with_reducible refine gate_dst (N := 2) rfl ?_); refine box_event ?hg (N := 2) ?hd (cs := #[.int .i64 sA, .int .i64 jA, .int .i64 tA, .int .i64 uA, .int .i64 vA, .int .i64 wA, .int .i64 xA, .int .i64 yA, .int .i64 zA, .bool qA]) (t := 75) ?hr ?_; (case hd => rfl); (case hg => rfl); (case hr => first | (go_simp; done) | (go_simp; rfl)); intro cA hg cO hbox hb; have nA := Aside0.mk (below_step q6_0 hb); have oA := Aside0.mk (hbox); have pA := Aside0.mk ((q6_11 : w.heap.size ≤ cA)); have rA := Aside0.mk ((q6_11 : w.heap.size ≤ cA)); clear HB; have HB := nA; have aA := oA; have DB := pA; have BB := rA; clear nA oA pA rA; clear hb hbox hg) | ((with_reducible refine gate_dst (N := 3) rfl ?_); refine box_event ?hg (N := 3) ?hd (cs := #[.int .i64 LA, .int .i64 mA, .int .i64 MA, .int .i64 NA, .int .i64 OA, .int .i64 PA, .int .i64 QA, .int .i64 RA, .int .i64 SA, .bool EA]) (t := 75) ?hr ?_; (case hd => rfl); (case hg => rfl); (case hr => first | (go_simp; done) | (go_simp; rfl)); intro dA hg RB hbox hb; have nA := Aside0.mk (blk_below (g := cA) (o := .cells #[.int .i64 sA, .int .i64 jA, .int .i64 tA, .int .i64 uA, .int .i64 vA, .int .i64 wA, .int .i64 xA, .int .i64 yA, .int .i64 zA, .bool qA] 75 (0, 0)) q6_2 hb); have oA := Aside0.mk (below_step q6_1 hb); have pA := Aside0.mk (hbox); have rA := Aside0.mk ((q6_16 : w.heap.size ≤ dA)); have wB := Aside0.mk ((q6_16 : w.heap.size ≤ dA)); have xB := Aside0.mk ((q6_4 : cA ≠ dA)); have yB := Aside0.mk ((q6_5 : dA ≠ cA)); clear aA HB; have aA := nA; have HB := oA; have bA := pA; have EB := rA; have CB := wB; have kA := xB; have lA := yB; clear nA oA pA rA wB xB yB; clear hb hbox hg; have JN := kA.out; have KN := lA.out; have HK : RB.cell? ⟨cA, 0, none⟩ = some (.int .i64 sA) := (blk_cell aA.out 0).trans rfl; have IK : RB.cell? ⟨cA, 1, none⟩ = some (.int .i64 jA) := (blk_cell aA.out 1).trans rfl; have JK : RB.cell? ⟨cA, 2, none⟩ = some (.int .i64 tA) := (blk_cell aA.out 2).trans rfl; have KK : RB.cell? ⟨cA, 3, none⟩ = some (.int .i64 uA) := (blk_cell aA.out 3).trans rfl; have LK : RB.cell? ⟨cA, 4, none⟩ = some (.int .i64 vA) := (blk_cell aA.out 4).trans rfl; have MK : RB.cell? ⟨cA, 5, none⟩ = some (.int .i64 wA) := (blk_cell aA.out 5).trans rfl; have NK : RB.cell? ⟨cA, 6, none⟩ = some (.int .i64 xA) := (blk_cell aA.out 6).trans rfl; have OK : RB.cell? ⟨cA, 7, none⟩ = some (.int .i64 yA) := (blk_cell aA.out 7).trans rfl; have PK : RB.cell? ⟨cA, 8, none⟩ = some (.int .i64 zA) := (blk_cell aA.out 8).trans rfl; have QK : RB.cell? ⟨cA, 9, none⟩ = some (.bool qA) := (blk_cell aA.out 9).trans rfl; have RK := blk_frozen aA.out 0; have SK := blk_frozen aA.out 1; have TK := blk_frozen aA.out 2; have UK := blk_frozen aA.out 3; have VK := blk_frozen aA.out 4; have WK := blk_frozen aA.out 5; have XK := blk_frozen aA.out 6; have YK := blk_frozen aA.out 7; have ZK := blk_frozen aA.out 8; have aL := blk_frozen aA.out 9; have bL : RB.cell? ⟨dA, 0, none⟩ = some (.int .i64 LA) := (blk_cell bA.out 0).trans rfl; have cL : RB.cell? ⟨dA, 1, none⟩ = some (.int .i64 mA) := (blk_cell bA.out 1).trans rfl; have dL : RB.cell? ⟨dA, 2, none⟩ = some (.int .i64 MA) := (blk_cell bA.out 2).trans rfl; have eL : RB.cell? ⟨dA, 3, none⟩ = some (.int .i64 NA) := (blk_cell bA.out 3).trans rfl; have fL : RB.cell? ⟨dA, 4, none⟩ = some (.int .i64 OA) := (blk_cell bA.out 4).trans rfl; have gL : RB.cell? ⟨dA, 5, none⟩ = some (.int .i64 PA) := (blk_cell bA.out 5).trans rfl; have hL : RB.cell? ⟨dA, 6, none⟩ = some (.int .i64 QA) := (blk_cell bA.out 6).trans rfl; have iL : RB.cell? ⟨dA, 7, none⟩ = some (.int .i64 RA) := (blk_cell bA.out 7).trans rfl; have jL : RB.cell? ⟨dA, 8, none⟩ = some (.int .i64 SA) := (blk_cell bA.out 8).trans rfl; have kL : RB.cell? ⟨dA, 9, none⟩ = some (.bool EA) := (blk_cell bA.out 9).trans rfl; have lL := blk_frozen bA.out 0; have mL := blk_frozen bA.out 1; have nL := blk_frozen bA.out 2; have oL := blk_frozen bA.out 3; have pL := blk_frozen bA.out 4; have qL := blk_frozen bA.out 5; have rL := blk_frozen bA.out 6; have sL := blk_frozen bA.out 7; have tL := blk_frozen bA.out 8; have uL := blk_frozen bA.out 9))
  go_ret
  exact ⟨q6_9, q6_8⟩

/-! ### laws_eqCallS: function 67 -/
def laws_eqCallS.l0 : Nat → List (S75) → List (S75) → Int → Option (Bool)
 | 0, _, _, _ => none
 | k + 1, x0, x1, x5 => if x5 < (x0.length : Int) then (if 0 ≤ x5 then (if x5 < (x1.length : Int) then ((laws_eqCall.f ((rd_T75 x0 x5).f0) ((rd_T75 x0 x5).f1) ((rd_T75 x0 x5).f2) ((rd_T75 x0 x5).f3) ((rd_T75 x0 x5).f4) ((rd_T75 x0 x5).f5) ((rd_T75 x0 x5).f6) ((rd_T75 x0 x5).f7) ((rd_T75 x0 x5).f8) ((rd_T75 x0 x5).f9) ((rd_T75 x1 x5).f0) ((rd_T75 x1 x5).f1) ((rd_T75 x1 x5).f2) ((rd_T75 x1 x5).f3) ((rd_T75 x1 x5).f4) ((rd_T75 x1 x5).f5) ((rd_T75 x1 x5).f6) ((rd_T75 x1 x5).f7) ((rd_T75 x1 x5).f8) ((rd_T75 x1 x5).f9)).bind fun QD => (if QD = true then (laws_eqCallS.l0 k x0 x1 (wrap64 (x5 + 1))) else (some false))) else (none)) else (none)) else (some true)
def laws_eqCallS.f (k : Nat) (l0 : List (S75)) (l1 : List (S75)) : Option (Bool) := if (l0.length : Int) = (l1.length : Int) then (laws_eqCallS.l0 k l0 l1 0) else (some false)
theorem laws_eqCallS.mono_l : ∀ k, (∀ y0 y1 y2, LeO (laws_eqCallS.l0 k y0 y1 y2) (laws_eqCallS.l0 (k + 1) y0 y1 y2))
 | 0 => fun _ _ _ r h => by simp [laws_eqCallS.l0] at h
 | k + 1 => by
  have ih0 := laws_eqCallS.mono_l k
  ·intro y0 y1 y2
   unfold laws_eqCallS.l0
   repeat' first
   | (with_reducible exact ih0 _ _ _)
   | (with_reducible exact LeO.refl _)
   | (with_reducible exact LeO.none _)
   | (with_reducible refine LeO.ite ?_ ?_)
   | (with_reducible refine LeO.bind ?_ (fun _ => ?_))
   | exact ih0 _ _ _
   | exact LeO.none _
   | refine LeO.ite ?_ ?_
   | refine LeO.bind ?_ (fun _ => ?_)
theorem laws_eqCallS.mono : ∀ a0 a1 k, LeO (laws_eqCallS.f k a0 a1) (laws_eqCallS.f (k + 1) a0 a1) := by
 intro a0 a1 k
 have ih0 := laws_eqCallS.mono_l k
 unfold laws_eqCallS.f
 repeat' first
   | (with_reducible exact ih0 _ _ _)
   | (with_reducible exact LeO.refl _)
   | (with_reducible exact LeO.none _)
   | (with_reducible refine LeO.ite ?_ ?_)
   | (with_reducible refine LeO.bind ?_ (fun _ => ?_))
   | exact ih0 _ _ _
   | exact LeO.none _
   | refine LeO.ite ?_ ?_
   | refine LeO.bind ?_ (fun _ => ?_)
def laws_eqCallS.T6 : Bool × List (List Nat × List Nat) := (true, [([], []), ([], []), ([0, 1], [0, 1]), ([2], [2]), ([], []), ([], []), ([4, 5], [4, 5]), ([6], [6]), ([3, 7], [3, 7]), ([8], [8])])
def laws_eqCallS.B6 : List Nat := [0, 0, 3, 7, 0, 0, 48, 112, 255, 511]
theorem laws_eqCallS.tab6 : rtab .any (opsOf Try.f67 6) = laws_eqCallS.T6 := by kernel_rfl
theorem laws_eqCallS.bits6 : waitsOk laws_eqCallS.T6.2 laws_eqCallS.B6 = true := by kernel_rfl
set_option maxHeartbeats 8000000 in
set_option maxRecDepth 100000 in
theorem laws_eqCallS.calls (k : Nat) (A0 : Option Addr) (c0 : Nat) (l0 : List (S75)) (A1 : Option Addr) (c1 : Nat) (l1 : List (S75)) (r : Bool) (w : World) (hr0 : Kd.C k75 w A0 l0.length l0) (hc0 : l0.length ≤ c0) (hr1 : Kd.C k75 w A1 l1.length l1) (hc1 : l1.length ≤ c1) (h : laws_eqCallS.f k l0 l1 = some r) :
  Calls Try.prog 67 #[.slice A0 l0.length c0, .slice A1 l1.length c1] w fun e w' => e = .returned (.bool r) ∧ Below w.heap.size w w' := by
 have hu75 := Try.underlying75
 have HR0 := Aside0.mk hr0
 clear hr0 hc0
 have HR1 := Aside0.mk hr1
 clear hr1 hc1
 have HB := Aside0.mk (Below.refl w.heap.size w)
 have H : (if (l0.length : Int) = (l1.length : Int) then (laws_eqCallS.l0 k l0 l1 0) else (some false)) = some r := h
 clear h
 by_cases c3 : (l0.length : Int) = (l1.length : Int)
 ·rw [if_pos c3] at H
  have cC : ((l0.length : Int) == (l1.length : Int)) = true := beq_iff_eq.mpr c3
  have dC : ((l0.length : Int) != (l1.length : Int)) = false := bne_eq_false_iff_eq.mpr c3
  have hE : (l0.length == l1.length) = true := by first | simpa using c3 | (simp at c3 ⊢; omega)
  clear c3
  have H' := Aside0.mk H
  clear H
  go_enter Try.func67, Try.ntmps67
  go_wp2
  go_loopg [5] k (fun kq v5 w' => ∃ (eA : Int), v5 = .int .i64 eA ∧ Aside0 (laws_eqCallS.l0 kq l0 l1 eA = some r) ∧ Aside0 (kq ≤ k) ∧ Aside0 (Below w.heap.size w w'))
  case atStart => exact ⟨(0), (by first | rfl | (simp; done) | (simp [*]; done)), H', ⟨Nat.le_refl _⟩, ⟨q6_0⟩⟩
  case round =>
   clear H'
   (try clear c1); (try clear p2); (try clear c3); (try clear cC); (try clear dC); (try clear hE)
   obtain ⟨eA, rfl, HA, HK1, HB⟩ := hrel
   cases gk with
   | zero => exact absurd HA.out (by simp [laws_eqCallS.l0])
   | succ k1 =>
    have H := HA.out
    clear HA
    simp only [laws_eqCallS.l0] at H
    by_cases c4 : eA < (l0.length : Int)
    ·rw [if_pos c4] at H
     have OD : decide (eA < (l0.length : Int)) = true := decide_eq_true c4
     clear c4
     by_cases c5 : 0 ≤ eA
     ·rw [if_pos c5] at H
      have eC : decide (0 ≤ eA) = true := decide_eq_true c5
      clear c5
      by_cases c6 : eA < (l1.length : Int)
      ·rw [if_pos c6] at H
       have XD : decide (eA < (l1.length : Int)) = true := decide_eq_true c6
       clear c6
       replace H := Option.bind_eq_some_iff.mp H
       obtain ⟨QD, A70, H⟩ := H
       (try dsimp only at H)
       have A7 := Aside0.mk A70
       clear A70
       by_cases c8 : QD = true
       ·subst c8
        rw [if_pos rfl] at H
        have H' := Aside0.mk H
        clear H
        try go_wp2
        have nA := Aside0.mk (below_drew1 HB.out)
        clear HB
        have HB := nA
        clear nA
        have p372 : 0 ≤ (eA : Int) := of_decide_eq_true q6_20
        have q372 : eA < (l0.length : Int) := of_decide_eq_true q6_20
        obtain ⟨ad372, RD, YA, ZA, aB, bB, cB, dB, eB, fB, gB, hB⟩ := at_T75 HR0.out eA p372 q372
        have hw372_9 := hB
        have hw372_8 := gB
        have hw372_7 := fB
        have hw372_6 := eB
        have hw372_5 := dB
        have hw372_4 := cB
        have hw372_3 := bB
        have hw372_2 := aB
        have hw372_1 := ZA
        have hw372_0 := YA
        cases RD
        replace YA := (HB.out.cell (World.block_lt_of_cell? w _ YA)).trans YA
        replace ZA := (HB.out.cell (World.block_lt_of_cell? w _ ZA)).trans ZA
        replace aB := (HB.out.cell (World.block_lt_of_cell? w _ aB)).trans aB
        replace bB := (HB.out.cell (World.block_lt_of_cell? w _ bB)).trans bB
        replace cB := (HB.out.cell (World.block_lt_of_cell? w _ cB)).trans cB
        replace dB := (HB.out.cell (World.block_lt_of_cell? w _ dB)).trans dB
        replace eB := (HB.out.cell (World.block_lt_of_cell? w _ eB)).trans eB
        replace fB := (HB.out.cell (World.block_lt_of_cell? w _ fB)).trans fB
        replace gB := (HB.out.cell (World.block_lt_of_cell? w _ gB)).trans gB
        replace hB := (HB.out.cell (World.block_lt_of_cell? w _ hB)).trans hB
        replace p372 := eq_true p372
        replace q372 := eq_true q372
        have p373 : 0 ≤ (eA : Int) := of_decide_eq_true q6_20
        have q373 : eA < (l1.length : Int) := of_decide_eq_true q6_20
        obtain ⟨ad373, SD, iB, jB, kB, lB, mB, nB, oB, pB, qB, rB⟩ := at_T75 HR1.out eA p373 q373
        have hw373_9 := rB
        have hw373_8 := qB
        have hw373_7 := pB
        have hw373_6 := oB
        have hw373_5 := nB
        have hw373_4 := mB
        have hw373_3 := lB
        have hw373_2 := kB
        have hw373_1 := jB
        have hw373_0 := iB
        cases SD
        replace iB := (HB.out.cell (World.block_lt_of_cell? w _ iB)).trans iB
        replace jB := (HB.out.cell (World.block_lt_of_cell? w _ jB)).trans jB
        replace kB := (HB.out.cell (World.block_lt_of_cell? w _ kB)).trans kB
        replace lB := (HB.out.cell (World.block_lt_of_cell? w _ lB)).trans lB
        replace mB := (HB.out.cell (World.block_lt_of_cell? w _ mB)).trans mB
        replace nB := (HB.out.cell (World.block_lt_of_cell? w _ nB)).trans nB
        replace oB := (HB.out.cell (World.block_lt_of_cell? w _ oB)).trans oB
        replace pB := (HB.out.cell (World.block_lt_of_cell? w _ pB)).trans pB
        replace qB := (HB.out.cell (World.block_lt_of_cell? w _ qB)).trans qB
        replace rB := (HB.out.cell (World.block_lt_of_cell? w _ rB)).trans rB
        replace p373 := eq_true p373
        replace q373 := eq_true q373
        refine start_ (n := 10) (S := fun w' => w'.cell? (ad372.add ((eA).toNat * 10)) = some (.int .i64 ((rd_T75 l0 eA).f0)) ∧ w'.cell? ⟨(ad372.add ((eA).toNat * 10)).block, (ad372.add ((eA).toNat * 10)).off + 1, none⟩ = some (.int .i64 ((rd_T75 l0 eA).f1)) ∧ w'.cell? ⟨(ad372.add ((eA).toNat * 10)).block, (ad372.add ((eA).toNat * 10)).off + 2, none⟩ = some (.int .i64 ((rd_T75 l0 eA).f2)) ∧ w'.cell? ⟨(ad372.add ((eA).toNat * 10)).block, (ad372.add ((eA).toNat * 10)).off + 3, none⟩ = some (.int .i64 ((rd_T75 l0 eA).f3)) ∧ w'.cell? ⟨(ad372.add ((eA).toNat * 10)).block, (ad372.add ((eA).toNat * 10)).off + 4, none⟩ = some (.int .i64 ((rd_T75 l0 eA).f4)) ∧ w'.cell? ⟨(ad372.add ((eA).toNat * 10)).block, (ad372.add ((eA).toNat * 10)).off + 5, none⟩ = some (.int .i64 ((rd_T75 l0 eA).f5)) ∧ w'.cell? ⟨(ad372.add ((eA).toNat * 10)).block, (ad372.add ((eA).toNat * 10)).off + 6, none⟩ = some (.int .i64 ((rd_T75 l0 eA).f6)) ∧ w'.cell? ⟨(ad372.add ((eA).toNat * 10)).block, (ad372.add ((eA).toNat * 10)).off + 7, none⟩ = some (.int .i64 ((rd_T75 l0 eA).f7)) ∧ w'.cell? ⟨(ad372.add ((eA).toNat * 10)).block, (ad372.add ((eA).toNat * 10)).off + 8, none⟩ = some (.int .i64 ((rd_T75 l0 eA).f8)) ∧ w'.cell? ⟨(ad372.add ((eA).toNat * 10)).block, (ad372.add ((eA).toNat * 10)).off + 9, none⟩ = some (.bool ((rd_T75 l0 eA).f9)) ∧ w'.cell? (ad373.add ((eA).toNat * 10)) = some (.int .i64 ((rd_T75 l1 eA).f0)) ∧ w'.cell? ⟨(ad373.add ((eA).toNat * 10)).block, (ad373.add ((eA).toNat * 10)).off + 1, none⟩ = some (.int .i64 ((rd_T75 l1 eA).f1)) ∧ w'.cell? ⟨(ad373.add ((eA).toNat * 10)).block, (ad373.add ((eA).toNat * 10)).off + 2, none⟩ = some (.int .i64 ((rd_T75 l1 eA).f2)) ∧ w'.cell? ⟨(ad373.add ((eA).toNat * 10)).block, (ad373.add ((eA).toNat * 10)).off + 3, none⟩ = some (.int .i64 ((rd_T75 l1 eA).f3)) ∧ w'.cell? ⟨(ad373.add ((eA).toNat * 10)).block, (ad373.add ((eA).toNat * 10)).off + 4, none⟩ = some (.int .i64 ((rd_T75 l1 eA).f4)) ∧ w'.cell? ⟨(ad373.add ((eA).toNat * 10)).block, (ad373.add ((eA).toNat * 10)).off + 5, none⟩ = some (.int .i64 ((rd_T75 l1 eA).f5)) ∧ w'.cell? ⟨(ad373.add ((eA).toNat * 10)).block, (ad373.add ((eA).toNat * 10)).off + 6, none⟩ = some (.int .i64 ((rd_T75 l1 eA).f6)) ∧ w'.cell? ⟨(ad373.add ((eA).toNat * 10)).block, (ad373.add ((eA).toNat * 10)).off + 7, none⟩ = some (.int .i64 ((rd_T75 l1 eA).f7)) ∧ w'.cell? ⟨(ad373.add ((eA).toNat * 10)).block, (ad373.add ((eA).toNat * 10)).off + 8, none⟩ = some (.int .i64 ((rd_T75 l1 eA).f8)) ∧ w'.cell? ⟨(ad373.add ((eA).toNat * 10)).block, (ad373.add ((eA).toNat * 10)).off + 9, none⟩ = some (.bool ((rd_T75 l1 eA).f9))) (ds := []) #[F,F,F,F,F,F,F,F,F,F] (by kernel_rfl) rfl rfl ⟨((HB.out.cell (World.block_lt_of_cell? w _ hw372_0)).trans hw372_0), ((HB.out.cell (World.block_lt_of_cell? w _ hw372_1)).trans hw372_1), ((HB.out.cell (World.block_lt_of_cell? w _ hw372_2)).trans hw372_2), ((HB.out.cell (World.block_lt_of_cell? w _ hw372_3)).trans hw372_3), ((HB.out.cell (World.block_lt_of_cell? w _ hw372_4)).trans hw372_4), ((HB.out.cell (World.block_lt_of_cell? w _ hw372_5)).trans hw372_5), ((HB.out.cell (World.block_lt_of_cell? w _ hw372_6)).trans hw372_6), ((HB.out.cell (World.block_lt_of_cell? w _ hw372_7)).trans hw372_7), ((HB.out.cell (World.block_lt_of_cell? w _ hw372_8)).trans hw372_8), ((HB.out.cell (World.block_lt_of_cell? w _ hw372_9)).trans hw372_9), ((HB.out.cell (World.block_lt_of_cell? w _ hw373_0)).trans hw373_0), ((HB.out.cell (World.block_lt_of_cell? w _ hw373_1)).trans hw373_1), ((HB.out.cell (World.block_lt_of_cell? w _ hw373_2)).trans hw373_2), ((HB.out.cell (World.block_lt_of_cell? w _ hw373_3)).trans hw373_3), ((HB.out.cell (World.block_lt_of_cell? w _ hw373_4)).trans hw373_4), ((HB.out.cell (World.block_lt_of_cell? w _ hw373_5)).trans hw373_5), ((HB.out.cell (World.block_lt_of_cell? w _ hw373_6)).trans hw373_6), ((HB.out.cell (World.block_lt_of_cell? w _ hw373_7)).trans hw373_7), ((HB.out.cell (World.block_lt_of_cell? w _ hw373_8)).trans hw373_8), ((HB.out.cell (World.block_lt_of_cell? w _ hw373_9)).trans hw373_9)⟩ (fun hHeld => ?_); refine with_tabW laws_eqCallS.tab6 laws_eqCallS.bits6 (fun HT_ HW_ => ?_)
        generalize wr.drew = w9 at HB YA ZA aB bB cB dB eB fB gB hB iB jB kB lB mB nB oB pB qB rB hHeld ⊢
        refine q6_p 0 17 #[T,F,F,F,F,F,F,F,F,F] ?_
        refine q6_p 1 18 #[T,T,F,F,F,F,F,F,F,F] ?_
        refine q6_p 2 19 #[T,T,T,F,F,F,F,F,F,F] ?_
        refine q6_p 4 21 #[T,T,T,F,T,F,F,F,F,F] ?_
        refine q6_p 5 22 #[T,T,T,F,T,T,F,F,F,F] ?_
        refine q6_p 6 23 #[T,T,T,F,T,T,T,F,F,F] ?_
        refine take_ (i := 3) (N := some 20) (v := ?_) (a' := ?_) #[T,T,T,T,T,T,T,F,F,F] rfl rfl (take_ofW HT_.out HW_.out (by kernel_rfl)) (fun _ _ _ h => h) (Or.inl ⟨by rfl, ?_⟩) hHeld ?_ ?_
        rotate_left
        ·rintro w' ⟨s0, s1, s2, s3, s4, s5, s6, s7, s8, s9, fN, gN, iN, jN, kN, lN, mN, nN, oN, pN⟩
         go_simp
         with_reducible rfl
        rotate_left
        ·simp only [Act.put, List.setIfInBounds_toArray, List.set_cons_zero, List.set_cons_succ, i64_w, i32_w]
         rfl
        refine take_ (i := 7) (N := some 24) (v := ?_) (a' := ?_) #[T,T,T,T,T,T,T,T,F,F] rfl rfl (take_ofW HT_.out HW_.out (by kernel_rfl)) (fun _ _ _ h => h) (Or.inl ⟨by rfl, ?_⟩) hHeld ?_ ?_
        rotate_left
        ·rintro w' ⟨s0, s1, s2, s3, s4, s5, s6, s7, s8, s9, fN, gN, iN, jN, kN, lN, mN, nN, oN, pN⟩
         go_simp
         with_reducible rfl
        rotate_left
        ·simp only [Act.put, List.setIfInBounds_toArray, List.set_cons_zero, List.set_cons_succ, i64_w, i32_w]
         rfl
        refine one_ (i := 8) (N := some 25) #[T,T,T,T,T,T,T,T,T,F] rfl rfl (one_of HT_.out (by kernel_rfl)) (by decide) (fun K hK => ?_)
        refine goes_ Try.func92 (by kernel_rfl) rfl #[.agg #[.int .i64 ((rd_T75 l0 eA).f0), .int .i64 ((rd_T75 l0 eA).f1), .int .i64 ((rd_T75 l0 eA).f2), .int .i64 ((rd_T75 l0 eA).f3), .int .i64 ((rd_T75 l0 eA).f4), .int .i64 ((rd_T75 l0 eA).f5), .int .i64 ((rd_T75 l0 eA).f6), .int .i64 ((rd_T75 l0 eA).f7), .int .i64 ((rd_T75 l0 eA).f8), .bool ((rd_T75 l0 eA).f9)], .agg #[.int .i64 ((rd_T75 l1 eA).f0), .int .i64 ((rd_T75 l1 eA).f1), .int .i64 ((rd_T75 l1 eA).f2), .int .i64 ((rd_T75 l1 eA).f3), .int .i64 ((rd_T75 l1 eA).f4), .int .i64 ((rd_T75 l1 eA).f5), .int .i64 ((rd_T75 l1 eA).f6), .int .i64 ((rd_T75 l1 eA).f7), .int .i64 ((rd_T75 l1 eA).f8), .bool ((rd_T75 l1 eA).f9)]] (by rfl) rfl rfl q6_10 ?_
        with_reducible refine (laws_eqCall.calls ((rd_T75 l0 eA).f0) ((rd_T75 l0 eA).f1) ((rd_T75 l0 eA).f2) ((rd_T75 l0 eA).f3) ((rd_T75 l0 eA).f4) ((rd_T75 l0 eA).f5) ((rd_T75 l0 eA).f6) ((rd_T75 l0 eA).f7) ((rd_T75 l0 eA).f8) ((rd_T75 l0 eA).f9) ((rd_T75 l1 eA).f0) ((rd_T75 l1 eA).f1) ((rd_T75 l1 eA).f2) ((rd_T75 l1 eA).f3) ((rd_T75 l1 eA).f4) ((rd_T75 l1 eA).f5) ((rd_T75 l1 eA).f6) ((rd_T75 l1 eA).f7) ((rd_T75 l1 eA).f8) ((rd_T75 l1 eA).f9) true _ A7.out).mono ?_
        rintro e UN ⟨rfl, hb⟩
        refine ⟨_, rfl, ?_⟩
        have nA := Aside0.mk (below_step q6_0 hb)
        clear HB
        have HB := nA
        clear nA
        (try clear hb)
        (try clear hb2)
        (try clear hk)
        (try clear hi)
        refine hK.out _ _ ⟨((HB.out.cell (World.block_lt_of_cell? w _ hw372_0)).trans hw372_0), ((HB.out.cell (World.block_lt_of_cell? w _ hw372_1)).trans hw372_1), ((HB.out.cell (World.block_lt_of_cell? w _ hw372_2)).trans hw372_2), ((HB.out.cell (World.block_lt_of_cell? w _ hw372_3)).trans hw372_3), ((HB.out.cell (World.block_lt_of_cell? w _ hw372_4)).trans hw372_4), ((HB.out.cell (World.block_lt_of_cell? w _ hw372_5)).trans hw372_5), ((HB.out.cell (World.block_lt_of_cell? w _ hw372_6)).trans hw372_6), ((HB.out.cell (World.block_lt_of_cell? w _ hw372_7)).trans hw372_7), ((HB.out.cell (World.block_lt_of_cell? w _ hw372_8)).trans hw372_8), ((HB.out.cell (World.block_lt_of_cell? w _ hw372_9)).trans hw372_9), ((HB.out.cell (World.block_lt_of_cell? w _ hw373_0)).trans hw373_0), ((HB.out.cell (World.block_lt_of_cell? w _ hw373_1)).trans hw373_1), ((HB.out.cell (World.block_lt_of_cell? w _ hw373_2)).trans hw373_2), ((HB.out.cell (World.block_lt_of_cell? w _ hw373_3)).trans hw373_3), ((HB.out.cell (World.block_lt_of_cell? w _ hw373_4)).trans hw373_4), ((HB.out.cell (World.block_lt_of_cell? w _ hw373_5)).trans hw373_5), ((HB.out.cell (World.block_lt_of_cell? w _ hw373_6)).trans hw373_6), ((HB.out.cell (World.block_lt_of_cell? w _ hw373_7)).trans hw373_7), ((HB.out.cell (World.block_lt_of_cell? w _ hw373_8)).trans hw373_8), ((HB.out.cell (World.block_lt_of_cell? w _ hw373_9)).trans hw373_9)⟩ (fun hHeld => ?_)
        clear hK K
        refine norm_ (a' := ?_) ?_ ?_
        rotate_left
        ·show Act.put _ (some 25) _ = _
         simp only [Act.put, List.setIfInBounds_toArray, List.set_cons_zero, List.set_cons_succ, i64_w, i32_w]
         rfl
        refine q6_p 9 26 #[T,T,T,T,T,T,T,T,T,T] ?_
        refine done_ (done_of HT_.out (by kernel_rfl)) ?_
        try go_wp2
        go_roundg k1
        case measure => have := HK1.out; omega
        case rel => exact ⟨(wrap64 (eA + 1)), (by first | rfl | (simp; done) | (simp [*]; done)), H', ⟨by have := HK1.out; omega⟩, ⟨q6_0⟩⟩
       ·replace c8 := Bool.eq_false_iff.mpr c8
        subst c8
        rw [if_neg (show ¬ (false = true) by decide)] at H
        obtain rfl := Option.some.inj H
        try go_wp2
        have nA := Aside0.mk (below_drew1 HB.out)
        clear HB
        have HB := nA
        clear nA
        have p372 : 0 ≤ (eA : Int) := of_decide_eq_true q6_20
        have q372 : eA < (l0.length : Int) := of_decide_eq_true q6_20
        obtain ⟨ad372, RD, YA, ZA, aB, bB, cB, dB, eB, fB, gB, hB⟩ := at_T75 HR0.out eA p372 q372
        have hw372_9 := hB
        have hw372_8 := gB
        have hw372_7 := fB
        have hw372_6 := eB
        have hw372_5 := dB
        have hw372_4 := cB
        have hw372_3 := bB
        have hw372_2 := aB
        have hw372_1 := ZA
        have hw372_0 := YA
        cases RD
        replace YA := (HB.out.cell (World.block_lt_of_cell? w _ YA)).trans YA
        replace ZA := (HB.out.cell (World.block_lt_of_cell? w _ ZA)).trans ZA
        replace aB := (HB.out.cell (World.block_lt_of_cell? w _ aB)).trans aB
        replace bB := (HB.out.cell (World.block_lt_of_cell? w _ bB)).trans bB
        replace cB := (HB.out.cell (World.block_lt_of_cell? w _ cB)).trans cB
        replace dB := (HB.out.cell (World.block_lt_of_cell? w _ dB)).trans dB
        replace eB := (HB.out.cell (World.block_lt_of_cell? w _ eB)).trans eB
        replace fB := (HB.out.cell (World.block_lt_of_cell? w _ fB)).trans fB
        replace gB := (HB.out.cell (World.block_lt_of_cell? w _ gB)).trans gB
        replace hB := (HB.out.cell (World.block_lt_of_cell? w _ hB)).trans hB
        replace p372 := eq_true p372
        replace q372 := eq_true q372
        have p373 : 0 ≤ (eA : Int) := of_decide_eq_true q6_20
        have q373 : eA < (l1.length : Int) := of_decide_eq_true q6_20
        obtain ⟨ad373, SD, iB, jB, kB, lB, mB, nB, oB, pB, qB, rB⟩ := at_T75 HR1.out eA p373 q373
        have hw373_9 := rB
        have hw373_8 := qB
        have hw373_7 := pB
        have hw373_6 := oB
        have hw373_5 := nB
        have hw373_4 := mB
        have hw373_3 := lB
        have hw373_2 := kB
        have hw373_1 := jB
        have hw373_0 := iB
        cases SD
        replace iB := (HB.out.cell (World.block_lt_of_cell? w _ iB)).trans iB
        replace jB := (HB.out.cell (World.block_lt_of_cell? w _ jB)).trans jB
        replace kB := (HB.out.cell (World.block_lt_of_cell? w _ kB)).trans kB
        replace lB := (HB.out.cell (World.block_lt_of_cell? w _ lB)).trans lB
        replace mB := (HB.out.cell (World.block_lt_of_cell? w _ mB)).trans mB
        replace nB := (HB.out.cell (World.block_lt_of_cell? w _ nB)).trans nB
        replace oB := (HB.out.cell (World.block_lt_of_cell? w _ oB)).trans oB
        replace pB := (HB.out.cell (World.block_lt_of_cell? w _ pB)).trans pB
        replace qB := (HB.out.cell (World.block_lt_of_cell? w _ qB)).trans qB
        replace rB := (HB.out.cell (World.block_lt_of_cell? w _ rB)).trans rB
        replace p373 := eq_true p373
        replace q373 := eq_true q373
        refine start_ (n := 10) (S := fun w' => w'.cell? (ad372.add ((eA).toNat * 10)) = some (.int .i64 ((rd_T75 l0 eA).f0)) ∧ w'.cell? ⟨(ad372.add ((eA).toNat * 10)).block, (ad372.add ((eA).toNat * 10)).off + 1, none⟩ = some (.int .i64 ((rd_T75 l0 eA).f1)) ∧ w'.cell? ⟨(ad372.add ((eA).toNat * 10)).block, (ad372.add ((eA).toNat * 10)).off + 2, none⟩ = some (.int .i64 ((rd_T75 l0 eA).f2)) ∧ w'.cell? ⟨(ad372.add ((eA).toNat * 10)).block, (ad372.add ((eA).toNat * 10)).off + 3, none⟩ = some (.int .i64 ((rd_T75 l0 eA).f3)) ∧ w'.cell? ⟨(ad372.add ((eA).toNat * 10)).block, (ad372.add ((eA).toNat * 10)).off + 4, none⟩ = some (.int .i64 ((rd_T75 l0 eA).f4)) ∧ w'.cell? ⟨(ad372.add ((eA).toNat * 10)).block, (ad372.add ((eA).toNat * 10)).off + 5, none⟩ = some (.int .i64 ((rd_T75 l0 eA).f5)) ∧ w'.cell? ⟨(ad372.add ((eA).toNat * 10)).block, (ad372.add ((eA).toNat * 10)).off + 6, none⟩ = some (.int .i64 ((rd_T75 l0 eA).f6)) ∧ w'.cell? ⟨(ad372.add ((eA).toNat * 10)).block, (ad372.add ((eA).toNat * 10)).off + 7, none⟩ = some (.int .i64 ((rd_T75 l0 eA).f7)) ∧ w'.cell? ⟨(ad372.add ((eA).toNat * 10)).block, (ad372.add ((eA).toNat * 10)).off + 8, none⟩ = some (.int .i64 ((rd_T75 l0 eA).f8)) ∧ w'.cell? ⟨(ad372.add ((eA).toNat * 10)).block, (ad372.add ((eA).toNat * 10)).off + 9, none⟩ = some (.bool ((rd_T75 l0 eA).f9)) ∧ w'.cell? (ad373.add ((eA).toNat * 10)) = some (.int .i64 ((rd_T75 l1 eA).f0)) ∧ w'.cell? ⟨(ad373.add ((eA).toNat * 10)).block, (ad373.add ((eA).toNat * 10)).off + 1, none⟩ = some (.int .i64 ((rd_T75 l1 eA).f1)) ∧ w'.cell? ⟨(ad373.add ((eA).toNat * 10)).block, (ad373.add ((eA).toNat * 10)).off + 2, none⟩ = some (.int .i64 ((rd_T75 l1 eA).f2)) ∧ w'.cell? ⟨(ad373.add ((eA).toNat * 10)).block, (ad373.add ((eA).toNat * 10)).off + 3, none⟩ = some (.int .i64 ((rd_T75 l1 eA).f3)) ∧ w'.cell? ⟨(ad373.add ((eA).toNat * 10)).block, (ad373.add ((eA).toNat * 10)).off + 4, none⟩ = some (.int .i64 ((rd_T75 l1 eA).f4)) ∧ w'.cell? ⟨(ad373.add ((eA).toNat * 10)).block, (ad373.add ((eA).toNat * 10)).off + 5, none⟩ = some (.int .i64 ((rd_T75 l1 eA).f5)) ∧ w'.cell? ⟨(ad373.add ((eA).toNat * 10)).block, (ad373.add ((eA).toNat * 10)).off + 6, none⟩ = some (.int .i64 ((rd_T75 l1 eA).f6)) ∧ w'.cell? ⟨(ad373.add ((eA).toNat * 10)).block, (ad373.add ((eA).toNat * 10)).off + 7, none⟩ = some (.int .i64 ((rd_T75 l1 eA).f7)) ∧ w'.cell? ⟨(ad373.add ((eA).toNat * 10)).block, (ad373.add ((eA).toNat * 10)).off + 8, none⟩ = some (.int .i64 ((rd_T75 l1 eA).f8)) ∧ w'.cell? ⟨(ad373.add ((eA).toNat * 10)).block, (ad373.add ((eA).toNat * 10)).off + 9, none⟩ = some (.bool ((rd_T75 l1 eA).f9))) (ds := []) #[F,F,F,F,F,F,F,F,F,F] (by kernel_rfl) rfl rfl ⟨((HB.out.cell (World.block_lt_of_cell? w _ hw372_0)).trans hw372_0), ((HB.out.cell (World.block_lt_of_cell? w _ hw372_1)).trans hw372_1), ((HB.out.cell (World.block_lt_of_cell? w _ hw372_2)).trans hw372_2), ((HB.out.cell (World.block_lt_of_cell? w _ hw372_3)).trans hw372_3), ((HB.out.cell (World.block_lt_of_cell? w _ hw372_4)).trans hw372_4), ((HB.out.cell (World.block_lt_of_cell? w _ hw372_5)).trans hw372_5), ((HB.out.cell (World.block_lt_of_cell? w _ hw372_6)).trans hw372_6), ((HB.out.cell (World.block_lt_of_cell? w _ hw372_7)).trans hw372_7), ((HB.out.cell (World.block_lt_of_cell? w _ hw372_8)).trans hw372_8), ((HB.out.cell (World.block_lt_of_cell? w _ hw372_9)).trans hw372_9), ((HB.out.cell (World.block_lt_of_cell? w _ hw373_0)).trans hw373_0), ((HB.out.cell (World.block_lt_of_cell? w _ hw373_1)).trans hw373_1), ((HB.out.cell (World.block_lt_of_cell? w _ hw373_2)).trans hw373_2), ((HB.out.cell (World.block_lt_of_cell? w _ hw373_3)).trans hw373_3), ((HB.out.cell (World.block_lt_of_cell? w _ hw373_4)).trans hw373_4), ((HB.out.cell (World.block_lt_of_cell? w _ hw373_5)).trans hw373_5), ((HB.out.cell (World.block_lt_of_cell? w _ hw373_6)).trans hw373_6), ((HB.out.cell (World.block_lt_of_cell? w _ hw373_7)).trans hw373_7), ((HB.out.cell (World.block_lt_of_cell? w _ hw373_8)).trans hw373_8), ((HB.out.cell (World.block_lt_of_cell? w _ hw373_9)).trans hw373_9)⟩ (fun hHeld => ?_); refine with_tabW laws_eqCallS.tab6 laws_eqCallS.bits6 (fun HT_ HW_ => ?_)
        generalize wr.drew = tD at HB YA ZA aB bB cB dB eB fB gB hB iB jB kB lB mB nB oB pB qB rB hHeld ⊢
        refine q6_p 0 17 #[T,F,F,F,F,F,F,F,F,F] ?_
        refine q6_p 1 18 #[T,T,F,F,F,F,F,F,F,F] ?_
        refine q6_p 2 19 #[T,T,T,F,F,F,F,F,F,F] ?_
        refine q6_p 4 21 #[T,T,T,F,T,F,F,F,F,F] ?_
        refine q6_p 5 22 #[T,T,T,F,T,T,F,F,F,F] ?_
        refine q6_p 6 23 #[T,T,T,F,T,T,T,F,F,F] ?_
        refine take_ (i := 3) (N := some 20) (v := ?_) (a' := ?_) #[T,T,T,T,T,T,T,F,F,F] rfl rfl (take_ofW HT_.out HW_.out (by kernel_rfl)) (fun _ _ _ h => h) (Or.inl ⟨by rfl, ?_⟩) hHeld ?_ ?_
        rotate_left
        ·rintro w' ⟨s0, s1, s2, s3, s4, s5, s6, s7, s8, s9, fN, gN, iN, jN, kN, lN, mN, nN, oN, pN⟩
         go_simp
         with_reducible rfl
        rotate_left
        ·simp only [Act.put, List.setIfInBounds_toArray, List.set_cons_zero, List.set_cons_succ, i64_w, i32_w]
         rfl
        refine take_ (i := 7) (N := some 24) (v := ?_) (a' := ?_) #[T,T,T,T,T,T,T,T,F,F] rfl rfl (take_ofW HT_.out HW_.out (by kernel_rfl)) (fun _ _ _ h => h) (Or.inl ⟨by rfl, ?_⟩) hHeld ?_ ?_
        rotate_left
        ·rintro w' ⟨s0, s1, s2, s3, s4, s5, s6, s7, s8, s9, fN, gN, iN, jN, kN, lN, mN, nN, oN, pN⟩
         go_simp
         with_reducible rfl
        rotate_left
        ·simp only [Act.put, List.setIfInBounds_toArray, List.set_cons_zero, List.set_cons_succ, i64_w, i32_w]
         rfl
        refine one_ (i := 8) (N := some 25) #[T,T,T,T,T,T,T,T,T,F] rfl rfl (one_of HT_.out (by kernel_rfl)) (by decide) (fun K hK => ?_)
        refine goes_ Try.func92 (by kernel_rfl) rfl #[.agg #[.int .i64 ((rd_T75 l0 eA).f0), .int .i64 ((rd_T75 l0 eA).f1), .int .i64 ((rd_T75 l0 eA).f2), .int .i64 ((rd_T75 l0 eA).f3), .int .i64 ((rd_T75 l0 eA).f4), .int .i64 ((rd_T75 l0 eA).f5), .int .i64 ((rd_T75 l0 eA).f6), .int .i64 ((rd_T75 l0 eA).f7), .int .i64 ((rd_T75 l0 eA).f8), .bool ((rd_T75 l0 eA).f9)], .agg #[.int .i64 ((rd_T75 l1 eA).f0), .int .i64 ((rd_T75 l1 eA).f1), .int .i64 ((rd_T75 l1 eA).f2), .int .i64 ((rd_T75 l1 eA).f3), .int .i64 ((rd_T75 l1 eA).f4), .int .i64 ((rd_T75 l1 eA).f5), .int .i64 ((rd_T75 l1 eA).f6), .int .i64 ((rd_T75 l1 eA).f7), .int .i64 ((rd_T75 l1 eA).f8), .bool ((rd_T75 l1 eA).f9)]] (by rfl) rfl rfl q6_10 ?_
        with_reducible refine (laws_eqCall.calls ((rd_T75 l0 eA).f0) ((rd_T75 l0 eA).f1) ((rd_T75 l0 eA).f2) ((rd_T75 l0 eA).f3) ((rd_T75 l0 eA).f4) ((rd_T75 l0 eA).f5) ((rd_T75 l0 eA).f6) ((rd_T75 l0 eA).f7) ((rd_T75 l0 eA).f8) ((rd_T75 l0 eA).f9) ((rd_T75 l1 eA).f0) ((rd_T75 l1 eA).f1) ((rd_T75 l1 eA).f2) ((rd_T75 l1 eA).f3) ((rd_T75 l1 eA).f4) ((rd_T75 l1 eA).f5) ((rd_T75 l1 eA).f6) ((rd_T75 l1 eA).f7) ((rd_T75 l1 eA).f8) ((rd_T75 l1 eA).f9) false _ A7.out).mono ?_
        rintro e dO ⟨rfl, hb⟩
        refine ⟨_, rfl, ?_⟩
        have nA := Aside0.mk (below_step q6_0 hb)
        clear HB
        have HB := nA
        clear nA
        (try clear hb)
        (try clear hb2)
        (try clear hk)
        (try clear hi)
        refine hK.out _ _ ⟨((HB.out.cell (World.block_lt_of_cell? w _ hw372_0)).trans hw372_0), ((HB.out.cell (World.block_lt_of_cell? w _ hw372_1)).trans hw372_1), ((HB.out.cell (World.block_lt_of_cell? w _ hw372_2)).trans hw372_2), ((HB.out.cell (World.block_lt_of_cell? w _ hw372_3)).trans hw372_3), ((HB.out.cell (World.block_lt_of_cell? w _ hw372_4)).trans hw372_4), ((HB.out.cell (World.block_lt_of_cell? w _ hw372_5)).trans hw372_5), ((HB.out.cell (World.block_lt_of_cell? w _ hw372_6)).trans hw372_6), ((HB.out.cell (World.block_lt_of_cell? w _ hw372_7)).trans hw372_7), ((HB.out.cell (World.block_lt_of_cell? w _ hw372_8)).trans hw372_8), ((HB.out.cell (World.block_lt_of_cell? w _ hw372_9)).trans hw372_9), ((HB.out.cell (World.block_lt_of_cell? w _ hw373_0)).trans hw373_0), ((HB.out.cell (World.block_lt_of_cell? w _ hw373_1)).trans hw373_1), ((HB.out.cell (World.block_lt_of_cell? w _ hw373_2)).trans hw373_2), ((HB.out.cell (World.block_lt_of_cell? w _ hw373_3)).trans hw373_3), ((HB.out.cell (World.block_lt_of_cell? w _ hw373_4)).trans hw373_4), ((HB.out.cell (World.block_lt_of_cell? w _ hw373_5)).trans hw373_5), ((HB.out.cell (World.block_lt_of_cell? w _ hw373_6)).trans hw373_6), ((HB.out.cell (World.block_lt_of_cell? w _ hw373_7)).trans hw373_7), ((HB.out.cell (World.block_lt_of_cell? w _ hw373_8)).trans hw373_8), ((HB.out.cell (World.block_lt_of_cell? w _ hw373_9)).trans hw373_9)⟩ (fun hHeld => ?_)
        clear hK K
        refine norm_ (a' := ?_) ?_ ?_
        rotate_left
        ·show Act.put _ (some 25) _ = _
         simp only [Act.put, List.setIfInBounds_toArray, List.set_cons_zero, List.set_cons_succ, i64_w, i32_w]
         rfl
        refine q6_p 9 26 #[T,T,T,T,T,T,T,T,T,T] ?_
        refine done_ (done_of HT_.out (by kernel_rfl)) ?_
        try go_wp2
        go_ret
        exact ⟨q6_9, q6_0⟩
      ·rw [if_neg c6] at H
       exact absurd H (by simp)
     ·rw [if_neg c5] at H
      exact absurd H (by simp)
    ·rw [if_neg c4] at H
     have OD : decide (eA < (l0.length : Int)) = false := decide_eq_false c4
     clear c4
     obtain rfl := Option.some.inj H
     go_wp2
     go_ret
     exact ⟨q6_9, q6_0⟩
 ·rw [if_neg c3] at H
  have cC : ((l0.length : Int) == (l1.length : Int)) = false := beq_eq_false_iff_ne.mpr c3
  have dC : ((l0.length : Int) != (l1.length : Int)) = true := bne_iff_ne.mpr c3
  have hE : (l0.length == l1.length) = false := by first | simpa using c3 | (simp at c3 ⊢; omega)
  obtain rfl := Option.some.inj H
  go_enter Try.func67, Try.ntmps67
  go_wp2
  go_ret
  exact ⟨q6_9, q6_0⟩

/-! ### laws_eqThread: function 33 -/
def laws_eqThread.f (k : Nat) (AA : List (S75)) (jA : Int) (BA : List Int) (CA : List Int) (DA : List (S75)) (mA : Int) (KA : List Int) (VA : List Int) : Option (Bool) := (laws_eqCallS.f k AA DA).bind fun XB => (if XB = true then (if jA = mA then ((laws_eqIntS.f k BA KA).bind fun YB => (if YB = true then ((laws_eqIntS.f k CA VA).bind fun ZB => (if ZB = true then (some true) else (some false))) else (some false))) else (some false)) else (some false))
theorem laws_eqThread.mono : ∀ a0 a1 a2 a3 a4 a5 a6 a7 k, LeO (laws_eqThread.f k a0 a1 a2 a3 a4 a5 a6 a7) (laws_eqThread.f (k + 1) a0 a1 a2 a3 a4 a5 a6 a7) := by
 intro a0 a1 a2 a3 a4 a5 a6 a7 k
 unfold laws_eqThread.f
 repeat' first
   | (with_reducible exact laws_eqCallS.mono _ _ _)
   | (with_reducible exact laws_eqIntS.mono _ _ _)
   | (with_reducible exact LeO.refl _)
   | (with_reducible exact LeO.none _)
   | (with_reducible refine LeO.ite ?_ ?_)
   | (with_reducible refine LeO.bind ?_ (fun _ => ?_))
   | exact laws_eqCallS.mono _ _ _
   | exact laws_eqIntS.mono _ _ _
   | exact LeO.none _
   | refine LeO.ite ?_ ?_
   | refine LeO.bind ?_ (fun _ => ?_)
set_option maxHeartbeats 8000000 in
set_option maxRecDepth 100000 in
theorem laws_eqThread.calls (k : Nat) (IA : Option Addr) (JA : Nat) (AA : List (S75)) (jA : Int) (TA : Option Addr) (UA : Nat) (BA : List Int) (WA : Option Addr) (XA : Nat) (CA : List Int) (sB : Option Addr) (tB : Nat) (DA : List (S75)) (mA : Int) (uB : Option Addr) (vB : Nat) (KA : List Int) (zB : Option Addr) (AB : Nat) (VA : List Int) (r : Bool) (w : World) (uD : Kd.C k75 w IA AA.length AA) (vD : AA.length ≤ JA) (wD : Kd.C (Kd.int .i64) w TA BA.length BA) (xD : BA.length ≤ UA) (yD : Kd.C (Kd.int .i64) w WA CA.length CA) (zD : CA.length ≤ XA) (AD : Kd.C k75 w sB DA.length DA) (BD : DA.length ≤ tB) (CD : Kd.C (Kd.int .i64) w uB KA.length KA) (DD : KA.length ≤ vB) (ED : Kd.C (Kd.int .i64) w zB VA.length VA) (FD : VA.length ≤ AB) (h : laws_eqThread.f k AA jA BA CA DA mA KA VA = some r) :
  Calls Try.prog 33 #[.agg #[.slice IA AA.length JA, .int .i64 jA, .slice TA BA.length UA, .slice WA CA.length XA], .agg #[.slice sB DA.length tB, .int .i64 mA, .slice uB KA.length vB, .slice zB VA.length AB]] w fun e w' => e = .returned (.bool r) ∧ Below w.heap.size w w' := by
 have hu55 := Try.underlying55
 have TD := Aside0.mk uD
 have TB := Aside0.mk vD
 clear uD vD
 have VD := Aside0.mk wD
 have aC := Aside0.mk xD
 clear wD xD
 have GD := Aside0.mk yD
 have HD := Aside0.mk zD
 clear yD zD
 have UD := Aside0.mk AD
 have UB := Aside0.mk BD
 clear AD BD
 have WD := Aside0.mk CD
 have bC := Aside0.mk DD
 clear CD DD
 have ID := Aside0.mk ED
 have JD := Aside0.mk FD
 clear ED FD
 have HB := Aside0.mk (Below.refl w.heap.size w)
 have H : ((laws_eqCallS.f k AA DA).bind fun XB => (if XB = true then (if jA = mA then ((laws_eqIntS.f k BA KA).bind fun YB => (if YB = true then ((laws_eqIntS.f k CA VA).bind fun ZB => (if ZB = true then (some true) else (some false))) else (some false))) else (some false)) else (some false))) = some r := h
 clear h
 replace H := Option.bind_eq_some_iff.mp H
 obtain ⟨XB, A30, H⟩ := H
 (try dsimp only at H)
 have A3 := Aside0.mk A30
 clear A30
 by_cases c4 : XB = true
 ·subst c4
  rw [if_pos rfl] at H
  by_cases c5 : jA = mA
  ·rw [if_pos c5] at H
   have eC : (jA == mA) = true := beq_iff_eq.mpr c5
   have PD : (jA != mA) = false := bne_eq_false_iff_eq.mpr c5
   clear c5
   replace H := Option.bind_eq_some_iff.mp H
   obtain ⟨YB, A60, H⟩ := H
   (try dsimp only at H)
   have A6 := Aside0.mk A60
   clear A60
   by_cases c7 : YB = true
   ·subst c7
    rw [if_pos rfl] at H
    replace H := Option.bind_eq_some_iff.mp H
    obtain ⟨ZB, A80, H⟩ := H
    (try dsimp only at H)
    have A8 := Aside0.mk A80
    clear A80
    by_cases c9 : ZB = true
    ·subst c9
     rw [if_pos rfl] at H
     obtain rfl := Option.some.inj H
     go_enter Try.func33, Try.ntmps33
     go_wp2_with (first | ((with_reducible refine gate_dst (N := 2) rfl ?_); refine box_event ?hg (N := 2) ?hd (cs := #[.slice IA AA.length JA, .int .i64 jA, .slice TA BA.length UA, .slice WA CA.length XA]) (t := 55) ?hr ?_; (case hd => rfl); (case hg => rfl); (case hr => first | (go_simp; done) | (go_simp; rfl)); intro hA hg UN hbox hb; have nA := Aside0.mk (below_step q6_0 hb); have oA := Aside0.mk (hbox); have pA := Aside0.mk ((q6_11 : w.heap.size ≤ hA)); have rA := Aside0.mk ((q6_11 : w.heap.size ≤ hA)); clear HB; have HB := nA; have fA := oA; have VB := pA; have JB := rA; clear nA oA pA rA; clear hb hbox hg) | ((with_reducible refine gate_dst (N := 3) rfl ?_); refine box_event ?hg (N := 3) ?hd (cs := #[.slice sB DA.length tB, .int .i64 mA, .slice uB KA.length vB, .slice zB VA.length AB]) (t := 55) ?hr ?_; (case hd => rfl); (case hg => rfl); (case hr => first | (go_simp; done) | (go_simp; rfl)); intro iA hg tD hbox hb; have nA := Aside0.mk (blk_below (g := hA) (o := .cells #[.slice IA AA.length JA, .int .i64 jA, .slice TA BA.length UA, .slice WA CA.length XA] 55 (0, 0)) q6_7 hb); have oA := Aside0.mk (below_step q6_6 hb); have pA := Aside0.mk (hbox); have rA := Aside0.mk ((q6_21 : w.heap.size ≤ iA)); have wB := Aside0.mk ((q6_21 : w.heap.size ≤ iA)); have xB := Aside0.mk ((q6_12 : hA ≠ iA)); have yB := Aside0.mk ((q6_13 : iA ≠ hA)); clear fA HB; have fA := nA; have HB := oA; have gA := pA; have WB := rA; have SB := wB; have FA := xB; have GA := yB; clear nA oA pA rA wB xB yB; clear hb hbox hg; have LN := FA.out; have MN := GA.out; have vL : tD.cell? ⟨hA, 0, none⟩ = some (.slice IA AA.length JA) := (blk_cell fA.out 0).trans rfl; have wL : tD.cell? ⟨hA, 1, none⟩ = some (.int .i64 jA) := (blk_cell fA.out 1).trans rfl; have xL : tD.cell? ⟨hA, 2, none⟩ = some (.slice TA BA.length UA) := (blk_cell fA.out 2).trans rfl; have yL : tD.cell? ⟨hA, 3, none⟩ = some (.slice WA CA.length XA) := (blk_cell fA.out 3).trans rfl; have zL := blk_frozen fA.out 0; have AL := blk_frozen fA.out 1; have BL := blk_frozen fA.out 2; have CL := blk_frozen fA.out 3; have DL : tD.cell? ⟨iA, 0, none⟩ = some (.slice sB DA.length tB) := (blk_cell gA.out 0).trans rfl; have EL : tD.cell? ⟨iA, 1, none⟩ = some (.int .i64 mA) := (blk_cell gA.out 1).trans rfl; have FL : tD.cell? ⟨iA, 2, none⟩ = some (.slice uB KA.length vB) := (blk_cell gA.out 2).trans rfl; have GL : tD.cell? ⟨iA, 3, none⟩ = some (.slice zB VA.length AB) := (blk_cell gA.out 3).trans rfl; have HL := blk_frozen gA.out 0; have IL := blk_frozen gA.out 1; have JL := blk_frozen gA.out 2; have KL := blk_frozen gA.out 3) | ((with_reducible refine gate_callee (f := 67) rfl ?_); refine goesL_ (some 9) rfl rfl Try.func67 (by kernel_rfl) rfl #[.slice IA AA.length JA, .slice sB DA.length tB] rfl q6_10 ?_; (with_reducible refine (laws_eqCallS.calls k _ _ AA _ _ DA true _ ?side1 ?side2 ?side3 ?side4 A3.out).mono ?_); (case side1 => exact q6_14); (case side2 => exact TB.out); (case side3 => exact q6_15); (case side4 => exact UB.out); rintro e KD ⟨rfl, hb⟩; refine ⟨_, rfl, ?_⟩; have nA := Aside0.mk (blk_below (g := hA) (o := .cells #[.slice IA AA.length JA, .int .i64 jA, .slice TA BA.length UA, .slice WA CA.length XA] 55 (0, 0)) q6_7 hb); have oA := Aside0.mk (blk_below (g := iA) (o := .cells #[.slice sB DA.length tB, .int .i64 mA, .slice uB KA.length vB, .slice zB VA.length AB] 55 (0, 0)) q6_17 hb); have pA := Aside0.mk (below_step q6_3 hb); clear fA gA HB; have fA := nA; have gA := oA; have HB := pA; clear nA oA pA; (try clear hb); (try clear hb2); (try clear hk); (try clear hi); have fC : KD.cell? ⟨hA, 0, none⟩ = some (.slice IA AA.length JA) := (blk_cell fA.out 0).trans rfl; have gC : KD.cell? ⟨hA, 1, none⟩ = some (.int .i64 jA) := (blk_cell fA.out 1).trans rfl; have hC : KD.cell? ⟨hA, 2, none⟩ = some (.slice TA BA.length UA) := (blk_cell fA.out 2).trans rfl; have iC : KD.cell? ⟨hA, 3, none⟩ = some (.slice WA CA.length XA) := (blk_cell fA.out 3).trans rfl; have jC := blk_frozen fA.out 0; have kC := blk_frozen fA.out 1; have lC := blk_frozen fA.out 2; have mC := blk_frozen fA.out 3; have nC : KD.cell? ⟨iA, 0, none⟩ = some (.slice sB DA.length tB) := (blk_cell gA.out 0).trans rfl; have oC : KD.cell? ⟨iA, 1, none⟩ = some (.int .i64 mA) := (blk_cell gA.out 1).trans rfl; have pC : KD.cell? ⟨iA, 2, none⟩ = some (.slice uB KA.length vB) := (blk_cell gA.out 2).trans rfl; have qC : KD.cell? ⟨iA, 3, none⟩ = some (.slice zB VA.length AB) := (blk_cell gA.out 3).trans rfl; have rC := blk_frozen gA.out 0; have sC := blk_frozen gA.out 1; have tC := blk_frozen gA.out 2; have uC := blk_frozen gA.out 3) | ((with_reducible refine gate_callee (f := 26) rfl ?_); refine goesL_ (some 20) rfl rfl Try.func26 (by kernel_rfl) rfl #[.slice TA BA.length UA, .slice uB KA.length vB] rfl q6_10 ?_; (with_reducible refine (laws_eqIntS.calls k _ _ BA _ _ KA true _ ?side1 ?side2 ?side3 ?side4 A6.out).mono ?_); (case side1 => exact q6_18); (case side2 => exact aC.out); (case side3 => exact q6_19); (case side4 => exact bC.out); rintro e w' ⟨rfl, ⟨nd, rfl⟩⟩; refine ⟨_, rfl, ?_⟩) | ((with_reducible refine gate_callee (f := 26) rfl ?_); refine goesL_ (some 26) rfl rfl Try.func26 (by kernel_rfl) rfl #[.slice WA CA.length XA, .slice zB VA.length AB] rfl q6_10 ?_; (with_reducible refine (laws_eqIntS.calls k _ _ CA _ _ VA true _ ?side1 ?side2 ?side3 ?side4 A8.out).mono ?_); (case side1 => repeat (first | exact (Kd.C_below GD.out q6_3) | (with_reducible refine Kd.C_alloc ?_ _) | (with_reducible refine Kd.C_drewN ?_ _) | (with_reducible refine Kd.C_drew ?_))); (case side2 => exact HD.out); (case side3 => repeat (first | exact (Kd.C_below ID.out q6_3) | (with_reducible refine Kd.C_alloc ?_ _) | (with_reducible refine Kd.C_drewN ?_ _) | (with_reducible refine Kd.C_drew ?_))); (case side4 => exact JD.out); rintro e w' ⟨rfl, ⟨nd, rfl⟩⟩; refine ⟨_, rfl, ?_⟩))
     go_ret
     exact ⟨q6_9, q6_3⟩
    ·replace c9 := Bool.eq_false_iff.mpr c9
     subst c9
     rw [if_neg (show ¬ (false = true) by decide)] at H
     obtain rfl := Option.some.inj H
     go_enter Try.func33, Try.ntmps33
     go_wp2_with (first | ((with_reducible refine gate_dst (N := 2) rfl ?_); refine box_event ?hg (N := 2) ?hd (cs := #[.slice IA AA.length JA, .int .i64 jA, .slice TA BA.length UA, .slice WA CA.length XA]) (t := 55) ?hr ?_; (case hd => rfl); (case hg => rfl); (case hr => first | (go_simp; done) | (go_simp; rfl)); intro hA hg TN hbox hb; have nA := Aside0.mk (below_step q6_0 hb); have oA := Aside0.mk (hbox); have pA := Aside0.mk ((q6_11 : w.heap.size ≤ hA)); have rA := Aside0.mk ((q6_11 : w.heap.size ≤ hA)); clear HB; have HB := nA; have fA := oA; have VB := pA; have JB := rA; clear nA oA pA rA; clear hb hbox hg) | ((with_reducible refine gate_dst (N := 3) rfl ?_); refine box_event ?hg (N := 3) ?hd (cs := #[.slice sB DA.length tB, .int .i64 mA, .slice uB KA.length vB, .slice zB VA.length AB]) (t := 55) ?hr ?_; (case hd => rfl); (case hg => rfl); (case hr => first | (go_simp; done) | (go_simp; rfl)); intro iA hg FB hbox hb; have nA := Aside0.mk (blk_below (g := hA) (o := .cells #[.slice IA AA.length JA, .int .i64 jA, .slice TA BA.length UA, .slice WA CA.length XA] 55 (0, 0)) q6_7 hb); have oA := Aside0.mk (below_step q6_6 hb); have pA := Aside0.mk (hbox); have rA := Aside0.mk ((q6_21 : w.heap.size ≤ iA)); have wB := Aside0.mk ((q6_21 : w.heap.size ≤ iA)); have xB := Aside0.mk ((q6_12 : hA ≠ iA)); have yB := Aside0.mk ((q6_13 : iA ≠ hA)); clear fA HB; have fA := nA; have HB := oA; have gA := pA; have WB := rA; have SB := wB; have FA := xB; have GA := yB; clear nA oA pA rA wB xB yB; clear hb hbox hg; have fE := FA.out; have gE := GA.out; have vC : FB.cell? ⟨hA, 0, none⟩ = some (.slice IA AA.length JA) := (blk_cell fA.out 0).trans rfl; have wC : FB.cell? ⟨hA, 1, none⟩ = some (.int .i64 jA) := (blk_cell fA.out 1).trans rfl; have xC : FB.cell? ⟨hA, 2, none⟩ = some (.slice TA BA.length UA) := (blk_cell fA.out 2).trans rfl; have yC : FB.cell? ⟨hA, 3, none⟩ = some (.slice WA CA.length XA) := (blk_cell fA.out 3).trans rfl; have zC := blk_frozen fA.out 0; have AC := blk_frozen fA.out 1; have BC := blk_frozen fA.out 2; have CC := blk_frozen fA.out 3; have DC : FB.cell? ⟨iA, 0, none⟩ = some (.slice sB DA.length tB) := (blk_cell gA.out 0).trans rfl; have EC : FB.cell? ⟨iA, 1, none⟩ = some (.int .i64 mA) := (blk_cell gA.out 1).trans rfl; have FC : FB.cell? ⟨iA, 2, none⟩ = some (.slice uB KA.length vB) := (blk_cell gA.out 2).trans rfl; have GC : FB.cell? ⟨iA, 3, none⟩ = some (.slice zB VA.length AB) := (blk_cell gA.out 3).trans rfl; have HC := blk_frozen gA.out 0; have IC := blk_frozen gA.out 1; have JC := blk_frozen gA.out 2; have KC := blk_frozen gA.out 3) | ((with_reducible refine gate_callee (f := 67) rfl ?_); refine goesL_ (some 9) rfl rfl Try.func67 (by kernel_rfl) rfl #[.slice IA AA.length JA, .slice sB DA.length tB] rfl q6_10 ?_; (with_reducible refine (laws_eqCallS.calls k _ _ AA _ _ DA true _ ?side1 ?side2 ?side3 ?side4 A3.out).mono ?_); (case side1 => exact q6_14); (case side2 => exact TB.out); (case side3 => exact q6_15); (case side4 => exact UB.out); rintro e LC ⟨rfl, hb⟩; refine ⟨_, rfl, ?_⟩; have nA := Aside0.mk (blk_below (g := hA) (o := .cells #[.slice IA AA.length JA, .int .i64 jA, .slice TA BA.length UA, .slice WA CA.length XA] 55 (0, 0)) q6_7 hb); have oA := Aside0.mk (blk_below (g := iA) (o := .cells #[.slice sB DA.length tB, .int .i64 mA, .slice uB KA.length vB, .slice zB VA.length AB] 55 (0, 0)) q6_17 hb); have pA := Aside0.mk (below_step q6_3 hb); clear fA gA HB; have fA := nA; have gA := oA; have HB := pA; clear nA oA pA; (try clear hb); (try clear hb2); (try clear hk); (try clear hi); have LL : LC.cell? ⟨hA, 0, none⟩ = some (.slice IA AA.length JA) := (blk_cell fA.out 0).trans rfl; have ML : LC.cell? ⟨hA, 1, none⟩ = some (.int .i64 jA) := (blk_cell fA.out 1).trans rfl; have NL : LC.cell? ⟨hA, 2, none⟩ = some (.slice TA BA.length UA) := (blk_cell fA.out 2).trans rfl; have OL : LC.cell? ⟨hA, 3, none⟩ = some (.slice WA CA.length XA) := (blk_cell fA.out 3).trans rfl; have PL := blk_frozen fA.out 0; have QL := blk_frozen fA.out 1; have RL := blk_frozen fA.out 2; have SL := blk_frozen fA.out 3; have TL : LC.cell? ⟨iA, 0, none⟩ = some (.slice sB DA.length tB) := (blk_cell gA.out 0).trans rfl; have UL : LC.cell? ⟨iA, 1, none⟩ = some (.int .i64 mA) := (blk_cell gA.out 1).trans rfl; have VL : LC.cell? ⟨iA, 2, none⟩ = some (.slice uB KA.length vB) := (blk_cell gA.out 2).trans rfl; have WL : LC.cell? ⟨iA, 3, none⟩ = some (.slice zB VA.length AB) := (blk_cell gA.out 3).trans rfl; have XL := blk_frozen gA.out 0; have YL := blk_frozen gA.out 1; have ZL := blk_frozen gA.out 2; have aM := blk_frozen gA.out 3) | ((with_reducible refine gate_callee (f := 26) rfl ?_); refine goesL_ (some 20) rfl rfl Try.func26 (by kernel_rfl) rfl #[.slice TA BA.length UA, .slice uB KA.length vB] rfl q6_10 ?_; (with_reducible refine (laws_eqIntS.calls k _ _ BA _ _ KA true _ ?side1 ?side2 ?side3 ?side4 A6.out).mono ?_); (case side1 => exact q6_18); (case side2 => exact aC.out); (case side3 => exact q6_19); (case side4 => exact bC.out); rintro e w' ⟨rfl, ⟨nd, rfl⟩⟩; refine ⟨_, rfl, ?_⟩) | ((with_reducible refine gate_callee (f := 26) rfl ?_); refine goesL_ (some 26) rfl rfl Try.func26 (by kernel_rfl) rfl #[.slice WA CA.length XA, .slice zB VA.length AB] rfl q6_10 ?_; (with_reducible refine (laws_eqIntS.calls k _ _ CA _ _ VA false _ ?side1 ?side2 ?side3 ?side4 A8.out).mono ?_); (case side1 => repeat (first | exact (Kd.C_below GD.out q6_3) | (with_reducible refine Kd.C_alloc ?_ _) | (with_reducible refine Kd.C_drewN ?_ _) | (with_reducible refine Kd.C_drew ?_))); (case side2 => exact HD.out); (case side3 => repeat (first | exact (Kd.C_below ID.out q6_3) | (with_reducible refine Kd.C_alloc ?_ _) | (with_reducible refine Kd.C_drewN ?_ _) | (with_reducible refine Kd.C_drew ?_))); (case side4 => exact JD.out); rintro e w' ⟨rfl, ⟨nd, rfl⟩⟩; refine ⟨_, rfl, ?_⟩))
     go_ret
     exact ⟨q6_9, q6_3⟩
   ·replace c7 := Bool.eq_false_iff.mpr c7
    subst c7
    rw [if_neg (show ¬ (false = true) by decide)] at H
    obtain rfl := Option.some.inj H
    go_enter Try.func33, Try.ntmps33
    go_wp2_with (first | ((with_reducible refine gate_dst (N := 2) rfl ?_); refine box_event ?hg (N := 2) ?hd (cs := #[.slice IA AA.length JA, .int .i64 jA, .slice TA BA.length UA, .slice WA CA.length XA]) (t := 55) ?hr ?_; (case hd => rfl); (case hg => rfl); (case hr => first | (go_simp; done) | (go_simp; rfl)); intro hA hg eO hbox hb; have nA := Aside0.mk (below_step q6_0 hb); have oA := Aside0.mk (hbox); have pA := Aside0.mk ((q6_11 : w.heap.size ≤ hA)); have rA := Aside0.mk ((q6_11 : w.heap.size ≤ hA)); clear HB; have HB := nA; have fA := oA; have VB := pA; have JB := rA; clear nA oA pA rA; clear hb hbox hg) | ((with_reducible refine gate_dst (N := 3) rfl ?_); refine box_event ?hg (N := 3) ?hd (cs := #[.slice sB DA.length tB, .int .i64 mA, .slice uB KA.length vB, .slice zB VA.length AB]) (t := 55) ?hr ?_; (case hd => rfl); (case hg => rfl); (case hr => first | (go_simp; done) | (go_simp; rfl)); intro iA hg LD hbox hb; have nA := Aside0.mk (blk_below (g := hA) (o := .cells #[.slice IA AA.length JA, .int .i64 jA, .slice TA BA.length UA, .slice WA CA.length XA] 55 (0, 0)) q6_7 hb); have oA := Aside0.mk (below_step q6_6 hb); have pA := Aside0.mk (hbox); have rA := Aside0.mk ((q6_21 : w.heap.size ≤ iA)); have wB := Aside0.mk ((q6_21 : w.heap.size ≤ iA)); have xB := Aside0.mk ((q6_12 : hA ≠ iA)); have yB := Aside0.mk ((q6_13 : iA ≠ hA)); clear fA HB; have fA := nA; have HB := oA; have gA := pA; have WB := rA; have SB := wB; have FA := xB; have GA := yB; clear nA oA pA rA wB xB yB; clear hb hbox hg; have NN := FA.out; have ON := GA.out; have bM : LD.cell? ⟨hA, 0, none⟩ = some (.slice IA AA.length JA) := (blk_cell fA.out 0).trans rfl; have cM : LD.cell? ⟨hA, 1, none⟩ = some (.int .i64 jA) := (blk_cell fA.out 1).trans rfl; have dM : LD.cell? ⟨hA, 2, none⟩ = some (.slice TA BA.length UA) := (blk_cell fA.out 2).trans rfl; have eM : LD.cell? ⟨hA, 3, none⟩ = some (.slice WA CA.length XA) := (blk_cell fA.out 3).trans rfl; have fM := blk_frozen fA.out 0; have gM := blk_frozen fA.out 1; have hM := blk_frozen fA.out 2; have iM := blk_frozen fA.out 3; have jM : LD.cell? ⟨iA, 0, none⟩ = some (.slice sB DA.length tB) := (blk_cell gA.out 0).trans rfl; have kM : LD.cell? ⟨iA, 1, none⟩ = some (.int .i64 mA) := (blk_cell gA.out 1).trans rfl; have lM : LD.cell? ⟨iA, 2, none⟩ = some (.slice uB KA.length vB) := (blk_cell gA.out 2).trans rfl; have mM : LD.cell? ⟨iA, 3, none⟩ = some (.slice zB VA.length AB) := (blk_cell gA.out 3).trans rfl; have nM := blk_frozen gA.out 0; have oM := blk_frozen gA.out 1; have pM := blk_frozen gA.out 2; have qM := blk_frozen gA.out 3) | ((with_reducible refine gate_callee (f := 67) rfl ?_); refine goesL_ (some 9) rfl rfl Try.func67 (by kernel_rfl) rfl #[.slice IA AA.length JA, .slice sB DA.length tB] rfl q6_10 ?_; (with_reducible refine (laws_eqCallS.calls k _ _ AA _ _ DA true _ ?side1 ?side2 ?side3 ?side4 A3.out).mono ?_); (case side1 => exact q6_14); (case side2 => exact TB.out); (case side3 => exact q6_15); (case side4 => exact UB.out); rintro e MD ⟨rfl, hb⟩; refine ⟨_, rfl, ?_⟩; have nA := Aside0.mk (blk_below (g := hA) (o := .cells #[.slice IA AA.length JA, .int .i64 jA, .slice TA BA.length UA, .slice WA CA.length XA] 55 (0, 0)) q6_7 hb); have oA := Aside0.mk (blk_below (g := iA) (o := .cells #[.slice sB DA.length tB, .int .i64 mA, .slice uB KA.length vB, .slice zB VA.length AB] 55 (0, 0)) q6_17 hb); have pA := Aside0.mk (below_step q6_3 hb); clear fA gA HB; have fA := nA; have gA := oA; have HB := pA; clear nA oA pA; (try clear hb); (try clear hb2); (try clear hk); (try clear hi); have MC : MD.cell? ⟨hA, 0, none⟩ = some (.slice IA AA.length JA) := (blk_cell fA.out 0).trans rfl; have NC : MD.cell? ⟨hA, 1, none⟩ = some (.int .i64 jA) := (blk_cell fA.out 1).trans rfl; have OC : MD.cell? ⟨hA, 2, none⟩ = some (.slice TA BA.length UA) := (blk_cell fA.out 2).trans rfl; have PC : MD.cell? ⟨hA, 3, none⟩ = some (.slice WA CA.length XA) := (blk_cell fA.out 3).trans rfl; have QC := blk_frozen fA.out 0; have RC := blk_frozen fA.out 1; have SC := blk_frozen fA.out 2; have TC := blk_frozen fA.out 3; have rM : MD.cell? ⟨iA, 0, none⟩ = some (.slice sB DA.length tB) := (blk_cell gA.out 0).trans rfl; have sM : MD.cell? ⟨iA, 1, none⟩ = some (.int .i64 mA) := (blk_cell gA.out 1).trans rfl; have tM : MD.cell? ⟨iA, 2, none⟩ = some (.slice uB KA.length vB) := (blk_cell gA.out 2).trans rfl; have uM : MD.cell? ⟨iA, 3, none⟩ = some (.slice zB VA.length AB) := (blk_cell gA.out 3).trans rfl; have vM := blk_frozen gA.out 0; have wM := blk_frozen gA.out 1; have xM := blk_frozen gA.out 2; have yM := blk_frozen gA.out 3) | ((with_reducible refine gate_callee (f := 26) rfl ?_); refine goesL_ (some 20) rfl rfl Try.func26 (by kernel_rfl) rfl #[.slice TA BA.length UA, .slice uB KA.length vB] rfl q6_10 ?_; (with_reducible refine (laws_eqIntS.calls k _ _ BA _ _ KA false _ ?side1 ?side2 ?side3 ?side4 A6.out).mono ?_); (case side1 => exact q6_18); (case side2 => exact aC.out); (case side3 => exact q6_19); (case side4 => exact bC.out); rintro e w' ⟨rfl, ⟨nd, rfl⟩⟩; refine ⟨_, rfl, ?_⟩))
    go_ret
    exact ⟨q6_9, q6_3⟩
  ·rw [if_neg c5] at H
   have eC : (jA == mA) = false := beq_eq_false_iff_ne.mpr c5
   have PD : (jA != mA) = true := bne_iff_ne.mpr c5
   obtain rfl := Option.some.inj H
   go_enter Try.func33, Try.ntmps33
   go_wp2_with (first | ((with_reducible refine gate_dst (N := 2) rfl ?_); refine box_event ?hg (N := 2) ?hd (cs := #[.slice IA AA.length JA, .int .i64 jA, .slice TA BA.length UA, .slice WA CA.length XA]) (t := 55) ?hr ?_; (case hd => rfl); (case hg => rfl); (case hr => first | (go_simp; done) | (go_simp; rfl)); intro hA hg IB hbox hb; have nA := Aside0.mk (below_step q6_0 hb); have oA := Aside0.mk (hbox); have pA := Aside0.mk ((q6_11 : w.heap.size ≤ hA)); have rA := Aside0.mk ((q6_11 : w.heap.size ≤ hA)); clear HB; have HB := nA; have fA := oA; have VB := pA; have JB := rA; clear nA oA pA rA; clear hb hbox hg) | ((with_reducible refine gate_dst (N := 3) rfl ?_); refine box_event ?hg (N := 3) ?hd (cs := #[.slice sB DA.length tB, .int .i64 mA, .slice uB KA.length vB, .slice zB VA.length AB]) (t := 55) ?hr ?_; (case hd => rfl); (case hg => rfl); (case hr => first | (go_simp; done) | (go_simp; rfl)); intro iA hg ND hbox hb; have nA := Aside0.mk (blk_below (g := hA) (o := .cells #[.slice IA AA.length JA, .int .i64 jA, .slice TA BA.length UA, .slice WA CA.length XA] 55 (0, 0)) q6_7 hb); have oA := Aside0.mk (below_step q6_6 hb); have pA := Aside0.mk (hbox); have rA := Aside0.mk ((q6_21 : w.heap.size ≤ iA)); have wB := Aside0.mk ((q6_21 : w.heap.size ≤ iA)); have xB := Aside0.mk ((q6_12 : hA ≠ iA)); have yB := Aside0.mk ((q6_13 : iA ≠ hA)); clear fA HB; have fA := nA; have HB := oA; have gA := pA; have WB := rA; have SB := wB; have FA := xB; have GA := yB; clear nA oA pA rA wB xB yB; clear hb hbox hg; have PN := FA.out; have QN := GA.out; have UC : ND.cell? ⟨hA, 0, none⟩ = some (.slice IA AA.length JA) := (blk_cell fA.out 0).trans rfl; have VC : ND.cell? ⟨hA, 1, none⟩ = some (.int .i64 jA) := (blk_cell fA.out 1).trans rfl; have WC : ND.cell? ⟨hA, 2, none⟩ = some (.slice TA BA.length UA) := (blk_cell fA.out 2).trans rfl; have XC : ND.cell? ⟨hA, 3, none⟩ = some (.slice WA CA.length XA) := (blk_cell fA.out 3).trans rfl; have YC := blk_frozen fA.out 0; have ZC := blk_frozen fA.out 1; have aD := blk_frozen fA.out 2; have bD := blk_frozen fA.out 3; have zM : ND.cell? ⟨iA, 0, none⟩ = some (.slice sB DA.length tB) := (blk_cell gA.out 0).trans rfl; have AM : ND.cell? ⟨iA, 1, none⟩ = some (.int .i64 mA) := (blk_cell gA.out 1).trans rfl; have BM : ND.cell? ⟨iA, 2, none⟩ = some (.slice uB KA.length vB) := (blk_cell gA.out 2).trans rfl; have CM : ND.cell? ⟨iA, 3, none⟩ = some (.slice zB VA.length AB) := (blk_cell gA.out 3).trans rfl; have DM := blk_frozen gA.out 0; have EM := blk_frozen gA.out 1; have FM := blk_frozen gA.out 2; have GM := blk_frozen gA.out 3) | ((with_reducible refine gate_callee (f := 67) rfl ?_); refine goesL_ (some 9) rfl rfl Try.func67 (by kernel_rfl) rfl #[.slice IA AA.length JA, .slice sB DA.length tB] rfl q6_10 ?_; (with_reducible refine (laws_eqCallS.calls k _ _ AA _ _ DA true _ ?side1 ?side2 ?side3 ?side4 A3.out).mono ?_); (case side1 => exact q6_14); (case side2 => exact TB.out); (case side3 => exact q6_15); (case side4 => exact UB.out); rintro e GB ⟨rfl, hb⟩; refine ⟨_, rfl, ?_⟩; have nA := Aside0.mk (blk_below (g := hA) (o := .cells #[.slice IA AA.length JA, .int .i64 jA, .slice TA BA.length UA, .slice WA CA.length XA] 55 (0, 0)) q6_7 hb); have oA := Aside0.mk (blk_below (g := iA) (o := .cells #[.slice sB DA.length tB, .int .i64 mA, .slice uB KA.length vB, .slice zB VA.length AB] 55 (0, 0)) q6_17 hb); have pA := Aside0.mk (below_step q6_3 hb); clear fA gA HB; have fA := nA; have gA := oA; have HB := pA; clear nA oA pA; (try clear hb); (try clear hb2); (try clear hk); (try clear hi); have HM : GB.cell? ⟨hA, 0, none⟩ = some (.slice IA AA.length JA) := (blk_cell fA.out 0).trans rfl; have IM : GB.cell? ⟨hA, 1, none⟩ = some (.int .i64 jA) := (blk_cell fA.out 1).trans rfl; have JM : GB.cell? ⟨hA, 2, none⟩ = some (.slice TA BA.length UA) := (blk_cell fA.out 2).trans rfl; have KM : GB.cell? ⟨hA, 3, none⟩ = some (.slice WA CA.length XA) := (blk_cell fA.out 3).trans rfl; have LM := blk_frozen fA.out 0; have MM := blk_frozen fA.out 1; have NM := blk_frozen fA.out 2; have OM := blk_frozen fA.out 3; have cD : GB.cell? ⟨iA, 0, none⟩ = some (.slice sB DA.length tB) := (blk_cell gA.out 0).trans rfl; have dD : GB.cell? ⟨iA, 1, none⟩ = some (.int .i64 mA) := (blk_cell gA.out 1).trans rfl; have eD : GB.cell? ⟨iA, 2, none⟩ = some (.slice uB KA.length vB) := (blk_cell gA.out 2).trans rfl; have fD : GB.cell? ⟨iA, 3, none⟩ = some (.slice zB VA.length AB) := (blk_cell gA.out 3).trans rfl; have gD := blk_frozen gA.out 0; have hD := blk_frozen gA.out 1; have iD := blk_frozen gA.out 2; have jD := blk_frozen gA.out 3))
   go_ret
   exact ⟨q6_9, q6_3⟩
 ·replace c4 := Bool.eq_false_iff.mpr c4
  subst c4
  rw [if_neg (show ¬ (false = true) by decide)] at H
  obtain rfl := Option.some.inj H
  go_enter Try.func33, Try.ntmps33
  go_wp2_with (first | ((with_reducible refine gate_dst (N := 2) rfl ?_); refine box_event ?hg (N := 2) ?hd (cs := #[.slice IA AA.length JA, .int .i64 jA, .slice TA BA.length UA, .slice WA CA.length XA]) (t := 55) ?hr ?_; (case hd => rfl); (case hg => rfl); (case hr => first | (go_simp; done) | (go_simp; rfl)); intro hA hg fO hbox hb; have nA := Aside0.mk (below_step q6_0 hb); have oA := Aside0.mk (hbox); have pA := Aside0.mk ((q6_11 : w.heap.size ≤ hA)); have rA := Aside0.mk ((q6_11 : w.heap.size ≤ hA)); clear HB; have HB := nA; have fA := oA; have VB := pA; have JB := rA; clear nA oA pA rA; clear hb hbox hg) | ((with_reducible refine gate_dst (N := 3) rfl ?_); refine box_event ?hg (N := 3) ?hd (cs := #[.slice sB DA.length tB, .int .i64 mA, .slice uB KA.length vB, .slice zB VA.length AB]) (t := 55) ?hr ?_; (case hd => rfl); (case hg => rfl); (case hr => first | (go_simp; done) | (go_simp; rfl)); intro iA hg kD hbox hb; have nA := Aside0.mk (blk_below (g := hA) (o := .cells #[.slice IA AA.length JA, .int .i64 jA, .slice TA BA.length UA, .slice WA CA.length XA] 55 (0, 0)) q6_7 hb); have oA := Aside0.mk (below_step q6_6 hb); have pA := Aside0.mk (hbox); have rA := Aside0.mk ((q6_21 : w.heap.size ≤ iA)); have wB := Aside0.mk ((q6_21 : w.heap.size ≤ iA)); have xB := Aside0.mk ((q6_12 : hA ≠ iA)); have yB := Aside0.mk ((q6_13 : iA ≠ hA)); clear fA HB; have fA := nA; have HB := oA; have gA := pA; have WB := rA; have SB := wB; have FA := xB; have GA := yB; clear nA oA pA rA wB xB yB; clear hb hbox hg; have RN := FA.out; have SN := GA.out; have PM : kD.cell? ⟨hA, 0, none⟩ = some (.slice IA AA.length JA) := (blk_cell fA.out 0).trans rfl; have QM : kD.cell? ⟨hA, 1, none⟩ = some (.int .i64 jA) := (blk_cell fA.out 1).trans rfl; have RM : kD.cell? ⟨hA, 2, none⟩ = some (.slice TA BA.length UA) := (blk_cell fA.out 2).trans rfl; have SM : kD.cell? ⟨hA, 3, none⟩ = some (.slice WA CA.length XA) := (blk_cell fA.out 3).trans rfl; have TM := blk_frozen fA.out 0; have UM := blk_frozen fA.out 1; have VM := blk_frozen fA.out 2; have WM := blk_frozen fA.out 3; have lD : kD.cell? ⟨iA, 0, none⟩ = some (.slice sB DA.length tB) := (blk_cell gA.out 0).trans rfl; have mD : kD.cell? ⟨iA, 1, none⟩ = some (.int .i64 mA) := (blk_cell gA.out 1).trans rfl; have nD : kD.cell? ⟨iA, 2, none⟩ = some (.slice uB KA.length vB) := (blk_cell gA.out 2).trans rfl; have oD : kD.cell? ⟨iA, 3, none⟩ = some (.slice zB VA.length AB) := (blk_cell gA.out 3).trans rfl; have pD := blk_frozen gA.out 0; have qD := blk_frozen gA.out 1; have rD := blk_frozen gA.out 2; have sD := blk_frozen gA.out 3) | ((with_reducible refine gate_callee (f := 67) rfl ?_); refine goesL_ (some 9) rfl rfl Try.func67 (by kernel_rfl) rfl #[.slice IA AA.length JA, .slice sB DA.length tB] rfl q6_10 ?_; (with_reducible refine (laws_eqCallS.calls k _ _ AA _ _ DA false _ ?side1 ?side2 ?side3 ?side4 A3.out).mono ?_); (case side1 => exact q6_14); (case side2 => exact TB.out); (case side3 => exact q6_15); (case side4 => exact UB.out); rintro e gO ⟨rfl, hb⟩; refine ⟨_, rfl, ?_⟩; have nA := Aside0.mk (blk_below (g := hA) (o := .cells #[.slice IA AA.length JA, .int .i64 jA, .slice TA BA.length UA, .slice WA CA.length XA] 55 (0, 0)) q6_7 hb); have oA := Aside0.mk (blk_below (g := iA) (o := .cells #[.slice sB DA.length tB, .int .i64 mA, .slice uB KA.length vB, .slice zB VA.length AB] 55 (0, 0)) q6_17 hb); have pA := Aside0.mk (below_step q6_3 hb); clear fA gA HB; have fA := nA; have gA := oA; have HB := pA; clear nA oA pA; (try clear hb); (try clear hb2); (try clear hk); (try clear hi)))
  go_ret
  exact ⟨q6_9, q6_3⟩

end Go.Proofs.Ytgghglocfdcegaa.PFnExactCrewNew
