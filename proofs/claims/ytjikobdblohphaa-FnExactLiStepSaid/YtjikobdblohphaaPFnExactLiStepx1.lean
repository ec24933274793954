-- Written by the session's own patched copy of the printer (wip/patch_print.py).
import Derived.Test.YtjikobdblohphaaPFnExactLiStepx0
namespace Go.Proofs.Ytjikobdblohphaa.PFnExactLiStep
open Go.RowKit Go.Proofs.YtjikobdblohphaaW.PrintWords Go.Proofs.YtjikobdblohphaaW.PrintLast Go.Proofs.YtjikobdblohphaaW.PrintMore
attribute [local go_sem] max2_int min2_int max_two min_two max_three min_three max_four min_four   -- for this text's walks alone
set_option linter.unusedVariables false
set_option linter.unusedSimpArgs false

theorem Z1a {w : World} {g : Nat} {t : TypeId} {cs : Array Value} (h : w.heap[g]? = some (.cells cs t (0, 0))) (i : Nat) (v : Value) (e : cs[i]? = some v := by rfl) : w.cell? ⟨g, i, none⟩ = some v := (blk_cell h i).trans e
theorem Z1c {p : Prop} (h : p) : Aside0 p := ⟨h⟩
theorem Z1b {w : World} {g : Nat} {t : TypeId} {cs : Array Value} (h : w.heap[g]? = some (.cells cs t (0, 0))) (i : Nat) : w.frozen? ⟨g, i, none⟩ = false := blk_frozen h i
theorem Z1f {p : Prop} (h : p := by repeat (first | (with_reducible first | exact HB.out | apply below_alloc | apply pw_below_drewN | apply below_drew1) | exact HB.out)) : p := h
theorem Z1l {p : Prop} (h : p := by repeat (first | (with_reducible first | exact HB.out | apply below_alloc | apply pw_below_drewN | apply below_drew1 | refine below_set ?_ QA.out) | exact HB.out)) : p := h
theorem Z1k {p : Prop} (h : p := by (with_reducible repeat (first | refine blk_drewN ?_ _ | refine blk_drew ?_ | refine blk_alloc ?_ _)); exact aA.out) : p := h
theorem Z1n {p : Prop} (h : p := by rw [hg]; exact Nat.ne_of_lt (blk_lt (g := cA) (o := .cells #[.int .i64 iA, .int .i64 jA, .int .i64 kA, .int .i64 lA, .int .i64 mA, .int .i64 nA, .int .i64 oA, .int .i64 qA, .int .i64 rA, .bool pA] 23 (0, 0)) Z1k)) : p := h
theorem Z1o {p : Prop} (h : p := by rw [hg]; exact Nat.ne_of_gt (blk_lt (g := cA) (o := .cells #[.int .i64 iA, .int .i64 jA, .int .i64 kA, .int .i64 lA, .int .i64 mA, .int .i64 nA, .int .i64 oA, .int .i64 qA, .int .i64 rA, .bool pA] 23 (0, 0)) Z1k)) : p := h
theorem Z1m {p : Prop} (h : p := by repeat (first | (with_reducible first | exact HB.out | apply below_alloc | apply pw_below_drewN | apply below_drew1 | refine below_set ?_ QA.out | refine below_set ?_ SA.out) | exact HB.out)) : p := h
theorem Z1h {p : Prop} (h : p := by first | rfl | (simp [errW_none, errW_some] <;> rfl) | (simp [*, errW_none, errW_some] <;> rfl)) : p := h
theorem Z1d {p : Prop} (h : p := by rw [hg]; exact (below_size Z1f)) : p := h
theorem Z1p {p : Prop} (h : p := by (try simp only [List.map_toArray, List.map_cons, List.map_nil]); first | done | rfl | (simp only [List.length_drop, List.length_take]; rfl)) : p := h
theorem Z1e {p : Prop} (h : p := by first | rfl | (simp; done) | (simp [*]; done)) : p := h
theorem Z1i {p : Prop} (h : p := by repeat (first | exact Drawn0.refl _ | apply Drawn0.step)) : p := h
theorem Z1q {p : Prop} (h : p := by repeat (first | exact (Kd.C_below EB.out HB.out) | (with_reducible refine Kd.C_alloc ?_ _) | (with_reducible refine Kd.C_drewN ?_ _) | (with_reducible refine Kd.C_drew ?_))) : p := h
theorem Z1s {p : Prop} (h : p := by repeat (first | (with_reducible first | exact HB.out | apply below_alloc | apply pw_below_drewN | apply below_drew1 | refine below_set ?_ yB.out) | exact HB.out)) : p := h
theorem Z1g {p : Prop} (h : p := by rw [hg]; exact (below_size Z1l)) : p := h
theorem Z1j {p : Prop} (h : p := by first | (with_reducible assumption) | assumption) : p := h
theorem Z1r {p : Prop} (h : p := by (with_reducible repeat (first | refine blk_drewN ?_ _ | refine blk_drew ?_ | refine blk_alloc ?_ _)); exact VA.out) : p := h
theorem Z1u {p : Prop} (h : p := by (with_reducible repeat (first | refine blk_drewN ?_ _ | refine blk_drew ?_ | refine blk_alloc ?_ _)); exact wA.out) : p := h
theorem Z1t {p : Prop} (h : p := by repeat (first | (with_reducible first | exact HK.out | apply Kept.alloc | apply Kept.drewN | apply Kept.drew) | exact HK.out)) : p := h
theorem Z1v {p : Prop} (h : p := by repeat (first | (with_reducible first | exact HB.out | apply below_alloc | apply pw_below_drewN | apply below_drew1 | refine below_set ?_ FB.out | refine below_set ?_ VB.out) | exact HB.out)) : p := h
theorem Z1w {p : Prop} (h : p := by repeat (first | (with_reducible first | exact HB.out | apply below_alloc | apply pw_below_drewN | apply below_drew1 | refine below_set ?_ FB.out) | exact HB.out)) : p := h
theorem Z1y {p : Prop} (h : p := by rw [hg]; exact Nat.ne_of_lt (blk_lt (g := WA) (o := .cells #[.int .i64 iA, .int .i64 jA, .int .i64 kA, .int .i64 lA, .int .i64 mA, .int .i64 nA, .int .i64 oA, .int .i64 qA, .int .i64 rA, .bool pA] 35 (0, 0)) Z1u)) : p := h
theorem Z1z {p : Prop} (h : p := by rw [hg]; exact Nat.ne_of_gt (blk_lt (g := WA) (o := .cells #[.int .i64 iA, .int .i64 jA, .int .i64 kA, .int .i64 lA, .int .i64 mA, .int .i64 nA, .int .i64 oA, .int .i64 qA, .int .i64 rA, .bool pA] 35 (0, 0)) Z1u)) : p := h
theorem Z1x {p : Prop} (h : p := by (with_reducible repeat (first | refine blk_drewN ?_ _ | refine blk_drew ?_ | refine blk_alloc ?_ _)); exact xA.out) : p := h
/-! ### laws_eqCall: function 13 -/
def laws_eqCall.f (iA : Int) (jA : Int) (kA : Int) (lA : Int) (mA : Int) (nA : Int) (oA : Int) (qA : Int) (rA : Int) (pA : Bool) (zA : Int) (AA : Int) (BA : Int) (CA : Int) (DA : Int) (EA : Int) (FA : Int) (GA : Int) (IA : Int) (yA : Bool) : Option (Bool) := if iA = zA then (if jA = AA then (if kA = BA then (if lA = CA then (if mA = DA then (if nA = EA then (if oA = FA then (if qA = GA then (if rA = IA then (if (pA != yA) = true then (some false) else (some true)) else (some false)) else (some false)) else (some false)) else (some false)) else (some false)) else (some false)) else (some false)) else (some false)) else (some false)
set_option maxHeartbeats 8000000 in
set_option maxRecDepth 100000 in
theorem laws_eqCall.calls (iA : Int) (jA : Int) (kA : Int) (lA : Int) (mA : Int) (nA : Int) (oA : Int) (qA : Int) (rA : Int) (pA : Bool) (zA : Int) (AA : Int) (BA : Int) (CA : Int) (DA : Int) (EA : Int) (FA : Int) (GA : Int) (IA : Int) (yA : Bool) (r : Bool) (w : World) (h : laws_eqCall.f iA jA kA lA mA nA oA qA rA pA zA AA BA CA DA EA FA GA IA yA = some r) :
  Calls Try.prog 13 #[.agg #[.int .i64 iA, .int .i64 jA, .int .i64 kA, .int .i64 lA, .int .i64 mA, .int .i64 nA, .int .i64 oA, .int .i64 qA, .int .i64 rA, .bool pA], .agg #[.int .i64 zA, .int .i64 AA, .int .i64 BA, .int .i64 CA, .int .i64 DA, .int .i64 EA, .int .i64 FA, .int .i64 GA, .int .i64 IA, .bool yA]] w fun e w' => e = .returned (.bool r) ∧ Below w.heap.size w w' := by
 have hu23 := Try.underlying23
 have HB := Z1c (Below.refl w.heap.size w)
 have H : (if iA = zA then (if jA = AA then (if kA = BA then (if lA = CA then (if mA = DA then (if nA = EA then (if oA = FA then (if qA = GA then (if rA = IA then (if (pA != yA) = true then (some false) else (some true)) else (some false)) else (some false)) else (some false)) else (some false)) else (some false)) else (some false)) else (some false)) else (some false)) else (some false)) = some r := h
 clear h
 by_cases c3 : iA = zA
 ·rw [if_pos c3] at H
  have gB : (iA == zA) = true := beq_iff_eq.mpr c3
  have QB : (iA != zA) = false := bne_eq_false_iff_eq.mpr c3
  clear c3
  by_cases c4 : jA = AA
  ·rw [if_pos c4] at H
   have iB : (jA == AA) = true := beq_iff_eq.mpr c4
   have yL : (jA != AA) = false := bne_eq_false_iff_eq.mpr c4
   clear c4
   by_cases c5 : kA = BA
   ·rw [if_pos c5] at H
    have RB : (kA == BA) = true := beq_iff_eq.mpr c5
    have dC : (kA != BA) = false := bne_eq_false_iff_eq.mpr c5
    clear c5
    by_cases c6 : lA = CA
    ·rw [if_pos c6] at H
     have lC : (lA == CA) = true := beq_iff_eq.mpr c6
     have zL : (lA != CA) = false := bne_eq_false_iff_eq.mpr c6
     clear c6
     by_cases c7 : mA = DA
     ·rw [if_pos c7] at H
      have eC : (mA == DA) = true := beq_iff_eq.mpr c7
      have fC : (mA != DA) = false := bne_eq_false_iff_eq.mpr c7
      clear c7
      by_cases c8 : nA = EA
      ·rw [if_pos c8] at H
       have AL : (nA == EA) = true := beq_iff_eq.mpr c8
       have BL : (nA != EA) = false := bne_eq_false_iff_eq.mpr c8
       clear c8
       by_cases c9 : oA = FA
       ·rw [if_pos c9] at H
        have CL : (oA == FA) = true := beq_iff_eq.mpr c9
        have DL : (oA != FA) = false := bne_eq_false_iff_eq.mpr c9
        clear c9
        by_cases c10 : qA = GA
        ·rw [if_pos c10] at H
         have mC : (qA == GA) = true := beq_iff_eq.mpr c10
         have nC : (qA != GA) = false := bne_eq_false_iff_eq.mpr c10
         clear c10
         by_cases c11 : rA = IA
         ·rw [if_pos c11] at H
          have oC : (rA == IA) = true := beq_iff_eq.mpr c11
          have pC : (rA != IA) = false := bne_eq_false_iff_eq.mpr c11
          clear c11
          by_cases c12 : (pA != yA) = true
          ·rw [if_pos c12] at H
           have qC : (pA != yA) = true := c12
           (try (have rC : decide (pA = yA) = false := by simpa using c12))
           (try (have sC : (pA == yA) = false := by simpa using c12))
           (try (have tM : ¬ (pA = yA) := by simpa using c12))
           clear c12
           obtain rfl := Option.some.inj H
           go_enter Try.func13, Try.ntmps13
           go_wp2_with (first | ((with_reducible refine gate_dst (N := 2) rfl ?_); refine box_event ?hg (N := 2) ?hd (cs := #[.int .i64 iA, .int .i64 jA, .int .i64 kA, .int .i64 lA, .int .i64 mA, .int .i64 nA, .int .i64 oA, .int .i64 qA, .int .i64 rA, .bool pA]) (t := 23) ?hr ?_; (case hd => rfl); (case hg => rfl); (case hr => first | (go_simp; done) | (go_simp; rfl)); intro cA hg pN hbox hb; have sA := Z1c (below_step Z1f hb); have tA := Z1c (hbox); have uA := Z1c ((Z1d : w.heap.size ≤ cA)); have vA := Z1c ((Z1d : w.heap.size ≤ cA)); clear HB; have HB := sA; have aA := tA; have XA := uA; have QA := vA; clear sA tA uA vA; clear hb hbox hg) | ((with_reducible refine gate_dst (N := 3) rfl ?_); refine box_event ?hg (N := 3) ?hd (cs := #[.int .i64 zA, .int .i64 AA, .int .i64 BA, .int .i64 CA, .int .i64 DA, .int .i64 EA, .int .i64 FA, .int .i64 GA, .int .i64 IA, .bool yA]) (t := 23) ?hr ?_; (case hd => rfl); (case hg => rfl); (case hr => first | (go_simp; done) | (go_simp; rfl)); intro dA hg qN hbox hb; have sA := Z1c (blk_below (g := cA) (o := .cells #[.int .i64 iA, .int .i64 jA, .int .i64 kA, .int .i64 lA, .int .i64 mA, .int .i64 nA, .int .i64 oA, .int .i64 qA, .int .i64 rA, .bool pA] 23 (0, 0)) Z1k hb); have tA := Z1c (below_step Z1l hb); have uA := Z1c (hbox); have vA := Z1c ((Z1g : w.heap.size ≤ dA)); have MA := Z1c ((Z1g : w.heap.size ≤ dA)); have NA := Z1c ((Z1n : cA ≠ dA)); have PA := Z1c ((Z1o : dA ≠ cA)); clear aA HB; have aA := sA; have HB := tA; have bA := uA; have YA := vA; have SA := MA; have eA := NA; have fA := PA; clear sA tA uA vA MA NA PA; clear hb hbox hg; have uM := eA.out; have vM := fA.out; have BC := Z1a aA.out 0 (.int .i64 iA); have CC := Z1a aA.out 1 (.int .i64 jA); have DC := Z1a aA.out 2 (.int .i64 kA); have EC := Z1a aA.out 3 (.int .i64 lA); have FC := Z1a aA.out 4 (.int .i64 mA); have GC := Z1a aA.out 5 (.int .i64 nA); have HC := Z1a aA.out 6 (.int .i64 oA); have IC := Z1a aA.out 7 (.int .i64 qA); have JC := Z1a aA.out 8 (.int .i64 rA); have KC := Z1a aA.out 9 (.bool pA); have LC := Z1b aA.out 0; have MC := Z1b aA.out 1; have NC := Z1b aA.out 2; have OC := Z1b aA.out 3; have PC := Z1b aA.out 4; have QC := Z1b aA.out 5; have RC := Z1b aA.out 6; have SC := Z1b aA.out 7; have TC := Z1b aA.out 8; have UC := Z1b aA.out 9; have VC := Z1a bA.out 0 (.int .i64 zA); have WC := Z1a bA.out 1 (.int .i64 AA); have XC := Z1a bA.out 2 (.int .i64 BA); have YC := Z1a bA.out 3 (.int .i64 CA); have ZC := Z1a bA.out 4 (.int .i64 DA); have aD := Z1a bA.out 5 (.int .i64 EA); have bD := Z1a bA.out 6 (.int .i64 FA); have cD := Z1a bA.out 7 (.int .i64 GA); have dD := Z1a bA.out 8 (.int .i64 IA); have eD := Z1a bA.out 9 (.bool yA); have fD := Z1b bA.out 0; have gD := Z1b bA.out 1; have hD := Z1b bA.out 2; have iD := Z1b bA.out 3; have jD := Z1b bA.out 4; have kD := Z1b bA.out 5; have lD := Z1b bA.out 6; have mD := Z1b bA.out 7; have nD := Z1b bA.out 8; have oD := Z1b bA.out 9))
           go_ret
           exact ⟨Z1h, Z1m⟩
          ·rw [if_neg c12] at H
           have qC : (pA != yA) = false := by simpa using c12
           (try (have rC : decide (pA = yA) = true := by simpa using c12))
           (try (have sC : (pA == yA) = true := by simpa using c12))
           clear c12
           obtain rfl := Option.some.inj H
           go_enter Try.func13, Try.ntmps13
           go_wp2_with (first | ((with_reducible refine gate_dst (N := 2) rfl ?_); refine box_event ?hg (N := 2) ?hd (cs := #[.int .i64 iA, .int .i64 jA, .int .i64 kA, .int .i64 lA, .int .i64 mA, .int .i64 nA, .int .i64 oA, .int .i64 qA, .int .i64 rA, .bool pA]) (t := 23) ?hr ?_; (case hd => rfl); (case hg => rfl); (case hr => first | (go_simp; done) | (go_simp; rfl)); intro cA hg rN hbox hb; have sA := Z1c (below_step Z1f hb); have tA := Z1c (hbox); have uA := Z1c ((Z1d : w.heap.size ≤ cA)); have vA := Z1c ((Z1d : w.heap.size ≤ cA)); clear HB; have HB := sA; have aA := tA; have XA := uA; have QA := vA; clear sA tA uA vA; clear hb hbox hg) | ((with_reducible refine gate_dst (N := 3) rfl ?_); refine box_event ?hg (N := 3) ?hd (cs := #[.int .i64 zA, .int .i64 AA, .int .i64 BA, .int .i64 CA, .int .i64 DA, .int .i64 EA, .int .i64 FA, .int .i64 GA, .int .i64 IA, .bool yA]) (t := 23) ?hr ?_; (case hd => rfl); (case hg => rfl); (case hr => first | (go_simp; done) | (go_simp; rfl)); intro dA hg sN hbox hb; have sA := Z1c (blk_below (g := cA) (o := .cells #[.int .i64 iA, .int .i64 jA, .int .i64 kA, .int .i64 lA, .int .i64 mA, .int .i64 nA, .int .i64 oA, .int .i64 qA, .int .i64 rA, .bool pA] 23 (0, 0)) Z1k hb); have tA := Z1c (below_step Z1l hb); have uA := Z1c (hbox); have vA := Z1c ((Z1g : w.heap.size ≤ dA)); have MA := Z1c ((Z1g : w.heap.size ≤ dA)); have NA := Z1c ((Z1n : cA ≠ dA)); have PA := Z1c ((Z1o : dA ≠ cA)); clear aA HB; have aA := sA; have HB := tA; have bA := uA; have YA := vA; have SA := MA; have eA := NA; have fA := PA; clear sA tA uA vA MA NA PA; clear hb hbox hg; have wM := eA.out; have xM := fA.out; have pD := Z1a aA.out 0 (.int .i64 iA); have qD := Z1a aA.out 1 (.int .i64 jA); have rD := Z1a aA.out 2 (.int .i64 kA); have sD := Z1a aA.out 3 (.int .i64 lA); have tD := Z1a aA.out 4 (.int .i64 mA); have uD := Z1a aA.out 5 (.int .i64 nA); have vD := Z1a aA.out 6 (.int .i64 oA); have wD := Z1a aA.out 7 (.int .i64 qA); have xD := Z1a aA.out 8 (.int .i64 rA); have yD := Z1a aA.out 9 (.bool pA); have zD := Z1b aA.out 0; have AD := Z1b aA.out 1; have BD := Z1b aA.out 2; have CD := Z1b aA.out 3; have DD := Z1b aA.out 4; have ED := Z1b aA.out 5; have FD := Z1b aA.out 6; have GD := Z1b aA.out 7; have HD := Z1b aA.out 8; have ID := Z1b aA.out 9; have JD := Z1a bA.out 0 (.int .i64 zA); have KD := Z1a bA.out 1 (.int .i64 AA); have LD := Z1a bA.out 2 (.int .i64 BA); have MD := Z1a bA.out 3 (.int .i64 CA); have ND := Z1a bA.out 4 (.int .i64 DA); have OD := Z1a bA.out 5 (.int .i64 EA); have PD := Z1a bA.out 6 (.int .i64 FA); have QD := Z1a bA.out 7 (.int .i64 GA); have RD := Z1a bA.out 8 (.int .i64 IA); have SD := Z1a bA.out 9 (.bool yA); have TD := Z1b bA.out 0; have UD := Z1b bA.out 1; have VD := Z1b bA.out 2; have WD := Z1b bA.out 3; have XD := Z1b bA.out 4; have YD := Z1b bA.out 5; have ZD := Z1b bA.out 6; have aE := Z1b bA.out 7; have bE := Z1b bA.out 8; have cE := Z1b bA.out 9))
           go_ret
           exact ⟨Z1h, Z1m⟩
         ·rw [if_neg c11] at H
          have oC : (rA == IA) = false := beq_eq_false_iff_ne.mpr c11
          have pC : (rA != IA) = true := bne_iff_ne.mpr c11
          obtain rfl := Option.some.inj H
          go_enter Try.func13, Try.ntmps13
          go_wp2_with (first | ((with_reducible refine gate_dst (N := 2) rfl ?_); refine box_event ?hg (N := 2) ?hd (cs := #[.int .i64 iA, .int .i64 jA, .int .i64 kA, .int .i64 lA, .int .i64 mA, .int .i64 nA, .int .i64 oA, .int .i64 qA, .int .i64 rA, .bool pA]) (t := 23) ?hr ?_; (case hd => rfl); (case hg => rfl); (case hr => first | (go_simp; done) | (go_simp; rfl)); intro cA hg tN hbox hb; have sA := Z1c (below_step Z1f hb); have tA := Z1c (hbox); have uA := Z1c ((Z1d : w.heap.size ≤ cA)); have vA := Z1c ((Z1d : w.heap.size ≤ cA)); clear HB; have HB := sA; have aA := tA; have XA := uA; have QA := vA; clear sA tA uA vA; clear hb hbox hg) | ((with_reducible refine gate_dst (N := 3) rfl ?_); refine box_event ?hg (N := 3) ?hd (cs := #[.int .i64 zA, .int .i64 AA, .int .i64 BA, .int .i64 CA, .int .i64 DA, .int .i64 EA, .int .i64 FA, .int .i64 GA, .int .i64 IA, .bool yA]) (t := 23) ?hr ?_; (case hd => rfl); (case hg => rfl); (case hr => first | (go_simp; done) | (go_simp; rfl)); intro dA hg uN hbox hb; have sA := Z1c (blk_below (g := cA) (o := .cells #[.int .i64 iA, .int .i64 jA, .int .i64 kA, .int .i64 lA, .int .i64 mA, .int .i64 nA, .int .i64 oA, .int .i64 qA, .int .i64 rA, .bool pA] 23 (0, 0)) Z1k hb); have tA := Z1c (below_step Z1l hb); have uA := Z1c (hbox); have vA := Z1c ((Z1g : w.heap.size ≤ dA)); have MA := Z1c ((Z1g : w.heap.size ≤ dA)); have NA := Z1c ((Z1n : cA ≠ dA)); have PA := Z1c ((Z1o : dA ≠ cA)); clear aA HB; have aA := sA; have HB := tA; have bA := uA; have YA := vA; have SA := MA; have eA := NA; have fA := PA; clear sA tA uA vA MA NA PA; clear hb hbox hg; have yM := eA.out; have zM := fA.out; have dE := Z1a aA.out 0 (.int .i64 iA); have eE := Z1a aA.out 1 (.int .i64 jA); have fE := Z1a aA.out 2 (.int .i64 kA); have gE := Z1a aA.out 3 (.int .i64 lA); have hE := Z1a aA.out 4 (.int .i64 mA); have iE := Z1a aA.out 5 (.int .i64 nA); have jE := Z1a aA.out 6 (.int .i64 oA); have kE := Z1a aA.out 7 (.int .i64 qA); have lE := Z1a aA.out 8 (.int .i64 rA); have mE := Z1a aA.out 9 (.bool pA); have nE := Z1b aA.out 0; have oE := Z1b aA.out 1; have pE := Z1b aA.out 2; have qE := Z1b aA.out 3; have rE := Z1b aA.out 4; have sE := Z1b aA.out 5; have tE := Z1b aA.out 6; have uE := Z1b aA.out 7; have vE := Z1b aA.out 8; have wE := Z1b aA.out 9; have xE := Z1a bA.out 0 (.int .i64 zA); have yE := Z1a bA.out 1 (.int .i64 AA); have zE := Z1a bA.out 2 (.int .i64 BA); have AE := Z1a bA.out 3 (.int .i64 CA); have BE := Z1a bA.out 4 (.int .i64 DA); have CE := Z1a bA.out 5 (.int .i64 EA); have DE := Z1a bA.out 6 (.int .i64 FA); have EE := Z1a bA.out 7 (.int .i64 GA); have FE := Z1a bA.out 8 (.int .i64 IA); have GE := Z1a bA.out 9 (.bool yA); have HE := Z1b bA.out 0; have IE := Z1b bA.out 1; have JE := Z1b bA.out 2; have KE := Z1b bA.out 3; have LE := Z1b bA.out 4; have ME := Z1b bA.out 5; have NE := Z1b bA.out 6; have OE := Z1b bA.out 7; have PE := Z1b bA.out 8; have QE := Z1b bA.out 9))
          go_ret
          exact ⟨Z1h, Z1m⟩
        ·rw [if_neg c10] at H
         have mC : (qA == GA) = false := beq_eq_false_iff_ne.mpr c10
         have nC : (qA != GA) = true := bne_iff_ne.mpr c10
         obtain rfl := Option.some.inj H
         go_enter Try.func13, Try.ntmps13
         go_wp2_with (first | ((with_reducible refine gate_dst (N := 2) rfl ?_); refine box_event ?hg (N := 2) ?hd (cs := #[.int .i64 iA, .int .i64 jA, .int .i64 kA, .int .i64 lA, .int .i64 mA, .int .i64 nA, .int .i64 oA, .int .i64 qA, .int .i64 rA, .bool pA]) (t := 23) ?hr ?_; (case hd => rfl); (case hg => rfl); (case hr => first | (go_simp; done) | (go_simp; rfl)); intro cA hg vN hbox hb; have sA := Z1c (below_step Z1f hb); have tA := Z1c (hbox); have uA := Z1c ((Z1d : w.heap.size ≤ cA)); have vA := Z1c ((Z1d : w.heap.size ≤ cA)); clear HB; have HB := sA; have aA := tA; have XA := uA; have QA := vA; clear sA tA uA vA; clear hb hbox hg) | ((with_reducible refine gate_dst (N := 3) rfl ?_); refine box_event ?hg (N := 3) ?hd (cs := #[.int .i64 zA, .int .i64 AA, .int .i64 BA, .int .i64 CA, .int .i64 DA, .int .i64 EA, .int .i64 FA, .int .i64 GA, .int .i64 IA, .bool yA]) (t := 23) ?hr ?_; (case hd => rfl); (case hg => rfl); (case hr => first | (go_simp; done) | (go_simp; rfl)); intro dA hg wN hbox hb; have sA := Z1c (blk_below (g := cA) (o := .cells #[.int .i64 iA, .int .i64 jA, .int .i64 kA, .int .i64 lA, .int .i64 mA, .int .i64 nA, .int .i64 oA, .int .i64 qA, .int .i64 rA, .bool pA] 23 (0, 0)) Z1k hb); have tA := Z1c (below_step Z1l hb); have uA := Z1c (hbox); have vA := Z1c ((Z1g : w.heap.size ≤ dA)); have MA := Z1c ((Z1g : w.heap.size ≤ dA)); have NA := Z1c ((Z1n : cA ≠ dA)); have PA := Z1c ((Z1o : dA ≠ cA)); clear aA HB; have aA := sA; have HB := tA; have bA := uA; have YA := vA; have SA := MA; have eA := NA; have fA := PA; clear sA tA uA vA MA NA PA; clear hb hbox hg; have AM := eA.out; have BM := fA.out; have RE := Z1a aA.out 0 (.int .i64 iA); have SE := Z1a aA.out 1 (.int .i64 jA); have TE := Z1a aA.out 2 (.int .i64 kA); have UE := Z1a aA.out 3 (.int .i64 lA); have VE := Z1a aA.out 4 (.int .i64 mA); have WE := Z1a aA.out 5 (.int .i64 nA); have XE := Z1a aA.out 6 (.int .i64 oA); have YE := Z1a aA.out 7 (.int .i64 qA); have ZE := Z1a aA.out 8 (.int .i64 rA); have aF := Z1a aA.out 9 (.bool pA); have bF := Z1b aA.out 0; have cF := Z1b aA.out 1; have dF := Z1b aA.out 2; have eF := Z1b aA.out 3; have fF := Z1b aA.out 4; have gF := Z1b aA.out 5; have hF := Z1b aA.out 6; have iF := Z1b aA.out 7; have jF := Z1b aA.out 8; have kF := Z1b aA.out 9; have lF := Z1a bA.out 0 (.int .i64 zA); have mF := Z1a bA.out 1 (.int .i64 AA); have nF := Z1a bA.out 2 (.int .i64 BA); have oF := Z1a bA.out 3 (.int .i64 CA); have pF := Z1a bA.out 4 (.int .i64 DA); have qF := Z1a bA.out 5 (.int .i64 EA); have rF := Z1a bA.out 6 (.int .i64 FA); have sF := Z1a bA.out 7 (.int .i64 GA); have tF := Z1a bA.out 8 (.int .i64 IA); have uF := Z1a bA.out 9 (.bool yA); have vF := Z1b bA.out 0; have wF := Z1b bA.out 1; have xF := Z1b bA.out 2; have yF := Z1b bA.out 3; have zF := Z1b bA.out 4; have AF := Z1b bA.out 5; have BF := Z1b bA.out 6; have CF := Z1b bA.out 7; have DF := Z1b bA.out 8; have EF := Z1b bA.out 9))
         go_ret
         exact ⟨Z1h, Z1m⟩
       ·rw [if_neg c9] at H
        have CL : (oA == FA) = false := beq_eq_false_iff_ne.mpr c9
        have DL : (oA != FA) = true := bne_iff_ne.mpr c9
        obtain rfl := Option.some.inj H
        go_enter Try.func13, Try.ntmps13
        go_wp2_with (first | ((with_reducible refine gate_dst (N := 2) rfl ?_); refine box_event ?hg (N := 2) ?hd (cs := #[.int .i64 iA, .int .i64 jA, .int .i64 kA, .int .i64 lA, .int .i64 mA, .int .i64 nA, .int .i64 oA, .int .i64 qA, .int .i64 rA, .bool pA]) (t := 23) ?hr ?_; (case hd => rfl); (case hg => rfl); (case hr => first | (go_simp; done) | (go_simp; rfl)); intro cA hg xN hbox hb; have sA := Z1c (below_step Z1f hb); have tA := Z1c (hbox); have uA := Z1c ((Z1d : w.heap.size ≤ cA)); have vA := Z1c ((Z1d : w.heap.size ≤ cA)); clear HB; have HB := sA; have aA := tA; have XA := uA; have QA := vA; clear sA tA uA vA; clear hb hbox hg) | ((with_reducible refine gate_dst (N := 3) rfl ?_); refine box_event ?hg (N := 3) ?hd (cs := #[.int .i64 zA, .int .i64 AA, .int .i64 BA, .int .i64 CA, .int .i64 DA, .int .i64 EA, .int .i64 FA, .int .i64 GA, .int .i64 IA, .bool yA]) (t := 23) ?hr ?_; (case hd => rfl); (case hg => rfl); (case hr => first | (go_simp; done) | (go_simp; rfl)); intro dA hg yN hbox hb; have sA := Z1c (blk_below (g := cA) (o := .cells #[.int .i64 iA, .int .i64 jA, .int .i64 kA, .int .i64 lA, .int .i64 mA, .int .i64 nA, .int .i64 oA, .int .i64 qA, .int .i64 rA, .bool pA] 23 (0, 0)) Z1k hb); have tA := Z1c (below_step Z1l hb); have uA := Z1c (hbox); have vA := Z1c ((Z1g : w.heap.size ≤ dA)); have MA := Z1c ((Z1g : w.heap.size ≤ dA)); have NA := Z1c ((Z1n : cA ≠ dA)); have PA := Z1c ((Z1o : dA ≠ cA)); clear aA HB; have aA := sA; have HB := tA; have bA := uA; have YA := vA; have SA := MA; have eA := NA; have fA := PA; clear sA tA uA vA MA NA PA; clear hb hbox hg; have CM := eA.out; have DM := fA.out; have FF := Z1a aA.out 0 (.int .i64 iA); have GF := Z1a aA.out 1 (.int .i64 jA); have HF := Z1a aA.out 2 (.int .i64 kA); have IF := Z1a aA.out 3 (.int .i64 lA); have JF := Z1a aA.out 4 (.int .i64 mA); have KF := Z1a aA.out 5 (.int .i64 nA); have LF := Z1a aA.out 6 (.int .i64 oA); have MF := Z1a aA.out 7 (.int .i64 qA); have NF := Z1a aA.out 8 (.int .i64 rA); have OF := Z1a aA.out 9 (.bool pA); have PF := Z1b aA.out 0; have QF := Z1b aA.out 1; have RF := Z1b aA.out 2; have SF := Z1b aA.out 3; have TF := Z1b aA.out 4; have UF := Z1b aA.out 5; have VF := Z1b aA.out 6; have WF := Z1b aA.out 7; have XF := Z1b aA.out 8; have YF := Z1b aA.out 9; have ZF := Z1a bA.out 0 (.int .i64 zA); have aG := Z1a bA.out 1 (.int .i64 AA); have bG := Z1a bA.out 2 (.int .i64 BA); have cG := Z1a bA.out 3 (.int .i64 CA); have dG := Z1a bA.out 4 (.int .i64 DA); have eG := Z1a bA.out 5 (.int .i64 EA); have fG := Z1a bA.out 6 (.int .i64 FA); have gG := Z1a bA.out 7 (.int .i64 GA); have hG := Z1a bA.out 8 (.int .i64 IA); have iG := Z1a bA.out 9 (.bool yA); have jG := Z1b bA.out 0; have kG := Z1b bA.out 1; have lG := Z1b bA.out 2; have mG := Z1b bA.out 3; have nG := Z1b bA.out 4; have oG := Z1b bA.out 5; have pG := Z1b bA.out 6; have qG := Z1b bA.out 7; have rG := Z1b bA.out 8; have sG := Z1b bA.out 9))
        go_ret
        exact ⟨Z1h, Z1m⟩
      ·rw [if_neg c8] at H
       have AL : (nA == EA) = false := beq_eq_false_iff_ne.mpr c8
       have BL : (nA != EA) = true := bne_iff_ne.mpr c8
       obtain rfl := Option.some.inj H
       go_enter Try.func13, Try.ntmps13
       go_wp2_with (first | ((with_reducible refine gate_dst (N := 2) rfl ?_); refine box_event ?hg (N := 2) ?hd (cs := #[.int .i64 iA, .int .i64 jA, .int .i64 kA, .int .i64 lA, .int .i64 mA, .int .i64 nA, .int .i64 oA, .int .i64 qA, .int .i64 rA, .bool pA]) (t := 23) ?hr ?_; (case hd => rfl); (case hg => rfl); (case hr => first | (go_simp; done) | (go_simp; rfl)); intro cA hg zN hbox hb; have sA := Z1c (below_step Z1f hb); have tA := Z1c (hbox); have uA := Z1c ((Z1d : w.heap.size ≤ cA)); have vA := Z1c ((Z1d : w.heap.size ≤ cA)); clear HB; have HB := sA; have aA := tA; have XA := uA; have QA := vA; clear sA tA uA vA; clear hb hbox hg) | ((with_reducible refine gate_dst (N := 3) rfl ?_); refine box_event ?hg (N := 3) ?hd (cs := #[.int .i64 zA, .int .i64 AA, .int .i64 BA, .int .i64 CA, .int .i64 DA, .int .i64 EA, .int .i64 FA, .int .i64 GA, .int .i64 IA, .bool yA]) (t := 23) ?hr ?_; (case hd => rfl); (case hg => rfl); (case hr => first | (go_simp; done) | (go_simp; rfl)); intro dA hg AN hbox hb; have sA := Z1c (blk_below (g := cA) (o := .cells #[.int .i64 iA, .int .i64 jA, .int .i64 kA, .int .i64 lA, .int .i64 mA, .int .i64 nA, .int .i64 oA, .int .i64 qA, .int .i64 rA, .bool pA] 23 (0, 0)) Z1k hb); have tA := Z1c (below_step Z1l hb); have uA := Z1c (hbox); have vA := Z1c ((Z1g : w.heap.size ≤ dA)); have MA := Z1c ((Z1g : w.heap.size ≤ dA)); have NA := Z1c ((Z1n : cA ≠ dA)); have PA := Z1c ((Z1o : dA ≠ cA)); clear aA HB; have aA := sA; have HB := tA; have bA := uA; have YA := vA; have SA := MA; have eA := NA; have fA := PA; clear sA tA uA vA MA NA PA; clear hb hbox hg; have EM := eA.out; have FM := fA.out; have tG := Z1a aA.out 0 (.int .i64 iA); have uG := Z1a aA.out 1 (.int .i64 jA); have vG := Z1a aA.out 2 (.int .i64 kA); have wG := Z1a aA.out 3 (.int .i64 lA); have xG := Z1a aA.out 4 (.int .i64 mA); have yG := Z1a aA.out 5 (.int .i64 nA); have zG := Z1a aA.out 6 (.int .i64 oA); have AG := Z1a aA.out 7 (.int .i64 qA); have BG := Z1a aA.out 8 (.int .i64 rA); have CG := Z1a aA.out 9 (.bool pA); have DG := Z1b aA.out 0; have EG := Z1b aA.out 1; have FG := Z1b aA.out 2; have GG := Z1b aA.out 3; have HG := Z1b aA.out 4; have IG := Z1b aA.out 5; have JG := Z1b aA.out 6; have KG := Z1b aA.out 7; have LG := Z1b aA.out 8; have MG := Z1b aA.out 9; have NG := Z1a bA.out 0 (.int .i64 zA); have OG := Z1a bA.out 1 (.int .i64 AA); have PG := Z1a bA.out 2 (.int .i64 BA); have QG := Z1a bA.out 3 (.int .i64 CA); have RG := Z1a bA.out 4 (.int .i64 DA); have SG := Z1a bA.out 5 (.int .i64 EA); have TG := Z1a bA.out 6 (.int .i64 FA); have UG := Z1a bA.out 7 (.int .i64 GA); have VG := Z1a bA.out 8 (.int .i64 IA); have WG := Z1a bA.out 9 (.bool yA); have XG := Z1b bA.out 0; have YG := Z1b bA.out 1; have ZG := Z1b bA.out 2; have aH := Z1b bA.out 3; have bH := Z1b bA.out 4; have cH := Z1b bA.out 5; have dH := Z1b bA.out 6; have eH := Z1b bA.out 7; have fH := Z1b bA.out 8; have gH := Z1b bA.out 9))
       go_ret
       exact ⟨Z1h, Z1m⟩
     ·rw [if_neg c7] at H
      have eC : (mA == DA) = false := beq_eq_false_iff_ne.mpr c7
      have fC : (mA != DA) = true := bne_iff_ne.mpr c7
      obtain rfl := Option.some.inj H
      go_enter Try.func13, Try.ntmps13
      go_wp2_with (first | ((with_reducible refine gate_dst (N := 2) rfl ?_); refine box_event ?hg (N := 2) ?hd (cs := #[.int .i64 iA, .int .i64 jA, .int .i64 kA, .int .i64 lA, .int .i64 mA, .int .i64 nA, .int .i64 oA, .int .i64 qA, .int .i64 rA, .bool pA]) (t := 23) ?hr ?_; (case hd => rfl); (case hg => rfl); (case hr => first | (go_simp; done) | (go_simp; rfl)); intro cA hg BN hbox hb; have sA := Z1c (below_step Z1f hb); have tA := Z1c (hbox); have uA := Z1c ((Z1d : w.heap.size ≤ cA)); have vA := Z1c ((Z1d : w.heap.size ≤ cA)); clear HB; have HB := sA; have aA := tA; have XA := uA; have QA := vA; clear sA tA uA vA; clear hb hbox hg) | ((with_reducible refine gate_dst (N := 3) rfl ?_); refine box_event ?hg (N := 3) ?hd (cs := #[.int .i64 zA, .int .i64 AA, .int .i64 BA, .int .i64 CA, .int .i64 DA, .int .i64 EA, .int .i64 FA, .int .i64 GA, .int .i64 IA, .bool yA]) (t := 23) ?hr ?_; (case hd => rfl); (case hg => rfl); (case hr => first | (go_simp; done) | (go_simp; rfl)); intro dA hg CN hbox hb; have sA := Z1c (blk_below (g := cA) (o := .cells #[.int .i64 iA, .int .i64 jA, .int .i64 kA, .int .i64 lA, .int .i64 mA, .int .i64 nA, .int .i64 oA, .int .i64 qA, .int .i64 rA, .bool pA] 23 (0, 0)) Z1k hb); have tA := Z1c (below_step Z1l hb); have uA := Z1c (hbox); have vA := Z1c ((Z1g : w.heap.size ≤ dA)); have MA := Z1c ((Z1g : w.heap.size ≤ dA)); have NA := Z1c ((Z1n : cA ≠ dA)); have PA := Z1c ((Z1o : dA ≠ cA)); clear aA HB; have aA := sA; have HB := tA; have bA := uA; have YA := vA; have SA := MA; have eA := NA; have fA := PA; clear sA tA uA vA MA NA PA; clear hb hbox hg; have GM := eA.out; have HM := fA.out; have hH := Z1a aA.out 0 (.int .i64 iA); have iH := Z1a aA.out 1 (.int .i64 jA); have jH := Z1a aA.out 2 (.int .i64 kA); have kH := Z1a aA.out 3 (.int .i64 lA); have lH := Z1a aA.out 4 (.int .i64 mA); have mH := Z1a aA.out 5 (.int .i64 nA); have nH := Z1a aA.out 6 (.int .i64 oA); have oH := Z1a aA.out 7 (.int .i64 qA); have pH := Z1a aA.out 8 (.int .i64 rA); have qH := Z1a aA.out 9 (.bool pA); have rH := Z1b aA.out 0; have sH := Z1b aA.out 1; have tH := Z1b aA.out 2; have uH := Z1b aA.out 3; have vH := Z1b aA.out 4; have wH := Z1b aA.out 5; have xH := Z1b aA.out 6; have yH := Z1b aA.out 7; have zH := Z1b aA.out 8; have AH := Z1b aA.out 9; have BH := Z1a bA.out 0 (.int .i64 zA); have CH := Z1a bA.out 1 (.int .i64 AA); have DH := Z1a bA.out 2 (.int .i64 BA); have EH := Z1a bA.out 3 (.int .i64 CA); have FH := Z1a bA.out 4 (.int .i64 DA); have GH := Z1a bA.out 5 (.int .i64 EA); have HH := Z1a bA.out 6 (.int .i64 FA); have IH := Z1a bA.out 7 (.int .i64 GA); have JH := Z1a bA.out 8 (.int .i64 IA); have KH := Z1a bA.out 9 (.bool yA); have LH := Z1b bA.out 0; have MH := Z1b bA.out 1; have NH := Z1b bA.out 2; have OH := Z1b bA.out 3; have PH := Z1b bA.out 4; have QH := Z1b bA.out 5; have RH := Z1b bA.out 6; have SH := Z1b bA.out 7; have TH := Z1b bA.out 8; have UH := Z1b bA.out 9))
      go_ret
      exact ⟨Z1h, Z1m⟩
    ·rw [if_neg c6] at H
     have lC : (lA == CA) = false := beq_eq_false_iff_ne.mpr c6
     have zL : (lA != CA) = true := bne_iff_ne.mpr c6
     obtain rfl := Option.some.inj H
     go_enter Try.func13, Try.ntmps13
     go_wp2_with (first | ((with_reducible refine gate_dst (N := 2) rfl ?_); refine box_event ?hg (N := 2) ?hd (cs := #[.int .i64 iA, .int .i64 jA, .int .i64 kA, .int .i64 lA, .int .i64 mA, .int .i64 nA, .int .i64 oA, .int .i64 qA, .int .i64 rA, .bool pA]) (t := 23) ?hr ?_; (case hd => rfl); (case hg => rfl); (case hr => first | (go_simp; done) | (go_simp; rfl)); intro cA hg DN hbox hb; have sA := Z1c (below_step Z1f hb); have tA := Z1c (hbox); have uA := Z1c ((Z1d : w.heap.size ≤ cA)); have vA := Z1c ((Z1d : w.heap.size ≤ cA)); clear HB; have HB := sA; have aA := tA; have XA := uA; have QA := vA; clear sA tA uA vA; clear hb hbox hg) | ((with_reducible refine gate_dst (N := 3) rfl ?_); refine box_event ?hg (N := 3) ?hd (cs := #[.int .i64 zA, .int .i64 AA, .int .i64 BA, .int .i64 CA, .int .i64 DA, .int .i64 EA, .int .i64 FA, .int .i64 GA, .int .i64 IA, .bool yA]) (t := 23) ?hr ?_; (case hd => rfl); (case hg => rfl); (case hr => first | (go_simp; done) | (go_simp; rfl)); intro dA hg EN hbox hb; have sA := Z1c (blk_below (g := cA) (o := .cells #[.int .i64 iA, .int .i64 jA, .int .i64 kA, .int .i64 lA, .int .i64 mA, .int .i64 nA, .int .i64 oA, .int .i64 qA, .int .i64 rA, .bool pA] 23 (0, 0)) Z1k hb); have tA := Z1c (below_step Z1l hb); have uA := Z1c (hbox); have vA := Z1c ((Z1g : w.heap.size ≤ dA)); have MA := Z1c ((Z1g : w.heap.size ≤ dA)); have NA := Z1c ((Z1n : cA ≠ dA)); have PA := Z1c ((Z1o : dA ≠ cA)); clear aA HB; have aA := sA; have HB := tA; have bA := uA; have YA := vA; have SA := MA; have eA := NA; have fA := PA; clear sA tA uA vA MA NA PA; clear hb hbox hg; have IM := eA.out; have JM := fA.out; have VH := Z1a aA.out 0 (.int .i64 iA); have WH := Z1a aA.out 1 (.int .i64 jA); have XH := Z1a aA.out 2 (.int .i64 kA); have YH := Z1a aA.out 3 (.int .i64 lA); have ZH := Z1a aA.out 4 (.int .i64 mA); have aI := Z1a aA.out 5 (.int .i64 nA); have bI := Z1a aA.out 6 (.int .i64 oA); have cI := Z1a aA.out 7 (.int .i64 qA); have dI := Z1a aA.out 8 (.int .i64 rA); have eI := Z1a aA.out 9 (.bool pA); have fI := Z1b aA.out 0; have gI := Z1b aA.out 1; have hI := Z1b aA.out 2; have iI := Z1b aA.out 3; have jI := Z1b aA.out 4; have kI := Z1b aA.out 5; have lI := Z1b aA.out 6; have mI := Z1b aA.out 7; have nI := Z1b aA.out 8; have oI := Z1b aA.out 9; have pI := Z1a bA.out 0 (.int .i64 zA); have qI := Z1a bA.out 1 (.int .i64 AA); have rI := Z1a bA.out 2 (.int .i64 BA); have sI := Z1a bA.out 3 (.int .i64 CA); have tI := Z1a bA.out 4 (.int .i64 DA); have uI := Z1a bA.out 5 (.int .i64 EA); have vI := Z1a bA.out 6 (.int .i64 FA); have wI := Z1a bA.out 7 (.int .i64 GA); have xI := Z1a bA.out 8 (.int .i64 IA); have yI := Z1a bA.out 9 (.bool yA); have zI := Z1b bA.out 0; have AI := Z1b bA.out 1; have BI := Z1b bA.out 2; have CI := Z1b bA.out 3; have DI := Z1b bA.out 4; have EI := Z1b bA.out 5; have FI := Z1b bA.out 6; have GI := Z1b bA.out 7; have HI := Z1b bA.out 8; have II := Z1b bA.out 9))
     go_ret
     exact ⟨Z1h, Z1m⟩
   ·rw [if_neg c5] at H
    have RB : (kA == BA) = false := beq_eq_false_iff_ne.mpr c5
    have dC : (kA != BA) = true := bne_iff_ne.mpr c5
    obtain rfl := Option.some.inj H
    go_enter Try.func13, Try.ntmps13
    go_wp2_with (first | ((with_reducible refine gate_dst (N := 2) rfl ?_); refine box_event ?hg (N := 2) ?hd (cs := #[.int .i64 iA, .int .i64 jA, .int .i64 kA, .int .i64 lA, .int .i64 mA, .int .i64 nA, .int .i64 oA, .int .i64 qA, .int .i64 rA, .bool pA]) (t := 23) ?hr ?_; (case hd => rfl); (case hg => rfl); (case hr => first | (go_simp; done) | (go_simp; rfl)); intro cA hg FN hbox hb; have sA := Z1c (below_step Z1f hb); have tA := Z1c (hbox); have uA := Z1c ((Z1d : w.heap.size ≤ cA)); have vA := Z1c ((Z1d : w.heap.size ≤ cA)); clear HB; have HB := sA; have aA := tA; have XA := uA; have QA := vA; clear sA tA uA vA; clear hb hbox hg) | ((with_reducible refine gate_dst (N := 3) rfl ?_); refine box_event ?hg (N := 3) ?hd (cs := #[.int .i64 zA, .int .i64 AA, .int .i64 BA, .int .i64 CA, .int .i64 DA, .int .i64 EA, .int .i64 FA, .int .i64 GA, .int .i64 IA, .bool yA]) (t := 23) ?hr ?_; (case hd => rfl); (case hg => rfl); (case hr => first | (go_simp; done) | (go_simp; rfl)); intro dA hg GN hbox hb; have sA := Z1c (blk_below (g := cA) (o := .cells #[.int .i64 iA, .int .i64 jA, .int .i64 kA, .int .i64 lA, .int .i64 mA, .int .i64 nA, .int .i64 oA, .int .i64 qA, .int .i64 rA, .bool pA] 23 (0, 0)) Z1k hb); have tA := Z1c (below_step Z1l hb); have uA := Z1c (hbox); have vA := Z1c ((Z1g : w.heap.size ≤ dA)); have MA := Z1c ((Z1g : w.heap.size ≤ dA)); have NA := Z1c ((Z1n : cA ≠ dA)); have PA := Z1c ((Z1o : dA ≠ cA)); clear aA HB; have aA := sA; have HB := tA; have bA := uA; have YA := vA; have SA := MA; have eA := NA; have fA := PA; clear sA tA uA vA MA NA PA; clear hb hbox hg; have KM := eA.out; have LM := fA.out; have JI := Z1a aA.out 0 (.int .i64 iA); have KI := Z1a aA.out 1 (.int .i64 jA); have LI := Z1a aA.out 2 (.int .i64 kA); have MI := Z1a aA.out 3 (.int .i64 lA); have NI := Z1a aA.out 4 (.int .i64 mA); have OI := Z1a aA.out 5 (.int .i64 nA); have PI := Z1a aA.out 6 (.int .i64 oA); have QI := Z1a aA.out 7 (.int .i64 qA); have RI := Z1a aA.out 8 (.int .i64 rA); have SI := Z1a aA.out 9 (.bool pA); have TI := Z1b aA.out 0; have UI := Z1b aA.out 1; have VI := Z1b aA.out 2; have WI := Z1b aA.out 3; have XI := Z1b aA.out 4; have YI := Z1b aA.out 5; have ZI := Z1b aA.out 6; have aJ := Z1b aA.out 7; have bJ := Z1b aA.out 8; have cJ := Z1b aA.out 9; have dJ := Z1a bA.out 0 (.int .i64 zA); have eJ := Z1a bA.out 1 (.int .i64 AA); have fJ := Z1a bA.out 2 (.int .i64 BA); have gJ := Z1a bA.out 3 (.int .i64 CA); have hJ := Z1a bA.out 4 (.int .i64 DA); have iJ := Z1a bA.out 5 (.int .i64 EA); have jJ := Z1a bA.out 6 (.int .i64 FA); have kJ := Z1a bA.out 7 (.int .i64 GA); have lJ := Z1a bA.out 8 (.int .i64 IA); have mJ := Z1a bA.out 9 (.bool yA); have nJ := Z1b bA.out 0; have oJ := Z1b bA.out 1; have pJ := Z1b bA.out 2; have qJ := Z1b bA.out 3; have rJ := Z1b bA.out 4; have sJ := Z1b bA.out 5; have tJ := Z1b bA.out 6; have uJ := Z1b bA.out 7; have vJ := Z1b bA.out 8; have wJ := Z1b bA.out 9))
    go_ret
    exact ⟨Z1h, Z1m⟩
  ·rw [if_neg c4] at H
   have iB : (jA == AA) = false := beq_eq_false_iff_ne.mpr c4
   have yL : (jA != AA) = true := bne_iff_ne.mpr c4
   obtain rfl := Option.some.inj H
   go_enter Try.func13, Try.ntmps13
   go_wp2_with (first | ((with_reducible refine gate_dst (N := 2) rfl ?_); refine box_event ?hg (N := 2) ?hd (cs := #[.int .i64 iA, .int .i64 jA, .int .i64 kA, .int .i64 lA, .int .i64 mA, .int .i64 nA, .int .i64 oA, .int .i64 qA, .int .i64 rA, .bool pA]) (t := 23) ?hr ?_; (case hd => rfl); (case hg => rfl); (case hr => first | (go_simp; done) | (go_simp; rfl)); intro cA hg HN hbox hb; have sA := Z1c (below_step Z1f hb); have tA := Z1c (hbox); have uA := Z1c ((Z1d : w.heap.size ≤ cA)); have vA := Z1c ((Z1d : w.heap.size ≤ cA)); clear HB; have HB := sA; have aA := tA; have XA := uA; have QA := vA; clear sA tA uA vA; clear hb hbox hg) | ((with_reducible refine gate_dst (N := 3) rfl ?_); refine box_event ?hg (N := 3) ?hd (cs := #[.int .i64 zA, .int .i64 AA, .int .i64 BA, .int .i64 CA, .int .i64 DA, .int .i64 EA, .int .i64 FA, .int .i64 GA, .int .i64 IA, .bool yA]) (t := 23) ?hr ?_; (case hd => rfl); (case hg => rfl); (case hr => first | (go_simp; done) | (go_simp; rfl)); intro dA hg IN hbox hb; have sA := Z1c (blk_below (g := cA) (o := .cells #[.int .i64 iA, .int .i64 jA, .int .i64 kA, .int .i64 lA, .int .i64 mA, .int .i64 nA, .int .i64 oA, .int .i64 qA, .int .i64 rA, .bool pA] 23 (0, 0)) Z1k hb); have tA := Z1c (below_step Z1l hb); have uA := Z1c (hbox); have vA := Z1c ((Z1g : w.heap.size ≤ dA)); have MA := Z1c ((Z1g : w.heap.size ≤ dA)); have NA := Z1c ((Z1n : cA ≠ dA)); have PA := Z1c ((Z1o : dA ≠ cA)); clear aA HB; have aA := sA; have HB := tA; have bA := uA; have YA := vA; have SA := MA; have eA := NA; have fA := PA; clear sA tA uA vA MA NA PA; clear hb hbox hg; have MM := eA.out; have NM := fA.out; have xJ := Z1a aA.out 0 (.int .i64 iA); have yJ := Z1a aA.out 1 (.int .i64 jA); have zJ := Z1a aA.out 2 (.int .i64 kA); have AJ := Z1a aA.out 3 (.int .i64 lA); have BJ := Z1a aA.out 4 (.int .i64 mA); have CJ := Z1a aA.out 5 (.int .i64 nA); have DJ := Z1a aA.out 6 (.int .i64 oA); have EJ := Z1a aA.out 7 (.int .i64 qA); have FJ := Z1a aA.out 8 (.int .i64 rA); have GJ := Z1a aA.out 9 (.bool pA); have HJ := Z1b aA.out 0; have IJ := Z1b aA.out 1; have JJ := Z1b aA.out 2; have KJ := Z1b aA.out 3; have LJ := Z1b aA.out 4; have MJ := Z1b aA.out 5; have NJ := Z1b aA.out 6; have OJ := Z1b aA.out 7; have PJ := Z1b aA.out 8; have QJ := Z1b aA.out 9; have RJ := Z1a bA.out 0 (.int .i64 zA); have SJ := Z1a bA.out 1 (.int .i64 AA); have TJ := Z1a bA.out 2 (.int .i64 BA); have UJ := Z1a bA.out 3 (.int .i64 CA); have VJ := Z1a bA.out 4 (.int .i64 DA); have WJ := Z1a bA.out 5 (.int .i64 EA); have XJ := Z1a bA.out 6 (.int .i64 FA); have YJ := Z1a bA.out 7 (.int .i64 GA); have ZJ := Z1a bA.out 8 (.int .i64 IA); have aK := Z1a bA.out 9 (.bool yA); have bK := Z1b bA.out 0; have cK := Z1b bA.out 1; have dK := Z1b bA.out 2; have eK := Z1b bA.out 3; have fK := Z1b bA.out 4; have gK := Z1b bA.out 5; have hK := Z1b bA.out 6; have iK := Z1b bA.out 7; have jK := Z1b bA.out 8; have kK := Z1b bA.out 9))
   go_ret
   exact ⟨Z1h, Z1m⟩
 ·rw [if_neg c3] at H
  have gB : (iA == zA) = false := beq_eq_false_iff_ne.mpr c3
  have QB : (iA != zA) = true := bne_iff_ne.mpr c3
  obtain rfl := Option.some.inj H
  go_enter Try.func13, Try.ntmps13
  go_wp2_with (first | ((with_reducible refine gate_dst (N := 2) rfl ?_); refine box_event ?hg (N := 2) ?hd (cs := #[.int .i64 iA, .int .i64 jA, .int .i64 kA, .int .i64 lA, .int .i64 mA, .int .i64 nA, .int .i64 oA, .int .i64 qA, .int .i64 rA, .bool pA]) (t := 23) ?hr ?_; (case hd => rfl); (case hg => rfl); (case hr => first | (go_simp; done) | (go_simp; rfl)); intro cA hg JN hbox hb; have sA := Z1c (below_step Z1f hb); have tA := Z1c (hbox); have uA := Z1c ((Z1d : w.heap.size ≤ cA)); have vA := Z1c ((Z1d : w.heap.size ≤ cA)); clear HB; have HB := sA; have aA := tA; have XA := uA; have QA := vA; clear sA tA uA vA; clear hb hbox hg) | ((with_reducible refine gate_dst (N := 3) rfl ?_); refine box_event ?hg (N := 3) ?hd (cs := #[.int .i64 zA, .int .i64 AA, .int .i64 BA, .int .i64 CA, .int .i64 DA, .int .i64 EA, .int .i64 FA, .int .i64 GA, .int .i64 IA, .bool yA]) (t := 23) ?hr ?_; (case hd => rfl); (case hg => rfl); (case hr => first | (go_simp; done) | (go_simp; rfl)); intro dA hg KN hbox hb; have sA := Z1c (blk_below (g := cA) (o := .cells #[.int .i64 iA, .int .i64 jA, .int .i64 kA, .int .i64 lA, .int .i64 mA, .int .i64 nA, .int .i64 oA, .int .i64 qA, .int .i64 rA, .bool pA] 23 (0, 0)) Z1k hb); have tA := Z1c (below_step Z1l hb); have uA := Z1c (hbox); have vA := Z1c ((Z1g : w.heap.size ≤ dA)); have MA := Z1c ((Z1g : w.heap.size ≤ dA)); have NA := Z1c ((Z1n : cA ≠ dA)); have PA := Z1c ((Z1o : dA ≠ cA)); clear aA HB; have aA := sA; have HB := tA; have bA := uA; have YA := vA; have SA := MA; have eA := NA; have fA := PA; clear sA tA uA vA MA NA PA; clear hb hbox hg; have OM := eA.out; have PM := fA.out; have lK := Z1a aA.out 0 (.int .i64 iA); have mK := Z1a aA.out 1 (.int .i64 jA); have nK := Z1a aA.out 2 (.int .i64 kA); have oK := Z1a aA.out 3 (.int .i64 lA); have pK := Z1a aA.out 4 (.int .i64 mA); have qK := Z1a aA.out 5 (.int .i64 nA); have rK := Z1a aA.out 6 (.int .i64 oA); have sK := Z1a aA.out 7 (.int .i64 qA); have tK := Z1a aA.out 8 (.int .i64 rA); have uK := Z1a aA.out 9 (.bool pA); have vK := Z1b aA.out 0; have wK := Z1b aA.out 1; have xK := Z1b aA.out 2; have yK := Z1b aA.out 3; have zK := Z1b aA.out 4; have AK := Z1b aA.out 5; have BK := Z1b aA.out 6; have CK := Z1b aA.out 7; have DK := Z1b aA.out 8; have EK := Z1b aA.out 9; have FK := Z1a bA.out 0 (.int .i64 zA); have GK := Z1a bA.out 1 (.int .i64 AA); have IK := Z1a bA.out 2 (.int .i64 BA); have JK := Z1a bA.out 3 (.int .i64 CA); have KK := Z1a bA.out 4 (.int .i64 DA); have LK := Z1a bA.out 5 (.int .i64 EA); have MK := Z1a bA.out 6 (.int .i64 FA); have NK := Z1a bA.out 7 (.int .i64 GA); have OK := Z1a bA.out 8 (.int .i64 IA); have PK := Z1a bA.out 9 (.bool yA); have QK := Z1b bA.out 0; have RK := Z1b bA.out 1; have SK := Z1b bA.out 2; have TK := Z1b bA.out 3; have UK := Z1b bA.out 4; have VK := Z1b bA.out 5; have WK := Z1b bA.out 6; have XK := Z1b bA.out 7; have YK := Z1b bA.out 8; have ZK := Z1b bA.out 9))
  go_ret
  exact ⟨Z1h, Z1m⟩

/-! ### laws_eqIntS: function 29 -/
def laws_eqIntS.l0 : Nat → List Int → List Int → Int → Option (Bool)
 | 0, _, _, _ => none
 | k + 1, x0, x1, x5 => if x5 < (x0.length : Int) then (if 0 ≤ x5 then (if x5 < (x1.length : Int) then (if (rd x0 x5) = (rd x1 x5) then (laws_eqIntS.l0 k x0 x1 (wrap64 (x5 + 1))) else (some false)) else (none)) else (none)) else (some true)
def laws_eqIntS.f (k : Nat) (l0 : List Int) (l1 : List Int) : Option (Bool) := if (l0.length : Int) = (l1.length : Int) then (laws_eqIntS.l0 k l0 l1 0) else (some false)
theorem laws_eqIntS.mono_l : ∀ k, (∀ y0 y1 y2, LeO (laws_eqIntS.l0 k y0 y1 y2) (laws_eqIntS.l0 (k + 1) y0 y1 y2))
 | 0 => fun _ _ _ r h => by simp [laws_eqIntS.l0] at h
 | k + 1 => by
  have ih0 := laws_eqIntS.mono_l k
  ·intro y0 y1 y2
   unfold laws_eqIntS.l0
   repeat' first
   | (with_reducible exact ih0 _ _ _)
   | (with_reducible exact LeO.refl _)
   | (with_reducible exact LeO.none _)
   | (with_reducible refine LeO.ite ?_ ?_)
   | (with_reducible refine LeO.bind ?_ (fun _ => ?_))
   | exact ih0 _ _ _
   | exact LeO.none _
   | refine LeO.ite ?_ ?_
   | refine LeO.bind ?_ (fun _ => ?_)
theorem laws_eqIntS.mono : ∀ a0 a1 k, LeO (laws_eqIntS.f k a0 a1) (laws_eqIntS.f (k + 1) a0 a1) := by
 intro a0 a1 k
 have ih0 := laws_eqIntS.mono_l k
 unfold laws_eqIntS.f
 repeat' first
   | (with_reducible exact ih0 _ _ _)
   | (with_reducible exact LeO.refl _)
   | (with_reducible exact LeO.none _)
   | (with_reducible refine LeO.ite ?_ ?_)
   | (with_reducible refine LeO.bind ?_ (fun _ => ?_))
   | exact ih0 _ _ _
   | exact LeO.none _
   | refine LeO.ite ?_ ?_
   | refine LeO.bind ?_ (fun _ => ?_)
set_option maxHeartbeats 8000000 in
set_option maxRecDepth 100000 in
theorem laws_eqIntS.calls (k : Nat) (A0 : Option Addr) (c0 : Nat) (l0 : List Int) (A1 : Option Addr) (c1 : Nat) (l1 : List Int) (r : Bool) (w : World) (hr0 : Kd.C (Kd.int .i64) w A0 l0.length l0) (hc0 : l0.length ≤ c0) (hr1 : Kd.C (Kd.int .i64) w A1 l1.length l1) (hc1 : l1.length ≤ c1) (h : laws_eqIntS.f k l0 l1 = some r) :
  Calls Try.prog 29 #[.slice A0 l0.length c0, .slice A1 l1.length c1] w fun e w' => e = .returned (.bool r) ∧ Drawn0 w w' := by
 have HR0 := Z1c hr0
 clear hr0 hc0
 have HR1 := Z1c hr1
 clear hr1 hc1
 have H : (if (l0.length : Int) = (l1.length : Int) then (laws_eqIntS.l0 k l0 l1 0) else (some false)) = some r := h
 clear h
 by_cases c3 : (l0.length : Int) = (l1.length : Int)
 ·rw [if_pos c3] at H
  have gB : ((l0.length : Int) == (l1.length : Int)) = true := beq_iff_eq.mpr c3
  have QB : ((l0.length : Int) != (l1.length : Int)) = false := bne_eq_false_iff_eq.mpr c3
  have tC : (l0.length == l1.length) = true := by first | simpa using c3 | (simp at c3 ⊢; omega)
  clear c3
  have H' := Z1c H
  clear H
  go_enter Try.func29, Try.ntmps29
  go_wp2
  repeat (go_quiet (fail); try go_wp2)
  go_loopg [5] k (fun kq v5 w' => ∃ (gA : Int), v5 = .int .i64 gA ∧ Aside0 (laws_eqIntS.l0 kq l0 l1 gA = some r) ∧ Aside0 (kq ≤ k) ∧ Drawn0 w w')
  case atStart => exact ⟨(0), Z1e, H', ⟨Nat.le_refl _⟩, Z1i⟩
  case round =>
   clear H'
   (try clear c1); (try clear c2); (try clear p2); (try clear c3); (try clear gB); (try clear QB); (try clear tC)
   obtain ⟨gA, rfl, HA, HK1, ⟨m1, rfl⟩⟩ := hrel
   cases gk with
   | zero => exact absurd HA.out (by simp [laws_eqIntS.l0])
   | succ k1 =>
    have H := HA.out
    clear HA
    simp only [laws_eqIntS.l0] at H
    by_cases c4 : gA < (l0.length : Int)
    ·rw [if_pos c4] at H
     have iB : decide (gA < (l0.length : Int)) = true := decide_eq_true c4
     clear c4
     by_cases c5 : 0 ≤ gA
     ·rw [if_pos c5] at H
      have RB : decide (0 ≤ gA) = true := decide_eq_true c5
      clear c5
      by_cases c6 : gA < (l1.length : Int)
      ·rw [if_pos c6] at H
       have lC : decide (gA < (l1.length : Int)) = true := decide_eq_true c6
       clear c6
       by_cases c7 : (rd l0 gA) = (rd l1 gA)
       ·rw [if_pos c7] at H
        have eC : ((rd l0 gA) == (rd l1 gA)) = true := beq_iff_eq.mpr c7
        have fC : ((rd l0 gA) != (rd l1 gA)) = false := bne_eq_false_iff_eq.mpr c7
        clear c7
        have H' := Z1c H
        clear H
        have p103 : 0 ≤ (gA : Int) := of_decide_eq_true Z1j
        have q103 : gA < (l0.length : Int) := of_decide_eq_true Z1j
        obtain ⟨ad103, gC, SB⟩ := Kd.at_int HR0.out gA p103 q103
        cases gC
        replace p103 := eq_true p103
        replace q103 := eq_true q103
        have p104 : 0 ≤ (gA : Int) := of_decide_eq_true Z1j
        have q104 : gA < (l1.length : Int) := of_decide_eq_true Z1j
        obtain ⟨ad104, hC, TB⟩ := Kd.at_int HR1.out gA p104 q104
        cases hC
        replace p104 := eq_true p104
        replace q104 := eq_true q104
        go_wp2
        repeat (go_quiet (fail); try go_wp2)
        go_roundg k1
        case measure => have := HK1.out; omega
        case rel => exact ⟨(wrap64 (gA + 1)), Z1e, H', ⟨by have := HK1.out; omega⟩, Z1i⟩
       ·rw [if_neg c7] at H
        have eC : ((rd l0 gA) == (rd l1 gA)) = false := beq_eq_false_iff_ne.mpr c7
        have fC : ((rd l0 gA) != (rd l1 gA)) = true := bne_iff_ne.mpr c7
        obtain rfl := Option.some.inj H
        have p103 : 0 ≤ (gA : Int) := of_decide_eq_true Z1j
        have q103 : gA < (l0.length : Int) := of_decide_eq_true Z1j
        obtain ⟨ad103, gC, SB⟩ := Kd.at_int HR0.out gA p103 q103
        cases gC
        replace p103 := eq_true p103
        replace q103 := eq_true q103
        have p104 : 0 ≤ (gA : Int) := of_decide_eq_true Z1j
        have q104 : gA < (l1.length : Int) := of_decide_eq_true Z1j
        obtain ⟨ad104, hC, TB⟩ := Kd.at_int HR1.out gA p104 q104
        cases hC
        replace p104 := eq_true p104
        replace q104 := eq_true q104
        go_wp2
        repeat (go_quiet (fail); try go_wp2)
        go_ret
        exact ⟨Z1e, Z1i⟩
      ·rw [if_neg c6] at H
       exact absurd H (by simp)
     ·rw [if_neg c5] at H
      exact absurd H (by simp)
    ·rw [if_neg c4] at H
     have iB : decide (gA < (l0.length : Int)) = false := decide_eq_false c4
     clear c4
     obtain rfl := Option.some.inj H
     go_wp2
     repeat (go_quiet (fail); try go_wp2)
     go_ret
     exact ⟨Z1e, Z1i⟩
 ·rw [if_neg c3] at H
  have gB : ((l0.length : Int) == (l1.length : Int)) = false := beq_eq_false_iff_ne.mpr c3
  have QB : ((l0.length : Int) != (l1.length : Int)) = true := bne_iff_ne.mpr c3
  have tC : (l0.length == l1.length) = false := by first | simpa using c3 | (simp at c3 ⊢; omega)
  obtain rfl := Option.some.inj H
  go_enter Try.func29, Try.ntmps29
  go_wp2
  repeat (go_quiet (fail); try go_wp2)
  go_ret
  exact ⟨Z1e, Z1i⟩

/-! ### laws_eqMem: function 16 -/
def laws_eqMem.f (k : Nat) (hA : List Int) (UA : List Int) : Option (Bool) := (laws_eqIntS.f k hA UA).bind fun GB => (if GB = true then (some true) else (some false))
theorem laws_eqMem.mono : ∀ a0 a1 k, LeO (laws_eqMem.f k a0 a1) (laws_eqMem.f (k + 1) a0 a1) := by
 intro a0 a1 k
 unfold laws_eqMem.f
 repeat' first
   | (with_reducible exact laws_eqIntS.mono _ _ _)
   | (with_reducible exact LeO.refl _)
   | (with_reducible exact LeO.none _)
   | (with_reducible refine LeO.ite ?_ ?_)
   | (with_reducible refine LeO.bind ?_ (fun _ => ?_))
   | exact laws_eqIntS.mono _ _ _
   | exact LeO.none _
   | refine LeO.ite ?_ ?_
   | refine LeO.bind ?_ (fun _ => ?_)
set_option maxHeartbeats 8000000 in
set_option maxRecDepth 100000 in
theorem laws_eqMem.calls (k : Nat) (JA : Option Addr) (KA : Nat) (hA : List Int) (qB : Option Addr) (rB : Nat) (UA : List Int) (r : Bool) (w : World) (dB : Kd.C (Kd.int .i64) w JA hA.length hA) (eB : hA.length ≤ KA) (WB : Kd.C (Kd.int .i64) w qB UA.length UA) (XB : UA.length ≤ rB) (h : laws_eqMem.f k hA UA = some r) :
  Calls Try.prog 16 #[.agg #[.slice JA hA.length KA], .agg #[.slice qB UA.length rB]] w fun e w' => e = .returned (.bool r) ∧ Below w.heap.size w w' := by
 have hu29 := Try.underlying29
 have EB := Z1c dB
 have fB := Z1c eB
 clear dB eB
 have YB := Z1c WB
 have ZB := Z1c XB
 clear WB XB
 have HB := Z1c (Below.refl w.heap.size w)
 have H : ((laws_eqIntS.f k hA UA).bind fun GB => (if GB = true then (some true) else (some false))) = some r := h
 clear h
 replace H := Option.bind_eq_some_iff.mp H
 obtain ⟨GB, A30, H⟩ := H
 (try dsimp only at H)
 have A3 := Z1c A30
 clear A30
 by_cases c4 : GB = true
 ·subst c4
  rw [if_pos rfl] at H
  obtain rfl := Option.some.inj H
  go_enter Try.func16, Try.ntmps16
  go_wp2_with (first | ((with_reducible refine gate_dst (N := 2) rfl ?_); refine box_event ?hg (N := 2) ?hd (cs := #[.slice JA hA.length KA]) (t := 29) ?hr ?_; (case hd => rfl); (case hg => rfl); (case hr => first | (go_simp; done) | (go_simp; rfl)); intro OA hg w5 hbox hb; have sA := Z1c (below_step Z1f hb); have tA := Z1c (hbox); have uA := Z1c ((Z1d : w.heap.size ≤ OA)); have vA := Z1c ((Z1d : w.heap.size ≤ OA)); clear HB; have HB := sA; have VA := tA; have uC := uA; have yB := vA; clear sA tA uA vA; clear hb hbox hg) | ((with_reducible refine gate_dst (N := 3) rfl ?_); refine box_event ?hg (N := 3) ?hd (cs := #[.slice qB UA.length rB]) (t := 29) ?hr ?_; (case hd => rfl); (case hg => rfl); (case hr => first | (go_simp; done) | (go_simp; rfl)); intro aB hg w6 hbox hb; have sA := Z1c (blk_below (g := OA) (o := .cells #[.slice JA hA.length KA] 29 (0, 0)) Z1r hb); have tA := Z1c (below_step Z1s hb); have uA := Z1c (hbox); have vA := Z1c ((by rw [hg]; exact (below_size Z1s) : w.heap.size ≤ aB)); have MA := Z1c ((by rw [hg]; exact (below_size Z1s) : w.heap.size ≤ aB)); have NA := Z1c ((by rw [hg]; exact Nat.ne_of_lt (blk_lt (g := OA) (o := .cells #[.slice JA hA.length KA] 29 (0, 0)) Z1r) : OA ≠ aB)); have PA := Z1c ((by rw [hg]; exact Nat.ne_of_gt (blk_lt (g := OA) (o := .cells #[.slice JA hA.length KA] 29 (0, 0)) Z1r) : aB ≠ OA)); clear VA HB; have VA := sA; have HB := tA; have sB := uA; have vC := vA; have IB := MA; have bB := NA; have cB := PA; clear sA tA uA vA MA NA PA; clear hb hbox hg; have cN := bB.out; have dN := cB.out; have JB := Z1a VA.out 0 (.slice JA hA.length KA); have KB := Z1b VA.out 0; have iC := Z1a sB.out 0 (.slice qB UA.length rB); have jC := Z1b sB.out 0) | ((with_reducible refine gate_callee (f := 29) rfl ?_); refine goesL_ (some 9) rfl rfl Try.func29 (by kernel_rfl) rfl #[.slice JA hA.length KA, .slice qB UA.length rB] rfl Z1p ?_; (with_reducible refine (laws_eqIntS.calls k _ _ hA _ _ UA true _ ?side1 ?side2 ?side3 ?side4 A3.out).mono ?_); (case side1 => exact Z1q); (case side2 => exact fB.out); (case side3 => repeat (first | exact (Kd.C_below YB.out HB.out) | (with_reducible refine Kd.C_alloc ?_ _) | (with_reducible refine Kd.C_drewN ?_ _) | (with_reducible refine Kd.C_drew ?_))); (case side4 => exact ZB.out); rintro e w' ⟨rfl, ⟨nd, rfl⟩⟩; refine ⟨_, rfl, ?_⟩))
  go_ret
  exact ⟨Z1h, by repeat (first | (with_reducible first | exact HB.out | apply below_alloc | apply pw_below_drewN | apply below_drew1 | refine below_set ?_ yB.out | refine below_set ?_ IB.out) | exact HB.out)⟩
 ·replace c4 := Bool.eq_false_iff.mpr c4
  subst c4
  rw [if_neg (show ¬ (false = true) by decide)] at H
  obtain rfl := Option.some.inj H
  go_enter Try.func16, Try.ntmps16
  go_wp2_with (first | ((with_reducible refine gate_dst (N := 2) rfl ?_); refine box_event ?hg (N := 2) ?hd (cs := #[.slice JA hA.length KA]) (t := 29) ?hr ?_; (case hd => rfl); (case hg => rfl); (case hr => first | (go_simp; done) | (go_simp; rfl)); intro OA hg LN hbox hb; have sA := Z1c (below_step Z1f hb); have tA := Z1c (hbox); have uA := Z1c ((Z1d : w.heap.size ≤ OA)); have vA := Z1c ((Z1d : w.heap.size ≤ OA)); clear HB; have HB := sA; have VA := tA; have uC := uA; have yB := vA; clear sA tA uA vA; clear hb hbox hg) | ((with_reducible refine gate_dst (N := 3) rfl ?_); refine box_event ?hg (N := 3) ?hd (cs := #[.slice qB UA.length rB]) (t := 29) ?hr ?_; (case hd => rfl); (case hg => rfl); (case hr => first | (go_simp; done) | (go_simp; rfl)); intro aB hg MN hbox hb; have sA := Z1c (blk_below (g := OA) (o := .cells #[.slice JA hA.length KA] 29 (0, 0)) Z1r hb); have tA := Z1c (below_step Z1s hb); have uA := Z1c (hbox); have vA := Z1c ((by rw [hg]; exact (below_size Z1s) : w.heap.size ≤ aB)); have MA := Z1c ((by rw [hg]; exact (below_size Z1s) : w.heap.size ≤ aB)); have NA := Z1c ((by rw [hg]; exact Nat.ne_of_lt (blk_lt (g := OA) (o := .cells #[.slice JA hA.length KA] 29 (0, 0)) Z1r) : OA ≠ aB)); have PA := Z1c ((by rw [hg]; exact Nat.ne_of_gt (blk_lt (g := OA) (o := .cells #[.slice JA hA.length KA] 29 (0, 0)) Z1r) : aB ≠ OA)); clear VA HB; have VA := sA; have HB := tA; have sB := uA; have vC := vA; have IB := MA; have bB := NA; have cB := PA; clear sA tA uA vA MA NA PA; clear hb hbox hg; have QM := bB.out; have RM := cB.out; have aL := Z1a VA.out 0 (.slice JA hA.length KA); have bL := Z1b VA.out 0; have cL := Z1a sB.out 0 (.slice qB UA.length rB); have dL := Z1b sB.out 0) | ((with_reducible refine gate_callee (f := 29) rfl ?_); refine goesL_ (some 9) rfl rfl Try.func29 (by kernel_rfl) rfl #[.slice JA hA.length KA, .slice qB UA.length rB] rfl Z1p ?_; (with_reducible refine (laws_eqIntS.calls k _ _ hA _ _ UA false _ ?side1 ?side2 ?side3 ?side4 A3.out).mono ?_); (case side1 => exact Z1q); (case side2 => exact fB.out); (case side3 => repeat (first | exact (Kd.C_below YB.out HB.out) | (with_reducible refine Kd.C_alloc ?_ _) | (with_reducible refine Kd.C_drewN ?_ _) | (with_reducible refine Kd.C_drew ?_))); (case side4 => exact ZB.out); rintro e w' ⟨rfl, ⟨nd, rfl⟩⟩; refine ⟨_, rfl, ?_⟩))
  go_ret
  exact ⟨Z1h, by repeat (first | (with_reducible first | exact HB.out | apply below_alloc | apply pw_below_drewN | apply below_drew1 | refine below_set ?_ yB.out | refine below_set ?_ IB.out) | exact HB.out)⟩

/-! ### laws_markIntS: function 30 -/
def laws_markIntS.l0 : Nat → List Int → Int → Int → Option (Int × List Int)
 | 0, _, _, _ => none
 | k + 1, x0, x1, x5 => if x5 < (x0.length : Int) then (if 0 ≤ x5 then (laws_markIntS.l0 k (x0.set (x5 : Int).toNat x1) (wrap64 (x1 + 1)) (wrap64 (x5 + 1))) else (none)) else (some (x1, x0))
def laws_markIntS.f (k : Nat) (l0 : List Int) (a1 : Int) : Option (Int × List Int) := laws_markIntS.l0 k l0 a1 0
theorem laws_markIntS.mono_l : ∀ k, (∀ y0 y1 y2, LeO (laws_markIntS.l0 k y0 y1 y2) (laws_markIntS.l0 (k + 1) y0 y1 y2))
 | 0 => fun _ _ _ r h => by simp [laws_markIntS.l0] at h
 | k + 1 => by
  have ih0 := laws_markIntS.mono_l k
  ·intro y0 y1 y2
   unfold laws_markIntS.l0
   repeat' first
   | (with_reducible exact ih0 _ _ _)
   | (with_reducible exact LeO.refl _)
   | (with_reducible exact LeO.none _)
   | (with_reducible refine LeO.ite ?_ ?_)
   | (with_reducible refine LeO.bind ?_ (fun _ => ?_))
   | exact ih0 _ _ _
   | exact LeO.none _
   | refine LeO.ite ?_ ?_
   | refine LeO.bind ?_ (fun _ => ?_)
theorem laws_markIntS.mono : ∀ a0 a1 k, LeO (laws_markIntS.f k a0 a1) (laws_markIntS.f (k + 1) a0 a1) := by
 intro a0 a1 k
 have ih0 := laws_markIntS.mono_l k
 unfold laws_markIntS.f
 repeat' first
   | (with_reducible exact ih0 _ _ _)
   | (with_reducible exact LeO.refl _)
   | (with_reducible exact LeO.none _)
   | (with_reducible refine LeO.ite ?_ ?_)
   | (with_reducible refine LeO.bind ?_ (fun _ => ?_))
   | exact ih0 _ _ _
   | exact LeO.none _
   | refine LeO.ite ?_ ?_
   | refine LeO.bind ?_ (fun _ => ?_)
set_option maxHeartbeats 8000000 in
set_option maxRecDepth 100000 in
theorem laws_markIntS.calls (k : Nat) (P0_ : Nat → Prop) (u9000_ : Value) (l0 : List Int) (a1 : Int) (r1 : Int) (r2 : List Int) (w0 w : World) (hB : Below w0.heap.size w0 w) (ho0 : Kd.R (Kd.int .i64) 3 w w0.heap.size P0_ u9000_ l0) (h : laws_markIntS.f k l0 a1 = some (r1, r2)) :
  Calls Try.prog 30 #[u9000_, .int .i64 a1] w fun e w' => e = .returned (.int .i64 r1) ∧ Kd.R (Kd.int .i64) 3 w' w0.heap.size (fun k_ => (P0_ k_ ∨ w.heap.size ≤ k_)) u9000_ r2 ∧ Below w0.heap.size w0 w' ∧ Kept w w' (fun k_ => P0_ k_) := by
 have eN := Z1c (show Kd.R (Kd.int .i64) 3 w w0.heap.size (fun k_ => (P0_ k_ ∨ w.heap.size ≤ k_)) u9000_ l0 from Kd.R_mono ho0 (fun k_ hk => (.inl hk)))
 have HK := Z1c (Kept.refl w (fun k_ => P0_ k_))
 have HW0 := Z1c hB.size
 have HB := Z1c hB
 clear hB
 have H : (laws_markIntS.l0 k l0 a1 0) = some (r1, r2) := h
 clear h
 have H' := Z1c H
 clear H
 go_enter Try.func30, Try.ntmps30
 go_wp2
 go_loopg [1, 5] k (fun kq v1 v5 w' => ∃ (pB : List Int) (RA : Int) (gA : Int), v1 = .int .i64 RA ∧ v5 = .int .i64 gA ∧ Aside0 (laws_markIntS.l0 kq pB RA gA = some (r1, r2)) ∧ Aside0 (kq ≤ k) ∧ Aside0 (Kd.R (Kd.int .i64) 3 w' w0.heap.size (fun k_ => (P0_ k_ ∨ w.heap.size ≤ k_)) u9000_ pB) ∧ Aside0 (Kept w w' (fun k_ => P0_ k_)) ∧ Aside0 (Below w0.heap.size w0 w'))
 case atStart => exact ⟨(l0), (a1), (0), Z1e, Z1e, H', ⟨Nat.le_refl _⟩, ⟨by (with_reducible repeat (first | apply Kd.R_alloc | apply Kd.R_drewN | apply Kd.R_drew)); exact eN.out⟩, ⟨Z1t⟩, ⟨Z1f⟩⟩
 case round =>
  clear H'
  try clear p2
  obtain ⟨pB, RA, gA, rfl, rfl, HA, HK1, lB, HK, HB⟩ := hrel
  cases gk with
  | zero => exact absurd HA.out (by simp [laws_markIntS.l0])
  | succ k1 =>
   have H := HA.out
   clear HA
   simp only [laws_markIntS.l0] at H
   by_cases c3 : gA < (pB.length : Int)
   ·rw [if_pos c3] at H
    have gB : decide (gA < (pB.length : Int)) = true := decide_eq_true c3
    clear c3
    by_cases c4 : 0 ≤ gA
    ·rw [if_pos c4] at H
     have iB : decide (0 ≤ gA) = true := decide_eq_true c4
     clear c4
     obtain ⟨y108, hy108⟩ : ∃ y_ : List Int, y_ = (pB.set (gA : Int).toNat RA) := ⟨_, rfl⟩
     replace H : (laws_markIntS.l0 k1 y108 (wrap64 (RA + 1)) (wrap64 (gA + 1))) = some (r1, r2) := by first | (rw [hy108]; with_reducible exact H) | (have H2_ := (Option.bind_some _ _).symm.trans H; rw [hy108]; with_reducible exact H2_) | (have H2_ := (Option.bind_some _ _).symm.trans H; with_reducible exact H2_) | with_reducible exact H | (rw [hy108]; exact H) | exact H
     have Ny108 := Z1c hy108
     clear hy108
     have H' := Z1c H
     clear H
     obtain ⟨NN, fN, gN⟩ := Kd.R_slice lB.out
     subst gN
     have p5 : 0 ≤ (gA : Int) := of_decide_eq_true Z1j
     have q5 : (gA : Int) < ((pB.length : Int) : Int) := of_decide_eq_true Z1j
     obtain ⟨go5, ON, SM, TM, gl5, cl5, HG5⟩ := Kd.R_form lB.out (by omega)
     (first | cases SM | (injection SM with ea_ en_ ec_; (first | subst ea_ | (injection ea_ with ea_; subst ea_)); subst ec_; clear en_))
     have GB5 := Z1c TM
     have GG5 := Z1c HG5
     clear TM gl5 HG5
     obtain ⟨UM, VM⟩ := Kd.R_celln 0 lB.out (gA : Int) p5 q5
     replace p5 := eq_true p5
     replace q5 := eq_true q5
     have HP7 := Kd.R_putg lB.out (gA : Int) RA
     go_wp2_with (first | ((with_reducible refine gate_store (t := 3) (p := 15) rfl ?_); refine store_event (t := 3) (p := 15) (v := ?vo_w8) (w1 := (wr.setCell ⟨go5, (gA : Int).toNat, none⟩ (.int .i64 RA))) ?hg ?ho ?hn ?hr ?_; (case ho => rfl); (case hg => rfl); (case hn => rfl); (case hr => first | (go_simp; done) | (go_simp; rfl)); intro w8 hw; have hg : wr.grownBy w8 (some go5) := (by rw [hw]; exact HP7.2); have hp_ : Kd.R (Kd.int .i64) 3 w8 w0.heap.size (fun k_ => (P0_ k_ ∨ w.heap.size ≤ k_)) (.slice (some ⟨go5, 0, none⟩) pB.length fN) y108 := (by rw [hw, Ny108.out]; exact HP7.1); clear HP7; have sA := Z1c (hp_); have tA := Z1c ((by rw [hw]; exact below_set (HB.out) GB5.out : Below w0.heap.size w0 w8)); have uA := Z1c (Kept.of_grown (S := (fun k_ => P0_ k_)) hg Z1t (fun k_ e_ => (lB.out.1 k_ e_))); clear lB HB HK; have lB := sA; have HB := tA; have HK := uA; clear sA tA uA; clear hg hw hp_))
     go_roundg k1
     case measure => have := HK1.out; omega
     case rel => exact ⟨(y108), (wrap64 (RA + 1)), (wrap64 (gA + 1)), Z1e, Z1e, H', ⟨by have := HK1.out; omega⟩, ⟨by (with_reducible repeat (first | apply Kd.R_alloc | apply Kd.R_drewN | apply Kd.R_drew)); exact lB.out⟩, ⟨Z1t⟩, ⟨Z1f⟩⟩
    ·rw [if_neg c4] at H
     exact absurd H (by simp)
   ·rw [if_neg c3] at H
    have gB : decide (gA < (pB.length : Int)) = false := decide_eq_false c3
    clear c3
    simp only [Option.some.injEq, Prod.mk.injEq] at H
    obtain ⟨rfl, rfl⟩ := H
    obtain ⟨PN, QN, hN⟩ := Kd.R_slice lB.out
    subst hN
    go_wp2
    go_ret
    exact ⟨Z1h, by (with_reducible repeat (first | apply Kd.R_alloc | apply Kd.R_drewN | apply Kd.R_drew)); exact lB.out, Z1f, Z1t⟩

/-! ### laws_markMem: function 17 -/
def laws_markMem.f (k : Nat) (hA : List Int) (a1 : Int) : Option (Int × List Int) := (laws_markIntS.f k hA a1).bind fun tB => (some (tB.1, tB.2))
theorem laws_markMem.mono : ∀ a0 a1 k, LeO (laws_markMem.f k a0 a1) (laws_markMem.f (k + 1) a0 a1) := by
 intro a0 a1 k
 unfold laws_markMem.f
 repeat' first
   | (with_reducible exact laws_markIntS.mono _ _ _)
   | (with_reducible exact LeO.refl _)
   | (with_reducible exact LeO.none _)
   | (with_reducible refine LeO.ite ?_ ?_)
   | (with_reducible refine LeO.bind ?_ (fun _ => ?_))
   | exact laws_markIntS.mono _ _ _
   | exact LeO.none _
   | refine LeO.ite ?_ ?_
   | refine LeO.bind ?_ (fun _ => ?_)
set_option maxHeartbeats 8000000 in
set_option maxRecDepth 100000 in
theorem laws_markMem.calls (k : Nat) (P0_0_ : Nat → Prop) (u9000_ : Value) (hA : List Int) (a1 : Int) (r1 : Int) (r2 : List Int) (w0 w : World) (hB : Below w0.heap.size w0 w) (ho0_0 : Kd.R (Kd.int .i64) 3 w w0.heap.size P0_0_ u9000_ hA) (h : laws_markMem.f k hA a1 = some (r1, r2)) :
  Calls Try.prog 17 #[.agg #[u9000_], .int .i64 a1] w fun e w' => e = .returned (.int .i64 r1) ∧ Kd.R (Kd.int .i64) 3 w' w0.heap.size (fun k_ => (P0_0_ k_ ∨ w.heap.size ≤ k_)) u9000_ r2 ∧ Below w0.heap.size w0 w' ∧ Kept w w' (fun k_ => P0_0_ k_) := by
 have hu29 := Try.underlying29
 have TA := Z1c (show Kd.R (Kd.int .i64) 3 w w0.heap.size (fun k_ => (P0_0_ k_ ∨ w.heap.size ≤ k_)) u9000_ hA from Kd.R_mono ho0_0 (fun k_ hk => (.inl hk)))
 have HK := Z1c (Kept.refl w (fun k_ => P0_0_ k_))
 have HW0 := Z1c hB.size
 have HB := Z1c hB
 clear hB
 have H : ((laws_markIntS.f k hA a1).bind fun tB => (some (tB.1, tB.2))) = some (r1, r2) := h
 clear h
 replace H := Option.bind_eq_some_iff.mp H
 obtain ⟨⟨EL, FL⟩, A30, H⟩ := H
 (try dsimp only at H)
 have A3 := Z1c A30
 clear A30
 simp only [Option.some.injEq, Prod.mk.injEq] at H
 obtain ⟨rfl, rfl⟩ := H
 obtain ⟨wC, xC, iN⟩ := Kd.R_slice TA.out
 subst iN
 go_enter Try.func17, Try.ntmps17
 go_wp2_with (first | ((with_reducible refine gate_dst (N := 2) rfl ?_); refine box_event ?hg (N := 2) ?hd (cs := #[.slice wC hA.length xC]) (t := 29) ?hr ?_; (case hd => rfl); (case hg => rfl); (case hr => first | (go_simp; done) | (go_simp; rfl)); intro aC hg w5 hbox hb; have sA := Z1c (Kd.R_below (by (with_reducible repeat (first | apply Kd.R_alloc | apply Kd.R_drewN | apply Kd.R_drew)); exact TA.out) hb); have tA := Z1c (Kept.below (S := (fun k_ => P0_0_ k_)) Z1t hb); have uA := Z1c (below_step Z1f hb); have vA := Z1c (hbox); have MA := Z1c ((by rw [hg]; exact (by first | exact HK.out.1 | exact (show Kept w _ (fun k_ => P0_0_ k_) from by repeat (first | (with_reducible first | exact HK.out | apply Kept.alloc | apply Kept.drewN | apply Kept.drew) | exact HK.out)).1) : w.heap.size ≤ aC)); have NA := Z1c ((Z1d : w0.heap.size ≤ aC)); clear TA HK HB; have TA := sA; have HK := tA; have HB := uA; have mB := vA; have bC := MA; have cC := NA; clear sA tA uA vA MA NA; clear hb hbox hg; have LB := Z1a mB.out 0 (.slice wC hA.length xC); have MB := Z1b mB.out 0) | ((with_reducible refine gate_callee (f := 30) rfl ?_); refine goesL_ (some 8) rfl rfl Try.func30 (by kernel_rfl) rfl #[.slice wC hA.length xC, .int .i64 a1] rfl Z1p ?_; (with_reducible refine (laws_markIntS.calls k (fun k_ => some k_ = (.slice wC hA.length xC : Value).ownBlock) (.slice wC hA.length xC) hA a1 EL FL w0 _ ?side1 ?side2 A3.out).mono ?_); (case side1 => repeat (first | (with_reducible first | exact HB.out | apply below_alloc | apply pw_below_drewN | apply below_drew1 | refine below_set ?_ cC.out) | exact HB.out)); (case side2 => exact Kd.R_tight rfl TA.out); rintro e w7 ⟨rfl, hy0, hb, hkp⟩; refine ⟨_, rfl, ?_⟩; have sA := Z1c (Kd.R_reok rfl hy0 (fun k_ e_ => TA.out.1 k_ e_)); have tA := Z1c (blk_kept (by (with_reducible repeat (first | refine blk_drewN ?_ _ | refine blk_drew ?_ | refine blk_alloc ?_ _)); exact mB.out) hkp (fun hs_ => (fun e_ => (Kd.R_ne TA.out mB.out (by decide)) e_) hs_)); have uA := Z1c (Kept.then_ (S := (fun k_ => P0_0_ k_)) (by repeat (first | (with_reducible first | exact HK.out | apply Kept.alloc | apply Kept.drewN | apply Kept.drew | refine Kept.setCell ?_ (.inr bC.out) _) | exact HK.out)) hkp (fun k_ hs_ => (fun e_ => (TA.out.1 k_ e_.symm)) hs_)); have vA := Z1c (hb); clear TA mB HK HB; have TA := sA; have mB := tA; have HK := uA; have HB := vA; clear sA tA uA vA; (try clear hb); (try clear hkp); (try clear hy0)))
 go_ret
 exact ⟨Z1h, by (with_reducible repeat (first | apply Kd.R_alloc | apply Kd.R_drewN | apply Kd.R_drew)); exact TA.out, by repeat (first | (with_reducible first | exact HB.out | apply below_alloc | apply pw_below_drewN | apply below_drew1 | refine below_set ?_ cC.out) | exact HB.out), by repeat (first | (with_reducible first | exact HK.out | apply Kept.alloc | apply Kept.drewN | apply Kept.drew | refine Kept.setCell ?_ (.inr bC.out) _) | exact HK.out)⟩

/-! ### laws_heldIntS: function 31 -/
def laws_heldIntS.l0 : Nat → List Int → Int → Int → Option (Int)
 | 0, _, _, _ => none
 | k + 1, x0, x1, x5 => if x5 < (x0.length : Int) then (if 0 ≤ x5 then (if (rd x0 x5) = x1 then (laws_heldIntS.l0 k x0 (wrap64 (x1 + 1)) (wrap64 (x5 + 1))) else (some (-1))) else (none)) else (some x1)
def laws_heldIntS.f (k : Nat) (l0 : List Int) (a1 : Int) : Option (Int) := laws_heldIntS.l0 k l0 a1 0
theorem laws_heldIntS.mono_l : ∀ k, (∀ y0 y1 y2, LeO (laws_heldIntS.l0 k y0 y1 y2) (laws_heldIntS.l0 (k + 1) y0 y1 y2))
 | 0 => fun _ _ _ r h => by simp [laws_heldIntS.l0] at h
 | k + 1 => by
  have ih0 := laws_heldIntS.mono_l k
  ·intro y0 y1 y2
   unfold laws_heldIntS.l0
   repeat' first
   | (with_reducible exact ih0 _ _ _)
   | (with_reducible exact LeO.refl _)
   | (with_reducible exact LeO.none _)
   | (with_reducible refine LeO.ite ?_ ?_)
   | (with_reducible refine LeO.bind ?_ (fun _ => ?_))
   | exact ih0 _ _ _
   | exact LeO.none _
   | refine LeO.ite ?_ ?_
   | refine LeO.bind ?_ (fun _ => ?_)
theorem laws_heldIntS.mono : ∀ a0 a1 k, LeO (laws_heldIntS.f k a0 a1) (laws_heldIntS.f (k + 1) a0 a1) := by
 intro a0 a1 k
 have ih0 := laws_heldIntS.mono_l k
 unfold laws_heldIntS.f
 repeat' first
   | (with_reducible exact ih0 _ _ _)
   | (with_reducible exact LeO.refl _)
   | (with_reducible exact LeO.none _)
   | (with_reducible refine LeO.ite ?_ ?_)
   | (with_reducible refine LeO.bind ?_ (fun _ => ?_))
   | exact ih0 _ _ _
   | exact LeO.none _
   | refine LeO.ite ?_ ?_
   | refine LeO.bind ?_ (fun _ => ?_)
set_option maxHeartbeats 8000000 in
set_option maxRecDepth 100000 in
theorem laws_heldIntS.calls (k : Nat) (A0 : Option Addr) (c0 : Nat) (l0 : List Int) (a1 : Int) (r : Int) (w : World) (hr0 : Kd.C (Kd.int .i64) w A0 l0.length l0) (hc0 : l0.length ≤ c0) (h : laws_heldIntS.f k l0 a1 = some r) :
  Calls Try.prog 31 #[.slice A0 l0.length c0, .int .i64 a1] w fun e w' => e = .returned (.int .i64 r) ∧ Drawn0 w w' := by
 have HR0 := Z1c hr0
 clear hr0 hc0
 have H : (laws_heldIntS.l0 k l0 a1 0) = some r := h
 clear h
 have H' := Z1c H
 clear H
 go_enter Try.func31, Try.ntmps31
 go_wp2
 go_loopg [1, 5] k (fun kq v1 v5 w' => ∃ (RA : Int) (gA : Int), v1 = .int .i64 RA ∧ v5 = .int .i64 gA ∧ Aside0 (laws_heldIntS.l0 kq l0 RA gA = some r) ∧ Aside0 (kq ≤ k) ∧ Drawn0 w w')
 case atStart => exact ⟨(a1), (0), Z1e, Z1e, H', ⟨Nat.le_refl _⟩, Z1i⟩
 case round =>
  clear H'
  try clear p2
  obtain ⟨RA, gA, rfl, rfl, HA, HK1, ⟨m1, rfl⟩⟩ := hrel
  cases gk with
  | zero => exact absurd HA.out (by simp [laws_heldIntS.l0])
  | succ k1 =>
   have H := HA.out
   clear HA
   simp only [laws_heldIntS.l0] at H
   by_cases c3 : gA < (l0.length : Int)
   ·rw [if_pos c3] at H
    have gB : decide (gA < (l0.length : Int)) = true := decide_eq_true c3
    clear c3
    by_cases c4 : 0 ≤ gA
    ·rw [if_pos c4] at H
     have iB : decide (0 ≤ gA) = true := decide_eq_true c4
     clear c4
     by_cases c5 : (rd l0 gA) = RA
     ·rw [if_pos c5] at H
      have RB : ((rd l0 gA) == RA) = true := beq_iff_eq.mpr c5
      have dC : ((rd l0 gA) != RA) = false := bne_eq_false_iff_eq.mpr c5
      clear c5
      have H' := Z1c H
      clear H
      have p112 : 0 ≤ (gA : Int) := of_decide_eq_true Z1j
      have q112 : gA < (l0.length : Int) := of_decide_eq_true Z1j
      obtain ⟨ad112, kC, UB⟩ := Kd.at_int HR0.out gA p112 q112
      cases kC
      replace p112 := eq_true p112
      replace q112 := eq_true q112
      go_wp2
      go_roundg k1
      case measure => have := HK1.out; omega
      case rel => exact ⟨(wrap64 (RA + 1)), (wrap64 (gA + 1)), Z1e, Z1e, H', ⟨by have := HK1.out; omega⟩, Z1i⟩
     ·rw [if_neg c5] at H
      have RB : ((rd l0 gA) == RA) = false := beq_eq_false_iff_ne.mpr c5
      have dC : ((rd l0 gA) != RA) = true := bne_iff_ne.mpr c5
      obtain rfl := Option.some.inj H
      have p112 : 0 ≤ (gA : Int) := of_decide_eq_true Z1j
      have q112 : gA < (l0.length : Int) := of_decide_eq_true Z1j
      obtain ⟨ad112, kC, UB⟩ := Kd.at_int HR0.out gA p112 q112
      cases kC
      replace p112 := eq_true p112
      replace q112 := eq_true q112
      go_wp2
      go_ret
      exact ⟨Z1e, Z1i⟩
    ·rw [if_neg c4] at H
     exact absurd H (by simp)
   ·rw [if_neg c3] at H
    have gB : decide (gA < (l0.length : Int)) = false := decide_eq_false c3
    clear c3
    obtain rfl := Option.some.inj H
    go_wp2
    go_ret
    exact ⟨Z1e, Z1i⟩

/-! ### laws_heldMem: function 18 -/
def laws_heldMem.f (k : Nat) (hA : List Int) (a1 : Int) : Option (Int) := (laws_heldIntS.f k hA a1).bind fun jB => (if jB < 0 then (some (-1)) else (some jB))
theorem laws_heldMem.mono : ∀ a0 a1 k, LeO (laws_heldMem.f k a0 a1) (laws_heldMem.f (k + 1) a0 a1) := by
 intro a0 a1 k
 unfold laws_heldMem.f
 repeat' first
   | (with_reducible exact laws_heldIntS.mono _ _ _)
   | (with_reducible exact LeO.refl _)
   | (with_reducible exact LeO.none _)
   | (with_reducible refine LeO.ite ?_ ?_)
   | (with_reducible refine LeO.bind ?_ (fun _ => ?_))
   | exact laws_heldIntS.mono _ _ _
   | exact LeO.none _
   | refine LeO.ite ?_ ?_
   | refine LeO.bind ?_ (fun _ => ?_)
set_option maxHeartbeats 8000000 in
set_option maxRecDepth 100000 in
theorem laws_heldMem.calls (k : Nat) (JA : Option Addr) (KA : Nat) (hA : List Int) (a1 : Int) (r : Int) (w : World) (dB : Kd.C (Kd.int .i64) w JA hA.length hA) (eB : hA.length ≤ KA) (h : laws_heldMem.f k hA a1 = some r) :
  Calls Try.prog 18 #[.agg #[.slice JA hA.length KA], .int .i64 a1] w fun e w' => e = .returned (.int .i64 r) ∧ Below w.heap.size w w' := by
 have hu29 := Try.underlying29
 have EB := Z1c dB
 have fB := Z1c eB
 clear dB eB
 have HB := Z1c (Below.refl w.heap.size w)
 have H : ((laws_heldIntS.f k hA a1).bind fun jB => (if jB < 0 then (some (-1)) else (some jB))) = some r := h
 clear h
 replace H := Option.bind_eq_some_iff.mp H
 obtain ⟨jB, A30, H⟩ := H
 (try dsimp only at H)
 have A3 := Z1c A30
 clear A30
 by_cases c4 : jB < 0
 ·rw [if_pos c4] at H
  have iB : decide (jB < 0) = true := decide_eq_true c4
  clear c4
  obtain rfl := Option.some.inj H
  go_enter Try.func18, Try.ntmps18
  go_wp2_with (first | ((with_reducible refine gate_dst (N := 2) rfl ?_); refine box_event ?hg (N := 2) ?hd (cs := #[.slice JA hA.length KA]) (t := 29) ?hr ?_; (case hd => rfl); (case hg => rfl); (case hr => first | (go_simp; done) | (go_simp; rfl)); intro uB hg w5 hbox hb; have sA := Z1c (below_step Z1f hb); have tA := Z1c (hbox); have uA := Z1c ((Z1d : w.heap.size ≤ uB)); have vA := Z1c ((Z1d : w.heap.size ≤ uB)); clear HB; have HB := sA; have vB := tA; have yC := uA; have NB := vA; clear sA tA uA vA; clear hb hbox hg; have LB := Z1a vB.out 0 (.slice JA hA.length KA); have MB := Z1b vB.out 0) | ((with_reducible refine gate_callee (f := 31) rfl ?_); refine goesL_ (some 8) rfl rfl Try.func31 (by kernel_rfl) rfl #[.slice JA hA.length KA, .int .i64 a1] rfl Z1p ?_; (with_reducible refine (laws_heldIntS.calls k _ _ hA a1 jB _ ?side1 ?side2 A3.out).mono ?_); (case side1 => exact Z1q); (case side2 => exact fB.out); rintro e w' ⟨rfl, ⟨nd, rfl⟩⟩; refine ⟨_, rfl, ?_⟩))
  go_ret
  exact ⟨Z1h, by repeat (first | (with_reducible first | exact HB.out | apply below_alloc | apply pw_below_drewN | apply below_drew1 | refine below_set ?_ NB.out) | exact HB.out)⟩
 ·rw [if_neg c4] at H
  have iB : decide (jB < 0) = false := decide_eq_false c4
  clear c4
  obtain rfl := Option.some.inj H
  go_enter Try.func18, Try.ntmps18
  go_wp2_with (first | ((with_reducible refine gate_dst (N := 2) rfl ?_); refine box_event ?hg (N := 2) ?hd (cs := #[.slice JA hA.length KA]) (t := 29) ?hr ?_; (case hd => rfl); (case hg => rfl); (case hr => first | (go_simp; done) | (go_simp; rfl)); intro uB hg w7 hbox hb; have sA := Z1c (below_step Z1f hb); have tA := Z1c (hbox); have uA := Z1c ((Z1d : w.heap.size ≤ uB)); have vA := Z1c ((Z1d : w.heap.size ≤ uB)); clear HB; have HB := sA; have vB := tA; have yC := uA; have NB := vA; clear sA tA uA vA; clear hb hbox hg; have JB := Z1a vB.out 0 (.slice JA hA.length KA); have KB := Z1b vB.out 0) | ((with_reducible refine gate_callee (f := 31) rfl ?_); refine goesL_ (some 8) rfl rfl Try.func31 (by kernel_rfl) rfl #[.slice JA hA.length KA, .int .i64 a1] rfl Z1p ?_; (with_reducible refine (laws_heldIntS.calls k _ _ hA a1 jB _ ?side1 ?side2 A3.out).mono ?_); (case side1 => exact Z1q); (case side2 => exact fB.out); rintro e w' ⟨rfl, ⟨nd, rfl⟩⟩; refine ⟨_, rfl, ?_⟩))
  go_ret
  exact ⟨Z1h, by repeat (first | (with_reducible first | exact HB.out | apply below_alloc | apply pw_below_drewN | apply below_drew1 | refine below_set ?_ NB.out) | exact HB.out)⟩

/-! ### laws_toCall: function 20 -/
def laws_toCall.f (iA : Int) (jA : Int) (kA : Int) (lA : Int) (mA : Int) (nA : Int) (oA : Int) (qA : Int) (rA : Int) (pA : Bool) : Option (Int × Int × Int × Int × Int × Int × Int × Int × Int × Bool) := some (iA, jA, kA, lA, mA, nA, oA, qA, rA, pA)
set_option maxHeartbeats 8000000 in
set_option maxRecDepth 100000 in
theorem laws_toCall.calls (iA : Int) (jA : Int) (kA : Int) (lA : Int) (mA : Int) (nA : Int) (oA : Int) (qA : Int) (rA : Int) (pA : Bool) (r1 : Int) (r2 : Int) (r3 : Int) (r4 : Int) (r5 : Int) (r6 : Int) (r7 : Int) (r8 : Int) (r9 : Int) (r10 : Bool) (w : World) (h : laws_toCall.f iA jA kA lA mA nA oA qA rA pA = some (r1, r2, r3, r4, r5, r6, r7, r8, r9, r10)) :
  Calls Try.prog 20 #[.agg #[.int .i64 iA, .int .i64 jA, .int .i64 kA, .int .i64 lA, .int .i64 mA, .int .i64 nA, .int .i64 oA, .int .i64 qA, .int .i64 rA, .bool pA]] w fun e w' => e = .returned (.agg #[.int .i64 r1, .int .i64 r2, .int .i64 r3, .int .i64 r4, .int .i64 r5, .int .i64 r6, .int .i64 r7, .int .i64 r8, .int .i64 r9, .bool r10]) ∧ Below w.heap.size w w' := by
 have hu35 := Try.underlying35
 have hu23 := Try.underlying23
 have HB := Z1c (Below.refl w.heap.size w)
 have H : (some (iA, jA, kA, lA, mA, nA, oA, qA, rA, pA)) = some (r1, r2, r3, r4, r5, r6, r7, r8, r9, r10) := h
 clear h
 simp only [Option.some.injEq, Prod.mk.injEq] at H
 obtain ⟨rfl, rfl, rfl, rfl, rfl, rfl, rfl, rfl, rfl, rfl⟩ := H
 go_enter Try.func20, Try.ntmps20
 go_wp2_with (first | ((with_reducible refine gate_dst (N := 1) rfl ?_); refine box_event ?hg (N := 1) ?hd (cs := #[.int .i64 iA, .int .i64 jA, .int .i64 kA, .int .i64 lA, .int .i64 mA, .int .i64 nA, .int .i64 oA, .int .i64 qA, .int .i64 rA, .bool pA]) (t := 35) ?hr ?_; (case hd => rfl); (case hg => rfl); (case hr => first | (go_simp; done) | (go_simp; rfl)); intro WA hg w2 hbox hb; have sA := Z1c (below_step Z1f hb); have tA := Z1c (hbox); have uA := Z1c ((Z1d : w.heap.size ≤ WA)); have vA := Z1c ((Z1d : w.heap.size ≤ WA)); clear HB; have HB := sA; have wA := tA; have WM := uA; have FB := vA; clear sA tA uA vA; clear hb hbox hg) | ((with_reducible refine gate_dst (N := 2) rfl ?_); refine box_event ?hg (N := 2) ?hd (cs := #[.int .i64 0, .int .i64 0, .int .i64 0, .int .i64 0, .int .i64 0, .int .i64 0, .int .i64 0, .int .i64 0, .int .i64 0, .bool false]) (t := 23) ?hr ?_; (case hd => rfl); (case hg => rfl); (case hr => first | (go_simp; done) | (go_simp; rfl)); intro ZA hg w3 hbox hb; have sA := Z1c (blk_below (g := WA) (o := .cells #[.int .i64 iA, .int .i64 jA, .int .i64 kA, .int .i64 lA, .int .i64 mA, .int .i64 nA, .int .i64 oA, .int .i64 qA, .int .i64 rA, .bool pA] 35 (0, 0)) Z1u hb); have tA := Z1c (below_step Z1w hb); have uA := Z1c (hbox); have vA := Z1c ((by rw [hg]; exact (below_size Z1w) : w.heap.size ≤ ZA)); have MA := Z1c ((by rw [hg]; exact (below_size Z1w) : w.heap.size ≤ ZA)); have NA := Z1c ((Z1y : WA ≠ ZA)); have PA := Z1c ((Z1z : ZA ≠ WA)); clear wA HB; have wA := sA; have HB := tA; have xA := uA; have XM := vA; have VB := MA; have zB := NA; have AB := PA; clear sA tA uA vA MA NA PA; clear hb hbox hg) | ((with_reducible refine gate_dst (N := 3) rfl ?_); refine box_event ?hg (N := 3) ?hd (cs := #[.int .i64 0, .int .i64 0, .int .i64 0, .int .i64 0, .int .i64 0, .int .i64 0, .int .i64 0, .int .i64 0, .int .i64 0, .bool false]) (t := 23) ?hr ?_; (case hd => rfl); (case hg => rfl); (case hr => first | (go_simp; done) | (go_simp; rfl)); intro nB hg w4 hbox hb; have sA := Z1c (blk_below (g := WA) (o := .cells #[.int .i64 iA, .int .i64 jA, .int .i64 kA, .int .i64 lA, .int .i64 mA, .int .i64 nA, .int .i64 oA, .int .i64 qA, .int .i64 rA, .bool pA] 35 (0, 0)) Z1u hb); have tA := Z1c (blk_below (g := ZA) (o := .cells #[.int .i64 0, .int .i64 0, .int .i64 0, .int .i64 0, .int .i64 0, .int .i64 0, .int .i64 0, .int .i64 0, .int .i64 0, .bool false] 23 (0, 0)) Z1x hb); have uA := Z1c (below_step Z1v hb); have vA := Z1c (hbox); have MA := Z1c ((by rw [hg]; exact (below_size Z1v) : w.heap.size ≤ nB)); have NA := Z1c ((by rw [hg]; exact (below_size Z1v) : w.heap.size ≤ nB)); have PA := Z1c ((Z1y : WA ≠ nB)); have YM := Z1c ((Z1z : nB ≠ WA)); have ZM := Z1c ((by rw [hg]; exact Nat.ne_of_lt (blk_lt (g := ZA) (o := .cells #[.int .i64 0, .int .i64 0, .int .i64 0, .int .i64 0, .int .i64 0, .int .i64 0, .int .i64 0, .int .i64 0, .int .i64 0, .bool false] 23 (0, 0)) Z1x) : ZA ≠ nB)); have aN := Z1c ((by rw [hg]; exact Nat.ne_of_gt (blk_lt (g := ZA) (o := .cells #[.int .i64 0, .int .i64 0, .int .i64 0, .int .i64 0, .int .i64 0, .int .i64 0, .int .i64 0, .int .i64 0, .int .i64 0, .bool false] 23 (0, 0)) Z1x) : nB ≠ ZA)); clear wA xA HB; have wA := sA; have xA := tA; have HB := uA; have LA := vA; have bN := MA; have zC := NA; have BB := PA; have CB := YM; have oB := ZM; have DB := aN; clear sA tA uA vA MA NA PA YM ZM aN; clear hb hbox hg; have jN := zB.out; have kN := AB.out; have lN := BB.out; have mN := CB.out; have GL := Z1a wA.out 0 (.int .i64 iA); have HL := Z1a wA.out 1 (.int .i64 jA); have IL := Z1a wA.out 2 (.int .i64 kA); have JL := Z1a wA.out 3 (.int .i64 lA); have KL := Z1a wA.out 4 (.int .i64 mA); have LL := Z1a wA.out 5 (.int .i64 nA); have ML := Z1a wA.out 6 (.int .i64 oA); have NL := Z1a wA.out 7 (.int .i64 qA); have OL := Z1a wA.out 8 (.int .i64 rA); have PL := Z1a wA.out 9 (.bool pA); have QL := Z1b wA.out 0; have RL := Z1b wA.out 1; have SL := Z1b wA.out 2; have TL := Z1b wA.out 3; have UL := Z1b wA.out 4; have VL := Z1b wA.out 5; have WL := Z1b wA.out 6; have XL := Z1b wA.out 7; have YL := Z1b wA.out 8; have ZL := Z1b wA.out 9; have nN := DB.out; have oN := oB.out; have iC := Z1a LA.out 0 (.int .i64 0); have aM := Z1a LA.out 1 (.int .i64 0); have bM := Z1a LA.out 2 (.int .i64 0); have cM := Z1a LA.out 3 (.int .i64 0); have dM := Z1a LA.out 4 (.int .i64 0); have eM := Z1a LA.out 5 (.int .i64 0); have fM := Z1a LA.out 6 (.int .i64 0); have gM := Z1a LA.out 7 (.int .i64 0); have hM := Z1a LA.out 8 (.int .i64 0); have iM := Z1a LA.out 9 (.bool false); have jC := Z1b LA.out 0; have jM := Z1b LA.out 1; have kM := Z1b LA.out 2; have lM := Z1b LA.out 3; have mM := Z1b LA.out 4; have nM := Z1b LA.out 5; have oM := Z1b LA.out 6; have pM := Z1b LA.out 7; have qM := Z1b LA.out 8; have rM := Z1b LA.out 9; have eL := Z1a xA.out 0 (.int .i64 0); have fL := Z1a xA.out 1 (.int .i64 0); have gL := Z1a xA.out 2 (.int .i64 0); have hL := Z1a xA.out 3 (.int .i64 0); have iL := Z1a xA.out 4 (.int .i64 0); have jL := Z1a xA.out 5 (.int .i64 0); have kL := Z1a xA.out 6 (.int .i64 0); have lL := Z1a xA.out 7 (.int .i64 0); have mL := Z1a xA.out 8 (.int .i64 0); have nL := Z1a xA.out 9 (.bool false); have oL := Z1b xA.out 0; have pL := Z1b xA.out 1; have qL := Z1b xA.out 2; have rL := Z1b xA.out 3; have sL := Z1b xA.out 4; have tL := Z1b xA.out 5; have uL := Z1b xA.out 6; have vL := Z1b xA.out 7; have wL := Z1b xA.out 8; have xL := Z1b xA.out 9))
 refine bodyPost_ret (results_cell_row rfl _ _ ZA 23 #[.int .i64 iA, .int .i64 jA, .int .i64 kA, .int .i64 lA, .int .i64 mA, .int .i64 nA, .int .i64 oA, .int .i64 qA, .int .i64 rA, .bool pA] (0, 0) _ rfl (by (with_reducible repeat (first | refine blk_drewN ?_ _ | refine blk_drew ?_ | refine blk_alloc ?_ _)); refine blk_put (cs := #[.int .i64 iA, .int .i64 jA, .int .i64 kA, .int .i64 lA, .int .i64 mA, .int .i64 nA, .int .i64 oA, .int .i64 qA, .int .i64 rA, .bool false]) ?_ 9 _ rfl; (with_reducible repeat (first | refine blk_drewN ?_ _ | refine blk_drew ?_ | refine blk_alloc ?_ _)); refine blk_put (cs := #[.int .i64 iA, .int .i64 jA, .int .i64 kA, .int .i64 lA, .int .i64 mA, .int .i64 nA, .int .i64 oA, .int .i64 qA, .int .i64 0, .bool false]) ?_ 8 _ rfl; (with_reducible repeat (first | refine blk_drewN ?_ _ | refine blk_drew ?_ | refine blk_alloc ?_ _)); refine blk_put (cs := #[.int .i64 iA, .int .i64 jA, .int .i64 kA, .int .i64 lA, .int .i64 mA, .int .i64 nA, .int .i64 oA, .int .i64 0, .int .i64 0, .bool false]) ?_ 7 _ rfl; (with_reducible repeat (first | refine blk_drewN ?_ _ | refine blk_drew ?_ | refine blk_alloc ?_ _)); refine blk_put (cs := #[.int .i64 iA, .int .i64 jA, .int .i64 kA, .int .i64 lA, .int .i64 mA, .int .i64 nA, .int .i64 0, .int .i64 0, .int .i64 0, .bool false]) ?_ 6 _ rfl; (with_reducible repeat (first | refine blk_drewN ?_ _ | refine blk_drew ?_ | refine blk_alloc ?_ _)); refine blk_put (cs := #[.int .i64 iA, .int .i64 jA, .int .i64 kA, .int .i64 lA, .int .i64 mA, .int .i64 0, .int .i64 0, .int .i64 0, .int .i64 0, .bool false]) ?_ 5 _ rfl; (with_reducible repeat (first | refine blk_drewN ?_ _ | refine blk_drew ?_ | refine blk_alloc ?_ _)); refine blk_put (cs := #[.int .i64 iA, .int .i64 jA, .int .i64 kA, .int .i64 lA, .int .i64 0, .int .i64 0, .int .i64 0, .int .i64 0, .int .i64 0, .bool false]) ?_ 4 _ rfl; (with_reducible repeat (first | refine blk_drewN ?_ _ | refine blk_drew ?_ | refine blk_alloc ?_ _)); refine blk_put (cs := #[.int .i64 iA, .int .i64 jA, .int .i64 kA, .int .i64 0, .int .i64 0, .int .i64 0, .int .i64 0, .int .i64 0, .int .i64 0, .bool false]) ?_ 3 _ rfl; (with_reducible repeat (first | refine blk_drewN ?_ _ | refine blk_drew ?_ | refine blk_alloc ?_ _)); refine blk_put (cs := #[.int .i64 iA, .int .i64 jA, .int .i64 0, .int .i64 0, .int .i64 0, .int .i64 0, .int .i64 0, .int .i64 0, .int .i64 0, .bool false]) ?_ 2 _ rfl; (with_reducible repeat (first | refine blk_drewN ?_ _ | refine blk_drew ?_ | refine blk_alloc ?_ _)); refine blk_put (cs := #[.int .i64 iA, .int .i64 0, .int .i64 0, .int .i64 0, .int .i64 0, .int .i64 0, .int .i64 0, .int .i64 0, .int .i64 0, .bool false]) ?_ 1 _ rfl; (with_reducible repeat (first | refine blk_drewN ?_ _ | refine blk_drew ?_ | refine blk_alloc ?_ _)); refine blk_put (cs := #[.int .i64 0, .int .i64 0, .int .i64 0, .int .i64 0, .int .i64 0, .int .i64 0, .int .i64 0, .int .i64 0, .int .i64 0, .bool false]) ?_ 0 _ rfl; (iterate 10 ((with_reducible repeat (first | refine blk_drewN ?_ _ | refine blk_drew ?_ | refine blk_alloc ?_ _)); refine blk_far ?_ oB.out _)); (with_reducible repeat (first | refine blk_drewN ?_ _ | refine blk_drew ?_ | refine blk_alloc ?_ _)); exact xA.out) Try.underlying23 rfl (by kernel_rfl)) rfl ?_
 exact ⟨Z1h, by repeat (first | (with_reducible first | exact HB.out | apply below_alloc | apply pw_below_drewN | apply below_drew1 | refine below_set ?_ FB.out | refine below_set ?_ VB.out | refine below_set ?_ zC.out) | exact HB.out)⟩

/-! ### laws_szIntS: function 54 -/
def laws_szIntS.f (l0 : List Int) (a1 : Int) : Option (Int) := if (wrap64 (a1 - (l0.length : Int))) < 0 then (some (-1)) else (some (wrap64 (a1 - (l0.length : Int))))
set_option maxHeartbeats 8000000 in
set_option maxRecDepth 100000 in
theorem laws_szIntS.calls (A0 : Option Addr) (c0 : Nat) (l0 : List Int) (a1 : Int) (r : Int) (w : World) (hr0 : Kd.C (Kd.int .i64) w A0 l0.length l0) (hc0 : l0.length ≤ c0) (h : laws_szIntS.f l0 a1 = some r) :
  Calls Try.prog 54 #[.slice A0 l0.length c0, .int .i64 a1] w fun e w' => e = .returned (.int .i64 r) ∧ Drawn0 w w' := by
 clear hr0 hc0
 have H : (if (wrap64 (a1 - (l0.length : Int))) < 0 then (some (-1)) else (some (wrap64 (a1 - (l0.length : Int))))) = some r := h
 clear h
 by_cases c3 : (wrap64 (a1 - (l0.length : Int))) < 0
 ·rw [if_pos c3] at H
  have gB : decide ((wrap64 (a1 - (l0.length : Int))) < 0) = true := decide_eq_true c3
  clear c3
  obtain rfl := Option.some.inj H
  go_enter Try.func54, Try.ntmps54
  go_wp2
  go_ret
  exact ⟨Z1e, Z1i⟩
 ·rw [if_neg c3] at H
  have gB : decide ((wrap64 (a1 - (l0.length : Int))) < 0) = false := decide_eq_false c3
  clear c3
  obtain rfl := Option.some.inj H
  go_enter Try.func54, Try.ntmps54
  go_wp2
  go_ret
  exact ⟨Z1e, Z1i⟩

/-! ### laws_szMem: function 23 -/
def laws_szMem.f (hA : List Int) (a1 : Int) : Option (Int) := (laws_szIntS.f hA a1).bind fun kB => (if kB < 0 then (some (-1)) else (some kB))
set_option maxHeartbeats 8000000 in
set_option maxRecDepth 100000 in
theorem laws_szMem.calls (JA : Option Addr) (KA : Nat) (hA : List Int) (a1 : Int) (r : Int) (w : World) (dB : Kd.C (Kd.int .i64) w JA hA.length hA) (eB : hA.length ≤ KA) (h : laws_szMem.f hA a1 = some r) :
  Calls Try.prog 23 #[.agg #[.slice JA hA.length KA], .int .i64 a1] w fun e w' => e = .returned (.int .i64 r) ∧ Below w.heap.size w w' := by
 have hu43 := Try.underlying43
 have EB := Z1c dB
 have fB := Z1c eB
 clear dB eB
 have HB := Z1c (Below.refl w.heap.size w)
 have H : ((laws_szIntS.f hA a1).bind fun kB => (if kB < 0 then (some (-1)) else (some kB))) = some r := h
 clear h
 replace H := Option.bind_eq_some_iff.mp H
 obtain ⟨kB, A30, H⟩ := H
 (try dsimp only at H)
 have A3 := Z1c A30
 clear A30
 by_cases c4 : kB < 0
 ·rw [if_pos c4] at H
  have iB : decide (kB < 0) = true := decide_eq_true c4
  clear c4
  obtain rfl := Option.some.inj H
  go_enter Try.func23, Try.ntmps23
  go_wp2_with (first | ((with_reducible refine gate_dst (N := 2) rfl ?_); refine box_event ?hg (N := 2) ?hd (cs := #[.slice JA hA.length KA]) (t := 43) ?hr ?_; (case hd => rfl); (case hg => rfl); (case hr => first | (go_simp; done) | (go_simp; rfl)); intro wB hg w5 hbox hb; have sA := Z1c (below_step Z1f hb); have tA := Z1c (hbox); have uA := Z1c ((Z1d : w.heap.size ≤ wB)); have vA := Z1c ((Z1d : w.heap.size ≤ wB)); clear HB; have HB := sA; have xB := tA; have AC := uA; have OB := vA; clear sA tA uA vA; clear hb hbox hg; have LB := Z1a xB.out 0 (.slice JA hA.length KA); have MB := Z1b xB.out 0) | ((with_reducible refine gate_callee (f := 54) rfl ?_); refine goesL_ (some 8) rfl rfl Try.func54 (by kernel_rfl) rfl #[.slice JA hA.length KA, .int .i64 a1] rfl Z1p ?_; (with_reducible refine (laws_szIntS.calls _ _ hA a1 kB _ ?side1 ?side2 A3.out).mono ?_); (case side1 => exact Z1q); (case side2 => exact fB.out); rintro e w' ⟨rfl, ⟨nd, rfl⟩⟩; refine ⟨_, rfl, ?_⟩))
  go_ret
  exact ⟨Z1h, by repeat (first | (with_reducible first | exact HB.out | apply below_alloc | apply pw_below_drewN | apply below_drew1 | refine below_set ?_ OB.out) | exact HB.out)⟩
 ·rw [if_neg c4] at H
  have iB : decide (kB < 0) = false := decide_eq_false c4
  clear c4
  obtain rfl := Option.some.inj H
  go_enter Try.func23, Try.ntmps23
  go_wp2_with (first | ((with_reducible refine gate_dst (N := 2) rfl ?_); refine box_event ?hg (N := 2) ?hd (cs := #[.slice JA hA.length KA]) (t := 43) ?hr ?_; (case hd => rfl); (case hg => rfl); (case hr => first | (go_simp; done) | (go_simp; rfl)); intro wB hg w7 hbox hb; have sA := Z1c (below_step Z1f hb); have tA := Z1c (hbox); have uA := Z1c ((Z1d : w.heap.size ≤ wB)); have vA := Z1c ((Z1d : w.heap.size ≤ wB)); clear HB; have HB := sA; have xB := tA; have AC := uA; have OB := vA; clear sA tA uA vA; clear hb hbox hg; have JB := Z1a xB.out 0 (.slice JA hA.length KA); have KB := Z1b xB.out 0) | ((with_reducible refine gate_callee (f := 54) rfl ?_); refine goesL_ (some 8) rfl rfl Try.func54 (by kernel_rfl) rfl #[.slice JA hA.length KA, .int .i64 a1] rfl Z1p ?_; (with_reducible refine (laws_szIntS.calls _ _ hA a1 kB _ ?side1 ?side2 A3.out).mono ?_); (case side1 => exact Z1q); (case side2 => exact fB.out); rintro e w' ⟨rfl, ⟨nd, rfl⟩⟩; refine ⟨_, rfl, ?_⟩))
  go_ret
  exact ⟨Z1h, by repeat (first | (with_reducible first | exact HB.out | apply below_alloc | apply pw_below_drewN | apply below_drew1 | refine below_set ?_ OB.out) | exact HB.out)⟩

/-! ### spec_l03Size: function 41 -/
def spec_l03Size.f (a0 : Int) : Option (Bool) := if a0 ≥ 1 then (some (decide (a0 ≤ 16))) else (some false)
set_option maxHeartbeats 8000000 in
set_option maxRecDepth 100000 in
theorem spec_l03Size.calls (a0 : Int) (r : Bool) (w : World) (h : spec_l03Size.f a0 = some r) :
  Calls Try.prog 41 #[.int .i64 a0] w fun e w' => e = .returned (.bool r) ∧ Drawn0 w w' := by
 have H : (if a0 ≥ 1 then (some (decide (a0 ≤ 16))) else (some false)) = some r := h
 clear h
 by_cases c2 : a0 ≥ 1
 ·rw [if_pos c2] at H
  have sM : decide (1 ≤ a0) = true := decide_eq_true c2
  clear c2
  obtain rfl := Option.some.inj H
  go_enter Try.func41, Try.ntmps41
  go_wp2
  go_ret
  exact ⟨Z1e, Z1i⟩
 ·rw [if_neg c2] at H
  have sM : decide (1 ≤ a0) = false := decide_eq_false c2
  clear c2
  obtain rfl := Option.some.inj H
  go_enter Try.func41, Try.ntmps41
  go_wp2
  go_ret
  exact ⟨Z1e, Z1i⟩

/-! ### spec_l05Link: function 56 -/
def spec_l05Link.f (a0 : Int) (a1 : Int) : Option (Bool) := if a1 ≥ 0 then (some (decide ((wrap64 (Int.tdiv a1 2)) ≤ a0))) else (some false)
set_option maxHeartbeats 8000000 in
set_option maxRecDepth 100000 in
theorem spec_l05Link.calls (a0 : Int) (a1 : Int) (r : Bool) (w : World) (h : spec_l05Link.f a0 a1 = some r) :
  Calls Try.prog 56 #[.int .i64 a0, .int .i64 a1] w fun e w' => e = .returned (.bool r) ∧ Drawn0 w w' := by
 have H : (if a1 ≥ 0 then (some (decide ((wrap64 (Int.tdiv a1 2)) ≤ a0))) else (some false)) = some r := h
 clear h
 by_cases c3 : a1 ≥ 0
 ·rw [if_pos c3] at H
  have gB : decide (0 ≤ a1) = true := decide_eq_true c3
  clear c3
  obtain rfl := Option.some.inj H
  go_enter Try.func56, Try.ntmps56
  go_wp2
  go_ret
  exact ⟨Z1e, Z1i⟩
 ·rw [if_neg c3] at H
  have gB : decide (0 ≤ a1) = false := decide_eq_false c3
  clear c3
  obtain rfl := Option.some.inj H
  go_enter Try.func56, Try.ntmps56
  go_wp2
  go_ret
  exact ⟨Z1e, Z1i⟩

/-! ### spec_l05There: function 65 -/
def spec_l05There.f (a0 : Int) (a1 : Int) : Option (Bool) := (spec_l05Link.f a0 a1).bind fun PB => (if PB = true then (some (decide ((wrap64 (Int.tdiv a1 2)) ≥ 1))) else (some false))
set_option maxHeartbeats 8000000 in
set_option maxRecDepth 100000 in
theorem spec_l05There.calls (a0 : Int) (a1 : Int) (r : Bool) (w : World) (h : spec_l05There.f a0 a1 = some r) :
  Calls Try.prog 65 #[.int .i64 a0, .int .i64 a1] w fun e w' => e = .returned (.bool r) ∧ Drawn0 w w' := by
 have H : ((spec_l05Link.f a0 a1).bind fun PB => (if PB = true then (some (decide ((wrap64 (Int.tdiv a1 2)) ≥ 1))) else (some false))) = some r := h
 clear h
 replace H := Option.bind_eq_some_iff.mp H
 obtain ⟨PB, A30, H⟩ := H
 (try dsimp only at H)
 have A3 := Z1c A30
 clear A30
 by_cases c4 : PB = true
 ·subst c4
  rw [if_pos rfl] at H
  obtain rfl := Option.some.inj H
  go_enter Try.func65, Try.ntmps65
  go_wp2_with (first | ((with_reducible refine gate_callee (f := 56) rfl ?_); refine goesL_ (some 7) rfl rfl Try.func56 (by kernel_rfl) rfl #[.int .i64 a0, .int .i64 a1] rfl Z1p ?_; (with_reducible refine (spec_l05Link.calls a0 a1 true _ A3.out).mono ?_); rintro e w' ⟨rfl, ⟨nd, rfl⟩⟩; refine ⟨_, rfl, ?_⟩))
  go_ret
  exact ⟨Z1e, Z1i⟩
 ·replace c4 := Bool.eq_false_iff.mpr c4
  subst c4
  rw [if_neg (show ¬ (false = true) by decide)] at H
  obtain rfl := Option.some.inj H
  go_enter Try.func65, Try.ntmps65
  go_wp2_with (first | ((with_reducible refine gate_callee (f := 56) rfl ?_); refine goesL_ (some 7) rfl rfl Try.func56 (by kernel_rfl) rfl #[.int .i64 a0, .int .i64 a1] rfl Z1p ?_; (with_reducible refine (spec_l05Link.calls a0 a1 false _ A3.out).mono ?_); rintro e w' ⟨rfl, ⟨nd, rfl⟩⟩; refine ⟨_, rfl, ?_⟩))
  go_ret
  exact ⟨Z1e, Z1i⟩

/-! ### spec_l01In: function 77 -/
def spec_l01In.f (a0 : Int) (a1 : Int) (a2 : Int) : Option (Bool) := if a0 ≥ a1 then (some (decide (a0 ≤ a2))) else (some false)
set_option maxHeartbeats 8000000 in
set_option maxRecDepth 100000 in
theorem spec_l01In.calls (a0 : Int) (a1 : Int) (a2 : Int) (r : Bool) (w : World) (h : spec_l01In.f a0 a1 a2 = some r) :
  Calls Try.prog 77 #[.int .i64 a0, .int .i64 a1, .int .i64 a2] w fun e w' => e = .returned (.bool r) ∧ Drawn0 w w' := by
 have H : (if a0 ≥ a1 then (some (decide (a0 ≤ a2))) else (some false)) = some r := h
 clear h
 by_cases c4 : a0 ≥ a1
 ·rw [if_pos c4] at H
  have iB : decide (a1 ≤ a0) = true := decide_eq_true c4
  clear c4
  obtain rfl := Option.some.inj H
  go_enter Try.func77, Try.ntmps77
  go_wp2
  go_ret
  exact ⟨Z1e, Z1i⟩
 ·rw [if_neg c4] at H
  have iB : decide (a1 ≤ a0) = false := decide_eq_false c4
  clear c4
  obtain rfl := Option.some.inj H
  go_enter Try.func77, Try.ntmps77
  go_wp2
  go_ret
  exact ⟨Z1e, Z1i⟩

end Go.Proofs.Ytjikobdblohphaa.PFnExactLiStep
