-- Written by the session's own patched copy of the printer (wip/patch_print.py).
import Derived.Test.YtgghglocfdcegaaPFnExactCrewNewx0
namespace Go.Proofs.Ytgghglocfdcegaa.PFnExactCrewNew
open Go.RowKit Go.Proofs.YtgghglocfdcegaaW.PrintWords Go.Proofs.YtgghglocfdcegaaW.PrintLast Go.Proofs.YtgghglocfdcegaaW.PrintMore
attribute [local go_sem] max2_int min2_int max_two min_two max_three min_three max_four min_four   -- for this text's walks alone
set_option linter.unusedVariables false
set_option linter.unusedSimpArgs false

theorem q1_0 {p : Prop} (h : p := by repeat (first | (with_reducible first | exact HB.out | apply below_alloc | apply pw_below_drewN | apply below_drew1) | exact HB.out)) : p := h
theorem q1_1 {p : Prop} (h : p := by (try simp only [List.map_toArray, List.map_cons, List.map_nil]); first | done | rfl | (simp only [List.length_drop, List.length_take]; rfl)) : p := h
theorem q1_2 {p : Prop} (h : p := by first | rfl | (simp [errW_none, errW_some] <;> rfl) | (simp [*, errW_none, errW_some] <;> rfl)) : p := h
theorem q1_3 {p : Prop} (h : p := by repeat (first | (with_reducible first | exact HB.out | apply below_alloc | apply pw_below_drewN | apply below_drew1 | refine below_set ?_ DB.out) | exact HB.out)) : p := h
theorem q1_4 {p : Prop} (h : p := by repeat (first | (with_reducible first | exact HB.out | apply below_alloc | apply pw_below_drewN | apply below_drew1 | refine below_set ?_ EB.out) | exact HB.out)) : p := h
theorem q1_5 {p : Prop} (h : p := by repeat (first | (with_reducible first | exact HB.out | apply below_alloc | apply pw_below_drewN | apply below_drew1 | refine below_set ?_ IB.out) | exact HB.out)) : p := h
theorem q1_6 {p : Prop} (h : p := by repeat (first | (with_reducible first | exact HB.out | apply below_alloc | apply pw_below_drewN | apply below_drew1 | refine below_set ?_ JB.out) | exact HB.out)) : p := h
theorem q1_7 {p : Prop} (h : p := by rw [hg]; exact (below_size q1_0)) : p := h
theorem q1_8 {p : Prop} (h : p := by repeat (first | (with_reducible first | exact HB.out | apply below_alloc | apply pw_below_drewN | apply below_drew1 | refine below_set ?_ gC.out) | exact HB.out)) : p := h
theorem q1_9 {p : Prop} (h : p := by (with_reducible repeat (first | refine blk_drewN ?_ _ | refine blk_drew ?_ | refine blk_alloc ?_ _)); exact kA.out) : p := h
theorem q1_10 {p : Prop} (h : p := by (with_reducible repeat (first | refine blk_drewN ?_ _ | refine blk_drew ?_ | refine blk_alloc ?_ _)); refine blk_put (cs := #[.slice none 0 0]) ?_ 0 _ rfl; (with_reducible repeat (first | refine blk_drewN ?_ _ | refine blk_drew ?_ | refine blk_alloc ?_ _)); exact mA.out) : p := h
theorem q1_11 {p : Prop} (h : p := by (with_reducible repeat (first | refine blk_drewN ?_ _ | refine blk_drew ?_ | refine blk_alloc ?_ _)); exact nA.out) : p := h
theorem q1_12 {p : Prop} (h : p := by first | exact Kd.R_nil _ _ _ _ _ | exact Kd.N_nil _ _ _ _ _ | exact Kd.V_nil _ _ _ _ _ | exact Kd.Q_nil _ _ _ _ _ | exact Kd.S_nil _ _ _ _ _) : p := h
theorem q1_13 {p : Prop} (h : p := by first | rfl | (simp; done) | (simp [*]; done)) : p := h
theorem q1_14 {p : Prop} (h : p := by repeat (first | (with_reducible first | exact HB.out | apply below_alloc | apply pw_below_drewN | apply below_drew1 | refine below_set ?_ KB.out) | exact HB.out)) : p := h
theorem q1_15 {p : Prop} (h : p := by repeat (first | (with_reducible first | exact HB.out | apply below_alloc | apply pw_below_drewN | apply below_drew1 | refine below_set ?_ IB.out | refine below_set ?_ FC.out) | exact HB.out)) : p := h
theorem q1_16 {p : Prop} (h : p := by (with_reducible repeat (first | refine blk_drewN ?_ _ | refine blk_drew ?_ | refine blk_alloc ?_ _)); refine blk_put (cs := #[.slice none 0 0]) ?_ 0 _ rfl; (with_reducible repeat (first | refine blk_drewN ?_ _ | refine blk_drew ?_ | refine blk_alloc ?_ _)); exact yA.out) : p := h
theorem q1_17 {p : Prop} (h : p := by (with_reducible repeat (first | refine blk_drewN ?_ _ | refine blk_drew ?_ | refine blk_alloc ?_ _)); refine blk_put (cs := #[.slice none 0 0]) ?_ 0 _ rfl; (with_reducible repeat (first | refine blk_drewN ?_ _ | refine blk_drew ?_ | refine blk_alloc ?_ _)); exact kA.out) : p := h
theorem q1_18 {p : Prop} (h : p := by repeat (first | exact (Kd.C_below GC.out HB.out) | (with_reducible refine Kd.C_alloc ?_ _) | (with_reducible refine Kd.C_drewN ?_ _) | (with_reducible refine Kd.C_drew ?_))) : p := h
theorem q1_19 {p : Prop} (h : p := by first | (with_reducible assumption) | assumption) : p := h
theorem q1_20 {p : Prop} (h : p := by repeat (first | (with_reducible first | exact HB.out | apply below_alloc | apply pw_below_drewN | apply below_drew1 | refine below_set ?_ JB.out | refine below_set ?_ HC.out) | exact HB.out)) : p := h
theorem q1_21 {p : Prop} (h : p := by repeat (first | exact Drawn0.refl _ | apply Drawn0.step)) : p := h
theorem q1_22 {p : Prop} (h : p := by repeat (first | exact (Kd.C_below IC.out q1_4) | (with_reducible refine Kd.C_alloc ?_ _) | (with_reducible refine Kd.C_drewN ?_ _) | (with_reducible refine Kd.C_drew ?_))) : p := h
theorem q1_23 {p : Prop} (h : p := by kernel_rfl) : p := h
theorem q1_24 {p : Prop} (h : p := by (with_reducible repeat (first | refine blk_drewN ?_ _ | refine blk_drew ?_ | refine blk_alloc ?_ _)); refine blk_put (cs := #[.slice none 0 0]) ?_ 0 _ rfl; (with_reducible repeat (first | refine blk_drewN ?_ _ | refine blk_drew ?_ | refine blk_alloc ?_ _)); exact nA.out) : p := h
theorem q1_25 {p : Prop} (h : p := by (with_reducible repeat (first | refine blk_drewN ?_ _ | refine blk_drew ?_ | refine blk_alloc ?_ _)); refine blk_put (cs := #[.slice none 0 0]) ?_ 0 _ rfl; (with_reducible repeat (first | refine blk_drewN ?_ _ | refine blk_drew ?_ | refine blk_alloc ?_ _)); exact vA.out) : p := h
theorem q1_26 {p : Prop} (h : p := by (with_reducible repeat (first | refine blk_drewN ?_ _ | refine blk_drew ?_ | refine blk_alloc ?_ _)); exact vA.out) : p := h
theorem q1_27 {p : Prop} (h : p := by (with_reducible repeat (first | refine blk_drewN ?_ _ | refine blk_drew ?_ | refine blk_alloc ?_ _)); exact mA.out) : p := h
/-! ### laws_szCallS: function 64 -/
def laws_szCallS.f (l0 : List (S106)) (a1 : Int) : Option (Int) := if (wrap64 (a1 - (l0.length : Int))) < 0 then (some (-1)) else (some (wrap64 (a1 - (l0.length : Int))))
set_option maxHeartbeats 8000000 in
set_option maxRecDepth 100000 in
theorem laws_szCallS.calls (A0 : Option Addr) (c0 : Nat) (l0 : List (S106)) (a1 : Int) (r : Int) (w : World) (hr0 : Kd.C k106 w A0 l0.length l0) (hc0 : l0.length ≤ c0) (h : laws_szCallS.f l0 a1 = some r) :
  Calls Try.prog 64 #[.slice A0 l0.length c0, .int .i64 a1] w fun e w' => e = .returned (.int .i64 r) ∧ Drawn0 w w' := by
 clear hr0 hc0
 have H : (if (wrap64 (a1 - (l0.length : Int))) < 0 then (some (-1)) else (some (wrap64 (a1 - (l0.length : Int))))) = some r := h
 clear h
 by_cases c3 : (wrap64 (a1 - (l0.length : Int))) < 0
 ·rw [if_pos c3] at H
  have GB : decide ((wrap64 (a1 - (l0.length : Int))) < 0) = true := decide_eq_true c3
  clear c3
  obtain rfl := Option.some.inj H
  go_enter Try.func64, Try.ntmps64
  go_wp2
  go_ret
  exact ⟨q1_13, q1_21⟩
 ·rw [if_neg c3] at H
  have GB : decide ((wrap64 (a1 - (l0.length : Int))) < 0) = false := decide_eq_false c3
  clear c3
  obtain rfl := Option.some.inj H
  go_enter Try.func64, Try.ntmps64
  go_wp2
  go_ret
  exact ⟨q1_13, q1_21⟩

/-! ### laws_szIntS: function 65 -/
def laws_szIntS.f (l0 : List Int) (a1 : Int) : Option (Int) := if (wrap64 (a1 - (l0.length : Int))) < 0 then (some (-1)) else (some (wrap64 (a1 - (l0.length : Int))))
set_option maxHeartbeats 8000000 in
set_option maxRecDepth 100000 in
theorem laws_szIntS.calls (A0 : Option Addr) (c0 : Nat) (l0 : List Int) (a1 : Int) (r : Int) (w : World) (hr0 : Kd.C (Kd.int .i64) w A0 l0.length l0) (hc0 : l0.length ≤ c0) (h : laws_szIntS.f l0 a1 = some r) :
  Calls Try.prog 65 #[.slice A0 l0.length c0, .int .i64 a1] w fun e w' => e = .returned (.int .i64 r) ∧ Drawn0 w w' := by
 clear hr0 hc0
 have H : (if (wrap64 (a1 - (l0.length : Int))) < 0 then (some (-1)) else (some (wrap64 (a1 - (l0.length : Int))))) = some r := h
 clear h
 by_cases c3 : (wrap64 (a1 - (l0.length : Int))) < 0
 ·rw [if_pos c3] at H
  have GB : decide ((wrap64 (a1 - (l0.length : Int))) < 0) = true := decide_eq_true c3
  clear c3
  obtain rfl := Option.some.inj H
  go_enter Try.func65, Try.ntmps65
  go_wp2
  go_ret
  exact ⟨q1_13, q1_21⟩
 ·rw [if_neg c3] at H
  have GB : decide ((wrap64 (a1 - (l0.length : Int))) < 0) = false := decide_eq_false c3
  clear c3
  obtain rfl := Option.some.inj H
  go_enter Try.func65, Try.ntmps65
  go_wp2
  go_ret
  exact ⟨q1_13, q1_21⟩

/-! ### laws_szThread: function 29 -/
def laws_szThread.f (tA : List (S106)) (eB : Int) (uA : List Int) (zA : List Int) (a1 : Int) : Option (Int) := (laws_szCallS.f tA a1).bind fun CA => (if CA < 0 then (some (-1)) else ((laws_szIntS.f uA CA).bind fun MA => (if MA < 0 then (some (-1)) else ((laws_szIntS.f zA MA).bind fun fB => (if fB < 0 then (some (-1)) else (some fB))))))
set_option maxHeartbeats 8000000 in
set_option maxRecDepth 100000 in
theorem laws_szThread.calls (PA : Option Addr) (QA : Nat) (tA : List (S106)) (eB : Int) (YA : Option Addr) (ZA : Nat) (uA : List Int) (bB : Option Addr) (cB : Nat) (zA : List Int) (a1 : Int) (r : Int) (w : World) (hC : Kd.C k106 w PA tA.length tA) (iC : tA.length ≤ QA) (jC : Kd.C (Kd.int .i64) w YA uA.length uA) (kC : uA.length ≤ ZA) (lC : Kd.C (Kd.int .i64) w bB zA.length zA) (mC : zA.length ≤ cB) (h : laws_szThread.f tA eB uA zA a1 = some r) :
  Calls Try.prog 29 #[.agg #[.slice PA tA.length QA, .int .i64 eB, .slice YA uA.length ZA, .slice bB zA.length cB], .int .i64 a1] w fun e w' => e = .returned (.int .i64 r) ∧ Below w.heap.size w w' := by
 have hu50 := Try.underlying50
 have GC := Aside0.mk hC
 have FB := Aside0.mk iC
 clear hC iC
 have IC := Aside0.mk jC
 have LB := Aside0.mk kC
 clear jC kC
 have nC := Aside0.mk lC
 have oC := Aside0.mk mC
 clear lC mC
 have HB := Aside0.mk (Below.refl w.heap.size w)
 have H : ((laws_szCallS.f tA a1).bind fun CA => (if CA < 0 then (some (-1)) else ((laws_szIntS.f uA CA).bind fun MA => (if MA < 0 then (some (-1)) else ((laws_szIntS.f zA MA).bind fun fB => (if fB < 0 then (some (-1)) else (some fB))))))) = some r := h
 clear h
 replace H := Option.bind_eq_some_iff.mp H
 obtain ⟨CA, A30, H⟩ := H
 (try dsimp only at H)
 have A3 := Aside0.mk A30
 clear A30
 by_cases c4 : CA < 0
 ·rw [if_pos c4] at H
  have MB : decide (CA < 0) = true := decide_eq_true c4
  clear c4
  obtain rfl := Option.some.inj H
  go_enter Try.func29, Try.ntmps29
  go_wp2_with (first | ((with_reducible refine gate_dst (N := 2) rfl ?_); refine box_event ?hg (N := 2) ?hd (cs := #[.slice PA tA.length QA, .int .i64 eB, .slice YA uA.length ZA, .slice bB zA.length cB]) (t := 50) ?hr ?_; (case hd => rfl); (case hg => rfl); (case hr => first | (go_simp; done) | (go_simp; rfl)); intro gA hg w5 hbox hb; have aA := Aside0.mk (below_step q1_0 hb); have eA := Aside0.mk (hbox); have hA := Aside0.mk ((q1_7 : w.heap.size ≤ gA)); have pA := Aside0.mk ((q1_7 : w.heap.size ≤ gA)); clear HB; have HB := aA; have bA := eA; have NB := hA; have EB := pA; clear aA eA hA pA; clear hb hbox hg; have eE : w5.cell? ⟨gA, 0, none⟩ = some (.slice PA tA.length QA) := (blk_cell bA.out 0).trans rfl; have fE : w5.cell? ⟨gA, 1, none⟩ = some (.int .i64 eB) := (blk_cell bA.out 1).trans rfl; have gE : w5.cell? ⟨gA, 2, none⟩ = some (.slice YA uA.length ZA) := (blk_cell bA.out 2).trans rfl; have hE : w5.cell? ⟨gA, 3, none⟩ = some (.slice bB zA.length cB) := (blk_cell bA.out 3).trans rfl; have iE := blk_frozen bA.out 0; have jE := blk_frozen bA.out 1; have kE := blk_frozen bA.out 2; have lE := blk_frozen bA.out 3) | ((with_reducible refine gate_callee (f := 64) rfl ?_); refine goesL_ (some 8) rfl rfl Try.func64 q1_23 rfl #[.slice PA tA.length QA, .int .i64 a1] rfl q1_1 ?_; (with_reducible refine (laws_szCallS.calls _ _ tA a1 CA _ ?side1 ?side2 A3.out).mono ?_); (case side1 => exact q1_18); (case side2 => exact FB.out); rintro e w' ⟨rfl, ⟨nd, rfl⟩⟩; refine ⟨_, rfl, ?_⟩))
  go_ret
  exact ⟨q1_2, q1_4⟩
 ·rw [if_neg c4] at H
  have MB : decide (CA < 0) = false := decide_eq_false c4
  clear c4
  replace H := Option.bind_eq_some_iff.mp H
  obtain ⟨MA, A70, H⟩ := H
  (try dsimp only at H)
  have A7 := Aside0.mk A70
  clear A70
  by_cases c8 : MA < 0
  ·rw [if_pos c8] at H
   have JC : decide (MA < 0) = true := decide_eq_true c8
   clear c8
   obtain rfl := Option.some.inj H
   go_enter Try.func29, Try.ntmps29
   go_wp2_with (first | ((with_reducible refine gate_dst (N := 2) rfl ?_); refine box_event ?hg (N := 2) ?hd (cs := #[.slice PA tA.length QA, .int .i64 eB, .slice YA uA.length ZA, .slice bB zA.length cB]) (t := 50) ?hr ?_; (case hd => rfl); (case hg => rfl); (case hr => first | (go_simp; done) | (go_simp; rfl)); intro gA hg w9 hbox hb; have aA := Aside0.mk (below_step q1_0 hb); have eA := Aside0.mk (hbox); have hA := Aside0.mk ((q1_7 : w.heap.size ≤ gA)); have pA := Aside0.mk ((q1_7 : w.heap.size ≤ gA)); clear HB; have HB := aA; have bA := eA; have NB := hA; have EB := pA; clear aA eA hA pA; clear hb hbox hg; have gB : w9.cell? ⟨gA, 0, none⟩ = some (.slice PA tA.length QA) := (blk_cell bA.out 0).trans rfl; have rD : w9.cell? ⟨gA, 1, none⟩ = some (.int .i64 eB) := (blk_cell bA.out 1).trans rfl; have sD : w9.cell? ⟨gA, 2, none⟩ = some (.slice YA uA.length ZA) := (blk_cell bA.out 2).trans rfl; have tD : w9.cell? ⟨gA, 3, none⟩ = some (.slice bB zA.length cB) := (blk_cell bA.out 3).trans rfl; have hB := blk_frozen bA.out 0; have uD := blk_frozen bA.out 1; have vD := blk_frozen bA.out 2; have wD := blk_frozen bA.out 3) | ((with_reducible refine gate_callee (f := 64) rfl ?_); refine goesL_ (some 8) rfl rfl Try.func64 q1_23 rfl #[.slice PA tA.length QA, .int .i64 a1] rfl q1_1 ?_; (with_reducible refine (laws_szCallS.calls _ _ tA a1 CA _ ?side1 ?side2 A3.out).mono ?_); (case side1 => exact q1_18); (case side2 => exact FB.out); rintro e w' ⟨rfl, ⟨nd, rfl⟩⟩; refine ⟨_, rfl, ?_⟩) | ((with_reducible refine gate_callee (f := 65) rfl ?_); refine goesL_ (some 14) rfl rfl Try.func65 q1_23 rfl #[.slice YA uA.length ZA, .int .i64 CA] rfl q1_1 ?_; (with_reducible refine (laws_szIntS.calls _ _ uA CA MA _ ?side1 ?side2 A7.out).mono ?_); (case side1 => exact q1_22); (case side2 => exact LB.out); rintro e w' ⟨rfl, ⟨nd, rfl⟩⟩; refine ⟨_, rfl, ?_⟩))
   go_ret
   exact ⟨q1_2, q1_4⟩
  ·rw [if_neg c8] at H
   have JC : decide (MA < 0) = false := decide_eq_false c8
   clear c8
   replace H := Option.bind_eq_some_iff.mp H
   obtain ⟨fB, A110, H⟩ := H
   (try dsimp only at H)
   have A11 := Aside0.mk A110
   clear A110
   by_cases c12 : fB < 0
   ·rw [if_pos c12] at H
    have OB : decide (fB < 0) = true := decide_eq_true c12
    clear c12
    obtain rfl := Option.some.inj H
    go_enter Try.func29, Try.ntmps29
    go_wp2_with (first | ((with_reducible refine gate_dst (N := 2) rfl ?_); refine box_event ?hg (N := 2) ?hd (cs := #[.slice PA tA.length QA, .int .i64 eB, .slice YA uA.length ZA, .slice bB zA.length cB]) (t := 50) ?hr ?_; (case hd => rfl); (case hg => rfl); (case hr => first | (go_simp; done) | (go_simp; rfl)); intro gA hg CC hbox hb; have aA := Aside0.mk (below_step q1_0 hb); have eA := Aside0.mk (hbox); have hA := Aside0.mk ((q1_7 : w.heap.size ≤ gA)); have pA := Aside0.mk ((q1_7 : w.heap.size ≤ gA)); clear HB; have HB := aA; have bA := eA; have NB := hA; have EB := pA; clear aA eA hA pA; clear hb hbox hg; have WB : CC.cell? ⟨gA, 0, none⟩ = some (.slice PA tA.length QA) := (blk_cell bA.out 0).trans rfl; have xD : CC.cell? ⟨gA, 1, none⟩ = some (.int .i64 eB) := (blk_cell bA.out 1).trans rfl; have yD : CC.cell? ⟨gA, 2, none⟩ = some (.slice YA uA.length ZA) := (blk_cell bA.out 2).trans rfl; have zD : CC.cell? ⟨gA, 3, none⟩ = some (.slice bB zA.length cB) := (blk_cell bA.out 3).trans rfl; have XB := blk_frozen bA.out 0; have AD := blk_frozen bA.out 1; have BD := blk_frozen bA.out 2; have CD := blk_frozen bA.out 3) | ((with_reducible refine gate_callee (f := 64) rfl ?_); refine goesL_ (some 8) rfl rfl Try.func64 q1_23 rfl #[.slice PA tA.length QA, .int .i64 a1] rfl q1_1 ?_; (with_reducible refine (laws_szCallS.calls _ _ tA a1 CA _ ?side1 ?side2 A3.out).mono ?_); (case side1 => exact q1_18); (case side2 => exact FB.out); rintro e w' ⟨rfl, ⟨nd, rfl⟩⟩; refine ⟨_, rfl, ?_⟩) | ((with_reducible refine gate_callee (f := 65) rfl ?_); refine goesL_ (some 14) rfl rfl Try.func65 q1_23 rfl #[.slice YA uA.length ZA, .int .i64 CA] rfl q1_1 ?_; (with_reducible refine (laws_szIntS.calls _ _ uA CA MA _ ?side1 ?side2 A7.out).mono ?_); (case side1 => exact q1_22); (case side2 => exact LB.out); rintro e w' ⟨rfl, ⟨nd, rfl⟩⟩; refine ⟨_, rfl, ?_⟩) | ((with_reducible refine gate_callee (f := 65) rfl ?_); refine goesL_ (some 20) rfl rfl Try.func65 q1_23 rfl #[.slice bB zA.length cB, .int .i64 MA] rfl q1_1 ?_; (with_reducible refine (laws_szIntS.calls _ _ zA MA fB _ ?side1 ?side2 A11.out).mono ?_); (case side1 => repeat (first | exact (Kd.C_below nC.out q1_4) | (with_reducible refine Kd.C_alloc ?_ _) | (with_reducible refine Kd.C_drewN ?_ _) | (with_reducible refine Kd.C_drew ?_))); (case side2 => exact oC.out); rintro e w' ⟨rfl, ⟨nd, rfl⟩⟩; refine ⟨_, rfl, ?_⟩))
    go_ret
    exact ⟨q1_2, q1_4⟩
   ·rw [if_neg c12] at H
    have OB : decide (fB < 0) = false := decide_eq_false c12
    clear c12
    obtain rfl := Option.some.inj H
    go_enter Try.func29, Try.ntmps29
    go_wp2_with (first | ((with_reducible refine gate_dst (N := 2) rfl ?_); refine box_event ?hg (N := 2) ?hd (cs := #[.slice PA tA.length QA, .int .i64 eB, .slice YA uA.length ZA, .slice bB zA.length cB]) (t := 50) ?hr ?_; (case hd => rfl); (case hg => rfl); (case hr => first | (go_simp; done) | (go_simp; rfl)); intro gA hg DD hbox hb; have aA := Aside0.mk (below_step q1_0 hb); have eA := Aside0.mk (hbox); have hA := Aside0.mk ((q1_7 : w.heap.size ≤ gA)); have pA := Aside0.mk ((q1_7 : w.heap.size ≤ gA)); clear HB; have HB := aA; have bA := eA; have NB := hA; have EB := pA; clear aA eA hA pA; clear hb hbox hg; have ED : DD.cell? ⟨gA, 0, none⟩ = some (.slice PA tA.length QA) := (blk_cell bA.out 0).trans rfl; have FD : DD.cell? ⟨gA, 1, none⟩ = some (.int .i64 eB) := (blk_cell bA.out 1).trans rfl; have GD : DD.cell? ⟨gA, 2, none⟩ = some (.slice YA uA.length ZA) := (blk_cell bA.out 2).trans rfl; have HD : DD.cell? ⟨gA, 3, none⟩ = some (.slice bB zA.length cB) := (blk_cell bA.out 3).trans rfl; have ID := blk_frozen bA.out 0; have JD := blk_frozen bA.out 1; have KD := blk_frozen bA.out 2; have LD := blk_frozen bA.out 3) | ((with_reducible refine gate_callee (f := 64) rfl ?_); refine goesL_ (some 8) rfl rfl Try.func64 q1_23 rfl #[.slice PA tA.length QA, .int .i64 a1] rfl q1_1 ?_; (with_reducible refine (laws_szCallS.calls _ _ tA a1 CA _ ?side1 ?side2 A3.out).mono ?_); (case side1 => exact q1_18); (case side2 => exact FB.out); rintro e w' ⟨rfl, ⟨nd, rfl⟩⟩; refine ⟨_, rfl, ?_⟩) | ((with_reducible refine gate_callee (f := 65) rfl ?_); refine goesL_ (some 14) rfl rfl Try.func65 q1_23 rfl #[.slice YA uA.length ZA, .int .i64 CA] rfl q1_1 ?_; (with_reducible refine (laws_szIntS.calls _ _ uA CA MA _ ?side1 ?side2 A7.out).mono ?_); (case side1 => exact q1_22); (case side2 => exact LB.out); rintro e w' ⟨rfl, ⟨nd, rfl⟩⟩; refine ⟨_, rfl, ?_⟩) | ((with_reducible refine gate_callee (f := 65) rfl ?_); refine goesL_ (some 20) rfl rfl Try.func65 q1_23 rfl #[.slice bB zA.length cB, .int .i64 MA] rfl q1_1 ?_; (with_reducible refine (laws_szIntS.calls _ _ zA MA fB _ ?side1 ?side2 A11.out).mono ?_); (case side1 => repeat (first | exact (Kd.C_below nC.out q1_4) | (with_reducible refine Kd.C_alloc ?_ _) | (with_reducible refine Kd.C_drewN ?_ _) | (with_reducible refine Kd.C_drew ?_))); (case side2 => exact oC.out); rintro e w' ⟨rfl, ⟨nd, rfl⟩⟩; refine ⟨_, rfl, ?_⟩))
    go_ret
    exact ⟨q1_2, q1_4⟩

/-! ### laws_szThreadS: function 11 -/
def laws_szThreadS.l0 : Nat → List (S50) → Int → Int → Option (Int)
 | 0, _, _, _ => none
 | k + 1, x0, x1, x5 => if x5 < (x0.length : Int) then (if 0 ≤ x5 then ((laws_szThread.f ((rd_T50 x0 x5).f0) ((rd_T50 x0 x5).f1) ((rd_T50 x0 x5).f2) ((rd_T50 x0 x5).f3) x1).bind fun iB => (if iB < 0 then (some (-1)) else (laws_szThreadS.l0 k x0 iB (wrap64 (x5 + 1))))) else (none)) else (some x1)
def laws_szThreadS.f (k : Nat) (l0 : List (S50)) (a1 : Int) : Option (Int) := if (wrap64 (a1 - (l0.length : Int))) < 0 then (some (-1)) else (laws_szThreadS.l0 k l0 (wrap64 (a1 - (l0.length : Int))) 0)
theorem laws_szThreadS.mono_l : ∀ k, (∀ y0 y1 y2, LeO (laws_szThreadS.l0 k y0 y1 y2) (laws_szThreadS.l0 (k + 1) y0 y1 y2))
 | 0 => fun _ _ _ r h => by simp [laws_szThreadS.l0] at h
 | k + 1 => by
  have ih0 := laws_szThreadS.mono_l k
  ·intro y0 y1 y2
   unfold laws_szThreadS.l0
   repeat' first
   | (with_reducible exact ih0 _ _ _)
   | (with_reducible exact LeO.refl _)
   | (with_reducible exact LeO.none _)
   | (with_reducible refine LeO.ite ?_ ?_)
   | (with_reducible refine LeO.bind ?_ (fun _ => ?_))
   | exact ih0 _ _ _
   | exact LeO.none _
   | refine LeO.ite ?_ ?_
   | refine LeO.bind ?_ (fun _ => ?_)
theorem laws_szThreadS.mono : ∀ a0 a1 k, LeO (laws_szThreadS.f k a0 a1) (laws_szThreadS.f (k + 1) a0 a1) := by
 intro a0 a1 k
 have ih0 := laws_szThreadS.mono_l k
 unfold laws_szThreadS.f
 repeat' first
   | (with_reducible exact ih0 _ _ _)
   | (with_reducible exact LeO.refl _)
   | (with_reducible exact LeO.none _)
   | (with_reducible refine LeO.ite ?_ ?_)
   | (with_reducible refine LeO.bind ?_ (fun _ => ?_))
   | exact ih0 _ _ _
   | exact LeO.none _
   | refine LeO.ite ?_ ?_
   | refine LeO.bind ?_ (fun _ => ?_)
set_option maxHeartbeats 8000000 in
set_option maxRecDepth 100000 in
theorem laws_szThreadS.calls (k : Nat) (A0 : Option Addr) (c0 : Nat) (l0 : List (S50)) (a1 : Int) (r : Int) (w : World) (hr0 : Kd.C k50 w A0 l0.length l0) (hc0 : l0.length ≤ c0) (h : laws_szThreadS.f k l0 a1 = some r) :
  Calls Try.prog 11 #[.slice A0 l0.length c0, .int .i64 a1] w fun e w' => e = .returned (.int .i64 r) ∧ Below w.heap.size w w' := by
 have hu50 := Try.underlying50
 have HR0 := Aside0.mk hr0
 clear hr0 hc0
 have HB := Aside0.mk (Below.refl w.heap.size w)
 have H : (if (wrap64 (a1 - (l0.length : Int))) < 0 then (some (-1)) else (laws_szThreadS.l0 k l0 (wrap64 (a1 - (l0.length : Int))) 0)) = some r := h
 clear h
 by_cases c3 : (wrap64 (a1 - (l0.length : Int))) < 0
 ·rw [if_pos c3] at H
  have GB : decide ((wrap64 (a1 - (l0.length : Int))) < 0) = true := decide_eq_true c3
  clear c3
  obtain rfl := Option.some.inj H
  go_enter Try.func11, Try.ntmps11
  go_wp2
  go_ret
  exact ⟨q1_2, q1_0⟩
 ·rw [if_neg c3] at H
  have GB : decide ((wrap64 (a1 - (l0.length : Int))) < 0) = false := decide_eq_false c3
  clear c3
  have H' := Aside0.mk H
  clear H
  go_enter Try.func11, Try.ntmps11
  go_wp2
  go_loopg [1, 5] k (fun kq v1 v5 w' => ∃ (wB : Int) (oA : Int), v1 = .int .i64 wB ∧ v5 = .int .i64 oA ∧ Aside0 (laws_szThreadS.l0 kq l0 wB oA = some r) ∧ Aside0 (kq ≤ k) ∧ Aside0 (Below w.heap.size w w'))
  case atStart => exact ⟨(wrap64 (a1 - (l0.length : Int))), (0), q1_13, q1_13, H', ⟨Nat.le_refl _⟩, ⟨q1_0⟩⟩
  case round =>
   clear H'
   (try clear c1); (try clear p2); (try clear c3); (try clear GB)
   obtain ⟨wB, oA, rfl, rfl, HA, HK1, HB⟩ := hrel
   cases gk with
   | zero => exact absurd HA.out (by simp [laws_szThreadS.l0])
   | succ k1 =>
    have H := HA.out
    clear HA
    simp only [laws_szThreadS.l0] at H
    by_cases c4 : oA < (l0.length : Int)
    ·rw [if_pos c4] at H
     have MB : decide (oA < (l0.length : Int)) = true := decide_eq_true c4
     clear c4
     by_cases c5 : 0 ≤ oA
     ·rw [if_pos c5] at H
      have KC : decide (0 ≤ oA) = true := decide_eq_true c5
      clear c5
      replace H := Option.bind_eq_some_iff.mp H
      obtain ⟨iB, A60, H⟩ := H
      (try dsimp only at H)
      have A6 := Aside0.mk A60
      clear A60
      by_cases c7 : iB < 0
      ·rw [if_pos c7] at H
       have mE : decide (iB < 0) = true := decide_eq_true c7
       clear c7
       obtain rfl := Option.some.inj H
       have p105 : 0 ≤ (oA : Int) := of_decide_eq_true q1_19
       have q105 : oA < (l0.length : Int) := of_decide_eq_true q1_19
       obtain ⟨ad105, xB, yB, zB, AB, BB, CB, vC, DA, EA, FA, GA, RA, SA, TA, UA, VA, WA⟩ := at_T50 HR0.out oA p105 q105
       cases vC
       replace DA := (HB.out.cell (World.block_lt_of_cell? w _ DA)).trans DA
       replace EA := (HB.out.cell (World.block_lt_of_cell? w _ EA)).trans EA
       replace FA := (HB.out.cell (World.block_lt_of_cell? w _ FA)).trans FA
       replace GA := (HB.out.cell (World.block_lt_of_cell? w _ GA)).trans GA
       have jB := Aside0.mk SA
       have kB := Aside0.mk RA
       clear SA RA
       have lB := Aside0.mk UA
       have mB := Aside0.mk TA
       clear UA TA
       have nB := Aside0.mk WA
       have oB := Aside0.mk VA
       clear WA VA
       replace p105 := eq_true p105
       replace q105 := eq_true q105
       go_wp2_with (first | ((with_reducible refine gate_callee (f := 29) rfl ?_); refine goesL_ (some 23) rfl rfl Try.func29 q1_23 rfl #[.agg #[.slice xB ((rd_T50 l0 oA).f0).length yB, .int .i64 ((rd_T50 l0 oA).f1), .slice zB ((rd_T50 l0 oA).f2).length AB, .slice BB ((rd_T50 l0 oA).f3).length CB], .int .i64 wB] rfl q1_1 ?_; (with_reducible refine (laws_szThread.calls _ _ ((rd_T50 l0 oA).f0) ((rd_T50 l0 oA).f1) _ _ ((rd_T50 l0 oA).f2) _ _ ((rd_T50 l0 oA).f3) wB iB _ ?side1 ?side2 ?side3 ?side4 ?side5 ?side6 A6.out).mono ?_); (case side1 => repeat (first | exact (Kd.C_below jB.out HB.out) | (with_reducible refine Kd.C_alloc ?_ _) | (with_reducible refine Kd.C_drewN ?_ _) | (with_reducible refine Kd.C_drew ?_))); (case side2 => exact kB.out); (case side3 => repeat (first | exact (Kd.C_below lB.out HB.out) | (with_reducible refine Kd.C_alloc ?_ _) | (with_reducible refine Kd.C_drewN ?_ _) | (with_reducible refine Kd.C_drew ?_))); (case side4 => exact mB.out); (case side5 => repeat (first | exact (Kd.C_below nB.out HB.out) | (with_reducible refine Kd.C_alloc ?_ _) | (with_reducible refine Kd.C_drewN ?_ _) | (with_reducible refine Kd.C_drew ?_))); (case side6 => exact oB.out); rintro e w8 ⟨rfl, hb⟩; refine ⟨_, rfl, ?_⟩; have aA := Aside0.mk (below_step q1_0 hb); clear HB; have HB := aA; clear aA; (try clear hb); (try clear hb2); (try clear hk); (try clear hi)))
       go_ret
       exact ⟨q1_2, q1_0⟩
      ·rw [if_neg c7] at H
       have mE : decide (iB < 0) = false := decide_eq_false c7
       clear c7
       have H' := Aside0.mk H
       clear H
       have p105 : 0 ≤ (oA : Int) := of_decide_eq_true q1_19
       have q105 : oA < (l0.length : Int) := of_decide_eq_true q1_19
       obtain ⟨ad105, xB, yB, zB, AB, BB, CB, vC, DA, EA, FA, GA, RA, SA, TA, UA, VA, WA⟩ := at_T50 HR0.out oA p105 q105
       cases vC
       replace DA := (HB.out.cell (World.block_lt_of_cell? w _ DA)).trans DA
       replace EA := (HB.out.cell (World.block_lt_of_cell? w _ EA)).trans EA
       replace FA := (HB.out.cell (World.block_lt_of_cell? w _ FA)).trans FA
       replace GA := (HB.out.cell (World.block_lt_of_cell? w _ GA)).trans GA
       have jB := Aside0.mk SA
       have kB := Aside0.mk RA
       clear SA RA
       have lB := Aside0.mk UA
       have mB := Aside0.mk TA
       clear UA TA
       have nB := Aside0.mk WA
       have oB := Aside0.mk VA
       clear WA VA
       replace p105 := eq_true p105
       replace q105 := eq_true q105
       go_wp2_with (first | ((with_reducible refine gate_callee (f := 29) rfl ?_); refine goesL_ (some 23) rfl rfl Try.func29 q1_23 rfl #[.agg #[.slice xB ((rd_T50 l0 oA).f0).length yB, .int .i64 ((rd_T50 l0 oA).f1), .slice zB ((rd_T50 l0 oA).f2).length AB, .slice BB ((rd_T50 l0 oA).f3).length CB], .int .i64 wB] rfl q1_1 ?_; (with_reducible refine (laws_szThread.calls _ _ ((rd_T50 l0 oA).f0) ((rd_T50 l0 oA).f1) _ _ ((rd_T50 l0 oA).f2) _ _ ((rd_T50 l0 oA).f3) wB iB _ ?side1 ?side2 ?side3 ?side4 ?side5 ?side6 A6.out).mono ?_); (case side1 => repeat (first | exact (Kd.C_below jB.out HB.out) | (with_reducible refine Kd.C_alloc ?_ _) | (with_reducible refine Kd.C_drewN ?_ _) | (with_reducible refine Kd.C_drew ?_))); (case side2 => exact kB.out); (case side3 => repeat (first | exact (Kd.C_below lB.out HB.out) | (with_reducible refine Kd.C_alloc ?_ _) | (with_reducible refine Kd.C_drewN ?_ _) | (with_reducible refine Kd.C_drew ?_))); (case side4 => exact mB.out); (case side5 => repeat (first | exact (Kd.C_below nB.out HB.out) | (with_reducible refine Kd.C_alloc ?_ _) | (with_reducible refine Kd.C_drewN ?_ _) | (with_reducible refine Kd.C_drew ?_))); (case side6 => exact oB.out); rintro e w9 ⟨rfl, hb⟩; refine ⟨_, rfl, ?_⟩; have aA := Aside0.mk (below_step q1_0 hb); clear HB; have HB := aA; clear aA; (try clear hb); (try clear hb2); (try clear hk); (try clear hi)))
       go_roundg k1
       case measure => have := HK1.out; omega
       case rel => exact ⟨(iB), (wrap64 (oA + 1)), q1_13, q1_13, H', ⟨by have := HK1.out; omega⟩, ⟨q1_0⟩⟩
     ·rw [if_neg c5] at H
      exact absurd H (by simp)
    ·rw [if_neg c4] at H
     have MB : decide (oA < (l0.length : Int)) = false := decide_eq_false c4
     clear c4
     obtain rfl := Option.some.inj H
     go_wp2
     go_ret
     exact ⟨q1_2, q1_0⟩

/-! ### spec_l03Size: function 59 -/
def spec_l03Size.f (a0 : Int) : Option (Bool) := if a0 ≥ 1 then (some (decide (a0 ≤ 16))) else (some false)
set_option maxHeartbeats 8000000 in
set_option maxRecDepth 100000 in
theorem spec_l03Size.calls (a0 : Int) (r : Bool) (w : World) (h : spec_l03Size.f a0 = some r) :
  Calls Try.prog 59 #[.int .i64 a0] w fun e w' => e = .returned (.bool r) ∧ Drawn0 w w' := by
 have H : (if a0 ≥ 1 then (some (decide (a0 ≤ 16))) else (some false)) = some r := h
 clear h
 by_cases c2 : a0 ≥ 1
 ·rw [if_pos c2] at H
  have PB : decide (1 ≤ a0) = true := decide_eq_true c2
  clear c2
  obtain rfl := Option.some.inj H
  go_enter Try.func59, Try.ntmps59
  go_wp2
  go_ret
  exact ⟨q1_13, q1_21⟩
 ·rw [if_neg c2] at H
  have PB : decide (1 ≤ a0) = false := decide_eq_false c2
  clear c2
  obtain rfl := Option.some.inj H
  go_enter Try.func59, Try.ntmps59
  go_wp2
  go_ret
  exact ⟨q1_13, q1_21⟩

/-! ### spec_MemNew: function 95 -/
def spec_MemNew.f (a0 : Int) : Option (List Int × Bool) := if a0 < 0 then (some (([] : List Int), false)) else (if a0 > 300 then (some (([] : List Int), false)) else (if 0 ≤ a0 then (if (a0 : Int).toNat ≤ 35184372088832 then (some ((List.replicate (a0 : Int).toNat 0), true)) else (none)) else (none)))
set_option maxHeartbeats 8000000 in
set_option maxRecDepth 100000 in
theorem spec_MemNew.calls (a0 : Int) (r1 : List Int) (r2 : Bool) (w : World) (h : spec_MemNew.f a0 = some (r1, r2)) :
  Calls Try.prog 95 #[.int .i64 a0] w fun e w' => ∃ v0_ : Value, e = .returned (.tuple #[.agg #[v0_], .bool r2]) ∧ Kd.R (Kd.int .i64) 3 w' w.heap.size (fun _ => True) v0_ r1 ∧ Below w.heap.size w w' := by
 have hu26 := Try.underlying26
 have HB := Aside0.mk (Below.refl w.heap.size w)
 have H : (if a0 < 0 then (some (([] : List Int), false)) else (if a0 > 300 then (some (([] : List Int), false)) else (if 0 ≤ a0 then (if (a0 : Int).toNat ≤ 35184372088832 then (some ((List.replicate (a0 : Int).toNat 0), true)) else (none)) else (none)))) = some (r1, r2) := h
 clear h
 by_cases c2 : a0 < 0
 ·rw [if_pos c2] at H
  have PB : decide (a0 < 0) = true := decide_eq_true c2
  clear c2
  simp only [Option.some.injEq, Prod.mk.injEq] at H
  obtain ⟨rfl, rfl⟩ := H
  go_enter Try.func95, Try.ntmps95
  go_wp2_with (first | ((with_reducible refine gate_dst (N := 2) rfl ?_); refine box_event ?hg (N := 2) ?hd (cs := #[.slice none 0 0]) (t := 26) ?hr ?_; (case hd => rfl); (case hg => rfl); (case hr => first | (go_simp; done) | (go_simp; rfl)); intro rA hg w3 hbox hb; have aA := Aside0.mk (below_step q1_0 hb); have eA := Aside0.mk (hbox); have hA := Aside0.mk ((q1_7 : w.heap.size ≤ rA)); have pA := Aside0.mk ((q1_7 : w.heap.size ≤ rA)); clear HB; have HB := aA; have yA := eA; have pC := hA; have KB := pA; clear aA eA hA pA; clear hb hbox hg; have nE : w3.cell? ⟨rA, 0, none⟩ = some (.slice none 0 0) := (blk_cell yA.out 0).trans rfl; have oE := blk_frozen yA.out 0))
  refine bodyPost_ret (results_ct rfl _ _ rA 26 #[.slice none 0 0] (0, 0) _ rfl q1_16 Try.underlying26 rfl q1_23) rfl ?_
  exact ⟨_, q1_2, q1_12, q1_14⟩
 ·rw [if_neg c2] at H
  have PB : decide (a0 < 0) = false := decide_eq_false c2
  clear c2
  by_cases c5 : a0 > 300
  ·rw [if_pos c5] at H
   have KC : decide (300 < a0) = true := decide_eq_true c5
   clear c5
   simp only [Option.some.injEq, Prod.mk.injEq] at H
   obtain ⟨rfl, rfl⟩ := H
   go_enter Try.func95, Try.ntmps95
   go_wp2_with (first | ((with_reducible refine gate_dst (N := 2) rfl ?_); refine box_event ?hg (N := 2) ?hd (cs := #[.slice none 0 0]) (t := 26) ?hr ?_; (case hd => rfl); (case hg => rfl); (case hr => first | (go_simp; done) | (go_simp; rfl)); intro rA hg w6 hbox hb; have aA := Aside0.mk (below_step q1_0 hb); have eA := Aside0.mk (hbox); have hA := Aside0.mk ((q1_7 : w.heap.size ≤ rA)); have pA := Aside0.mk ((q1_7 : w.heap.size ≤ rA)); clear HB; have HB := aA; have yA := eA; have pC := hA; have KB := pA; clear aA eA hA pA; clear hb hbox hg; have pE : w6.cell? ⟨rA, 0, none⟩ = some (.slice none 0 0) := (blk_cell yA.out 0).trans rfl; have qE := blk_frozen yA.out 0))
   refine bodyPost_ret (results_ct rfl _ _ rA 26 #[.slice none 0 0] (0, 0) _ rfl q1_16 Try.underlying26 rfl q1_23) rfl ?_
   exact ⟨_, q1_2, q1_12, q1_14⟩
  ·rw [if_neg c5] at H
   have KC : decide (300 < a0) = false := decide_eq_false c5
   clear c5
   by_cases c8 : 0 ≤ a0
   ·rw [if_pos c8] at H
    have JC := eq_true c8
    have iF : decide (0 ≤ a0) = true := decide_eq_true c8
    clear c8
    by_cases c9 : (a0 : Int).toNat ≤ 35184372088832
    ·rw [if_pos c9] at H
     have jF := eq_true c9
     have kF : decide ((a0 : Int).toNat ≤ 35184372088832) = true := decide_eq_true c9
     clear c9
     obtain ⟨y108, hy108⟩ : ∃ y_ : List Int, y_ = (List.replicate (a0 : Int).toNat 0) := ⟨_, rfl⟩
     replace H : (some (y108, true)) = some (r1, r2) := by first | (rw [hy108]; with_reducible exact H) | (have H2_ := (Option.bind_some _ _).symm.trans H; rw [hy108]; with_reducible exact H2_) | (have H2_ := (Option.bind_some _ _).symm.trans H; with_reducible exact H2_) | with_reducible exact H | (rw [hy108]; exact H) | exact H
     have Ny108 := Aside0.mk hy108
     clear hy108
     simp only [Option.some.injEq, Prod.mk.injEq] at H
     obtain ⟨rfl, rfl⟩ := H
     go_enter Try.func95, Try.ntmps95
     go_wp2_with (first | ((with_reducible refine gate_dst (N := 2) rfl ?_); refine box_event ?hg (N := 2) ?hd (cs := #[.slice none 0 0]) (t := 26) ?hr ?_; (case hd => rfl); (case hg => rfl); (case hr => first | (go_simp; done) | (go_simp; rfl)); intro rA hg yF hbox hb; have aA := Aside0.mk (below_step q1_0 hb); have eA := Aside0.mk (hbox); have hA := Aside0.mk ((q1_7 : w.heap.size ≤ rA)); have pA := Aside0.mk ((q1_7 : w.heap.size ≤ rA)); clear HB; have HB := aA; have yA := eA; have pC := hA; have KB := pA; clear aA eA hA pA; clear hb hbox hg) | ((with_reducible refine gate_dst (N := 12) rfl ?_); refine Kd.R_make (Kd.int .i64) _ 3 rfl (N := 12) rfl 24 _ _ rfl a0 rfl rfl Try.underlying24 (.int .i64 0) 8 info3 rfl (by decide) (by omega) 0 (ok := fun _ => True) (okp := fun _ => True) rfl (fun _ hk => hk) trivial (of_decide_eq_true q1_19) (Nat.le_trans (Nat.mul_le_mul_right _ (of_decide_eq_true q1_19 : a0.toNat ≤ 35184372088832)) (by omega)) (Below.refl _ _) (Nat.le_refl _) ?_; intro lF mF ho12 hb hg_ hnew_; clear hg_ hnew_; (first | rw [← Ny108.out] at ho12 | (simp only [Int.reduceToNat] at ho12; rw [← Ny108.out] at ho12)); have aA := Aside0.mk (Kd.R_lower ho12 (below_size q1_14)); have eA := Aside0.mk (blk_below (g := rA) (o := .cells #[.slice none 0 0] 26 (0, 0)) (by (with_reducible repeat (first | refine blk_drewN ?_ _ | refine blk_drew ?_ | refine blk_alloc ?_ _)); exact yA.out) hb); have hA := Aside0.mk (below_step q1_14 hb); clear yA HB; have qC := aA; have yA := eA; have HB := hA; clear aA eA hA; clear hb ho12; obtain ⟨LC, MC, rE⟩ := Kd.R_slice qC.out; subst rE; have WB : mF.cell? ⟨rA, 0, none⟩ = some (.slice none 0 0) := (blk_cell yA.out 0).trans rfl; have XB := blk_frozen yA.out 0))
     refine bodyPost_ret (results_ct rfl _ _ rA 26 #[.slice LC y108.length MC] (0, 0) _ rfl q1_16 Try.underlying26 rfl q1_23) rfl ?_
     exact ⟨_, q1_2, by (with_reducible repeat (first | apply Kd.R_alloc | apply Kd.R_drewN | apply Kd.R_drew)); exact Kd.R_mono (Kd.R_far (p := ⟨rA, 0, none⟩) (Kd.R_types qC.out yA.out (by decide)) (fun _ hk => hk.2) (.slice LC y108.length MC)) (fun _ hk => trivial), q1_14⟩
    ·rw [if_neg c9] at H
     exact absurd H (by simp)
   ·rw [if_neg c8] at H
    exact absurd H (by simp)

/-! ### spec_StNew: function 76 -/
def spec_StNew.l0 : Nat → Int → Bool → Int → List Int → Option (List Int × Bool)
 | 0, _, _, _, _ => none
 | k + 1, x0, x1, x8, dB => if x8 < x0 then (if x1 = true then (if 0 ≤ x8 then (if x8 < (dB.length : Int) then (spec_StNew.l0 k x0 x1 (wrap64 (x8 + 1)) (dB.set (x8 : Int).toNat (wrap64 (x8 + 1)))) else (none)) else (none)) else (some (dB, true))) else (some (dB, true))
def spec_StNew.f (k : Nat) (a0 : Int) (a1 : Bool) : Option (List Int × Bool) := (spec_l03Size.f a0).bind fun QB => (if QB = true then ((spec_MemNew.f (wrap64 (1 + a0))).bind fun RB => (spec_StNew.l0 k a0 a1 0 RB.1)) else (some (([] : List Int), false)))
theorem spec_StNew.mono_l : ∀ k, (∀ y0 y1 y2 y3, LeO (spec_StNew.l0 k y0 y1 y2 y3) (spec_StNew.l0 (k + 1) y0 y1 y2 y3))
 | 0 => fun _ _ _ _ r h => by simp [spec_StNew.l0] at h
 | k + 1 => by
  have ih0 := spec_StNew.mono_l k
  ·intro y0 y1 y2 y3
   unfold spec_StNew.l0
   repeat' first
   | (with_reducible exact ih0 _ _ _ _)
   | (with_reducible exact LeO.refl _)
   | (with_reducible exact LeO.none _)
   | (with_reducible refine LeO.ite ?_ ?_)
   | (with_reducible refine LeO.bind ?_ (fun _ => ?_))
   | exact ih0 _ _ _ _
   | exact LeO.none _
   | refine LeO.ite ?_ ?_
   | refine LeO.bind ?_ (fun _ => ?_)
theorem spec_StNew.mono : ∀ a0 a1 k, LeO (spec_StNew.f k a0 a1) (spec_StNew.f (k + 1) a0 a1) := by
 intro a0 a1 k
 have ih0 := spec_StNew.mono_l k
 unfold spec_StNew.f
 repeat' first
   | (with_reducible exact ih0 _ _ _ _)
   | (with_reducible exact LeO.refl _)
   | (with_reducible exact LeO.none _)
   | (with_reducible refine LeO.ite ?_ ?_)
   | (with_reducible refine LeO.bind ?_ (fun _ => ?_))
   | exact ih0 _ _ _ _
   | exact LeO.none _
   | refine LeO.ite ?_ ?_
   | refine LeO.bind ?_ (fun _ => ?_)
set_option maxHeartbeats 8000000 in
set_option maxRecDepth 100000 in
theorem spec_StNew.calls (k : Nat) (a0 : Int) (a1 : Bool) (r1 : List Int) (r2 : Bool) (w : World) (h : spec_StNew.f k a0 a1 = some (r1, r2)) :
  Calls Try.prog 76 #[.int .i64 a0, .bool a1] w fun e w' => ∃ v0_ : Value, e = .returned (.tuple #[.agg #[v0_], .bool r2]) ∧ Kd.R (Kd.int .i64) 3 w' w.heap.size (fun _ => True) v0_ r1 ∧ Below w.heap.size w w' := by
 have hu26 := Try.underlying26
 have HB := Aside0.mk (Below.refl w.heap.size w)
 have H : ((spec_l03Size.f a0).bind fun QB => (if QB = true then ((spec_MemNew.f (wrap64 (1 + a0))).bind fun RB => (spec_StNew.l0 k a0 a1 0 RB.1)) else (some (([] : List Int), false)))) = some (r1, r2) := h
 clear h
 replace H := Option.bind_eq_some_iff.mp H
 obtain ⟨QB, A30, H⟩ := H
 (try dsimp only at H)
 have A3 := Aside0.mk A30
 clear A30
 by_cases c4 : QB = true
 ·subst c4
  rw [if_pos rfl] at H
  replace H := Option.bind_eq_some_iff.mp H
  obtain ⟨⟨YB, sE⟩, A50, H⟩ := H
  (try dsimp only at H)
  have A5 := Aside0.mk A50
  clear A50
  have H' := Aside0.mk H
  clear H
  go_enter Try.func76, Try.ntmps76
  go_wp2_with (first | ((with_reducible refine gate_dst (N := 4) rfl ?_); refine box_event ?hg (N := 4) ?hd (cs := #[.slice none 0 0]) (t := 26) ?hr ?_; (case hd => rfl); (case hg => rfl); (case hr => first | (go_simp; done) | (go_simp; rfl)); intro lA hg w6 hbox hb; have aA := Aside0.mk (below_step q1_0 hb); have eA := Aside0.mk (hbox); have hA := Aside0.mk ((q1_7 : w.heap.size ≤ lA)); have pA := Aside0.mk ((q1_7 : w.heap.size ≤ lA)); clear HB; have HB := aA; have kA := eA; have NC := hA; have IB := pA; clear aA eA hA pA; clear hb hbox hg) | ((with_reducible refine gate_callee (f := 59) rfl ?_); refine goesL_ (some 10) rfl rfl Try.func59 q1_23 rfl #[.int .i64 a0] rfl q1_1 ?_; (with_reducible refine (spec_l03Size.calls a0 true _ A3.out).mono ?_); rintro e w' ⟨rfl, ⟨nd, rfl⟩⟩; refine ⟨_, rfl, ?_⟩; (try (rw [drewN_self w6]; generalize hq_ : World.drewN w6 _ = w6; have aA : Aside0 (w6.heap[lA]? = some (.cells #[.slice none 0 0] 26 (0, 0))) := ⟨by rw [← hq_]; exact q1_9⟩; have eA : Aside0 (Below w.heap.size w w6) := ⟨by rw [← hq_]; exact q1_5⟩; clear kA HB hq_; have kA := aA; have HB := eA; clear aA eA))) | ((with_reducible refine gate_callee (f := 95) rfl ?_); refine goesL_ (some 16) rfl rfl Try.func95 q1_23 rfl #[.int .i64 (wrap64 (1 + a0))] rfl q1_1 ?_; (with_reducible refine (spec_MemNew.calls (wrap64 (1 + a0)) YB sE _ A5.out).mono ?_); rintro e w7 ⟨nF, rfl, ho0, hb⟩; refine ⟨_, rfl, ?_⟩; have aA := Aside0.mk (Kd.R_lower ho0 (below_size q1_5)); have eA := Aside0.mk (blk_below (g := lA) (o := .cells #[.slice none 0 0] 26 (0, 0)) q1_9 hb); have hA := Aside0.mk (below_step q1_5 hb); clear kA HB; have qB := aA; have kA := eA; have HB := hA; clear aA eA hA; (try clear hb); (try clear hb2); (try clear hk); (try clear hi); (try clear ho0)) | ((with_reducible refine gate_dst (N := 6) rfl ?_); refine box_event ?hg (N := 6) ?hd (cs := #[.slice none 0 0]) (t := 26) ?hr ?_; (case hd => rfl); (case hg => rfl); (case hr => first | (go_simp; done) | (go_simp; rfl)); intro IA hg w8 hbox hb; have aA := Aside0.mk (Kd.R_below (by (with_reducible repeat (first | apply Kd.R_alloc | apply Kd.R_drewN | apply Kd.R_drew)); exact qB.out) hb); have eA := Aside0.mk (blk_below (g := lA) (o := .cells #[.slice none 0 0] 26 (0, 0)) q1_9 hb); have hA := Aside0.mk (below_step q1_5 hb); have pA := Aside0.mk (hbox); have OC := Aside0.mk ((by rw [hg]; exact (below_size q1_5) : w.heap.size ≤ IA)); have PC := Aside0.mk ((by rw [hg]; exact (below_size q1_5) : w.heap.size ≤ IA)); have QC := Aside0.mk ((by rw [hg]; exact Nat.ne_of_lt (blk_lt (g := lA) (o := .cells #[.slice none 0 0] 26 (0, 0)) q1_9) : lA ≠ IA)); have RC := Aside0.mk ((by rw [hg]; exact Nat.ne_of_gt (blk_lt (g := lA) (o := .cells #[.slice none 0 0] 26 (0, 0)) q1_9) : IA ≠ lA)); clear qB kA HB; have qB := aA; have kA := eA; have HB := hA; have sA := pA; have OE := OC; have FC := PC; have AA := QC; have JA := RC; clear aA eA hA pA OC PC QC RC; clear hb hbox hg; obtain ⟨PE, QE, oF⟩ := Kd.R_slice qB.out; subst oF; have RE := JA.out; have SE := AA.out; have ZB : w8.cell? ⟨IA, 0, none⟩ = some (.slice none 0 0) := (blk_cell sA.out 0).trans rfl; have aC := blk_frozen sA.out 0))
  go_loopg [8] k (fun kq v8 w' => ∃ (xA : Int) (cA : List Int) (KA : Value), v8 = .int .i64 xA ∧ Aside0 (spec_StNew.l0 kq a0 a1 xA cA = some (r1, r2)) ∧ Aside0 (kq ≤ k) ∧ Aside0 (Kd.R (Kd.int .i64) 3 w' w.heap.size (fun _ => True) KA cA) ∧ Aside0 (w'.heap[lA]? = some (.cells #[(.slice none 0 0)] 26 (0, 0))) ∧ Aside0 (w'.heap[IA]? = some (.cells #[KA] 26 (0, 0))) ∧ Aside0 (Below w.heap.size w w'))
  case atStart => exact ⟨(0), (YB), (.slice PE YB.length QE), q1_13, H', ⟨Nat.le_refl _⟩, ⟨by (with_reducible repeat (first | apply Kd.R_alloc | apply Kd.R_drewN | apply Kd.R_drew)); exact Kd.R_mono (Kd.R_far (p := ⟨IA, 0, none⟩) (Kd.R_types qB.out sA.out (by decide)) (fun _ hk => hk.2) (.slice PE YB.length QE)) (fun _ hk => trivial)⟩, ⟨by (with_reducible repeat (first | refine blk_drewN ?_ _ | refine blk_drew ?_ | refine blk_alloc ?_ _)); refine blk_far ?_ AA.out _; (with_reducible repeat (first | refine blk_drewN ?_ _ | refine blk_drew ?_ | refine blk_alloc ?_ _)); exact kA.out⟩, ⟨by (with_reducible repeat (first | refine blk_drewN ?_ _ | refine blk_drew ?_ | refine blk_alloc ?_ _)); refine blk_put (cs := #[.slice none 0 0]) ?_ 0 _ rfl; (with_reducible repeat (first | refine blk_drewN ?_ _ | refine blk_drew ?_ | refine blk_alloc ?_ _)); exact sA.out⟩, ⟨q1_15⟩⟩
  case round =>
   clear H'
   (try clear c1); (try clear p2); (try clear c4); (try clear c5); (try clear p6); (try clear c7); (try clear c9); (try clear c10); (try clear ZB); (try clear aC)
   obtain ⟨xA, cA, KA, rfl, HA, HK1, fA, kA, sA, HB⟩ := hrel
   cases gk with
   | zero => exact absurd HA.out (by simp [spec_StNew.l0])
   | succ k1 =>
    have H := HA.out
    clear HA
    simp only [spec_StNew.l0] at H
    by_cases c12 : xA < a0
    ·rw [if_pos c12] at H
     have OB : decide (xA < a0) = true := decide_eq_true c12
     clear c12
     by_cases c13 : a1 = true
     ·subst c13
      rw [if_pos rfl] at H
      by_cases c14 : 0 ≤ xA
      ·rw [if_pos c14] at H
       have SC : decide (0 ≤ xA) = true := decide_eq_true c14
       clear c14
       by_cases c15 : xA < (cA.length : Int)
       ·rw [if_pos c15] at H
        have TE : decide (xA < (cA.length : Int)) = true := decide_eq_true c15
        clear c15
        obtain ⟨y118, hy118⟩ : ∃ y_ : List Int, y_ = (cA.set (xA : Int).toNat (wrap64 (xA + 1))) := ⟨_, rfl⟩
        replace H : (spec_StNew.l0 k1 a0 true (wrap64 (xA + 1)) y118) = some (r1, r2) := by first | (rw [hy118]; with_reducible exact H) | (have H2_ := (Option.bind_some _ _).symm.trans H; rw [hy118]; with_reducible exact H2_) | (have H2_ := (Option.bind_some _ _).symm.trans H; with_reducible exact H2_) | with_reducible exact H | (rw [hy118]; exact H) | exact H
        have Ny118 := Aside0.mk hy118
        clear hy118
        have H' := Aside0.mk H
        clear H
        have UE := JA.out
        have VE := AA.out
        have MD : wr.cell? ⟨IA, 0, none⟩ = some (KA) := (blk_cell sA.out 0).trans rfl
        have ND := blk_frozen sA.out 0
        have p16 : 0 ≤ (xA : Int) := of_decide_eq_true q1_19
        have q16 : (xA : Int) < ((cA.length : Int) : Int) := of_decide_eq_true q1_19
        obtain ⟨go16, wC, TC, UC, gl16, cl16, HG16⟩ := Kd.R_form fA.out (by omega)
        (first | cases TC | (injection TC with ea_ en_ ec_; (first | subst ea_ | (injection ea_ with ea_; subst ea_)); subst ec_; clear en_))
        have GB16 := Aside0.mk UC
        have GG16 := Aside0.mk HG16
        clear UC gl16 HG16
        obtain ⟨tE, uE⟩ := Kd.R_celln 0 fA.out (xA : Int) p16 q16
        replace p16 := eq_true p16
        replace q16 := eq_true q16
        have HP19 := Kd.R_putg fA.out (xA : Int) (wrap64 (xA + 1))
        go_wp2_with (first | ((with_reducible refine gate_store (t := 3) (p := 32) rfl ?_); refine store_event (t := 3) (p := 32) (v := ?vo_w20) (w1 := (wr.setCell ⟨go16, (xA : Int).toNat, none⟩ (.int .i64 (wrap64 (xA + 1))))) ?hg ?ho ?hn ?hr ?_; (case ho => rfl); (case hg => rfl); (case hn => rfl); (case hr => first | (go_simp; done) | (go_simp; rfl)); intro vE hw; have hg : wr.grownBy vE (some go16) := (by rw [hw]; exact HP19.2); have hp_ : Kd.R (Kd.int .i64) 3 vE w.heap.size (fun _ => True) (.slice (some ⟨go16, 0, none⟩) cA.length wC) y118 := (by rw [hw, Ny118.out]; exact HP19.1); clear HP19; have aA := Aside0.mk (hp_); have eA := Aside0.mk (blk_grown (g := lA) (o := .cells #[.slice none 0 0] 26 (0, 0)) q1_9 hg (Kd.R_ne fA.out kA.out (by decide))); have hA := Aside0.mk (blk_grown (g := IA) (o := .cells #[.slice (some ⟨go16, 0, none⟩) cA.length wC] 26 (0, 0)) (by (with_reducible repeat (first | refine blk_drewN ?_ _ | refine blk_drew ?_ | refine blk_alloc ?_ _)); exact sA.out) hg (Kd.R_ne fA.out sA.out (by decide))); have pA := Aside0.mk ((by rw [hw]; exact below_set (HB.out) GB16.out : Below w.heap.size w vE)); clear fA kA sA HB; have fA := aA; have kA := eA; have sA := hA; have HB := pA; clear aA eA hA pA; clear hg hw hp_))
        go_roundg k1
        case measure => have := HK1.out; omega
        case rel => exact ⟨(wrap64 (xA + 1)), (y118), (.slice (some ⟨go16, 0, none⟩) cA.length wC), q1_13, H', ⟨by have := HK1.out; omega⟩, ⟨by (with_reducible repeat (first | apply Kd.R_alloc | apply Kd.R_drewN | apply Kd.R_drew)); exact fA.out⟩, ⟨q1_9⟩, ⟨by (with_reducible repeat (first | refine blk_drewN ?_ _ | refine blk_drew ?_ | refine blk_alloc ?_ _)); exact sA.out⟩, ⟨q1_15⟩⟩
       ·rw [if_neg c15] at H
        exact absurd H (by simp)
      ·rw [if_neg c14] at H
       exact absurd H (by simp)
     ·replace c13 := Bool.eq_false_iff.mpr c13
      subst c13
      rw [if_neg (show ¬ (false = true) by decide)] at H
      simp only [Option.some.injEq, Prod.mk.injEq] at H
      obtain ⟨rfl, rfl⟩ := H
      have WE := JA.out
      have XE := AA.out
      have OD : wr.cell? ⟨IA, 0, none⟩ = some (KA) := (blk_cell sA.out 0).trans rfl
      have PD := blk_frozen sA.out 0
      obtain ⟨VC, WC, wE⟩ := Kd.R_slice fA.out
      subst wE
      have QD : wr.cell? ⟨lA, 0, none⟩ = some (.slice none 0 0) := (blk_cell kA.out 0).trans rfl
      have RD := blk_frozen kA.out 0
      go_wp2
      refine bodyPost_ret (results_ct rfl _ _ lA 26 #[.slice VC cA.length WC] (0, 0) _ rfl q1_17 Try.underlying26 rfl q1_23) rfl ?_
      exact ⟨_, q1_2, by (with_reducible repeat (first | apply Kd.R_alloc | apply Kd.R_drewN | apply Kd.R_drew)); exact Kd.R_mono (Kd.R_far (p := ⟨lA, 0, none⟩) (Kd.R_types fA.out kA.out (by decide)) (fun _ hk => hk.2) (.slice VC cA.length WC)) (fun _ hk => trivial), q1_15⟩
    ·rw [if_neg c12] at H
     have OB : decide (xA < a0) = false := decide_eq_false c12
     clear c12
     simp only [Option.some.injEq, Prod.mk.injEq] at H
     obtain ⟨rfl, rfl⟩ := H
     have YE := JA.out
     have ZE := AA.out
     have SD : wr.cell? ⟨IA, 0, none⟩ = some (KA) := (blk_cell sA.out 0).trans rfl
     have TD := blk_frozen sA.out 0
     obtain ⟨XC, YC, xE⟩ := Kd.R_slice fA.out
     subst xE
     have UD : wr.cell? ⟨lA, 0, none⟩ = some (.slice none 0 0) := (blk_cell kA.out 0).trans rfl
     have VD := blk_frozen kA.out 0
     go_wp2
     refine bodyPost_ret (results_ct rfl _ _ lA 26 #[.slice XC cA.length YC] (0, 0) _ rfl q1_17 Try.underlying26 rfl q1_23) rfl ?_
     exact ⟨_, q1_2, by (with_reducible repeat (first | apply Kd.R_alloc | apply Kd.R_drewN | apply Kd.R_drew)); exact Kd.R_mono (Kd.R_far (p := ⟨lA, 0, none⟩) (Kd.R_types fA.out kA.out (by decide)) (fun _ hk => hk.2) (.slice XC cA.length YC)) (fun _ hk => trivial), q1_15⟩
 ·replace c4 := Bool.eq_false_iff.mpr c4
  subst c4
  rw [if_neg (show ¬ (false = true) by decide)] at H
  simp only [Option.some.injEq, Prod.mk.injEq] at H
  obtain ⟨rfl, rfl⟩ := H
  go_enter Try.func76, Try.ntmps76
  go_wp2_with (first | ((with_reducible refine gate_dst (N := 4) rfl ?_); refine box_event ?hg (N := 4) ?hd (cs := #[.slice none 0 0]) (t := 26) ?hr ?_; (case hd => rfl); (case hg => rfl); (case hr => first | (go_simp; done) | (go_simp; rfl)); intro lA hg DC hbox hb; have aA := Aside0.mk (below_step q1_0 hb); have eA := Aside0.mk (hbox); have hA := Aside0.mk ((q1_7 : w.heap.size ≤ lA)); have pA := Aside0.mk ((q1_7 : w.heap.size ≤ lA)); clear HB; have HB := aA; have kA := eA; have NC := hA; have IB := pA; clear aA eA hA pA; clear hb hbox hg) | ((with_reducible refine gate_callee (f := 59) rfl ?_); refine goesL_ (some 10) rfl rfl Try.func59 q1_23 rfl #[.int .i64 a0] rfl q1_1 ?_; (with_reducible refine (spec_l03Size.calls a0 false _ A3.out).mono ?_); rintro e w' ⟨rfl, ⟨nd, rfl⟩⟩; refine ⟨_, rfl, ?_⟩; (try (rw [drewN_self DC]; generalize hq_ : World.drewN DC _ = DC; have aA : Aside0 (DC.heap[lA]? = some (.cells #[.slice none 0 0] 26 (0, 0))) := ⟨by rw [← hq_]; exact q1_9⟩; have eA : Aside0 (Below w.heap.size w DC) := ⟨by rw [← hq_]; exact q1_5⟩; clear kA HB hq_; have kA := aA; have HB := eA; clear aA eA)); have WD : DC.cell? ⟨lA, 0, none⟩ = some (.slice none 0 0) := (blk_cell kA.out 0).trans rfl; have XD := blk_frozen kA.out 0))
  refine bodyPost_ret (results_ct rfl _ _ lA 26 #[.slice none 0 0] (0, 0) _ rfl q1_17 Try.underlying26 rfl q1_23) rfl ?_
  exact ⟨_, q1_2, q1_12, q1_5⟩

/-! ### spec_l04Size: function 96 -/
def spec_l04Size.f (a0 : Int) : Option (Bool) := if a0 ≥ 2 then (some (decide (a0 ≤ 16))) else (some false)
set_option maxHeartbeats 8000000 in
set_option maxRecDepth 100000 in
theorem spec_l04Size.calls (a0 : Int) (r : Bool) (w : World) (h : spec_l04Size.f a0 = some r) :
  Calls Try.prog 96 #[.int .i64 a0] w fun e w' => e = .returned (.bool r) ∧ Drawn0 w w' := by
 have H : (if a0 ≥ 2 then (some (decide (a0 ≤ 16))) else (some false)) = some r := h
 clear h
 by_cases c2 : a0 ≥ 2
 ·rw [if_pos c2] at H
  have PB : decide (2 ≤ a0) = true := decide_eq_true c2
  clear c2
  obtain rfl := Option.some.inj H
  go_enter Try.func96, Try.ntmps96
  go_wp2
  go_ret
  exact ⟨q1_13, q1_21⟩
 ·rw [if_neg c2] at H
  have PB : decide (2 ≤ a0) = false := decide_eq_false c2
  clear c2
  obtain rfl := Option.some.inj H
  go_enter Try.func96, Try.ntmps96
  go_wp2
  go_ret
  exact ⟨q1_13, q1_21⟩

/-! ### spec_RiNew: function 77 -/
def spec_RiNew.l0 : Nat → Int → Int → List Int → Option (List Int × Bool)
 | 0, _, _, _ => none
 | k + 1, x0, x6, pB => if x6 < x0 then (if 0 ≤ (wrap64 (2 + (wrap64 (2 * x6)))) then (if (wrap64 (2 + (wrap64 (2 * x6)))) < (pB.length : Int) then (spec_RiNew.l0 k x0 (wrap64 (x6 + 1)) (pB.set ((wrap64 (2 + (wrap64 (2 * x6)))) : Int).toNat x6)) else (none)) else (none)) else (some (pB, true))
def spec_RiNew.f (k : Nat) (a0 : Int) : Option (List Int × Bool) := (spec_l04Size.f a0).bind fun SB => (if SB = true then ((spec_MemNew.f (wrap64 (2 + (wrap64 (2 * a0))))).bind fun TB => (spec_RiNew.l0 k a0 0 TB.1)) else (some (([] : List Int), false)))
theorem spec_RiNew.mono_l : ∀ k, (∀ y0 y1 y2, LeO (spec_RiNew.l0 k y0 y1 y2) (spec_RiNew.l0 (k + 1) y0 y1 y2))
 | 0 => fun _ _ _ r h => by simp [spec_RiNew.l0] at h
 | k + 1 => by
  have ih0 := spec_RiNew.mono_l k
  ·intro y0 y1 y2
   unfold spec_RiNew.l0
   repeat' first
   | (with_reducible exact ih0 _ _ _)
   | (with_reducible exact LeO.refl _)
   | (with_reducible exact LeO.none _)
   | (with_reducible refine LeO.ite ?_ ?_)
   | (with_reducible refine LeO.bind ?_ (fun _ => ?_))
   | exact ih0 _ _ _
   | exact LeO.none _
   | refine LeO.ite ?_ ?_
   | refine LeO.bind ?_ (fun _ => ?_)
theorem spec_RiNew.mono : ∀ a0 k, LeO (spec_RiNew.f k a0) (spec_RiNew.f (k + 1) a0) := by
 intro a0 k
 have ih0 := spec_RiNew.mono_l k
 unfold spec_RiNew.f
 repeat' first
   | (with_reducible exact ih0 _ _ _)
   | (with_reducible exact LeO.refl _)
   | (with_reducible exact LeO.none _)
   | (with_reducible refine LeO.ite ?_ ?_)
   | (with_reducible refine LeO.bind ?_ (fun _ => ?_))
   | exact ih0 _ _ _
   | exact LeO.none _
   | refine LeO.ite ?_ ?_
   | refine LeO.bind ?_ (fun _ => ?_)
set_option maxHeartbeats 8000000 in
set_option maxRecDepth 100000 in
theorem spec_RiNew.calls (k : Nat) (a0 : Int) (r1 : List Int) (r2 : Bool) (w : World) (h : spec_RiNew.f k a0 = some (r1, r2)) :
  Calls Try.prog 77 #[.int .i64 a0] w fun e w' => ∃ v0_ : Value, e = .returned (.tuple #[.agg #[v0_], .bool r2]) ∧ Kd.R (Kd.int .i64) 3 w' w.heap.size (fun _ => True) v0_ r1 ∧ Below w.heap.size w w' := by
 have hu26 := Try.underlying26
 have HB := Aside0.mk (Below.refl w.heap.size w)
 have H : ((spec_l04Size.f a0).bind fun SB => (if SB = true then ((spec_MemNew.f (wrap64 (2 + (wrap64 (2 * a0))))).bind fun TB => (spec_RiNew.l0 k a0 0 TB.1)) else (some (([] : List Int), false)))) = some (r1, r2) := h
 clear h
 replace H := Option.bind_eq_some_iff.mp H
 obtain ⟨SB, A20, H⟩ := H
 (try dsimp only at H)
 have A2 := Aside0.mk A20
 clear A20
 by_cases c3 : SB = true
 ·subst c3
  rw [if_pos rfl] at H
  replace H := Option.bind_eq_some_iff.mp H
  obtain ⟨⟨bC, yE⟩, A40, H⟩ := H
  (try dsimp only at H)
  have A4 := Aside0.mk A40
  clear A40
  have H' := Aside0.mk H
  clear H
  go_enter Try.func77, Try.ntmps77
  go_wp2_with (first | ((with_reducible refine gate_dst (N := 2) rfl ?_); refine box_event ?hg (N := 2) ?hd (cs := #[.slice none 0 0]) (t := 26) ?hr ?_; (case hd => rfl); (case hg => rfl); (case hr => first | (go_simp; done) | (go_simp; rfl)); intro qA hg w5 hbox hb; have aA := Aside0.mk (below_step q1_0 hb); have eA := Aside0.mk (hbox); have hA := Aside0.mk ((q1_7 : w.heap.size ≤ qA)); have pA := Aside0.mk ((q1_7 : w.heap.size ≤ qA)); clear HB; have HB := aA; have nA := eA; have ZC := hA; have JB := pA; clear aA eA hA pA; clear hb hbox hg) | ((with_reducible refine gate_callee (f := 96) rfl ?_); refine goesL_ (some 8) rfl rfl Try.func96 q1_23 rfl #[.int .i64 a0] rfl q1_1 ?_; (with_reducible refine (spec_l04Size.calls a0 true _ A2.out).mono ?_); rintro e w' ⟨rfl, ⟨nd, rfl⟩⟩; refine ⟨_, rfl, ?_⟩; (try (rw [drewN_self w5]; generalize hq_ : World.drewN w5 _ = w5; have aA : Aside0 (w5.heap[qA]? = some (.cells #[.slice none 0 0] 26 (0, 0))) := ⟨by rw [← hq_]; exact q1_11⟩; have eA : Aside0 (Below w.heap.size w w5) := ⟨by rw [← hq_]; exact q1_6⟩; clear nA HB hq_; have nA := aA; have HB := eA; clear aA eA))) | ((with_reducible refine gate_callee (f := 95) rfl ?_); refine goesL_ (some 15) rfl rfl Try.func95 q1_23 rfl #[.int .i64 (wrap64 (2 + (wrap64 (2 * a0))))] rfl q1_1 ?_; (with_reducible refine (spec_MemNew.calls (wrap64 (2 + (wrap64 (2 * a0)))) bC yE _ A4.out).mono ?_); rintro e w6 ⟨pF, rfl, ho0, hb⟩; refine ⟨_, rfl, ?_⟩; have aA := Aside0.mk (Kd.R_lower ho0 (below_size q1_6)); have eA := Aside0.mk (blk_below (g := qA) (o := .cells #[.slice none 0 0] 26 (0, 0)) q1_11 hb); have hA := Aside0.mk (below_step q1_6 hb); clear nA HB; have rB := aA; have nA := eA; have HB := hA; clear aA eA hA; (try clear hb); (try clear hb2); (try clear hk); (try clear hi); (try clear ho0)) | ((with_reducible refine gate_dst (N := 4) rfl ?_); refine box_event ?hg (N := 4) ?hd (cs := #[.slice none 0 0]) (t := 26) ?hr ?_; (case hd => rfl); (case hg => rfl); (case hr => first | (go_simp; done) | (go_simp; rfl)); intro NA hg w7 hbox hb; have aA := Aside0.mk (Kd.R_below (by (with_reducible repeat (first | apply Kd.R_alloc | apply Kd.R_drewN | apply Kd.R_drew)); exact rB.out) hb); have eA := Aside0.mk (blk_below (g := qA) (o := .cells #[.slice none 0 0] 26 (0, 0)) q1_11 hb); have hA := Aside0.mk (below_step q1_6 hb); have pA := Aside0.mk (hbox); have OC := Aside0.mk ((by rw [hg]; exact (below_size q1_6) : w.heap.size ≤ NA)); have PC := Aside0.mk ((by rw [hg]; exact (below_size q1_6) : w.heap.size ≤ NA)); have QC := Aside0.mk ((by rw [hg]; exact Nat.ne_of_lt (blk_lt (g := qA) (o := .cells #[.slice none 0 0] 26 (0, 0)) q1_11) : qA ≠ NA)); have RC := Aside0.mk ((by rw [hg]; exact Nat.ne_of_gt (blk_lt (g := qA) (o := .cells #[.slice none 0 0] 26 (0, 0)) q1_11) : NA ≠ qA)); clear rB nA HB; have rB := aA; have nA := eA; have HB := hA; have wA := pA; have aF := OC; have HC := PC; have LA := QC; have aB := RC; clear aA eA hA pA OC PC QC RC; clear hb hbox hg; obtain ⟨aD, bD, zE⟩ := Kd.R_slice rB.out; subst zE; have qF := aB.out; have rF := LA.out; have gB : w7.cell? ⟨NA, 0, none⟩ = some (.slice none 0 0) := (blk_cell wA.out 0).trans rfl; have hB := blk_frozen wA.out 0))
  go_loopg [6] k (fun kq v6 w' => ∃ (OA : Int) (dA : List Int) (XA : Value), v6 = .int .i64 OA ∧ Aside0 (spec_RiNew.l0 kq a0 OA dA = some (r1, r2)) ∧ Aside0 (kq ≤ k) ∧ Aside0 (Kd.R (Kd.int .i64) 3 w' w.heap.size (fun _ => True) XA dA) ∧ Aside0 (w'.heap[qA]? = some (.cells #[(.slice none 0 0)] 26 (0, 0))) ∧ Aside0 (w'.heap[NA]? = some (.cells #[XA] 26 (0, 0))) ∧ Aside0 (Below w.heap.size w w'))
  case atStart => exact ⟨(0), (bC), (.slice aD bC.length bD), q1_13, H', ⟨Nat.le_refl _⟩, ⟨by (with_reducible repeat (first | apply Kd.R_alloc | apply Kd.R_drewN | apply Kd.R_drew)); exact Kd.R_mono (Kd.R_far (p := ⟨NA, 0, none⟩) (Kd.R_types rB.out wA.out (by decide)) (fun _ hk => hk.2) (.slice aD bC.length bD)) (fun _ hk => trivial)⟩, ⟨by (with_reducible repeat (first | refine blk_drewN ?_ _ | refine blk_drew ?_ | refine blk_alloc ?_ _)); refine blk_far ?_ LA.out _; (with_reducible repeat (first | refine blk_drewN ?_ _ | refine blk_drew ?_ | refine blk_alloc ?_ _)); exact nA.out⟩, ⟨by (with_reducible repeat (first | refine blk_drewN ?_ _ | refine blk_drew ?_ | refine blk_alloc ?_ _)); refine blk_put (cs := #[.slice none 0 0]) ?_ 0 _ rfl; (with_reducible repeat (first | refine blk_drewN ?_ _ | refine blk_drew ?_ | refine blk_alloc ?_ _)); exact wA.out⟩, ⟨q1_20⟩⟩
  case round =>
   clear H'
   (try clear p2); (try clear c3); (try clear p6); (try clear c7); (try clear c9); (try clear gB); (try clear hB)
   obtain ⟨OA, dA, XA, rfl, HA, HK1, jA, nA, wA, HB⟩ := hrel
   cases gk with
   | zero => exact absurd HA.out (by simp [spec_RiNew.l0])
   | succ k1 =>
    have H := HA.out
    clear HA
    simp only [spec_RiNew.l0] at H
    by_cases c11 : OA < a0
    ·rw [if_pos c11] at H
     have cD : decide (OA < a0) = true := decide_eq_true c11
     clear c11
     obtain ⟨ji12, hji12⟩ : ∃ j_ : Int, (wrap64 (2 + (wrap64 (2 * OA)))) = j_ := ⟨_, rfl⟩
     replace H : (if 0 ≤ (ji12) then (if (ji12) < (dA.length : Int) then (spec_RiNew.l0 k1 a0 (wrap64 (OA + 1)) (dA.set ((ji12) : Int).toNat OA)) else (none)) else (none)) = some (r1, r2) := by first | (rw [hji12] at H; exact H) | (simp only [hji12] at H ⊢; exact H)
     have hji12w : (IntKind.i64.wrap (2 + (wrap64 (2 * OA)))) = ji12 := (i64_w _).trans hji12
     by_cases c13 : 0 ≤ (ji12)
     ·rw [if_pos c13] at H
      have bF : decide (0 ≤ (ji12)) = true := decide_eq_true c13
      clear c13
      by_cases c14 : (ji12) < (dA.length : Int)
      ·rw [if_pos c14] at H
       have SC : decide ((ji12) < (dA.length : Int)) = true := decide_eq_true c14
       clear c14
       obtain ⟨y126, hy126⟩ : ∃ y_ : List Int, y_ = (dA.set ((ji12) : Int).toNat OA) := ⟨_, rfl⟩
       replace H : (spec_RiNew.l0 k1 a0 (wrap64 (OA + 1)) y126) = some (r1, r2) := by first | (rw [hy126]; with_reducible exact H) | (have H2_ := (Option.bind_some _ _).symm.trans H; rw [hy126]; with_reducible exact H2_) | (have H2_ := (Option.bind_some _ _).symm.trans H; with_reducible exact H2_) | with_reducible exact H | (rw [hy126]; exact H) | exact H
       have Ny126 := Aside0.mk hy126
       clear hy126
       have H' := Aside0.mk H
       clear H
       have cF := aB.out
       have dF := LA.out
       have YD : wr.cell? ⟨NA, 0, none⟩ = some (XA) := (blk_cell wA.out 0).trans rfl
       have ZD := blk_frozen wA.out 0
       have p15 : 0 ≤ ((ji12) : Int) := of_decide_eq_true q1_19
       have q15 : ((ji12) : Int) < ((dA.length : Int) : Int) := of_decide_eq_true q1_19
       obtain ⟨go15, xC, dD, eD, gl15, cl15, HG15⟩ := Kd.R_form jA.out (by omega)
       (first | cases dD | (injection dD with ea_ en_ ec_; (first | subst ea_ | (injection ea_ with ea_; subst ea_)); subst ec_; clear en_))
       have GB15 := Aside0.mk eD
       have GG15 := Aside0.mk HG15
       clear eD gl15 HG15
       obtain ⟨AE, BE⟩ := Kd.R_celln 0 jA.out ((ji12) : Int) p15 q15
       replace p15 := eq_true p15
       replace q15 := eq_true q15
       have HP18 := Kd.R_putg jA.out ((ji12) : Int) OA
       go_wp2_with (first | ((with_reducible refine gate_store (t := 3) (p := 29) rfl ?_); refine store_event (t := 3) (p := 29) (v := ?vo_w19) (w1 := (wr.setCell ⟨go15, ((ji12) : Int).toNat, none⟩ (.int .i64 OA))) ?hg ?ho ?hn ?hr ?_; (case ho => rfl); (case hg => rfl); (case hn => rfl); (case hr => first | (go_simp; done) | (go_simp; rfl)); intro fD hw; have hg : wr.grownBy fD (some go15) := (by rw [hw]; exact HP18.2); have hp_ : Kd.R (Kd.int .i64) 3 fD w.heap.size (fun _ => True) (.slice (some ⟨go15, 0, none⟩) dA.length xC) y126 := (by rw [hw, Ny126.out]; exact HP18.1); clear HP18; have aA := Aside0.mk (hp_); have eA := Aside0.mk (blk_grown (g := qA) (o := .cells #[.slice none 0 0] 26 (0, 0)) q1_11 hg (Kd.R_ne jA.out nA.out (by decide))); have hA := Aside0.mk (blk_grown (g := NA) (o := .cells #[.slice (some ⟨go15, 0, none⟩) dA.length xC] 26 (0, 0)) (by (with_reducible repeat (first | refine blk_drewN ?_ _ | refine blk_drew ?_ | refine blk_alloc ?_ _)); exact wA.out) hg (Kd.R_ne jA.out wA.out (by decide))); have pA := Aside0.mk ((by rw [hw]; exact below_set (HB.out) GB15.out : Below w.heap.size w fD)); clear jA nA wA HB; have jA := aA; have nA := eA; have wA := hA; have HB := pA; clear aA eA hA pA; clear hg hw hp_))
       go_roundg k1
       case measure => have := HK1.out; omega
       case rel => exact ⟨(wrap64 (OA + 1)), (y126), (.slice (some ⟨go15, 0, none⟩) dA.length xC), q1_13, H', ⟨by have := HK1.out; omega⟩, ⟨by (with_reducible repeat (first | apply Kd.R_alloc | apply Kd.R_drewN | apply Kd.R_drew)); exact jA.out⟩, ⟨q1_11⟩, ⟨by (with_reducible repeat (first | refine blk_drewN ?_ _ | refine blk_drew ?_ | refine blk_alloc ?_ _)); exact wA.out⟩, ⟨q1_20⟩⟩
      ·rw [if_neg c14] at H
       exact absurd H (by simp)
     ·rw [if_neg c13] at H
      exact absurd H (by simp)
    ·rw [if_neg c11] at H
     have cD : decide (OA < a0) = false := decide_eq_false c11
     clear c11
     simp only [Option.some.injEq, Prod.mk.injEq] at H
     obtain ⟨rfl, rfl⟩ := H
     have eF := aB.out
     have fF := LA.out
     have cC : wr.cell? ⟨NA, 0, none⟩ = some (XA) := (blk_cell wA.out 0).trans rfl
     have dC := blk_frozen wA.out 0
     obtain ⟨gD, hD, CE⟩ := Kd.R_slice jA.out
     subst CE
     have eC : wr.cell? ⟨qA, 0, none⟩ = some (.slice none 0 0) := (blk_cell nA.out 0).trans rfl
     have fC := blk_frozen nA.out 0
     go_wp2
     refine bodyPost_ret (results_ct rfl _ _ qA 26 #[.slice gD dA.length hD] (0, 0) _ rfl q1_24 Try.underlying26 rfl q1_23) rfl ?_
     exact ⟨_, q1_2, by (with_reducible repeat (first | apply Kd.R_alloc | apply Kd.R_drewN | apply Kd.R_drew)); exact Kd.R_mono (Kd.R_far (p := ⟨qA, 0, none⟩) (Kd.R_types jA.out nA.out (by decide)) (fun _ hk => hk.2) (.slice gD dA.length hD)) (fun _ hk => trivial), q1_20⟩
 ·replace c3 := Bool.eq_false_iff.mpr c3
  subst c3
  rw [if_neg (show ¬ (false = true) by decide)] at H
  simp only [Option.some.injEq, Prod.mk.injEq] at H
  obtain ⟨rfl, rfl⟩ := H
  go_enter Try.func77, Try.ntmps77
  go_wp2_with (first | ((with_reducible refine gate_dst (N := 2) rfl ?_); refine box_event ?hg (N := 2) ?hd (cs := #[.slice none 0 0]) (t := 26) ?hr ?_; (case hd => rfl); (case hg => rfl); (case hr => first | (go_simp; done) | (go_simp; rfl)); intro qA hg EC hbox hb; have aA := Aside0.mk (below_step q1_0 hb); have eA := Aside0.mk (hbox); have hA := Aside0.mk ((q1_7 : w.heap.size ≤ qA)); have pA := Aside0.mk ((q1_7 : w.heap.size ≤ qA)); clear HB; have HB := aA; have nA := eA; have ZC := hA; have JB := pA; clear aA eA hA pA; clear hb hbox hg) | ((with_reducible refine gate_callee (f := 96) rfl ?_); refine goesL_ (some 8) rfl rfl Try.func96 q1_23 rfl #[.int .i64 a0] rfl q1_1 ?_; (with_reducible refine (spec_l04Size.calls a0 false _ A2.out).mono ?_); rintro e w' ⟨rfl, ⟨nd, rfl⟩⟩; refine ⟨_, rfl, ?_⟩; (try (rw [drewN_self EC]; generalize hq_ : World.drewN EC _ = EC; have aA : Aside0 (EC.heap[qA]? = some (.cells #[.slice none 0 0] 26 (0, 0))) := ⟨by rw [← hq_]; exact q1_11⟩; have eA : Aside0 (Below w.heap.size w EC) := ⟨by rw [← hq_]; exact q1_6⟩; clear nA HB hq_; have nA := aA; have HB := eA; clear aA eA)); have aE : EC.cell? ⟨qA, 0, none⟩ = some (.slice none 0 0) := (blk_cell nA.out 0).trans rfl; have bE := blk_frozen nA.out 0))
  refine bodyPost_ret (results_ct rfl _ _ qA 26 #[.slice none 0 0] (0, 0) _ rfl q1_24 Try.underlying26 rfl q1_23) rfl ?_
  exact ⟨_, q1_2, q1_12, q1_6⟩

/-! ### spec_LiNew: function 78 -/
def spec_LiNew.f (a0 : Int) : Option (List Int × Bool) := (spec_l03Size.f a0).bind fun UB => (if UB = true then ((spec_MemNew.f (wrap64 (1 + (wrap64 (2 * a0))))).bind fun sB => (some (sB.1, sB.2))) else (some (([] : List Int), false)))
set_option maxHeartbeats 8000000 in
set_option maxRecDepth 100000 in
theorem spec_LiNew.calls (a0 : Int) (r1 : List Int) (r2 : Bool) (w : World) (h : spec_LiNew.f a0 = some (r1, r2)) :
  Calls Try.prog 78 #[.int .i64 a0] w fun e w' => ∃ v0_ : Value, e = .returned (.tuple #[.agg #[v0_], .bool r2]) ∧ Kd.R (Kd.int .i64) 3 w' w.heap.size (fun _ => True) v0_ r1 ∧ Below w.heap.size w w' := by
 have hu26 := Try.underlying26
 have HB := Aside0.mk (Below.refl w.heap.size w)
 have H : ((spec_l03Size.f a0).bind fun UB => (if UB = true then ((spec_MemNew.f (wrap64 (1 + (wrap64 (2 * a0))))).bind fun sB => (some (sB.1, sB.2))) else (some (([] : List Int), false)))) = some (r1, r2) := h
 clear h
 replace H := Option.bind_eq_some_iff.mp H
 obtain ⟨UB, A20, H⟩ := H
 (try dsimp only at H)
 have A2 := Aside0.mk A20
 clear A20
 by_cases c3 : UB = true
 ·subst c3
  rw [if_pos rfl] at H
  replace H := Option.bind_eq_some_iff.mp H
  obtain ⟨⟨yC, DE⟩, A40, H⟩ := H
  (try dsimp only at H)
  have A4 := Aside0.mk A40
  clear A40
  simp only [Option.some.injEq, Prod.mk.injEq] at H
  obtain ⟨rfl, rfl⟩ := H
  go_enter Try.func78, Try.ntmps78
  go_wp2_with (first | ((with_reducible refine gate_dst (N := 2) rfl ?_); refine box_event ?hg (N := 2) ?hd (cs := #[.slice none 0 0]) (t := 26) ?hr ?_; (case hd => rfl); (case hg => rfl); (case hr => first | (go_simp; done) | (go_simp; rfl)); intro BA hg w5 hbox hb; have aA := Aside0.mk (below_step q1_0 hb); have eA := Aside0.mk (hbox); have hA := Aside0.mk ((q1_7 : w.heap.size ≤ BA)); have pA := Aside0.mk ((q1_7 : w.heap.size ≤ BA)); clear HB; have HB := aA; have vA := eA; have iD := hA; have gC := pA; clear aA eA hA pA; clear hb hbox hg) | ((with_reducible refine gate_callee (f := 59) rfl ?_); refine goesL_ (some 5) rfl rfl Try.func59 q1_23 rfl #[.int .i64 a0] rfl q1_1 ?_; (with_reducible refine (spec_l03Size.calls a0 true _ A2.out).mono ?_); rintro e w' ⟨rfl, ⟨nd, rfl⟩⟩; refine ⟨_, rfl, ?_⟩; (try (rw [drewN_self w5]; generalize hq_ : World.drewN w5 _ = w5; have aA : Aside0 (w5.heap[BA]? = some (.cells #[.slice none 0 0] 26 (0, 0))) := ⟨by rw [← hq_]; exact q1_26⟩; have eA : Aside0 (Below w.heap.size w w5) := ⟨by rw [← hq_]; exact q1_8⟩; clear vA HB hq_; have vA := aA; have HB := eA; clear aA eA))) | ((with_reducible refine gate_callee (f := 95) rfl ?_); refine goesL_ (some 11) rfl rfl Try.func95 q1_23 rfl #[.int .i64 (wrap64 (1 + (wrap64 (2 * a0))))] rfl q1_1 ?_; (with_reducible refine (spec_MemNew.calls (wrap64 (1 + (wrap64 (2 * a0)))) yC DE _ A4.out).mono ?_); rintro e w6 ⟨sF, rfl, ho0, hb⟩; refine ⟨_, rfl, ?_⟩; have aA := Aside0.mk (Kd.R_lower ho0 (below_size q1_8)); have eA := Aside0.mk (blk_below (g := BA) (o := .cells #[.slice none 0 0] 26 (0, 0)) q1_26 hb); have hA := Aside0.mk (below_step q1_8 hb); clear vA HB; have rC := aA; have vA := eA; have HB := hA; clear aA eA hA; (try clear hb); (try clear hb2); (try clear hk); (try clear hi); (try clear ho0); obtain ⟨gF, hF, tF⟩ := Kd.R_slice rC.out; subst tF; have EE : w6.cell? ⟨BA, 0, none⟩ = some (.slice none 0 0) := (blk_cell vA.out 0).trans rfl; have FE := blk_frozen vA.out 0))
  refine bodyPost_ret (results_ct rfl _ _ BA 26 #[.slice gF yC.length hF] (0, 0) _ rfl q1_25 Try.underlying26 rfl q1_23) rfl ?_
  exact ⟨_, q1_2, by (with_reducible repeat (first | apply Kd.R_alloc | apply Kd.R_drewN | apply Kd.R_drew)); exact Kd.R_mono (Kd.R_far (p := ⟨BA, 0, none⟩) (Kd.R_types rC.out vA.out (by decide)) (fun _ hk => hk.2) (.slice gF yC.length hF)) (fun _ hk => trivial), q1_8⟩
 ·replace c3 := Bool.eq_false_iff.mpr c3
  subst c3
  rw [if_neg (show ¬ (false = true) by decide)] at H
  simp only [Option.some.injEq, Prod.mk.injEq] at H
  obtain ⟨rfl, rfl⟩ := H
  go_enter Try.func78, Try.ntmps78
  go_wp2_with (first | ((with_reducible refine gate_dst (N := 2) rfl ?_); refine box_event ?hg (N := 2) ?hd (cs := #[.slice none 0 0]) (t := 26) ?hr ?_; (case hd => rfl); (case hg => rfl); (case hr => first | (go_simp; done) | (go_simp; rfl)); intro BA hg w9 hbox hb; have aA := Aside0.mk (below_step q1_0 hb); have eA := Aside0.mk (hbox); have hA := Aside0.mk ((q1_7 : w.heap.size ≤ BA)); have pA := Aside0.mk ((q1_7 : w.heap.size ≤ BA)); clear HB; have HB := aA; have vA := eA; have iD := hA; have gC := pA; clear aA eA hA pA; clear hb hbox hg) | ((with_reducible refine gate_callee (f := 59) rfl ?_); refine goesL_ (some 5) rfl rfl Try.func59 q1_23 rfl #[.int .i64 a0] rfl q1_1 ?_; (with_reducible refine (spec_l03Size.calls a0 false _ A2.out).mono ?_); rintro e w' ⟨rfl, ⟨nd, rfl⟩⟩; refine ⟨_, rfl, ?_⟩; (try (rw [drewN_self w9]; generalize hq_ : World.drewN w9 _ = w9; have aA : Aside0 (w9.heap[BA]? = some (.cells #[.slice none 0 0] 26 (0, 0))) := ⟨by rw [← hq_]; exact q1_26⟩; have eA : Aside0 (Below w.heap.size w w9) := ⟨by rw [← hq_]; exact q1_8⟩; clear vA HB hq_; have vA := aA; have HB := eA; clear aA eA)); have gB : w9.cell? ⟨BA, 0, none⟩ = some (.slice none 0 0) := (blk_cell vA.out 0).trans rfl; have hB := blk_frozen vA.out 0))
  refine bodyPost_ret (results_ct rfl _ _ BA 26 #[.slice none 0 0] (0, 0) _ rfl q1_25 Try.underlying26 rfl q1_23) rfl ?_
  exact ⟨_, q1_2, q1_12, q1_8⟩

/-! ### spec_l07Mem: function 48 -/
def spec_l07Mem.f (k : Nat) (a0 : Int) (a1 : Int) (a2 : Bool) : Option (List Int × Bool) := if a0 = 1 then ((spec_StNew.f k a1 a2).bind fun tB => (some (tB.1, tB.2))) else (if a0 = 2 then ((spec_RiNew.f k a1).bind fun uB => (some (uB.1, uB.2))) else (if a0 = 3 then ((spec_LiNew.f a1).bind fun vB => (some (vB.1, vB.2))) else (some (([] : List Int), false))))
theorem spec_l07Mem.mono : ∀ a0 a1 a2 k, LeO (spec_l07Mem.f k a0 a1 a2) (spec_l07Mem.f (k + 1) a0 a1 a2) := by
 intro a0 a1 a2 k
 unfold spec_l07Mem.f
 repeat' first
   | (with_reducible exact spec_RiNew.mono _ _)
   | (with_reducible exact spec_StNew.mono _ _ _)
   | (with_reducible exact LeO.refl _)
   | (with_reducible exact LeO.none _)
   | (with_reducible refine LeO.ite ?_ ?_)
   | (with_reducible refine LeO.bind ?_ (fun _ => ?_))
   | exact spec_RiNew.mono _ _
   | exact spec_StNew.mono _ _ _
   | exact LeO.none _
   | refine LeO.ite ?_ ?_
   | refine LeO.bind ?_ (fun _ => ?_)
set_option maxHeartbeats 8000000 in
set_option maxRecDepth 100000 in
theorem spec_l07Mem.calls (k : Nat) (a0 : Int) (a1 : Int) (a2 : Bool) (r1 : List Int) (r2 : Bool) (w : World) (h : spec_l07Mem.f k a0 a1 a2 = some (r1, r2)) :
  Calls Try.prog 48 #[.int .i64 a0, .int .i64 a1, .bool a2] w fun e w' => ∃ v0_ : Value, e = .returned (.tuple #[.agg #[v0_], .bool r2]) ∧ Kd.R (Kd.int .i64) 3 w' w.heap.size (fun _ => True) v0_ r1 ∧ Below w.heap.size w w' := by
 have hu26 := Try.underlying26
 have HB := Aside0.mk (Below.refl w.heap.size w)
 have H : (if a0 = 1 then ((spec_StNew.f k a1 a2).bind fun tB => (some (tB.1, tB.2))) else (if a0 = 2 then ((spec_RiNew.f k a1).bind fun uB => (some (uB.1, uB.2))) else (if a0 = 3 then ((spec_LiNew.f a1).bind fun vB => (some (vB.1, vB.2))) else (some (([] : List Int), false))))) = some (r1, r2) := h
 clear h
 by_cases c4 : a0 = 1
 ·rw [if_pos c4] at H
  have MB : (a0 == 1) = true := beq_iff_eq.mpr c4
  have GE : (a0 != 1) = false := bne_eq_false_iff_eq.mpr c4
  clear c4
  replace H := Option.bind_eq_some_iff.mp H
  obtain ⟨⟨zC, HE⟩, A50, H⟩ := H
  (try dsimp only at H)
  have A5 := Aside0.mk A50
  clear A50
  simp only [Option.some.injEq, Prod.mk.injEq] at H
  obtain ⟨rfl, rfl⟩ := H
  go_enter Try.func48, Try.ntmps48
  go_wp2_with (first | ((with_reducible refine gate_dst (N := 6) rfl ?_); refine box_event ?hg (N := 6) ?hd (cs := #[.slice none 0 0]) (t := 26) ?hr ?_; (case hd => rfl); (case hg => rfl); (case hr => first | (go_simp; done) | (go_simp; rfl)); intro iA hg w6 hbox hb; have aA := Aside0.mk (below_step q1_0 hb); have eA := Aside0.mk (hbox); have hA := Aside0.mk ((q1_7 : w.heap.size ≤ iA)); have pA := Aside0.mk ((q1_7 : w.heap.size ≤ iA)); clear HB; have HB := aA; have mA := eA; have VB := hA; have DB := pA; clear aA eA hA pA; clear hb hbox hg) | ((with_reducible refine gate_callee (f := 76) rfl ?_); refine goesL_ (some 13) rfl rfl Try.func76 q1_23 rfl #[.int .i64 a1, .bool a2] rfl q1_1 ?_; (with_reducible refine (spec_StNew.calls k a1 a2 zC HE _ A5.out).mono ?_); rintro e w7 ⟨uF, rfl, ho0, hb⟩; refine ⟨_, rfl, ?_⟩; have aA := Aside0.mk (Kd.R_lower ho0 (below_size q1_3)); have eA := Aside0.mk (blk_below (g := iA) (o := .cells #[.slice none 0 0] 26 (0, 0)) q1_27 hb); have hA := Aside0.mk (below_step q1_3 hb); clear mA HB; have sC := aA; have mA := eA; have HB := hA; clear aA eA hA; (try clear hb); (try clear hb2); (try clear hk); (try clear hi); (try clear ho0); obtain ⟨aD, bD, zE⟩ := Kd.R_slice sC.out; subst zE; have IE : w7.cell? ⟨iA, 0, none⟩ = some (.slice none 0 0) := (blk_cell mA.out 0).trans rfl; have JE := blk_frozen mA.out 0))
  refine bodyPost_ret (results_ct rfl _ _ iA 26 #[.slice aD zC.length bD] (0, 0) _ rfl q1_10 Try.underlying26 rfl q1_23) rfl ?_
  exact ⟨_, q1_2, by (with_reducible repeat (first | apply Kd.R_alloc | apply Kd.R_drewN | apply Kd.R_drew)); exact Kd.R_mono (Kd.R_far (p := ⟨iA, 0, none⟩) (Kd.R_types sC.out mA.out (by decide)) (fun _ hk => hk.2) (.slice aD zC.length bD)) (fun _ hk => trivial), q1_3⟩
 ·rw [if_neg c4] at H
  have MB : (a0 == 1) = false := beq_eq_false_iff_ne.mpr c4
  have GE : (a0 != 1) = true := bne_iff_ne.mpr c4
  by_cases c10 : a0 = 2
  ·rw [if_pos c10] at H
   have jD : (a0 == 2) = true := beq_iff_eq.mpr c10
   have kD : (a0 != 2) = false := bne_eq_false_iff_eq.mpr c10
   clear c10
   replace H := Option.bind_eq_some_iff.mp H
   obtain ⟨⟨AC, KE⟩, A110, H⟩ := H
   (try dsimp only at H)
   have A11 := Aside0.mk A110
   clear A110
   simp only [Option.some.injEq, Prod.mk.injEq] at H
   obtain ⟨rfl, rfl⟩ := H
   go_enter Try.func48, Try.ntmps48
   go_wp2_with (first | ((with_reducible refine gate_dst (N := 6) rfl ?_); refine box_event ?hg (N := 6) ?hd (cs := #[.slice none 0 0]) (t := 26) ?hr ?_; (case hd => rfl); (case hg => rfl); (case hr => first | (go_simp; done) | (go_simp; rfl)); intro iA hg zF hbox hb; have aA := Aside0.mk (below_step q1_0 hb); have eA := Aside0.mk (hbox); have hA := Aside0.mk ((q1_7 : w.heap.size ≤ iA)); have pA := Aside0.mk ((q1_7 : w.heap.size ≤ iA)); clear HB; have HB := aA; have mA := eA; have VB := hA; have DB := pA; clear aA eA hA pA; clear hb hbox hg) | ((with_reducible refine gate_callee (f := 77) rfl ?_); refine goesL_ (some 19) rfl rfl Try.func77 q1_23 rfl #[.int .i64 a1] rfl q1_1 ?_; (with_reducible refine (spec_RiNew.calls k a1 AC KE _ A11.out).mono ?_); rintro e CC ⟨vF, rfl, ho0, hb⟩; refine ⟨_, rfl, ?_⟩; have aA := Aside0.mk (Kd.R_lower ho0 (below_size q1_3)); have eA := Aside0.mk (blk_below (g := iA) (o := .cells #[.slice none 0 0] 26 (0, 0)) q1_27 hb); have hA := Aside0.mk (below_step q1_3 hb); clear mA HB; have tC := aA; have mA := eA; have HB := hA; clear aA eA hA; (try clear hb); (try clear hb2); (try clear hk); (try clear hi); (try clear ho0); obtain ⟨lD, mD, LE⟩ := Kd.R_slice tC.out; subst LE; have cE : CC.cell? ⟨iA, 0, none⟩ = some (.slice none 0 0) := (blk_cell mA.out 0).trans rfl; have dE := blk_frozen mA.out 0))
   refine bodyPost_ret (results_ct rfl _ _ iA 26 #[.slice lD AC.length mD] (0, 0) _ rfl q1_10 Try.underlying26 rfl q1_23) rfl ?_
   exact ⟨_, q1_2, by (with_reducible repeat (first | apply Kd.R_alloc | apply Kd.R_drewN | apply Kd.R_drew)); exact Kd.R_mono (Kd.R_far (p := ⟨iA, 0, none⟩) (Kd.R_types tC.out mA.out (by decide)) (fun _ hk => hk.2) (.slice lD AC.length mD)) (fun _ hk => trivial), q1_3⟩
  ·rw [if_neg c10] at H
   have jD : (a0 == 2) = false := beq_eq_false_iff_ne.mpr c10
   have kD : (a0 != 2) = true := bne_iff_ne.mpr c10
   by_cases c16 : a0 = 3
   ·rw [if_pos c16] at H
    have nD : (a0 == 3) = true := beq_iff_eq.mpr c16
    have oD : (a0 != 3) = false := bne_eq_false_iff_eq.mpr c16
    clear c16
    replace H := Option.bind_eq_some_iff.mp H
    obtain ⟨⟨BC, ME⟩, A170, H⟩ := H
    (try dsimp only at H)
    have A17 := Aside0.mk A170
    clear A170
    simp only [Option.some.injEq, Prod.mk.injEq] at H
    obtain ⟨rfl, rfl⟩ := H
    go_enter Try.func48, Try.ntmps48
    go_wp2_with (first | ((with_reducible refine gate_dst (N := 6) rfl ?_); refine box_event ?hg (N := 6) ?hd (cs := #[.slice none 0 0]) (t := 26) ?hr ?_; (case hd => rfl); (case hg => rfl); (case hr => first | (go_simp; done) | (go_simp; rfl)); intro iA hg AF hbox hb; have aA := Aside0.mk (below_step q1_0 hb); have eA := Aside0.mk (hbox); have hA := Aside0.mk ((q1_7 : w.heap.size ≤ iA)); have pA := Aside0.mk ((q1_7 : w.heap.size ≤ iA)); clear HB; have HB := aA; have mA := eA; have VB := hA; have DB := pA; clear aA eA hA pA; clear hb hbox hg) | ((with_reducible refine gate_callee (f := 78) rfl ?_); refine goesL_ (some 25) rfl rfl Try.func78 q1_23 rfl #[.int .i64 a1] rfl q1_1 ?_; (with_reducible refine (spec_LiNew.calls a1 BC ME _ A17.out).mono ?_); rintro e fD ⟨wF, rfl, ho0, hb⟩; refine ⟨_, rfl, ?_⟩; have aA := Aside0.mk (Kd.R_lower ho0 (below_size q1_3)); have eA := Aside0.mk (blk_below (g := iA) (o := .cells #[.slice none 0 0] 26 (0, 0)) q1_27 hb); have hA := Aside0.mk (below_step q1_3 hb); clear mA HB; have uC := aA; have mA := eA; have HB := hA; clear aA eA hA; (try clear hb); (try clear hb2); (try clear hk); (try clear hi); (try clear ho0); obtain ⟨pD, qD, NE⟩ := Kd.R_slice uC.out; subst NE; have cC : fD.cell? ⟨iA, 0, none⟩ = some (.slice none 0 0) := (blk_cell mA.out 0).trans rfl; have dC := blk_frozen mA.out 0))
    refine bodyPost_ret (results_ct rfl _ _ iA 26 #[.slice pD BC.length qD] (0, 0) _ rfl q1_10 Try.underlying26 rfl q1_23) rfl ?_
    exact ⟨_, q1_2, by (with_reducible repeat (first | apply Kd.R_alloc | apply Kd.R_drewN | apply Kd.R_drew)); exact Kd.R_mono (Kd.R_far (p := ⟨iA, 0, none⟩) (Kd.R_types uC.out mA.out (by decide)) (fun _ hk => hk.2) (.slice pD BC.length qD)) (fun _ hk => trivial), q1_3⟩
   ·rw [if_neg c16] at H
    have nD : (a0 == 3) = false := beq_eq_false_iff_ne.mpr c16
    have oD : (a0 != 3) = true := bne_iff_ne.mpr c16
    simp only [Option.some.injEq, Prod.mk.injEq] at H
    obtain ⟨rfl, rfl⟩ := H
    go_enter Try.func48, Try.ntmps48
    go_wp2_with (first | ((with_reducible refine gate_dst (N := 6) rfl ?_); refine box_event ?hg (N := 6) ?hd (cs := #[.slice none 0 0]) (t := 26) ?hr ?_; (case hd => rfl); (case hg => rfl); (case hr => first | (go_simp; done) | (go_simp; rfl)); intro iA hg xF hbox hb; have aA := Aside0.mk (below_step q1_0 hb); have eA := Aside0.mk (hbox); have hA := Aside0.mk ((q1_7 : w.heap.size ≤ iA)); have pA := Aside0.mk ((q1_7 : w.heap.size ≤ iA)); clear HB; have HB := aA; have mA := eA; have VB := hA; have DB := pA; clear aA eA hA pA; clear hb hbox hg; have eC : xF.cell? ⟨iA, 0, none⟩ = some (.slice none 0 0) := (blk_cell mA.out 0).trans rfl; have fC := blk_frozen mA.out 0))
    refine bodyPost_ret (results_ct rfl _ _ iA 26 #[.slice none 0 0] (0, 0) _ rfl q1_10 Try.underlying26 rfl q1_23) rfl ?_
    exact ⟨_, q1_2, q1_12, q1_3⟩

end Go.Proofs.Ytgghglocfdcegaa.PFnExactCrewNew
