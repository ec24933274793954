-- Written by the session's own patched copy of the printer (wip/patch_print.py).
import Derived.Test.YtfahmmlkcmadeaaPFnExactRiStepx0
import Derived.Test.YtfahmmlkcmadeaaPFnExactRiStepx1
namespace Go.Proofs.Ytfahmmlkcmadeaa.PFnExactRiStep
open Go.RowKit Go.Proofs.YtfahmmlkcmadeaaW.PrintWords Go.Proofs.YtfahmmlkcmadeaaW.PrintLast Go.Proofs.YtfahmmlkcmadeaaW.PrintMore
attribute [local go_sem] max2_int min2_int max_two min_two max_three min_three max_four min_four   -- for this text's walks alone
set_option linter.unusedVariables false
set_option linter.unusedSimpArgs false

theorem q2_0 {p : Prop} (h : p := by repeat (first | (with_reducible first | exact HB.out | apply below_alloc | apply pw_below_drewN | apply below_drew1) | exact HB.out)) : p := h
theorem q2_1 {p : Prop} (h : p := by (with_reducible repeat (first | refine blk_drewN ?_ _ | refine blk_drew ?_ | refine blk_alloc ?_ _)); exact dA.out) : p := h
theorem q2_2 {p : Prop} (h : p := by repeat (first | (with_reducible first | exact HB.out | apply below_alloc | apply pw_below_drewN | apply below_drew1 | refine below_set ?_ AA.out | refine below_set ?_ CA.out | refine below_set ?_ JA.out) | exact HB.out)) : p := h
theorem q2_3 {p : Prop} (h : p := by repeat (first | (with_reducible first | exact HB.out | apply below_alloc | apply pw_below_drewN | apply below_drew1 | refine below_set ?_ AA.out | refine below_set ?_ CA.out) | exact HB.out)) : p := h
theorem q2_4 {p : Prop} (h : p := by (with_reducible repeat (first | refine blk_drewN ?_ _ | refine blk_drew ?_ | refine blk_alloc ?_ _)); exact eA.out) : p := h
theorem q2_5 {p : Prop} (h : p := by repeat (first | (with_reducible first | exact HB.out | apply below_alloc | apply pw_below_drewN | apply below_drew1 | refine below_set ?_ AA.out) | exact HB.out)) : p := h
theorem q2_6 {p : Prop} (h : p := by first | rfl | (simp [errW_none, errW_some] <;> rfl) | (simp [*, errW_none, errW_some] <;> rfl)) : p := h
theorem q2_7 {p : Prop} (h : p := by repeat (first | exact Drawn0.refl _ | apply Drawn0.step)) : p := h
theorem q2_8 {p : Prop} (h : p := by first | rfl | (simp; done) | (simp [*]; done)) : p := h
theorem q2_9 {p : Prop} (h : p := by rw [hg]; exact (below_size q2_0)) : p := h
/-! ### laws_toMem: function 29 -/
def laws_toMem.f (k : Nat) (cA : List Int) : Option (List Int) := (laws_toIntS.f k cA).bind fun uA => (some uA)
theorem laws_toMem.mono : ∀ a0 k, LeO (laws_toMem.f k a0) (laws_toMem.f (k + 1) a0) := by
 intro a0 k
 unfold laws_toMem.f
 repeat' first
   | (with_reducible exact laws_toIntS.mono _ _)
   | (with_reducible exact LeO.refl _)
   | (with_reducible exact LeO.none _)
   | (with_reducible refine LeO.ite ?_ ?_)
   | (with_reducible refine LeO.bind ?_ (fun _ => ?_))
   | exact laws_toIntS.mono _ _
   | exact LeO.none _
   | refine LeO.ite ?_ ?_
   | refine LeO.bind ?_ (fun _ => ?_)
set_option maxHeartbeats 8000000 in
set_option maxRecDepth 100000 in
theorem laws_toMem.calls (k : Nat) (jA : Option Addr) (kA : Nat) (cA : List Int) (r : List Int) (w : World) (DA : Kd.C (Kd.int .i64) w jA cA.length cA) (EA : cA.length ≤ kA) (h : laws_toMem.f k cA = some r) :
  Calls Try.prog 29 #[.agg #[.slice jA cA.length kA]] w fun e w' => ∃ v0_ : Value, e = .returned (.agg #[v0_]) ∧ Kd.R (Kd.int .i64) 3 w' w.heap.size (fun _ => True) v0_ r ∧ Below w.heap.size w w' := by
 have hu43 := Try.underlying43
 have hu29 := Try.underlying29
 have KA := Aside0.mk DA
 have LA := Aside0.mk EA
 clear DA EA
 have HB := Aside0.mk (Below.refl w.heap.size w)
 have H : ((laws_toIntS.f k cA).bind fun uA => (some uA)) = some r := h
 clear h
 replace H := Option.bind_eq_some_iff.mp H
 obtain ⟨uA, A20, H⟩ := H
 (try dsimp only at H)
 have A2 := Aside0.mk A20
 clear A20
 obtain rfl := Option.some.inj H
 go_enter Try.func29, Try.ntmps29
 go_wp2_with (first | ((with_reducible refine gate_dst (N := 1) rfl ?_); refine box_event ?hg (N := 1) ?hd (cs := #[.slice jA cA.length kA]) (t := 43) ?hr ?_; (case hd => rfl); (case hg => rfl); (case hr => first | (go_simp; done) | (go_simp; rfl)); intro aA hg w3 hbox hb; have oA := Aside0.mk (below_step q2_0 hb); have pA := Aside0.mk (hbox); have qA := Aside0.mk ((q2_9 : w.heap.size ≤ aA)); have rA := Aside0.mk ((q2_9 : w.heap.size ≤ aA)); clear HB; have HB := oA; have dA := pA; have zB := qA; have AA := rA; clear oA pA qA rA; clear hb hbox hg) | ((with_reducible refine gate_dst (N := 2) rfl ?_); refine box_event ?hg (N := 2) ?hd (cs := #[.slice none 0 0]) (t := 29) ?hr ?_; (case hd => rfl); (case hg => rfl); (case hr => first | (go_simp; done) | (go_simp; rfl)); intro bA hg w4 hbox hb; have oA := Aside0.mk (blk_below (g := aA) (o := .cells #[.slice jA cA.length kA] 43 (0, 0)) q2_1 hb); have pA := Aside0.mk (below_step q2_5 hb); have qA := Aside0.mk (hbox); have rA := Aside0.mk ((by rw [hg]; exact (below_size q2_5) : w.heap.size ≤ bA)); have FA := Aside0.mk ((by rw [hg]; exact (below_size q2_5) : w.heap.size ≤ bA)); have MA := Aside0.mk ((by rw [hg]; exact Nat.ne_of_lt (blk_lt (g := aA) (o := .cells #[.slice jA cA.length kA] 43 (0, 0)) q2_1) : aA ≠ bA)); have NA := Aside0.mk ((by rw [hg]; exact Nat.ne_of_gt (blk_lt (g := aA) (o := .cells #[.slice jA cA.length kA] 43 (0, 0)) q2_1) : bA ≠ aA)); clear dA HB; have dA := oA; have HB := pA; have eA := qA; have AB := rA; have CA := FA; have vA := MA; have wA := NA; clear oA pA qA rA FA MA NA; clear hb hbox hg) | ((with_reducible refine gate_dst (N := 3) rfl ?_); refine box_event ?hg (N := 3) ?hd (cs := #[.slice none 0 0]) (t := 29) ?hr ?_; (case hd => rfl); (case hg => rfl); (case hr => first | (go_simp; done) | (go_simp; rfl)); intro fA hg w5 hbox hb; have oA := Aside0.mk (blk_below (g := aA) (o := .cells #[.slice jA cA.length kA] 43 (0, 0)) q2_1 hb); have pA := Aside0.mk (blk_below (g := bA) (o := .cells #[.slice none 0 0] 29 (0, 0)) q2_4 hb); have qA := Aside0.mk (below_step q2_3 hb); have rA := Aside0.mk (hbox); have FA := Aside0.mk ((by rw [hg]; exact (below_size q2_3) : w.heap.size ≤ fA)); have MA := Aside0.mk ((by rw [hg]; exact (below_size q2_3) : w.heap.size ≤ fA)); have NA := Aside0.mk ((by rw [hg]; exact Nat.ne_of_lt (blk_lt (g := aA) (o := .cells #[.slice jA cA.length kA] 43 (0, 0)) q2_1) : aA ≠ fA)); have BB := Aside0.mk ((by rw [hg]; exact Nat.ne_of_gt (blk_lt (g := aA) (o := .cells #[.slice jA cA.length kA] 43 (0, 0)) q2_1) : fA ≠ aA)); have CB := Aside0.mk ((by rw [hg]; exact Nat.ne_of_lt (blk_lt (g := bA) (o := .cells #[.slice none 0 0] 29 (0, 0)) q2_4) : bA ≠ fA)); have DB := Aside0.mk ((by rw [hg]; exact Nat.ne_of_gt (blk_lt (g := bA) (o := .cells #[.slice none 0 0] 29 (0, 0)) q2_4) : fA ≠ bA)); clear dA eA HB; have dA := oA; have eA := pA; have HB := qA; have sA := rA; have EB := FA; have JA := MA; have xA := NA; have yA := BB; have tA := CB; have zA := DB; clear oA pA qA rA FA MA NA BB CB DB; clear hb hbox hg; have LB := vA.out; have MB := wA.out; have NB := xA.out; have OB := yA.out; have VA : w5.cell? ⟨aA, 0, none⟩ = some (.slice jA cA.length kA) := (blk_cell dA.out 0).trans rfl; have WA := blk_frozen dA.out 0) | ((with_reducible refine gate_callee (f := 67) rfl ?_); refine goesL_ (some 6) rfl rfl Try.func67 (by kernel_rfl) rfl #[.slice jA cA.length kA] rfl (by (try simp only [List.map_toArray, List.map_cons, List.map_nil]); first | done | rfl | (simp only [List.length_drop, List.length_take]; rfl)) ?_; (with_reducible refine (laws_toIntS.calls k _ _ cA uA _ ?side1 ?side2 A2.out).mono ?_); (case side1 => repeat (first | exact (Kd.C_below KA.out HB.out) | (with_reducible refine Kd.C_alloc ?_ _) | (with_reducible refine Kd.C_drewN ?_ _) | (with_reducible refine Kd.C_drew ?_))); (case side2 => exact LA.out); rintro e w9 ⟨PB, rfl, ho0, hb⟩; refine ⟨_, rfl, ?_⟩; have oA := Aside0.mk (Kd.R_lower ho0 (below_size q2_2)); have pA := Aside0.mk (blk_below (g := aA) (o := .cells #[.slice jA cA.length kA] 43 (0, 0)) q2_1 hb); have qA := Aside0.mk (blk_below (g := bA) (o := .cells #[.slice none 0 0] 29 (0, 0)) q2_4 hb); have rA := Aside0.mk (blk_below (g := fA) (o := .cells #[.slice none 0 0] 29 (0, 0)) (by (with_reducible repeat (first | refine blk_drewN ?_ _ | refine blk_drew ?_ | refine blk_alloc ?_ _)); exact sA.out) hb); have FA := Aside0.mk (below_step q2_2 hb); clear dA eA sA HB; have GA := oA; have dA := pA; have eA := qA; have sA := rA; have HB := FA; clear oA pA qA rA FA; (try clear hb); (try clear hb2); (try clear hk); (try clear hi); (try clear ho0); obtain ⟨HA, IA, XA⟩ := Kd.R_slice GA.out; subst XA; have FB := zA.out; have GB := tA.out; have RA : w9.cell? ⟨fA, 0, none⟩ = some (.slice none 0 0) := (blk_cell sA.out 0).trans rfl; have SA := blk_frozen sA.out 0; have TA : w9.cell? ⟨bA, 0, none⟩ = some (.slice none 0 0) := (blk_cell eA.out 0).trans rfl; have UA := blk_frozen eA.out 0))
 refine bodyPost_ret (results_cell_row rfl _ _ bA 29 #[.slice HA uA.length IA] (0, 0) _ rfl (by (with_reducible repeat (first | refine blk_drewN ?_ _ | refine blk_drew ?_ | refine blk_alloc ?_ _)); refine blk_put (cs := #[.slice none 0 0]) ?_ 0 _ rfl; (with_reducible repeat (first | refine blk_drewN ?_ _ | refine blk_drew ?_ | refine blk_alloc ?_ _)); refine blk_far ?_ tA.out _; (with_reducible repeat (first | refine blk_drewN ?_ _ | refine blk_drew ?_ | refine blk_alloc ?_ _)); exact eA.out) Try.underlying29 rfl (by kernel_rfl)) rfl ?_
 exact ⟨_, q2_6, by (with_reducible repeat (first | apply Kd.R_alloc | apply Kd.R_drewN | apply Kd.R_drew)); exact Kd.R_mono (Kd.R_far (p := ⟨bA, 0, none⟩) (Kd.R_far (p := ⟨fA, 0, none⟩) (Kd.R_types (Kd.R_types GA.out sA.out (by decide)) eA.out (by decide)) (fun _ hk => hk.1.2) (.slice HA uA.length IA)) (fun _ hk => hk.2) (.slice HA uA.length IA)) (fun _ hk => trivial), q2_2⟩

/-! ### spec_l03Load: function 53 -/
def spec_l03Load.f (a0 : Int) : Option (Int × Int × Int × Int × Bool) := some (1, a0, 0, 0, true)
set_option maxHeartbeats 8000000 in
set_option maxRecDepth 100000 in
theorem spec_l03Load.calls (a0 : Int) (r1 : Int) (r2 : Int) (r3 : Int) (r4 : Int) (r5 : Bool) (w : World) (h : spec_l03Load.f a0 = some (r1, r2, r3, r4, r5)) :
  Calls Try.prog 53 #[.int .i64 a0] w fun e w' => e = .returned (.tuple #[.agg #[.int .i64 r1, .int .i64 r2, .int .i64 r3, .int .i64 r4], .bool r5]) ∧ Below w.heap.size w w' := by
 have hu37 := Try.underlying37
 have HB := Aside0.mk (Below.refl w.heap.size w)
 have H : (some (1, a0, 0, 0, true)) = some (r1, r2, r3, r4, r5) := h
 clear h
 simp only [Option.some.injEq, Prod.mk.injEq] at H
 obtain ⟨rfl, rfl, rfl, rfl, rfl⟩ := H
 go_enter Try.func53, Try.ntmps53
 go_wp2_with (first | ((with_reducible refine gate_dst (N := 2) rfl ?_); refine box_event ?hg (N := 2) ?hd (cs := #[.int .i64 0, .int .i64 0, .int .i64 0, .int .i64 0]) (t := 37) ?hr ?_; (case hd => rfl); (case hg => rfl); (case hr => first | (go_simp; done) | (go_simp; rfl)); intro lA hg w2 hbox hb; have oA := Aside0.mk (below_step q2_0 hb); have pA := Aside0.mk (hbox); have qA := Aside0.mk ((q2_9 : w.heap.size ≤ lA)); have rA := Aside0.mk ((q2_9 : w.heap.size ≤ lA)); clear HB; have HB := oA; have gA := pA; have IB := qA; have OA := rA; clear oA pA qA rA; clear hb hbox hg; have YA : w2.cell? ⟨lA, 0, none⟩ = some (.int .i64 0) := (blk_cell gA.out 0).trans rfl; have ZA : w2.cell? ⟨lA, 1, none⟩ = some (.int .i64 0) := (blk_cell gA.out 1).trans rfl; have aB : w2.cell? ⟨lA, 2, none⟩ = some (.int .i64 0) := (blk_cell gA.out 2).trans rfl; have bB : w2.cell? ⟨lA, 3, none⟩ = some (.int .i64 0) := (blk_cell gA.out 3).trans rfl; have cB := blk_frozen gA.out 0; have dB := blk_frozen gA.out 1; have eB := blk_frozen gA.out 2; have fB := blk_frozen gA.out 3))
 refine bodyPost_ret (results_ct rfl _ _ lA 37 #[.int .i64 1, .int .i64 a0, .int .i64 0, .int .i64 0] (0, 0) _ rfl (by (with_reducible repeat (first | refine blk_drewN ?_ _ | refine blk_drew ?_ | refine blk_alloc ?_ _)); refine blk_put (cs := #[.int .i64 1, .int .i64 a0, .int .i64 0, .int .i64 0]) ?_ 3 _ rfl; (with_reducible repeat (first | refine blk_drewN ?_ _ | refine blk_drew ?_ | refine blk_alloc ?_ _)); refine blk_put (cs := #[.int .i64 1, .int .i64 a0, .int .i64 0, .int .i64 0]) ?_ 2 _ rfl; (with_reducible repeat (first | refine blk_drewN ?_ _ | refine blk_drew ?_ | refine blk_alloc ?_ _)); refine blk_put (cs := #[.int .i64 1, .int .i64 0, .int .i64 0, .int .i64 0]) ?_ 1 _ rfl; (with_reducible repeat (first | refine blk_drewN ?_ _ | refine blk_drew ?_ | refine blk_alloc ?_ _)); refine blk_put (cs := #[.int .i64 0, .int .i64 0, .int .i64 0, .int .i64 0]) ?_ 0 _ rfl; (with_reducible repeat (first | refine blk_drewN ?_ _ | refine blk_drew ?_ | refine blk_alloc ?_ _)); exact gA.out) Try.underlying37 rfl (by kernel_rfl)) rfl ?_
 exact ⟨q2_6, by repeat (first | (with_reducible first | exact HB.out | apply below_alloc | apply pw_below_drewN | apply below_drew1 | refine below_set ?_ OA.out) | exact HB.out)⟩

/-! ### spec_l03Store: function 56 -/
def spec_l03Store.f (a0 : Int) (a1 : Int) : Option (Int × Int × Int × Int × Bool) := some (2, a0, a1, 0, true)
set_option maxHeartbeats 8000000 in
set_option maxRecDepth 100000 in
theorem spec_l03Store.calls (a0 : Int) (a1 : Int) (r1 : Int) (r2 : Int) (r3 : Int) (r4 : Int) (r5 : Bool) (w : World) (h : spec_l03Store.f a0 a1 = some (r1, r2, r3, r4, r5)) :
  Calls Try.prog 56 #[.int .i64 a0, .int .i64 a1] w fun e w' => e = .returned (.tuple #[.agg #[.int .i64 r1, .int .i64 r2, .int .i64 r3, .int .i64 r4], .bool r5]) ∧ Below w.heap.size w w' := by
 have hu37 := Try.underlying37
 have HB := Aside0.mk (Below.refl w.heap.size w)
 have H : (some (2, a0, a1, 0, true)) = some (r1, r2, r3, r4, r5) := h
 clear h
 simp only [Option.some.injEq, Prod.mk.injEq] at H
 obtain ⟨rfl, rfl, rfl, rfl, rfl⟩ := H
 go_enter Try.func56, Try.ntmps56
 go_wp2_with (first | ((with_reducible refine gate_dst (N := 4) rfl ?_); refine box_event ?hg (N := 4) ?hd (cs := #[.int .i64 0, .int .i64 0, .int .i64 0, .int .i64 0]) (t := 37) ?hr ?_; (case hd => rfl); (case hg => rfl); (case hr => first | (go_simp; done) | (go_simp; rfl)); intro mA hg w3 hbox hb; have oA := Aside0.mk (below_step q2_0 hb); have pA := Aside0.mk (hbox); have qA := Aside0.mk ((q2_9 : w.heap.size ≤ mA)); have rA := Aside0.mk ((q2_9 : w.heap.size ≤ mA)); clear HB; have HB := oA; have hA := pA; have JB := qA; have PA := rA; clear oA pA qA rA; clear hb hbox hg; have gB : w3.cell? ⟨mA, 0, none⟩ = some (.int .i64 0) := (blk_cell hA.out 0).trans rfl; have hB : w3.cell? ⟨mA, 1, none⟩ = some (.int .i64 0) := (blk_cell hA.out 1).trans rfl; have iB : w3.cell? ⟨mA, 2, none⟩ = some (.int .i64 0) := (blk_cell hA.out 2).trans rfl; have jB : w3.cell? ⟨mA, 3, none⟩ = some (.int .i64 0) := (blk_cell hA.out 3).trans rfl; have kB := blk_frozen hA.out 0; have lB := blk_frozen hA.out 1; have mB := blk_frozen hA.out 2; have nB := blk_frozen hA.out 3))
 refine bodyPost_ret (results_ct rfl _ _ mA 37 #[.int .i64 2, .int .i64 a0, .int .i64 a1, .int .i64 0] (0, 0) _ rfl (by (with_reducible repeat (first | refine blk_drewN ?_ _ | refine blk_drew ?_ | refine blk_alloc ?_ _)); refine blk_put (cs := #[.int .i64 2, .int .i64 a0, .int .i64 a1, .int .i64 0]) ?_ 3 _ rfl; (with_reducible repeat (first | refine blk_drewN ?_ _ | refine blk_drew ?_ | refine blk_alloc ?_ _)); refine blk_put (cs := #[.int .i64 2, .int .i64 a0, .int .i64 0, .int .i64 0]) ?_ 2 _ rfl; (with_reducible repeat (first | refine blk_drewN ?_ _ | refine blk_drew ?_ | refine blk_alloc ?_ _)); refine blk_put (cs := #[.int .i64 2, .int .i64 0, .int .i64 0, .int .i64 0]) ?_ 1 _ rfl; (with_reducible repeat (first | refine blk_drewN ?_ _ | refine blk_drew ?_ | refine blk_alloc ?_ _)); refine blk_put (cs := #[.int .i64 0, .int .i64 0, .int .i64 0, .int .i64 0]) ?_ 0 _ rfl; (with_reducible repeat (first | refine blk_drewN ?_ _ | refine blk_drew ?_ | refine blk_alloc ?_ _)); exact hA.out) Try.underlying37 rfl (by kernel_rfl)) rfl ?_
 exact ⟨q2_6, by repeat (first | (with_reducible first | exact HB.out | apply below_alloc | apply pw_below_drewN | apply below_drew1 | refine below_set ?_ PA.out) | exact HB.out)⟩

/-! ### spec_l03Cas: function 59 -/
def spec_l03Cas.f (a0 : Int) (a1 : Int) (a2 : Int) : Option (Int × Int × Int × Int × Bool) := some (3, a0, a1, a2, true)
set_option maxHeartbeats 8000000 in
set_option maxRecDepth 100000 in
theorem spec_l03Cas.calls (a0 : Int) (a1 : Int) (a2 : Int) (r1 : Int) (r2 : Int) (r3 : Int) (r4 : Int) (r5 : Bool) (w : World) (h : spec_l03Cas.f a0 a1 a2 = some (r1, r2, r3, r4, r5)) :
  Calls Try.prog 59 #[.int .i64 a0, .int .i64 a1, .int .i64 a2] w fun e w' => e = .returned (.tuple #[.agg #[.int .i64 r1, .int .i64 r2, .int .i64 r3, .int .i64 r4], .bool r5]) ∧ Below w.heap.size w w' := by
 have hu37 := Try.underlying37
 have HB := Aside0.mk (Below.refl w.heap.size w)
 have H : (some (3, a0, a1, a2, true)) = some (r1, r2, r3, r4, r5) := h
 clear h
 simp only [Option.some.injEq, Prod.mk.injEq] at H
 obtain ⟨rfl, rfl, rfl, rfl, rfl⟩ := H
 go_enter Try.func59, Try.ntmps59
 go_wp2_with (first | ((with_reducible refine gate_dst (N := 6) rfl ?_); refine box_event ?hg (N := 6) ?hd (cs := #[.int .i64 0, .int .i64 0, .int .i64 0, .int .i64 0]) (t := 37) ?hr ?_; (case hd => rfl); (case hg => rfl); (case hr => first | (go_simp; done) | (go_simp; rfl)); intro nA hg w4 hbox hb; have oA := Aside0.mk (below_step q2_0 hb); have pA := Aside0.mk (hbox); have qA := Aside0.mk ((q2_9 : w.heap.size ≤ nA)); have rA := Aside0.mk ((q2_9 : w.heap.size ≤ nA)); clear HB; have HB := oA; have iA := pA; have KB := qA; have QA := rA; clear oA pA qA rA; clear hb hbox hg; have oB : w4.cell? ⟨nA, 0, none⟩ = some (.int .i64 0) := (blk_cell iA.out 0).trans rfl; have pB : w4.cell? ⟨nA, 1, none⟩ = some (.int .i64 0) := (blk_cell iA.out 1).trans rfl; have qB : w4.cell? ⟨nA, 2, none⟩ = some (.int .i64 0) := (blk_cell iA.out 2).trans rfl; have rB : w4.cell? ⟨nA, 3, none⟩ = some (.int .i64 0) := (blk_cell iA.out 3).trans rfl; have sB := blk_frozen iA.out 0; have tB := blk_frozen iA.out 1; have uB := blk_frozen iA.out 2; have vB := blk_frozen iA.out 3))
 refine bodyPost_ret (results_ct rfl _ _ nA 37 #[.int .i64 3, .int .i64 a0, .int .i64 a1, .int .i64 a2] (0, 0) _ rfl (by (with_reducible repeat (first | refine blk_drewN ?_ _ | refine blk_drew ?_ | refine blk_alloc ?_ _)); refine blk_put (cs := #[.int .i64 3, .int .i64 a0, .int .i64 a1, .int .i64 0]) ?_ 3 _ rfl; (with_reducible repeat (first | refine blk_drewN ?_ _ | refine blk_drew ?_ | refine blk_alloc ?_ _)); refine blk_put (cs := #[.int .i64 3, .int .i64 a0, .int .i64 0, .int .i64 0]) ?_ 2 _ rfl; (with_reducible repeat (first | refine blk_drewN ?_ _ | refine blk_drew ?_ | refine blk_alloc ?_ _)); refine blk_put (cs := #[.int .i64 3, .int .i64 0, .int .i64 0, .int .i64 0]) ?_ 1 _ rfl; (with_reducible repeat (first | refine blk_drewN ?_ _ | refine blk_drew ?_ | refine blk_alloc ?_ _)); refine blk_put (cs := #[.int .i64 0, .int .i64 0, .int .i64 0, .int .i64 0]) ?_ 0 _ rfl; (with_reducible repeat (first | refine blk_drewN ?_ _ | refine blk_drew ?_ | refine blk_alloc ?_ _)); exact iA.out) Try.underlying37 rfl (by kernel_rfl)) rfl ?_
 exact ⟨q2_6, by repeat (first | (with_reducible first | exact HB.out | apply below_alloc | apply pw_below_drewN | apply below_drew1 | refine below_set ?_ QA.out) | exact HB.out)⟩

/-! ### spec_l04Size: function 75 -/
def spec_l04Size.f (a0 : Int) : Option (Bool) := if a0 ≥ 2 then (some (decide (a0 ≤ 16))) else (some false)
set_option maxHeartbeats 8000000 in
set_option maxRecDepth 100000 in
theorem spec_l04Size.calls (a0 : Int) (r : Bool) (w : World) (h : spec_l04Size.f a0 = some r) :
  Calls Try.prog 75 #[.int .i64 a0] w fun e w' => e = .returned (.bool r) ∧ Drawn0 w w' := by
 have H : (if a0 ≥ 2 then (some (decide (a0 ≤ 16))) else (some false)) = some r := h
 clear h
 by_cases c2 : a0 ≥ 2
 ·rw [if_pos c2] at H
  have wB : decide (2 ≤ a0) = true := decide_eq_true c2
  clear c2
  obtain rfl := Option.some.inj H
  go_enter Try.func75, Try.ntmps75
  go_wp2
  go_ret
  exact ⟨q2_8, q2_7⟩
 ·rw [if_neg c2] at H
  have wB : decide (2 ≤ a0) = false := decide_eq_false c2
  clear c2
  obtain rfl := Option.some.inj H
  go_enter Try.func75, Try.ntmps75
  go_wp2
  go_ret
  exact ⟨q2_8, q2_7⟩

/-! ### spec_Mod: function 89 -/
def spec_Mod.f (a0 : Int) (a1 : Int) : Option (Int) := if a1 < 1 then (some 0) else (if a1 = 0 then (none) else (if (Int.tmod a0 a1) < 0 then (some (wrap64 ((Int.tmod a0 a1) + a1))) else (some (Int.tmod a0 a1))))
set_option maxHeartbeats 8000000 in
set_option maxRecDepth 100000 in
theorem spec_Mod.calls (a0 : Int) (a1 : Int) (r : Int) (w : World) (h : spec_Mod.f a0 a1 = some r) :
  Calls Try.prog 89 #[.int .i64 a0, .int .i64 a1] w fun e w' => e = .returned (.int .i64 r) ∧ Drawn0 w w' := by
 have H : (if a1 < 1 then (some 0) else (if a1 = 0 then (none) else (if (Int.tmod a0 a1) < 0 then (some (wrap64 ((Int.tmod a0 a1) + a1))) else (some (Int.tmod a0 a1))))) = some r := h
 clear h
 by_cases c3 : a1 < 1
 ·rw [if_pos c3] at H
  have xB : decide (a1 < 1) = true := decide_eq_true c3
  clear c3
  obtain rfl := Option.some.inj H
  go_enter Try.func89, Try.ntmps89
  go_wp2
  go_ret
  exact ⟨q2_8, q2_7⟩
 ·rw [if_neg c3] at H
  have xB : decide (a1 < 1) = false := decide_eq_false c3
  clear c3
  by_cases c4 : a1 = 0
  ·rw [if_pos c4] at H
   exact absurd H (by simp)
  ·rw [if_neg c4] at H
   have QB : (a1 == 0) = false := beq_eq_false_iff_ne.mpr c4
   have RB : (a1 != 0) = true := bne_iff_ne.mpr c4
   by_cases c5 : (Int.tmod a0 a1) < 0
   ·rw [if_pos c5] at H
    have yB : decide ((Int.tmod a0 a1) < 0) = true := decide_eq_true c5
    clear c5
    obtain rfl := Option.some.inj H
    go_enter Try.func89, Try.ntmps89
    go_wp2
    go_ret
    exact ⟨q2_8, q2_7⟩
   ·rw [if_neg c5] at H
    have yB : decide ((Int.tmod a0 a1) < 0) = false := decide_eq_false c5
    clear c5
    obtain rfl := Option.some.inj H
    go_enter Try.func89, Try.ntmps89
    go_wp2
    go_ret
    exact ⟨q2_8, q2_7⟩

/-! ### spec_l04Seq: function 76 -/
def spec_l04Seq.f (a0 : Int) (a1 : Int) : Option (Int) := (spec_Mod.f a1 a0).bind fun BA => (some (wrap64 (2 + (wrap64 (2 * BA)))))
set_option maxHeartbeats 8000000 in
set_option maxRecDepth 100000 in
theorem spec_l04Seq.calls (a0 : Int) (a1 : Int) (r : Int) (w : World) (h : spec_l04Seq.f a0 a1 = some r) :
  Calls Try.prog 76 #[.int .i64 a0, .int .i64 a1] w fun e w' => e = .returned (.int .i64 r) ∧ Drawn0 w w' := by
 have H : ((spec_Mod.f a1 a0).bind fun BA => (some (wrap64 (2 + (wrap64 (2 * BA)))))) = some r := h
 clear h
 replace H := Option.bind_eq_some_iff.mp H
 obtain ⟨BA, A30, H⟩ := H
 (try dsimp only at H)
 have A3 := Aside0.mk A30
 clear A30
 obtain rfl := Option.some.inj H
 go_enter Try.func76, Try.ntmps76
 go_wp2_with (first | ((with_reducible refine gate_callee (f := 89) rfl ?_); refine goesL_ (some 7) rfl rfl Try.func89 (by kernel_rfl) rfl #[.int .i64 a1, .int .i64 a0] rfl (by (try simp only [List.map_toArray, List.map_cons, List.map_nil]); first | done | rfl | (simp only [List.length_drop, List.length_take]; rfl)) ?_; (with_reducible refine (spec_Mod.calls a1 a0 BA _ A3.out).mono ?_); rintro e w' ⟨rfl, ⟨nd, rfl⟩⟩; refine ⟨_, rfl, ?_⟩))
 go_ret
 exact ⟨q2_8, q2_7⟩

end Go.Proofs.Ytfahmmlkcmadeaa.PFnExactRiStep
