-- Written by the session's own patched copy of the printer (wip/patch_print.py).
import Derived.Test.YtndkfjecipjiaaaPFnExactCrewOkx0
import Derived.Test.YtndkfjecipjiaaaPFnExactCrewOkx4
namespace Go.Proofs.Ytndkfjecipjiaaa.PFnExactCrewOk
open Go.RowKit Go.Proofs.YtndkfjecipjiaaaW.PrintWords Go.Proofs.YtndkfjecipjiaaaW.PrintLast Go.Proofs.YtndkfjecipjiaaaW.PrintMore
attribute [local go_sem] max2_int min2_int max_two min_two max_three min_three max_four min_four   -- for this text's walks alone
set_option linter.unusedVariables false
set_option linter.unusedSimpArgs false

theorem q5_0 {p : Prop} (h : p := by repeat (first | (with_reducible first | exact HB.out | apply below_alloc | apply pw_below_drewN | apply below_drew1 | refine below_set ?_ vB.out | refine below_set ?_ wB.out) | exact HB.out)) : p := h
theorem q5_1 {p : Prop} (h : p := by (try simp only [List.map_toArray, List.map_cons, List.map_nil]); first | done | rfl | (simp only [List.length_drop, List.length_take]; rfl)) : p := h
theorem q5_2 {p : Prop} (h : p := by first | rfl | (simp [errW_none, errW_some] <;> rfl) | (simp [*, errW_none, errW_some] <;> rfl)) : p := h
theorem q5_3 {p : Prop} (h : p := by (with_reducible repeat (first | refine blk_drewN ?_ _ | refine blk_drew ?_ | refine blk_alloc ?_ _)); exact cA.out) : p := h
theorem q5_4 {p : Prop} (h : p := by repeat (first | (with_reducible first | exact HB.out | apply below_alloc | apply pw_below_drewN | apply below_drew1 | refine below_set ?_ vB.out) | exact HB.out)) : p := h
theorem q5_5 {p : Prop} (h : p := by repeat (first | (with_reducible first | exact HB.out | apply below_alloc | apply pw_below_drewN | apply below_drew1) | exact HB.out)) : p := h
/-! ### spec_l07Times: function 89 -/
def spec_l07Times.j0 : Nat → Int → Int → Int → Bool → Int → Int → List Int → List (S55) → Int → Int → Int → Int → Int → Int → Int → Int → Int → Int → Bool → Option (Bool)
 | 0, _, _, _, _, _, _, _, _, _, _, _, _, _, _, _, _, _, _, _ => none
 | k + 1, x2, x3, x9, x16, MB, NB, OB, PB, zA, QB, RB, SB, TB, UB, VB, WB, XB, YB, CA => if x16 = true then ((spec_l01In.f x2 0 (wrap64 (zA - 1))).bind fun EA => (if EA = true then (if (CA == (x3 != (-1))) = true then ((spec_l01In.f x3 (-1) (wrap64 (zA - 1))).bind fun AA => (some AA)) else (some false)) else (some false))) else ((spec_l01In.f x2 x9 (wrap64 (zA - 1))).bind fun FA => (if FA = true then (if (CA == (x3 != (-1))) = true then ((spec_l01In.f x3 (-1) (wrap64 (zA - 1))).bind fun BA => (some BA)) else (some false)) else (some false)))
def spec_l07Times.f (k : Nat) (lA : Int) (mA : Int) (iA : List Int) (jA : List (S55)) (eA : Int) (nA : Int) (oA : Int) (pA : Int) (kA : Int) (qA : Int) (rA : Int) (sA : Int) (tA : Int) (uA : Int) (fA : Bool) (a2 : Int) (a3 : Int) : Option (Bool) := if fA = true then (spec_l07Times.j0 k a2 a3 (-1) true lA mA iA jA eA nA oA pA kA qA rA sA tA uA fA) else (spec_l07Times.j0 k a2 a3 (-1) (kA != 0) lA mA iA jA eA nA oA pA kA qA rA sA tA uA fA)
theorem spec_l07Times.mono_l : ∀ k, (∀ y0 y1 y2 y3 y4 y5 y6 y7 y8 y9 y10 y11 y12 y13 y14 y15 y16 y17 y18, LeO (spec_l07Times.j0 k y0 y1 y2 y3 y4 y5 y6 y7 y8 y9 y10 y11 y12 y13 y14 y15 y16 y17 y18) (spec_l07Times.j0 (k + 1) y0 y1 y2 y3 y4 y5 y6 y7 y8 y9 y10 y11 y12 y13 y14 y15 y16 y17 y18))
 | 0 => fun _ _ _ _ _ _ _ _ _ _ _ _ _ _ _ _ _ _ _ r h => by simp [spec_l07Times.j0] at h
 | k + 1 => by
  have ih0 := spec_l07Times.mono_l k
  ·intro y0 y1 y2 y3 y4 y5 y6 y7 y8 y9 y10 y11 y12 y13 y14 y15 y16 y17 y18
   unfold spec_l07Times.j0
   repeat' first
   | (with_reducible exact ih0 _ _ _ _ _ _ _ _ _ _ _ _ _ _ _ _ _ _ _)
   | (with_reducible exact LeO.refl _)
   | (with_reducible exact LeO.none _)
   | (with_reducible refine LeO.ite ?_ ?_)
   | (with_reducible refine LeO.bind ?_ (fun _ => ?_))
   | exact ih0 _ _ _ _ _ _ _ _ _ _ _ _ _ _ _ _ _ _ _
   | exact LeO.none _
   | refine LeO.ite ?_ ?_
   | refine LeO.bind ?_ (fun _ => ?_)
theorem spec_l07Times.mono : ∀ a0 a1 a2 a3 a4 a5 a6 a7 a8 a9 a10 a11 a12 a13 a14 a15 a16 k, LeO (spec_l07Times.f k a0 a1 a2 a3 a4 a5 a6 a7 a8 a9 a10 a11 a12 a13 a14 a15 a16) (spec_l07Times.f (k + 1) a0 a1 a2 a3 a4 a5 a6 a7 a8 a9 a10 a11 a12 a13 a14 a15 a16) := by
 intro a0 a1 a2 a3 a4 a5 a6 a7 a8 a9 a10 a11 a12 a13 a14 a15 a16 k
 have ih0 := spec_l07Times.mono_l k
 unfold spec_l07Times.f
 repeat' first
   | (with_reducible exact ih0 _ _ _ _ _ _ _ _ _ _ _ _ _ _ _ _ _ _ _)
   | (with_reducible exact LeO.refl _)
   | (with_reducible exact LeO.none _)
   | (with_reducible refine LeO.ite ?_ ?_)
   | (with_reducible refine LeO.bind ?_ (fun _ => ?_))
   | exact ih0 _ _ _ _ _ _ _ _ _ _ _ _ _ _ _ _ _ _ _
   | exact LeO.none _
   | refine LeO.ite ?_ ?_
   | refine LeO.bind ?_ (fun _ => ?_)
set_option maxHeartbeats 8000000 in
set_option maxRecDepth 100000 in
theorem spec_l07Times.calls (k : Nat) (lA : Int) (mA : Int) (vA : Option Addr) (wA : Nat) (iA : List Int) (xA : Option Addr) (yA : Nat) (jA : List (S55)) (eA : Int) (nA : Int) (oA : Int) (pA : Int) (kA : Int) (qA : Int) (rA : Int) (sA : Int) (tA : Int) (uA : Int) (fA : Bool) (a2 : Int) (a3 : Int) (r : Bool) (w : World) (xB : Kd.C (Kd.int .i64) w vA iA.length iA) (yB : iA.length ≤ wA) (zB : Kd.C k55 w xA jA.length jA) (AB : jA.length ≤ yA) (h : spec_l07Times.f k lA mA iA jA eA nA oA pA kA qA rA sA tA uA fA a2 a3 = some r) :
  Calls Try.prog 89 #[.agg #[.int .i64 lA, .int .i64 mA, .slice vA iA.length wA, .slice xA jA.length yA, .int .i64 eA], .agg #[.int .i64 nA, .int .i64 oA, .int .i64 pA, .int .i64 kA, .int .i64 qA, .int .i64 rA, .int .i64 sA, .int .i64 tA, .int .i64 uA, .bool fA], .int .i64 a2, .int .i64 a3] w fun e w' => e = .returned (.bool r) ∧ Below w.heap.size w w' := by
 have hu29 := Try.underlying29
 have hu75 := Try.underlying75
 clear xB yB
 clear zB AB
 have HB := Aside0.mk (Below.refl w.heap.size w)
 have H : (if fA = true then (spec_l07Times.j0 k a2 a3 (-1) true lA mA iA jA eA nA oA pA kA qA rA sA tA uA fA) else (spec_l07Times.j0 k a2 a3 (-1) (kA != 0) lA mA iA jA eA nA oA pA kA qA rA sA tA uA fA)) = some r := h
 clear h
 have HC5 := Aside0.mk H
 clear H
 go_enter Try.func89, Try.ntmps89
 go_upto_region 2 with (first | ((with_reducible refine gate_dst (N := 4) rfl ?_); refine box_event ?hg (N := 4) ?hd (cs := #[.int .i64 lA, .int .i64 mA, .slice vA iA.length wA, .slice xA jA.length yA, .int .i64 eA]) (t := 29) ?hr ?_; (case hd => rfl); (case hg => rfl); (case hr => first | (go_simp; done) | (go_simp; rfl)); intro dA hg w6 hbox hb; have BB := Aside0.mk (below_step q5_5 hb); have CB := Aside0.mk (hbox); have DB := Aside0.mk ((by rw [hg]; exact (below_size q5_5) : w.heap.size ≤ dA)); have EB := Aside0.mk ((by rw [hg]; exact (below_size q5_5) : w.heap.size ≤ dA)); clear HB; have HB := BB; have cA := CB; have JE := DB; have vB := EB; clear BB CB DB EB; clear hb hbox hg) | ((with_reducible refine gate_dst (N := 5) rfl ?_); refine box_event ?hg (N := 5) ?hd (cs := #[.int .i64 nA, .int .i64 oA, .int .i64 pA, .int .i64 kA, .int .i64 qA, .int .i64 rA, .int .i64 sA, .int .i64 tA, .int .i64 uA, .bool fA]) (t := 75) ?hr ?_; (case hd => rfl); (case hg => rfl); (case hr => first | (go_simp; done) | (go_simp; rfl)); intro bA hg w7 hbox hb; have BB := Aside0.mk (blk_below (g := dA) (o := .cells #[.int .i64 lA, .int .i64 mA, .slice vA iA.length wA, .slice xA jA.length yA, .int .i64 eA] 29 (0, 0)) q5_3 hb); have CB := Aside0.mk (below_step q5_4 hb); have DB := Aside0.mk (hbox); have EB := Aside0.mk ((by rw [hg]; exact (below_size q5_4) : w.heap.size ≤ bA)); have KE := Aside0.mk ((by rw [hg]; exact (below_size q5_4) : w.heap.size ≤ bA)); have LE := Aside0.mk ((by rw [hg]; exact Nat.ne_of_lt (blk_lt (g := dA) (o := .cells #[.int .i64 lA, .int .i64 mA, .slice vA iA.length wA, .slice xA jA.length yA, .int .i64 eA] 29 (0, 0)) q5_3) : dA ≠ bA)); have ME := Aside0.mk ((by rw [hg]; exact Nat.ne_of_gt (blk_lt (g := dA) (o := .cells #[.int .i64 lA, .int .i64 mA, .slice vA iA.length wA, .slice xA jA.length yA, .int .i64 eA] 29 (0, 0)) q5_3) : bA ≠ dA)); clear cA; clear HB; have cA := BB; have HB := CB; have aA := DB; have NE := EB; have wB := KE; have gA := LE; have hA := ME; clear BB CB DB EB KE LE ME; clear hb hbox hg))
 (try simp only [Act.put, List.setIfInBounds_toArray, List.set_cons_zero, List.set_cons_succ])
 go_cut [16] (fun v16 wc => ∃ (kq : Nat) (DA : Bool), v16 = .bool DA ∧ Aside0 (spec_l07Times.j0 kq a2 a3 (-1) DA lA mA iA jA eA nA oA pA kA qA rA sA tA uA fA = some r) ∧ Aside0 (kq ≤ k) ∧ Aside0 (wc.heap[dA]? = some (.cells #[.int .i64 lA, .int .i64 mA, (.slice vA iA.length wA), (.slice xA jA.length yA), .int .i64 eA] 29 (0, 0))) ∧ Aside0 (wc.heap[bA]? = some (.cells #[.int .i64 nA, .int .i64 oA, .int .i64 pA, .int .i64 kA, .int .i64 qA, .int .i64 rA, .int .i64 sA, .int .i64 tA, .int .i64 uA, .bool fA] 75 (0, 0))) ∧ Aside0 (Below w.heap.size w wc))
 case first =>
  have H := HC5.out
  clear HC5
  by_cases c8 : fA = true
  ·subst c8
   have H1 : (spec_l07Times.j0 k a2 a3 (-1) true lA mA iA jA eA nA oA pA kA qA rA sA tA uA true) = some r := by rw [if_pos rfl] at H; exact H
   clear H
   have H := H1
   clear H1
   have H' := Aside0.mk H
   clear H
   have eF := hA.out
   have fF := gA.out
   have GA : w7.cell? ⟨bA, 0, none⟩ = some (.int .i64 nA) := (blk_cell aA.out 0).trans rfl
   have IA : w7.cell? ⟨bA, 1, none⟩ = some (.int .i64 oA) := (blk_cell aA.out 1).trans rfl
   have JA : w7.cell? ⟨bA, 2, none⟩ = some (.int .i64 pA) := (blk_cell aA.out 2).trans rfl
   have KA : w7.cell? ⟨bA, 3, none⟩ = some (.int .i64 kA) := (blk_cell aA.out 3).trans rfl
   have LA : w7.cell? ⟨bA, 4, none⟩ = some (.int .i64 qA) := (blk_cell aA.out 4).trans rfl
   have MA : w7.cell? ⟨bA, 5, none⟩ = some (.int .i64 rA) := (blk_cell aA.out 5).trans rfl
   have NA : w7.cell? ⟨bA, 6, none⟩ = some (.int .i64 sA) := (blk_cell aA.out 6).trans rfl
   have OA : w7.cell? ⟨bA, 7, none⟩ = some (.int .i64 tA) := (blk_cell aA.out 7).trans rfl
   have PA : w7.cell? ⟨bA, 8, none⟩ = some (.int .i64 uA) := (blk_cell aA.out 8).trans rfl
   have QA : w7.cell? ⟨bA, 9, none⟩ = some (.bool true) := (blk_cell aA.out 9).trans rfl
   have RA := blk_frozen aA.out 0
   have SA := blk_frozen aA.out 1
   have TA := blk_frozen aA.out 2
   have UA := blk_frozen aA.out 3
   have VA := blk_frozen aA.out 4
   have WA := blk_frozen aA.out 5
   have XA := blk_frozen aA.out 6
   have YA := blk_frozen aA.out 7
   have ZA := blk_frozen aA.out 8
   have aB := blk_frozen aA.out 9
   go_wp2
   go_meet
   case rel => exact ⟨_, (true), (by first | rfl | (simp; done) | (simp [*]; done)), H', ⟨by first | omega | exact Nat.le_refl _⟩, ⟨q5_3⟩, ⟨by (with_reducible repeat (first | refine blk_drewN ?_ _ | refine blk_drew ?_ | refine blk_alloc ?_ _)); exact aA.out⟩, ⟨q5_0⟩⟩
  ·replace c8 := Bool.eq_false_iff.mpr c8
   subst c8
   have H1 : (spec_l07Times.j0 k a2 a3 (-1) (kA != 0) lA mA iA jA eA nA oA pA kA qA rA sA tA uA false) = some r := by rw [if_neg (show ¬ (false = true) by decide)] at H; exact H
   clear H
   have H := H1
   clear H1
   have H' := Aside0.mk H
   clear H
   have OE := hA.out
   have PE := gA.out
   have bB : w7.cell? ⟨bA, 0, none⟩ = some (.int .i64 nA) := (blk_cell aA.out 0).trans rfl
   have cB : w7.cell? ⟨bA, 1, none⟩ = some (.int .i64 oA) := (blk_cell aA.out 1).trans rfl
   have dB : w7.cell? ⟨bA, 2, none⟩ = some (.int .i64 pA) := (blk_cell aA.out 2).trans rfl
   have eB : w7.cell? ⟨bA, 3, none⟩ = some (.int .i64 kA) := (blk_cell aA.out 3).trans rfl
   have fB : w7.cell? ⟨bA, 4, none⟩ = some (.int .i64 qA) := (blk_cell aA.out 4).trans rfl
   have gB : w7.cell? ⟨bA, 5, none⟩ = some (.int .i64 rA) := (blk_cell aA.out 5).trans rfl
   have hB : w7.cell? ⟨bA, 6, none⟩ = some (.int .i64 sA) := (blk_cell aA.out 6).trans rfl
   have iB : w7.cell? ⟨bA, 7, none⟩ = some (.int .i64 tA) := (blk_cell aA.out 7).trans rfl
   have jB : w7.cell? ⟨bA, 8, none⟩ = some (.int .i64 uA) := (blk_cell aA.out 8).trans rfl
   have kB : w7.cell? ⟨bA, 9, none⟩ = some (.bool false) := (blk_cell aA.out 9).trans rfl
   have lB := blk_frozen aA.out 0
   have mB := blk_frozen aA.out 1
   have nB := blk_frozen aA.out 2
   have oB := blk_frozen aA.out 3
   have pB := blk_frozen aA.out 4
   have qB := blk_frozen aA.out 5
   have rB := blk_frozen aA.out 6
   have sB := blk_frozen aA.out 7
   have tB := blk_frozen aA.out 8
   have uB := blk_frozen aA.out 9
   go_wp2
   go_meet
   case rel => exact ⟨_, ((kA != 0)), (by first | rfl | (simp; done) | (simp [*]; done)), H', ⟨by first | omega | exact Nat.le_refl _⟩, ⟨q5_3⟩, ⟨by (with_reducible repeat (first | refine blk_drewN ?_ _ | refine blk_drew ?_ | refine blk_alloc ?_ _)); exact aA.out⟩, ⟨q5_0⟩⟩
 case rest =>
  clear HC5
  (try clear c1); (try clear p2); (try clear c8); (try clear c9); (try clear c11); (try clear GA); (try clear IA); (try clear JA); (try clear KA); (try clear LA); (try clear MA); (try clear NA); (try clear OA); (try clear PA); (try clear QA); (try clear bB); (try clear cB); (try clear dB); (try clear eB); (try clear fB); (try clear gB); (try clear hB); (try clear iB); (try clear jB); (try clear kB); (try clear RA); (try clear SA); (try clear TA); (try clear UA); (try clear VA); (try clear WA); (try clear XA); (try clear YA); (try clear ZA); (try clear aB); (try clear lB); (try clear mB); (try clear nB); (try clear oB); (try clear pB); (try clear qB); (try clear rB); (try clear sB); (try clear tB); (try clear uB)
  obtain ⟨kq, DA, rfl, HA, HJ4, cA, aA, HB⟩ := hcut
  cases kq with
  | zero => exact absurd HA.out (by simp [spec_l07Times.j0])
  | succ kj4 =>
   have H := HA.out
   clear HA
   simp only [spec_l07Times.j0] at H
   by_cases c13 : DA = true
   ·subst c13
    have H1 : ((spec_l01In.f a2 0 (wrap64 (eA - 1))).bind fun EA => (if EA = true then (if (fA == (a3 != (-1))) = true then ((spec_l01In.f a3 (-1) (wrap64 (eA - 1))).bind fun AA => (some AA)) else (some false)) else (some false))) = some r := by rw [if_pos rfl] at H; exact H
    clear H
    have H := H1
    clear H1
    replace H := Option.bind_eq_some_iff.mp H
    obtain ⟨EA, A140, H⟩ := H
    replace H : (if EA = true then (if (fA == (a3 != (-1))) = true then ((spec_l01In.f a3 (-1) (wrap64 (eA - 1))).bind fun AA => (some AA)) else (some false)) else (some false)) = some r := H
    have A14 := Aside0.mk A140
    clear A140
    by_cases c15 : EA = true
    ·subst c15
     have H1 : (if (fA == (a3 != (-1))) = true then ((spec_l01In.f a3 (-1) (wrap64 (eA - 1))).bind fun AA => (some AA)) else (some false)) = some r := by rw [if_pos rfl] at H; exact H
     clear H
     have H := H1
     clear H1
     by_cases c16 : (fA == (a3 != (-1))) = true
     ·rw [if_pos c16] at H
      have FB : (fA == (a3 != (-1))) = true := c16
      (try (have GB : decide (fA = (a3 != (-1))) = true := by simpa using c16))
      (try (have IB : (fA == (a3 != (-1))) = true := by simpa using c16))
      clear c16
      replace H := Option.bind_eq_some_iff.mp H
      obtain ⟨AA, A170, H⟩ := H
      replace H : (some AA) = some r := H
      have A17 := Aside0.mk A170
      clear A170
      obtain rfl := Option.some.inj H
      have QE := gA.out
      have RE := hA.out
      have ZB : wc.cell? ⟨dA, 0, none⟩ = some (.int .i64 lA) := (blk_cell cA.out 0).trans rfl
      have aC : wc.cell? ⟨dA, 1, none⟩ = some (.int .i64 mA) := (blk_cell cA.out 1).trans rfl
      have bC : wc.cell? ⟨dA, 2, none⟩ = some (.slice vA iA.length wA) := (blk_cell cA.out 2).trans rfl
      have cC : wc.cell? ⟨dA, 3, none⟩ = some (.slice xA jA.length yA) := (blk_cell cA.out 3).trans rfl
      have dC : wc.cell? ⟨dA, 4, none⟩ = some (.int .i64 eA) := (blk_cell cA.out 4).trans rfl
      have eC := blk_frozen cA.out 0
      have fC := blk_frozen cA.out 1
      have gC := blk_frozen cA.out 2
      have hC := blk_frozen cA.out 3
      have iC := blk_frozen cA.out 4
      go_wp2_with (first | ((with_reducible refine gate_callee (f := 97) rfl ?_); refine goesL_ (some 22) rfl rfl Try.func97 (by kernel_rfl) rfl #[.int .i64 a2, .int .i64 0, .int .i64 (wrap64 (eA - 1))] rfl q5_1 ?_; (with_reducible refine (spec_l01In.calls a2 0 (wrap64 (eA - 1)) true _ A14.out).mono ?_); rintro e w' ⟨rfl, ⟨nd, rfl⟩⟩; refine ⟨_, rfl, ?_⟩; have jC : wc.cell? ⟨bA, 0, none⟩ = some (.int .i64 nA) := (blk_cell aA.out 0).trans rfl; have kC : wc.cell? ⟨bA, 1, none⟩ = some (.int .i64 oA) := (blk_cell aA.out 1).trans rfl; have lC : wc.cell? ⟨bA, 2, none⟩ = some (.int .i64 pA) := (blk_cell aA.out 2).trans rfl; have mC : wc.cell? ⟨bA, 3, none⟩ = some (.int .i64 kA) := (blk_cell aA.out 3).trans rfl; have nC : wc.cell? ⟨bA, 4, none⟩ = some (.int .i64 qA) := (blk_cell aA.out 4).trans rfl; have oC : wc.cell? ⟨bA, 5, none⟩ = some (.int .i64 rA) := (blk_cell aA.out 5).trans rfl; have pC : wc.cell? ⟨bA, 6, none⟩ = some (.int .i64 sA) := (blk_cell aA.out 6).trans rfl; have qC : wc.cell? ⟨bA, 7, none⟩ = some (.int .i64 tA) := (blk_cell aA.out 7).trans rfl; have rC : wc.cell? ⟨bA, 8, none⟩ = some (.int .i64 uA) := (blk_cell aA.out 8).trans rfl; have sC : wc.cell? ⟨bA, 9, none⟩ = some (.bool fA) := (blk_cell aA.out 9).trans rfl; have tC := blk_frozen aA.out 0; have uC := blk_frozen aA.out 1; have vC := blk_frozen aA.out 2; have wC := blk_frozen aA.out 3; have xC := blk_frozen aA.out 4; have yC := blk_frozen aA.out 5; have zC := blk_frozen aA.out 6; have AC := blk_frozen aA.out 7; have BC := blk_frozen aA.out 8; have CC := blk_frozen aA.out 9) | (go_at_call 97; (with_reducible refine (spec_l01In.calls a3 (-1) (wrap64 (eA - 1)) AA _ A17.out).mono ?_); rintro e w' ⟨rfl, ⟨nd, rfl⟩⟩))
      go_ret
      exact ⟨q5_2, q5_0⟩
     ·rw [if_neg c16] at H
      have FB : (fA == (a3 != (-1))) = false := by simpa using c16
      (try (have GB : decide (fA = (a3 != (-1))) = false := by simpa using c16))
      (try (have IB : (fA == (a3 != (-1))) = false := by simpa using c16))
      (try (have SE : ¬ (fA = (a3 != (-1))) := by simpa using c16))
      clear c16
      obtain rfl := Option.some.inj H
      have TE := gA.out
      have UE := hA.out
      have DC : wc.cell? ⟨dA, 0, none⟩ = some (.int .i64 lA) := (blk_cell cA.out 0).trans rfl
      have EC : wc.cell? ⟨dA, 1, none⟩ = some (.int .i64 mA) := (blk_cell cA.out 1).trans rfl
      have FC : wc.cell? ⟨dA, 2, none⟩ = some (.slice vA iA.length wA) := (blk_cell cA.out 2).trans rfl
      have GC : wc.cell? ⟨dA, 3, none⟩ = some (.slice xA jA.length yA) := (blk_cell cA.out 3).trans rfl
      have HC : wc.cell? ⟨dA, 4, none⟩ = some (.int .i64 eA) := (blk_cell cA.out 4).trans rfl
      have IC := blk_frozen cA.out 0
      have JC := blk_frozen cA.out 1
      have KC := blk_frozen cA.out 2
      have LC := blk_frozen cA.out 3
      have MC := blk_frozen cA.out 4
      go_wp2_with (first | ((with_reducible refine gate_callee (f := 97) rfl ?_); refine goesL_ (some 22) rfl rfl Try.func97 (by kernel_rfl) rfl #[.int .i64 a2, .int .i64 0, .int .i64 (wrap64 (eA - 1))] rfl q5_1 ?_; (with_reducible refine (spec_l01In.calls a2 0 (wrap64 (eA - 1)) true _ A14.out).mono ?_); rintro e w' ⟨rfl, ⟨nd, rfl⟩⟩; refine ⟨_, rfl, ?_⟩; have NC : wc.cell? ⟨bA, 0, none⟩ = some (.int .i64 nA) := (blk_cell aA.out 0).trans rfl; have OC : wc.cell? ⟨bA, 1, none⟩ = some (.int .i64 oA) := (blk_cell aA.out 1).trans rfl; have PC : wc.cell? ⟨bA, 2, none⟩ = some (.int .i64 pA) := (blk_cell aA.out 2).trans rfl; have QC : wc.cell? ⟨bA, 3, none⟩ = some (.int .i64 kA) := (blk_cell aA.out 3).trans rfl; have RC : wc.cell? ⟨bA, 4, none⟩ = some (.int .i64 qA) := (blk_cell aA.out 4).trans rfl; have SC : wc.cell? ⟨bA, 5, none⟩ = some (.int .i64 rA) := (blk_cell aA.out 5).trans rfl; have TC : wc.cell? ⟨bA, 6, none⟩ = some (.int .i64 sA) := (blk_cell aA.out 6).trans rfl; have UC : wc.cell? ⟨bA, 7, none⟩ = some (.int .i64 tA) := (blk_cell aA.out 7).trans rfl; have VC : wc.cell? ⟨bA, 8, none⟩ = some (.int .i64 uA) := (blk_cell aA.out 8).trans rfl; have WC : wc.cell? ⟨bA, 9, none⟩ = some (.bool fA) := (blk_cell aA.out 9).trans rfl; have XC := blk_frozen aA.out 0; have YC := blk_frozen aA.out 1; have ZC := blk_frozen aA.out 2; have aD := blk_frozen aA.out 3; have bD := blk_frozen aA.out 4; have cD := blk_frozen aA.out 5; have dD := blk_frozen aA.out 6; have eD := blk_frozen aA.out 7; have fD := blk_frozen aA.out 8; have gD := blk_frozen aA.out 9))
      go_ret
      exact ⟨q5_2, q5_0⟩
    ·replace c15 := Bool.eq_false_iff.mpr c15
     subst c15
     have H1 : (some false) = some r := by rw [if_neg (show ¬ (false = true) by decide)] at H; exact H
     clear H
     have H := H1
     clear H1
     obtain rfl := Option.some.inj H
     have VE := gA.out
     have WE := hA.out
     have hD : wc.cell? ⟨dA, 0, none⟩ = some (.int .i64 lA) := (blk_cell cA.out 0).trans rfl
     have iD : wc.cell? ⟨dA, 1, none⟩ = some (.int .i64 mA) := (blk_cell cA.out 1).trans rfl
     have jD : wc.cell? ⟨dA, 2, none⟩ = some (.slice vA iA.length wA) := (blk_cell cA.out 2).trans rfl
     have kD : wc.cell? ⟨dA, 3, none⟩ = some (.slice xA jA.length yA) := (blk_cell cA.out 3).trans rfl
     have lD : wc.cell? ⟨dA, 4, none⟩ = some (.int .i64 eA) := (blk_cell cA.out 4).trans rfl
     have mD := blk_frozen cA.out 0
     have nD := blk_frozen cA.out 1
     have oD := blk_frozen cA.out 2
     have pD := blk_frozen cA.out 3
     have qD := blk_frozen cA.out 4
     go_wp2_with (first | ((with_reducible refine gate_callee (f := 97) rfl ?_); refine goesL_ (some 22) rfl rfl Try.func97 (by kernel_rfl) rfl #[.int .i64 a2, .int .i64 0, .int .i64 (wrap64 (eA - 1))] rfl q5_1 ?_; (with_reducible refine (spec_l01In.calls a2 0 (wrap64 (eA - 1)) false _ A14.out).mono ?_); rintro e w' ⟨rfl, ⟨nd, rfl⟩⟩; refine ⟨_, rfl, ?_⟩))
     go_ret
     exact ⟨q5_2, q5_0⟩
   ·replace c13 := Bool.eq_false_iff.mpr c13
    subst c13
    have H1 : ((spec_l01In.f a2 (-1) (wrap64 (eA - 1))).bind fun FA => (if FA = true then (if (fA == (a3 != (-1))) = true then ((spec_l01In.f a3 (-1) (wrap64 (eA - 1))).bind fun BA => (some BA)) else (some false)) else (some false))) = some r := by rw [if_neg (show ¬ (false = true) by decide)] at H; exact H
    clear H
    have H := H1
    clear H1
    replace H := Option.bind_eq_some_iff.mp H
    obtain ⟨FA, A260, H⟩ := H
    replace H : (if FA = true then (if (fA == (a3 != (-1))) = true then ((spec_l01In.f a3 (-1) (wrap64 (eA - 1))).bind fun BA => (some BA)) else (some false)) else (some false)) = some r := H
    have A26 := Aside0.mk A260
    clear A260
    by_cases c27 : FA = true
    ·subst c27
     have H1 : (if (fA == (a3 != (-1))) = true then ((spec_l01In.f a3 (-1) (wrap64 (eA - 1))).bind fun BA => (some BA)) else (some false)) = some r := by rw [if_pos rfl] at H; exact H
     clear H
     have H := H1
     clear H1
     by_cases c28 : (fA == (a3 != (-1))) = true
     ·rw [if_pos c28] at H
      have JB : (fA == (a3 != (-1))) = true := c28
      (try (have KB : decide (fA = (a3 != (-1))) = true := by simpa using c28))
      (try (have LB : (fA == (a3 != (-1))) = true := by simpa using c28))
      clear c28
      replace H := Option.bind_eq_some_iff.mp H
      obtain ⟨BA, A290, H⟩ := H
      replace H : (some BA) = some r := H
      have A29 := Aside0.mk A290
      clear A290
      obtain rfl := Option.some.inj H
      have XE := gA.out
      have YE := hA.out
      have rD : wc.cell? ⟨dA, 0, none⟩ = some (.int .i64 lA) := (blk_cell cA.out 0).trans rfl
      have sD : wc.cell? ⟨dA, 1, none⟩ = some (.int .i64 mA) := (blk_cell cA.out 1).trans rfl
      have tD : wc.cell? ⟨dA, 2, none⟩ = some (.slice vA iA.length wA) := (blk_cell cA.out 2).trans rfl
      have uD : wc.cell? ⟨dA, 3, none⟩ = some (.slice xA jA.length yA) := (blk_cell cA.out 3).trans rfl
      have vD : wc.cell? ⟨dA, 4, none⟩ = some (.int .i64 eA) := (blk_cell cA.out 4).trans rfl
      have wD := blk_frozen cA.out 0
      have xD := blk_frozen cA.out 1
      have yD := blk_frozen cA.out 2
      have zD := blk_frozen cA.out 3
      have AD := blk_frozen cA.out 4
      go_wp2_with (first | ((with_reducible refine gate_callee (f := 97) rfl ?_); refine goesL_ (some 22) rfl rfl Try.func97 (by kernel_rfl) rfl #[.int .i64 a2, .int .i64 (-1), .int .i64 (wrap64 (eA - 1))] rfl q5_1 ?_; (with_reducible refine (spec_l01In.calls a2 (-1) (wrap64 (eA - 1)) true _ A26.out).mono ?_); rintro e w' ⟨rfl, ⟨nd, rfl⟩⟩; refine ⟨_, rfl, ?_⟩; have BD : wc.cell? ⟨bA, 0, none⟩ = some (.int .i64 nA) := (blk_cell aA.out 0).trans rfl; have CD : wc.cell? ⟨bA, 1, none⟩ = some (.int .i64 oA) := (blk_cell aA.out 1).trans rfl; have DD : wc.cell? ⟨bA, 2, none⟩ = some (.int .i64 pA) := (blk_cell aA.out 2).trans rfl; have ED : wc.cell? ⟨bA, 3, none⟩ = some (.int .i64 kA) := (blk_cell aA.out 3).trans rfl; have FD : wc.cell? ⟨bA, 4, none⟩ = some (.int .i64 qA) := (blk_cell aA.out 4).trans rfl; have GD : wc.cell? ⟨bA, 5, none⟩ = some (.int .i64 rA) := (blk_cell aA.out 5).trans rfl; have HD : wc.cell? ⟨bA, 6, none⟩ = some (.int .i64 sA) := (blk_cell aA.out 6).trans rfl; have ID : wc.cell? ⟨bA, 7, none⟩ = some (.int .i64 tA) := (blk_cell aA.out 7).trans rfl; have JD : wc.cell? ⟨bA, 8, none⟩ = some (.int .i64 uA) := (blk_cell aA.out 8).trans rfl; have KD : wc.cell? ⟨bA, 9, none⟩ = some (.bool fA) := (blk_cell aA.out 9).trans rfl; have LD := blk_frozen aA.out 0; have MD := blk_frozen aA.out 1; have ND := blk_frozen aA.out 2; have OD := blk_frozen aA.out 3; have PD := blk_frozen aA.out 4; have QD := blk_frozen aA.out 5; have RD := blk_frozen aA.out 6; have SD := blk_frozen aA.out 7; have TD := blk_frozen aA.out 8; have UD := blk_frozen aA.out 9) | (go_at_call 97; (with_reducible refine (spec_l01In.calls a3 (-1) (wrap64 (eA - 1)) BA _ A29.out).mono ?_); rintro e w' ⟨rfl, ⟨nd, rfl⟩⟩))
      go_ret
      exact ⟨q5_2, q5_0⟩
     ·rw [if_neg c28] at H
      have JB : (fA == (a3 != (-1))) = false := by simpa using c28
      (try (have KB : decide (fA = (a3 != (-1))) = false := by simpa using c28))
      (try (have LB : (fA == (a3 != (-1))) = false := by simpa using c28))
      (try (have ZE : ¬ (fA = (a3 != (-1))) := by simpa using c28))
      clear c28
      obtain rfl := Option.some.inj H
      have aF := gA.out
      have bF := hA.out
      have VD : wc.cell? ⟨dA, 0, none⟩ = some (.int .i64 lA) := (blk_cell cA.out 0).trans rfl
      have WD : wc.cell? ⟨dA, 1, none⟩ = some (.int .i64 mA) := (blk_cell cA.out 1).trans rfl
      have XD : wc.cell? ⟨dA, 2, none⟩ = some (.slice vA iA.length wA) := (blk_cell cA.out 2).trans rfl
      have YD : wc.cell? ⟨dA, 3, none⟩ = some (.slice xA jA.length yA) := (blk_cell cA.out 3).trans rfl
      have ZD : wc.cell? ⟨dA, 4, none⟩ = some (.int .i64 eA) := (blk_cell cA.out 4).trans rfl
      have aE := blk_frozen cA.out 0
      have bE := blk_frozen cA.out 1
      have cE := blk_frozen cA.out 2
      have dE := blk_frozen cA.out 3
      have eE := blk_frozen cA.out 4
      go_wp2_with (first | ((with_reducible refine gate_callee (f := 97) rfl ?_); refine goesL_ (some 22) rfl rfl Try.func97 (by kernel_rfl) rfl #[.int .i64 a2, .int .i64 (-1), .int .i64 (wrap64 (eA - 1))] rfl q5_1 ?_; (with_reducible refine (spec_l01In.calls a2 (-1) (wrap64 (eA - 1)) true _ A26.out).mono ?_); rintro e w' ⟨rfl, ⟨nd, rfl⟩⟩; refine ⟨_, rfl, ?_⟩; have fE : wc.cell? ⟨bA, 0, none⟩ = some (.int .i64 nA) := (blk_cell aA.out 0).trans rfl; have gE : wc.cell? ⟨bA, 1, none⟩ = some (.int .i64 oA) := (blk_cell aA.out 1).trans rfl; have hE : wc.cell? ⟨bA, 2, none⟩ = some (.int .i64 pA) := (blk_cell aA.out 2).trans rfl; have iE : wc.cell? ⟨bA, 3, none⟩ = some (.int .i64 kA) := (blk_cell aA.out 3).trans rfl; have jE : wc.cell? ⟨bA, 4, none⟩ = some (.int .i64 qA) := (blk_cell aA.out 4).trans rfl; have kE : wc.cell? ⟨bA, 5, none⟩ = some (.int .i64 rA) := (blk_cell aA.out 5).trans rfl; have lE : wc.cell? ⟨bA, 6, none⟩ = some (.int .i64 sA) := (blk_cell aA.out 6).trans rfl; have mE : wc.cell? ⟨bA, 7, none⟩ = some (.int .i64 tA) := (blk_cell aA.out 7).trans rfl; have nE : wc.cell? ⟨bA, 8, none⟩ = some (.int .i64 uA) := (blk_cell aA.out 8).trans rfl; have oE : wc.cell? ⟨bA, 9, none⟩ = some (.bool fA) := (blk_cell aA.out 9).trans rfl; have pE := blk_frozen aA.out 0; have qE := blk_frozen aA.out 1; have rE := blk_frozen aA.out 2; have sE := blk_frozen aA.out 3; have tE := blk_frozen aA.out 4; have uE := blk_frozen aA.out 5; have vE := blk_frozen aA.out 6; have wE := blk_frozen aA.out 7; have xE := blk_frozen aA.out 8; have yE := blk_frozen aA.out 9))
      go_ret
      exact ⟨q5_2, q5_0⟩
    ·replace c27 := Bool.eq_false_iff.mpr c27
     subst c27
     have H1 : (some false) = some r := by rw [if_neg (show ¬ (false = true) by decide)] at H; exact H
     clear H
     have H := H1
     clear H1
     obtain rfl := Option.some.inj H
     have cF := gA.out
     have dF := hA.out
     have zE : wc.cell? ⟨dA, 0, none⟩ = some (.int .i64 lA) := (blk_cell cA.out 0).trans rfl
     have AE : wc.cell? ⟨dA, 1, none⟩ = some (.int .i64 mA) := (blk_cell cA.out 1).trans rfl
     have BE : wc.cell? ⟨dA, 2, none⟩ = some (.slice vA iA.length wA) := (blk_cell cA.out 2).trans rfl
     have CE : wc.cell? ⟨dA, 3, none⟩ = some (.slice xA jA.length yA) := (blk_cell cA.out 3).trans rfl
     have DE : wc.cell? ⟨dA, 4, none⟩ = some (.int .i64 eA) := (blk_cell cA.out 4).trans rfl
     have EE := blk_frozen cA.out 0
     have FE := blk_frozen cA.out 1
     have GE := blk_frozen cA.out 2
     have HE := blk_frozen cA.out 3
     have IE := blk_frozen cA.out 4
     go_wp2_with (first | ((with_reducible refine gate_callee (f := 97) rfl ?_); refine goesL_ (some 22) rfl rfl Try.func97 (by kernel_rfl) rfl #[.int .i64 a2, .int .i64 (-1), .int .i64 (wrap64 (eA - 1))] rfl q5_1 ?_; (with_reducible refine (spec_l01In.calls a2 (-1) (wrap64 (eA - 1)) false _ A26.out).mono ?_); rintro e w' ⟨rfl, ⟨nd, rfl⟩⟩; refine ⟨_, rfl, ?_⟩))
     go_ret
     exact ⟨q5_2, q5_0⟩

end Go.Proofs.Ytndkfjecipjiaaa.PFnExactCrewOk
