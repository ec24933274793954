-- Written by the session's own patched copy of the printer (wip/patch_print.py).
import Derived.Test.YtjikobdblohphaaPFnExactLiStepx0
import Derived.Test.YtjikobdblohphaaPFnExactLiStepx1
namespace Go.Proofs.Ytjikobdblohphaa.PFnExactLiStep
open Go.RowKit Go.Proofs.YtjikobdblohphaaW.PrintWords Go.Proofs.YtjikobdblohphaaW.PrintLast Go.Proofs.YtjikobdblohphaaW.PrintMore
attribute [local go_sem] max2_int min2_int max_two min_two max_three min_three max_four min_four   -- for this text's walks alone
set_option linter.unusedVariables false
set_option linter.unusedSimpArgs false

theorem Z2a {w : World} {g : Nat} {t : TypeId} {cs : Array Value} (h : w.heap[g]? = some (.cells cs t (0, 0))) (i : Nat) (v : Value) (e : cs[i]? = some v := by rfl) : w.cell? ⟨g, i, none⟩ = some v := (blk_cell h i).trans e
theorem Z2c {p : Prop} (h : p) : Aside0 p := ⟨h⟩
theorem Z2b {w : World} {g : Nat} {t : TypeId} {cs : Array Value} (h : w.heap[g]? = some (.cells cs t (0, 0))) (i : Nat) : w.frozen? ⟨g, i, none⟩ = false := blk_frozen h i
theorem Z2d {p : Prop} (h : p := by repeat (first | (with_reducible first | exact HB.out | apply below_alloc | apply pw_below_drewN | apply below_drew1 | refine below_set ?_ SH.out) | exact HB.out)) : p := h
theorem Z2f {p : Prop} (h : p := by (with_reducible repeat (first | refine blk_drewN ?_ _ | refine blk_drew ?_ | refine blk_alloc ?_ _)); exact aA.out) : p := h
theorem Z2e {p : Prop} (h : p := by first | rfl | (simp [errW_none, errW_some] <;> rfl) | (simp [*, errW_none, errW_some] <;> rfl)) : p := h
theorem Z2g {p : Prop} (h : p := by first | rfl | (simp; done) | (simp [*]; done)) : p := h
theorem Z2i {p : Prop} (h : p := by (try simp only [List.map_toArray, List.map_cons, List.map_nil]); first | done | rfl | (simp only [List.length_drop, List.length_take]; rfl)) : p := h
theorem Z2j {p : Prop} (h : p := by repeat (first | (with_reducible first | exact HB.out | apply below_alloc | apply pw_below_drewN | apply below_drew1) | exact HB.out)) : p := h
theorem Z2h {p : Prop} (h : p := by first | omega | exact Nat.le_refl _) : p := h
/-! ### spec_l05May: function 44 -/
mutual
def spec_l05May.j0 : Nat → Int → Bool → Int → Int → Int → Int → Int → Int → Int → Int → Int → Bool → Option (Bool)
 | 0, _, _, _, _, _, _, _, _, _, _, _, _ => none
 | k + 1, x0, x39, nA, qA, pA, lA, rA, mA, oA, sA, tA, uA => if x39 = true then (some false) else (if lA = 0 then (some true) else (if lA = 1 then (spec_l05May.j1 k x0 true nA qA pA lA rA mA oA sA tA uA) else (spec_l05May.j1 k x0 (lA == 2) nA qA pA lA rA mA oA sA tA uA)))
def spec_l05May.j1 : Nat → Int → Bool → Int → Int → Int → Int → Int → Int → Int → Int → Int → Bool → Option (Bool)
 | 0, _, _, _, _, _, _, _, _, _, _, _, _ => none
 | k + 1, x0, x44, nA, qA, pA, lA, rA, mA, oA, sA, tA, uA => if x44 = true then ((spec_l05There.f x0 mA).bind fun LH => (some LH)) else (if nA = 3 then (some false) else (if lA = 3 then ((spec_l05There.f x0 mA).bind fun MH => (if MH = true then ((spec_l05Link.f x0 oA).bind fun NH => (some NH)) else (some false))) else (if lA ≥ 4 then (spec_l05May.j2 k x0 (decide (lA ≤ 6)) nA qA pA lA rA mA oA sA tA uA) else (spec_l05May.j2 k x0 false nA qA pA lA rA mA oA sA tA uA))))
def spec_l05May.j2 : Nat → Int → Bool → Int → Int → Int → Int → Int → Int → Int → Int → Int → Bool → Option (Bool)
 | 0, _, _, _, _, _, _, _, _, _, _, _, _ => none
 | k + 1, x0, x75, nA, qA, pA, lA, rA, mA, oA, sA, tA, uA => if x75 = true then (if nA = 1 then ((spec_l01In.f pA 0 (wrap64 (x0 - 1))).bind fun OH => (if OH = true then ((spec_l05Link.f x0 mA).bind fun PH => (some PH)) else (some false))) else (some false)) else (if lA = 7 then (if nA = 2 then ((spec_l05There.f x0 mA).bind fun QH => (if QH = true then ((spec_l05Link.f x0 oA).bind fun RH => (some RH)) else (some false))) else (some false)) else (some false))
end
def spec_l05May.f (k : Nat) (a0 : Int) (bA : Int) (hA : Int) (fA : Int) (cA : Int) (dA : Int) (eA : Int) (gA : Int) (iA : Int) (jA : Int) (kA : Bool) : Option (Bool) := if kA = true then (spec_l05May.j0 k a0 true bA hA fA cA dA eA gA iA jA kA) else ((spec_l03Size.f a0).bind fun TE => (if TE = true then (if bA < 1 then (spec_l05May.j0 k a0 true bA hA fA cA dA eA gA iA jA kA) else (if bA > 3 then (spec_l05May.j0 k a0 true bA hA fA cA dA eA gA iA jA kA) else (if dA < 0 then (spec_l05May.j0 k a0 true bA hA fA cA dA eA gA iA jA kA) else (if dA > (wrap64 (2 * a0)) then (spec_l05May.j0 k a0 true bA hA fA cA dA eA gA iA jA kA) else (spec_l05May.j0 k a0 ((Int.tmod dA 2) != 0) bA hA fA cA dA eA gA iA jA kA))))) else (spec_l05May.j0 k a0 true bA hA fA cA dA eA gA iA jA kA)))
theorem spec_l05May.mono_l : ∀ k, (∀ y0 y1 y2 y3 y4 y5 y6 y7 y8 y9 y10 y11, LeO (spec_l05May.j0 k y0 y1 y2 y3 y4 y5 y6 y7 y8 y9 y10 y11) (spec_l05May.j0 (k + 1) y0 y1 y2 y3 y4 y5 y6 y7 y8 y9 y10 y11)) ∧ (∀ y0 y1 y2 y3 y4 y5 y6 y7 y8 y9 y10 y11, LeO (spec_l05May.j1 k y0 y1 y2 y3 y4 y5 y6 y7 y8 y9 y10 y11) (spec_l05May.j1 (k + 1) y0 y1 y2 y3 y4 y5 y6 y7 y8 y9 y10 y11)) ∧ (∀ y0 y1 y2 y3 y4 y5 y6 y7 y8 y9 y10 y11, LeO (spec_l05May.j2 k y0 y1 y2 y3 y4 y5 y6 y7 y8 y9 y10 y11) (spec_l05May.j2 (k + 1) y0 y1 y2 y3 y4 y5 y6 y7 y8 y9 y10 y11))
 | 0 => ⟨fun _ _ _ _ _ _ _ _ _ _ _ _ r h => by simp [spec_l05May.j0] at h, fun _ _ _ _ _ _ _ _ _ _ _ _ r h => by simp [spec_l05May.j1] at h, fun _ _ _ _ _ _ _ _ _ _ _ _ r h => by simp [spec_l05May.j2] at h⟩
 | k + 1 => by
  obtain ⟨ih0, ih1, ih2⟩ := spec_l05May.mono_l k
  refine ⟨?_, ?_, ?_⟩
  ·intro y0 y1 y2 y3 y4 y5 y6 y7 y8 y9 y10 y11
   unfold spec_l05May.j0
   repeat' first
   | (with_reducible exact ih0 _ _ _ _ _ _ _ _ _ _ _ _)
   | (with_reducible exact ih1 _ _ _ _ _ _ _ _ _ _ _ _)
   | (with_reducible exact ih2 _ _ _ _ _ _ _ _ _ _ _ _)
   | (with_reducible exact LeO.refl _)
   | (with_reducible exact LeO.none _)
   | (with_reducible refine LeO.ite ?_ ?_)
   | (with_reducible refine LeO.bind ?_ (fun _ => ?_))
   | exact ih0 _ _ _ _ _ _ _ _ _ _ _ _
   | exact ih1 _ _ _ _ _ _ _ _ _ _ _ _
   | exact ih2 _ _ _ _ _ _ _ _ _ _ _ _
   | exact LeO.none _
   | refine LeO.ite ?_ ?_
   | refine LeO.bind ?_ (fun _ => ?_)
  ·intro y0 y1 y2 y3 y4 y5 y6 y7 y8 y9 y10 y11
   unfold spec_l05May.j1
   repeat' first
   | (with_reducible exact ih0 _ _ _ _ _ _ _ _ _ _ _ _)
   | (with_reducible exact ih1 _ _ _ _ _ _ _ _ _ _ _ _)
   | (with_reducible exact ih2 _ _ _ _ _ _ _ _ _ _ _ _)
   | (with_reducible exact LeO.refl _)
   | (with_reducible exact LeO.none _)
   | (with_reducible refine LeO.ite ?_ ?_)
   | (with_reducible refine LeO.bind ?_ (fun _ => ?_))
   | exact ih0 _ _ _ _ _ _ _ _ _ _ _ _
   | exact ih1 _ _ _ _ _ _ _ _ _ _ _ _
   | exact ih2 _ _ _ _ _ _ _ _ _ _ _ _
   | exact LeO.none _
   | refine LeO.ite ?_ ?_
   | refine LeO.bind ?_ (fun _ => ?_)
  ·intro y0 y1 y2 y3 y4 y5 y6 y7 y8 y9 y10 y11
   unfold spec_l05May.j2
   repeat' first
   | (with_reducible exact ih0 _ _ _ _ _ _ _ _ _ _ _ _)
   | (with_reducible exact ih1 _ _ _ _ _ _ _ _ _ _ _ _)
   | (with_reducible exact ih2 _ _ _ _ _ _ _ _ _ _ _ _)
   | (with_reducible exact LeO.refl _)
   | (with_reducible exact LeO.none _)
   | (with_reducible refine LeO.ite ?_ ?_)
   | (with_reducible refine LeO.bind ?_ (fun _ => ?_))
   | exact ih0 _ _ _ _ _ _ _ _ _ _ _ _
   | exact ih1 _ _ _ _ _ _ _ _ _ _ _ _
   | exact ih2 _ _ _ _ _ _ _ _ _ _ _ _
   | exact LeO.none _
   | refine LeO.ite ?_ ?_
   | refine LeO.bind ?_ (fun _ => ?_)
theorem spec_l05May.mono : ∀ a0 a1 a2 a3 a4 a5 a6 a7 a8 a9 a10 k, LeO (spec_l05May.f k a0 a1 a2 a3 a4 a5 a6 a7 a8 a9 a10) (spec_l05May.f (k + 1) a0 a1 a2 a3 a4 a5 a6 a7 a8 a9 a10) := by
 intro a0 a1 a2 a3 a4 a5 a6 a7 a8 a9 a10 k
 obtain ⟨ih0, ih1, ih2⟩ := spec_l05May.mono_l k
 unfold spec_l05May.f
 repeat' first
   | (with_reducible exact ih0 _ _ _ _ _ _ _ _ _ _ _ _)
   | (with_reducible exact ih1 _ _ _ _ _ _ _ _ _ _ _ _)
   | (with_reducible exact ih2 _ _ _ _ _ _ _ _ _ _ _ _)
   | (with_reducible exact LeO.refl _)
   | (with_reducible exact LeO.none _)
   | (with_reducible refine LeO.ite ?_ ?_)
   | (with_reducible refine LeO.bind ?_ (fun _ => ?_))
   | exact ih0 _ _ _ _ _ _ _ _ _ _ _ _
   | exact ih1 _ _ _ _ _ _ _ _ _ _ _ _
   | exact ih2 _ _ _ _ _ _ _ _ _ _ _ _
   | exact LeO.none _
   | refine LeO.ite ?_ ?_
   | refine LeO.bind ?_ (fun _ => ?_)
set_option maxHeartbeats 8000000 in
set_option maxRecDepth 100000 in
theorem spec_l05May.calls (k : Nat) (a0 : Int) (bA : Int) (hA : Int) (fA : Int) (cA : Int) (dA : Int) (eA : Int) (gA : Int) (iA : Int) (jA : Int) (kA : Bool) (r : Bool) (w : World) (h : spec_l05May.f k a0 bA hA fA cA dA eA gA iA jA kA = some r) :
  Calls Try.prog 44 #[.int .i64 a0, .agg #[.int .i64 bA, .int .i64 hA, .int .i64 fA, .int .i64 cA, .int .i64 dA, .int .i64 eA, .int .i64 gA, .int .i64 iA, .int .i64 jA, .bool kA]] w fun e w' => e = .returned (.bool r) ∧ Below w.heap.size w w' := by
 have hu23 := Try.underlying23
 have HB := Z2c (Below.refl w.heap.size w)
 have H : (if kA = true then (spec_l05May.j0 k a0 true bA hA fA cA dA eA gA iA jA kA) else ((spec_l03Size.f a0).bind fun TE => (if TE = true then (if bA < 1 then (spec_l05May.j0 k a0 true bA hA fA cA dA eA gA iA jA kA) else (if bA > 3 then (spec_l05May.j0 k a0 true bA hA fA cA dA eA gA iA jA kA) else (if dA < 0 then (spec_l05May.j0 k a0 true bA hA fA cA dA eA gA iA jA kA) else (if dA > (wrap64 (2 * a0)) then (spec_l05May.j0 k a0 true bA hA fA cA dA eA gA iA jA kA) else (spec_l05May.j0 k a0 ((Int.tmod dA 2) != 0) bA hA fA cA dA eA gA iA jA kA))))) else (spec_l05May.j0 k a0 true bA hA fA cA dA eA gA iA jA kA)))) = some r := h
 clear h
 have HC3 := Z2c H
 clear H
 go_enter Try.func44, Try.ntmps44
 go_upto_region 1 with (first | ((with_reducible refine gate_dst (N := 3) rfl ?_); refine box_event ?hg (N := 3) ?hd (cs := #[.int .i64 bA, .int .i64 hA, .int .i64 fA, .int .i64 cA, .int .i64 dA, .int .i64 eA, .int .i64 gA, .int .i64 iA, .int .i64 jA, .bool kA]) (t := 23) ?hr ?_; (case hd => rfl); (case hg => rfl); (case hr => first | (go_simp; done) | (go_simp; rfl)); intro RC hg w4 hbox hb; have JK := Z2c (below_step Z2j hb); have KK := Z2c (hbox); have LK := Z2c ((by rw [hg]; exact (below_size Z2j) : w.heap.size ≤ RC)); have MK := Z2c ((by rw [hg]; exact (below_size Z2j) : w.heap.size ≤ RC)); clear HB; have HB := JK; have aA := KK; have NK := LK; have SH := MK; clear JK KK LK MK; clear hb hbox hg))
 (try simp only [Act.put, List.setIfInBounds_toArray, List.set_cons_zero, List.set_cons_succ])
 go_cut [39] (fun v39 wc => ∃ (kq : Nat) (nD : Bool), v39 = .bool nD ∧ Aside0 (spec_l05May.j0 kq a0 nD bA hA fA cA dA eA gA iA jA kA = some r) ∧ Aside0 (kq ≤ k) ∧ Aside0 (wc.heap[RC]? = some (.cells #[.int .i64 bA, .int .i64 hA, .int .i64 fA, .int .i64 cA, .int .i64 dA, .int .i64 eA, .int .i64 gA, .int .i64 iA, .int .i64 jA, .bool kA] 23 (0, 0))) ∧ Aside0 (Below w.heap.size w wc))
 case first =>
  have H := HC3.out
  clear HC3
  by_cases c5 : kA = true
  ·subst c5
   rw [if_pos rfl] at H
   have H' := Z2c H
   clear H
   have TC := Z2a aA.out 0 (.int .i64 bA)
   have UC := Z2a aA.out 1 (.int .i64 hA)
   have VC := Z2a aA.out 2 (.int .i64 fA)
   have WC := Z2a aA.out 3 (.int .i64 cA)
   have XC := Z2a aA.out 4 (.int .i64 dA)
   have YC := Z2a aA.out 5 (.int .i64 eA)
   have ZC := Z2a aA.out 6 (.int .i64 gA)
   have aD := Z2a aA.out 7 (.int .i64 iA)
   have bD := Z2a aA.out 8 (.int .i64 jA)
   have cD := Z2a aA.out 9 (.bool true)
   have dD := Z2b aA.out 0
   have eD := Z2b aA.out 1
   have fD := Z2b aA.out 2
   have gD := Z2b aA.out 3
   have hD := Z2b aA.out 4
   have iD := Z2b aA.out 5
   have jD := Z2b aA.out 6
   have kD := Z2b aA.out 7
   have lD := Z2b aA.out 8
   have mD := Z2b aA.out 9
   go_wp2
   go_meet
   case rel => exact ⟨_, (true), Z2g, H', ⟨Z2h⟩, ⟨Z2f⟩, ⟨Z2d⟩⟩
  ·replace c5 := Bool.eq_false_iff.mpr c5
   subst c5
   rw [if_neg (show ¬ (false = true) by decide)] at H
   replace H := Option.bind_eq_some_iff.mp H
   obtain ⟨TE, A70, H⟩ := H
   (try dsimp only at H)
   have A7 := Z2c A70
   clear A70
   by_cases c8 : TE = true
   ·subst c8
    rw [if_pos rfl] at H
    by_cases c9 : bA < 1
    ·rw [if_pos c9] at H
     have SC : decide (bA < 1) = true := decide_eq_true c9
     clear c9
     (first | rw [SC] | (simp only [i64_w, i32_w]; rw [SC]) | skip)
     have H' := Z2c H
     clear H
     have xA := Z2a aA.out 0 (.int .i64 bA)
     have yA := Z2a aA.out 1 (.int .i64 hA)
     have zA := Z2a aA.out 2 (.int .i64 fA)
     have AA := Z2a aA.out 3 (.int .i64 cA)
     have BA := Z2a aA.out 4 (.int .i64 dA)
     have CA := Z2a aA.out 5 (.int .i64 eA)
     have DA := Z2a aA.out 6 (.int .i64 gA)
     have EA := Z2a aA.out 7 (.int .i64 iA)
     have FA := Z2a aA.out 8 (.int .i64 jA)
     have GA := Z2a aA.out 9 (.bool false)
     have IA := Z2b aA.out 0
     have JA := Z2b aA.out 1
     have KA := Z2b aA.out 2
     have LA := Z2b aA.out 3
     have MA := Z2b aA.out 4
     have NA := Z2b aA.out 5
     have OA := Z2b aA.out 6
     have PA := Z2b aA.out 7
     have QA := Z2b aA.out 8
     have RA := Z2b aA.out 9
     go_wp2_with (first | (go_at_call 41; (with_reducible refine (spec_l03Size.calls a0 true _ A7.out).mono ?_); rintro e w' ⟨rfl, ⟨nd, rfl⟩⟩))
     go_meet
     case rel => exact ⟨_, (true), Z2g, H', ⟨Z2h⟩, ⟨Z2f⟩, ⟨Z2d⟩⟩
    ·rw [if_neg c9] at H
     have SC : decide (bA < 1) = false := decide_eq_false c9
     clear c9
     (first | rw [SC] | (simp only [i64_w, i32_w]; rw [SC]) | skip)
     by_cases c11 : bA > 3
     ·rw [if_pos c11] at H
      have oD : decide (3 < bA) = true := decide_eq_true c11
      clear c11
      have H' := Z2c H
      clear H
      have SA := Z2a aA.out 0 (.int .i64 bA)
      have TA := Z2a aA.out 1 (.int .i64 hA)
      have UA := Z2a aA.out 2 (.int .i64 fA)
      have VA := Z2a aA.out 3 (.int .i64 cA)
      have WA := Z2a aA.out 4 (.int .i64 dA)
      have XA := Z2a aA.out 5 (.int .i64 eA)
      have YA := Z2a aA.out 6 (.int .i64 gA)
      have ZA := Z2a aA.out 7 (.int .i64 iA)
      have aB := Z2a aA.out 8 (.int .i64 jA)
      have bB := Z2a aA.out 9 (.bool false)
      have cB := Z2b aA.out 0
      have dB := Z2b aA.out 1
      have eB := Z2b aA.out 2
      have fB := Z2b aA.out 3
      have gB := Z2b aA.out 4
      have hB := Z2b aA.out 5
      have iB := Z2b aA.out 6
      have jB := Z2b aA.out 7
      have kB := Z2b aA.out 8
      have lB := Z2b aA.out 9
      go_wp2_with (first | (go_at_call 41; (with_reducible refine (spec_l03Size.calls a0 true _ A7.out).mono ?_); rintro e w' ⟨rfl, ⟨nd, rfl⟩⟩))
      go_meet
      case rel => exact ⟨_, (true), Z2g, H', ⟨Z2h⟩, ⟨Z2f⟩, ⟨Z2d⟩⟩
     ·rw [if_neg c11] at H
      have oD : decide (3 < bA) = false := decide_eq_false c11
      clear c11
      by_cases c13 : dA < 0
      ·rw [if_pos c13] at H
       have pD : decide (dA < 0) = true := decide_eq_true c13
       clear c13
       have H' := Z2c H
       clear H
       have mB := Z2a aA.out 0 (.int .i64 bA)
       have nB := Z2a aA.out 1 (.int .i64 hA)
       have oB := Z2a aA.out 2 (.int .i64 fA)
       have pB := Z2a aA.out 3 (.int .i64 cA)
       have qB := Z2a aA.out 4 (.int .i64 dA)
       have rB := Z2a aA.out 5 (.int .i64 eA)
       have sB := Z2a aA.out 6 (.int .i64 gA)
       have tB := Z2a aA.out 7 (.int .i64 iA)
       have uB := Z2a aA.out 8 (.int .i64 jA)
       have vB := Z2a aA.out 9 (.bool false)
       have wB := Z2b aA.out 0
       have xB := Z2b aA.out 1
       have yB := Z2b aA.out 2
       have zB := Z2b aA.out 3
       have AB := Z2b aA.out 4
       have BB := Z2b aA.out 5
       have CB := Z2b aA.out 6
       have DB := Z2b aA.out 7
       have EB := Z2b aA.out 8
       have FB := Z2b aA.out 9
       go_wp2_with (first | (go_at_call 41; (with_reducible refine (spec_l03Size.calls a0 true _ A7.out).mono ?_); rintro e w' ⟨rfl, ⟨nd, rfl⟩⟩))
       go_meet
       case rel => exact ⟨_, (true), Z2g, H', ⟨Z2h⟩, ⟨Z2f⟩, ⟨Z2d⟩⟩
      ·rw [if_neg c13] at H
       have pD : decide (dA < 0) = false := decide_eq_false c13
       clear c13
       by_cases c15 : dA > (wrap64 (2 * a0))
       ·rw [if_pos c15] at H
        have qD : decide ((wrap64 (2 * a0)) < dA) = true := decide_eq_true c15
        clear c15
        have H' := Z2c H
        clear H
        have GB := Z2a aA.out 0 (.int .i64 bA)
        have IB := Z2a aA.out 1 (.int .i64 hA)
        have JB := Z2a aA.out 2 (.int .i64 fA)
        have KB := Z2a aA.out 3 (.int .i64 cA)
        have LB := Z2a aA.out 4 (.int .i64 dA)
        have MB := Z2a aA.out 5 (.int .i64 eA)
        have NB := Z2a aA.out 6 (.int .i64 gA)
        have OB := Z2a aA.out 7 (.int .i64 iA)
        have PB := Z2a aA.out 8 (.int .i64 jA)
        have QB := Z2a aA.out 9 (.bool false)
        have RB := Z2b aA.out 0
        have SB := Z2b aA.out 1
        have TB := Z2b aA.out 2
        have UB := Z2b aA.out 3
        have VB := Z2b aA.out 4
        have WB := Z2b aA.out 5
        have XB := Z2b aA.out 6
        have YB := Z2b aA.out 7
        have ZB := Z2b aA.out 8
        have aC := Z2b aA.out 9
        go_wp2_with (first | (go_at_call 41; (with_reducible refine (spec_l03Size.calls a0 true _ A7.out).mono ?_); rintro e w' ⟨rfl, ⟨nd, rfl⟩⟩))
        go_meet
        case rel => exact ⟨_, (true), Z2g, H', ⟨Z2h⟩, ⟨Z2f⟩, ⟨Z2d⟩⟩
       ·rw [if_neg c15] at H
        have qD : decide ((wrap64 (2 * a0)) < dA) = false := decide_eq_false c15
        clear c15
        have H' := Z2c H
        clear H
        have bC := Z2a aA.out 0 (.int .i64 bA)
        have cC := Z2a aA.out 1 (.int .i64 hA)
        have dC := Z2a aA.out 2 (.int .i64 fA)
        have eC := Z2a aA.out 3 (.int .i64 cA)
        have fC := Z2a aA.out 4 (.int .i64 dA)
        have gC := Z2a aA.out 5 (.int .i64 eA)
        have hC := Z2a aA.out 6 (.int .i64 gA)
        have iC := Z2a aA.out 7 (.int .i64 iA)
        have jC := Z2a aA.out 8 (.int .i64 jA)
        have kC := Z2a aA.out 9 (.bool false)
        have lC := Z2b aA.out 0
        have mC := Z2b aA.out 1
        have nC := Z2b aA.out 2
        have oC := Z2b aA.out 3
        have pC := Z2b aA.out 4
        have qC := Z2b aA.out 5
        have rC := Z2b aA.out 6
        have sC := Z2b aA.out 7
        have tC := Z2b aA.out 8
        have uC := Z2b aA.out 9
        go_wp2_with (first | (go_at_call 41; (with_reducible refine (spec_l03Size.calls a0 true _ A7.out).mono ?_); rintro e w' ⟨rfl, ⟨nd, rfl⟩⟩))
        go_meet
        case rel => exact ⟨_, (((Int.tmod dA 2) != 0)), Z2g, H', ⟨Z2h⟩, ⟨Z2f⟩, ⟨Z2d⟩⟩
   ·replace c8 := Bool.eq_false_iff.mpr c8
    subst c8
    rw [if_neg (show ¬ (false = true) by decide)] at H
    have H' := Z2c H
    clear H
    have vC := Z2a aA.out 0 (.int .i64 bA)
    have wC := Z2a aA.out 1 (.int .i64 hA)
    have xC := Z2a aA.out 2 (.int .i64 fA)
    have yC := Z2a aA.out 3 (.int .i64 cA)
    have zC := Z2a aA.out 4 (.int .i64 dA)
    have AC := Z2a aA.out 5 (.int .i64 eA)
    have BC := Z2a aA.out 6 (.int .i64 gA)
    have CC := Z2a aA.out 7 (.int .i64 iA)
    have DC := Z2a aA.out 8 (.int .i64 jA)
    have EC := Z2a aA.out 9 (.bool false)
    have FC := Z2b aA.out 0
    have GC := Z2b aA.out 1
    have HC := Z2b aA.out 2
    have IC := Z2b aA.out 3
    have JC := Z2b aA.out 4
    have KC := Z2b aA.out 5
    have LC := Z2b aA.out 6
    have MC := Z2b aA.out 7
    have NC := Z2b aA.out 8
    have OC := Z2b aA.out 9
    go_wp2_with (first | (go_at_call 41; (with_reducible refine (spec_l03Size.calls a0 false _ A7.out).mono ?_); rintro e w' ⟨rfl, ⟨nd, rfl⟩⟩))
    go_meet
    case rel => exact ⟨_, (true), Z2g, H', ⟨Z2h⟩, ⟨Z2f⟩, ⟨Z2d⟩⟩
 case rest =>
  clear HC3
  (try clear c1); (try clear p2); (try clear c4); (try clear c5); (try clear p6); (try clear c8); (try clear c9); (try clear SC); (try clear c11); (try clear oD); (try clear c13); (try clear pD); (try clear c15); (try clear qD); (try clear xA); (try clear yA); (try clear zA); (try clear AA); (try clear BA); (try clear CA); (try clear DA); (try clear EA); (try clear FA); (try clear GA); (try clear SA); (try clear TA); (try clear UA); (try clear VA); (try clear WA); (try clear XA); (try clear YA); (try clear ZA); (try clear aB); (try clear bB); (try clear mB); (try clear nB); (try clear oB); (try clear pB); (try clear qB); (try clear rB); (try clear sB); (try clear tB); (try clear uB); (try clear vB); (try clear GB); (try clear IB); (try clear JB); (try clear KB); (try clear LB); (try clear MB); (try clear NB); (try clear OB); (try clear PB); (try clear QB); (try clear bC); (try clear cC); (try clear dC); (try clear eC); (try clear fC); (try clear gC); (try clear hC); (try clear iC); (try clear jC); (try clear kC); (try clear vC); (try clear wC); (try clear xC); (try clear yC); (try clear zC); (try clear AC); (try clear BC); (try clear CC); (try clear DC); (try clear EC); (try clear TC); (try clear UC); (try clear VC); (try clear WC); (try clear XC); (try clear YC); (try clear ZC); (try clear aD); (try clear bD); (try clear cD); (try clear IA); (try clear JA); (try clear KA); (try clear LA); (try clear MA); (try clear NA); (try clear OA); (try clear PA); (try clear QA); (try clear RA); (try clear cB); (try clear dB); (try clear eB); (try clear fB); (try clear gB); (try clear hB); (try clear iB); (try clear jB); (try clear kB); (try clear lB); (try clear wB); (try clear xB); (try clear yB); (try clear zB); (try clear AB); (try clear BB); (try clear CB); (try clear DB); (try clear EB); (try clear FB); (try clear RB); (try clear SB); (try clear TB); (try clear UB); (try clear VB); (try clear WB); (try clear XB); (try clear YB); (try clear ZB); (try clear aC); (try clear lC); (try clear mC); (try clear nC); (try clear oC); (try clear pC); (try clear qC); (try clear rC); (try clear sC); (try clear tC); (try clear uC); (try clear FC); (try clear GC); (try clear HC); (try clear IC); (try clear JC); (try clear KC); (try clear LC); (try clear MC); (try clear NC); (try clear OC); (try clear dD); (try clear eD); (try clear fD); (try clear gD); (try clear hD); (try clear iD); (try clear jD); (try clear kD); (try clear lD); (try clear mD)
  obtain ⟨kq, nD, rfl, HA, HJ2, aA, HB⟩ := hcut
  cases kq with
  | zero => exact absurd HA.out (by simp [spec_l05May.j0])
  | succ kj2 =>
   have H := HA.out
   clear HA
   simp only [spec_l05May.j0] at H
   by_cases c19 : nD = true
   ·subst c19
    rw [if_pos rfl] at H
    obtain rfl := Option.some.inj H
    go_wp2
    go_ret
    exact ⟨Z2e, Z2d⟩
   ·replace c19 := Bool.eq_false_iff.mpr c19
    subst c19
    rw [if_neg (show ¬ (false = true) by decide)] at H
    by_cases c20 : cA = 0
    ·rw [if_pos c20] at H
     have UE : (cA == 0) = true := beq_iff_eq.mpr c20
     have VE : (cA != 0) = false := bne_eq_false_iff_eq.mpr c20
     clear c20
     obtain rfl := Option.some.inj H
     have rD := Z2a aA.out 0 (.int .i64 bA)
     have sD := Z2a aA.out 1 (.int .i64 hA)
     have tD := Z2a aA.out 2 (.int .i64 fA)
     have uD := Z2a aA.out 3 (.int .i64 cA)
     have vD := Z2a aA.out 4 (.int .i64 dA)
     have wD := Z2a aA.out 5 (.int .i64 eA)
     have xD := Z2a aA.out 6 (.int .i64 gA)
     have yD := Z2a aA.out 7 (.int .i64 iA)
     have zD := Z2a aA.out 8 (.int .i64 jA)
     have AD := Z2a aA.out 9 (.bool kA)
     have BD := Z2b aA.out 0
     have CD := Z2b aA.out 1
     have DD := Z2b aA.out 2
     have ED := Z2b aA.out 3
     have FD := Z2b aA.out 4
     have GD := Z2b aA.out 5
     have HD := Z2b aA.out 6
     have ID := Z2b aA.out 7
     have JD := Z2b aA.out 8
     have KD := Z2b aA.out 9
     go_wp2
     go_ret
     exact ⟨Z2e, Z2d⟩
    ·rw [if_neg c20] at H
     have UE : (cA == 0) = false := beq_eq_false_iff_ne.mpr c20
     have VE : (cA != 0) = true := bne_iff_ne.mpr c20
     have HC22 := Z2c H
     clear H
     have LD := Z2a aA.out 0 (.int .i64 bA)
     have MD := Z2a aA.out 1 (.int .i64 hA)
     have ND := Z2a aA.out 2 (.int .i64 fA)
     have OD := Z2a aA.out 3 (.int .i64 cA)
     have PD := Z2a aA.out 4 (.int .i64 dA)
     have QD := Z2a aA.out 5 (.int .i64 eA)
     have RD := Z2a aA.out 6 (.int .i64 gA)
     have SD := Z2a aA.out 7 (.int .i64 iA)
     have TD := Z2a aA.out 8 (.int .i64 jA)
     have UD := Z2a aA.out 9 (.bool kA)
     have VD := Z2b aA.out 0
     have WD := Z2b aA.out 1
     have XD := Z2b aA.out 2
     have YD := Z2b aA.out 3
     have ZD := Z2b aA.out 4
     have aE := Z2b aA.out 5
     have bE := Z2b aA.out 6
     have cE := Z2b aA.out 7
     have dE := Z2b aA.out 8
     have eE := Z2b aA.out 9
     go_upto_region 5 with (fail)
     go_cut [44] (fun v44 wc => ∃ (kq : Nat) (PC : Bool), v44 = .bool PC ∧ Aside0 (spec_l05May.j1 kq a0 PC bA hA fA cA dA eA gA iA jA kA = some r) ∧ Aside0 (kq ≤ kj2) ∧ Aside0 (wc.heap[RC]? = some (.cells #[.int .i64 bA, .int .i64 hA, .int .i64 fA, .int .i64 cA, .int .i64 dA, .int .i64 eA, .int .i64 gA, .int .i64 iA, .int .i64 jA, .bool kA] 23 (0, 0))) ∧ Aside0 (Below w.heap.size w wc))
     case first =>
      have H := HC22.out
      clear HC22
      by_cases c24 : cA = 1
      ·rw [if_pos c24] at H
       have vA : (cA == 1) = true := beq_iff_eq.mpr c24
       have WE : (cA != 1) = false := bne_eq_false_iff_eq.mpr c24
       clear c24
       (first | rw [vA] | (simp only [i64_w, i32_w]; rw [vA]) | skip)
       have H' := Z2c H
       clear H
       have fE := Z2a aA.out 0 (.int .i64 bA)
       have gE := Z2a aA.out 1 (.int .i64 hA)
       have hE := Z2a aA.out 2 (.int .i64 fA)
       have iE := Z2a aA.out 3 (.int .i64 cA)
       have jE := Z2a aA.out 4 (.int .i64 dA)
       have kE := Z2a aA.out 5 (.int .i64 eA)
       have lE := Z2a aA.out 6 (.int .i64 gA)
       have mE := Z2a aA.out 7 (.int .i64 iA)
       have nE := Z2a aA.out 8 (.int .i64 jA)
       have oE := Z2a aA.out 9 (.bool kA)
       have pE := Z2b aA.out 0
       have qE := Z2b aA.out 1
       have rE := Z2b aA.out 2
       have sE := Z2b aA.out 3
       have tE := Z2b aA.out 4
       have uE := Z2b aA.out 5
       have vE := Z2b aA.out 6
       have wE := Z2b aA.out 7
       have xE := Z2b aA.out 8
       have yE := Z2b aA.out 9
       go_wp2
       go_meet
       case rel => exact ⟨_, (true), Z2g, H', ⟨by have := HJ2.out; first | omega | exact Nat.le_refl _⟩, ⟨Z2f⟩, ⟨Z2d⟩⟩
      ·rw [if_neg c24] at H
       have vA : (cA == 1) = false := beq_eq_false_iff_ne.mpr c24
       have WE : (cA != 1) = true := bne_iff_ne.mpr c24
       (first | rw [vA] | (simp only [i64_w, i32_w]; rw [vA]) | skip)
       have H' := Z2c H
       clear H
       have zE := Z2a aA.out 0 (.int .i64 bA)
       have AE := Z2a aA.out 1 (.int .i64 hA)
       have BE := Z2a aA.out 2 (.int .i64 fA)
       have CE := Z2a aA.out 3 (.int .i64 cA)
       have DE := Z2a aA.out 4 (.int .i64 dA)
       have EE := Z2a aA.out 5 (.int .i64 eA)
       have FE := Z2a aA.out 6 (.int .i64 gA)
       have GE := Z2a aA.out 7 (.int .i64 iA)
       have HE := Z2a aA.out 8 (.int .i64 jA)
       have IE := Z2a aA.out 9 (.bool kA)
       have JE := Z2b aA.out 0
       have KE := Z2b aA.out 1
       have LE := Z2b aA.out 2
       have ME := Z2b aA.out 3
       have NE := Z2b aA.out 4
       have OE := Z2b aA.out 5
       have PE := Z2b aA.out 6
       have QE := Z2b aA.out 7
       have RE := Z2b aA.out 8
       have SE := Z2b aA.out 9
       go_wp2
       go_meet
       case rel => exact ⟨_, ((cA == 2)), Z2g, H', ⟨by have := HJ2.out; first | omega | exact Nat.le_refl _⟩, ⟨Z2f⟩, ⟨Z2d⟩⟩
     case rest =>
      clear HC22
      (try clear c1); (try clear c2); (try clear p2); (try clear c4); (try clear c5); (try clear p6); (try clear c8); (try clear c9); (try clear SC); (try clear c11); (try clear oD); (try clear c13); (try clear pD); (try clear c15); (try clear qD); (try clear c19); (try clear c20); (try clear UE); (try clear VE); (try clear c24); (try clear vA); (try clear WE); (try clear xA); (try clear yA); (try clear zA); (try clear AA); (try clear BA); (try clear CA); (try clear DA); (try clear EA); (try clear FA); (try clear GA); (try clear SA); (try clear TA); (try clear UA); (try clear VA); (try clear WA); (try clear XA); (try clear YA); (try clear ZA); (try clear aB); (try clear bB); (try clear mB); (try clear nB); (try clear oB); (try clear pB); (try clear qB); (try clear rB); (try clear sB); (try clear tB); (try clear uB); (try clear vB); (try clear GB); (try clear IB); (try clear JB); (try clear KB); (try clear LB); (try clear MB); (try clear NB); (try clear OB); (try clear PB); (try clear QB); (try clear bC); (try clear cC); (try clear dC); (try clear eC); (try clear fC); (try clear gC); (try clear hC); (try clear iC); (try clear jC); (try clear kC); (try clear vC); (try clear wC); (try clear xC); (try clear yC); (try clear zC); (try clear AC); (try clear BC); (try clear CC); (try clear DC); (try clear EC); (try clear rD); (try clear sD); (try clear tD); (try clear uD); (try clear vD); (try clear wD); (try clear xD); (try clear yD); (try clear zD); (try clear AD); (try clear LD); (try clear MD); (try clear ND); (try clear OD); (try clear PD); (try clear QD); (try clear RD); (try clear SD); (try clear TD); (try clear UD); (try clear fE); (try clear gE); (try clear hE); (try clear iE); (try clear jE); (try clear kE); (try clear lE); (try clear mE); (try clear nE); (try clear oE); (try clear zE); (try clear AE); (try clear BE); (try clear CE); (try clear DE); (try clear EE); (try clear FE); (try clear GE); (try clear HE); (try clear IE); (try clear TC); (try clear UC); (try clear VC); (try clear WC); (try clear XC); (try clear YC); (try clear ZC); (try clear aD); (try clear bD); (try clear cD); (try clear IA); (try clear JA); (try clear KA); (try clear LA); (try clear MA); (try clear NA); (try clear OA); (try clear PA); (try clear QA); (try clear RA); (try clear cB); (try clear dB); (try clear eB); (try clear fB); (try clear gB); (try clear hB); (try clear iB); (try clear jB); (try clear kB); (try clear lB); (try clear wB); (try clear xB); (try clear yB); (try clear zB); (try clear AB); (try clear BB); (try clear CB); (try clear DB); (try clear EB); (try clear FB); (try clear RB); (try clear SB); (try clear TB); (try clear UB); (try clear VB); (try clear WB); (try clear XB); (try clear YB); (try clear ZB); (try clear aC); (try clear lC); (try clear mC); (try clear nC); (try clear oC); (try clear pC); (try clear qC); (try clear rC); (try clear sC); (try clear tC); (try clear uC); (try clear FC); (try clear GC); (try clear HC); (try clear IC); (try clear JC); (try clear KC); (try clear LC); (try clear MC); (try clear NC); (try clear OC); (try clear BD); (try clear CD); (try clear DD); (try clear ED); (try clear FD); (try clear GD); (try clear HD); (try clear ID); (try clear JD); (try clear KD); (try clear VD); (try clear WD); (try clear XD); (try clear YD); (try clear ZD); (try clear aE); (try clear bE); (try clear cE); (try clear dE); (try clear eE); (try clear pE); (try clear qE); (try clear rE); (try clear sE); (try clear tE); (try clear uE); (try clear vE); (try clear wE); (try clear xE); (try clear yE); (try clear JE); (try clear KE); (try clear LE); (try clear ME); (try clear NE); (try clear OE); (try clear PE); (try clear QE); (try clear RE); (try clear SE); (try clear dD); (try clear eD); (try clear fD); (try clear gD); (try clear hD); (try clear iD); (try clear jD); (try clear kD); (try clear lD); (try clear mD); (try clear p2); (try clear p6)
      obtain ⟨kq, PC, rfl, HA, HJ21, aA, HB⟩ := hcut
      cases kq with
      | zero => exact absurd HA.out (by simp [spec_l05May.j1])
      | succ kj21 =>
       have H := HA.out
       clear HA
       simp only [spec_l05May.j1] at H
       by_cases c27 : PC = true
       ·subst c27
        rw [if_pos rfl] at H
        replace H := Option.bind_eq_some_iff.mp H
        obtain ⟨LH, A280, H⟩ := H
        (try dsimp only at H)
        have A28 := Z2c A280
        clear A280
        obtain rfl := Option.some.inj H
        have XE := Z2a aA.out 0 (.int .i64 bA)
        have YE := Z2a aA.out 1 (.int .i64 hA)
        have ZE := Z2a aA.out 2 (.int .i64 fA)
        have aF := Z2a aA.out 3 (.int .i64 cA)
        have bF := Z2a aA.out 4 (.int .i64 dA)
        have cF := Z2a aA.out 5 (.int .i64 eA)
        have dF := Z2a aA.out 6 (.int .i64 gA)
        have eF := Z2a aA.out 7 (.int .i64 iA)
        have fF := Z2a aA.out 8 (.int .i64 jA)
        have gF := Z2a aA.out 9 (.bool kA)
        have hF := Z2b aA.out 0
        have iF := Z2b aA.out 1
        have jF := Z2b aA.out 2
        have kF := Z2b aA.out 3
        have lF := Z2b aA.out 4
        have mF := Z2b aA.out 5
        have nF := Z2b aA.out 6
        have oF := Z2b aA.out 7
        have pF := Z2b aA.out 8
        have qF := Z2b aA.out 9
        go_wp2_with (first | ((with_reducible refine gate_callee (f := 65) rfl ?_); refine goesL_ (some 56) rfl rfl Try.func65 (by kernel_rfl) rfl #[.int .i64 a0, .int .i64 eA] rfl Z2i ?_; (with_reducible refine (spec_l05There.calls a0 eA LH _ A28.out).mono ?_); rintro e w' ⟨rfl, ⟨nd, rfl⟩⟩; refine ⟨_, rfl, ?_⟩))
        go_ret
        exact ⟨Z2e, Z2d⟩
       ·replace c27 := Bool.eq_false_iff.mpr c27
        subst c27
        rw [if_neg (show ¬ (false = true) by decide)] at H
        by_cases c30 : bA = 3
        ·rw [if_pos c30] at H
         have HH : (bA == 3) = true := beq_iff_eq.mpr c30
         have IH : (bA != 3) = false := bne_eq_false_iff_eq.mpr c30
         clear c30
         obtain rfl := Option.some.inj H
         have rF := Z2a aA.out 0 (.int .i64 bA)
         have sF := Z2a aA.out 1 (.int .i64 hA)
         have tF := Z2a aA.out 2 (.int .i64 fA)
         have uF := Z2a aA.out 3 (.int .i64 cA)
         have vF := Z2a aA.out 4 (.int .i64 dA)
         have wF := Z2a aA.out 5 (.int .i64 eA)
         have xF := Z2a aA.out 6 (.int .i64 gA)
         have yF := Z2a aA.out 7 (.int .i64 iA)
         have zF := Z2a aA.out 8 (.int .i64 jA)
         have AF := Z2a aA.out 9 (.bool kA)
         have BF := Z2b aA.out 0
         have CF := Z2b aA.out 1
         have DF := Z2b aA.out 2
         have EF := Z2b aA.out 3
         have FF := Z2b aA.out 4
         have GF := Z2b aA.out 5
         have HF := Z2b aA.out 6
         have IF := Z2b aA.out 7
         have JF := Z2b aA.out 8
         have KF := Z2b aA.out 9
         go_wp2
         go_ret
         exact ⟨Z2e, Z2d⟩
        ·rw [if_neg c30] at H
         have HH : (bA == 3) = false := beq_eq_false_iff_ne.mpr c30
         have IH : (bA != 3) = true := bne_iff_ne.mpr c30
         by_cases c32 : cA = 3
         ·rw [if_pos c32] at H
          have JH : (cA == 3) = true := beq_iff_eq.mpr c32
          have KH : (cA != 3) = false := bne_eq_false_iff_eq.mpr c32
          clear c32
          replace H := Option.bind_eq_some_iff.mp H
          obtain ⟨MH, A330, H⟩ := H
          (try dsimp only at H)
          have A33 := Z2c A330
          clear A330
          by_cases c34 : MH = true
          ·subst c34
           rw [if_pos rfl] at H
           replace H := Option.bind_eq_some_iff.mp H
           obtain ⟨NH, A350, H⟩ := H
           (try dsimp only at H)
           have A35 := Z2c A350
           clear A350
           obtain rfl := Option.some.inj H
           have LF := Z2a aA.out 0 (.int .i64 bA)
           have MF := Z2a aA.out 1 (.int .i64 hA)
           have NF := Z2a aA.out 2 (.int .i64 fA)
           have OF := Z2a aA.out 3 (.int .i64 cA)
           have PF := Z2a aA.out 4 (.int .i64 dA)
           have QF := Z2a aA.out 5 (.int .i64 eA)
           have RF := Z2a aA.out 6 (.int .i64 gA)
           have SF := Z2a aA.out 7 (.int .i64 iA)
           have TF := Z2a aA.out 8 (.int .i64 jA)
           have UF := Z2a aA.out 9 (.bool kA)
           have VF := Z2b aA.out 0
           have WF := Z2b aA.out 1
           have XF := Z2b aA.out 2
           have YF := Z2b aA.out 3
           have ZF := Z2b aA.out 4
           have aG := Z2b aA.out 5
           have bG := Z2b aA.out 6
           have cG := Z2b aA.out 7
           have dG := Z2b aA.out 8
           have eG := Z2b aA.out 9
           go_wp2_with (first | ((with_reducible refine gate_callee (f := 65) rfl ?_); refine goesL_ (some 68) rfl rfl Try.func65 (by kernel_rfl) rfl #[.int .i64 a0, .int .i64 eA] rfl Z2i ?_; (with_reducible refine (spec_l05There.calls a0 eA true _ A33.out).mono ?_); rintro e w' ⟨rfl, ⟨nd, rfl⟩⟩; refine ⟨_, rfl, ?_⟩) | (go_at_call 56; (with_reducible refine (spec_l05Link.calls a0 gA NH _ A35.out).mono ?_); rintro e w' ⟨rfl, ⟨nd, rfl⟩⟩))
           go_ret
           exact ⟨Z2e, Z2d⟩
          ·replace c34 := Bool.eq_false_iff.mpr c34
           subst c34
           rw [if_neg (show ¬ (false = true) by decide)] at H
           obtain rfl := Option.some.inj H
           have fG := Z2a aA.out 0 (.int .i64 bA)
           have gG := Z2a aA.out 1 (.int .i64 hA)
           have hG := Z2a aA.out 2 (.int .i64 fA)
           have iG := Z2a aA.out 3 (.int .i64 cA)
           have jG := Z2a aA.out 4 (.int .i64 dA)
           have kG := Z2a aA.out 5 (.int .i64 eA)
           have lG := Z2a aA.out 6 (.int .i64 gA)
           have mG := Z2a aA.out 7 (.int .i64 iA)
           have nG := Z2a aA.out 8 (.int .i64 jA)
           have oG := Z2a aA.out 9 (.bool kA)
           have pG := Z2b aA.out 0
           have qG := Z2b aA.out 1
           have rG := Z2b aA.out 2
           have sG := Z2b aA.out 3
           have tG := Z2b aA.out 4
           have uG := Z2b aA.out 5
           have vG := Z2b aA.out 6
           have wG := Z2b aA.out 7
           have xG := Z2b aA.out 8
           have yG := Z2b aA.out 9
           go_wp2_with (first | ((with_reducible refine gate_callee (f := 65) rfl ?_); refine goesL_ (some 68) rfl rfl Try.func65 (by kernel_rfl) rfl #[.int .i64 a0, .int .i64 eA] rfl Z2i ?_; (with_reducible refine (spec_l05There.calls a0 eA false _ A33.out).mono ?_); rintro e w' ⟨rfl, ⟨nd, rfl⟩⟩; refine ⟨_, rfl, ?_⟩))
           go_ret
           exact ⟨Z2e, Z2d⟩
         ·rw [if_neg c32] at H
          have JH : (cA == 3) = false := beq_eq_false_iff_ne.mpr c32
          have KH : (cA != 3) = true := bne_iff_ne.mpr c32
          have HC38 := Z2c H
          clear H
          have zG := Z2a aA.out 0 (.int .i64 bA)
          have AG := Z2a aA.out 1 (.int .i64 hA)
          have BG := Z2a aA.out 2 (.int .i64 fA)
          have CG := Z2a aA.out 3 (.int .i64 cA)
          have DG := Z2a aA.out 4 (.int .i64 dA)
          have EG := Z2a aA.out 5 (.int .i64 eA)
          have FG := Z2a aA.out 6 (.int .i64 gA)
          have GG := Z2a aA.out 7 (.int .i64 iA)
          have HG := Z2a aA.out 8 (.int .i64 jA)
          have IG := Z2a aA.out 9 (.bool kA)
          have JG := Z2b aA.out 0
          have KG := Z2b aA.out 1
          have LG := Z2b aA.out 2
          have MG := Z2b aA.out 3
          have NG := Z2b aA.out 4
          have OG := Z2b aA.out 5
          have PG := Z2b aA.out 6
          have QG := Z2b aA.out 7
          have RG := Z2b aA.out 8
          have SG := Z2b aA.out 9
          go_upto_region 11 with (fail)
          go_cut [75] (fun v75 wc => ∃ (kq : Nat) (QC : Bool), v75 = .bool QC ∧ Aside0 (spec_l05May.j2 kq a0 QC bA hA fA cA dA eA gA iA jA kA = some r) ∧ Aside0 (kq ≤ kj21) ∧ Aside0 (wc.heap[RC]? = some (.cells #[.int .i64 bA, .int .i64 hA, .int .i64 fA, .int .i64 cA, .int .i64 dA, .int .i64 eA, .int .i64 gA, .int .i64 iA, .int .i64 jA, .bool kA] 23 (0, 0))) ∧ Aside0 (Below w.heap.size w wc))
          case first =>
           have H := HC38.out
           clear HC38
           by_cases c40 : cA ≥ 4
           ·rw [if_pos c40] at H
            have wA : decide (4 ≤ cA) = true := decide_eq_true c40
            clear c40
            (first | rw [wA] | (simp only [i64_w, i32_w]; rw [wA]) | skip)
            have H' := Z2c H
            clear H
            have TG := Z2a aA.out 0 (.int .i64 bA)
            have UG := Z2a aA.out 1 (.int .i64 hA)
            have VG := Z2a aA.out 2 (.int .i64 fA)
            have WG := Z2a aA.out 3 (.int .i64 cA)
            have XG := Z2a aA.out 4 (.int .i64 dA)
            have YG := Z2a aA.out 5 (.int .i64 eA)
            have ZG := Z2a aA.out 6 (.int .i64 gA)
            have aH := Z2a aA.out 7 (.int .i64 iA)
            have bH := Z2a aA.out 8 (.int .i64 jA)
            have cH := Z2a aA.out 9 (.bool kA)
            have dH := Z2b aA.out 0
            have eH := Z2b aA.out 1
            have fH := Z2b aA.out 2
            have gH := Z2b aA.out 3
            have hH := Z2b aA.out 4
            have iH := Z2b aA.out 5
            have jH := Z2b aA.out 6
            have kH := Z2b aA.out 7
            have lH := Z2b aA.out 8
            have mH := Z2b aA.out 9
            go_wp2
            go_meet
            case rel => exact ⟨_, (decide (cA ≤ 6)), Z2g, H', ⟨by have := HJ2.out; have := HJ21.out; first | omega | exact Nat.le_refl _⟩, ⟨Z2f⟩, ⟨Z2d⟩⟩
           ·rw [if_neg c40] at H
            have wA : decide (4 ≤ cA) = false := decide_eq_false c40
            clear c40
            (first | rw [wA] | (simp only [i64_w, i32_w]; rw [wA]) | skip)
            have H' := Z2c H
            clear H
            have nH := Z2a aA.out 0 (.int .i64 bA)
            have oH := Z2a aA.out 1 (.int .i64 hA)
            have pH := Z2a aA.out 2 (.int .i64 fA)
            have qH := Z2a aA.out 3 (.int .i64 cA)
            have rH := Z2a aA.out 4 (.int .i64 dA)
            have sH := Z2a aA.out 5 (.int .i64 eA)
            have tH := Z2a aA.out 6 (.int .i64 gA)
            have uH := Z2a aA.out 7 (.int .i64 iA)
            have vH := Z2a aA.out 8 (.int .i64 jA)
            have wH := Z2a aA.out 9 (.bool kA)
            have xH := Z2b aA.out 0
            have yH := Z2b aA.out 1
            have zH := Z2b aA.out 2
            have AH := Z2b aA.out 3
            have BH := Z2b aA.out 4
            have CH := Z2b aA.out 5
            have DH := Z2b aA.out 6
            have EH := Z2b aA.out 7
            have FH := Z2b aA.out 8
            have GH := Z2b aA.out 9
            go_wp2
            go_meet
            case rel => exact ⟨_, (false), Z2g, H', ⟨by have := HJ2.out; have := HJ21.out; first | omega | exact Nat.le_refl _⟩, ⟨Z2f⟩, ⟨Z2d⟩⟩
          case rest =>
           clear HC38
           (try clear c1); (try clear c2); (try clear p2); (try clear c3); (try clear c4); (try clear c5); (try clear c6); (try clear p6); (try clear c8); (try clear c9); (try clear SC); (try clear c11); (try clear oD); (try clear c13); (try clear pD); (try clear c15); (try clear qD); (try clear c19); (try clear c20); (try clear UE); (try clear VE); (try clear c24); (try clear vA); (try clear WE); (try clear c27); (try clear c30); (try clear HH); (try clear IH); (try clear c32); (try clear JH); (try clear KH); (try clear c34); (try clear c40); (try clear wA); (try clear xA); (try clear yA); (try clear zA); (try clear AA); (try clear BA); (try clear CA); (try clear DA); (try clear EA); (try clear FA); (try clear GA); (try clear SA); (try clear TA); (try clear UA); (try clear VA); (try clear WA); (try clear XA); (try clear YA); (try clear ZA); (try clear aB); (try clear bB); (try clear mB); (try clear nB); (try clear oB); (try clear pB); (try clear qB); (try clear rB); (try clear sB); (try clear tB); (try clear uB); (try clear vB); (try clear GB); (try clear IB); (try clear JB); (try clear KB); (try clear LB); (try clear MB); (try clear NB); (try clear OB); (try clear PB); (try clear QB); (try clear bC); (try clear cC); (try clear dC); (try clear eC); (try clear fC); (try clear gC); (try clear hC); (try clear iC); (try clear jC); (try clear kC); (try clear vC); (try clear wC); (try clear xC); (try clear yC); (try clear zC); (try clear AC); (try clear BC); (try clear CC); (try clear DC); (try clear EC); (try clear rD); (try clear sD); (try clear tD); (try clear uD); (try clear vD); (try clear wD); (try clear xD); (try clear yD); (try clear zD); (try clear AD); (try clear LD); (try clear MD); (try clear ND); (try clear OD); (try clear PD); (try clear QD); (try clear RD); (try clear SD); (try clear TD); (try clear UD); (try clear fE); (try clear gE); (try clear hE); (try clear iE); (try clear jE); (try clear kE); (try clear lE); (try clear mE); (try clear nE); (try clear oE); (try clear zE); (try clear AE); (try clear BE); (try clear CE); (try clear DE); (try clear EE); (try clear FE); (try clear GE); (try clear HE); (try clear IE); (try clear XE); (try clear YE); (try clear ZE); (try clear aF); (try clear bF); (try clear cF); (try clear dF); (try clear eF); (try clear fF); (try clear gF); (try clear rF); (try clear sF); (try clear tF); (try clear uF); (try clear vF); (try clear wF); (try clear xF); (try clear yF); (try clear zF); (try clear AF); (try clear LF); (try clear MF); (try clear NF); (try clear OF); (try clear PF); (try clear QF); (try clear RF); (try clear SF); (try clear TF); (try clear UF); (try clear fG); (try clear gG); (try clear hG); (try clear iG); (try clear jG); (try clear kG); (try clear lG); (try clear mG); (try clear nG); (try clear oG); (try clear zG); (try clear AG); (try clear BG); (try clear CG); (try clear DG); (try clear EG); (try clear FG); (try clear GG); (try clear HG); (try clear IG); (try clear TG); (try clear UG); (try clear VG); (try clear WG); (try clear XG); (try clear YG); (try clear ZG); (try clear aH); (try clear bH); (try clear cH); (try clear nH); (try clear oH); (try clear pH); (try clear qH); (try clear rH); (try clear sH); (try clear tH); (try clear uH); (try clear vH); (try clear wH); (try clear TC); (try clear UC); (try clear VC); (try clear WC); (try clear XC); (try clear YC); (try clear ZC); (try clear aD); (try clear bD); (try clear cD); (try clear IA); (try clear JA); (try clear KA); (try clear LA); (try clear MA); (try clear NA); (try clear OA); (try clear PA); (try clear QA); (try clear RA); (try clear cB); (try clear dB); (try clear eB); (try clear fB); (try clear gB); (try clear hB); (try clear iB); (try clear jB); (try clear kB); (try clear lB); (try clear wB); (try clear xB); (try clear yB); (try clear zB); (try clear AB); (try clear BB); (try clear CB); (try clear DB); (try clear EB); (try clear FB); (try clear RB); (try clear SB); (try clear TB); (try clear UB); (try clear VB); (try clear WB); (try clear XB); (try clear YB); (try clear ZB); (try clear aC); (try clear lC); (try clear mC); (try clear nC); (try clear oC); (try clear pC); (try clear qC); (try clear rC); (try clear sC); (try clear tC); (try clear uC); (try clear FC); (try clear GC); (try clear HC); (try clear IC); (try clear JC); (try clear KC); (try clear LC); (try clear MC); (try clear NC); (try clear OC); (try clear BD); (try clear CD); (try clear DD); (try clear ED); (try clear FD); (try clear GD); (try clear HD); (try clear ID); (try clear JD); (try clear KD); (try clear VD); (try clear WD); (try clear XD); (try clear YD); (try clear ZD); (try clear aE); (try clear bE); (try clear cE); (try clear dE); (try clear eE); (try clear pE); (try clear qE); (try clear rE); (try clear sE); (try clear tE); (try clear uE); (try clear vE); (try clear wE); (try clear xE); (try clear yE); (try clear JE); (try clear KE); (try clear LE); (try clear ME); (try clear NE); (try clear OE); (try clear PE); (try clear QE); (try clear RE); (try clear SE); (try clear hF); (try clear iF); (try clear jF); (try clear kF); (try clear lF); (try clear mF); (try clear nF); (try clear oF); (try clear pF); (try clear qF); (try clear BF); (try clear CF); (try clear DF); (try clear EF); (try clear FF); (try clear GF); (try clear HF); (try clear IF); (try clear JF); (try clear KF); (try clear VF); (try clear WF); (try clear XF); (try clear YF); (try clear ZF); (try clear aG); (try clear bG); (try clear cG); (try clear dG); (try clear eG); (try clear pG); (try clear qG); (try clear rG); (try clear sG); (try clear tG); (try clear uG); (try clear vG); (try clear wG); (try clear xG); (try clear yG); (try clear JG); (try clear KG); (try clear LG); (try clear MG); (try clear NG); (try clear OG); (try clear PG); (try clear QG); (try clear RG); (try clear SG); (try clear dH); (try clear eH); (try clear fH); (try clear gH); (try clear hH); (try clear iH); (try clear jH); (try clear kH); (try clear lH); (try clear mH); (try clear xH); (try clear yH); (try clear zH); (try clear AH); (try clear BH); (try clear CH); (try clear DH); (try clear EH); (try clear FH); (try clear GH); (try clear dD); (try clear eD); (try clear fD); (try clear gD); (try clear hD); (try clear iD); (try clear jD); (try clear kD); (try clear lD); (try clear mD); (try clear p2); (try clear p6)
           obtain ⟨kq, QC, rfl, HA, HJ37, aA, HB⟩ := hcut
           cases kq with
           | zero => exact absurd HA.out (by simp [spec_l05May.j2])
           | succ kj37 =>
            have H := HA.out
            clear HA
            simp only [spec_l05May.j2] at H
            by_cases c43 : QC = true
            ·subst c43
             rw [if_pos rfl] at H
             by_cases c44 : bA = 1
             ·rw [if_pos c44] at H
              have TH : (bA == 1) = true := beq_iff_eq.mpr c44
              have UH : (bA != 1) = false := bne_eq_false_iff_eq.mpr c44
              clear c44
              replace H := Option.bind_eq_some_iff.mp H
              obtain ⟨OH, A450, H⟩ := H
              (try dsimp only at H)
              have A45 := Z2c A450
              clear A450
              by_cases c46 : OH = true
              ·subst c46
               rw [if_pos rfl] at H
               replace H := Option.bind_eq_some_iff.mp H
               obtain ⟨PH, A470, H⟩ := H
               (try dsimp only at H)
               have A47 := Z2c A470
               clear A470
               obtain rfl := Option.some.inj H
               have ZH := Z2a aA.out 0 (.int .i64 bA)
               have aI := Z2a aA.out 1 (.int .i64 hA)
               have bI := Z2a aA.out 2 (.int .i64 fA)
               have cI := Z2a aA.out 3 (.int .i64 cA)
               have dI := Z2a aA.out 4 (.int .i64 dA)
               have eI := Z2a aA.out 5 (.int .i64 eA)
               have fI := Z2a aA.out 6 (.int .i64 gA)
               have gI := Z2a aA.out 7 (.int .i64 iA)
               have hI := Z2a aA.out 8 (.int .i64 jA)
               have iI := Z2a aA.out 9 (.bool kA)
               have jI := Z2b aA.out 0
               have kI := Z2b aA.out 1
               have lI := Z2b aA.out 2
               have mI := Z2b aA.out 3
               have nI := Z2b aA.out 4
               have oI := Z2b aA.out 5
               have pI := Z2b aA.out 6
               have qI := Z2b aA.out 7
               have rI := Z2b aA.out 8
               have sI := Z2b aA.out 9
               go_wp2_with (first | (go_at_call 77; (with_reducible refine (spec_l01In.calls fA 0 (wrap64 (a0 - 1)) true _ A45.out).mono ?_); rintro e w' ⟨rfl, ⟨nd, rfl⟩⟩) | (go_at_call 56; (with_reducible refine (spec_l05Link.calls a0 eA PH _ A47.out).mono ?_); rintro e w' ⟨rfl, ⟨nd, rfl⟩⟩))
               go_ret
               exact ⟨Z2e, Z2d⟩
              ·replace c46 := Bool.eq_false_iff.mpr c46
               subst c46
               rw [if_neg (show ¬ (false = true) by decide)] at H
               obtain rfl := Option.some.inj H
               have tI := Z2a aA.out 0 (.int .i64 bA)
               have uI := Z2a aA.out 1 (.int .i64 hA)
               have vI := Z2a aA.out 2 (.int .i64 fA)
               have wI := Z2a aA.out 3 (.int .i64 cA)
               have xI := Z2a aA.out 4 (.int .i64 dA)
               have yI := Z2a aA.out 5 (.int .i64 eA)
               have zI := Z2a aA.out 6 (.int .i64 gA)
               have AI := Z2a aA.out 7 (.int .i64 iA)
               have BI := Z2a aA.out 8 (.int .i64 jA)
               have CI := Z2a aA.out 9 (.bool kA)
               have DI := Z2b aA.out 0
               have EI := Z2b aA.out 1
               have FI := Z2b aA.out 2
               have GI := Z2b aA.out 3
               have HI := Z2b aA.out 4
               have II := Z2b aA.out 5
               have JI := Z2b aA.out 6
               have KI := Z2b aA.out 7
               have LI := Z2b aA.out 8
               have MI := Z2b aA.out 9
               go_wp2_with (first | (go_at_call 77; (with_reducible refine (spec_l01In.calls fA 0 (wrap64 (a0 - 1)) false _ A45.out).mono ?_); rintro e w' ⟨rfl, ⟨nd, rfl⟩⟩))
               go_ret
               exact ⟨Z2e, Z2d⟩
             ·rw [if_neg c44] at H
              have TH : (bA == 1) = false := beq_eq_false_iff_ne.mpr c44
              have UH : (bA != 1) = true := bne_iff_ne.mpr c44
              obtain rfl := Option.some.inj H
              have NI := Z2a aA.out 0 (.int .i64 bA)
              have OI := Z2a aA.out 1 (.int .i64 hA)
              have PI := Z2a aA.out 2 (.int .i64 fA)
              have QI := Z2a aA.out 3 (.int .i64 cA)
              have RI := Z2a aA.out 4 (.int .i64 dA)
              have SI := Z2a aA.out 5 (.int .i64 eA)
              have TI := Z2a aA.out 6 (.int .i64 gA)
              have UI := Z2a aA.out 7 (.int .i64 iA)
              have VI := Z2a aA.out 8 (.int .i64 jA)
              have WI := Z2a aA.out 9 (.bool kA)
              have XI := Z2b aA.out 0
              have YI := Z2b aA.out 1
              have ZI := Z2b aA.out 2
              have aJ := Z2b aA.out 3
              have bJ := Z2b aA.out 4
              have cJ := Z2b aA.out 5
              have dJ := Z2b aA.out 6
              have eJ := Z2b aA.out 7
              have fJ := Z2b aA.out 8
              have gJ := Z2b aA.out 9
              go_wp2
              go_ret
              exact ⟨Z2e, Z2d⟩
            ·replace c43 := Bool.eq_false_iff.mpr c43
             subst c43
             rw [if_neg (show ¬ (false = true) by decide)] at H
             by_cases c51 : cA = 7
             ·rw [if_pos c51] at H
              have VH : (cA == 7) = true := beq_iff_eq.mpr c51
              have WH : (cA != 7) = false := bne_eq_false_iff_eq.mpr c51
              clear c51
              by_cases c52 : bA = 2
              ·rw [if_pos c52] at H
               have XH : (bA == 2) = true := beq_iff_eq.mpr c52
               have YH : (bA != 2) = false := bne_eq_false_iff_eq.mpr c52
               clear c52
               replace H := Option.bind_eq_some_iff.mp H
               obtain ⟨QH, A530, H⟩ := H
               (try dsimp only at H)
               have A53 := Z2c A530
               clear A530
               by_cases c54 : QH = true
               ·subst c54
                rw [if_pos rfl] at H
                replace H := Option.bind_eq_some_iff.mp H
                obtain ⟨RH, A550, H⟩ := H
                (try dsimp only at H)
                have A55 := Z2c A550
                clear A550
                obtain rfl := Option.some.inj H
                have hJ := Z2a aA.out 0 (.int .i64 bA)
                have iJ := Z2a aA.out 1 (.int .i64 hA)
                have jJ := Z2a aA.out 2 (.int .i64 fA)
                have kJ := Z2a aA.out 3 (.int .i64 cA)
                have lJ := Z2a aA.out 4 (.int .i64 dA)
                have mJ := Z2a aA.out 5 (.int .i64 eA)
                have nJ := Z2a aA.out 6 (.int .i64 gA)
                have oJ := Z2a aA.out 7 (.int .i64 iA)
                have pJ := Z2a aA.out 8 (.int .i64 jA)
                have qJ := Z2a aA.out 9 (.bool kA)
                have rJ := Z2b aA.out 0
                have sJ := Z2b aA.out 1
                have tJ := Z2b aA.out 2
                have uJ := Z2b aA.out 3
                have vJ := Z2b aA.out 4
                have wJ := Z2b aA.out 5
                have xJ := Z2b aA.out 6
                have yJ := Z2b aA.out 7
                have zJ := Z2b aA.out 8
                have AJ := Z2b aA.out 9
                go_wp2_with (first | (go_at_call 65; (with_reducible refine (spec_l05There.calls a0 eA true _ A53.out).mono ?_); rintro e w' ⟨rfl, ⟨nd, rfl⟩⟩) | (go_at_call 56; (with_reducible refine (spec_l05Link.calls a0 gA RH _ A55.out).mono ?_); rintro e w' ⟨rfl, ⟨nd, rfl⟩⟩))
                go_ret
                exact ⟨Z2e, Z2d⟩
               ·replace c54 := Bool.eq_false_iff.mpr c54
                subst c54
                rw [if_neg (show ¬ (false = true) by decide)] at H
                obtain rfl := Option.some.inj H
                have BJ := Z2a aA.out 0 (.int .i64 bA)
                have CJ := Z2a aA.out 1 (.int .i64 hA)
                have DJ := Z2a aA.out 2 (.int .i64 fA)
                have EJ := Z2a aA.out 3 (.int .i64 cA)
                have FJ := Z2a aA.out 4 (.int .i64 dA)
                have GJ := Z2a aA.out 5 (.int .i64 eA)
                have HJ := Z2a aA.out 6 (.int .i64 gA)
                have IJ := Z2a aA.out 7 (.int .i64 iA)
                have JJ := Z2a aA.out 8 (.int .i64 jA)
                have KJ := Z2a aA.out 9 (.bool kA)
                have LJ := Z2b aA.out 0
                have MJ := Z2b aA.out 1
                have NJ := Z2b aA.out 2
                have OJ := Z2b aA.out 3
                have PJ := Z2b aA.out 4
                have QJ := Z2b aA.out 5
                have RJ := Z2b aA.out 6
                have SJ := Z2b aA.out 7
                have TJ := Z2b aA.out 8
                have UJ := Z2b aA.out 9
                go_wp2_with (first | (go_at_call 65; (with_reducible refine (spec_l05There.calls a0 eA false _ A53.out).mono ?_); rintro e w' ⟨rfl, ⟨nd, rfl⟩⟩))
                go_ret
                exact ⟨Z2e, Z2d⟩
              ·rw [if_neg c52] at H
               have XH : (bA == 2) = false := beq_eq_false_iff_ne.mpr c52
               have YH : (bA != 2) = true := bne_iff_ne.mpr c52
               obtain rfl := Option.some.inj H
               have VJ := Z2a aA.out 0 (.int .i64 bA)
               have WJ := Z2a aA.out 1 (.int .i64 hA)
               have XJ := Z2a aA.out 2 (.int .i64 fA)
               have YJ := Z2a aA.out 3 (.int .i64 cA)
               have ZJ := Z2a aA.out 4 (.int .i64 dA)
               have aK := Z2a aA.out 5 (.int .i64 eA)
               have bK := Z2a aA.out 6 (.int .i64 gA)
               have cK := Z2a aA.out 7 (.int .i64 iA)
               have dK := Z2a aA.out 8 (.int .i64 jA)
               have eK := Z2a aA.out 9 (.bool kA)
               have fK := Z2b aA.out 0
               have gK := Z2b aA.out 1
               have hK := Z2b aA.out 2
               have iK := Z2b aA.out 3
               have jK := Z2b aA.out 4
               have kK := Z2b aA.out 5
               have lK := Z2b aA.out 6
               have mK := Z2b aA.out 7
               have nK := Z2b aA.out 8
               have oK := Z2b aA.out 9
               go_wp2
               go_ret
               exact ⟨Z2e, Z2d⟩
             ·rw [if_neg c51] at H
              have VH : (cA == 7) = false := beq_eq_false_iff_ne.mpr c51
              have WH : (cA != 7) = true := bne_iff_ne.mpr c51
              obtain rfl := Option.some.inj H
              have pK := Z2a aA.out 0 (.int .i64 bA)
              have qK := Z2a aA.out 1 (.int .i64 hA)
              have rK := Z2a aA.out 2 (.int .i64 fA)
              have sK := Z2a aA.out 3 (.int .i64 cA)
              have tK := Z2a aA.out 4 (.int .i64 dA)
              have uK := Z2a aA.out 5 (.int .i64 eA)
              have vK := Z2a aA.out 6 (.int .i64 gA)
              have wK := Z2a aA.out 7 (.int .i64 iA)
              have xK := Z2a aA.out 8 (.int .i64 jA)
              have yK := Z2a aA.out 9 (.bool kA)
              have zK := Z2b aA.out 0
              have AK := Z2b aA.out 1
              have BK := Z2b aA.out 2
              have CK := Z2b aA.out 3
              have DK := Z2b aA.out 4
              have EK := Z2b aA.out 5
              have FK := Z2b aA.out 6
              have GK := Z2b aA.out 7
              have HK := Z2b aA.out 8
              have IK := Z2b aA.out 9
              go_wp2
              go_ret
              exact ⟨Z2e, Z2d⟩

end Go.Proofs.Ytjikobdblohphaa.PFnExactLiStep
