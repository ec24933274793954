-- Written by the session's own patched copy of the printer (wip/patch_print.py).
import Derived.Test.YtfahmmlkcmadeaaPFnRingOnex0
import Derived.Test.YtfahmmlkcmadeaaPFnRingOnex1
namespace Go.Proofs.Ytfahmmlkcmadeaa.PFnRingOne
open Go.RowKit Go.Proofs.YtfahmmlkcmadeaaW.PrintWords Go.Proofs.YtfahmmlkcmadeaaW.PrintLast Go.Proofs.YtfahmmlkcmadeaaW.PrintMore
attribute [local go_sem] max2_int min2_int max_two min_two max_three min_three max_four min_four   -- for this text's walks alone
set_option linter.unusedVariables false
set_option linter.unusedSimpArgs false

theorem q2_0 {p : Prop} (h : p := by repeat (first | (with_reducible first | exact HB.out | apply below_alloc | apply pw_below_drewN | apply below_drew1 | refine below_set ?_ sG.out | refine below_set ?_ AG.out) | exact HB.out)) : p := h
theorem q2_1 {p : Prop} (h : p := by (with_reducible repeat (first | refine blk_drewN ?_ _ | refine blk_drew ?_ | refine blk_alloc ?_ _)); exact aA.out) : p := h
theorem q2_2 {p : Prop} (h : p := by (with_reducible repeat (first | refine blk_drewN ?_ _ | refine blk_drew ?_ | refine blk_alloc ?_ _)); exact cA.out) : p := h
theorem q2_3 {p : Prop} (h : p := by first | rfl | (simp [errW_none, errW_some] <;> rfl) | (simp [*, errW_none, errW_some] <;> rfl)) : p := h
theorem q2_4 {p : Prop} (h : p := by (try simp only [List.map_toArray, List.map_cons, List.map_nil]); first | done | rfl | (simp only [List.length_drop, List.length_take]; rfl)) : p := h
theorem q2_5 {p : Prop} (h : p := by repeat (first | (with_reducible first | exact HB.out | apply below_alloc | apply pw_below_drewN | apply below_drew1 | refine below_set ?_ sG.out) | exact HB.out)) : p := h
theorem q2_6 {p : Prop} (h : p := by repeat (first | (with_reducible first | exact HB.out | apply below_alloc | apply pw_below_drewN | apply below_drew1) | exact HB.out)) : p := h
theorem q2_7 {p : Prop} (h : p := by first | rfl | (simp; done) | (simp [*]; done)) : p := h
/-! ### impl_RiAct: function 41 -/
mutual
def impl_RiAct.j0 : Nat → Int → Bool → Int → Int → Int → Int → Int → Int → Int → Int → Int → Bool → Option (Int × Int × Int × Int × Bool)
 | 0, _, _, _, _, _, _, _, _, _, _, _, _ => none
 | k + 1, x0, x26, tA, uA, wA, rA, sA, xA, yA, zA, AA, BA => if x26 = true then (some (0, 0, 0, 0, false)) else ((impl_Mod.f sA x0).bind fun qA => (if rA = 0 then (some (1, wrap64 (tA - 1), 0, 0, true)) else (if rA = 1 then (some (1, wrap64 (2 + (wrap64 (2 * qA))), 0, 0, true)) else (if rA = 2 then (some (3, wrap64 (tA - 1), sA, wrap64 (sA + 1), true)) else (if rA = 3 then (impl_RiAct.j1 k x0 (wrap64 (2 + (wrap64 (2 * qA)))) (tA == 1) tA uA wA rA sA xA yA zA AA BA) else (impl_RiAct.j1 k x0 (wrap64 (2 + (wrap64 (2 * qA)))) false tA uA wA rA sA xA yA zA AA BA))))))
def impl_RiAct.j1 : Nat → Int → Int → Bool → Int → Int → Int → Int → Int → Int → Int → Int → Int → Bool → Option (Int × Int × Int × Int × Bool)
 | 0, _, _, _, _, _, _, _, _, _, _, _, _, _ => none
 | k + 1, x0, x7, x60, tA, uA, wA, rA, sA, xA, yA, zA, AA, BA => if x60 = true then (some (2, wrap64 (x7 + 1), uA, 0, true)) else (if rA = 3 then (some (1, wrap64 (x7 + 1), 0, 0, true)) else (if tA = 1 then (some (2, x7, wrap64 (sA + 1), 0, true)) else (some (2, x7, wrap64 (sA + x0), 0, true))))
end
def impl_RiAct.f (k : Nat) (a0 : Int) (fA : Int) (jA : Int) (kA : Int) (eA : Int) (iA : Int) (lA : Int) (mA : Int) (nA : Int) (oA : Int) (pA : Bool) : Option (Int × Int × Int × Int × Bool) := if pA = true then (impl_RiAct.j0 k a0 true fA jA kA eA iA lA mA nA oA pA) else ((impl_within.f a0 2 16).bind fun SB => (if SB = true then ((impl_within.f fA 1 2).bind fun TB => (if TB = true then ((impl_within.f eA 0 4).bind fun RB => (impl_RiAct.j0 k a0 (!RB) fA jA kA eA iA lA mA nA oA pA)) else (impl_RiAct.j0 k a0 true fA jA kA eA iA lA mA nA oA pA))) else (impl_RiAct.j0 k a0 true fA jA kA eA iA lA mA nA oA pA)))
theorem impl_RiAct.mono_l : ∀ k, (∀ y0 y1 y2 y3 y4 y5 y6 y7 y8 y9 y10 y11, LeO (impl_RiAct.j0 k y0 y1 y2 y3 y4 y5 y6 y7 y8 y9 y10 y11) (impl_RiAct.j0 (k + 1) y0 y1 y2 y3 y4 y5 y6 y7 y8 y9 y10 y11)) ∧ (∀ y0 y1 y2 y3 y4 y5 y6 y7 y8 y9 y10 y11 y12, LeO (impl_RiAct.j1 k y0 y1 y2 y3 y4 y5 y6 y7 y8 y9 y10 y11 y12) (impl_RiAct.j1 (k + 1) y0 y1 y2 y3 y4 y5 y6 y7 y8 y9 y10 y11 y12))
 | 0 => ⟨fun _ _ _ _ _ _ _ _ _ _ _ _ r h => by simp [impl_RiAct.j0] at h, fun _ _ _ _ _ _ _ _ _ _ _ _ _ r h => by simp [impl_RiAct.j1] at h⟩
 | k + 1 => by
  obtain ⟨ih0, ih1⟩ := impl_RiAct.mono_l k
  refine ⟨?_, ?_⟩
  ·intro y0 y1 y2 y3 y4 y5 y6 y7 y8 y9 y10 y11
   unfold impl_RiAct.j0
   repeat' first
   | (with_reducible exact ih0 _ _ _ _ _ _ _ _ _ _ _ _)
   | (with_reducible exact ih1 _ _ _ _ _ _ _ _ _ _ _ _ _)
   | (with_reducible exact LeO.refl _)
   | (with_reducible exact LeO.none _)
   | (with_reducible refine LeO.ite ?_ ?_)
   | (with_reducible refine LeO.bind ?_ (fun _ => ?_))
   | exact ih0 _ _ _ _ _ _ _ _ _ _ _ _
   | exact ih1 _ _ _ _ _ _ _ _ _ _ _ _ _
   | exact LeO.none _
   | refine LeO.ite ?_ ?_
   | refine LeO.bind ?_ (fun _ => ?_)
  ·intro y0 y1 y2 y3 y4 y5 y6 y7 y8 y9 y10 y11 y12
   unfold impl_RiAct.j1
   repeat' first
   | (with_reducible exact ih0 _ _ _ _ _ _ _ _ _ _ _ _)
   | (with_reducible exact ih1 _ _ _ _ _ _ _ _ _ _ _ _ _)
   | (with_reducible exact LeO.refl _)
   | (with_reducible exact LeO.none _)
   | (with_reducible refine LeO.ite ?_ ?_)
   | (with_reducible refine LeO.bind ?_ (fun _ => ?_))
   | exact ih0 _ _ _ _ _ _ _ _ _ _ _ _
   | exact ih1 _ _ _ _ _ _ _ _ _ _ _ _ _
   | exact LeO.none _
   | refine LeO.ite ?_ ?_
   | refine LeO.bind ?_ (fun _ => ?_)
theorem impl_RiAct.mono : ∀ a0 a1 a2 a3 a4 a5 a6 a7 a8 a9 a10 k, LeO (impl_RiAct.f k a0 a1 a2 a3 a4 a5 a6 a7 a8 a9 a10) (impl_RiAct.f (k + 1) a0 a1 a2 a3 a4 a5 a6 a7 a8 a9 a10) := by
 intro a0 a1 a2 a3 a4 a5 a6 a7 a8 a9 a10 k
 obtain ⟨ih0, ih1⟩ := impl_RiAct.mono_l k
 unfold impl_RiAct.f
 repeat' first
   | (with_reducible exact ih0 _ _ _ _ _ _ _ _ _ _ _ _)
   | (with_reducible exact ih1 _ _ _ _ _ _ _ _ _ _ _ _ _)
   | (with_reducible exact LeO.refl _)
   | (with_reducible exact LeO.none _)
   | (with_reducible refine LeO.ite ?_ ?_)
   | (with_reducible refine LeO.bind ?_ (fun _ => ?_))
   | exact ih0 _ _ _ _ _ _ _ _ _ _ _ _
   | exact ih1 _ _ _ _ _ _ _ _ _ _ _ _ _
   | exact LeO.none _
   | refine LeO.ite ?_ ?_
   | refine LeO.bind ?_ (fun _ => ?_)
set_option maxHeartbeats 8000000 in
set_option maxRecDepth 100000 in
theorem impl_RiAct.calls (k : Nat) (a0 : Int) (fA : Int) (jA : Int) (kA : Int) (eA : Int) (iA : Int) (lA : Int) (mA : Int) (nA : Int) (oA : Int) (pA : Bool) (r1 : Int) (r2 : Int) (r3 : Int) (r4 : Int) (r5 : Bool) (w : World) (h : impl_RiAct.f k a0 fA jA kA eA iA lA mA nA oA pA = some (r1, r2, r3, r4, r5)) :
  Calls Try.prog 41 #[.int .i64 a0, .agg #[.int .i64 fA, .int .i64 jA, .int .i64 kA, .int .i64 eA, .int .i64 iA, .int .i64 lA, .int .i64 mA, .int .i64 nA, .int .i64 oA, .bool pA]] w fun e w' => e = .returned (.tuple #[.agg #[.int .i64 r1, .int .i64 r2, .int .i64 r3, .int .i64 r4], .bool r5]) ∧ Below w.heap.size w w' := by
 have hu23 := Try.underlying23
 have hu37 := Try.underlying37
 have HB := Aside0.mk (Below.refl w.heap.size w)
 have H : (if pA = true then (impl_RiAct.j0 k a0 true fA jA kA eA iA lA mA nA oA pA) else ((impl_within.f a0 2 16).bind fun SB => (if SB = true then ((impl_within.f fA 1 2).bind fun TB => (if TB = true then ((impl_within.f eA 0 4).bind fun RB => (impl_RiAct.j0 k a0 (!RB) fA jA kA eA iA lA mA nA oA pA)) else (impl_RiAct.j0 k a0 true fA jA kA eA iA lA mA nA oA pA))) else (impl_RiAct.j0 k a0 true fA jA kA eA iA lA mA nA oA pA)))) = some (r1, r2, r3, r4, r5) := h
 clear h
 have HC3 := Aside0.mk H
 clear H
 go_enter Try.func41, Try.ntmps41
 go_upto_region 1 with (first | ((with_reducible refine gate_dst (N := 3) rfl ?_); refine box_event ?hg (N := 3) ?hd (cs := #[.int .i64 fA, .int .i64 jA, .int .i64 kA, .int .i64 eA, .int .i64 iA, .int .i64 lA, .int .i64 mA, .int .i64 nA, .int .i64 oA, .bool pA]) (t := 23) ?hr ?_; (case hd => rfl); (case hg => rfl); (case hr => first | (go_simp; done) | (go_simp; rfl)); intro bA hg w4 hbox hb; have DA := Aside0.mk (below_step q2_6 hb); have EA := Aside0.mk (hbox); have FA := Aside0.mk ((by rw [hg]; exact (below_size q2_6) : w.heap.size ≤ bA)); have BG := Aside0.mk ((by rw [hg]; exact (below_size q2_6) : w.heap.size ≤ bA)); clear HB; have HB := DA; have aA := EA; have OI := FA; have sG := BG; clear DA EA FA BG; clear hb hbox hg) | ((with_reducible refine gate_dst (N := 4) rfl ?_); refine box_event ?hg (N := 4) ?hd (cs := #[.int .i64 0, .int .i64 0, .int .i64 0, .int .i64 0]) (t := 37) ?hr ?_; (case hd => rfl); (case hg => rfl); (case hr => first | (go_simp; done) | (go_simp; rfl)); intro dA hg w5 hbox hb; have DA := Aside0.mk (blk_below (g := bA) (o := .cells #[.int .i64 fA, .int .i64 jA, .int .i64 kA, .int .i64 eA, .int .i64 iA, .int .i64 lA, .int .i64 mA, .int .i64 nA, .int .i64 oA, .bool pA] 23 (0, 0)) q2_1 hb); have EA := Aside0.mk (below_step q2_5 hb); have FA := Aside0.mk (hbox); have BG := Aside0.mk ((by rw [hg]; exact (below_size q2_5) : w.heap.size ≤ dA)); have PI := Aside0.mk ((by rw [hg]; exact (below_size q2_5) : w.heap.size ≤ dA)); have QI := Aside0.mk ((by rw [hg]; exact Nat.ne_of_lt (blk_lt (g := bA) (o := .cells #[.int .i64 fA, .int .i64 jA, .int .i64 kA, .int .i64 eA, .int .i64 iA, .int .i64 lA, .int .i64 mA, .int .i64 nA, .int .i64 oA, .bool pA] 23 (0, 0)) q2_1) : bA ≠ dA)); have RI := Aside0.mk ((by rw [hg]; exact Nat.ne_of_gt (blk_lt (g := bA) (o := .cells #[.int .i64 fA, .int .i64 jA, .int .i64 kA, .int .i64 eA, .int .i64 iA, .int .i64 lA, .int .i64 mA, .int .i64 nA, .int .i64 oA, .bool pA] 23 (0, 0)) q2_1) : dA ≠ bA)); clear aA HB; have aA := DA; have HB := EA; have cA := FA; have SI := BG; have AG := PI; have gA := QI; have hA := RI; clear DA EA FA BG PI QI RI; clear hb hbox hg))
 (try simp only [Act.put, List.setIfInBounds_toArray, List.set_cons_zero, List.set_cons_succ])
 go_cut [26] (fun v26 wc => ∃ (kq : Nat) (GA : Bool), v26 = .bool GA ∧ Aside0 (impl_RiAct.j0 kq a0 GA fA jA kA eA iA lA mA nA oA pA = some (r1, r2, r3, r4, r5)) ∧ Aside0 (kq ≤ k) ∧ Aside0 (wc.heap[bA]? = some (.cells #[.int .i64 fA, .int .i64 jA, .int .i64 kA, .int .i64 eA, .int .i64 iA, .int .i64 lA, .int .i64 mA, .int .i64 nA, .int .i64 oA, .bool pA] 23 (0, 0))) ∧ Aside0 (wc.heap[dA]? = some (.cells #[.int .i64 0, .int .i64 0, .int .i64 0, .int .i64 0] 37 (0, 0))) ∧ Aside0 (Below w.heap.size w wc))
 case first =>
  have H := HC3.out
  clear HC3
  by_cases c6 : pA = true
  ·subst c6
   rw [if_pos rfl] at H
   have H' := Aside0.mk H
   clear H
   have vJ := gA.out
   have wJ := hA.out
   have UB : w5.cell? ⟨bA, 0, none⟩ = some (.int .i64 fA) := (blk_cell aA.out 0).trans rfl
   have VB : w5.cell? ⟨bA, 1, none⟩ = some (.int .i64 jA) := (blk_cell aA.out 1).trans rfl
   have WB : w5.cell? ⟨bA, 2, none⟩ = some (.int .i64 kA) := (blk_cell aA.out 2).trans rfl
   have XB : w5.cell? ⟨bA, 3, none⟩ = some (.int .i64 eA) := (blk_cell aA.out 3).trans rfl
   have YB : w5.cell? ⟨bA, 4, none⟩ = some (.int .i64 iA) := (blk_cell aA.out 4).trans rfl
   have ZB : w5.cell? ⟨bA, 5, none⟩ = some (.int .i64 lA) := (blk_cell aA.out 5).trans rfl
   have aC : w5.cell? ⟨bA, 6, none⟩ = some (.int .i64 mA) := (blk_cell aA.out 6).trans rfl
   have bC : w5.cell? ⟨bA, 7, none⟩ = some (.int .i64 nA) := (blk_cell aA.out 7).trans rfl
   have cC : w5.cell? ⟨bA, 8, none⟩ = some (.int .i64 oA) := (blk_cell aA.out 8).trans rfl
   have dC : w5.cell? ⟨bA, 9, none⟩ = some (.bool true) := (blk_cell aA.out 9).trans rfl
   have eC := blk_frozen aA.out 0
   have fC := blk_frozen aA.out 1
   have gC := blk_frozen aA.out 2
   have hC := blk_frozen aA.out 3
   have iC := blk_frozen aA.out 4
   have jC := blk_frozen aA.out 5
   have kC := blk_frozen aA.out 6
   have lC := blk_frozen aA.out 7
   have mC := blk_frozen aA.out 8
   have nC := blk_frozen aA.out 9
   go_wp2
   go_meet
   case rel => exact ⟨_, (true), q2_7, H', ⟨by first | omega | exact Nat.le_refl _⟩, ⟨q2_1⟩, ⟨q2_2⟩, ⟨q2_0⟩⟩
  ·replace c6 := Bool.eq_false_iff.mpr c6
   subst c6
   rw [if_neg (show ¬ (false = true) by decide)] at H
   replace H := Option.bind_eq_some_iff.mp H
   obtain ⟨SB, A90, H⟩ := H
   (try dsimp only at H)
   have A9 := Aside0.mk A90
   clear A90
   by_cases c10 : SB = true
   ·subst c10
    rw [if_pos rfl] at H
    replace H := Option.bind_eq_some_iff.mp H
    obtain ⟨TB, A110, H⟩ := H
    (try dsimp only at H)
    have A11 := Aside0.mk A110
    clear A110
    by_cases c12 : TB = true
    ·subst c12
     rw [if_pos rfl] at H
     replace H := Option.bind_eq_some_iff.mp H
     obtain ⟨RB, A130, H⟩ := H
     (try dsimp only at H)
     have A13 := Aside0.mk A130
     clear A130
     have H' := Aside0.mk H
     clear H
     have TI := gA.out
     have UI := hA.out
     have IA : w5.cell? ⟨bA, 0, none⟩ = some (.int .i64 fA) := (blk_cell aA.out 0).trans rfl
     have JA : w5.cell? ⟨bA, 1, none⟩ = some (.int .i64 jA) := (blk_cell aA.out 1).trans rfl
     have KA : w5.cell? ⟨bA, 2, none⟩ = some (.int .i64 kA) := (blk_cell aA.out 2).trans rfl
     have LA : w5.cell? ⟨bA, 3, none⟩ = some (.int .i64 eA) := (blk_cell aA.out 3).trans rfl
     have MA : w5.cell? ⟨bA, 4, none⟩ = some (.int .i64 iA) := (blk_cell aA.out 4).trans rfl
     have NA : w5.cell? ⟨bA, 5, none⟩ = some (.int .i64 lA) := (blk_cell aA.out 5).trans rfl
     have OA : w5.cell? ⟨bA, 6, none⟩ = some (.int .i64 mA) := (blk_cell aA.out 6).trans rfl
     have PA : w5.cell? ⟨bA, 7, none⟩ = some (.int .i64 nA) := (blk_cell aA.out 7).trans rfl
     have QA : w5.cell? ⟨bA, 8, none⟩ = some (.int .i64 oA) := (blk_cell aA.out 8).trans rfl
     have RA : w5.cell? ⟨bA, 9, none⟩ = some (.bool false) := (blk_cell aA.out 9).trans rfl
     have SA := blk_frozen aA.out 0
     have TA := blk_frozen aA.out 1
     have UA := blk_frozen aA.out 2
     have VA := blk_frozen aA.out 3
     have WA := blk_frozen aA.out 4
     have XA := blk_frozen aA.out 5
     have YA := blk_frozen aA.out 6
     have ZA := blk_frozen aA.out 7
     have aB := blk_frozen aA.out 8
     have bB := blk_frozen aA.out 9
     go_wp2_with (first | (go_at_call 51; (with_reducible refine (impl_within.calls a0 2 16 true _ A9.out).mono ?_); rintro e w' ⟨rfl, ⟨nd, rfl⟩⟩) | (go_at_call 51; (with_reducible refine (impl_within.calls fA 1 2 true _ A11.out).mono ?_); rintro e w' ⟨rfl, ⟨nd, rfl⟩⟩) | (go_at_call 51; (with_reducible refine (impl_within.calls eA 0 4 RB _ A13.out).mono ?_); rintro e w' ⟨rfl, ⟨nd, rfl⟩⟩))
     go_meet
     case rel => exact ⟨_, (!RB), q2_7, H', ⟨by first | omega | exact Nat.le_refl _⟩, ⟨q2_1⟩, ⟨q2_2⟩, ⟨q2_0⟩⟩
    ·replace c12 := Bool.eq_false_iff.mpr c12
     subst c12
     rw [if_neg (show ¬ (false = true) by decide)] at H
     have H' := Aside0.mk H
     clear H
     have VI := gA.out
     have WI := hA.out
     have cB : w5.cell? ⟨bA, 0, none⟩ = some (.int .i64 fA) := (blk_cell aA.out 0).trans rfl
     have dB : w5.cell? ⟨bA, 1, none⟩ = some (.int .i64 jA) := (blk_cell aA.out 1).trans rfl
     have eB : w5.cell? ⟨bA, 2, none⟩ = some (.int .i64 kA) := (blk_cell aA.out 2).trans rfl
     have fB : w5.cell? ⟨bA, 3, none⟩ = some (.int .i64 eA) := (blk_cell aA.out 3).trans rfl
     have gB : w5.cell? ⟨bA, 4, none⟩ = some (.int .i64 iA) := (blk_cell aA.out 4).trans rfl
     have hB : w5.cell? ⟨bA, 5, none⟩ = some (.int .i64 lA) := (blk_cell aA.out 5).trans rfl
     have iB : w5.cell? ⟨bA, 6, none⟩ = some (.int .i64 mA) := (blk_cell aA.out 6).trans rfl
     have jB : w5.cell? ⟨bA, 7, none⟩ = some (.int .i64 nA) := (blk_cell aA.out 7).trans rfl
     have kB : w5.cell? ⟨bA, 8, none⟩ = some (.int .i64 oA) := (blk_cell aA.out 8).trans rfl
     have lB : w5.cell? ⟨bA, 9, none⟩ = some (.bool false) := (blk_cell aA.out 9).trans rfl
     have mB := blk_frozen aA.out 0
     have nB := blk_frozen aA.out 1
     have oB := blk_frozen aA.out 2
     have pB := blk_frozen aA.out 3
     have qB := blk_frozen aA.out 4
     have rB := blk_frozen aA.out 5
     have sB := blk_frozen aA.out 6
     have tB := blk_frozen aA.out 7
     have uB := blk_frozen aA.out 8
     have vB := blk_frozen aA.out 9
     go_wp2_with (first | (go_at_call 51; (with_reducible refine (impl_within.calls a0 2 16 true _ A9.out).mono ?_); rintro e w' ⟨rfl, ⟨nd, rfl⟩⟩) | (go_at_call 51; (with_reducible refine (impl_within.calls fA 1 2 false _ A11.out).mono ?_); rintro e w' ⟨rfl, ⟨nd, rfl⟩⟩))
     go_meet
     case rel => exact ⟨_, (true), q2_7, H', ⟨by first | omega | exact Nat.le_refl _⟩, ⟨q2_1⟩, ⟨q2_2⟩, ⟨q2_0⟩⟩
   ·replace c10 := Bool.eq_false_iff.mpr c10
    subst c10
    rw [if_neg (show ¬ (false = true) by decide)] at H
    have H' := Aside0.mk H
    clear H
    have XI := gA.out
    have YI := hA.out
    have wB : w5.cell? ⟨bA, 0, none⟩ = some (.int .i64 fA) := (blk_cell aA.out 0).trans rfl
    have xB : w5.cell? ⟨bA, 1, none⟩ = some (.int .i64 jA) := (blk_cell aA.out 1).trans rfl
    have yB : w5.cell? ⟨bA, 2, none⟩ = some (.int .i64 kA) := (blk_cell aA.out 2).trans rfl
    have zB : w5.cell? ⟨bA, 3, none⟩ = some (.int .i64 eA) := (blk_cell aA.out 3).trans rfl
    have AB : w5.cell? ⟨bA, 4, none⟩ = some (.int .i64 iA) := (blk_cell aA.out 4).trans rfl
    have BB : w5.cell? ⟨bA, 5, none⟩ = some (.int .i64 lA) := (blk_cell aA.out 5).trans rfl
    have CB : w5.cell? ⟨bA, 6, none⟩ = some (.int .i64 mA) := (blk_cell aA.out 6).trans rfl
    have DB : w5.cell? ⟨bA, 7, none⟩ = some (.int .i64 nA) := (blk_cell aA.out 7).trans rfl
    have EB : w5.cell? ⟨bA, 8, none⟩ = some (.int .i64 oA) := (blk_cell aA.out 8).trans rfl
    have FB : w5.cell? ⟨bA, 9, none⟩ = some (.bool false) := (blk_cell aA.out 9).trans rfl
    have GB := blk_frozen aA.out 0
    have IB := blk_frozen aA.out 1
    have JB := blk_frozen aA.out 2
    have KB := blk_frozen aA.out 3
    have LB := blk_frozen aA.out 4
    have MB := blk_frozen aA.out 5
    have NB := blk_frozen aA.out 6
    have OB := blk_frozen aA.out 7
    have PB := blk_frozen aA.out 8
    have QB := blk_frozen aA.out 9
    go_wp2_with (first | (go_at_call 51; (with_reducible refine (impl_within.calls a0 2 16 false _ A9.out).mono ?_); rintro e w' ⟨rfl, ⟨nd, rfl⟩⟩))
    go_meet
    case rel => exact ⟨_, (true), q2_7, H', ⟨by first | omega | exact Nat.le_refl _⟩, ⟨q2_1⟩, ⟨q2_2⟩, ⟨q2_0⟩⟩
 case rest =>
  clear HC3
  (try clear c1); (try clear p2); (try clear c4); (try clear c6); (try clear c7); (try clear c10); (try clear c12); (try clear c14); (try clear c16); (try clear c18); (try clear IA); (try clear JA); (try clear KA); (try clear LA); (try clear MA); (try clear NA); (try clear OA); (try clear PA); (try clear QA); (try clear RA); (try clear cB); (try clear dB); (try clear eB); (try clear fB); (try clear gB); (try clear hB); (try clear iB); (try clear jB); (try clear kB); (try clear lB); (try clear wB); (try clear xB); (try clear yB); (try clear zB); (try clear AB); (try clear BB); (try clear CB); (try clear DB); (try clear EB); (try clear FB); (try clear UB); (try clear VB); (try clear WB); (try clear XB); (try clear YB); (try clear ZB); (try clear aC); (try clear bC); (try clear cC); (try clear dC); (try clear SA); (try clear TA); (try clear UA); (try clear VA); (try clear WA); (try clear XA); (try clear YA); (try clear ZA); (try clear aB); (try clear bB); (try clear mB); (try clear nB); (try clear oB); (try clear pB); (try clear qB); (try clear rB); (try clear sB); (try clear tB); (try clear uB); (try clear vB); (try clear GB); (try clear IB); (try clear JB); (try clear KB); (try clear LB); (try clear MB); (try clear NB); (try clear OB); (try clear PB); (try clear QB); (try clear eC); (try clear fC); (try clear gC); (try clear hC); (try clear iC); (try clear jC); (try clear kC); (try clear lC); (try clear mC); (try clear nC)
  obtain ⟨kq, GA, rfl, HA, HJ2, aA, cA, HB⟩ := hcut
  cases kq with
  | zero => exact absurd HA.out (by simp [impl_RiAct.j0])
  | succ kj2 =>
   have H := HA.out
   clear HA
   simp only [impl_RiAct.j0] at H
   by_cases c20 : GA = true
   ·subst c20
    rw [if_pos rfl] at H
    simp only [Option.some.injEq, Prod.mk.injEq] at H
    obtain ⟨rfl, rfl, rfl, rfl, rfl⟩ := H
    have ZI := hA.out
    have aJ := gA.out
    have oC : wc.cell? ⟨dA, 0, none⟩ = some (.int .i64 0) := (blk_cell cA.out 0).trans rfl
    have pC : wc.cell? ⟨dA, 1, none⟩ = some (.int .i64 0) := (blk_cell cA.out 1).trans rfl
    have qC : wc.cell? ⟨dA, 2, none⟩ = some (.int .i64 0) := (blk_cell cA.out 2).trans rfl
    have rC : wc.cell? ⟨dA, 3, none⟩ = some (.int .i64 0) := (blk_cell cA.out 3).trans rfl
    have sC := blk_frozen cA.out 0
    have tC := blk_frozen cA.out 1
    have uC := blk_frozen cA.out 2
    have vC := blk_frozen cA.out 3
    go_wp2
    refine bodyPost_ret (results_ct rfl _ _ dA 37 #[.int .i64 0, .int .i64 0, .int .i64 0, .int .i64 0] (0, 0) _ rfl (by (with_reducible repeat (first | refine blk_drewN ?_ _ | refine blk_drew ?_ | refine blk_alloc ?_ _)); refine blk_put (cs := #[.int .i64 0, .int .i64 0, .int .i64 0, .int .i64 0]) ?_ 3 _ rfl; (with_reducible repeat (first | refine blk_drewN ?_ _ | refine blk_drew ?_ | refine blk_alloc ?_ _)); refine blk_put (cs := #[.int .i64 0, .int .i64 0, .int .i64 0, .int .i64 0]) ?_ 2 _ rfl; (with_reducible repeat (first | refine blk_drewN ?_ _ | refine blk_drew ?_ | refine blk_alloc ?_ _)); refine blk_put (cs := #[.int .i64 0, .int .i64 0, .int .i64 0, .int .i64 0]) ?_ 1 _ rfl; (with_reducible repeat (first | refine blk_drewN ?_ _ | refine blk_drew ?_ | refine blk_alloc ?_ _)); refine blk_put (cs := #[.int .i64 0, .int .i64 0, .int .i64 0, .int .i64 0]) ?_ 0 _ rfl; (with_reducible repeat (first | refine blk_drewN ?_ _ | refine blk_drew ?_ | refine blk_alloc ?_ _)); exact cA.out) Try.underlying37 rfl (by kernel_rfl)) rfl ?_
    exact ⟨q2_3, q2_0⟩
   ·replace c20 := Bool.eq_false_iff.mpr c20
    subst c20
    rw [if_neg (show ¬ (false = true) by decide)] at H
    replace H := Option.bind_eq_some_iff.mp H
    obtain ⟨qA, A230, H⟩ := H
    (try dsimp only at H)
    have A23 := Aside0.mk A230
    clear A230
    by_cases c24 : eA = 0
    ·rw [if_pos c24] at H
     have tG : (eA == 0) = true := beq_iff_eq.mpr c24
     have uG : (eA != 0) = false := bne_eq_false_iff_eq.mpr c24
     clear c24
     simp only [Option.some.injEq, Prod.mk.injEq] at H
     obtain ⟨rfl, rfl, rfl, rfl, rfl⟩ := H
     have bJ := gA.out
     have cJ := hA.out
     have wC : wc.cell? ⟨bA, 0, none⟩ = some (.int .i64 fA) := (blk_cell aA.out 0).trans rfl
     have xC : wc.cell? ⟨bA, 1, none⟩ = some (.int .i64 jA) := (blk_cell aA.out 1).trans rfl
     have yC : wc.cell? ⟨bA, 2, none⟩ = some (.int .i64 kA) := (blk_cell aA.out 2).trans rfl
     have zC : wc.cell? ⟨bA, 3, none⟩ = some (.int .i64 eA) := (blk_cell aA.out 3).trans rfl
     have AC : wc.cell? ⟨bA, 4, none⟩ = some (.int .i64 iA) := (blk_cell aA.out 4).trans rfl
     have BC : wc.cell? ⟨bA, 5, none⟩ = some (.int .i64 lA) := (blk_cell aA.out 5).trans rfl
     have CC : wc.cell? ⟨bA, 6, none⟩ = some (.int .i64 mA) := (blk_cell aA.out 6).trans rfl
     have DC : wc.cell? ⟨bA, 7, none⟩ = some (.int .i64 nA) := (blk_cell aA.out 7).trans rfl
     have EC : wc.cell? ⟨bA, 8, none⟩ = some (.int .i64 oA) := (blk_cell aA.out 8).trans rfl
     have FC : wc.cell? ⟨bA, 9, none⟩ = some (.bool pA) := (blk_cell aA.out 9).trans rfl
     have GC := blk_frozen aA.out 0
     have HC := blk_frozen aA.out 1
     have IC := blk_frozen aA.out 2
     have JC := blk_frozen aA.out 3
     have KC := blk_frozen aA.out 4
     have LC := blk_frozen aA.out 5
     have MC := blk_frozen aA.out 6
     have NC := blk_frozen aA.out 7
     have OC := blk_frozen aA.out 8
     have PC := blk_frozen aA.out 9
     go_wp2_with (first | ((with_reducible refine gate_callee (f := 77) rfl ?_); refine goesL_ (some 34) rfl rfl Try.func77 (by kernel_rfl) rfl #[.int .i64 iA, .int .i64 a0] rfl q2_4 ?_; (with_reducible refine (impl_Mod.calls iA a0 qA _ A23.out).mono ?_); rintro e w' ⟨rfl, ⟨nd, rfl⟩⟩; refine ⟨_, rfl, ?_⟩; (try (rw [drewN_self wc]; generalize hq_ : World.drewN wc _ = wc; have DA : Aside0 (wc.heap[bA]? = some (.cells #[.int .i64 fA, .int .i64 jA, .int .i64 kA, .int .i64 eA, .int .i64 iA, .int .i64 lA, .int .i64 mA, .int .i64 nA, .int .i64 oA, .bool pA] 23 (0, 0))) := ⟨by rw [← hq_]; exact q2_1⟩; have EA : Aside0 (wc.heap[dA]? = some (.cells #[.int .i64 0, .int .i64 0, .int .i64 0, .int .i64 0] 37 (0, 0))) := ⟨by rw [← hq_]; exact q2_2⟩; have FA : Aside0 (Below w.heap.size w wc) := ⟨by rw [← hq_]; exact q2_0⟩; clear aA cA HB hq_; have aA := DA; have cA := EA; have HB := FA; clear DA EA FA)); have QC : wc.cell? ⟨bA, 0, none⟩ = some (.int .i64 fA) := (blk_cell aA.out 0).trans rfl; have RC : wc.cell? ⟨bA, 1, none⟩ = some (.int .i64 jA) := (blk_cell aA.out 1).trans rfl; have SC : wc.cell? ⟨bA, 2, none⟩ = some (.int .i64 kA) := (blk_cell aA.out 2).trans rfl; have TC : wc.cell? ⟨bA, 3, none⟩ = some (.int .i64 eA) := (blk_cell aA.out 3).trans rfl; have UC : wc.cell? ⟨bA, 4, none⟩ = some (.int .i64 iA) := (blk_cell aA.out 4).trans rfl; have VC : wc.cell? ⟨bA, 5, none⟩ = some (.int .i64 lA) := (blk_cell aA.out 5).trans rfl; have WC : wc.cell? ⟨bA, 6, none⟩ = some (.int .i64 mA) := (blk_cell aA.out 6).trans rfl; have XC : wc.cell? ⟨bA, 7, none⟩ = some (.int .i64 nA) := (blk_cell aA.out 7).trans rfl; have YC : wc.cell? ⟨bA, 8, none⟩ = some (.int .i64 oA) := (blk_cell aA.out 8).trans rfl; have ZC : wc.cell? ⟨bA, 9, none⟩ = some (.bool pA) := (blk_cell aA.out 9).trans rfl; have aD := blk_frozen aA.out 0; have bD := blk_frozen aA.out 1; have cD := blk_frozen aA.out 2; have dD := blk_frozen aA.out 3; have eD := blk_frozen aA.out 4; have fD := blk_frozen aA.out 5; have gD := blk_frozen aA.out 6; have hD := blk_frozen aA.out 7; have iD := blk_frozen aA.out 8; have jD := blk_frozen aA.out 9; have kD : wc.cell? ⟨dA, 0, none⟩ = some (.int .i64 0) := (blk_cell cA.out 0).trans rfl; have lD : wc.cell? ⟨dA, 1, none⟩ = some (.int .i64 0) := (blk_cell cA.out 1).trans rfl; have mD : wc.cell? ⟨dA, 2, none⟩ = some (.int .i64 0) := (blk_cell cA.out 2).trans rfl; have nD : wc.cell? ⟨dA, 3, none⟩ = some (.int .i64 0) := (blk_cell cA.out 3).trans rfl; have oD := blk_frozen cA.out 0; have pD := blk_frozen cA.out 1; have qD := blk_frozen cA.out 2; have rD := blk_frozen cA.out 3))
     refine bodyPost_ret (results_ct rfl _ _ dA 37 #[.int .i64 1, .int .i64 (wrap64 (fA - 1)), .int .i64 0, .int .i64 0] (0, 0) _ rfl (by (with_reducible repeat (first | refine blk_drewN ?_ _ | refine blk_drew ?_ | refine blk_alloc ?_ _)); refine blk_put (cs := #[.int .i64 1, .int .i64 (wrap64 (fA - 1)), .int .i64 0, .int .i64 0]) ?_ 3 _ rfl; (with_reducible repeat (first | refine blk_drewN ?_ _ | refine blk_drew ?_ | refine blk_alloc ?_ _)); refine blk_put (cs := #[.int .i64 1, .int .i64 (wrap64 (fA - 1)), .int .i64 0, .int .i64 0]) ?_ 2 _ rfl; (with_reducible repeat (first | refine blk_drewN ?_ _ | refine blk_drew ?_ | refine blk_alloc ?_ _)); refine blk_put (cs := #[.int .i64 1, .int .i64 0, .int .i64 0, .int .i64 0]) ?_ 1 _ rfl; (with_reducible repeat (first | refine blk_drewN ?_ _ | refine blk_drew ?_ | refine blk_alloc ?_ _)); refine blk_put (cs := #[.int .i64 0, .int .i64 0, .int .i64 0, .int .i64 0]) ?_ 0 _ rfl; (with_reducible repeat (first | refine blk_drewN ?_ _ | refine blk_drew ?_ | refine blk_alloc ?_ _)); exact cA.out) Try.underlying37 rfl (by kernel_rfl)) rfl ?_
     exact ⟨q2_3, q2_0⟩
    ·rw [if_neg c24] at H
     have tG : (eA == 0) = false := beq_eq_false_iff_ne.mpr c24
     have uG : (eA != 0) = true := bne_iff_ne.mpr c24
     by_cases c29 : eA = 1
     ·rw [if_pos c29] at H
      have vG : (eA == 1) = true := beq_iff_eq.mpr c29
      have wG : (eA != 1) = false := bne_eq_false_iff_eq.mpr c29
      clear c29
      simp only [Option.some.injEq, Prod.mk.injEq] at H
      obtain ⟨rfl, rfl, rfl, rfl, rfl⟩ := H
      have dJ := gA.out
      have eJ := hA.out
      have sD : wc.cell? ⟨bA, 0, none⟩ = some (.int .i64 fA) := (blk_cell aA.out 0).trans rfl
      have tD : wc.cell? ⟨bA, 1, none⟩ = some (.int .i64 jA) := (blk_cell aA.out 1).trans rfl
      have uD : wc.cell? ⟨bA, 2, none⟩ = some (.int .i64 kA) := (blk_cell aA.out 2).trans rfl
      have vD : wc.cell? ⟨bA, 3, none⟩ = some (.int .i64 eA) := (blk_cell aA.out 3).trans rfl
      have wD : wc.cell? ⟨bA, 4, none⟩ = some (.int .i64 iA) := (blk_cell aA.out 4).trans rfl
      have xD : wc.cell? ⟨bA, 5, none⟩ = some (.int .i64 lA) := (blk_cell aA.out 5).trans rfl
      have yD : wc.cell? ⟨bA, 6, none⟩ = some (.int .i64 mA) := (blk_cell aA.out 6).trans rfl
      have zD : wc.cell? ⟨bA, 7, none⟩ = some (.int .i64 nA) := (blk_cell aA.out 7).trans rfl
      have AD : wc.cell? ⟨bA, 8, none⟩ = some (.int .i64 oA) := (blk_cell aA.out 8).trans rfl
      have BD : wc.cell? ⟨bA, 9, none⟩ = some (.bool pA) := (blk_cell aA.out 9).trans rfl
      have CD := blk_frozen aA.out 0
      have DD := blk_frozen aA.out 1
      have ED := blk_frozen aA.out 2
      have FD := blk_frozen aA.out 3
      have GD := blk_frozen aA.out 4
      have HD := blk_frozen aA.out 5
      have ID := blk_frozen aA.out 6
      have JD := blk_frozen aA.out 7
      have KD := blk_frozen aA.out 8
      have LD := blk_frozen aA.out 9
      go_wp2_with (first | ((with_reducible refine gate_callee (f := 77) rfl ?_); refine goesL_ (some 34) rfl rfl Try.func77 (by kernel_rfl) rfl #[.int .i64 iA, .int .i64 a0] rfl q2_4 ?_; (with_reducible refine (impl_Mod.calls iA a0 qA _ A23.out).mono ?_); rintro e w' ⟨rfl, ⟨nd, rfl⟩⟩; refine ⟨_, rfl, ?_⟩; (try (rw [drewN_self wc]; generalize hq_ : World.drewN wc _ = wc; have DA : Aside0 (wc.heap[bA]? = some (.cells #[.int .i64 fA, .int .i64 jA, .int .i64 kA, .int .i64 eA, .int .i64 iA, .int .i64 lA, .int .i64 mA, .int .i64 nA, .int .i64 oA, .bool pA] 23 (0, 0))) := ⟨by rw [← hq_]; exact q2_1⟩; have EA : Aside0 (wc.heap[dA]? = some (.cells #[.int .i64 0, .int .i64 0, .int .i64 0, .int .i64 0] 37 (0, 0))) := ⟨by rw [← hq_]; exact q2_2⟩; have FA : Aside0 (Below w.heap.size w wc) := ⟨by rw [← hq_]; exact q2_0⟩; clear aA cA HB hq_; have aA := DA; have cA := EA; have HB := FA; clear DA EA FA)); have MD : wc.cell? ⟨bA, 0, none⟩ = some (.int .i64 fA) := (blk_cell aA.out 0).trans rfl; have ND : wc.cell? ⟨bA, 1, none⟩ = some (.int .i64 jA) := (blk_cell aA.out 1).trans rfl; have OD : wc.cell? ⟨bA, 2, none⟩ = some (.int .i64 kA) := (blk_cell aA.out 2).trans rfl; have PD : wc.cell? ⟨bA, 3, none⟩ = some (.int .i64 eA) := (blk_cell aA.out 3).trans rfl; have QD : wc.cell? ⟨bA, 4, none⟩ = some (.int .i64 iA) := (blk_cell aA.out 4).trans rfl; have RD : wc.cell? ⟨bA, 5, none⟩ = some (.int .i64 lA) := (blk_cell aA.out 5).trans rfl; have SD : wc.cell? ⟨bA, 6, none⟩ = some (.int .i64 mA) := (blk_cell aA.out 6).trans rfl; have TD : wc.cell? ⟨bA, 7, none⟩ = some (.int .i64 nA) := (blk_cell aA.out 7).trans rfl; have UD : wc.cell? ⟨bA, 8, none⟩ = some (.int .i64 oA) := (blk_cell aA.out 8).trans rfl; have VD : wc.cell? ⟨bA, 9, none⟩ = some (.bool pA) := (blk_cell aA.out 9).trans rfl; have WD := blk_frozen aA.out 0; have XD := blk_frozen aA.out 1; have YD := blk_frozen aA.out 2; have ZD := blk_frozen aA.out 3; have aE := blk_frozen aA.out 4; have bE := blk_frozen aA.out 5; have cE := blk_frozen aA.out 6; have dE := blk_frozen aA.out 7; have eE := blk_frozen aA.out 8; have fE := blk_frozen aA.out 9; have gE : wc.cell? ⟨dA, 0, none⟩ = some (.int .i64 0) := (blk_cell cA.out 0).trans rfl; have hE : wc.cell? ⟨dA, 1, none⟩ = some (.int .i64 0) := (blk_cell cA.out 1).trans rfl; have iE : wc.cell? ⟨dA, 2, none⟩ = some (.int .i64 0) := (blk_cell cA.out 2).trans rfl; have jE : wc.cell? ⟨dA, 3, none⟩ = some (.int .i64 0) := (blk_cell cA.out 3).trans rfl; have kE := blk_frozen cA.out 0; have lE := blk_frozen cA.out 1; have mE := blk_frozen cA.out 2; have nE := blk_frozen cA.out 3))
      refine bodyPost_ret (results_ct rfl _ _ dA 37 #[.int .i64 1, .int .i64 (wrap64 (2 + (wrap64 (2 * qA)))), .int .i64 0, .int .i64 0] (0, 0) _ rfl (by (with_reducible repeat (first | refine blk_drewN ?_ _ | refine blk_drew ?_ | refine blk_alloc ?_ _)); refine blk_put (cs := #[.int .i64 1, .int .i64 (wrap64 (2 + (wrap64 (2 * qA)))), .int .i64 0, .int .i64 0]) ?_ 3 _ rfl; (with_reducible repeat (first | refine blk_drewN ?_ _ | refine blk_drew ?_ | refine blk_alloc ?_ _)); refine blk_put (cs := #[.int .i64 1, .int .i64 (wrap64 (2 + (wrap64 (2 * qA)))), .int .i64 0, .int .i64 0]) ?_ 2 _ rfl; (with_reducible repeat (first | refine blk_drewN ?_ _ | refine blk_drew ?_ | refine blk_alloc ?_ _)); refine blk_put (cs := #[.int .i64 1, .int .i64 0, .int .i64 0, .int .i64 0]) ?_ 1 _ rfl; (with_reducible repeat (first | refine blk_drewN ?_ _ | refine blk_drew ?_ | refine blk_alloc ?_ _)); refine blk_put (cs := #[.int .i64 0, .int .i64 0, .int .i64 0, .int .i64 0]) ?_ 0 _ rfl; (with_reducible repeat (first | refine blk_drewN ?_ _ | refine blk_drew ?_ | refine blk_alloc ?_ _)); exact cA.out) Try.underlying37 rfl (by kernel_rfl)) rfl ?_
      exact ⟨q2_3, q2_0⟩
     ·rw [if_neg c29] at H
      have vG : (eA == 1) = false := beq_eq_false_iff_ne.mpr c29
      have wG : (eA != 1) = true := bne_iff_ne.mpr c29
      by_cases c34 : eA = 2
      ·rw [if_pos c34] at H
       have xG : (eA == 2) = true := beq_iff_eq.mpr c34
       have yG : (eA != 2) = false := bne_eq_false_iff_eq.mpr c34
       clear c34
       simp only [Option.some.injEq, Prod.mk.injEq] at H
       obtain ⟨rfl, rfl, rfl, rfl, rfl⟩ := H
       have fJ := gA.out
       have gJ := hA.out
       have oE : wc.cell? ⟨bA, 0, none⟩ = some (.int .i64 fA) := (blk_cell aA.out 0).trans rfl
       have pE : wc.cell? ⟨bA, 1, none⟩ = some (.int .i64 jA) := (blk_cell aA.out 1).trans rfl
       have qE : wc.cell? ⟨bA, 2, none⟩ = some (.int .i64 kA) := (blk_cell aA.out 2).trans rfl
       have rE : wc.cell? ⟨bA, 3, none⟩ = some (.int .i64 eA) := (blk_cell aA.out 3).trans rfl
       have sE : wc.cell? ⟨bA, 4, none⟩ = some (.int .i64 iA) := (blk_cell aA.out 4).trans rfl
       have tE : wc.cell? ⟨bA, 5, none⟩ = some (.int .i64 lA) := (blk_cell aA.out 5).trans rfl
       have uE : wc.cell? ⟨bA, 6, none⟩ = some (.int .i64 mA) := (blk_cell aA.out 6).trans rfl
       have vE : wc.cell? ⟨bA, 7, none⟩ = some (.int .i64 nA) := (blk_cell aA.out 7).trans rfl
       have wE : wc.cell? ⟨bA, 8, none⟩ = some (.int .i64 oA) := (blk_cell aA.out 8).trans rfl
       have xE : wc.cell? ⟨bA, 9, none⟩ = some (.bool pA) := (blk_cell aA.out 9).trans rfl
       have yE := blk_frozen aA.out 0
       have zE := blk_frozen aA.out 1
       have AE := blk_frozen aA.out 2
       have BE := blk_frozen aA.out 3
       have CE := blk_frozen aA.out 4
       have DE := blk_frozen aA.out 5
       have EE := blk_frozen aA.out 6
       have FE := blk_frozen aA.out 7
       have GE := blk_frozen aA.out 8
       have HE := blk_frozen aA.out 9
       go_wp2_with (first | ((with_reducible refine gate_callee (f := 77) rfl ?_); refine goesL_ (some 34) rfl rfl Try.func77 (by kernel_rfl) rfl #[.int .i64 iA, .int .i64 a0] rfl q2_4 ?_; (with_reducible refine (impl_Mod.calls iA a0 qA _ A23.out).mono ?_); rintro e w' ⟨rfl, ⟨nd, rfl⟩⟩; refine ⟨_, rfl, ?_⟩; (try (rw [drewN_self wc]; generalize hq_ : World.drewN wc _ = wc; have DA : Aside0 (wc.heap[bA]? = some (.cells #[.int .i64 fA, .int .i64 jA, .int .i64 kA, .int .i64 eA, .int .i64 iA, .int .i64 lA, .int .i64 mA, .int .i64 nA, .int .i64 oA, .bool pA] 23 (0, 0))) := ⟨by rw [← hq_]; exact q2_1⟩; have EA : Aside0 (wc.heap[dA]? = some (.cells #[.int .i64 0, .int .i64 0, .int .i64 0, .int .i64 0] 37 (0, 0))) := ⟨by rw [← hq_]; exact q2_2⟩; have FA : Aside0 (Below w.heap.size w wc) := ⟨by rw [← hq_]; exact q2_0⟩; clear aA cA HB hq_; have aA := DA; have cA := EA; have HB := FA; clear DA EA FA)); have IE : wc.cell? ⟨bA, 0, none⟩ = some (.int .i64 fA) := (blk_cell aA.out 0).trans rfl; have JE : wc.cell? ⟨bA, 1, none⟩ = some (.int .i64 jA) := (blk_cell aA.out 1).trans rfl; have KE : wc.cell? ⟨bA, 2, none⟩ = some (.int .i64 kA) := (blk_cell aA.out 2).trans rfl; have LE : wc.cell? ⟨bA, 3, none⟩ = some (.int .i64 eA) := (blk_cell aA.out 3).trans rfl; have ME : wc.cell? ⟨bA, 4, none⟩ = some (.int .i64 iA) := (blk_cell aA.out 4).trans rfl; have NE : wc.cell? ⟨bA, 5, none⟩ = some (.int .i64 lA) := (blk_cell aA.out 5).trans rfl; have OE : wc.cell? ⟨bA, 6, none⟩ = some (.int .i64 mA) := (blk_cell aA.out 6).trans rfl; have PE : wc.cell? ⟨bA, 7, none⟩ = some (.int .i64 nA) := (blk_cell aA.out 7).trans rfl; have QE : wc.cell? ⟨bA, 8, none⟩ = some (.int .i64 oA) := (blk_cell aA.out 8).trans rfl; have RE : wc.cell? ⟨bA, 9, none⟩ = some (.bool pA) := (blk_cell aA.out 9).trans rfl; have SE := blk_frozen aA.out 0; have TE := blk_frozen aA.out 1; have UE := blk_frozen aA.out 2; have VE := blk_frozen aA.out 3; have WE := blk_frozen aA.out 4; have XE := blk_frozen aA.out 5; have YE := blk_frozen aA.out 6; have ZE := blk_frozen aA.out 7; have aF := blk_frozen aA.out 8; have bF := blk_frozen aA.out 9; have cF : wc.cell? ⟨dA, 0, none⟩ = some (.int .i64 0) := (blk_cell cA.out 0).trans rfl; have dF : wc.cell? ⟨dA, 1, none⟩ = some (.int .i64 0) := (blk_cell cA.out 1).trans rfl; have eF : wc.cell? ⟨dA, 2, none⟩ = some (.int .i64 0) := (blk_cell cA.out 2).trans rfl; have fF : wc.cell? ⟨dA, 3, none⟩ = some (.int .i64 0) := (blk_cell cA.out 3).trans rfl; have gF := blk_frozen cA.out 0; have hF := blk_frozen cA.out 1; have iF := blk_frozen cA.out 2; have jF := blk_frozen cA.out 3))
       refine bodyPost_ret (results_ct rfl _ _ dA 37 #[.int .i64 3, .int .i64 (wrap64 (fA - 1)), .int .i64 iA, .int .i64 (wrap64 (iA + 1))] (0, 0) _ rfl (by (with_reducible repeat (first | refine blk_drewN ?_ _ | refine blk_drew ?_ | refine blk_alloc ?_ _)); refine blk_put (cs := #[.int .i64 3, .int .i64 (wrap64 (fA - 1)), .int .i64 iA, .int .i64 0]) ?_ 3 _ rfl; (with_reducible repeat (first | refine blk_drewN ?_ _ | refine blk_drew ?_ | refine blk_alloc ?_ _)); refine blk_put (cs := #[.int .i64 3, .int .i64 (wrap64 (fA - 1)), .int .i64 0, .int .i64 0]) ?_ 2 _ rfl; (with_reducible repeat (first | refine blk_drewN ?_ _ | refine blk_drew ?_ | refine blk_alloc ?_ _)); refine blk_put (cs := #[.int .i64 3, .int .i64 0, .int .i64 0, .int .i64 0]) ?_ 1 _ rfl; (with_reducible repeat (first | refine blk_drewN ?_ _ | refine blk_drew ?_ | refine blk_alloc ?_ _)); refine blk_put (cs := #[.int .i64 0, .int .i64 0, .int .i64 0, .int .i64 0]) ?_ 0 _ rfl; (with_reducible repeat (first | refine blk_drewN ?_ _ | refine blk_drew ?_ | refine blk_alloc ?_ _)); exact cA.out) Try.underlying37 rfl (by kernel_rfl)) rfl ?_
       exact ⟨q2_3, q2_0⟩
      ·rw [if_neg c34] at H
       have xG : (eA == 2) = false := beq_eq_false_iff_ne.mpr c34
       have yG : (eA != 2) = true := bne_iff_ne.mpr c34
       have HC39 := Aside0.mk H
       clear H
       have hJ := gA.out
       have iJ := hA.out
       have kF : wc.cell? ⟨bA, 0, none⟩ = some (.int .i64 fA) := (blk_cell aA.out 0).trans rfl
       have lF : wc.cell? ⟨bA, 1, none⟩ = some (.int .i64 jA) := (blk_cell aA.out 1).trans rfl
       have mF : wc.cell? ⟨bA, 2, none⟩ = some (.int .i64 kA) := (blk_cell aA.out 2).trans rfl
       have nF : wc.cell? ⟨bA, 3, none⟩ = some (.int .i64 eA) := (blk_cell aA.out 3).trans rfl
       have oF : wc.cell? ⟨bA, 4, none⟩ = some (.int .i64 iA) := (blk_cell aA.out 4).trans rfl
       have pF : wc.cell? ⟨bA, 5, none⟩ = some (.int .i64 lA) := (blk_cell aA.out 5).trans rfl
       have qF : wc.cell? ⟨bA, 6, none⟩ = some (.int .i64 mA) := (blk_cell aA.out 6).trans rfl
       have rF : wc.cell? ⟨bA, 7, none⟩ = some (.int .i64 nA) := (blk_cell aA.out 7).trans rfl
       have sF : wc.cell? ⟨bA, 8, none⟩ = some (.int .i64 oA) := (blk_cell aA.out 8).trans rfl
       have tF : wc.cell? ⟨bA, 9, none⟩ = some (.bool pA) := (blk_cell aA.out 9).trans rfl
       have uF := blk_frozen aA.out 0
       have vF := blk_frozen aA.out 1
       have wF := blk_frozen aA.out 2
       have xF := blk_frozen aA.out 3
       have yF := blk_frozen aA.out 4
       have zF := blk_frozen aA.out 5
       have AF := blk_frozen aA.out 6
       have BF := blk_frozen aA.out 7
       have CF := blk_frozen aA.out 8
       have DF := blk_frozen aA.out 9
       go_upto_region 11 with (first | ((with_reducible refine gate_callee (f := 77) rfl ?_); refine goesL_ (some 34) rfl rfl Try.func77 (by kernel_rfl) rfl #[.int .i64 iA, .int .i64 a0] rfl q2_4 ?_; (with_reducible refine (impl_Mod.calls iA a0 qA _ A23.out).mono ?_); rintro e w' ⟨rfl, ⟨nd, rfl⟩⟩; refine ⟨_, rfl, ?_⟩))
       (try simp only [Act.put, List.setIfInBounds_toArray, List.set_cons_zero, List.set_cons_succ])
       go_cut [60] (fun v60 wc => ∃ (kq : Nat) (CA : Bool), v60 = .bool CA ∧ Aside0 (impl_RiAct.j1 kq a0 (wrap64 (2 + (wrap64 (2 * qA)))) CA fA jA kA eA iA lA mA nA oA pA = some (r1, r2, r3, r4, r5)) ∧ Aside0 (kq ≤ kj2) ∧ Aside0 (wc.heap[bA]? = some (.cells #[.int .i64 fA, .int .i64 jA, .int .i64 kA, .int .i64 eA, .int .i64 iA, .int .i64 lA, .int .i64 mA, .int .i64 nA, .int .i64 oA, .bool pA] 23 (0, 0))) ∧ Aside0 (wc.heap[dA]? = some (.cells #[.int .i64 0, .int .i64 0, .int .i64 0, .int .i64 0] 37 (0, 0))) ∧ Aside0 (Below w.heap.size w wc))
       case first =>
        have H := HC39.out
        clear HC39
        by_cases c42 : eA = 3
        ·rw [if_pos c42] at H
         have vA : (eA == 3) = true := beq_iff_eq.mpr c42
         have zG : (eA != 3) = false := bne_eq_false_iff_eq.mpr c42
         clear c42
         (first | rw [vA] | (simp only [i64_w, i32_w]; rw [vA]) | skip)
         have H' := Aside0.mk H
         clear H
         have jJ := gA.out
         have kJ := hA.out
         have EF : wc.cell? ⟨bA, 0, none⟩ = some (.int .i64 fA) := (blk_cell aA.out 0).trans rfl
         have FF : wc.cell? ⟨bA, 1, none⟩ = some (.int .i64 jA) := (blk_cell aA.out 1).trans rfl
         have GF : wc.cell? ⟨bA, 2, none⟩ = some (.int .i64 kA) := (blk_cell aA.out 2).trans rfl
         have HF : wc.cell? ⟨bA, 3, none⟩ = some (.int .i64 eA) := (blk_cell aA.out 3).trans rfl
         have IF : wc.cell? ⟨bA, 4, none⟩ = some (.int .i64 iA) := (blk_cell aA.out 4).trans rfl
         have JF : wc.cell? ⟨bA, 5, none⟩ = some (.int .i64 lA) := (blk_cell aA.out 5).trans rfl
         have KF : wc.cell? ⟨bA, 6, none⟩ = some (.int .i64 mA) := (blk_cell aA.out 6).trans rfl
         have LF : wc.cell? ⟨bA, 7, none⟩ = some (.int .i64 nA) := (blk_cell aA.out 7).trans rfl
         have MF : wc.cell? ⟨bA, 8, none⟩ = some (.int .i64 oA) := (blk_cell aA.out 8).trans rfl
         have NF : wc.cell? ⟨bA, 9, none⟩ = some (.bool pA) := (blk_cell aA.out 9).trans rfl
         have OF := blk_frozen aA.out 0
         have PF := blk_frozen aA.out 1
         have QF := blk_frozen aA.out 2
         have RF := blk_frozen aA.out 3
         have SF := blk_frozen aA.out 4
         have TF := blk_frozen aA.out 5
         have UF := blk_frozen aA.out 6
         have VF := blk_frozen aA.out 7
         have WF := blk_frozen aA.out 8
         have XF := blk_frozen aA.out 9
         go_wp2
         go_meet
         case rel => exact ⟨_, ((fA == 1)), q2_7, H', ⟨by have := HJ2.out; first | omega | exact Nat.le_refl _⟩, ⟨q2_1⟩, ⟨q2_2⟩, ⟨q2_0⟩⟩
        ·rw [if_neg c42] at H
         have vA : (eA == 3) = false := beq_eq_false_iff_ne.mpr c42
         have zG : (eA != 3) = true := bne_iff_ne.mpr c42
         (first | rw [vA] | (simp only [i64_w, i32_w]; rw [vA]) | skip)
         have H' := Aside0.mk H
         clear H
         have lJ := gA.out
         have mJ := hA.out
         have YF : wc.cell? ⟨bA, 0, none⟩ = some (.int .i64 fA) := (blk_cell aA.out 0).trans rfl
         have ZF : wc.cell? ⟨bA, 1, none⟩ = some (.int .i64 jA) := (blk_cell aA.out 1).trans rfl
         have aG : wc.cell? ⟨bA, 2, none⟩ = some (.int .i64 kA) := (blk_cell aA.out 2).trans rfl
         have bG : wc.cell? ⟨bA, 3, none⟩ = some (.int .i64 eA) := (blk_cell aA.out 3).trans rfl
         have cG : wc.cell? ⟨bA, 4, none⟩ = some (.int .i64 iA) := (blk_cell aA.out 4).trans rfl
         have dG : wc.cell? ⟨bA, 5, none⟩ = some (.int .i64 lA) := (blk_cell aA.out 5).trans rfl
         have eG : wc.cell? ⟨bA, 6, none⟩ = some (.int .i64 mA) := (blk_cell aA.out 6).trans rfl
         have fG : wc.cell? ⟨bA, 7, none⟩ = some (.int .i64 nA) := (blk_cell aA.out 7).trans rfl
         have gG : wc.cell? ⟨bA, 8, none⟩ = some (.int .i64 oA) := (blk_cell aA.out 8).trans rfl
         have hG : wc.cell? ⟨bA, 9, none⟩ = some (.bool pA) := (blk_cell aA.out 9).trans rfl
         have iG := blk_frozen aA.out 0
         have jG := blk_frozen aA.out 1
         have kG := blk_frozen aA.out 2
         have lG := blk_frozen aA.out 3
         have mG := blk_frozen aA.out 4
         have nG := blk_frozen aA.out 5
         have oG := blk_frozen aA.out 6
         have pG := blk_frozen aA.out 7
         have qG := blk_frozen aA.out 8
         have rG := blk_frozen aA.out 9
         go_wp2
         go_meet
         case rel => exact ⟨_, (false), q2_7, H', ⟨by have := HJ2.out; first | omega | exact Nat.le_refl _⟩, ⟨q2_1⟩, ⟨q2_2⟩, ⟨q2_0⟩⟩
       case rest =>
        clear HC39
        (try clear c1); (try clear c2); (try clear p2); (try clear c3); (try clear c4); (try clear c6); (try clear p6); (try clear c7); (try clear c10); (try clear c12); (try clear c14); (try clear c16); (try clear c18); (try clear c20); (try clear c21); (try clear c24); (try clear tG); (try clear uG); (try clear c25); (try clear c29); (try clear vG); (try clear wG); (try clear c30); (try clear c34); (try clear xG); (try clear yG); (try clear c35); (try clear c40); (try clear c41); (try clear c42); (try clear vA); (try clear zG); (try clear c43); (try clear c45); (try clear IA); (try clear JA); (try clear KA); (try clear LA); (try clear MA); (try clear NA); (try clear OA); (try clear PA); (try clear QA); (try clear RA); (try clear cB); (try clear dB); (try clear eB); (try clear fB); (try clear gB); (try clear hB); (try clear iB); (try clear jB); (try clear kB); (try clear lB); (try clear wB); (try clear xB); (try clear yB); (try clear zB); (try clear AB); (try clear BB); (try clear CB); (try clear DB); (try clear EB); (try clear FB); (try clear oC); (try clear pC); (try clear qC); (try clear rC); (try clear wC); (try clear xC); (try clear yC); (try clear zC); (try clear AC); (try clear BC); (try clear CC); (try clear DC); (try clear EC); (try clear FC); (try clear QC); (try clear RC); (try clear SC); (try clear TC); (try clear UC); (try clear VC); (try clear WC); (try clear XC); (try clear YC); (try clear ZC); (try clear kD); (try clear lD); (try clear mD); (try clear nD); (try clear sD); (try clear tD); (try clear uD); (try clear vD); (try clear wD); (try clear xD); (try clear yD); (try clear zD); (try clear AD); (try clear BD); (try clear MD); (try clear ND); (try clear OD); (try clear PD); (try clear QD); (try clear RD); (try clear SD); (try clear TD); (try clear UD); (try clear VD); (try clear gE); (try clear hE); (try clear iE); (try clear jE); (try clear oE); (try clear pE); (try clear qE); (try clear rE); (try clear sE); (try clear tE); (try clear uE); (try clear vE); (try clear wE); (try clear xE); (try clear IE); (try clear JE); (try clear KE); (try clear LE); (try clear ME); (try clear NE); (try clear OE); (try clear PE); (try clear QE); (try clear RE); (try clear cF); (try clear dF); (try clear eF); (try clear fF); (try clear kF); (try clear lF); (try clear mF); (try clear nF); (try clear oF); (try clear pF); (try clear qF); (try clear rF); (try clear sF); (try clear tF); (try clear EF); (try clear FF); (try clear GF); (try clear HF); (try clear IF); (try clear JF); (try clear KF); (try clear LF); (try clear MF); (try clear NF); (try clear YF); (try clear ZF); (try clear aG); (try clear bG); (try clear cG); (try clear dG); (try clear eG); (try clear fG); (try clear gG); (try clear hG); (try clear UB); (try clear VB); (try clear WB); (try clear XB); (try clear YB); (try clear ZB); (try clear aC); (try clear bC); (try clear cC); (try clear dC); (try clear SA); (try clear TA); (try clear UA); (try clear VA); (try clear WA); (try clear XA); (try clear YA); (try clear ZA); (try clear aB); (try clear bB); (try clear mB); (try clear nB); (try clear oB); (try clear pB); (try clear qB); (try clear rB); (try clear sB); (try clear tB); (try clear uB); (try clear vB); (try clear GB); (try clear IB); (try clear JB); (try clear KB); (try clear LB); (try clear MB); (try clear NB); (try clear OB); (try clear PB); (try clear QB); (try clear sC); (try clear tC); (try clear uC); (try clear vC); (try clear GC); (try clear HC); (try clear IC); (try clear JC); (try clear KC); (try clear LC); (try clear MC); (try clear NC); (try clear OC); (try clear PC); (try clear aD); (try clear bD); (try clear cD); (try clear dD); (try clear eD); (try clear fD); (try clear gD); (try clear hD); (try clear iD); (try clear jD); (try clear oD); (try clear pD); (try clear qD); (try clear rD); (try clear CD); (try clear DD); (try clear ED); (try clear FD); (try clear GD); (try clear HD); (try clear ID); (try clear JD); (try clear KD); (try clear LD); (try clear WD); (try clear XD); (try clear YD); (try clear ZD); (try clear aE); (try clear bE); (try clear cE); (try clear dE); (try clear eE); (try clear fE); (try clear kE); (try clear lE); (try clear mE); (try clear nE); (try clear yE); (try clear zE); (try clear AE); (try clear BE); (try clear CE); (try clear DE); (try clear EE); (try clear FE); (try clear GE); (try clear HE); (try clear SE); (try clear TE); (try clear UE); (try clear VE); (try clear WE); (try clear XE); (try clear YE); (try clear ZE); (try clear aF); (try clear bF); (try clear gF); (try clear hF); (try clear iF); (try clear jF); (try clear uF); (try clear vF); (try clear wF); (try clear xF); (try clear yF); (try clear zF); (try clear AF); (try clear BF); (try clear CF); (try clear DF); (try clear OF); (try clear PF); (try clear QF); (try clear RF); (try clear SF); (try clear TF); (try clear UF); (try clear VF); (try clear WF); (try clear XF); (try clear iG); (try clear jG); (try clear kG); (try clear lG); (try clear mG); (try clear nG); (try clear oG); (try clear pG); (try clear qG); (try clear rG); (try clear eC); (try clear fC); (try clear gC); (try clear hC); (try clear iC); (try clear jC); (try clear kC); (try clear lC); (try clear mC); (try clear nC); (try clear p2)
        obtain ⟨kq, CA, rfl, HA, HJ38, aA, cA, HB⟩ := hcut
        cases kq with
        | zero => exact absurd HA.out (by simp [impl_RiAct.j1])
        | succ kj38 =>
         have H := HA.out
         clear HA
         simp only [impl_RiAct.j1] at H
         by_cases c47 : CA = true
         ·subst c47
          rw [if_pos rfl] at H
          simp only [Option.some.injEq, Prod.mk.injEq] at H
          obtain ⟨rfl, rfl, rfl, rfl, rfl⟩ := H
          have nJ := gA.out
          have oJ := hA.out
          have GG : wc.cell? ⟨bA, 0, none⟩ = some (.int .i64 fA) := (blk_cell aA.out 0).trans rfl
          have HG : wc.cell? ⟨bA, 1, none⟩ = some (.int .i64 jA) := (blk_cell aA.out 1).trans rfl
          have IG : wc.cell? ⟨bA, 2, none⟩ = some (.int .i64 kA) := (blk_cell aA.out 2).trans rfl
          have JG : wc.cell? ⟨bA, 3, none⟩ = some (.int .i64 eA) := (blk_cell aA.out 3).trans rfl
          have KG : wc.cell? ⟨bA, 4, none⟩ = some (.int .i64 iA) := (blk_cell aA.out 4).trans rfl
          have LG : wc.cell? ⟨bA, 5, none⟩ = some (.int .i64 lA) := (blk_cell aA.out 5).trans rfl
          have MG : wc.cell? ⟨bA, 6, none⟩ = some (.int .i64 mA) := (blk_cell aA.out 6).trans rfl
          have NG : wc.cell? ⟨bA, 7, none⟩ = some (.int .i64 nA) := (blk_cell aA.out 7).trans rfl
          have OG : wc.cell? ⟨bA, 8, none⟩ = some (.int .i64 oA) := (blk_cell aA.out 8).trans rfl
          have PG : wc.cell? ⟨bA, 9, none⟩ = some (.bool pA) := (blk_cell aA.out 9).trans rfl
          have QG := blk_frozen aA.out 0
          have RG := blk_frozen aA.out 1
          have SG := blk_frozen aA.out 2
          have TG := blk_frozen aA.out 3
          have UG := blk_frozen aA.out 4
          have VG := blk_frozen aA.out 5
          have WG := blk_frozen aA.out 6
          have XG := blk_frozen aA.out 7
          have YG := blk_frozen aA.out 8
          have ZG := blk_frozen aA.out 9
          have aH : wc.cell? ⟨dA, 0, none⟩ = some (.int .i64 0) := (blk_cell cA.out 0).trans rfl
          have bH : wc.cell? ⟨dA, 1, none⟩ = some (.int .i64 0) := (blk_cell cA.out 1).trans rfl
          have cH : wc.cell? ⟨dA, 2, none⟩ = some (.int .i64 0) := (blk_cell cA.out 2).trans rfl
          have dH : wc.cell? ⟨dA, 3, none⟩ = some (.int .i64 0) := (blk_cell cA.out 3).trans rfl
          have eH := blk_frozen cA.out 0
          have fH := blk_frozen cA.out 1
          have gH := blk_frozen cA.out 2
          have hH := blk_frozen cA.out 3
          go_wp2
          refine bodyPost_ret (results_ct rfl _ _ dA 37 #[.int .i64 2, .int .i64 (wrap64 ((wrap64 (2 + (wrap64 (2 * qA)))) + 1)), .int .i64 jA, .int .i64 0] (0, 0) _ rfl (by (with_reducible repeat (first | refine blk_drewN ?_ _ | refine blk_drew ?_ | refine blk_alloc ?_ _)); refine blk_put (cs := #[.int .i64 2, .int .i64 (wrap64 ((wrap64 (2 + (wrap64 (2 * qA)))) + 1)), .int .i64 jA, .int .i64 0]) ?_ 3 _ rfl; (with_reducible repeat (first | refine blk_drewN ?_ _ | refine blk_drew ?_ | refine blk_alloc ?_ _)); refine blk_put (cs := #[.int .i64 2, .int .i64 (wrap64 ((wrap64 (2 + (wrap64 (2 * qA)))) + 1)), .int .i64 0, .int .i64 0]) ?_ 2 _ rfl; (with_reducible repeat (first | refine blk_drewN ?_ _ | refine blk_drew ?_ | refine blk_alloc ?_ _)); refine blk_put (cs := #[.int .i64 2, .int .i64 0, .int .i64 0, .int .i64 0]) ?_ 1 _ rfl; (with_reducible repeat (first | refine blk_drewN ?_ _ | refine blk_drew ?_ | refine blk_alloc ?_ _)); refine blk_put (cs := #[.int .i64 0, .int .i64 0, .int .i64 0, .int .i64 0]) ?_ 0 _ rfl; (with_reducible repeat (first | refine blk_drewN ?_ _ | refine blk_drew ?_ | refine blk_alloc ?_ _)); exact cA.out) Try.underlying37 rfl (by kernel_rfl)) rfl ?_
          exact ⟨q2_3, q2_0⟩
         ·replace c47 := Bool.eq_false_iff.mpr c47
          subst c47
          rw [if_neg (show ¬ (false = true) by decide)] at H
          by_cases c51 : eA = 3
          ·rw [if_pos c51] at H
           have CG : (eA == 3) = true := beq_iff_eq.mpr c51
           have DG : (eA != 3) = false := bne_eq_false_iff_eq.mpr c51
           clear c51
           simp only [Option.some.injEq, Prod.mk.injEq] at H
           obtain ⟨rfl, rfl, rfl, rfl, rfl⟩ := H
           have pJ := gA.out
           have qJ := hA.out
           have iH : wc.cell? ⟨bA, 0, none⟩ = some (.int .i64 fA) := (blk_cell aA.out 0).trans rfl
           have jH : wc.cell? ⟨bA, 1, none⟩ = some (.int .i64 jA) := (blk_cell aA.out 1).trans rfl
           have kH : wc.cell? ⟨bA, 2, none⟩ = some (.int .i64 kA) := (blk_cell aA.out 2).trans rfl
           have lH : wc.cell? ⟨bA, 3, none⟩ = some (.int .i64 eA) := (blk_cell aA.out 3).trans rfl
           have mH : wc.cell? ⟨bA, 4, none⟩ = some (.int .i64 iA) := (blk_cell aA.out 4).trans rfl
           have nH : wc.cell? ⟨bA, 5, none⟩ = some (.int .i64 lA) := (blk_cell aA.out 5).trans rfl
           have oH : wc.cell? ⟨bA, 6, none⟩ = some (.int .i64 mA) := (blk_cell aA.out 6).trans rfl
           have pH : wc.cell? ⟨bA, 7, none⟩ = some (.int .i64 nA) := (blk_cell aA.out 7).trans rfl
           have qH : wc.cell? ⟨bA, 8, none⟩ = some (.int .i64 oA) := (blk_cell aA.out 8).trans rfl
           have rH : wc.cell? ⟨bA, 9, none⟩ = some (.bool pA) := (blk_cell aA.out 9).trans rfl
           have sH := blk_frozen aA.out 0
           have tH := blk_frozen aA.out 1
           have uH := blk_frozen aA.out 2
           have vH := blk_frozen aA.out 3
           have wH := blk_frozen aA.out 4
           have xH := blk_frozen aA.out 5
           have yH := blk_frozen aA.out 6
           have zH := blk_frozen aA.out 7
           have AH := blk_frozen aA.out 8
           have BH := blk_frozen aA.out 9
           have CH : wc.cell? ⟨dA, 0, none⟩ = some (.int .i64 0) := (blk_cell cA.out 0).trans rfl
           have DH : wc.cell? ⟨dA, 1, none⟩ = some (.int .i64 0) := (blk_cell cA.out 1).trans rfl
           have EH : wc.cell? ⟨dA, 2, none⟩ = some (.int .i64 0) := (blk_cell cA.out 2).trans rfl
           have FH : wc.cell? ⟨dA, 3, none⟩ = some (.int .i64 0) := (blk_cell cA.out 3).trans rfl
           have GH := blk_frozen cA.out 0
           have HH := blk_frozen cA.out 1
           have IH := blk_frozen cA.out 2
           have JH := blk_frozen cA.out 3
           go_wp2
           refine bodyPost_ret (results_ct rfl _ _ dA 37 #[.int .i64 1, .int .i64 (wrap64 ((wrap64 (2 + (wrap64 (2 * qA)))) + 1)), .int .i64 0, .int .i64 0] (0, 0) _ rfl (by (with_reducible repeat (first | refine blk_drewN ?_ _ | refine blk_drew ?_ | refine blk_alloc ?_ _)); refine blk_put (cs := #[.int .i64 1, .int .i64 (wrap64 ((wrap64 (2 + (wrap64 (2 * qA)))) + 1)), .int .i64 0, .int .i64 0]) ?_ 3 _ rfl; (with_reducible repeat (first | refine blk_drewN ?_ _ | refine blk_drew ?_ | refine blk_alloc ?_ _)); refine blk_put (cs := #[.int .i64 1, .int .i64 (wrap64 ((wrap64 (2 + (wrap64 (2 * qA)))) + 1)), .int .i64 0, .int .i64 0]) ?_ 2 _ rfl; (with_reducible repeat (first | refine blk_drewN ?_ _ | refine blk_drew ?_ | refine blk_alloc ?_ _)); refine blk_put (cs := #[.int .i64 1, .int .i64 0, .int .i64 0, .int .i64 0]) ?_ 1 _ rfl; (with_reducible repeat (first | refine blk_drewN ?_ _ | refine blk_drew ?_ | refine blk_alloc ?_ _)); refine blk_put (cs := #[.int .i64 0, .int .i64 0, .int .i64 0, .int .i64 0]) ?_ 0 _ rfl; (with_reducible repeat (first | refine blk_drewN ?_ _ | refine blk_drew ?_ | refine blk_alloc ?_ _)); exact cA.out) Try.underlying37 rfl (by kernel_rfl)) rfl ?_
           exact ⟨q2_3, q2_0⟩
          ·rw [if_neg c51] at H
           have CG : (eA == 3) = false := beq_eq_false_iff_ne.mpr c51
           have DG : (eA != 3) = true := bne_iff_ne.mpr c51
           by_cases c55 : fA = 1
           ·rw [if_pos c55] at H
            have EG : (fA == 1) = true := beq_iff_eq.mpr c55
            have FG : (fA != 1) = false := bne_eq_false_iff_eq.mpr c55
            clear c55
            simp only [Option.some.injEq, Prod.mk.injEq] at H
            obtain ⟨rfl, rfl, rfl, rfl, rfl⟩ := H
            have rJ := gA.out
            have sJ := hA.out
            have KH : wc.cell? ⟨bA, 0, none⟩ = some (.int .i64 fA) := (blk_cell aA.out 0).trans rfl
            have LH : wc.cell? ⟨bA, 1, none⟩ = some (.int .i64 jA) := (blk_cell aA.out 1).trans rfl
            have MH : wc.cell? ⟨bA, 2, none⟩ = some (.int .i64 kA) := (blk_cell aA.out 2).trans rfl
            have NH : wc.cell? ⟨bA, 3, none⟩ = some (.int .i64 eA) := (blk_cell aA.out 3).trans rfl
            have OH : wc.cell? ⟨bA, 4, none⟩ = some (.int .i64 iA) := (blk_cell aA.out 4).trans rfl
            have PH : wc.cell? ⟨bA, 5, none⟩ = some (.int .i64 lA) := (blk_cell aA.out 5).trans rfl
            have QH : wc.cell? ⟨bA, 6, none⟩ = some (.int .i64 mA) := (blk_cell aA.out 6).trans rfl
            have RH : wc.cell? ⟨bA, 7, none⟩ = some (.int .i64 nA) := (blk_cell aA.out 7).trans rfl
            have SH : wc.cell? ⟨bA, 8, none⟩ = some (.int .i64 oA) := (blk_cell aA.out 8).trans rfl
            have TH : wc.cell? ⟨bA, 9, none⟩ = some (.bool pA) := (blk_cell aA.out 9).trans rfl
            have UH := blk_frozen aA.out 0
            have VH := blk_frozen aA.out 1
            have WH := blk_frozen aA.out 2
            have XH := blk_frozen aA.out 3
            have YH := blk_frozen aA.out 4
            have ZH := blk_frozen aA.out 5
            have aI := blk_frozen aA.out 6
            have bI := blk_frozen aA.out 7
            have cI := blk_frozen aA.out 8
            have dI := blk_frozen aA.out 9
            have eI : wc.cell? ⟨dA, 0, none⟩ = some (.int .i64 0) := (blk_cell cA.out 0).trans rfl
            have fI : wc.cell? ⟨dA, 1, none⟩ = some (.int .i64 0) := (blk_cell cA.out 1).trans rfl
            have gI : wc.cell? ⟨dA, 2, none⟩ = some (.int .i64 0) := (blk_cell cA.out 2).trans rfl
            have hI : wc.cell? ⟨dA, 3, none⟩ = some (.int .i64 0) := (blk_cell cA.out 3).trans rfl
            have iI := blk_frozen cA.out 0
            have jI := blk_frozen cA.out 1
            have kI := blk_frozen cA.out 2
            have lI := blk_frozen cA.out 3
            go_wp2
            refine bodyPost_ret (results_ct rfl _ _ dA 37 #[.int .i64 2, .int .i64 (wrap64 (2 + (wrap64 (2 * qA)))), .int .i64 (wrap64 (iA + 1)), .int .i64 0] (0, 0) _ rfl (by (with_reducible repeat (first | refine blk_drewN ?_ _ | refine blk_drew ?_ | refine blk_alloc ?_ _)); refine blk_put (cs := #[.int .i64 2, .int .i64 (wrap64 (2 + (wrap64 (2 * qA)))), .int .i64 (wrap64 (iA + 1)), .int .i64 0]) ?_ 3 _ rfl; (with_reducible repeat (first | refine blk_drewN ?_ _ | refine blk_drew ?_ | refine blk_alloc ?_ _)); refine blk_put (cs := #[.int .i64 2, .int .i64 (wrap64 (2 + (wrap64 (2 * qA)))), .int .i64 0, .int .i64 0]) ?_ 2 _ rfl; (with_reducible repeat (first | refine blk_drewN ?_ _ | refine blk_drew ?_ | refine blk_alloc ?_ _)); refine blk_put (cs := #[.int .i64 2, .int .i64 0, .int .i64 0, .int .i64 0]) ?_ 1 _ rfl; (with_reducible repeat (first | refine blk_drewN ?_ _ | refine blk_drew ?_ | refine blk_alloc ?_ _)); refine blk_put (cs := #[.int .i64 0, .int .i64 0, .int .i64 0, .int .i64 0]) ?_ 0 _ rfl; (with_reducible repeat (first | refine blk_drewN ?_ _ | refine blk_drew ?_ | refine blk_alloc ?_ _)); exact cA.out) Try.underlying37 rfl (by kernel_rfl)) rfl ?_
            exact ⟨q2_3, q2_0⟩
           ·rw [if_neg c55] at H
            have EG : (fA == 1) = false := beq_eq_false_iff_ne.mpr c55
            have FG : (fA != 1) = true := bne_iff_ne.mpr c55
            simp only [Option.some.injEq, Prod.mk.injEq] at H
            obtain ⟨rfl, rfl, rfl, rfl, rfl⟩ := H
            have tJ := gA.out
            have uJ := hA.out
            have mI : wc.cell? ⟨bA, 0, none⟩ = some (.int .i64 fA) := (blk_cell aA.out 0).trans rfl
            have nI : wc.cell? ⟨bA, 1, none⟩ = some (.int .i64 jA) := (blk_cell aA.out 1).trans rfl
            have oI : wc.cell? ⟨bA, 2, none⟩ = some (.int .i64 kA) := (blk_cell aA.out 2).trans rfl
            have pI : wc.cell? ⟨bA, 3, none⟩ = some (.int .i64 eA) := (blk_cell aA.out 3).trans rfl
            have qI : wc.cell? ⟨bA, 4, none⟩ = some (.int .i64 iA) := (blk_cell aA.out 4).trans rfl
            have rI : wc.cell? ⟨bA, 5, none⟩ = some (.int .i64 lA) := (blk_cell aA.out 5).trans rfl
            have sI : wc.cell? ⟨bA, 6, none⟩ = some (.int .i64 mA) := (blk_cell aA.out 6).trans rfl
            have tI : wc.cell? ⟨bA, 7, none⟩ = some (.int .i64 nA) := (blk_cell aA.out 7).trans rfl
            have uI : wc.cell? ⟨bA, 8, none⟩ = some (.int .i64 oA) := (blk_cell aA.out 8).trans rfl
            have vI : wc.cell? ⟨bA, 9, none⟩ = some (.bool pA) := (blk_cell aA.out 9).trans rfl
            have wI := blk_frozen aA.out 0
            have xI := blk_frozen aA.out 1
            have yI := blk_frozen aA.out 2
            have zI := blk_frozen aA.out 3
            have AI := blk_frozen aA.out 4
            have BI := blk_frozen aA.out 5
            have CI := blk_frozen aA.out 6
            have DI := blk_frozen aA.out 7
            have EI := blk_frozen aA.out 8
            have FI := blk_frozen aA.out 9
            have GI : wc.cell? ⟨dA, 0, none⟩ = some (.int .i64 0) := (blk_cell cA.out 0).trans rfl
            have HI : wc.cell? ⟨dA, 1, none⟩ = some (.int .i64 0) := (blk_cell cA.out 1).trans rfl
            have II : wc.cell? ⟨dA, 2, none⟩ = some (.int .i64 0) := (blk_cell cA.out 2).trans rfl
            have JI : wc.cell? ⟨dA, 3, none⟩ = some (.int .i64 0) := (blk_cell cA.out 3).trans rfl
            have KI := blk_frozen cA.out 0
            have LI := blk_frozen cA.out 1
            have MI := blk_frozen cA.out 2
            have NI := blk_frozen cA.out 3
            go_wp2
            refine bodyPost_ret (results_ct rfl _ _ dA 37 #[.int .i64 2, .int .i64 (wrap64 (2 + (wrap64 (2 * qA)))), .int .i64 (wrap64 (iA + a0)), .int .i64 0] (0, 0) _ rfl (by (with_reducible repeat (first | refine blk_drewN ?_ _ | refine blk_drew ?_ | refine blk_alloc ?_ _)); refine blk_put (cs := #[.int .i64 2, .int .i64 (wrap64 (2 + (wrap64 (2 * qA)))), .int .i64 (wrap64 (iA + a0)), .int .i64 0]) ?_ 3 _ rfl; (with_reducible repeat (first | refine blk_drewN ?_ _ | refine blk_drew ?_ | refine blk_alloc ?_ _)); refine blk_put (cs := #[.int .i64 2, .int .i64 (wrap64 (2 + (wrap64 (2 * qA)))), .int .i64 0, .int .i64 0]) ?_ 2 _ rfl; (with_reducible repeat (first | refine blk_drewN ?_ _ | refine blk_drew ?_ | refine blk_alloc ?_ _)); refine blk_put (cs := #[.int .i64 2, .int .i64 0, .int .i64 0, .int .i64 0]) ?_ 1 _ rfl; (with_reducible repeat (first | refine blk_drewN ?_ _ | refine blk_drew ?_ | refine blk_alloc ?_ _)); refine blk_put (cs := #[.int .i64 0, .int .i64 0, .int .i64 0, .int .i64 0]) ?_ 0 _ rfl; (with_reducible repeat (first | refine blk_drewN ?_ _ | refine blk_drew ?_ | refine blk_alloc ?_ _)); exact cA.out) Try.underlying37 rfl (by kernel_rfl)) rfl ?_
            exact ⟨q2_3, q2_0⟩

end Go.Proofs.Ytfahmmlkcmadeaa.PFnRingOne
