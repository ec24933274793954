-- Written by the session's own patched copy of the printer (wip/patch_print.py).
import Derived.Test.YtndkfjecipjiaaaPFnExactCrewOkx0
import Derived.Test.YtndkfjecipjiaaaPFnExactCrewOkx3
import Derived.Test.YtndkfjecipjiaaaPFnExactCrewOkx4
import Derived.Test.YtndkfjecipjiaaaPFnExactCrewOkx7
import Derived.Test.YtndkfjecipjiaaaPFnExactCrewOkx8
import Derived.Test.YtndkfjecipjiaaaPFnExactCrewOkx9
import Derived.Test.YtndkfjecipjiaaaPFnExactCrewOkx10
namespace Go.Proofs.Ytndkfjecipjiaaa.PFnExactCrewOk
open Go.RowKit Go.Proofs.YtndkfjecipjiaaaW.PrintWords Go.Proofs.YtndkfjecipjiaaaW.PrintLast Go.Proofs.YtndkfjecipjiaaaW.PrintMore
attribute [local go_sem] max2_int min2_int max_two min_two max_three min_three max_four min_four   -- for this text's walks alone
set_option linter.unusedVariables false
set_option linter.unusedSimpArgs false

open Bool renaming true → T, false → F
theorem q11_0 {p : Prop} (h : p := by repeat (first | (with_reducible first | exact HB.out | apply below_alloc | apply pw_below_drewN | apply below_drew1 | refine below_set ?_ WC.out | refine below_set ?_ rD.out | refine below_set ?_ sD.out) | exact HB.out)) : p := h
theorem q11_1 {p : Prop} (h : p := by repeat (first | (with_reducible first | exact HB.out | apply below_alloc | apply pw_below_drewN | apply below_drew1 | refine below_set ?_ WC.out | refine below_set ?_ rD.out) | exact HB.out)) : p := h
theorem q11_2 {p : Prop} (h : p := by repeat (first | (with_reducible first | exact HB.out | apply below_alloc | apply pw_below_drewN | apply below_drew1 | refine below_set ?_ XC.out) | exact HB.out)) : p := h
theorem q11_3 {p : Prop} (h : p := by (try simp only [List.map_toArray, List.map_cons, List.map_nil]); first | done | rfl | (simp only [List.length_drop, List.length_take]; rfl)) : p := h
theorem q11_4 {p : Prop} (h : p := by (with_reducible repeat (first | refine blk_drewN ?_ _ | refine blk_drew ?_ | refine blk_alloc ?_ _)); exact bA.out) : p := h
theorem q11_5 {p : Prop} (h : p := by (with_reducible repeat (first | refine blk_drewN ?_ _ | refine blk_drew ?_ | refine blk_alloc ?_ _)); refine blk_put (cs := #[.slice IA ((rd_T55 aA iA).f0).length JA, .int .i64 ((rd_T55 aA iA).f1), .slice WA ((rd_T55 aA iA).f2).length XA, .slice none 0 0]) ?_ 3 _ rfl; (with_reducible repeat (first | refine blk_drewN ?_ _ | refine blk_drew ?_ | refine blk_alloc ?_ _)); refine blk_put (cs := #[.slice IA ((rd_T55 aA iA).f0).length JA, .int .i64 ((rd_T55 aA iA).f1), .slice none 0 0, .slice none 0 0]) ?_ 2 _ rfl; (with_reducible repeat (first | refine blk_drewN ?_ _ | refine blk_drew ?_ | refine blk_alloc ?_ _)); refine blk_put (cs := #[.slice IA ((rd_T55 aA iA).f0).length JA, .int .i64 0, .slice none 0 0, .slice none 0 0]) ?_ 1 _ rfl; (with_reducible repeat (first | refine blk_drewN ?_ _ | refine blk_drew ?_ | refine blk_alloc ?_ _)); refine blk_put (cs := #[.slice none 0 0, .int .i64 0, .slice none 0 0, .slice none 0 0]) ?_ 0 _ rfl; (with_reducible repeat (first | refine blk_drewN ?_ _ | refine blk_drew ?_ | refine blk_alloc ?_ _)); exact sA.out) : p := h
theorem q11_6 {p : Prop} (h : p := by repeat (first | (with_reducible first | exact HB.out | apply below_alloc | apply pw_below_drewN | apply below_drew1) | exact HB.out)) : p := h
theorem q11_7 {p : Prop} (h : p := by (with_reducible repeat (first | refine blk_drewN ?_ _ | refine blk_drew ?_ | refine blk_alloc ?_ _)); exact cA.out) : p := h
theorem q11_8 {p : Prop} (h : p := by repeat (first | (with_reducible first | exact HB.out | apply below_alloc | apply pw_below_drewN | apply below_drew1 | refine below_set ?_ XC.out | refine below_set ?_ GD.out) | exact HB.out)) : p := h
theorem q11_9 {p : Prop} (h : p := by (with_reducible repeat (first | refine blk_drewN ?_ _ | refine blk_drew ?_ | refine blk_alloc ?_ _)); refine blk_put (cs := #[.slice none 0 0]) ?_ 0 _ rfl; (with_reducible repeat (first | refine blk_drewN ?_ _ | refine blk_drew ?_ | refine blk_alloc ?_ _)); exact uA.out) : p := h
theorem q11_10 {p : Prop} (h : p := by (with_reducible repeat (first | refine blk_drewN ?_ _ | refine blk_drew ?_ | refine blk_alloc ?_ _)); exact uA.out) : p := h
theorem q11_11 {p : Prop} (h : p := by (with_reducible repeat (first | apply Kd.R_alloc | apply Kd.R_drewN | apply Kd.R_drew)); exact Kd.R_mono (Kd.R_far (p := ⟨tA, 0, none⟩) (Kd.R_types WB.out uA.out (by decide)) (fun _ hk => hk.2) (.slice TC EA.length UC)) (fun _ hk => trivial)) : p := h
theorem q11_12 {p : Prop} (h : p := by (with_reducible repeat (first | refine blk_drewN ?_ _ | refine blk_drew ?_ | refine blk_alloc ?_ _)); refine blk_far ?_ wA.out _; (with_reducible repeat (first | refine blk_drewN ?_ _ | refine blk_drew ?_ | refine blk_alloc ?_ _)); exact bA.out) : p := h
theorem q11_13 {p : Prop} (h : p := by repeat (first | exact (Kd.C_below oC.out HB.out) | (with_reducible refine Kd.C_alloc ?_ _) | (with_reducible refine Kd.C_drewN ?_ _) | (with_reducible refine Kd.C_drew ?_))) : p := h
theorem q11_14 {p : Prop} (h : p := by repeat (first | exact (Kd.C_below AB.out HB.out) | (with_reducible refine Kd.C_alloc ?_ _) | (with_reducible refine Kd.C_drewN ?_ _) | (with_reducible refine Kd.C_drew ?_))) : p := h
theorem q11_15 {p : Prop} (h : p := by repeat (first | (with_reducible first | exact HB.out | apply below_alloc | apply pw_below_drewN | apply below_drew1 | refine below_set ?_ WC.out) | exact HB.out)) : p := h
theorem q11_16 {p : Prop} (h : p := by (with_reducible repeat (first | apply Kd.R_alloc | apply Kd.R_drewN | apply Kd.R_drew)); exact xA.out) : p := h
theorem q11_17 {p : Prop} (h : p := by (with_reducible repeat (first | apply Kd.R_alloc | apply Kd.R_drewN | apply Kd.R_drew)); exact (Kd.R_mono (Kd.R_far (p := ⟨pA, 3, none⟩) (Kd.R_far (p := ⟨pA, 2, none⟩) (Kd.R_far (p := ⟨pA, 1, none⟩) (Kd.R_far (p := ⟨pA, 0, none⟩) (Kd.R_types qA.out sA.out (by decide)) (fun _ hk => hk.2) (.slice IA ((rd_T55 aA iA).f0).length JA)) (fun _ hk => hk.2) (.int .i64 ((rd_T55 aA iA).f1))) (fun _ hk => hk.2) (.slice WA ((rd_T55 aA iA).f2).length XA)) (fun _ hk => hk.2) (.slice hB ((rd_T55 aA iA).f3).length iB)) (fun _ h_ => h_.1))) : p := h
theorem q11_18 {p : Prop} (h : p := by (with_reducible repeat (first | apply Kd.R_alloc | apply Kd.R_drewN | apply Kd.R_drew)); exact (Kd.R_mono (Kd.R_far (p := ⟨lA, 4, none⟩) (Kd.R_far (p := ⟨lA, 3, none⟩) (Kd.R_far (p := ⟨lA, 2, none⟩) (Kd.R_far (p := ⟨lA, 1, none⟩) (Kd.R_far (p := ⟨lA, 0, none⟩) (Kd.R_types AA.out kA.out (by decide)) (fun _ hk => hk.2) (.int .i64 OA)) (fun _ hk => hk.2) (.int .i64 VA)) (fun _ hk => hk.2) (.slice jB PA.length ZA)) (fun _ hk => hk.2) (.slice wB YA.length rB)) (fun _ hk => hk.2) (.int .i64 kB)) (fun _ h_ => h_.1))) : p := h
theorem q11_19 {p : Prop} (h : p := by (with_reducible repeat (first | apply Kd.S_alloc | apply Kd.S_drewN | apply Kd.S_drew)); exact (Kd.S_mono (Kd.S_far (p := ⟨lA, 4, none⟩) (Kd.S_far (p := ⟨lA, 3, none⟩) (Kd.S_far (p := ⟨lA, 2, none⟩) (Kd.S_far (p := ⟨lA, 1, none⟩) (Kd.S_far (p := ⟨lA, 0, none⟩) (Kd.S_types BA.out kA.out (by decide)) (fun _ hk => hk.2) (.int .i64 OA)) (fun _ hk => hk.2) (.int .i64 VA)) (fun _ hk => hk.2) (.slice jB PA.length ZA)) (fun _ hk => hk.2) (.slice wB YA.length rB)) (fun _ hk => hk.2) (.int .i64 kB)) (fun _ h_ => h_.1))) : p := h
theorem q11_20 {p : Prop} (h : p := by (with_reducible repeat (first | apply Kd.S_alloc | apply Kd.S_drewN | apply Kd.S_drew)); exact yA.out) : p := h
theorem q11_21 {p : Prop} (h : p := by first | rfl | (simp [errW_none, errW_some] <;> rfl) | (simp [*, errW_none, errW_some] <;> rfl)) : p := h
theorem q11_22 {p : Prop} (h : p := by (with_reducible repeat (first | apply Kd.R_alloc | apply Kd.R_drewN | apply Kd.R_drew)); exact qA.out) : p := h
theorem q11_23 {p : Prop} (h : p := by (with_reducible repeat (first | apply Kd.R_alloc | apply Kd.R_drewN | apply Kd.R_drew)); exact AA.out) : p := h
theorem q11_24 {p : Prop} (h : p := by (iterate 4 ((with_reducible repeat (first | refine blk_drewN ?_ _ | refine blk_drew ?_ | refine blk_alloc ?_ _)); refine blk_far ?_ SA.out _)); (with_reducible repeat (first | refine blk_drewN ?_ _ | refine blk_drew ?_ | refine blk_alloc ?_ _)); exact bA.out) : p := h
theorem q11_25 {p : Prop} (h : p := by (iterate 4 ((with_reducible repeat (first | refine blk_drewN ?_ _ | refine blk_drew ?_ | refine blk_alloc ?_ _)); refine blk_far ?_ TA.out _)); (with_reducible repeat (first | refine blk_drewN ?_ _ | refine blk_drew ?_ | refine blk_alloc ?_ _)); exact uA.out) : p := h
theorem q11_26 {p : Prop} (h : p := by first | rfl | (simp; done) | (simp [*]; done)) : p := h
theorem q11_27 {p : Prop} (h : p := by (with_reducible repeat (first | apply Kd.S_alloc | apply Kd.S_drewN | apply Kd.S_drew)); exact BA.out) : p := h
/-! ### impl_CrewOk: function 23 -/
mutual
def impl_CrewOk.j0 : Nat → Bool → Int → Int → List Int → List (S55) → Int → Option (Bool)
 | 0, _, _, _, _, _, _ => none
 | k + 1, x37, sB, tB, uB, UA, vB => if x37 = true then (some false) else (impl_CrewOk.l0 k UA (UA.length : Int) 0 sB tB uB UA vB)
def impl_CrewOk.l0 : Nat → List (S55) → Int → Int → Int → Int → List Int → List (S55) → Int → Option (Bool)
 | 0, _, _, _, _, _, _, _, _ => none
 | k + 1, x39, x40, x41, sB, tB, uB, UA, vB => if x41 < x40 then (if 0 ≤ x41 then (if x41 < (x39.length : Int) then ((impl_threadOk.f k sB tB uB UA vB ((rd_T55 x39 x41).f0) ((rd_T55 x39 x41).f1) ((rd_T55 x39 x41).f2) ((rd_T55 x39 x41).f3)).bind fun uD => (if uD = true then (impl_CrewOk.l0 k x39 x40 (wrap64 (x41 + 1)) sB tB uB UA vB) else (some false))) else (none)) else (none)) else (some true)
end
def impl_CrewOk.f (k : Nat) (eA : Int) (fA : Int) (dA : List Int) (aA : List (S55)) (hA : Int) : Option (Bool) := (impl_cellsOf.f k eA fA false).bind fun XB => (if XB.2 = true then (if (XB.1.length : Int) = (dA.length : Int) then (if (aA.length : Int) > 6 then (impl_CrewOk.j0 k true eA fA dA aA hA) else (impl_CrewOk.j0 k (decide (hA < 0)) eA fA dA aA hA)) else (impl_CrewOk.j0 k true eA fA dA aA hA)) else (impl_CrewOk.j0 k true eA fA dA aA hA))
theorem impl_CrewOk.mono_l : ∀ k, (∀ y0 y1 y2 y3 y4 y5, LeO (impl_CrewOk.j0 k y0 y1 y2 y3 y4 y5) (impl_CrewOk.j0 (k + 1) y0 y1 y2 y3 y4 y5)) ∧ (∀ y0 y1 y2 y3 y4 y5 y6 y7, LeO (impl_CrewOk.l0 k y0 y1 y2 y3 y4 y5 y6 y7) (impl_CrewOk.l0 (k + 1) y0 y1 y2 y3 y4 y5 y6 y7))
 | 0 => ⟨fun _ _ _ _ _ _ r h => by simp [impl_CrewOk.j0] at h, fun _ _ _ _ _ _ _ _ r h => by simp [impl_CrewOk.l0] at h⟩
 | k + 1 => by
  obtain ⟨ih0, ih1⟩ := impl_CrewOk.mono_l k
  refine ⟨?_, ?_⟩
  ·intro y0 y1 y2 y3 y4 y5
   unfold impl_CrewOk.j0
   repeat' first
   | (with_reducible exact ih0 _ _ _ _ _ _)
   | (with_reducible exact ih1 _ _ _ _ _ _ _ _)
   | (with_reducible exact impl_cellsOf.mono _ _ _ _)
   | (with_reducible exact impl_threadOk.mono _ _ _ _ _ _ _ _ _ _)
   | (with_reducible exact LeO.refl _)
   | (with_reducible exact LeO.none _)
   | (with_reducible refine LeO.ite ?_ ?_)
   | (with_reducible refine LeO.bind ?_ (fun _ => ?_))
   | exact ih0 _ _ _ _ _ _
   | exact ih1 _ _ _ _ _ _ _ _
   | exact impl_cellsOf.mono _ _ _ _
   | exact impl_threadOk.mono _ _ _ _ _ _ _ _ _ _
   | exact LeO.none _
   | refine LeO.ite ?_ ?_
   | refine LeO.bind ?_ (fun _ => ?_)
  ·intro y0 y1 y2 y3 y4 y5 y6 y7
   unfold impl_CrewOk.l0
   repeat' first
   | (with_reducible exact ih0 _ _ _ _ _ _)
   | (with_reducible exact ih1 _ _ _ _ _ _ _ _)
   | (with_reducible exact impl_cellsOf.mono _ _ _ _)
   | (with_reducible exact impl_threadOk.mono _ _ _ _ _ _ _ _ _ _)
   | (with_reducible exact LeO.refl _)
   | (with_reducible exact LeO.none _)
   | (with_reducible refine LeO.ite ?_ ?_)
   | (with_reducible refine LeO.bind ?_ (fun _ => ?_))
   | exact ih0 _ _ _ _ _ _
   | exact ih1 _ _ _ _ _ _ _ _
   | exact impl_cellsOf.mono _ _ _ _
   | exact impl_threadOk.mono _ _ _ _ _ _ _ _ _ _
   | exact LeO.none _
   | refine LeO.ite ?_ ?_
   | refine LeO.bind ?_ (fun _ => ?_)
theorem impl_CrewOk.mono : ∀ a0 a1 a2 a3 a4 k, LeO (impl_CrewOk.f k a0 a1 a2 a3 a4) (impl_CrewOk.f (k + 1) a0 a1 a2 a3 a4) := by
 intro a0 a1 a2 a3 a4 k
 obtain ⟨ih0, ih1⟩ := impl_CrewOk.mono_l k
 unfold impl_CrewOk.f
 repeat' first
   | (with_reducible exact ih0 _ _ _ _ _ _)
   | (with_reducible exact ih1 _ _ _ _ _ _ _ _)
   | (with_reducible exact impl_cellsOf.mono _ _ _ _)
   | (with_reducible exact impl_threadOk.mono _ _ _ _ _ _ _ _ _ _)
   | (with_reducible exact LeO.refl _)
   | (with_reducible exact LeO.none _)
   | (with_reducible refine LeO.ite ?_ ?_)
   | (with_reducible refine LeO.bind ?_ (fun _ => ?_))
   | exact ih0 _ _ _ _ _ _
   | exact ih1 _ _ _ _ _ _ _ _
   | exact impl_cellsOf.mono _ _ _ _
   | exact impl_threadOk.mono _ _ _ _ _ _ _ _ _ _
   | exact LeO.none _
   | refine LeO.ite ?_ ?_
   | refine LeO.bind ?_ (fun _ => ?_)
set_option maxHeartbeats 8000000 in
set_option maxRecDepth 100000 in
theorem impl_CrewOk.calls (k : Nat) (eA : Int) (fA : Int) (mA : Option Addr) (nA : Nat) (dA : List Int) (rA : Option Addr) (oA : Nat) (aA : List (S55)) (hA : Int) (r : Bool) (w : World) (YB : Kd.C (Kd.int .i64) w mA dA.length dA) (ZB : dA.length ≤ nA) (aC : Kd.C k55 w rA aA.length aA) (bC : aA.length ≤ oA) (h : impl_CrewOk.f k eA fA dA aA hA = some r) :
  Calls Try.prog 23 #[.agg #[.int .i64 eA, .int .i64 fA, .slice mA dA.length nA, .slice rA aA.length oA, .int .i64 hA]] w fun e w' => e = .returned (.bool r) ∧ Below w.heap.size w w' := by
 have hu29 := Try.underlying29
 have hu26 := Try.underlying26
 have hu55 := Try.underlying55
 have oC := Aside0.mk YB
 have pB := Aside0.mk ZB
 clear YB ZB
 have AB := Aside0.mk aC
 have qB := Aside0.mk bC
 clear aC bC
 have HB := Aside0.mk (Below.refl w.heap.size w)
 have H : ((impl_cellsOf.f k eA fA false).bind fun XB => (if XB.2 = true then (if (XB.1.length : Int) = (dA.length : Int) then (if (aA.length : Int) > 6 then (impl_CrewOk.j0 k true eA fA dA aA hA) else (impl_CrewOk.j0 k (decide (hA < 0)) eA fA dA aA hA)) else (impl_CrewOk.j0 k true eA fA dA aA hA)) else (impl_CrewOk.j0 k true eA fA dA aA hA))) = some r := h
 clear h
 replace H := Option.bind_eq_some_iff.mp H
 obtain ⟨⟨EA, HD⟩, A20, H⟩ := H
 (try dsimp only at H)
 have A2 := Aside0.mk A20
 clear A20
 have HC3 := Aside0.mk H
 clear H
 go_enter Try.func23, Try.ntmps23
 go_upto_region 2 with (first | ((with_reducible refine gate_dst (N := 1) rfl ?_); (try (refine gate_guard (by rfl) ?_; dsimp only)); refine box_event ?hg (N := 1) ?hd (cs := #[.int .i64 eA, .int .i64 fA, .slice mA dA.length nA, .slice rA aA.length oA, .int .i64 hA]) (t := 29) ?hr ?_; (case hd => rfl); (case hg => rfl); (case hr => first | (go_simp; done) | (go_simp; rfl)); intro gA hg w4 hbox hb; have CA := Aside0.mk (below_step q11_6 hb); have DA := Aside0.mk (hbox); have FA := Aside0.mk ((by rw [hg]; exact (below_size q11_6) : w.heap.size ≤ gA)); have GA := Aside0.mk ((by rw [hg]; exact (below_size q11_6) : w.heap.size ≤ gA)); clear HB; have HB := CA; have bA := DA; have rF := FA; have WC := GA; clear CA DA FA GA; clear hb hbox hg; have eC : w4.cell? ⟨gA, 0, none⟩ = some (.int .i64 eA) := (blk_cell bA.out 0).trans rfl; have fC : w4.cell? ⟨gA, 1, none⟩ = some (.int .i64 fA) := (blk_cell bA.out 1).trans rfl; have gC : w4.cell? ⟨gA, 2, none⟩ = some (.slice mA dA.length nA) := (blk_cell bA.out 2).trans rfl; have hC : w4.cell? ⟨gA, 3, none⟩ = some (.slice rA aA.length oA) := (blk_cell bA.out 3).trans rfl; have iC : w4.cell? ⟨gA, 4, none⟩ = some (.int .i64 hA) := (blk_cell bA.out 4).trans rfl; have jC := blk_frozen bA.out 0; have kC := blk_frozen bA.out 1; have lC := blk_frozen bA.out 2; have mC := blk_frozen bA.out 3; have nC := blk_frozen bA.out 4) | ((with_reducible refine gate_callee (f := 50) rfl ?_); refine goesL_ (some 12) rfl rfl Try.func50 (by kernel_rfl) rfl #[.int .i64 eA, .int .i64 fA, .bool false] rfl q11_3 ?_; (with_reducible refine (impl_cellsOf.calls k eA fA false EA HD _ A2.out).mono ?_); rintro e w6 ⟨TF, rfl, ho0, hb⟩; refine ⟨_, rfl, ?_⟩; have CA := Aside0.mk (Kd.R_lower ho0 (below_size q11_15)); have DA := Aside0.mk (blk_below (g := gA) (o := .cells #[.int .i64 eA, .int .i64 fA, .slice mA dA.length nA, .slice rA aA.length oA, .int .i64 hA] 29 (0, 0)) q11_4 hb); have FA := Aside0.mk (below_step q11_15 hb); clear bA HB; have WB := CA; have bA := DA; have HB := FA; clear CA DA FA; (try clear hb); (try clear hb2); (try clear hk); (try clear hi); (try clear ho0)) | ((with_reducible refine gate_dst (N := 3) rfl ?_); (try (refine gate_guard (by rfl) ?_; dsimp only)); refine box_event ?hg (N := 3) ?hd (cs := #[.slice none 0 0]) (t := 26) ?hr ?_; (case hd => rfl); (case hg => rfl); (case hr => first | (go_simp; done) | (go_simp; rfl)); intro tA hg w7 hbox hb; have CA := Aside0.mk (Kd.R_below (by (with_reducible repeat (first | apply Kd.R_alloc | apply Kd.R_drewN | apply Kd.R_drew)); exact WB.out) hb); have DA := Aside0.mk (blk_below (g := gA) (o := .cells #[.int .i64 eA, .int .i64 fA, .slice mA dA.length nA, .slice rA aA.length oA, .int .i64 hA] 29 (0, 0)) q11_4 hb); have FA := Aside0.mk (below_step q11_15 hb); have GA := Aside0.mk (hbox); have aB := Aside0.mk ((by rw [hg]; exact (below_size q11_15) : w.heap.size ≤ tA)); have xB := Aside0.mk ((by rw [hg]; exact (below_size q11_15) : w.heap.size ≤ tA)); have yB := Aside0.mk ((by rw [hg]; exact Nat.ne_of_lt (blk_lt (g := gA) (o := .cells #[.int .i64 eA, .int .i64 fA, .slice mA dA.length nA, .slice rA aA.length oA, .int .i64 hA] 29 (0, 0)) q11_4) : gA ≠ tA)); have cC := Aside0.mk ((by rw [hg]; exact Nat.ne_of_gt (blk_lt (g := gA) (o := .cells #[.int .i64 eA, .int .i64 fA, .slice mA dA.length nA, .slice rA aA.length oA, .int .i64 hA] 29 (0, 0)) q11_4) : tA ≠ gA)); clear WB bA HB; have WB := CA; have bA := DA; have HB := FA; have uA := GA; have sF := aB; have rD := xB; have wA := yB; have zA := cC; clear CA DA FA GA aB xB yB cC; clear hb hbox hg; obtain ⟨TC, UC, UF⟩ := Kd.R_slice WB.out; subst UF; have VF := zA.out; have WF := wA.out; have pC : w7.cell? ⟨tA, 0, none⟩ = some (.slice none 0 0) := (blk_cell uA.out 0).trans rfl; have qC := blk_frozen uA.out 0))
 (try simp only [Act.put, List.setIfInBounds_toArray, List.set_cons_zero, List.set_cons_succ])
 go_cut [37] (fun v37 wc => ∃ (kq : Nat) (rC : Bool), v37 = .bool rC ∧ Aside0 (impl_CrewOk.j0 kq rC eA fA dA aA hA = some r) ∧ Aside0 (kq ≤ k) ∧ Aside0 (Kd.R (Kd.int .i64) 3 wc w.heap.size (fun _ => True) (.slice TC EA.length UC) EA) ∧ Aside0 (wc.heap[gA]? = some (.cells #[.int .i64 eA, .int .i64 fA, (.slice mA dA.length nA), (.slice rA aA.length oA), .int .i64 hA] 29 (0, 0))) ∧ Aside0 (wc.heap[tA]? = some (.cells #[(.slice TC EA.length UC)] 26 (0, 0))) ∧ Aside0 (Below w.heap.size w wc))
 case first =>
  have H := HC3.out
  clear HC3
  by_cases c11 : HD = true
  ·subst c11
   rw [if_pos rfl] at H
   by_cases c12 : (EA.length : Int) = (dA.length : Int)
   ·rw [if_pos c12] at H
    have zB : ((EA.length : Int) == (dA.length : Int)) = true := beq_iff_eq.mpr c12
    have YC : ((EA.length : Int) != (dA.length : Int)) = false := bne_eq_false_iff_eq.mpr c12
    have ZC : (EA.length == dA.length) = true := by first | simpa using c12 | (simp at c12 ⊢; omega)
    clear c12
    (first | rw [zB] | (simp only [i64_w, i32_w]; rw [zB]) | skip)
    by_cases c13 : (aA.length : Int) > 6
    ·rw [if_pos c13] at H
     have aD : decide (6 < (aA.length : Int)) = true := decide_eq_true c13
     have bD : decide (6 < aA.length) = true := decide_eq_true (by omega)
     clear c13
     have H' := Aside0.mk H
     clear H
     have tF := zA.out
     have uF := wA.out
     have sC : w7.cell? ⟨tA, 0, none⟩ = some (.slice none 0 0) := (blk_cell uA.out 0).trans rfl
     have tC := blk_frozen uA.out 0
     have CB : w7.cell? ⟨gA, 0, none⟩ = some (.int .i64 eA) := (blk_cell bA.out 0).trans rfl
     have DB : w7.cell? ⟨gA, 1, none⟩ = some (.int .i64 fA) := (blk_cell bA.out 1).trans rfl
     have EB : w7.cell? ⟨gA, 2, none⟩ = some (.slice mA dA.length nA) := (blk_cell bA.out 2).trans rfl
     have FB : w7.cell? ⟨gA, 3, none⟩ = some (.slice rA aA.length oA) := (blk_cell bA.out 3).trans rfl
     have GB : w7.cell? ⟨gA, 4, none⟩ = some (.int .i64 hA) := (blk_cell bA.out 4).trans rfl
     have IB := blk_frozen bA.out 0
     have JB := blk_frozen bA.out 1
     have KB := blk_frozen bA.out 2
     have LB := blk_frozen bA.out 3
     have MB := blk_frozen bA.out 4
     go_wp2
     go_meet
     case rel => exact ⟨_, (true), q11_26, H', ⟨by first | omega | exact Nat.le_refl _⟩, ⟨q11_11⟩, ⟨q11_12⟩, ⟨q11_9⟩, ⟨q11_1⟩⟩
    ·rw [if_neg c13] at H
     have aD : decide (6 < (aA.length : Int)) = false := decide_eq_false c13
     have bD : decide (6 < aA.length) = false := decide_eq_false (by omega)
     clear c13
     have H' := Aside0.mk H
     clear H
     have vF := zA.out
     have wF := wA.out
     have NB : w7.cell? ⟨tA, 0, none⟩ = some (.slice none 0 0) := (blk_cell uA.out 0).trans rfl
     have OB := blk_frozen uA.out 0
     have uC : w7.cell? ⟨gA, 0, none⟩ = some (.int .i64 eA) := (blk_cell bA.out 0).trans rfl
     have vC : w7.cell? ⟨gA, 1, none⟩ = some (.int .i64 fA) := (blk_cell bA.out 1).trans rfl
     have wC : w7.cell? ⟨gA, 2, none⟩ = some (.slice mA dA.length nA) := (blk_cell bA.out 2).trans rfl
     have xC : w7.cell? ⟨gA, 3, none⟩ = some (.slice rA aA.length oA) := (blk_cell bA.out 3).trans rfl
     have yC : w7.cell? ⟨gA, 4, none⟩ = some (.int .i64 hA) := (blk_cell bA.out 4).trans rfl
     have zC := blk_frozen bA.out 0
     have AC := blk_frozen bA.out 1
     have BC := blk_frozen bA.out 2
     have CC := blk_frozen bA.out 3
     have DC := blk_frozen bA.out 4
     go_wp2
     go_meet
     case rel => exact ⟨_, (decide (hA < 0)), q11_26, H', ⟨by first | omega | exact Nat.le_refl _⟩, ⟨q11_11⟩, ⟨q11_12⟩, ⟨q11_9⟩, ⟨q11_1⟩⟩
   ·rw [if_neg c12] at H
    have zB : ((EA.length : Int) == (dA.length : Int)) = false := beq_eq_false_iff_ne.mpr c12
    have YC : ((EA.length : Int) != (dA.length : Int)) = true := bne_iff_ne.mpr c12
    have ZC : (EA.length == dA.length) = false := by first | simpa using c12 | (simp at c12 ⊢; omega)
    (first | rw [zB] | (simp only [i64_w, i32_w]; rw [zB]) | skip)
    have H' := Aside0.mk H
    clear H
    have xF := zA.out
    have yF := wA.out
    have EC : w7.cell? ⟨tA, 0, none⟩ = some (.slice none 0 0) := (blk_cell uA.out 0).trans rfl
    have FC := blk_frozen uA.out 0
    have GC : w7.cell? ⟨gA, 0, none⟩ = some (.int .i64 eA) := (blk_cell bA.out 0).trans rfl
    have HC : w7.cell? ⟨gA, 1, none⟩ = some (.int .i64 fA) := (blk_cell bA.out 1).trans rfl
    have IC : w7.cell? ⟨gA, 2, none⟩ = some (.slice mA dA.length nA) := (blk_cell bA.out 2).trans rfl
    have JC : w7.cell? ⟨gA, 3, none⟩ = some (.slice rA aA.length oA) := (blk_cell bA.out 3).trans rfl
    have KC : w7.cell? ⟨gA, 4, none⟩ = some (.int .i64 hA) := (blk_cell bA.out 4).trans rfl
    have LC := blk_frozen bA.out 0
    have MC := blk_frozen bA.out 1
    have NC := blk_frozen bA.out 2
    have OC := blk_frozen bA.out 3
    have PC := blk_frozen bA.out 4
    go_wp2
    go_meet
    case rel => exact ⟨_, (true), q11_26, H', ⟨by first | omega | exact Nat.le_refl _⟩, ⟨q11_11⟩, ⟨q11_12⟩, ⟨q11_9⟩, ⟨q11_1⟩⟩
  ·replace c11 := Bool.eq_false_iff.mpr c11
   subst c11
   rw [if_neg (show ¬ (false = true) by decide)] at H
   have H' := Aside0.mk H
   clear H
   go_wp2
   go_meet
   case rel => exact ⟨_, (true), q11_26, H', ⟨by first | omega | exact Nat.le_refl _⟩, ⟨q11_11⟩, ⟨q11_12⟩, ⟨q11_9⟩, ⟨q11_1⟩⟩
 case rest =>
  clear HC3
  (try clear c1); (try clear c2); (try clear p2); (try clear c5); (try clear c9); (try clear c11); (try clear c12); (try clear zB); (try clear YC); (try clear ZC); (try clear c13); (try clear aD); (try clear bD); (try clear c14); (try clear c17); (try clear c20); (try clear pC); (try clear sC); (try clear CB); (try clear DB); (try clear EB); (try clear FB); (try clear GB); (try clear NB); (try clear uC); (try clear vC); (try clear wC); (try clear xC); (try clear yC); (try clear EC); (try clear GC); (try clear HC); (try clear IC); (try clear JC); (try clear KC); (try clear eC); (try clear fC); (try clear gC); (try clear hC); (try clear iC); (try clear qC); (try clear tC); (try clear IB); (try clear JB); (try clear KB); (try clear LB); (try clear MB); (try clear OB); (try clear zC); (try clear AC); (try clear BC); (try clear CC); (try clear DC); (try clear FC); (try clear LC); (try clear MC); (try clear NC); (try clear OC); (try clear PC); (try clear jC); (try clear kC); (try clear lC); (try clear mC); (try clear nC)
  obtain ⟨kq, rC, rfl, HA, HJ2, qA, bA, uA, HB⟩ := hcut
  cases kq with
  | zero => exact absurd HA.out (by simp [impl_CrewOk.j0])
  | succ kj2 =>
   have H := HA.out
   clear HA
   simp only [impl_CrewOk.j0] at H
   by_cases c23 : rC = true
   ·subst c23
    rw [if_pos rfl] at H
    obtain rfl := Option.some.inj H
    go_wp2
    go_ret
    exact ⟨q11_21, q11_1⟩
   ·replace c23 := Bool.eq_false_iff.mpr c23
    subst c23
    rw [if_neg (show ¬ (false = true) by decide)] at H
    have H' := Aside0.mk H
    clear H
    have zF := wA.out
    have AF := zA.out
    have fD : wc.cell? ⟨gA, 0, none⟩ = some (.int .i64 eA) := (blk_cell bA.out 0).trans rfl
    have gD : wc.cell? ⟨gA, 1, none⟩ = some (.int .i64 fA) := (blk_cell bA.out 1).trans rfl
    have hD : wc.cell? ⟨gA, 2, none⟩ = some (.slice mA dA.length nA) := (blk_cell bA.out 2).trans rfl
    have iD : wc.cell? ⟨gA, 3, none⟩ = some (.slice rA aA.length oA) := (blk_cell bA.out 3).trans rfl
    have jD : wc.cell? ⟨gA, 4, none⟩ = some (.int .i64 hA) := (blk_cell bA.out 4).trans rfl
    have kD := blk_frozen bA.out 0
    have lD := blk_frozen bA.out 1
    have mD := blk_frozen bA.out 2
    have nD := blk_frozen bA.out 3
    have oD := blk_frozen bA.out 4
    go_wp2
    go_loopg [41] kj2 (fun kq v41 w' => ∃ (iA : Int), v41 = .int .i64 iA ∧ Aside0 (impl_CrewOk.l0 kq aA (aA.length : Int) iA eA fA dA aA hA = some r) ∧ Aside0 (kq ≤ kj2) ∧ Aside0 (Kd.R (Kd.int .i64) 3 w' w.heap.size (fun _ => True) (.slice TC EA.length UC) EA) ∧ Aside0 (w'.heap[gA]? = some (.cells #[.int .i64 eA, .int .i64 fA, (.slice mA dA.length nA), (.slice rA aA.length oA), .int .i64 hA] 29 (0, 0))) ∧ Aside0 (w'.heap[tA]? = some (.cells #[(.slice TC EA.length UC)] 26 (0, 0))) ∧ Aside0 (Below w.heap.size w w'))
    case atStart => exact ⟨(0), q11_26, H', ⟨Nat.le_refl _⟩, ⟨q11_22⟩, ⟨q11_4⟩, ⟨q11_10⟩, ⟨q11_1⟩⟩
    case round =>
     clear H'
     (try clear c1); (try clear c2); (try clear p2); (try clear c5); (try clear c9); (try clear c11); (try clear c12); (try clear zB); (try clear YC); (try clear ZC); (try clear c13); (try clear aD); (try clear bD); (try clear c14); (try clear c17); (try clear c20); (try clear c23); (try clear c24); (try clear pC); (try clear sC); (try clear CB); (try clear DB); (try clear EB); (try clear FB); (try clear GB); (try clear NB); (try clear uC); (try clear vC); (try clear wC); (try clear xC); (try clear yC); (try clear EC); (try clear GC); (try clear HC); (try clear IC); (try clear JC); (try clear KC); (try clear fD); (try clear gD); (try clear hD); (try clear iD); (try clear jD); (try clear eC); (try clear fC); (try clear gC); (try clear hC); (try clear iC); (try clear qC); (try clear tC); (try clear IB); (try clear JB); (try clear KB); (try clear LB); (try clear MB); (try clear OB); (try clear zC); (try clear AC); (try clear BC); (try clear CC); (try clear DC); (try clear FC); (try clear LC); (try clear MC); (try clear NC); (try clear OC); (try clear PC); (try clear kD); (try clear lD); (try clear mD); (try clear nD); (try clear oD); (try clear jC); (try clear kC); (try clear lC); (try clear mC); (try clear nC); (try clear p2)
     obtain ⟨iA, rfl, HA, HK2, qA, bA, uA, HB⟩ := hrel
     cases gk with
     | zero => exact absurd HA.out (by simp [impl_CrewOk.l0])
     | succ k2 =>
      have H := HA.out
      clear HA
      simp only [impl_CrewOk.l0] at H
      by_cases c26 : iA < (aA.length : Int)
      ·rw [if_pos c26] at H
       have ID : decide (iA < (aA.length : Int)) = true := decide_eq_true c26
       clear c26
       by_cases c27 : 0 ≤ iA
       ·rw [if_pos c27] at H
        have BF : decide (0 ≤ iA) = true := decide_eq_true c27
        clear c27
        by_cases c28 : iA < (aA.length : Int)
        ·rw [if_pos c28] at H
         have CF : decide (iA < (aA.length : Int)) = true := decide_eq_true c28
         clear c28
         replace H := Option.bind_eq_some_iff.mp H
         obtain ⟨uD, A290, H⟩ := H
         (try dsimp only at H)
         have A29 := Aside0.mk A290
         clear A290
         by_cases c30 : uD = true
         ·subst c30
          rw [if_pos rfl] at H
          have H' := Aside0.mk H
          clear H
          have p362 : 0 ≤ (iA : Int) := of_decide_eq_true (by first | (with_reducible assumption) | assumption)
          have q362 : iA < (aA.length : Int) := of_decide_eq_true (by first | (with_reducible assumption) | assumption)
          obtain ⟨ad362, IA, JA, WA, XA, hB, iB, vD, KA, LA, MA, NA, bB, cB, dB, eB, fB, gB⟩ := at_T55 AB.out iA p362 q362
          cases vD
          replace KA := (HB.out.cell (World.block_lt_of_cell? w _ KA)).trans KA
          replace LA := (HB.out.cell (World.block_lt_of_cell? w _ LA)).trans LA
          replace MA := (HB.out.cell (World.block_lt_of_cell? w _ MA)).trans MA
          replace NA := (HB.out.cell (World.block_lt_of_cell? w _ NA)).trans NA
          have PB := Aside0.mk cB
          have QB := Aside0.mk bB
          clear cB bB
          have RB := Aside0.mk eB
          have SB := Aside0.mk dB
          clear eB dB
          have TB := Aside0.mk gB
          have UB := Aside0.mk fB
          clear gB fB
          replace p362 := eq_true p362
          replace q362 := eq_true q362
          go_wp2_with (first | ((with_reducible refine gate_dst (N := 6) rfl ?_); (try (refine gate_guard (by rfl) ?_; dsimp only)); refine box_event ?hg (N := 6) ?hd (cs := #[.slice none 0 0, .int .i64 0, .slice none 0 0, .slice none 0 0]) (t := 55) ?hr ?_; (case hd => rfl); (case hg => rfl); (case hr => first | (go_simp; done) | (go_simp; rfl)); intro pA hg eD hbox hb; have CA := Aside0.mk (Kd.R_below q11_22 hb); have DA := Aside0.mk (blk_below (g := gA) (o := .cells #[.int .i64 eA, .int .i64 fA, .slice mA dA.length nA, .slice (some ad362) aA.length oA, .int .i64 hA] 29 (0, 0)) q11_4 hb); have FA := Aside0.mk (blk_below (g := tA) (o := .cells #[.slice TC EA.length UC] 26 (0, 0)) q11_10 hb); have GA := Aside0.mk (below_step q11_1 hb); have aB := Aside0.mk (hbox); have xB := Aside0.mk ((by rw [hg]; exact (below_size q11_1) : w.heap.size ≤ pA)); have yB := Aside0.mk ((by rw [hg]; exact (below_size q11_1) : w.heap.size ≤ pA)); have cC := Aside0.mk ((by rw [hg]; exact Nat.ne_of_lt (blk_lt (g := gA) (o := .cells #[.int .i64 eA, .int .i64 fA, .slice mA dA.length nA, .slice (some ad362) aA.length oA, .int .i64 hA] 29 (0, 0)) q11_4) : gA ≠ pA)); have QC := Aside0.mk ((by rw [hg]; exact Nat.ne_of_gt (blk_lt (g := gA) (o := .cells #[.int .i64 eA, .int .i64 fA, .slice mA dA.length nA, .slice (some ad362) aA.length oA, .int .i64 hA] 29 (0, 0)) q11_4) : pA ≠ gA)); have tD := Aside0.mk ((by rw [hg]; exact Nat.ne_of_lt (blk_lt (g := tA) (o := .cells #[.slice TC EA.length UC] 26 (0, 0)) q11_10) : tA ≠ pA)); have dC := Aside0.mk ((by rw [hg]; exact Nat.ne_of_gt (blk_lt (g := tA) (o := .cells #[.slice TC EA.length UC] 26 (0, 0)) q11_10) : pA ≠ tA)); clear qA bA uA HB; have qA := CA; have bA := DA; have uA := FA; have HB := GA; have sA := aB; have JD := xB; have sD := yB; have SA := cC; have lB := QC; have TA := tD; have mB := dC; clear CA DA FA GA aB xB yB cC QC tD dC; clear hb hbox hg; have DF := lB.out; have EF := SA.out; have FF := mB.out; have GF := TA.out; have WD : eD.cell? ⟨pA, 0, none⟩ = some (.slice none 0 0) := (blk_cell sA.out 0).trans rfl; have XD : eD.cell? ⟨pA, 1, none⟩ = some (.int .i64 0) := (blk_cell sA.out 1).trans rfl; have YD : eD.cell? ⟨pA, 2, none⟩ = some (.slice none 0 0) := (blk_cell sA.out 2).trans rfl; have ZD : eD.cell? ⟨pA, 3, none⟩ = some (.slice none 0 0) := (blk_cell sA.out 3).trans rfl; have aE := blk_frozen sA.out 0; have bE := blk_frozen sA.out 1; have cE := blk_frozen sA.out 2; have dE := blk_frozen sA.out 3; have HF := wA.out; have IF := zA.out; have eE : eD.cell? ⟨gA, 0, none⟩ = some (.int .i64 eA) := (blk_cell bA.out 0).trans rfl; have fE : eD.cell? ⟨gA, 1, none⟩ = some (.int .i64 fA) := (blk_cell bA.out 1).trans rfl; have gE : eD.cell? ⟨gA, 2, none⟩ = some (.slice mA dA.length nA) := (blk_cell bA.out 2).trans rfl; have hE : eD.cell? ⟨gA, 3, none⟩ = some (.slice (some ad362) aA.length oA) := (blk_cell bA.out 3).trans rfl; have iE : eD.cell? ⟨gA, 4, none⟩ = some (.int .i64 hA) := (blk_cell bA.out 4).trans rfl; have jE := blk_frozen bA.out 0; have kE := blk_frozen bA.out 1; have lE := blk_frozen bA.out 2; have mE := blk_frozen bA.out 3; have nE := blk_frozen bA.out 4) | ((with_reducible refine gate_callee (f := 63) rfl ?_); refine goesL_ (some 47) rfl rfl Try.func63 (by kernel_rfl) rfl #[.agg #[.int .i64 eA, .int .i64 fA, .slice mA dA.length nA, .slice (some ad362) aA.length oA, .int .i64 hA], .agg #[.slice IA ((rd_T55 aA iA).f0).length JA, .int .i64 ((rd_T55 aA iA).f1), .slice WA ((rd_T55 aA iA).f2).length XA, .slice hB ((rd_T55 aA iA).f3).length iB]] rfl q11_3 ?_; (with_reducible refine (impl_threadOk.calls k2 eA fA _ _ dA _ _ aA hA _ _ ((rd_T55 aA iA).f0) ((rd_T55 aA iA).f1) _ _ ((rd_T55 aA iA).f2) _ _ ((rd_T55 aA iA).f3) true _ ?side1 ?side2 ?side3 ?side4 ?side5 ?side6 ?side7 ?side8 ?side9 ?side10 A29.out).mono ?_); (case side1 => exact Kd.C_below oC.out q11_0); (case side2 => exact pB.out); (case side3 => exact Kd.C_below AB.out q11_0); (case side4 => exact qB.out); (case side5 => exact Kd.C_below PB.out q11_0); (case side6 => exact QB.out); (case side7 => exact Kd.C_below RB.out q11_0); (case side8 => exact SB.out); (case side9 => exact Kd.C_below TB.out q11_0); (case side10 => exact UB.out); rintro e eG ⟨rfl, hb⟩; refine ⟨_, rfl, ?_⟩; have CA := Aside0.mk (Kd.R_below q11_17 hb); have DA := Aside0.mk (blk_below (g := gA) (o := .cells #[.int .i64 eA, .int .i64 fA, .slice mA dA.length nA, .slice (some ad362) aA.length oA, .int .i64 hA] 29 (0, 0)) q11_24 hb); have FA := Aside0.mk (blk_below (g := tA) (o := .cells #[.slice TC EA.length UC] 26 (0, 0)) q11_25 hb); have GA := Aside0.mk (blk_below (g := pA) (o := .cells #[.slice IA ((rd_T55 aA iA).f0).length JA, .int .i64 ((rd_T55 aA iA).f1), .slice WA ((rd_T55 aA iA).f2).length XA, .slice hB ((rd_T55 aA iA).f3).length iB] 55 (0, 0)) q11_5 hb); have aB := Aside0.mk (below_step q11_0 hb); clear qA bA uA sA HB; have qA := CA; have bA := DA; have uA := FA; have sA := GA; have HB := aB; clear CA DA FA GA aB; (try clear hb); (try clear hb2); (try clear hk); (try clear hi)))
          go_roundg k2
          case measure => have := HJ2.out; have := HK2.out; omega
          case rel => exact ⟨(wrap64 (iA + 1)), q11_26, H', ⟨by have := HJ2.out; have := HK2.out; omega⟩, ⟨q11_22⟩, ⟨q11_4⟩, ⟨q11_10⟩, ⟨q11_0⟩⟩
         ·replace c30 := Bool.eq_false_iff.mpr c30
          subst c30
          rw [if_neg (show ¬ (false = true) by decide)] at H
          obtain rfl := Option.some.inj H
          have p362 : 0 ≤ (iA : Int) := of_decide_eq_true (by first | (with_reducible assumption) | assumption)
          have q362 : iA < (aA.length : Int) := of_decide_eq_true (by first | (with_reducible assumption) | assumption)
          obtain ⟨ad362, IA, JA, WA, XA, hB, iB, vD, KA, LA, MA, NA, bB, cB, dB, eB, fB, gB⟩ := at_T55 AB.out iA p362 q362
          cases vD
          replace KA := (HB.out.cell (World.block_lt_of_cell? w _ KA)).trans KA
          replace LA := (HB.out.cell (World.block_lt_of_cell? w _ LA)).trans LA
          replace MA := (HB.out.cell (World.block_lt_of_cell? w _ MA)).trans MA
          replace NA := (HB.out.cell (World.block_lt_of_cell? w _ NA)).trans NA
          have PB := Aside0.mk cB
          have QB := Aside0.mk bB
          clear cB bB
          have RB := Aside0.mk eB
          have SB := Aside0.mk dB
          clear eB dB
          have TB := Aside0.mk gB
          have UB := Aside0.mk fB
          clear gB fB
          replace p362 := eq_true p362
          replace q362 := eq_true q362
          go_wp2_with (first | ((with_reducible refine gate_dst (N := 6) rfl ?_); (try (refine gate_guard (by rfl) ?_; dsimp only)); refine box_event ?hg (N := 6) ?hd (cs := #[.slice none 0 0, .int .i64 0, .slice none 0 0, .slice none 0 0]) (t := 55) ?hr ?_; (case hd => rfl); (case hg => rfl); (case hr => first | (go_simp; done) | (go_simp; rfl)); intro pA hg pD hbox hb; have CA := Aside0.mk (Kd.R_below q11_22 hb); have DA := Aside0.mk (blk_below (g := gA) (o := .cells #[.int .i64 eA, .int .i64 fA, .slice mA dA.length nA, .slice (some ad362) aA.length oA, .int .i64 hA] 29 (0, 0)) q11_4 hb); have FA := Aside0.mk (blk_below (g := tA) (o := .cells #[.slice TC EA.length UC] 26 (0, 0)) q11_10 hb); have GA := Aside0.mk (below_step q11_1 hb); have aB := Aside0.mk (hbox); have xB := Aside0.mk ((by rw [hg]; exact (below_size q11_1) : w.heap.size ≤ pA)); have yB := Aside0.mk ((by rw [hg]; exact (below_size q11_1) : w.heap.size ≤ pA)); have cC := Aside0.mk ((by rw [hg]; exact Nat.ne_of_lt (blk_lt (g := gA) (o := .cells #[.int .i64 eA, .int .i64 fA, .slice mA dA.length nA, .slice (some ad362) aA.length oA, .int .i64 hA] 29 (0, 0)) q11_4) : gA ≠ pA)); have QC := Aside0.mk ((by rw [hg]; exact Nat.ne_of_gt (blk_lt (g := gA) (o := .cells #[.int .i64 eA, .int .i64 fA, .slice mA dA.length nA, .slice (some ad362) aA.length oA, .int .i64 hA] 29 (0, 0)) q11_4) : pA ≠ gA)); have tD := Aside0.mk ((by rw [hg]; exact Nat.ne_of_lt (blk_lt (g := tA) (o := .cells #[.slice TC EA.length UC] 26 (0, 0)) q11_10) : tA ≠ pA)); have dC := Aside0.mk ((by rw [hg]; exact Nat.ne_of_gt (blk_lt (g := tA) (o := .cells #[.slice TC EA.length UC] 26 (0, 0)) q11_10) : pA ≠ tA)); clear qA bA uA HB; have qA := CA; have bA := DA; have uA := FA; have HB := GA; have sA := aB; have JD := xB; have sD := yB; have SA := cC; have lB := QC; have TA := tD; have mB := dC; clear CA DA FA GA aB xB yB cC QC tD dC; clear hb hbox hg; have JF := lB.out; have KF := SA.out; have LF := mB.out; have MF := TA.out; have oE : pD.cell? ⟨pA, 0, none⟩ = some (.slice none 0 0) := (blk_cell sA.out 0).trans rfl; have pE : pD.cell? ⟨pA, 1, none⟩ = some (.int .i64 0) := (blk_cell sA.out 1).trans rfl; have qE : pD.cell? ⟨pA, 2, none⟩ = some (.slice none 0 0) := (blk_cell sA.out 2).trans rfl; have rE : pD.cell? ⟨pA, 3, none⟩ = some (.slice none 0 0) := (blk_cell sA.out 3).trans rfl; have sE := blk_frozen sA.out 0; have tE := blk_frozen sA.out 1; have uE := blk_frozen sA.out 2; have vE := blk_frozen sA.out 3; have NF := wA.out; have OF := zA.out; have wE : pD.cell? ⟨gA, 0, none⟩ = some (.int .i64 eA) := (blk_cell bA.out 0).trans rfl; have xE : pD.cell? ⟨gA, 1, none⟩ = some (.int .i64 fA) := (blk_cell bA.out 1).trans rfl; have yE : pD.cell? ⟨gA, 2, none⟩ = some (.slice mA dA.length nA) := (blk_cell bA.out 2).trans rfl; have zE : pD.cell? ⟨gA, 3, none⟩ = some (.slice (some ad362) aA.length oA) := (blk_cell bA.out 3).trans rfl; have AE : pD.cell? ⟨gA, 4, none⟩ = some (.int .i64 hA) := (blk_cell bA.out 4).trans rfl; have BE := blk_frozen bA.out 0; have CE := blk_frozen bA.out 1; have DE := blk_frozen bA.out 2; have EE := blk_frozen bA.out 3; have FE := blk_frozen bA.out 4) | ((with_reducible refine gate_callee (f := 63) rfl ?_); refine goesL_ (some 47) rfl rfl Try.func63 (by kernel_rfl) rfl #[.agg #[.int .i64 eA, .int .i64 fA, .slice mA dA.length nA, .slice (some ad362) aA.length oA, .int .i64 hA], .agg #[.slice IA ((rd_T55 aA iA).f0).length JA, .int .i64 ((rd_T55 aA iA).f1), .slice WA ((rd_T55 aA iA).f2).length XA, .slice hB ((rd_T55 aA iA).f3).length iB]] rfl q11_3 ?_; (with_reducible refine (impl_threadOk.calls k2 eA fA _ _ dA _ _ aA hA _ _ ((rd_T55 aA iA).f0) ((rd_T55 aA iA).f1) _ _ ((rd_T55 aA iA).f2) _ _ ((rd_T55 aA iA).f3) false _ ?side1 ?side2 ?side3 ?side4 ?side5 ?side6 ?side7 ?side8 ?side9 ?side10 A29.out).mono ?_); (case side1 => exact Kd.C_below oC.out q11_0); (case side2 => exact pB.out); (case side3 => exact Kd.C_below AB.out q11_0); (case side4 => exact qB.out); (case side5 => exact Kd.C_below PB.out q11_0); (case side6 => exact QB.out); (case side7 => exact Kd.C_below RB.out q11_0); (case side8 => exact SB.out); (case side9 => exact Kd.C_below TB.out q11_0); (case side10 => exact UB.out); rintro e fG ⟨rfl, hb⟩; refine ⟨_, rfl, ?_⟩; have CA := Aside0.mk (Kd.R_below q11_17 hb); have DA := Aside0.mk (blk_below (g := gA) (o := .cells #[.int .i64 eA, .int .i64 fA, .slice mA dA.length nA, .slice (some ad362) aA.length oA, .int .i64 hA] 29 (0, 0)) q11_24 hb); have FA := Aside0.mk (blk_below (g := tA) (o := .cells #[.slice TC EA.length UC] 26 (0, 0)) q11_25 hb); have GA := Aside0.mk (blk_below (g := pA) (o := .cells #[.slice IA ((rd_T55 aA iA).f0).length JA, .int .i64 ((rd_T55 aA iA).f1), .slice WA ((rd_T55 aA iA).f2).length XA, .slice hB ((rd_T55 aA iA).f3).length iB] 55 (0, 0)) q11_5 hb); have aB := Aside0.mk (below_step q11_0 hb); clear qA bA uA sA HB; have qA := CA; have bA := DA; have uA := FA; have sA := GA; have HB := aB; clear CA DA FA GA aB; (try clear hb); (try clear hb2); (try clear hk); (try clear hi)))
          go_ret
          exact ⟨q11_21, q11_0⟩
        ·rw [if_neg c28] at H
         exact absurd H (by simp)
       ·rw [if_neg c27] at H
        exact absurd H (by simp)
      ·rw [if_neg c26] at H
       have ID : decide (iA < (aA.length : Int)) = false := decide_eq_false c26
       clear c26
       obtain rfl := Option.some.inj H
       go_wp2
       go_ret
       exact ⟨q11_21, q11_1⟩

/-! ### laws_FnExactCrewOk: function 4 -/
def laws_FnExactCrewOk.f (k : Nat) (eA : Int) (fA : Int) (dA : List Int) (aA : List (S50)) (hA : Int) : Option (Bool) := (laws_szCrew.f k eA fA dA aA hA 1048576).bind fun VB => (if VB < 0 then (some true) else ((laws_toCrew.f k eA fA dA aA hA).bind fun QA => ((spec_CrewOk.f k QA.1 QA.2.1 QA.2.2.1 QA.2.2.2.1 QA.2.2.2.2).bind fun nB => ((laws_toCrew.f k eA fA dA aA hA).bind fun vA => ((impl_CrewOk.f k vA.1 vA.2.1 vA.2.2.1 vA.2.2.2.1 vA.2.2.2.2).bind fun oB => (if (oB != nB) = true then (some false) else ((laws_toCrew.f k eA fA dA aA hA).bind fun RA => ((laws_eqCrew.f k vA.1 vA.2.1 vA.2.2.1 vA.2.2.2.1 vA.2.2.2.2 RA.1 RA.2.1 RA.2.2.1 RA.2.2.2.1 RA.2.2.2.2).bind fun cD => (if cD = true then (some true) else (some false))))))))))
theorem laws_FnExactCrewOk.mono : ∀ a0 a1 a2 a3 a4 k, LeO (laws_FnExactCrewOk.f k a0 a1 a2 a3 a4) (laws_FnExactCrewOk.f (k + 1) a0 a1 a2 a3 a4) := by
 intro a0 a1 a2 a3 a4 k
 unfold laws_FnExactCrewOk.f
 repeat' first
   | (with_reducible exact impl_CrewOk.mono _ _ _ _ _ _)
   | (with_reducible exact laws_eqCrew.mono _ _ _ _ _ _ _ _ _ _ _)
   | (with_reducible exact laws_szCrew.mono _ _ _ _ _ _ _)
   | (with_reducible exact laws_toCrew.mono _ _ _ _ _ _)
   | (with_reducible exact spec_CrewOk.mono _ _ _ _ _ _)
   | (with_reducible exact LeO.refl _)
   | (with_reducible exact LeO.none _)
   | (with_reducible refine LeO.ite ?_ ?_)
   | (with_reducible refine LeO.bind ?_ (fun _ => ?_))
   | exact impl_CrewOk.mono _ _ _ _ _ _
   | exact laws_eqCrew.mono _ _ _ _ _ _ _ _ _ _ _
   | exact laws_szCrew.mono _ _ _ _ _ _ _
   | exact laws_toCrew.mono _ _ _ _ _ _
   | exact spec_CrewOk.mono _ _ _ _ _ _
   | exact LeO.none _
   | refine LeO.ite ?_ ?_
   | refine LeO.bind ?_ (fun _ => ?_)
set_option maxHeartbeats 8000000 in
set_option maxRecDepth 100000 in
theorem laws_FnExactCrewOk.calls (k : Nat) (eA : Int) (fA : Int) (mA : Option Addr) (nA : Nat) (dA : List Int) (rA : Option Addr) (oA : Nat) (aA : List (S50)) (hA : Int) (r_ : Bool) (w : World) (YB : Kd.C (Kd.int .i64) w mA dA.length dA) (ZB : dA.length ≤ nA) (aC : Kd.C k50 w rA aA.length aA) (bC : aA.length ≤ oA) (h : laws_FnExactCrewOk.f k eA fA dA aA hA = some true) :
  Calls Try.prog 4 #[.agg #[.int .i64 eA, .int .i64 fA, .slice mA dA.length nA, .slice rA aA.length oA, .int .i64 hA]] w fun e w' => e = .returned (.bool true) ∧ Below w.heap.size w w' := by
 have hu40 := Try.underlying40
 have hu29 := Try.underlying29
 have oC := Aside0.mk YB
 have pB := Aside0.mk ZB
 clear YB ZB
 have AB := Aside0.mk aC
 have qB := Aside0.mk bC
 clear aC bC
 have HB := Aside0.mk (Below.refl w.heap.size w)
 have H : ((laws_szCrew.f k eA fA dA aA hA 1048576).bind fun VB => (if VB < 0 then (some true) else ((laws_toCrew.f k eA fA dA aA hA).bind fun QA => ((spec_CrewOk.f k QA.1 QA.2.1 QA.2.2.1 QA.2.2.2.1 QA.2.2.2.2).bind fun nB => ((laws_toCrew.f k eA fA dA aA hA).bind fun vA => ((impl_CrewOk.f k vA.1 vA.2.1 vA.2.2.1 vA.2.2.2.1 vA.2.2.2.2).bind fun oB => (if (oB != nB) = true then (some false) else ((laws_toCrew.f k eA fA dA aA hA).bind fun RA => ((laws_eqCrew.f k vA.1 vA.2.1 vA.2.2.1 vA.2.2.2.1 vA.2.2.2.2 RA.1 RA.2.1 RA.2.2.1 RA.2.2.2.1 RA.2.2.2.2).bind fun cD => (if cD = true then (some true) else (some false))))))))))) = some true := h
 clear h
 replace H := Option.bind_eq_some_iff.mp H
 obtain ⟨VB, A20, H⟩ := H
 (try dsimp only at H)
 have A2 := Aside0.mk A20
 clear A20
 by_cases c3 : VB < 0
 ·rw [if_pos c3] at H
  have iF : decide (VB < 0) = true := decide_eq_true c3
  clear c3 H
  (try clear H)
  go_enter Try.func4, Try.ntmps4
  go_wp2_with (first | ((with_reducible refine gate_dst (N := 1) rfl ?_); refine box_event ?hg (N := 1) ?hd (cs := #[.int .i64 eA, .int .i64 fA, .slice mA dA.length nA, .slice rA aA.length oA, .int .i64 hA]) (t := 40) ?hr ?_; (case hd => rfl); (case hg => rfl); (case hr => first | (go_simp; done) | (go_simp; rfl)); intro jA hg w4 hbox hb; have CA := Aside0.mk (below_step q11_6 hb); have DA := Aside0.mk (hbox); have FA := Aside0.mk ((by rw [hg]; exact (below_size q11_6) : w.heap.size ≤ jA)); have GA := Aside0.mk ((by rw [hg]; exact (below_size q11_6) : w.heap.size ≤ jA)); clear HB; have HB := CA; have cA := DA; have KD := FA; have XC := GA; clear CA DA FA GA; clear hb hbox hg; have eC : w4.cell? ⟨jA, 0, none⟩ = some (.int .i64 eA) := (blk_cell cA.out 0).trans rfl; have fC : w4.cell? ⟨jA, 1, none⟩ = some (.int .i64 fA) := (blk_cell cA.out 1).trans rfl; have gC : w4.cell? ⟨jA, 2, none⟩ = some (.slice mA dA.length nA) := (blk_cell cA.out 2).trans rfl; have hC : w4.cell? ⟨jA, 3, none⟩ = some (.slice rA aA.length oA) := (blk_cell cA.out 3).trans rfl; have iC : w4.cell? ⟨jA, 4, none⟩ = some (.int .i64 hA) := (blk_cell cA.out 4).trans rfl; have jC := blk_frozen cA.out 0; have kC := blk_frozen cA.out 1; have lC := blk_frozen cA.out 2; have mC := blk_frozen cA.out 3; have nC := blk_frozen cA.out 4) | ((with_reducible refine gate_callee (f := 20) rfl ?_); refine goesL_ (some 9) rfl rfl Try.func20 (by kernel_rfl) rfl #[.agg #[.int .i64 eA, .int .i64 fA, .slice mA dA.length nA, .slice rA aA.length oA, .int .i64 hA], .int .i64 1048576] rfl q11_3 ?_; (with_reducible refine (laws_szCrew.calls k eA fA _ _ dA _ _ aA hA 1048576 VB _ ?side1 ?side2 ?side3 ?side4 A2.out).mono ?_); (case side1 => exact q11_13); (case side2 => exact pB.out); (case side3 => exact q11_14); (case side4 => exact qB.out); rintro e w6 ⟨rfl, hb⟩; refine ⟨_, rfl, ?_⟩; have CA := Aside0.mk (blk_below (g := jA) (o := .cells #[.int .i64 eA, .int .i64 fA, .slice mA dA.length nA, .slice rA aA.length oA, .int .i64 hA] 40 (0, 0)) q11_7 hb); have DA := Aside0.mk (below_step q11_2 hb); clear cA HB; have cA := CA; have HB := DA; clear CA DA; (try clear hb); (try clear hb2); (try clear hk); (try clear hi)))
  go_ret
  exact ⟨q11_21, q11_2⟩
 ·rw [if_neg c3] at H
  have iF : decide (VB < 0) = false := decide_eq_false c3
  clear c3
  replace H := Option.bind_eq_some_iff.mp H
  obtain ⟨⟨wD, xD, dD, qD, yD⟩, A70, H⟩ := H
  (try dsimp only at H)
  have A7 := Aside0.mk A70
  clear A70
  replace H := Option.bind_eq_some_iff.mp H
  obtain ⟨nB, A80, H⟩ := H
  (try dsimp only at H)
  have A8 := Aside0.mk A80
  clear A80
  replace H := Option.bind_eq_some_iff.mp H
  obtain ⟨⟨OA, VA, PA, YA, kB⟩, A90, H⟩ := H
  (try dsimp only at H)
  have A9 := Aside0.mk A90
  clear A90
  replace H := Option.bind_eq_some_iff.mp H
  obtain ⟨oB, A100, H⟩ := H
  (try dsimp only at H)
  have A10 := Aside0.mk A100
  clear A100
  by_cases c11 : (oB != nB) = true
  ·rw [if_pos c11] at H
   have LD : (oB != nB) = true := c11
   (try (have MD : decide (oB = nB) = false := by simpa using c11))
   (try (have ND : (oB == nB) = false := by simpa using c11))
   (try (have PF : ¬ (oB = nB) := by simpa using c11))
   clear c11
   exact absurd H (by simp)
  ·rw [if_neg c11] at H
   have LD : (oB != nB) = false := by simpa using c11
   (try (have MD : decide (oB = nB) = true := by simpa using c11))
   (try (have ND : (oB == nB) = true := by simpa using c11))
   clear c11
   replace H := Option.bind_eq_some_iff.mp H
   obtain ⟨⟨zD, AD, BD, CD, DD⟩, A120, H⟩ := H
   (try dsimp only at H)
   have A12 := Aside0.mk A120
   clear A120
   replace H := Option.bind_eq_some_iff.mp H
   obtain ⟨cD, A130, H⟩ := H
   (try dsimp only at H)
   have A13 := Aside0.mk A130
   clear A130
   by_cases c14 : cD = true
   ·subst c14
    rw [if_pos rfl] at H
    clear H
    (try clear H)
    go_enter Try.func4, Try.ntmps4
    try go_wp2_with (first | ((with_reducible refine gate_dst (N := 1) rfl ?_); refine box_event ?hg (N := 1) ?hd (cs := #[.int .i64 eA, .int .i64 fA, .slice mA dA.length nA, .slice rA aA.length oA, .int .i64 hA]) (t := 40) ?hr ?_; (case hd => rfl); (case hg => rfl); (case hr => first | (go_simp; done) | (go_simp; rfl)); intro jA hg OD hbox hb; have CA := Aside0.mk (below_step q11_6 hb); have DA := Aside0.mk (hbox); have FA := Aside0.mk ((by rw [hg]; exact (below_size q11_6) : w.heap.size ≤ jA)); have GA := Aside0.mk ((by rw [hg]; exact (below_size q11_6) : w.heap.size ≤ jA)); clear HB; have HB := CA; have cA := DA; have KD := FA; have XC := GA; clear CA DA FA GA; clear hb hbox hg; have CB : OD.cell? ⟨jA, 0, none⟩ = some (.int .i64 eA) := (blk_cell cA.out 0).trans rfl; have DB : OD.cell? ⟨jA, 1, none⟩ = some (.int .i64 fA) := (blk_cell cA.out 1).trans rfl; have EB : OD.cell? ⟨jA, 2, none⟩ = some (.slice mA dA.length nA) := (blk_cell cA.out 2).trans rfl; have FB : OD.cell? ⟨jA, 3, none⟩ = some (.slice rA aA.length oA) := (blk_cell cA.out 3).trans rfl; have GB : OD.cell? ⟨jA, 4, none⟩ = some (.int .i64 hA) := (blk_cell cA.out 4).trans rfl; have IB := blk_frozen cA.out 0; have JB := blk_frozen cA.out 1; have KB := blk_frozen cA.out 2; have LB := blk_frozen cA.out 3; have MB := blk_frozen cA.out 4) | ((with_reducible refine gate_callee (f := 20) rfl ?_); refine goesL_ (some 9) rfl rfl Try.func20 (by kernel_rfl) rfl #[.agg #[.int .i64 eA, .int .i64 fA, .slice mA dA.length nA, .slice rA aA.length oA, .int .i64 hA], .int .i64 1048576] rfl q11_3 ?_; (with_reducible refine (laws_szCrew.calls k eA fA _ _ dA _ _ aA hA 1048576 VB _ ?side1 ?side2 ?side3 ?side4 A2.out).mono ?_); (case side1 => exact q11_13); (case side2 => exact pB.out); (case side3 => exact q11_14); (case side4 => exact qB.out); rintro e PD ⟨rfl, hb⟩; refine ⟨_, rfl, ?_⟩; have CA := Aside0.mk (blk_below (g := jA) (o := .cells #[.int .i64 eA, .int .i64 fA, .slice mA dA.length nA, .slice rA aA.length oA, .int .i64 hA] 40 (0, 0)) q11_7 hb); have DA := Aside0.mk (below_step q11_2 hb); clear cA HB; have cA := CA; have HB := DA; clear CA DA; (try clear hb); (try clear hb2); (try clear hk); (try clear hi); have NB : PD.cell? ⟨jA, 0, none⟩ = some (.int .i64 eA) := (blk_cell cA.out 0).trans rfl; have GE : PD.cell? ⟨jA, 1, none⟩ = some (.int .i64 fA) := (blk_cell cA.out 1).trans rfl; have HE : PD.cell? ⟨jA, 2, none⟩ = some (.slice mA dA.length nA) := (blk_cell cA.out 2).trans rfl; have IE : PD.cell? ⟨jA, 3, none⟩ = some (.slice rA aA.length oA) := (blk_cell cA.out 3).trans rfl; have JE : PD.cell? ⟨jA, 4, none⟩ = some (.int .i64 hA) := (blk_cell cA.out 4).trans rfl; have OB := blk_frozen cA.out 0; have KE := blk_frozen cA.out 1; have LE := blk_frozen cA.out 2; have ME := blk_frozen cA.out 3; have NE := blk_frozen cA.out 4) | ((with_reducible refine gate_callee (f := 22) rfl ?_); refine goesL_ (some 13) rfl rfl Try.func22 (by kernel_rfl) rfl #[.agg #[.int .i64 eA, .int .i64 fA, .slice mA dA.length nA, .slice rA aA.length oA, .int .i64 hA]] rfl q11_3 ?_; (with_reducible refine (laws_toCrew.calls k eA fA _ _ dA _ _ aA hA wD xD dD qD yD _ ?side1 ?side2 ?side3 ?side4 A7.out).mono ?_); (case side1 => exact q11_13); (case side2 => exact pB.out); (case side3 => exact q11_14); (case side4 => exact qB.out); rintro e gG ⟨XF, YF, rfl, ho0, ho1, hb⟩; refine ⟨_, rfl, ?_⟩; have CA := Aside0.mk (Kd.R_lower ho0 (below_size q11_2)); have DA := Aside0.mk (Kd.S_lower ho1 (below_size q11_2)); have FA := Aside0.mk (blk_below (g := jA) (o := .cells #[.int .i64 eA, .int .i64 fA, .slice mA dA.length nA, .slice rA aA.length oA, .int .i64 hA] 40 (0, 0)) q11_7 hb); have GA := Aside0.mk (below_step q11_2 hb); clear cA HB; have xA := CA; have yA := DA; have cA := FA; have HB := GA; clear CA DA FA GA; (try clear hb); (try clear hb2); (try clear hk); (try clear hi); (try clear ho0); (try clear ho1); obtain ⟨ED, FD, jF⟩ := Kd.R_slice xA.out; subst jF; obtain ⟨QD, RD, kF⟩ := Kd.S_slice yA.out; subst kF) | ((with_reducible refine gate_callee (f := 21) rfl ?_); refine goesL_ (some 14) rfl rfl Try.func21 (by kernel_rfl) rfl #[.agg #[.int .i64 wD, .int .i64 xD, .slice ED dD.length FD, .slice QD qD.length RD, .int .i64 yD]] rfl q11_3 ?_; (with_reducible refine (spec_CrewOk.calls k wD xD _ _ dD _ _ qD yD nB _ ?side1 ?side2 ?side3 ?side4 A8.out).mono ?_); (case side1 => repeat (first | exact (Kd.R_reads' xA.out).2.2 | (with_reducible refine Kd.C_alloc ?_ _) | (with_reducible refine Kd.C_drewN ?_ _) | (with_reducible refine Kd.C_drew ?_))); (case side2 => exact (Kd.R_reads' xA.out).2.1); (case side3 => repeat (first | exact (Kd.S_reads' yA.out).2.2 | (with_reducible refine Kd.C_alloc ?_ _) | (with_reducible refine Kd.C_drewN ?_ _) | (with_reducible refine Kd.C_drew ?_))); (case side4 => exact (Kd.S_reads' yA.out).2.1); rintro e SD ⟨rfl, hb⟩; refine ⟨_, rfl, ?_⟩; have CA := Aside0.mk (Kd.R_below q11_16 hb); have DA := Aside0.mk (Kd.S_below q11_20 hb); have FA := Aside0.mk (blk_below (g := jA) (o := .cells #[.int .i64 eA, .int .i64 fA, .slice mA dA.length nA, .slice rA aA.length oA, .int .i64 hA] 40 (0, 0)) q11_7 hb); have GA := Aside0.mk (below_step q11_2 hb); clear xA yA cA HB; have xA := CA; have yA := DA; have cA := FA; have HB := GA; clear CA DA FA GA; (try clear hb); (try clear hb2); (try clear hk); (try clear hi); have OE : SD.cell? ⟨jA, 0, none⟩ = some (.int .i64 eA) := (blk_cell cA.out 0).trans rfl; have PE : SD.cell? ⟨jA, 1, none⟩ = some (.int .i64 fA) := (blk_cell cA.out 1).trans rfl; have QE : SD.cell? ⟨jA, 2, none⟩ = some (.slice mA dA.length nA) := (blk_cell cA.out 2).trans rfl; have RE : SD.cell? ⟨jA, 3, none⟩ = some (.slice rA aA.length oA) := (blk_cell cA.out 3).trans rfl; have SE : SD.cell? ⟨jA, 4, none⟩ = some (.int .i64 hA) := (blk_cell cA.out 4).trans rfl; have TE := blk_frozen cA.out 0; have UE := blk_frozen cA.out 1; have VE := blk_frozen cA.out 2; have WE := blk_frozen cA.out 3; have XE := blk_frozen cA.out 4) | ((with_reducible refine gate_callee (f := 22) rfl ?_); refine goesL_ (some 16) rfl rfl Try.func22 (by kernel_rfl) rfl #[.agg #[.int .i64 eA, .int .i64 fA, .slice mA dA.length nA, .slice rA aA.length oA, .int .i64 hA]] rfl q11_3 ?_; (with_reducible refine (laws_toCrew.calls k eA fA _ _ dA _ _ aA hA OA VA PA YA kB _ ?side1 ?side2 ?side3 ?side4 A9.out).mono ?_); (case side1 => exact q11_13); (case side2 => exact pB.out); (case side3 => exact q11_14); (case side4 => exact qB.out); rintro e hG ⟨ZF, aG, rfl, ho0, ho1, hb⟩; refine ⟨_, rfl, ?_⟩; have CA := Aside0.mk (Kd.R_elder' q11_16 (Kd.R_base ho0) hb); have DA := Aside0.mk (Kd.S_mono (Kd.S_told (Kd.S_told (Kd.S_old q11_20 hb) (Kd.R_base ho0)) (Kd.S_base ho1)) (fun _ h_ => h_.1)); have FA := Aside0.mk (Kd.R_lower (Kd.R_new' ho0 (Kd.R_lt q11_16)) (below_size q11_2)); have GA := Aside0.mk (Kd.S_lower (Kd.S_new' (Kd.S_new' ho1 (Kd.R_lt q11_16)) (Kd.S_lt q11_20)) (below_size q11_2)); have aB := Aside0.mk (blk_below (g := jA) (o := .cells #[.int .i64 eA, .int .i64 fA, .slice mA dA.length nA, .slice rA aA.length oA, .int .i64 hA] 40 (0, 0)) q11_7 hb); have xB := Aside0.mk (below_step q11_2 hb); clear xA yA cA HB; have xA := CA; have yA := DA; have AA := FA; have BA := GA; have cA := aB; have HB := xB; clear CA DA FA GA aB xB; (try clear hb); (try clear hb2); (try clear hk); (try clear hi); (try clear ho0); (try clear ho1)) | ((with_reducible refine gate_dst (N := 5) rfl ?_); refine box_event ?hg (N := 5) ?hd (cs := #[.int .i64 0, .int .i64 0, .slice none 0 0, .slice none 0 0, .int .i64 0]) (t := 29) ?hr ?_; (case hd => rfl); (case hg => rfl); (case hr => first | (go_simp; done) | (go_simp; rfl)); intro lA hg TD hbox hb; have CA := Aside0.mk (Kd.R_below q11_16 hb); have DA := Aside0.mk (Kd.S_below q11_20 hb); have FA := Aside0.mk (Kd.R_below q11_23 hb); have GA := Aside0.mk (Kd.S_below q11_27 hb); have aB := Aside0.mk (blk_below (g := jA) (o := .cells #[.int .i64 eA, .int .i64 fA, .slice mA dA.length nA, .slice rA aA.length oA, .int .i64 hA] 40 (0, 0)) q11_7 hb); have xB := Aside0.mk (below_step q11_2 hb); have yB := Aside0.mk (hbox); have cC := Aside0.mk ((by rw [hg]; exact (below_size q11_2) : w.heap.size ≤ lA)); have QC := Aside0.mk ((by rw [hg]; exact (below_size q11_2) : w.heap.size ≤ lA)); have tD := Aside0.mk ((by rw [hg]; exact Nat.ne_of_lt (blk_lt (g := jA) (o := .cells #[.int .i64 eA, .int .i64 fA, .slice mA dA.length nA, .slice rA aA.length oA, .int .i64 hA] 40 (0, 0)) q11_7) : jA ≠ lA)); have dC := Aside0.mk ((by rw [hg]; exact Nat.ne_of_gt (blk_lt (g := jA) (o := .cells #[.int .i64 eA, .int .i64 fA, .slice mA dA.length nA, .slice rA aA.length oA, .int .i64 hA] 40 (0, 0)) q11_7) : lA ≠ jA)); clear xA yA AA BA cA HB; have xA := CA; have yA := DA; have AA := FA; have BA := GA; have cA := aB; have HB := xB; have kA := yB; have QF := cC; have GD := QC; have BB := tD; have VC := dC; clear CA DA FA GA aB xB yB cC QC tD dC; clear hb hbox hg; have RF := VC.out; have SF := BB.out; have YE : TD.cell? ⟨lA, 0, none⟩ = some (.int .i64 0) := (blk_cell kA.out 0).trans rfl; have ZE : TD.cell? ⟨lA, 1, none⟩ = some (.int .i64 0) := (blk_cell kA.out 1).trans rfl; have aF : TD.cell? ⟨lA, 2, none⟩ = some (.slice none 0 0) := (blk_cell kA.out 2).trans rfl; have bF : TD.cell? ⟨lA, 3, none⟩ = some (.slice none 0 0) := (blk_cell kA.out 3).trans rfl; have cF : TD.cell? ⟨lA, 4, none⟩ = some (.int .i64 0) := (blk_cell kA.out 4).trans rfl; have dF := blk_frozen kA.out 0; have eF := blk_frozen kA.out 1; have fF := blk_frozen kA.out 2; have gF := blk_frozen kA.out 3; have hF := blk_frozen kA.out 4; obtain ⟨jB, ZA, lF⟩ := Kd.R_slice AA.out; subst lF; obtain ⟨wB, rB, mF⟩ := Kd.S_slice BA.out; subst mF) | ((with_reducible refine gate_callee (f := 23) rfl ?_); refine goesL_ (some 18) rfl rfl Try.func23 (by kernel_rfl) rfl #[.agg #[.int .i64 OA, .int .i64 VA, .slice jB PA.length ZA, .slice wB YA.length rB, .int .i64 kB]] rfl q11_3 ?_; (with_reducible refine (impl_CrewOk.calls k OA VA _ _ PA _ _ YA kB oB _ ?side1 ?side2 ?side3 ?side4 A10.out).mono ?_); (case side1 => refine (Kd.R_reads' (e := 3) (base := w.heap.size) (ok := fun k_ => (True ∧ some k_ ≠ (.slice ED dD.length FD : Value).ownBlock)) (n := PA.length) (c := ZA) ?_).2.2; exact q11_18); (case side2 => exact (Kd.R_reads' AA.out).2.1); (case side3 => refine (Kd.S_reads' (e := 55) (base := w.heap.size) (ok := fun k_ => ((some k_ ≠ (.slice jB PA.length ZA : Value).ownBlock ∧ some k_ ≠ (.slice ED dD.length FD : Value).ownBlock) ∧ some k_ ≠ (.slice QD qD.length RD : Value).ownBlock)) (n := YA.length) (c := rB) ?_).2.2; exact q11_19); (case side4 => exact (Kd.S_reads' BA.out).2.1); rintro e bG ⟨rfl, hb⟩; refine ⟨_, rfl, ?_⟩; have CA := Aside0.mk (Kd.R_below (by (with_reducible repeat (first | apply Kd.R_alloc | apply Kd.R_drewN | apply Kd.R_drew)); exact (Kd.R_mono (Kd.R_far (p := ⟨lA, 4, none⟩) (Kd.R_far (p := ⟨lA, 3, none⟩) (Kd.R_far (p := ⟨lA, 2, none⟩) (Kd.R_far (p := ⟨lA, 1, none⟩) (Kd.R_far (p := ⟨lA, 0, none⟩) (Kd.R_types xA.out kA.out (by decide)) (fun _ hk => hk.2) (.int .i64 OA)) (fun _ hk => hk.2) (.int .i64 VA)) (fun _ hk => hk.2) (.slice jB PA.length ZA)) (fun _ hk => hk.2) (.slice wB YA.length rB)) (fun _ hk => hk.2) (.int .i64 kB)) (fun _ h_ => h_.1))) hb); have DA := Aside0.mk (Kd.S_below (by (with_reducible repeat (first | apply Kd.S_alloc | apply Kd.S_drewN | apply Kd.S_drew)); exact (Kd.S_mono (Kd.S_far (p := ⟨lA, 4, none⟩) (Kd.S_far (p := ⟨lA, 3, none⟩) (Kd.S_far (p := ⟨lA, 2, none⟩) (Kd.S_far (p := ⟨lA, 1, none⟩) (Kd.S_far (p := ⟨lA, 0, none⟩) (Kd.S_types yA.out kA.out (by decide)) (fun _ hk => hk.2) (.int .i64 OA)) (fun _ hk => hk.2) (.int .i64 VA)) (fun _ hk => hk.2) (.slice jB PA.length ZA)) (fun _ hk => hk.2) (.slice wB YA.length rB)) (fun _ hk => hk.2) (.int .i64 kB)) (fun _ h_ => h_.1))) hb); have FA := Aside0.mk (Kd.R_below q11_18 hb); have GA := Aside0.mk (Kd.S_below q11_19 hb); have aB := Aside0.mk (blk_below (g := jA) (o := .cells #[.int .i64 eA, .int .i64 fA, .slice mA dA.length nA, .slice rA aA.length oA, .int .i64 hA] 40 (0, 0)) (by (iterate 5 ((with_reducible repeat (first | refine blk_drewN ?_ _ | refine blk_drew ?_ | refine blk_alloc ?_ _)); refine blk_far ?_ BB.out _)); (with_reducible repeat (first | refine blk_drewN ?_ _ | refine blk_drew ?_ | refine blk_alloc ?_ _)); exact cA.out) hb); have xB := Aside0.mk (blk_below (g := lA) (o := .cells #[.int .i64 OA, .int .i64 VA, .slice jB PA.length ZA, .slice wB YA.length rB, .int .i64 kB] 29 (0, 0)) (by (with_reducible repeat (first | refine blk_drewN ?_ _ | refine blk_drew ?_ | refine blk_alloc ?_ _)); refine blk_put (cs := #[.int .i64 OA, .int .i64 VA, .slice jB PA.length ZA, .slice wB YA.length rB, .int .i64 0]) ?_ 4 _ rfl; (with_reducible repeat (first | refine blk_drewN ?_ _ | refine blk_drew ?_ | refine blk_alloc ?_ _)); refine blk_put (cs := #[.int .i64 OA, .int .i64 VA, .slice jB PA.length ZA, .slice none 0 0, .int .i64 0]) ?_ 3 _ rfl; (with_reducible repeat (first | refine blk_drewN ?_ _ | refine blk_drew ?_ | refine blk_alloc ?_ _)); refine blk_put (cs := #[.int .i64 OA, .int .i64 VA, .slice none 0 0, .slice none 0 0, .int .i64 0]) ?_ 2 _ rfl; (with_reducible repeat (first | refine blk_drewN ?_ _ | refine blk_drew ?_ | refine blk_alloc ?_ _)); refine blk_put (cs := #[.int .i64 OA, .int .i64 0, .slice none 0 0, .slice none 0 0, .int .i64 0]) ?_ 1 _ rfl; (with_reducible repeat (first | refine blk_drewN ?_ _ | refine blk_drew ?_ | refine blk_alloc ?_ _)); refine blk_put (cs := #[.int .i64 0, .int .i64 0, .slice none 0 0, .slice none 0 0, .int .i64 0]) ?_ 0 _ rfl; (with_reducible repeat (first | refine blk_drewN ?_ _ | refine blk_drew ?_ | refine blk_alloc ?_ _)); exact kA.out) hb); have yB := Aside0.mk (below_step q11_8 hb); clear xA yA AA BA cA kA HB; have xA := CA; have yA := DA; have AA := FA; have BA := GA; have cA := aB; have kA := xB; have HB := yB; clear CA DA FA GA aB xB yB; (try clear hb); (try clear hb2); (try clear hk); (try clear hi)))
    have CA := Aside0.mk (Kd.R_drew xA.out)
    have DA := Aside0.mk (Kd.S_drew yA.out)
    have FA := Aside0.mk (Kd.R_drew AA.out)
    have GA := Aside0.mk (Kd.S_drew BA.out)
    have aB := Aside0.mk (blk_drew cA.out)
    have xB := Aside0.mk (blk_drew kA.out)
    have yB := Aside0.mk (below_drew1 HB.out)
    clear xA yA AA BA cA kA HB
    have xA := CA
    have yA := DA
    have AA := FA
    have BA := GA
    have cA := aB
    have kA := xB
    have HB := yB
    clear CA DA FA GA aB xB yB
    refine start_ (n := 5) (S := fun w' => w'.cell? ⟨lA, 0, none⟩ = some (.int .i64 OA) ∧ w'.cell? ⟨lA, 1, none⟩ = some (.int .i64 VA) ∧ w'.cell? ⟨lA, 2, none⟩ = some (.slice jB PA.length ZA) ∧ w'.cell? ⟨lA, 3, none⟩ = some (.slice wB YA.length rB) ∧ w'.cell? ⟨lA, 4, none⟩ = some (.int .i64 kB) ∧ w'.cell? ⟨jA, 0, none⟩ = some (.int .i64 eA) ∧ w'.cell? ⟨jA, 1, none⟩ = some (.int .i64 fA) ∧ w'.cell? ⟨jA, 2, none⟩ = some (.slice mA dA.length nA) ∧ w'.cell? ⟨jA, 3, none⟩ = some (.slice rA aA.length oA) ∧ w'.cell? ⟨jA, 4, none⟩ = some (.int .i64 hA)) (ds := []) #[F,F,F,F,F] (by kernel_rfl) rfl rfl ⟨(blk_cell kA.out 0).trans rfl, (blk_cell kA.out 1).trans rfl, (blk_cell kA.out 2).trans rfl, (blk_cell kA.out 3).trans rfl, (blk_cell kA.out 4).trans rfl, (blk_cell cA.out 0).trans rfl, (blk_cell cA.out 1).trans rfl, (blk_cell cA.out 2).trans rfl, (blk_cell cA.out 3).trans rfl, (blk_cell cA.out 4).trans rfl⟩ (fun hHeld => ?_)
    generalize bG.drew = eD at xA yA AA BA cA kA HB hHeld ⊢
    refine take_ (i := 0) (N := some 22) (v := ?_) (a' := ?_) #[T,F,F,F,F] rfl rfl (by kernel_rfl) (fun _ _ _ h => h) (Or.inl ⟨by rfl, ?_⟩) hHeld ?_ ?_
    rotate_left
    ·rintro w' ⟨s0, s1, s2, s3, s4, s5, s6, s7, s8, s9⟩
     go_simp
     with_reducible rfl
    rotate_left
    ·simp only [Act.put, List.setIfInBounds_toArray, List.set_cons_zero, List.set_cons_succ, i64_w, i32_w]
     rfl
    refine take_ (i := 1) (N := some 23) (v := ?_) (a' := ?_) #[T,T,F,F,F] rfl rfl (by kernel_rfl) (fun _ _ _ h => h) (Or.inl ⟨by rfl, ?_⟩) hHeld ?_ ?_
    rotate_left
    ·rintro w' ⟨s0, s1, s2, s3, s4, s5, s6, s7, s8, s9⟩
     go_simp
     with_reducible rfl
    rotate_left
    ·simp only [Act.put, List.setIfInBounds_toArray, List.set_cons_zero, List.set_cons_succ, i64_w, i32_w]
     rfl
    refine one_ (i := 2) (N := some 24) #[T,T,T,F,F] rfl rfl (by kernel_rfl) (by decide) (fun K hK => ?_)
    refine goes_ Try.func22 (by kernel_rfl) rfl #[.agg #[.int .i64 eA, .int .i64 fA, .slice mA dA.length nA, .slice rA aA.length oA, .int .i64 hA]] (by rfl) rfl rfl q11_3 ?_
    with_reducible refine (laws_toCrew.calls k eA fA _ _ dA _ _ aA hA zD AD BD CD DD _ ?side1 ?side2 ?side3 ?side4 A12.out).mono ?_
    (case side1 => exact q11_13)
    (case side2 => exact pB.out)
    (case side3 => exact q11_14)
    (case side4 => exact qB.out)
    rintro e iG ⟨cG, dG, rfl, ho0, ho1, hb⟩
    refine ⟨_, rfl, ?_⟩
    have FA := Aside0.mk (Kd.R_elder' q11_23 (Kd.R_base ho0) hb)
    have GA := Aside0.mk (Kd.S_mono (Kd.S_told (Kd.S_told (Kd.S_old q11_27 hb) (Kd.R_base ho0)) (Kd.S_base ho1)) (fun _ h_ => h_.1))
    have aB := Aside0.mk (Kd.R_lower (Kd.R_new' (Kd.R_new' ho0 (Kd.R_lt q11_16)) (Kd.R_lt q11_23)) (below_size q11_8))
    have xB := Aside0.mk (Kd.S_lower (Kd.S_new' (Kd.S_new' (Kd.S_new' (Kd.S_new' ho1 (Kd.R_lt q11_16)) (Kd.S_lt q11_20)) (Kd.R_lt q11_23)) (Kd.S_lt q11_27)) (below_size q11_8))
    have yB := Aside0.mk (blk_below (g := jA) (o := .cells #[.int .i64 eA, .int .i64 fA, .slice mA dA.length nA, .slice rA aA.length oA, .int .i64 hA] 40 (0, 0)) q11_7 hb)
    have cC := Aside0.mk (blk_below (g := lA) (o := .cells #[.int .i64 OA, .int .i64 VA, .slice jB PA.length ZA, .slice wB YA.length rB, .int .i64 kB] 29 (0, 0)) (by (with_reducible repeat (first | refine blk_drewN ?_ _ | refine blk_drew ?_ | refine blk_alloc ?_ _)); exact kA.out) hb)
    have QC := Aside0.mk (below_step q11_8 hb)
    clear xA yA AA BA cA kA HB
    have AA := FA
    have BA := GA
    have RC := aB
    have SC := xB
    have cA := yB
    have kA := cC
    have HB := QC
    clear FA GA aB xB yB cC QC
    (try clear hb)
    (try clear hb2)
    (try clear hk)
    (try clear hi)
    (try clear ho0)
    (try clear ho1)
    obtain ⟨nF, oF, UD⟩ := Kd.R_slice RC.out
    (first | subst UD | (injection UD with f1_ f2_ f3_; have f4_ := f1_.symm; have f5_ := f3_.symm; clear f1_ f2_ f3_; subst f4_; subst f5_))
    obtain ⟨pF, qF, VD⟩ := Kd.S_slice SC.out
    (first | subst VD | (injection VD with f1_ f2_ f3_; have f4_ := f1_.symm; have f5_ := f3_.symm; clear f1_ f2_ f3_; subst f4_; subst f5_))
    refine hK.out _ _ ⟨(blk_cell kA.out 0).trans rfl, (blk_cell kA.out 1).trans rfl, (blk_cell kA.out 2).trans rfl, (blk_cell kA.out 3).trans rfl, (blk_cell kA.out 4).trans rfl, (blk_cell cA.out 0).trans rfl, (blk_cell cA.out 1).trans rfl, (blk_cell cA.out 2).trans rfl, (blk_cell cA.out 3).trans rfl, (blk_cell cA.out 4).trans rfl⟩ (fun hHeld => ?_)
    clear hK K
    refine norm_ (a' := ?_) ?_ ?_
    rotate_left
    ·show Act.put _ (some 24) _ = _
     simp only [Act.put, List.setIfInBounds_toArray, List.set_cons_zero, List.set_cons_succ, i64_w, i32_w]
     rfl
    refine one_ (i := 3) (N := some 25) #[T,T,T,T,F] rfl rfl (by kernel_rfl) (by decide) (fun K hK => ?_)
    refine goes_ Try.func15 (by kernel_rfl) rfl #[.agg #[.int .i64 OA, .int .i64 VA, .slice jB PA.length ZA, .slice wB YA.length rB, .int .i64 kB], .agg #[.int .i64 zD, .int .i64 AD, .slice nF BD.length oF, .slice pF CD.length qF, .int .i64 DD]] (by rfl) rfl rfl q11_3 ?_
    with_reducible refine (laws_eqCrew.calls k OA VA _ _ PA _ _ YA kB zD AD _ _ BD _ _ CD DD true _ ?side1 ?side2 ?side3 ?side4 ?side5 ?side6 ?side7 ?side8 A13.out).mono ?_
    (case side1 => repeat (first | exact (Kd.R_reads' AA.out).2.2 | (with_reducible refine Kd.C_alloc ?_ _) | (with_reducible refine Kd.C_drewN ?_ _) | (with_reducible refine Kd.C_drew ?_)))
    (case side2 => exact (Kd.R_reads' AA.out).2.1)
    (case side3 => repeat (first | exact (Kd.S_reads' BA.out).2.2 | (with_reducible refine Kd.C_alloc ?_ _) | (with_reducible refine Kd.C_drewN ?_ _) | (with_reducible refine Kd.C_drew ?_)))
    (case side4 => exact (Kd.S_reads' BA.out).2.1)
    (case side5 => repeat (first | exact (Kd.R_reads' RC.out).2.2 | (with_reducible refine Kd.C_alloc ?_ _) | (with_reducible refine Kd.C_drewN ?_ _) | (with_reducible refine Kd.C_drew ?_)))
    (case side6 => exact (Kd.R_reads' RC.out).2.1)
    (case side7 => repeat (first | exact (Kd.S_reads' SC.out).2.2 | (with_reducible refine Kd.C_alloc ?_ _) | (with_reducible refine Kd.C_drewN ?_ _) | (with_reducible refine Kd.C_drew ?_)))
    (case side8 => exact (Kd.S_reads' SC.out).2.1)
    rintro e jG ⟨rfl, hb⟩
    refine ⟨_, rfl, ?_⟩
    have yB := Aside0.mk (blk_below (g := jA) (o := .cells #[.int .i64 eA, .int .i64 fA, .slice mA dA.length nA, .slice rA aA.length oA, .int .i64 hA] 40 (0, 0)) q11_7 hb)
    have cC := Aside0.mk (blk_below (g := lA) (o := .cells #[.int .i64 OA, .int .i64 VA, .slice jB PA.length ZA, .slice wB YA.length rB, .int .i64 kB] 29 (0, 0)) (by (with_reducible repeat (first | refine blk_drewN ?_ _ | refine blk_drew ?_ | refine blk_alloc ?_ _)); exact kA.out) hb)
    have QC := Aside0.mk (below_step q11_8 hb)
    clear AA BA RC SC cA kA HB
    have cA := yB
    have kA := cC
    have HB := QC
    clear yB cC QC
    (try clear hb)
    (try clear hb2)
    (try clear hk)
    (try clear hi)
    refine hK.out _ _ ⟨(blk_cell kA.out 0).trans rfl, (blk_cell kA.out 1).trans rfl, (blk_cell kA.out 2).trans rfl, (blk_cell kA.out 3).trans rfl, (blk_cell kA.out 4).trans rfl, (blk_cell cA.out 0).trans rfl, (blk_cell cA.out 1).trans rfl, (blk_cell cA.out 2).trans rfl, (blk_cell cA.out 3).trans rfl, (blk_cell cA.out 4).trans rfl⟩ (fun hHeld => ?_)
    clear hK K
    refine norm_ (a' := ?_) ?_ ?_
    rotate_left
    ·show Act.put _ (some 25) _ = _
     simp only [Act.put, List.setIfInBounds_toArray, List.set_cons_zero, List.set_cons_succ, i64_w, i32_w]
     rfl
    refine pure_ (i := 4) (N := some 26) (v := ?_) (a' := ?_) #[T,T,T,T,T] rfl rfl (by kernel_rfl) (fun _ _ _ h => h) (Or.inl ⟨by rfl, ?_⟩) ?_ ?_
    rotate_left
    ·intro w'
     go_simp
     with_reducible rfl
    rotate_left
    ·simp only [Act.put, List.setIfInBounds_toArray, List.set_cons_zero, List.set_cons_succ, i64_w, i32_w]
     rfl
    refine done_ (by kernel_rfl) ?_
    try go_wp2
    go_ret
    exact ⟨q11_21, q11_8⟩
   ·replace c14 := Bool.eq_false_iff.mpr c14
    subst c14
    rw [if_neg (show ¬ (false = true) by decide)] at H
    exact absurd H (by simp)

/-! What the arguments hold: each number fits, each length is one. -/
def wfT106 (x : S106) : Prop := (Lit.int .i64 x.f0).wf = true ∧ (Lit.int .i64 x.f1).wf = true ∧ (Lit.int .i64 x.f2).wf = true ∧ (Lit.int .i64 x.f3).wf = true ∧ (Lit.int .i64 x.f4).wf = true ∧ (Lit.int .i64 x.f5).wf = true ∧ (Lit.int .i64 x.f6).wf = true ∧ (Lit.int .i64 x.f7).wf = true ∧ (Lit.int .i64 x.f8).wf = true ∧ True
def wfT50 (x : S50) : Prop := (x.f0.length ≤ maxLen ∧ ∀ y ∈ x.f0, wfT106 y) ∧ (Lit.int .i64 x.f1).wf = true ∧ (x.f2.length ≤ maxLen ∧ ∀ y ∈ x.f2, (Lit.int .i64 y).wf = true) ∧ (x.f3.length ≤ maxLen ∧ ∀ y ∈ x.f3, (Lit.int .i64 y).wf = true)
/-- THE ONE PURE STATEMENT of laws_FnExactCrewOk. -/
def laws_FnExactCrewOk.Pure : Prop := ∀ (eA : Int) (fA : Int) (dA : List Int) (aA : List (S50)) (hA : Int), ((Lit.int .i64 eA).wf = true ∧ (Lit.int .i64 fA).wf = true ∧ ((dA.length ≤ maxLen ∧ ∀ y ∈ dA, (Lit.int .i64 y).wf = true)) ∧ (aA.length ≤ maxLen ∧ ∀ y ∈ aA, wfT50 y) ∧ (Lit.int .i64 hA).wf = true) → ∃ k, laws_FnExactCrewOk.f k eA fA dA aA hA = some true

end Go.Proofs.Ytndkfjecipjiaaa.PFnExactCrewOk
