-- Written by the session's own patched copy of the printer (wip/patch_print.py).
import Derived.Test.YtjikobdblohphaaPFnExactLiKeysx0
import Derived.Test.YtjikobdblohphaaPFnExactLiKeysx1
namespace Go.Proofs.Ytjikobdblohphaa.PFnExactLiKeys
open Go.RowKit Go.Proofs.YtjikobdblohphaaW.PrintWords Go.Proofs.YtjikobdblohphaaW.PrintLast Go.Proofs.YtjikobdblohphaaW.PrintMore
attribute [local go_sem] max2_int min2_int max_two min_two max_three min_three max_four min_four   -- for this text's walks alone
set_option linter.unusedVariables false
set_option linter.unusedSimpArgs false

open Bool renaming true → T, false → F
theorem q2_0 {p : Prop} (h : p := by repeat (first | (with_reducible first | exact HB.out | apply below_alloc | apply pw_below_drewN | apply below_drew1 | refine below_set ?_ MA.out) | exact HB.out)) : p := h
theorem q2_1 {p : Prop} (h : p := by (try simp only [List.map_toArray, List.map_cons, List.map_nil]); first | done | rfl | (simp only [List.length_drop, List.length_take]; rfl)) : p := h
theorem q2_2 {p : Prop} (h : p := by repeat (first | (with_reducible first | exact HB.out | apply below_alloc | apply pw_below_drewN | apply below_drew1 | refine below_set ?_ GE.out | refine below_set ?_ GS.out) | exact HB.out)) : p := h
theorem q2_3 {p : Prop} (h : p := by (with_reducible repeat (first | refine blk_drewN ?_ _ | refine blk_drew ?_ | refine blk_alloc ?_ _)); exact cA.out) : p := h
theorem q2_4 {p : Prop} (h : p := by repeat (first | (with_reducible first | exact HB.out | apply below_alloc | apply pw_below_drewN | apply below_drew1) | exact HB.out)) : p := h
theorem q2_5 {p : Prop} (h : p := by repeat (first | exact (Kd.R_reads' lA.out).2.2 | (with_reducible refine Kd.C_alloc ?_ _) | (with_reducible refine Kd.C_drewN ?_ _) | (with_reducible refine Kd.C_drew ?_))) : p := h
theorem q2_6 {p : Prop} (h : p := by first | rfl | (simp; done) | (simp [*]; done)) : p := h
theorem q2_7 {p : Prop} (h : p := by kernel_rfl) : p := h
theorem q2_8 {p : Prop} (h : p := by repeat (first | exact Drawn0.refl _ | apply Drawn0.step)) : p := h
theorem q2_9 {p : Prop} (h : p := by first | (with_reducible assumption) | assumption) : p := h
theorem q2_10 {p : Prop} (h : p := by (with_reducible repeat (first | refine blk_drewN ?_ _ | refine blk_drew ?_ | refine blk_alloc ?_ _)); exact BK.out) : p := h
theorem q2_11 {p : Prop} (h : p := by (with_reducible repeat (first | apply Kd.R_alloc | apply Kd.R_drewN | apply Kd.R_drew)); exact pA.out) : p := h
theorem q2_12 {p : Prop} (h : p := by (with_reducible repeat (first | apply Kd.R_alloc | apply Kd.R_drewN | apply Kd.R_drew)); exact lA.out) : p := h
theorem q2_13 {p : Prop} (h : p := by (with_reducible repeat (first | apply Kd.R_alloc | apply Kd.R_drewN | apply Kd.R_drew)); exact Kd.R_mono pA.out (fun _ hk => ⟨trivial, hk⟩)) : p := h
theorem q2_14 {p : Prop} (h : p := by first | rfl | (simp [errW_none, errW_some] <;> rfl) | (simp [*, errW_none, errW_some] <;> rfl)) : p := h
theorem q2_15 {p : Prop} (h : p := by (with_reducible repeat (first | apply Kd.R_alloc | apply Kd.R_drewN | apply Kd.R_drew)); exact Kd.R_mono pA.out (fun _ hk => hk.2)) : p := h
theorem q2_16 {p : Prop} (h : p := by (with_reducible repeat (first | apply Kd.R_alloc | apply Kd.R_drewN | apply Kd.R_drew)); exact rA.out) : p := h
theorem q2_17 {p : Prop} (h : p := by (with_reducible repeat (first | apply Kd.R_alloc | apply Kd.R_drewN | apply Kd.R_drew)); exact HO.out) : p := h
/-! ### spec_LiKeys: function 27 -/
mutual
def spec_LiKeys.j0 : Nat → Int → List Int → List Int → Bool → List Int → Option (List Int)
 | 0, _, _, _, _, _ => none
 | k + 1, x0, x5, x6, x22, dA => if x22 = true then (some x5) else (if 0 < (dA.length : Int) then (spec_LiKeys.l0 k x0 x5 x6 (rd dA 0) dA) else (none))
def spec_LiKeys.l0 : Nat → Int → List Int → List Int → Int → List Int → Option (List Int)
 | 0, _, _, _, _, _ => none
 | k + 1, x0, x5, x6, x7, dA => (spec_l05There.f x0 x7).bind fun IA => (if IA = true then ((spec_l05Node.f x7).bind fun bA => ((spec_l03Has.f k x6 bA).bind fun JA => (if JA = true then (some ([] : List Int)) else (if x6.length < 17592186044416 then ((some (x6 ++ [bA] : List Int)).bind fun y138 => (if 0 ≤ (wrap64 (2 + (wrap64 (2 * bA)))) then (if (wrap64 (2 + (wrap64 (2 * bA)))) < (dA.length : Int) then (if (rd dA (wrap64 (2 + (wrap64 (2 * bA))))) ≥ 0 then (if (Int.tmod (rd dA (wrap64 (2 + (wrap64 (2 * bA))))) 2) = 0 then (if 0 ≤ (wrap64 (1 + (wrap64 (2 * bA)))) then (if (wrap64 (1 + (wrap64 (2 * bA)))) < (dA.length : Int) then (if x5.length < 17592186044416 then (spec_LiKeys.l0 k x0 (x5 ++ [rd dA (wrap64 (1 + (wrap64 (2 * bA))))]) y138 (rd dA (wrap64 (2 + (wrap64 (2 * bA))))) dA) else (none)) else (none)) else (none)) else (spec_LiKeys.l0 k x0 x5 y138 (rd dA (wrap64 (2 + (wrap64 (2 * bA))))) dA)) else (spec_LiKeys.l0 k x0 x5 y138 (rd dA (wrap64 (2 + (wrap64 (2 * bA))))) dA)) else (none)) else (none))) else (none))))) else ((spec_l05Link.f x0 x7).bind fun KA => (if KA = true then (some x5) else (some ([] : List Int)))))
end
def spec_LiKeys.f (k : Nat) (a0 : Int) (aA : List Int) : Option (List Int) := (some (([] : List Int) : List Int)).bind fun y126 => ((some (([] : List Int) : List Int)).bind fun y129 => ((spec_l03Size.f a0).bind fun vA => (if vA = true then (spec_LiKeys.j0 k a0 y126 y129 ((aA.length : Int) != (wrap64 (1 + (wrap64 (2 * a0))))) aA) else (spec_LiKeys.j0 k a0 y126 y129 true aA))))
theorem spec_LiKeys.mono_l : ∀ k, (∀ y0 y1 y2 y3 y4, LeO (spec_LiKeys.j0 k y0 y1 y2 y3 y4) (spec_LiKeys.j0 (k + 1) y0 y1 y2 y3 y4)) ∧ (∀ y0 y1 y2 y3 y4, LeO (spec_LiKeys.l0 k y0 y1 y2 y3 y4) (spec_LiKeys.l0 (k + 1) y0 y1 y2 y3 y4))
 | 0 => ⟨fun _ _ _ _ _ r h => by simp [spec_LiKeys.j0] at h, fun _ _ _ _ _ r h => by simp [spec_LiKeys.l0] at h⟩
 | k + 1 => by
  obtain ⟨ih0, ih1⟩ := spec_LiKeys.mono_l k
  refine ⟨?_, ?_⟩
  ·intro y0 y1 y2 y3 y4
   unfold spec_LiKeys.j0
   repeat' first
   | (with_reducible exact ih0 _ _ _ _ _)
   | (with_reducible exact ih1 _ _ _ _ _)
   | (with_reducible exact spec_l03Has.mono _ _ _)
   | (with_reducible exact LeO.refl _)
   | (with_reducible exact LeO.none _)
   | (with_reducible refine LeO.ite ?_ ?_)
   | (with_reducible refine LeO.bind ?_ (fun _ => ?_))
   | exact ih0 _ _ _ _ _
   | exact ih1 _ _ _ _ _
   | exact spec_l03Has.mono _ _ _
   | exact LeO.none _
   | refine LeO.ite ?_ ?_
   | refine LeO.bind ?_ (fun _ => ?_)
  ·intro y0 y1 y2 y3 y4
   unfold spec_LiKeys.l0
   repeat' first
   | (with_reducible exact ih0 _ _ _ _ _)
   | (with_reducible exact ih1 _ _ _ _ _)
   | (with_reducible exact spec_l03Has.mono _ _ _)
   | (with_reducible exact LeO.refl _)
   | (with_reducible exact LeO.none _)
   | (with_reducible refine LeO.ite ?_ ?_)
   | (with_reducible refine LeO.bind ?_ (fun _ => ?_))
   | exact ih0 _ _ _ _ _
   | exact ih1 _ _ _ _ _
   | exact spec_l03Has.mono _ _ _
   | exact LeO.none _
   | refine LeO.ite ?_ ?_
   | refine LeO.bind ?_ (fun _ => ?_)
theorem spec_LiKeys.mono : ∀ a0 a1 k, LeO (spec_LiKeys.f k a0 a1) (spec_LiKeys.f (k + 1) a0 a1) := by
 intro a0 a1 k
 obtain ⟨ih0, ih1⟩ := spec_LiKeys.mono_l k
 unfold spec_LiKeys.f
 repeat' first
   | (with_reducible exact ih0 _ _ _ _ _)
   | (with_reducible exact ih1 _ _ _ _ _)
   | (with_reducible exact spec_l03Has.mono _ _ _)
   | (with_reducible exact LeO.refl _)
   | (with_reducible exact LeO.none _)
   | (with_reducible refine LeO.ite ?_ ?_)
   | (with_reducible refine LeO.bind ?_ (fun _ => ?_))
   | exact ih0 _ _ _ _ _
   | exact ih1 _ _ _ _ _
   | exact spec_l03Has.mono _ _ _
   | exact LeO.none _
   | refine LeO.ite ?_ ?_
   | refine LeO.bind ?_ (fun _ => ?_)
set_option maxHeartbeats 8000000 in
set_option maxRecDepth 100000 in
theorem spec_LiKeys.calls (k : Nat) (a0 : Int) (kA : Option Addr) (fA : Nat) (aA : List Int) (r : List Int) (w : World) (sA : Kd.C (Kd.int .i64) w kA aA.length aA) (xA : aA.length ≤ fA) (h : spec_LiKeys.f k a0 aA = some r) :
  Calls Try.prog 27 #[.int .i64 a0, .agg #[.slice kA aA.length fA]] w fun e w' => ∃ v0_ : Value, e = .returned (v0_) ∧ Kd.R (Kd.int .i64) 3 w' w.heap.size (fun _ => True) v0_ r ∧ Below w.heap.size w w' := by
 have hu29 := Try.underlying29
 have yA := Aside0.mk sA
 clear sA xA
 have HB := Aside0.mk (Below.refl w.heap.size w)
 have H : ((some (([] : List Int) : List Int)).bind fun y126 => ((some (([] : List Int) : List Int)).bind fun y129 => ((spec_l03Size.f a0).bind fun vA => (if vA = true then (spec_LiKeys.j0 k a0 y126 y129 ((aA.length : Int) != (wrap64 (1 + (wrap64 (2 * a0))))) aA) else (spec_LiKeys.j0 k a0 y126 y129 true aA))))) = some r := h
 clear h
 obtain ⟨y126, hy126⟩ : ∃ y_ : List Int, y_ = (([] : List Int)) := ⟨_, rfl⟩
 replace H : ((some (([] : List Int) : List Int)).bind fun y129 => ((spec_l03Size.f a0).bind fun vA => (if vA = true then (spec_LiKeys.j0 k a0 y126 y129 ((aA.length : Int) != (wrap64 (1 + (wrap64 (2 * a0))))) aA) else (spec_LiKeys.j0 k a0 y126 y129 true aA)))) = some r := by first | (rw [hy126]; with_reducible exact H) | (have H2_ := (Option.bind_some _ _).symm.trans H; rw [hy126]; with_reducible exact H2_) | (have H2_ := (Option.bind_some _ _).symm.trans H; with_reducible exact H2_) | with_reducible exact H | (rw [hy126]; exact H) | exact H
 have Ny126 := Aside0.mk hy126
 clear hy126
 obtain ⟨y129, hy129⟩ : ∃ y_ : List Int, y_ = (([] : List Int)) := ⟨_, rfl⟩
 replace H : ((spec_l03Size.f a0).bind fun vA => (if vA = true then (spec_LiKeys.j0 k a0 y126 y129 ((aA.length : Int) != (wrap64 (1 + (wrap64 (2 * a0))))) aA) else (spec_LiKeys.j0 k a0 y126 y129 true aA))) = some r := by first | (rw [hy129]; with_reducible exact H) | (have H2_ := (Option.bind_some _ _).symm.trans H; rw [hy129]; with_reducible exact H2_) | (have H2_ := (Option.bind_some _ _).symm.trans H; with_reducible exact H2_) | with_reducible exact H | (rw [hy129]; exact H) | exact H
 have Ny129 := Aside0.mk hy129
 clear hy129
 have HC3 := Aside0.mk H
 clear H
 go_enter Try.func27, Try.ntmps27
 go_upto_region 3 with (first | ((with_reducible refine gate_dst (N := 3) rfl ?_); (try (refine gate_guard (by rfl) ?_; dsimp only)); refine box_event ?hg (N := 3) ?hd (cs := #[.slice kA aA.length fA]) (t := 29) ?hr ?_; (case hd => rfl); (case hg => rfl); (case hr => first | (go_simp; done) | (go_simp; rfl)); intro iA hg w4 hbox hb; have mA := Aside0.mk (below_step q2_4 hb); have qA := Aside0.mk (hbox); have nA := Aside0.mk ((by rw [hg]; exact (below_size q2_4) : w.heap.size ≤ iA)); have tA := Aside0.mk ((by rw [hg]; exact (below_size q2_4) : w.heap.size ≤ iA)); clear HB; have HB := mA; have cA := qA; have tB := nA; have MA := tA; clear mA qA nA tA; clear hb hbox hg) | ((with_reducible refine gate_dst (N := 9) rfl ?_); (try (refine gate_guard (by rfl) ?_; dsimp only)); refine Kd.R_lit (Kd.int .i64) _ 3 ?hg (N := 9) ?hd (xs := ([] : List Int)) (inner := []) (ok := fun _ => True) (okp := fun _ => True) ?hr ?hp (fun _ hk => hk) trivial (Below.refl _ _) (Nat.le_refl _) (by simp) ?_; (case hd => rfl); (case hg => rfl); (case hr => first | (go_simp; done) | (go_simp; rfl)); (case hp => exact (Reps.none _ _)); intro NA w5 ho6 hb hg_ hnew_; clear hg_ hnew_; (first | rw [← Ny126.out] at ho6 | (simp only [Int.reduceToNat] at ho6; rw [← Ny126.out] at ho6)); have mA := Aside0.mk (Kd.R_lower ho6 (below_size q2_0)); have qA := Aside0.mk (blk_below (g := iA) (o := .cells #[.slice kA aA.length fA] 29 (0, 0)) q2_3 hb); have nA := Aside0.mk (below_step q2_0 hb); clear cA HB; have uA := mA; have cA := qA; have HB := nA; clear mA qA nA; clear hb ho6) | ((with_reducible refine gate_dst (N := 10) rfl ?_); (try (refine gate_guard (by rfl) ?_; dsimp only)); refine Kd.R_lit (Kd.int .i64) _ 3 ?hg (N := 10) ?hd (xs := ([] : List Int)) (inner := []) (ok := fun _ => True) (okp := fun _ => True) ?hr ?hp (fun _ hk => hk) trivial (Below.refl _ _) (Nat.le_refl _) (by simp) ?_; (case hd => rfl); (case hg => rfl); (case hr => first | (go_simp; done) | (go_simp; rfl)); (case hp => exact (Reps.none _ _)); intro OA w7 ho8 hb hg_ hnew_; clear hg_ hnew_; (first | rw [← Ny129.out] at ho8 | (simp only [Int.reduceToNat] at ho8; rw [← Ny129.out] at ho8)); have mA := Aside0.mk (Kd.R_elder' (by (with_reducible repeat (first | apply Kd.R_alloc | apply Kd.R_drewN | apply Kd.R_drew)); exact uA.out) (Kd.R_base ho8) hb); have qA := Aside0.mk (Kd.R_lower (Kd.R_new' ho8 (Kd.R_lt (by (with_reducible repeat (first | apply Kd.R_alloc | apply Kd.R_drewN | apply Kd.R_drew)); exact uA.out))) (below_size q2_0)); have nA := Aside0.mk (blk_below (g := iA) (o := .cells #[.slice kA aA.length fA] 29 (0, 0)) q2_3 hb); have tA := Aside0.mk (below_step q2_0 hb); clear uA cA HB; have uA := mA; have GA := qA; have cA := nA; have HB := tA; clear mA qA nA tA; clear hb ho8))
 (try simp only [Act.put, List.setIfInBounds_toArray, List.set_cons_zero, List.set_cons_succ])
 go_cut [22] (fun v22 wc => ∃ (kq : Nat) (zA : Bool), v22 = .bool zA ∧ Aside0 (spec_LiKeys.j0 kq a0 y126 y129 zA aA = some r) ∧ Aside0 (kq ≤ k) ∧ Aside0 (Kd.R (Kd.int .i64) 3 wc w.heap.size (fun k_ => some k_ ≠ (OA : Value).ownBlock) NA y126) ∧ Aside0 (Kd.R (Kd.int .i64) 3 wc w.heap.size (fun k_ => some k_ ≠ (NA : Value).ownBlock) OA y129) ∧ Aside0 (wc.heap[iA]? = some (.cells #[(.slice kA aA.length fA)] 29 (0, 0))) ∧ Aside0 (Below w.heap.size w wc))
 case first =>
  have H := HC3.out
  clear HC3
  replace H := Option.bind_eq_some_iff.mp H
  obtain ⟨vA, A90, H⟩ := H
  (try dsimp only at H)
  have A9 := Aside0.mk A90
  clear A90
  by_cases c10 : vA = true
  ·subst c10
   rw [if_pos rfl] at H
   have H' := Aside0.mk H
   clear H
   go_wp2_with (first | ((with_reducible refine gate_callee (f := 41) rfl ?_); refine goesL_ (some 12) rfl rfl Try.func41 q2_7 rfl #[.int .i64 a0] rfl q2_1 ?_; (with_reducible refine (spec_l03Size.calls a0 true _ A9.out).mono ?_); rintro e w' ⟨rfl, ⟨nd, rfl⟩⟩; refine ⟨_, rfl, ?_⟩; have AA : w7.cell? ⟨iA, 0, none⟩ = some (.slice kA aA.length fA) := (blk_cell cA.out 0).trans rfl; have BA := blk_frozen cA.out 0))
   go_meet
   case rel => exact ⟨_, (((aA.length : Int) != (wrap64 (1 + (wrap64 (2 * a0)))))), q2_6, H', ⟨by first | omega | exact Nat.le_refl _⟩, ⟨by (with_reducible repeat (first | apply Kd.R_alloc | apply Kd.R_drewN | apply Kd.R_drew)); exact Kd.R_mono uA.out (fun _ hk => hk.2)⟩, ⟨by (with_reducible repeat (first | apply Kd.R_alloc | apply Kd.R_drewN | apply Kd.R_drew)); exact Kd.R_mono GA.out (fun _ hk => hk.2)⟩, ⟨q2_3⟩, ⟨q2_0⟩⟩
  ·replace c10 := Bool.eq_false_iff.mpr c10
   subst c10
   rw [if_neg (show ¬ (false = true) by decide)] at H
   have H' := Aside0.mk H
   clear H
   go_wp2_with (first | ((with_reducible refine gate_callee (f := 41) rfl ?_); refine goesL_ (some 12) rfl rfl Try.func41 q2_7 rfl #[.int .i64 a0] rfl q2_1 ?_; (with_reducible refine (spec_l03Size.calls a0 false _ A9.out).mono ?_); rintro e w' ⟨rfl, ⟨nd, rfl⟩⟩; refine ⟨_, rfl, ?_⟩))
   go_meet
   case rel => exact ⟨_, (true), q2_6, H', ⟨by first | omega | exact Nat.le_refl _⟩, ⟨by (with_reducible repeat (first | apply Kd.R_alloc | apply Kd.R_drewN | apply Kd.R_drew)); exact Kd.R_mono uA.out (fun _ hk => hk.2)⟩, ⟨by (with_reducible repeat (first | apply Kd.R_alloc | apply Kd.R_drewN | apply Kd.R_drew)); exact Kd.R_mono GA.out (fun _ hk => hk.2)⟩, ⟨q2_3⟩, ⟨q2_0⟩⟩
 case rest =>
  clear HC3
  (try clear c1); (try clear c2); (try clear p2); (try clear c4); (try clear p6); (try clear c10); (try clear AA); (try clear BA)
  obtain ⟨kq, zA, rfl, HA, HJ2, pA, lA, cA, HB⟩ := hcut
  cases kq with
  | zero => exact absurd HA.out (by simp [spec_LiKeys.j0])
  | succ kj2 =>
   have H := HA.out
   clear HA
   simp only [spec_LiKeys.j0] at H
   by_cases c12 : zA = true
   ·subst c12
    rw [if_pos rfl] at H
    obtain rfl := Option.some.inj H
    go_wp2
    go_ret
    exact ⟨_, q2_14, by (with_reducible repeat (first | apply Kd.R_alloc | apply Kd.R_drewN | apply Kd.R_drew)); exact Kd.R_mono pA.out (fun _ hk => trivial), q2_0⟩
   ·replace c12 := Bool.eq_false_iff.mpr c12
    subst c12
    rw [if_neg (show ¬ (false = true) by decide)] at H
    by_cases c13 : 0 < (aA.length : Int)
    ·rw [if_pos c13] at H
     have PA : decide (0 < (aA.length : Int)) = true := decide_eq_true c13
     have QA : decide (0 < aA.length) = true := decide_eq_true (by omega)
     clear c13
     have H' := Aside0.mk H
     clear H
     have EA : wc.cell? ⟨iA, 0, none⟩ = some (.slice kA aA.length fA) := (blk_cell cA.out 0).trans rfl
     have FA := blk_frozen cA.out 0
     have p133 : 0 ≤ (0 : Int) := (by omega)
     have q133 : 0 < (aA.length : Int) := of_decide_eq_true q2_9
     obtain ⟨ad133, jB, oA⟩ := Kd.at_int yA.out 0 p133 q133
     cases jB
     have qi133 : (0 < aA.length) = True := eq_true (by omega)
     (try rw [show ((0 : Int)).toNat = 0 from rfl] at oA)
     (try rw [Addr.add_zero'] at oA)
     replace oA := (HB.out.cell (World.block_lt_of_cell? w _ oA)).trans oA
     replace p133 := eq_true p133
     replace q133 := eq_true q133
     go_wp2
     go_loopg [5, 6, 7] kj2 (fun kq v5 v6 v7 w' => ∃ (hA : List Int) (jA : List Int) (eA : Int), v7 = .int .i64 eA ∧ Aside0 (spec_LiKeys.l0 kq a0 hA jA eA aA = some r) ∧ Aside0 (kq ≤ kj2) ∧ Aside0 (Kd.R (Kd.int .i64) 3 w' w.heap.size (fun k_ => some k_ ≠ (v6 : Value).ownBlock) v5 hA) ∧ Aside0 (Kd.R (Kd.int .i64) 3 w' w.heap.size (fun k_ => some k_ ≠ (v5 : Value).ownBlock) v6 jA) ∧ Aside0 (w'.heap[iA]? = some (.cells #[(.slice (some ad133) aA.length fA)] 29 (0, 0))) ∧ Aside0 (Below w.heap.size w w'))
     case atStart => exact ⟨(y126), (y129), (rd aA 0), q2_6, H', ⟨Nat.le_refl _⟩, ⟨q2_11⟩, ⟨q2_12⟩, ⟨q2_3⟩, ⟨q2_0⟩⟩
     case round =>
      clear H'
      (try clear c1); (try clear p1); (try clear q1); (try clear hx1); (try clear qi1); (try clear c2); (try clear p2); (try clear c4); (try clear p6); (try clear c10); (try clear c12); (try clear c13); (try clear PA); (try clear QA); (try clear p13); (try clear q13); (try clear hx13); (try clear qi13); (try clear AA); (try clear EA); (try clear BA); (try clear FA); (try clear oA); (try clear p133); (try clear p2); (try clear p6); (try clear q133)
      obtain ⟨hA, jA, eA, rfl, HA, HK2, pA, lA, cA, HB⟩ := hrel
      cases gk with
      | zero => exact absurd HA.out (by simp [spec_LiKeys.l0])
      | succ k2 =>
       have H := HA.out
       clear HA
       simp only [spec_LiKeys.l0] at H
       replace H := Option.bind_eq_some_iff.mp H
       obtain ⟨IA, A150, H⟩ := H
       (try dsimp only at H)
       have A15 := Aside0.mk A150
       clear A150
       by_cases c16 : IA = true
       ·subst c16
        rw [if_pos rfl] at H
        replace H := Option.bind_eq_some_iff.mp H
        obtain ⟨bA, A170, H⟩ := H
        (try dsimp only at H)
        have A17 := Aside0.mk A170
        clear A170
        replace H := Option.bind_eq_some_iff.mp H
        obtain ⟨JA, A180, H⟩ := H
        (try dsimp only at H)
        have A18 := Aside0.mk A180
        clear A180
        by_cases c19 : JA = true
        ·subst c19
         rw [if_pos rfl] at H
         obtain rfl := Option.some.inj H
         go_wp2_with (first | ((with_reducible refine gate_callee (f := 65) rfl ?_); refine goesL_ (some 30) rfl rfl Try.func65 q2_7 rfl #[.int .i64 a0, .int .i64 eA] rfl q2_1 ?_; (with_reducible refine (spec_l05There.calls a0 eA true _ A15.out).mono ?_); rintro e w' ⟨rfl, ⟨nd, rfl⟩⟩; refine ⟨_, rfl, ?_⟩) | ((with_reducible refine gate_callee (f := 45) rfl ?_); refine goesL_ (some 32) rfl rfl Try.func45 q2_7 rfl #[.int .i64 eA] rfl q2_1 ?_; (with_reducible refine (spec_l05Node.calls eA bA _ A17.out).mono ?_); rintro e w' ⟨rfl, ⟨nd, rfl⟩⟩; refine ⟨_, rfl, ?_⟩; obtain ⟨kB, lB, mB⟩ := Kd.R_slice lA.out; subst mB) | ((with_reducible refine gate_callee (f := 66) rfl ?_); refine goesL_ (some 35) rfl rfl Try.func66 q2_7 rfl #[.slice kB jA.length lB, .int .i64 bA] rfl q2_1 ?_; (with_reducible refine (spec_l03Has.calls k2 _ _ jA bA true _ ?side1 ?side2 A18.out).mono ?_); (case side1 => exact q2_5); (case side2 => exact (Kd.R_reads' lA.out).2.1); rintro e w' ⟨rfl, ⟨nd, rfl⟩⟩; refine ⟨_, rfl, ?_⟩))
         go_ret
         exact ⟨_, q2_14, by first | exact Kd.R_nil _ _ _ _ _ | exact Kd.N_nil _ _ _ _ _ | exact Kd.V_nil _ _ _ _ _ | exact Kd.Q_nil _ _ _ _ _ | exact Kd.S_nil _ _ _ _ _, q2_0⟩
        ·replace c19 := Bool.eq_false_iff.mpr c19
         subst c19
         rw [if_neg (show ¬ (false = true) by decide)] at H
         by_cases c21 : jA.length < 17592186044416
         ·rw [if_pos c21] at H
          have LMc21 := Aside0.mk c21
          clear c21
          obtain ⟨y138, hy138⟩ : ∃ y_ : List Int, y_ = (jA ++ [bA]) := ⟨_, rfl⟩
          replace H : (if 0 ≤ (wrap64 (2 + (wrap64 (2 * bA)))) then (if (wrap64 (2 + (wrap64 (2 * bA)))) < (aA.length : Int) then (if (rd aA (wrap64 (2 + (wrap64 (2 * bA))))) ≥ 0 then (if (Int.tmod (rd aA (wrap64 (2 + (wrap64 (2 * bA))))) 2) = 0 then (if 0 ≤ (wrap64 (1 + (wrap64 (2 * bA)))) then (if (wrap64 (1 + (wrap64 (2 * bA)))) < (aA.length : Int) then (if hA.length < 17592186044416 then (spec_LiKeys.l0 k2 a0 (hA ++ [rd aA (wrap64 (1 + (wrap64 (2 * bA))))]) y138 (rd aA (wrap64 (2 + (wrap64 (2 * bA))))) aA) else (none)) else (none)) else (none)) else (spec_LiKeys.l0 k2 a0 hA y138 (rd aA (wrap64 (2 + (wrap64 (2 * bA))))) aA)) else (spec_LiKeys.l0 k2 a0 hA y138 (rd aA (wrap64 (2 + (wrap64 (2 * bA))))) aA)) else (none)) else (none)) = some r := by first | (rw [hy138]; with_reducible exact H) | (have H2_ := (Option.bind_some _ _).symm.trans H; rw [hy138]; with_reducible exact H2_) | (have H2_ := (Option.bind_some _ _).symm.trans H; with_reducible exact H2_) | with_reducible exact H | (rw [hy138]; exact H) | exact H
          have Ny138 := Aside0.mk hy138
          clear hy138
          obtain ⟨ji22, hji22⟩ : ∃ j_ : Int, (wrap64 (2 + (wrap64 (2 * bA)))) = j_ := ⟨_, rfl⟩
          replace H : (if 0 ≤ (ji22) then (if (ji22) < (aA.length : Int) then (if (rd aA (ji22)) ≥ 0 then (if (Int.tmod (rd aA (ji22)) 2) = 0 then (if 0 ≤ (wrap64 (1 + (wrap64 (2 * bA)))) then (if (wrap64 (1 + (wrap64 (2 * bA)))) < (aA.length : Int) then (if hA.length < 17592186044416 then (spec_LiKeys.l0 k2 a0 (hA ++ [rd aA (wrap64 (1 + (wrap64 (2 * bA))))]) y138 (rd aA (ji22)) aA) else (none)) else (none)) else (none)) else (spec_LiKeys.l0 k2 a0 hA y138 (rd aA (ji22)) aA)) else (spec_LiKeys.l0 k2 a0 hA y138 (rd aA (ji22)) aA)) else (none)) else (none)) = some r := by first | (rw [hji22] at H; exact H) | (simp only [hji22] at H ⊢; exact H)
          (try rw [hji22] at A15)
          (try rw [hji22] at A17)
          (try rw [hji22] at A18)
          have hji22w : (IntKind.i64.wrap (2 + (wrap64 (2 * bA)))) = ji22 := (i64_w _).trans hji22
          by_cases c23 : 0 ≤ (ji22)
          ·rw [if_pos c23] at H
           have uB : decide (0 ≤ (ji22)) = true := decide_eq_true c23
           clear c23
           by_cases c24 : (ji22) < (aA.length : Int)
           ·rw [if_pos c24] at H
            have vB : decide ((ji22) < (aA.length : Int)) = true := decide_eq_true c24
            clear c24
            by_cases c25 : (rd aA (ji22)) ≥ 0
            ·rw [if_pos c25] at H
             have RA : decide (0 ≤ (rd aA (ji22))) = true := decide_eq_true c25
             clear c25
             by_cases c26 : (Int.tmod (rd aA (ji22)) 2) = 0
             ·rw [if_pos c26] at H
              have SA : ((Int.tmod (rd aA (ji22)) 2) == 0) = true := beq_iff_eq.mpr c26
              have TA : ((Int.tmod (rd aA (ji22)) 2) != 0) = false := bne_eq_false_iff_eq.mpr c26
              clear c26
              obtain ⟨ji27, hji27⟩ : ∃ j_ : Int, (wrap64 (1 + (wrap64 (2 * bA)))) = j_ := ⟨_, rfl⟩
              replace H : (if 0 ≤ (ji27) then (if (ji27) < (aA.length : Int) then (if hA.length < 17592186044416 then (spec_LiKeys.l0 k2 a0 (hA ++ [rd aA (ji27)]) y138 (rd aA (ji22)) aA) else (none)) else (none)) else (none)) = some r := by first | (rw [hji27] at H; exact H) | (simp only [hji27] at H ⊢; exact H)
              (try rw [hji27] at A15)
              (try rw [hji27] at A17)
              (try rw [hji27] at A18)
              have hji27w : (IntKind.i64.wrap (1 + (wrap64 (2 * bA)))) = ji27 := (i64_w _).trans hji27
              by_cases c28 : 0 ≤ (ji27)
              ·rw [if_pos c28] at H
               have wB : decide (0 ≤ (ji27)) = true := decide_eq_true c28
               clear c28
               by_cases c29 : (ji27) < (aA.length : Int)
               ·rw [if_pos c29] at H
                have xB : decide ((ji27) < (aA.length : Int)) = true := decide_eq_true c29
                clear c29
                by_cases c30 : hA.length < 17592186044416
                ·rw [if_pos c30] at H
                 have LMc30 := Aside0.mk c30
                 clear c30
                 obtain ⟨y143, hy143⟩ : ∃ y_ : List Int, y_ = (hA ++ [rd aA (ji27)]) := ⟨_, rfl⟩
                 replace H : (spec_LiKeys.l0 k2 a0 y143 y138 (rd aA (ji22)) aA) = some r := by first | (rw [hy143]; with_reducible exact H) | (have H2_ := (Option.bind_some _ _).symm.trans H; rw [hy143]; with_reducible exact H2_) | (have H2_ := (Option.bind_some _ _).symm.trans H; with_reducible exact H2_) | with_reducible exact H | (rw [hy143]; exact H) | exact H
                 have Ny143 := Aside0.mk hy143
                 clear hy143
                 have H' := Aside0.mk H
                 clear H
                 go_wp2_with (first | ((with_reducible refine gate_callee (f := 65) rfl ?_); refine goesL_ (some 30) rfl rfl Try.func65 q2_7 rfl #[.int .i64 a0, .int .i64 eA] rfl q2_1 ?_; (with_reducible refine (spec_l05There.calls a0 eA true _ A15.out).mono ?_); rintro e w' ⟨rfl, ⟨nd, rfl⟩⟩; refine ⟨_, rfl, ?_⟩) | ((with_reducible refine gate_callee (f := 45) rfl ?_); refine goesL_ (some 32) rfl rfl Try.func45 q2_7 rfl #[.int .i64 eA] rfl q2_1 ?_; (with_reducible refine (spec_l05Node.calls eA bA _ A17.out).mono ?_); rintro e w' ⟨rfl, ⟨nd, rfl⟩⟩; refine ⟨_, rfl, ?_⟩; obtain ⟨UA, VA, nB⟩ := Kd.R_slice lA.out; subst nB) | ((with_reducible refine gate_callee (f := 66) rfl ?_); refine goesL_ (some 35) rfl rfl Try.func66 q2_7 rfl #[.slice UA jA.length VA, .int .i64 bA] rfl q2_1 ?_; (with_reducible refine (spec_l03Has.calls k2 _ _ jA bA false _ ?side1 ?side2 A18.out).mono ?_); (case side1 => exact q2_5); (case side2 => exact (Kd.R_reads' lA.out).2.1); rintro e w' ⟨rfl, ⟨nd, rfl⟩⟩; refine ⟨_, rfl, ?_⟩) | ((with_reducible refine gate_builtin (b := .append) (xs := #[.tmp 36, .tmp 38]) rfl ?_); (try (refine gate_guard (by rfl) ?_; dsimp only)); at_builtin; refine Kd.R_append (Kd.int .i64) (w0 := w) w.heap.size rfl (.tmp 36) (.tmp 38) 27 3 (.int .i64 0) 8 rfl Try.underlying27 info3 rfl (by decide) (by omega) (.slice UA jA.length VA) jA bA [.int .i64 bA] (fun k_ => some k_ ≠ (u5 : Value).ownBlock) (fun _ => False) rfl rfl ?aP (fun _ hk => hk.elim) ?aF ?aO ?aB ?aS ?aL ?_; (case aP => exact rfl); (case aB => exact q2_0); (case aF => exact (fun k_ hk => Kd.fresh' (Kd.R_lt q2_11) k_ hk)); (case aO => exact q2_12); (case aS => exact (below_size q2_0)); (case aL => have := LMc21.out; omega); intro LA yB ho hb hg hat; rw [← Ny138.out] at ho; have mA := Aside0.mk (Kd.R_after (ok := (fun _ => True)) q2_13 hg hat); have qA := Aside0.mk (blk_grown (g := iA) (o := .cells #[.slice (some ad133) aA.length fA] 29 (0, 0)) q2_3 hg (Kd.R_ne lA.out cA.out (by decide))); have nA := Aside0.mk (hb); have tA := Aside0.mk (ho); clear pA cA HB lA; have pA := mA; have cA := qA; have HB := nA; have rA := tA; clear mA qA nA tA; clear ho hb hg hat; have dB : yB.cell? ⟨iA, 0, none⟩ = some (.slice (some ad133) aA.length fA) := (blk_cell cA.out 0).trans rfl; have eB := blk_frozen cA.out 0; have p141 : 0 ≤ ((ji22) : Int) := of_decide_eq_true q2_9; have q141 : (ji22) < (aA.length : Int) := of_decide_eq_true q2_9; obtain ⟨ad141, CA, gA⟩ := Kd.at_int yA.out (ji22) p141 q141; obtain rfl : ad133 = ad141 := (by injection CA); replace gA := (HB.out.cell (World.block_lt_of_cell? w _ gA)).trans gA; replace p141 := eq_true p141; replace q141 := eq_true q141; have p142 : 0 ≤ ((ji27) : Int) := of_decide_eq_true q2_9; have q142 : (ji27) < (aA.length : Int) := of_decide_eq_true q2_9; obtain ⟨ad142, oB, wA⟩ := Kd.at_int yA.out (ji27) p142 q142; obtain rfl : ad133 = ad142 := (by injection oB); replace wA := (HB.out.cell (World.block_lt_of_cell? w _ wA)).trans wA; replace p142 := eq_true p142; replace q142 := eq_true q142) | ((with_reducible refine gate_builtin (b := .append) (xs := #[.tmp 54, .tmp 62]) rfl ?_); (try (refine gate_guard (by rfl) ?_; dsimp only)); at_builtin; refine Kd.R_append (Kd.int .i64) (w0 := w) w.heap.size rfl (.tmp 54) (.tmp 62) 27 3 (.int .i64 0) 8 rfl Try.underlying27 info3 rfl (by decide) (by omega) u5 hA (rd aA (ji27)) [.int .i64 (rd aA (ji27))] (fun k_ => some k_ ≠ (LA : Value).ownBlock) (fun _ => False) rfl rfl ?aP (fun _ hk => hk.elim) ?aF ?aO ?aB ?aS ?aL ?_; (case aP => exact rfl); (case aB => exact q2_0); (case aF => exact (fun k_ hk => Kd.fresh' (Kd.R_lt q2_16) k_ hk)); (case aO => exact q2_15); (case aS => exact (below_size q2_0)); (case aL => have := LMc30.out; omega); intro zB FB ho hb hg hat; rw [← Ny143.out] at ho; have mA := Aside0.mk (blk_grown (g := iA) (o := .cells #[.slice (some ad133) aA.length fA] 29 (0, 0)) q2_3 hg (Kd.R_ne pA.out cA.out (by decide))); have qA := Aside0.mk (Kd.R_after (ok := (fun _ => True)) (by (with_reducible repeat (first | apply Kd.R_alloc | apply Kd.R_drewN | apply Kd.R_drew)); exact Kd.R_mono rA.out (fun _ hk => ⟨trivial, hk⟩)) hg hat); have nA := Aside0.mk (hb); have tA := Aside0.mk (ho); clear cA rA HB pA; have cA := mA; have rA := qA; have HB := nA; have WA := tA; clear mA qA nA tA; clear ho hb hg hat))
                 go_roundg k2
                 case measure => have := HJ2.out; have := HK2.out; omega
                 case rel => exact ⟨(y143), (y138), (rd aA (ji22)), (by first | rfl | (simp; done) | (simp only [← hji22] <;> (first | rfl | simp)) | (simp [*]; done)), H', ⟨by have := HJ2.out; have := HK2.out; omega⟩, ⟨by (with_reducible repeat (first | apply Kd.R_alloc | apply Kd.R_drewN | apply Kd.R_drew)); exact WA.out⟩, ⟨by (with_reducible repeat (first | apply Kd.R_alloc | apply Kd.R_drewN | apply Kd.R_drew)); exact Kd.R_mono rA.out (fun _ hk => hk.2)⟩, ⟨q2_3⟩, ⟨q2_0⟩⟩
                ·rw [if_neg c30] at H
                 exact absurd H (by simp)
               ·rw [if_neg c29] at H
                exact absurd H (by simp)
              ·rw [if_neg c28] at H
               exact absurd H (by simp)
             ·rw [if_neg c26] at H
              have SA : ((Int.tmod (rd aA (ji22)) 2) == 0) = false := beq_eq_false_iff_ne.mpr c26
              have TA : ((Int.tmod (rd aA (ji22)) 2) != 0) = true := bne_iff_ne.mpr c26
              have H' := Aside0.mk H
              clear H
              go_wp2_with (first | ((with_reducible refine gate_callee (f := 65) rfl ?_); refine goesL_ (some 30) rfl rfl Try.func65 q2_7 rfl #[.int .i64 a0, .int .i64 eA] rfl q2_1 ?_; (with_reducible refine (spec_l05There.calls a0 eA true _ A15.out).mono ?_); rintro e w' ⟨rfl, ⟨nd, rfl⟩⟩; refine ⟨_, rfl, ?_⟩) | ((with_reducible refine gate_callee (f := 45) rfl ?_); refine goesL_ (some 32) rfl rfl Try.func45 q2_7 rfl #[.int .i64 eA] rfl q2_1 ?_; (with_reducible refine (spec_l05Node.calls eA bA _ A17.out).mono ?_); rintro e w' ⟨rfl, ⟨nd, rfl⟩⟩; refine ⟨_, rfl, ?_⟩; obtain ⟨XA, YA, pB⟩ := Kd.R_slice lA.out; subst pB) | ((with_reducible refine gate_callee (f := 66) rfl ?_); refine goesL_ (some 35) rfl rfl Try.func66 q2_7 rfl #[.slice XA jA.length YA, .int .i64 bA] rfl q2_1 ?_; (with_reducible refine (spec_l03Has.calls k2 _ _ jA bA false _ ?side1 ?side2 A18.out).mono ?_); (case side1 => exact q2_5); (case side2 => exact (Kd.R_reads' lA.out).2.1); rintro e w' ⟨rfl, ⟨nd, rfl⟩⟩; refine ⟨_, rfl, ?_⟩) | ((with_reducible refine gate_builtin (b := .append) (xs := #[.tmp 36, .tmp 38]) rfl ?_); (try (refine gate_guard (by rfl) ?_; dsimp only)); at_builtin; refine Kd.R_append (Kd.int .i64) (w0 := w) w.heap.size rfl (.tmp 36) (.tmp 38) 27 3 (.int .i64 0) 8 rfl Try.underlying27 info3 rfl (by decide) (by omega) (.slice XA jA.length YA) jA bA [.int .i64 bA] (fun k_ => some k_ ≠ (u5 : Value).ownBlock) (fun _ => False) rfl rfl ?aP (fun _ hk => hk.elim) ?aF ?aO ?aB ?aS ?aL ?_; (case aP => exact rfl); (case aB => exact q2_0); (case aF => exact (fun k_ hk => Kd.fresh' (Kd.R_lt q2_11) k_ hk)); (case aO => exact q2_12); (case aS => exact (below_size q2_0)); (case aL => have := LMc21.out; omega); intro LA AB ho hb hg hat; rw [← Ny138.out] at ho; have mA := Aside0.mk (Kd.R_after (ok := (fun _ => True)) q2_13 hg hat); have qA := Aside0.mk (blk_grown (g := iA) (o := .cells #[.slice (some ad133) aA.length fA] 29 (0, 0)) q2_3 hg (Kd.R_ne lA.out cA.out (by decide))); have nA := Aside0.mk (hb); have tA := Aside0.mk (ho); clear pA cA HB lA; have pA := mA; have cA := qA; have HB := nA; have rA := tA; clear mA qA nA tA; clear ho hb hg hat; have fB : AB.cell? ⟨iA, 0, none⟩ = some (.slice (some ad133) aA.length fA) := (blk_cell cA.out 0).trans rfl; have gB := blk_frozen cA.out 0; have p141 : 0 ≤ ((ji22) : Int) := of_decide_eq_true q2_9; have q141 : (ji22) < (aA.length : Int) := of_decide_eq_true q2_9; obtain ⟨ad141, CA, gA⟩ := Kd.at_int yA.out (ji22) p141 q141; obtain rfl : ad133 = ad141 := (by injection CA); replace gA := (HB.out.cell (World.block_lt_of_cell? w _ gA)).trans gA; replace p141 := eq_true p141; replace q141 := eq_true q141))
              go_roundg k2
              case measure => have := HJ2.out; have := HK2.out; omega
              case rel => exact ⟨(hA), (y138), (rd aA (ji22)), (by first | rfl | (simp; done) | (simp only [← hji22] <;> (first | rfl | simp)) | (simp [*]; done)), H', ⟨by have := HJ2.out; have := HK2.out; omega⟩, ⟨q2_15⟩, ⟨q2_16⟩, ⟨q2_3⟩, ⟨q2_0⟩⟩
            ·rw [if_neg c25] at H
             have RA : decide (0 ≤ (rd aA (ji22))) = false := decide_eq_false c25
             clear c25
             have H' := Aside0.mk H
             clear H
             go_wp2_with (first | ((with_reducible refine gate_callee (f := 65) rfl ?_); refine goesL_ (some 30) rfl rfl Try.func65 q2_7 rfl #[.int .i64 a0, .int .i64 eA] rfl q2_1 ?_; (with_reducible refine (spec_l05There.calls a0 eA true _ A15.out).mono ?_); rintro e w' ⟨rfl, ⟨nd, rfl⟩⟩; refine ⟨_, rfl, ?_⟩) | ((with_reducible refine gate_callee (f := 45) rfl ?_); refine goesL_ (some 32) rfl rfl Try.func45 q2_7 rfl #[.int .i64 eA] rfl q2_1 ?_; (with_reducible refine (spec_l05Node.calls eA bA _ A17.out).mono ?_); rintro e w' ⟨rfl, ⟨nd, rfl⟩⟩; refine ⟨_, rfl, ?_⟩; obtain ⟨ZA, bB, qB⟩ := Kd.R_slice lA.out; subst qB) | ((with_reducible refine gate_callee (f := 66) rfl ?_); refine goesL_ (some 35) rfl rfl Try.func66 q2_7 rfl #[.slice ZA jA.length bB, .int .i64 bA] rfl q2_1 ?_; (with_reducible refine (spec_l03Has.calls k2 _ _ jA bA false _ ?side1 ?side2 A18.out).mono ?_); (case side1 => exact q2_5); (case side2 => exact (Kd.R_reads' lA.out).2.1); rintro e w' ⟨rfl, ⟨nd, rfl⟩⟩; refine ⟨_, rfl, ?_⟩) | ((with_reducible refine gate_builtin (b := .append) (xs := #[.tmp 36, .tmp 38]) rfl ?_); (try (refine gate_guard (by rfl) ?_; dsimp only)); at_builtin; refine Kd.R_append (Kd.int .i64) (w0 := w) w.heap.size rfl (.tmp 36) (.tmp 38) 27 3 (.int .i64 0) 8 rfl Try.underlying27 info3 rfl (by decide) (by omega) (.slice ZA jA.length bB) jA bA [.int .i64 bA] (fun k_ => some k_ ≠ (u5 : Value).ownBlock) (fun _ => False) rfl rfl ?aP (fun _ hk => hk.elim) ?aF ?aO ?aB ?aS ?aL ?_; (case aP => exact rfl); (case aB => exact q2_0); (case aF => exact (fun k_ hk => Kd.fresh' (Kd.R_lt q2_11) k_ hk)); (case aO => exact q2_12); (case aS => exact (below_size q2_0)); (case aL => have := LMc21.out; omega); intro LA BB ho hb hg hat; rw [← Ny138.out] at ho; have mA := Aside0.mk (Kd.R_after (ok := (fun _ => True)) q2_13 hg hat); have qA := Aside0.mk (blk_grown (g := iA) (o := .cells #[.slice (some ad133) aA.length fA] 29 (0, 0)) q2_3 hg (Kd.R_ne lA.out cA.out (by decide))); have nA := Aside0.mk (hb); have tA := Aside0.mk (ho); clear pA cA HB lA; have pA := mA; have cA := qA; have HB := nA; have rA := tA; clear mA qA nA tA; clear ho hb hg hat; have hB : BB.cell? ⟨iA, 0, none⟩ = some (.slice (some ad133) aA.length fA) := (blk_cell cA.out 0).trans rfl; have iB := blk_frozen cA.out 0; have p141 : 0 ≤ ((ji22) : Int) := of_decide_eq_true q2_9; have q141 : (ji22) < (aA.length : Int) := of_decide_eq_true q2_9; obtain ⟨ad141, CA, gA⟩ := Kd.at_int yA.out (ji22) p141 q141; obtain rfl : ad133 = ad141 := (by injection CA); replace gA := (HB.out.cell (World.block_lt_of_cell? w _ gA)).trans gA; replace p141 := eq_true p141; replace q141 := eq_true q141))
             go_roundg k2
             case measure => have := HJ2.out; have := HK2.out; omega
             case rel => exact ⟨(hA), (y138), (rd aA (ji22)), (by first | rfl | (simp; done) | (simp only [← hji22] <;> (first | rfl | simp)) | (simp [*]; done)), H', ⟨by have := HJ2.out; have := HK2.out; omega⟩, ⟨q2_15⟩, ⟨q2_16⟩, ⟨q2_3⟩, ⟨q2_0⟩⟩
           ·rw [if_neg c24] at H
            exact absurd H (by simp)
          ·rw [if_neg c23] at H
           exact absurd H (by simp)
         ·rw [if_neg c21] at H
          exact absurd H (by simp)
       ·replace c16 := Bool.eq_false_iff.mpr c16
        subst c16
        rw [if_neg (show ¬ (false = true) by decide)] at H
        replace H := Option.bind_eq_some_iff.mp H
        obtain ⟨KA, A410, H⟩ := H
        (try dsimp only at H)
        have A41 := Aside0.mk A410
        clear A410
        by_cases c42 : KA = true
        ·subst c42
         rw [if_pos rfl] at H
         obtain rfl := Option.some.inj H
         go_wp2_with (first | ((with_reducible refine gate_callee (f := 65) rfl ?_); refine goesL_ (some 30) rfl rfl Try.func65 q2_7 rfl #[.int .i64 a0, .int .i64 eA] rfl q2_1 ?_; (with_reducible refine (spec_l05There.calls a0 eA false _ A15.out).mono ?_); rintro e w' ⟨rfl, ⟨nd, rfl⟩⟩; refine ⟨_, rfl, ?_⟩) | ((with_reducible refine gate_callee (f := 56) rfl ?_); refine goesL_ (some 66) rfl rfl Try.func56 q2_7 rfl #[.int .i64 a0, .int .i64 eA] rfl q2_1 ?_; (with_reducible refine (spec_l05Link.calls a0 eA true _ A41.out).mono ?_); rintro e w' ⟨rfl, ⟨nd, rfl⟩⟩; refine ⟨_, rfl, ?_⟩))
         go_ret
         exact ⟨_, q2_14, by (with_reducible repeat (first | apply Kd.R_alloc | apply Kd.R_drewN | apply Kd.R_drew)); exact Kd.R_mono pA.out (fun _ hk => trivial), q2_0⟩
        ·replace c42 := Bool.eq_false_iff.mpr c42
         subst c42
         rw [if_neg (show ¬ (false = true) by decide)] at H
         obtain rfl := Option.some.inj H
         go_wp2_with (first | ((with_reducible refine gate_callee (f := 65) rfl ?_); refine goesL_ (some 30) rfl rfl Try.func65 q2_7 rfl #[.int .i64 a0, .int .i64 eA] rfl q2_1 ?_; (with_reducible refine (spec_l05There.calls a0 eA false _ A15.out).mono ?_); rintro e w' ⟨rfl, ⟨nd, rfl⟩⟩; refine ⟨_, rfl, ?_⟩) | ((with_reducible refine gate_callee (f := 56) rfl ?_); refine goesL_ (some 66) rfl rfl Try.func56 q2_7 rfl #[.int .i64 a0, .int .i64 eA] rfl q2_1 ?_; (with_reducible refine (spec_l05Link.calls a0 eA false _ A41.out).mono ?_); rintro e w' ⟨rfl, ⟨nd, rfl⟩⟩; refine ⟨_, rfl, ?_⟩))
         go_ret
         exact ⟨_, q2_14, by first | exact Kd.R_nil _ _ _ _ _ | exact Kd.N_nil _ _ _ _ _ | exact Kd.V_nil _ _ _ _ _ | exact Kd.Q_nil _ _ _ _ _ | exact Kd.S_nil _ _ _ _ _, q2_0⟩
    ·rw [if_neg c13] at H
     exact absurd H (by simp)

/-! ### impl_within: function 43 -/
def impl_within.f (a0 : Int) (a1 : Int) (a2 : Int) : Option (Bool) := if a0 ≥ a1 then (some (decide (a0 ≤ a2))) else (some false)
set_option maxHeartbeats 8000000 in
set_option maxRecDepth 100000 in
theorem impl_within.calls (a0 : Int) (a1 : Int) (a2 : Int) (r : Bool) (w : World) (h : impl_within.f a0 a1 a2 = some r) :
  Calls Try.prog 43 #[.int .i64 a0, .int .i64 a1, .int .i64 a2] w fun e w' => e = .returned (.bool r) ∧ Drawn0 w w' := by
 have H : (if a0 ≥ a1 then (some (decide (a0 ≤ a2))) else (some false)) = some r := h
 clear h
 by_cases c4 : a0 ≥ a1
 ·rw [if_pos c4] at H
  have rB : decide (a1 ≤ a0) = true := decide_eq_true c4
  clear c4
  obtain rfl := Option.some.inj H
  go_enter Try.func43, Try.ntmps43
  go_wp2
  go_ret
  exact ⟨q2_6, q2_8⟩
 ·rw [if_neg c4] at H
  have rB : decide (a1 ≤ a0) = false := decide_eq_false c4
  clear c4
  obtain rfl := Option.some.inj H
  go_enter Try.func43, Try.ntmps43
  go_wp2
  go_ret
  exact ⟨q2_6, q2_8⟩

/-! ### impl_linkCell: function 50 -/
def impl_linkCell.f (a0 : Int) : Option (Int) := some (wrap64 (2 + (wrap64 (2 * a0))))
set_option maxHeartbeats 8000000 in
set_option maxRecDepth 100000 in
theorem impl_linkCell.calls (a0 : Int) (r : Int) (w : World) (h : impl_linkCell.f a0 = some r) :
  Calls Try.prog 50 #[.int .i64 a0] w fun e w' => e = .returned (.int .i64 r) ∧ Drawn0 w w' := by
 have H : (some (wrap64 (2 + (wrap64 (2 * a0))))) = some r := h
 clear h
 obtain rfl := Option.some.inj H
 go_enter Try.func50, Try.ntmps50
 go_wp2
 go_ret
 exact ⟨q2_6, q2_8⟩

/-! ### impl_nodeOf: function 52 -/
def impl_nodeOf.f (a0 : Int) : Option (Int) := some (wrap64 ((wrap64 (Int.tdiv a0 2)) - 1))
set_option maxHeartbeats 8000000 in
set_option maxRecDepth 100000 in
theorem impl_nodeOf.calls (a0 : Int) (r : Int) (w : World) (h : impl_nodeOf.f a0 = some r) :
  Calls Try.prog 52 #[.int .i64 a0] w fun e w' => e = .returned (.int .i64 r) ∧ Drawn0 w w' := by
 have H : (some (wrap64 ((wrap64 (Int.tdiv a0 2)) - 1))) = some r := h
 clear h
 obtain rfl := Option.some.inj H
 go_enter Try.func52, Try.ntmps52
 go_wp2
 go_ret
 exact ⟨q2_6, q2_8⟩

/-! ### impl_isLink: function 51 -/
def impl_isLink.f (a0 : Int) (a1 : Int) : Option (Bool) := if a0 ≥ 0 then ((impl_nodeOf.f a0).bind fun DA => (some (decide (DA < a1)))) else (some false)
set_option maxHeartbeats 8000000 in
set_option maxRecDepth 100000 in
theorem impl_isLink.calls (a0 : Int) (a1 : Int) (r : Bool) (w : World) (h : impl_isLink.f a0 a1 = some r) :
  Calls Try.prog 51 #[.int .i64 a0, .int .i64 a1] w fun e w' => e = .returned (.bool r) ∧ Drawn0 w w' := by
 have H : (if a0 ≥ 0 then ((impl_nodeOf.f a0).bind fun DA => (some (decide (DA < a1)))) else (some false)) = some r := h
 clear h
 by_cases c3 : a0 ≥ 0
 ·rw [if_pos c3] at H
  have sB : decide (0 ≤ a0) = true := decide_eq_true c3
  clear c3
  replace H := Option.bind_eq_some_iff.mp H
  obtain ⟨DA, A40, H⟩ := H
  (try dsimp only at H)
  have A4 := Aside0.mk A40
  clear A40
  obtain rfl := Option.some.inj H
  go_enter Try.func51, Try.ntmps51
  go_wp2_with (first | (go_at_call 52; (with_reducible refine (impl_nodeOf.calls a0 DA _ A4.out).mono ?_); rintro e w' ⟨rfl, ⟨nd, rfl⟩⟩))
  go_ret
  exact ⟨q2_6, q2_8⟩
 ·rw [if_neg c3] at H
  have sB : decide (0 ≤ a0) = false := decide_eq_false c3
  clear c3
  obtain rfl := Option.some.inj H
  go_enter Try.func51, Try.ntmps51
  go_wp2
  go_ret
  exact ⟨q2_6, q2_8⟩

/-! ### impl_keyCell: function 53 -/
def impl_keyCell.f (a0 : Int) : Option (Int) := some (wrap64 (1 + (wrap64 (2 * a0))))
set_option maxHeartbeats 8000000 in
set_option maxRecDepth 100000 in
theorem impl_keyCell.calls (a0 : Int) (r : Int) (w : World) (h : impl_keyCell.f a0 = some r) :
  Calls Try.prog 53 #[.int .i64 a0] w fun e w' => e = .returned (.int .i64 r) ∧ Drawn0 w w' := by
 have H : (some (wrap64 (1 + (wrap64 (2 * a0))))) = some r := h
 clear h
 obtain rfl := Option.some.inj H
 go_enter Try.func53, Try.ntmps53
 go_wp2
 go_ret
 exact ⟨q2_6, q2_8⟩

/-! ### impl_isMarked: function 67 -/
def impl_isMarked.f (a0 : Int) : Option (Bool) := some ((Int.tmod a0 2) != 0)
set_option maxHeartbeats 8000000 in
set_option maxRecDepth 100000 in
theorem impl_isMarked.calls (a0 : Int) (r : Bool) (w : World) (h : impl_isMarked.f a0 = some r) :
  Calls Try.prog 67 #[.int .i64 a0] w fun e w' => e = .returned (.bool r) ∧ Drawn0 w w' := by
 have H : (some ((Int.tmod a0 2) != 0)) = some r := h
 clear h
 obtain rfl := Option.some.inj H
 go_enter Try.func67, Try.ntmps67
 go_wp2
 go_ret
 exact ⟨q2_6, q2_8⟩

/-! ### impl_LiKeys: function 28 (walked by hand) -/
def impl_LiKeys.l0 : Nat → Int → List Bool → List Int → Int → List Int → Option (List Int)
 | 0, _, _, _, _, _ => none
 | k + 1, x0, sn, x5, x7, l => (impl_isLink.f x7 x0).bind fun t => if t = true then ((impl_nodeOf.f x7).bind fun n8 => if n8 < 0 then some x5 else if n8 < 16 then (if sn.getD n8.toNat false = true then some [] else ((impl_linkCell.f n8).bind fun c => if 0 ≤ c then (if c < (l.length : Int) then ((impl_isMarked.f (rd l c)).bind fun mk => if mk = true then impl_LiKeys.l0 k x0 (sn.set n8.toNat true) x5 (rd l c) l else ((impl_keyCell.f n8).bind fun c2 => if 0 ≤ c2 then (if c2 < (l.length : Int) then (if x5.length < 17592186044416 then impl_LiKeys.l0 k x0 (sn.set n8.toNat true) (x5 ++ [rd l c2]) (rd l c) l else none) else none) else none)) else none) else none)) else none) else some []
def impl_LiKeys.g (k : Nat) (a0 : Int) (l : List Int) : Option (List Int) := (impl_within.f a0 1 16).bind fun t => if t = true then (if (l.length : Int) = wrap64 (1 + wrap64 (2 * a0)) then (if 0 < (l.length : Int) then impl_LiKeys.l0 k a0 (List.replicate 16 false) [] (rd l 0) l else none) else some []) else some []
theorem ne_t_ {w : World} {g g' t t' : Nat} {cs cs' : Array Value} (h : w.heap[g]? = some (.cells cs t (0, 0))) (h' : w.heap[g']? = some (.cells cs' t' (0, 0))) (ht : t ≠ t') : g ≠ g' := by
 rintro rfl
 rw [h] at h'
 injection h' with h'
 injection h' with _ h'
 exact ht h'

set_option maxRecDepth 100000 in
set_option maxHeartbeats 8000000 in
theorem impl_LiKeys.callsg (k : Nat) (a0 : Int) (kA : Option Addr) (fA : Nat) (aA : List Int) (r : List Int) (w : World) (sA : Kd.C (Kd.int .i64) w kA aA.length aA) (xA : aA.length ≤ fA) (h : impl_LiKeys.g k a0 aA = some r) :
  Calls Try.prog 28 #[.int .i64 a0, .agg #[.slice kA aA.length fA]] w fun e w' => ∃ v0_ : Value, e = .returned (v0_) ∧ Kd.R (Kd.int .i64) 3 w' w.heap.size (fun _ => True) v0_ r ∧ Below w.heap.size w w' := by
 have hu29 := Try.underlying29
 have HR := Aside0.mk sA
 clear sA xA
 have HB := Aside0.mk (Below.refl w.heap.size w)
 unfold impl_LiKeys.g at h
 obtain ⟨t0, A00, H⟩ := Option.bind_eq_some_iff.mp h
 clear h
 have A0 := Aside0.mk A00
 clear A00
 have H0 := Aside0.mk H
 clear H
 go_enter Try.func28, Try.ntmps28
 go_wp2_with (first | ((with_reducible refine gate_dst (N := 3) rfl ?_); (try (refine gate_guard (by rfl) ?_; dsimp only)); refine box_event ?hg (N := 3) ?hd (cs := #[.slice kA aA.length fA]) (t := 29) ?hr ?_; (case hd => rfl); (case hg => rfl); (case hr => first | (go_simp; done) | (go_simp; rfl)); intro gb hg w4 hbox hb; have mA := Aside0.mk (below_step q2_2 hb); have qA := Aside0.mk (hbox); have nA := Aside0.mk ((by rw [hg]; exact (below_size q2_2) : w.heap.size ≤ gb)); clear HB; have HB := mA; have BK := qA; have GE := nA; clear mA qA nA; clear hb hbox hg) | ((with_reducible refine gate_dst (N := 9) rfl ?_); (try (refine gate_guard (by rfl) ?_; dsimp only)); refine Kd.R_lit (Kd.int .i64) _ 3 ?hg (N := 9) ?hd (xs := ([] : List Int)) (inner := []) (ok := fun _ => True) (okp := fun _ => True) ?hr ?hp (fun _ hk => hk) trivial (Below.refl _ _) (Nat.le_refl _) (by simp) ?_; (case hd => rfl); (case hg => rfl); (case hr => first | (go_simp; done) | (go_simp; rfl)); (case hp => exact (Reps.none _ _)); intro v5 w5 ho6 hb hg_ hnew_; clear hg_ hnew_; (try simp only [Int.reduceToNat] at ho6); have mA := Aside0.mk (Kd.R_lower ho6 (below_size q2_2)); have qA := Aside0.mk (blk_below (g := gb) (o := .cells #[.slice kA aA.length fA] 29 (0, 0)) q2_10 hb); have nA := Aside0.mk (below_step q2_2 hb); clear BK HB; have HO := mA; have BK := qA; have HB := nA; clear mA qA nA; clear hb ho6))
 refine (impl_within.calls a0 1 16 t0 _ A0.out).mono ?_
 rintro e w' ⟨rfl, nd, rfl⟩
 have H := H0.out
 clear H0
 cases t0 with
 | false =>
  obtain rfl := Option.some.inj ((if_neg (by decide)).symm.trans H)
  clear H
  go_wp2
  go_ret
  exact ⟨_, rfl, by (with_reducible repeat (first | apply Kd.R_alloc | apply Kd.R_drewN | apply Kd.R_drew)); exact Kd.R_mono HO.out (fun _ hk => trivial), q2_2⟩
 | true =>
  have H := (if_pos rfl).symm.trans H
  have hx : (w5.drewN nd).cell? ⟨gb, 0, none⟩ = some (.slice kA aA.length fA) := (blk_cell (blk_drewN BK.out _) 0).trans rfl
  by_cases he : (aA.length : Int) = wrap64 (1 + wrap64 (2 * a0))
  ·rw [if_pos he] at H
   have hne : ((aA.length : Int) != wrap64 (1 + wrap64 (2 * a0))) = false := by simp [he]
   by_cases h0 : 0 < (aA.length : Int)
   ·rw [if_pos h0] at H
    have H' := Aside0.mk H
    clear H he
    have p0 : 0 ≤ (0 : Int) := by omega
    obtain ⟨ad, e0, hx0⟩ := Kd.at_int HR.out 0 p0 h0
    cases e0
    have q0 : (0 < aA.length) = True := eq_true (by omega)
    rw [show ((0 : Int)).toNat = 0 from rfl, Addr.add_zero'] at hx0
    replace p0 := eq_true p0
    replace h0 := eq_true h0
    go_wp2_with (first | ((with_reducible refine gate_dst (N := 6) rfl ?_); (try (refine gate_guard (by rfl) ?_; dsimp only)); refine box_event ?hg (N := 6) ?hd (cs := #[.bool false, .bool false, .bool false, .bool false, .bool false, .bool false, .bool false, .bool false, .bool false, .bool false, .bool false, .bool false, .bool false, .bool false, .bool false, .bool false]) (t := 79) ?hr ?_; (case hd => rfl); (case hg => rfl); (case hr => first | (go_simp; done) | (go_simp; rfl)); intro gs hg w6 hbox hb; have qA := Aside0.mk (blk_below (g := gb) (o := .cells #[.slice (some ad) aA.length fA] 29 (0, 0)) q2_10 hb); have nA := Aside0.mk ((by rw [hg]; exact (below_size q2_2) : w.heap.size ≤ gs)); have tA := Aside0.mk (Kd.R_below q2_17 hb); have mA := Aside0.mk (below_step q2_2 hb); clear HB BK HO; have HB := mA; have BK := qA; have GS := nA; have HO := tA; have BS := Aside0.mk hbox; clear mA qA nA tA hb hbox hg; have hx6 : w6.cell? ⟨gb, 0, none⟩ = some (.slice (some ad) aA.length fA) := (blk_cell BK.out 0).trans rfl; have hx60 := (HB.out.cell (World.block_lt_of_cell? w _ hx0)).trans hx0))
    go_loopg [5, 7] k (fun kq v5 v7 w' => ∃ (hA : List Int) (sn : List Bool) (eA : Int), v7 = .int .i64 eA ∧ Aside0 (impl_LiKeys.l0 kq a0 sn hA eA aA = some r) ∧ Aside0 (kq ≤ k) ∧ Aside0 (sn.length = 16) ∧ Aside0 (Kd.R (Kd.int .i64) 3 w' w.heap.size (fun _ => True) v5 hA) ∧ Aside0 (w'.heap[gb]? = some (.cells #[(.slice (some ad) aA.length fA)] 29 (0, 0))) ∧ Aside0 (w'.heap[gs]? = some (.cells (sn.map Value.bool).toArray 79 (0, 0))) ∧ Aside0 (Below w.heap.size w w'))
    case atStart => exact ⟨[], List.replicate 16 false, rd aA 0, rfl, H', ⟨Nat.le_refl _⟩, ⟨by simp⟩, HO, BK, ⟨BS.out⟩, HB⟩
    case round =>
     clear H' HO BK BS HB hx hx0 hx6 hx60 q0 p0 h0 hne A0
     obtain ⟨hA, sn, eA, rfl, HA, HK2, HN, HO, BK, BS, HB⟩ := hrel
     cases gk with
     | zero => exact absurd HA.out (by simp [impl_LiKeys.l0])
     | succ k2 =>
      have H := HA.out
      clear HA
      rw [impl_LiKeys.l0] at H
      obtain ⟨t1, A10, H⟩ := Option.bind_eq_some_iff.mp H
      have A1 := Aside0.mk A10
      clear A10
      go_wp2_with fail
      refine (impl_isLink.calls eA a0 t1 _ A1.out).mono ?_
      rintro e w1 ⟨rfl, n1, rfl⟩
      cases t1 with
      | false =>
       obtain rfl := Option.some.inj ((if_neg (by decide)).symm.trans H)
       clear H
       go_wp2_with (first | ((with_reducible refine gate_dst (N := 31) rfl ?_); (try (refine gate_guard (by rfl) ?_; dsimp only)); refine Kd.R_lit (Kd.int .i64) _ 3 ?hg (N := 31) ?hd (xs := ([] : List Int)) (inner := []) (ok := fun _ => True) (okp := fun _ => True) ?hr ?hp (fun _ hk => hk) trivial (Below.refl _ _) (Nat.le_refl _) (by simp) ?_; (case hd => rfl); (case hg => rfl); (case hr => first | (go_simp; done) | (go_simp; rfl)); (case hp => exact (Reps.none _ _)); intro v31 CB ho6 hb hg_ hnew_; clear hg_ hnew_; (try simp only [Int.reduceToNat] at ho6); have mA := Aside0.mk (Kd.R_lower ho6 (below_size q2_2)); have nA := Aside0.mk (below_step q2_2 hb); clear HB; have cB := mA; have HB := nA; clear mA nA; clear hb ho6))
       go_ret
       exact ⟨_, rfl, Kd.R_mono cB.out (fun _ _ => trivial), HB.out⟩
      | true =>
       rw [if_pos rfl] at H
       obtain ⟨n8, A20, H⟩ := Option.bind_eq_some_iff.mp H
       have A2 := Aside0.mk A20
       clear A20
       go_wp2_with fail
       refine (impl_nodeOf.calls eA n8 _ A2.out).mono ?_
       rintro e w2 ⟨rfl, n2, rfl⟩
       by_cases hneg : n8 < 0
       ·rw [if_pos hneg] at H
        obtain rfl := Option.some.inj H
        clear H
        have hd : decide (n8 < 0) = true := decide_eq_true hneg
        go_wp2
        go_ret
        exact ⟨_, rfl, q2_17, q2_4⟩
       ·rw [if_neg hneg] at H
        have hd : decide (n8 < 0) = false := decide_eq_false hneg
        by_cases h16 : n8 < 16
        ·rw [if_pos h16] at H
         obtain ⟨i, rfl⟩ : ∃ i : Nat, n8 = (i : Int) := ⟨n8.toNat, by omega⟩
         have hi : i < sn.length := by have := HN.out; omega
         rw [Int.toNat_natCast] at H
         have hfz := blk_frozen BS.out i
         have hcell : wr.cell? ⟨gs, i, none⟩ = some (.bool (sn.getD i false)) := (blk_cell BS.out i).trans (by simp [List.getD, hi])
         cases hq : sn.getD i false with
         | true =>
          rw [hq] at hcell
          rw [if_pos hq] at H
          obtain rfl := Option.some.inj H
          clear H
          go_wp2_with (first | ((with_reducible refine gate_dst (N := 40) rfl ?_); (try (refine gate_guard (by rfl) ?_; dsimp only)); refine Kd.R_lit (Kd.int .i64) _ 3 ?hg (N := 40) ?hd (xs := ([] : List Int)) (inner := []) (ok := fun _ => True) (okp := fun _ => True) ?hr ?hp (fun _ hk => hk) trivial (Below.refl _ _) (Nat.le_refl _) (by simp) ?_; (case hd => rfl); (case hg => rfl); (case hr => first | (go_simp; done) | (go_simp; rfl)); (case hp => exact (Reps.none _ _)); intro v31 CB ho6 hb hg_ hnew_; clear hg_ hnew_; (try simp only [Int.reduceToNat] at ho6); have mA := Aside0.mk (Kd.R_lower ho6 (below_size q2_2)); have nA := Aside0.mk (below_step q2_2 hb); clear HB; have cB := mA; have HB := nA; clear mA nA; clear hb ho6))
          go_ret
          exact ⟨_, rfl, Kd.R_mono cB.out (fun _ _ => trivial), HB.out⟩
         | false =>
          rw [hq] at hcell
          rw [if_neg (by rw [hq]; decide)] at H
          obtain ⟨c, A30, H⟩ := Option.bind_eq_some_iff.mp H
          have A3 := Aside0.mk A30
          clear A30
          have H1 := Aside0.mk H
          clear H
          go_wp2_with fail
          have H := H1.out
          clear H1
          by_cases c0 : 0 ≤ c
          ·rw [if_pos c0] at H
           by_cases c1 : c < (aA.length : Int)
           ·rw [if_pos c1] at H
            obtain ⟨mk, A40, H⟩ := Option.bind_eq_some_iff.mp H
            have A4 := Aside0.mk A40
            clear A40
            obtain ⟨ad2, e2, hx⟩ := Kd.at_int HR.out c c0 c1
            obtain rfl : ad = ad2 := by injection e2
            replace c0 := eq_true c0
            replace c1 := eq_true c1
            have H1 := Aside0.mk H
            clear H
            have ne1 := ne_t_ BK.out BS.out (by decide)
            replace HO := Aside0.mk (Kd.R_mono (Kd.R_far (p := ⟨gs, i, none⟩) (Kd.R_types (Kd.R_drewN HO.out (n1 + n2)) (blk_drewN BS.out (n1 + n2)) (by decide)) (fun _ hk => hk.2) (.bool true)) (fun _ h_ => h_.1))
            replace BK := Aside0.mk ((Below.heap_setCell (wr.drewN (n1 + n2)) ⟨gs, i, none⟩ (.bool true) gb ne1).trans (blk_drewN BK.out (n1 + n2)))
            replace BS := Aside0.mk (show ((wr.drewN (n1 + n2)).setCell ⟨gs, i, none⟩ (.bool true)).heap[gs]? = some (.cells ((sn.set i true).map Value.bool).toArray 79 (0, 0)) from (blk_set (blk_drewN BS.out (n1 + n2)) i (.bool true)).trans (by simp [List.map_set]))
            replace HB := Aside0.mk (below_set (j := i) (v := .bool true) (pw_below_drewN HB.out (n1 + n2)) GS.out)
            replace HN := Aside0.mk (show (sn.set i true).length = 16 from (List.length_set ..).trans HN.out)
            generalize sn.set i true = sn2 at HN BS H1
            generalize (wr.drewN (n1 + n2)).setCell ⟨gs, i, none⟩ (.bool true) = w3 at HO BK BS HB ⊢
            clear hcell hfz hq hi hd hneg h16
            have hx' := Aside0.mk hx
            clear hx
            replace HB := Aside0.mk (below_drew1 HB.out)
            replace HO := Aside0.mk (Kd.R_drew HO.out)
            replace BK := Aside0.mk (blk_drew BK.out)
            replace BS := Aside0.mk (blk_drew BS.out)
            refine start_ (n := 7) (S := fun w' => Below w.heap.size w w' ∧ w'.cell? ⟨gb, 0, none⟩ = some (.slice (some ad) aA.length fA)) (ds := []) #[F,F,F,F,F,F,F] q2_7 rfl rfl ⟨HB.out, (blk_cell BK.out 0).trans rfl⟩ (fun hHeld => ?_)
            generalize w3.drew = w9 at HB HO BK BS hHeld ⊢
            refine pure_ (i := 0) (N := some 43) (v := ?_) (a' := ?_) #[T,F,F,F,F,F,F] rfl rfl q2_7 (fun _ _ _ h => h) (Or.inl ⟨by rfl, ?_⟩) ?_ ?_
            rotate_left
            ·intro w'
             go_simp
             with_reducible rfl
            rotate_left
            ·simp only [Act.put, List.setIfInBounds_toArray, List.set_cons_zero, List.set_cons_succ, i64_w, i32_w]
             rfl
            refine take_ (i := 1) (N := some 44) (v := ?_) (a' := ?_) #[T,T,F,F,F,F,F] rfl rfl q2_7 (fun _ _ _ h => h) (Or.inl ⟨by rfl, ?_⟩) hHeld ?_ ?_
            rotate_left
            ·rintro w' ⟨s0, s1⟩
             go_simp
             with_reducible rfl
            rotate_left
            ·simp only [Act.put, List.setIfInBounds_toArray, List.set_cons_zero, List.set_cons_succ, i64_w, i32_w]
             rfl
            refine pure_ (i := 2) (N := some 45) (v := ?_) (a' := ?_) #[T,T,T,F,F,F,F] rfl rfl q2_7 (fun _ _ _ h => h) (Or.inl ⟨by rfl, ?_⟩) ?_ ?_
            rotate_left
            ·intro w'
             go_simp
             with_reducible rfl
            rotate_left
            ·simp only [Act.put, List.setIfInBounds_toArray, List.set_cons_zero, List.set_cons_succ, i64_w, i32_w]
             rfl
            refine one_ (i := 3) (N := some 46) #[T,T,T,T,F,F,F] rfl rfl q2_7 (by decide) (fun K hK => ?_)
            refine goes_ Try.func50 q2_7 rfl #[.int .i64 (i : Int)] (by rfl) rfl rfl q2_1 ?_
            with_reducible refine (impl_linkCell.calls (i : Int) c _ A3.out).mono ?_
            rintro e DB ⟨rfl, hd0⟩
            refine ⟨_, rfl, ?_⟩
            have hb := Drawn0.below hd0
            replace HO := Aside0.mk (Kd.R_below HO.out hb)
            replace BK := Aside0.mk (blk_below BK.out hb)
            replace BS := Aside0.mk (blk_below BS.out hb)
            replace HB := Aside0.mk (below_step HB.out hb)
            clear hb hd0
            refine hK.out _ _ ⟨HB.out, (blk_cell BK.out 0).trans rfl⟩ (fun hHeld => ?_)
            clear hK K
            refine norm_ (a' := ?_) ?_ ?_
            rotate_left
            ·show Act.put _ (some 46) _ = _
             simp only [Act.put, List.setIfInBounds_toArray, List.set_cons_zero, List.set_cons_succ, i64_w, i32_w]
             rfl
            refine pure_ (i := 4) (N := some 47) (v := ?_) (a' := ?_) #[T,T,T,T,T,F,F] rfl rfl q2_7 (fun _ _ _ h => h) (Or.inl ⟨by rfl, ?_⟩) ?_ ?_
            rotate_left
            ·intro w'
             go_simp
             with_reducible rfl
            rotate_left
            ·simp only [Act.put, List.setIfInBounds_toArray, List.set_cons_zero, List.set_cons_succ, i64_w, i32_w]
             rfl
            refine take_ (i := 5) (N := some 48) (v := ?_) (a' := ?_) #[T,T,T,T,T,T,F] rfl rfl q2_7 (fun _ _ _ h => h) (Or.inl ⟨by rfl, ?_⟩) hHeld ?_ ?_
            rotate_left
            ·rintro w' ⟨s0, s1⟩
             have hx9 := (s0.cell (World.block_lt_of_cell? w _ hx'.out)).trans hx'.out
             go_simp
             with_reducible rfl
            rotate_left
            ·simp only [Act.put, List.setIfInBounds_toArray, List.set_cons_zero, List.set_cons_succ, i64_w, i32_w]
             rfl
            refine pure_ (i := 6) (N := some 7) (v := ?_) (a' := ?_) #[T,T,T,T,T,T,T] rfl rfl q2_7 (fun _ _ _ h => h) (Or.inl ⟨by rfl, ?_⟩) ?_ ?_
            rotate_left
            ·intro w'
             go_simp
             with_reducible rfl
            rotate_left
            ·simp only [Act.put, List.setIfInBounds_toArray, List.set_cons_zero, List.set_cons_succ, i64_w, i32_w]
             rfl
            refine done_ q2_7 ?_
            clear hHeld
            go_wp2_with fail
            refine (impl_isMarked.calls (rd aA c) mk _ A4.out).mono ?_
            rintro e GB ⟨rfl, n4, rfl⟩
            have H := H1.out
            clear H1
            cases mk with
            | true =>
             rw [if_pos rfl] at H
             have H' := Aside0.mk H
             clear H
             go_wp2
             go_roundg k2
             case measure => have := HK2.out; omega
             case rel => exact ⟨hA, sn2, rd aA c, rfl, H', ⟨by have := HK2.out; omega⟩, HN, ⟨q2_17⟩, ⟨q2_10⟩, ⟨by (with_reducible repeat (first | refine blk_drewN ?_ _ | refine blk_drew ?_ | refine blk_alloc ?_ _)); exact BS.out⟩, ⟨q2_4⟩⟩
            | false =>
             rw [if_neg (by decide)] at H
             obtain ⟨c2, A50, H⟩ := Option.bind_eq_some_iff.mp H
             have A5 := Aside0.mk A50
             clear A50
             by_cases d0 : 0 ≤ c2
             ·rw [if_pos d0] at H
              by_cases d1 : c2 < (aA.length : Int)
              ·rw [if_pos d1] at H
               by_cases d2 : hA.length < 17592186044416
               ·rw [if_pos d2] at H
                have LM := Aside0.mk d2
                clear d2
                have H' := Aside0.mk H
                clear H
                obtain ⟨ad3, e3, hy⟩ := Kd.at_int HR.out c2 d0 d1
                obtain rfl : ad = ad3 := by injection e3
                replace d0 := eq_true d0
                replace d1 := eq_true d1
                have hy' := Aside0.mk hy
                clear hy hx'
                replace HB := Aside0.mk (pw_below_drewN HB.out n4)
                replace HO := Aside0.mk (Kd.R_drewN HO.out n4)
                replace BK := Aside0.mk (blk_drewN BK.out n4)
                replace BS := Aside0.mk (blk_drewN BS.out n4)
                generalize DB.drewN n4 = EB at HB HO BK BS ⊢
                go_wp2_with fail
                replace HB := Aside0.mk (below_drew1 HB.out)
                replace HO := Aside0.mk (Kd.R_drew HO.out)
                replace BK := Aside0.mk (blk_drew BK.out)
                replace BS := Aside0.mk (blk_drew BS.out)
                refine start_ (n := 10) (S := fun w' => Below w.heap.size w w' ∧ w'.cell? ⟨gb, 0, none⟩ = some (.slice (some ad) aA.length fA)) (ds := []) #[F,F,F,F,F,F,F,F,F,F] q2_7 rfl rfl ⟨HB.out, (blk_cell BK.out 0).trans rfl⟩ (fun hHeld => ?_)
                generalize EB.drew = IB at HB HO BK BS hHeld ⊢
                refine pure_ (i := 0) (N := some 52) (v := ?_) (a' := ?_) #[T,F,F,F,F,F,F,F,F,F] rfl rfl q2_7 (fun _ _ _ h => h) (Or.inl ⟨by rfl, ?_⟩) ?_ ?_
                rotate_left
                ·intro w'
                 go_simp
                 with_reducible rfl
                rotate_left
                ·simp only [Act.put, List.setIfInBounds_toArray, List.set_cons_zero, List.set_cons_succ, i64_w, i32_w]
                 rfl
                refine pure_ (i := 1) (N := some 53) (v := ?_) (a' := ?_) #[T,T,F,F,F,F,F,F,F,F] rfl rfl q2_7 (fun _ _ _ h => h) (Or.inl ⟨by rfl, ?_⟩) ?_ ?_
                rotate_left
                ·intro w'
                 go_simp
                 with_reducible rfl
                rotate_left
                ·simp only [Act.put, List.setIfInBounds_toArray, List.set_cons_zero, List.set_cons_succ, i64_w, i32_w]
                 rfl
                refine take_ (i := 2) (N := some 54) (v := ?_) (a' := ?_) #[T,T,T,F,F,F,F,F,F,F] rfl rfl q2_7 (fun _ _ _ h => h) (Or.inl ⟨by rfl, ?_⟩) hHeld ?_ ?_
                rotate_left
                ·rintro w' ⟨s0, s1⟩
                 go_simp
                 with_reducible rfl
                rotate_left
                ·simp only [Act.put, List.setIfInBounds_toArray, List.set_cons_zero, List.set_cons_succ, i64_w, i32_w]
                 rfl
                refine pure_ (i := 3) (N := some 55) (v := ?_) (a' := ?_) #[T,T,T,T,F,F,F,F,F,F] rfl rfl q2_7 (fun _ _ _ h => h) (Or.inl ⟨by rfl, ?_⟩) ?_ ?_
                rotate_left
                ·intro w'
                 go_simp
                 with_reducible rfl
                rotate_left
                ·simp only [Act.put, List.setIfInBounds_toArray, List.set_cons_zero, List.set_cons_succ, i64_w, i32_w]
                 rfl
                refine one_ (i := 4) (N := some 56) #[T,T,T,T,T,F,F,F,F,F] rfl rfl q2_7 (by decide) (fun K hK => ?_)
                refine goes_ Try.func53 q2_7 rfl #[.int .i64 (i : Int)] (by rfl) rfl rfl q2_1 ?_
                with_reducible refine (impl_keyCell.calls (i : Int) c2 _ A5.out).mono ?_
                rintro e JB ⟨rfl, hd0⟩
                refine ⟨_, rfl, ?_⟩
                have hb := Drawn0.below hd0
                replace HO := Aside0.mk (Kd.R_below HO.out hb)
                replace BK := Aside0.mk (blk_below BK.out hb)
                replace BS := Aside0.mk (blk_below BS.out hb)
                replace HB := Aside0.mk (below_step HB.out hb)
                clear hb hd0
                refine hK.out _ _ ⟨HB.out, (blk_cell BK.out 0).trans rfl⟩ (fun hHeld => ?_)
                clear hK K
                refine norm_ (a' := ?_) ?_ ?_
                rotate_left
                ·show Act.put _ (some 56) _ = _
                 simp only [Act.put, List.setIfInBounds_toArray, List.set_cons_zero, List.set_cons_succ, i64_w, i32_w]
                 rfl
                refine pure_ (i := 5) (N := some 57) (v := ?_) (a' := ?_) #[T,T,T,T,T,T,F,F,F,F] rfl rfl q2_7 (fun _ _ _ h => h) (Or.inl ⟨by rfl, ?_⟩) ?_ ?_
                rotate_left
                ·intro w'
                 go_simp
                 with_reducible rfl
                rotate_left
                ·simp only [Act.put, List.setIfInBounds_toArray, List.set_cons_zero, List.set_cons_succ, i64_w, i32_w]
                 rfl
                refine take_ (i := 6) (N := some 58) (v := ?_) (a' := ?_) #[T,T,T,T,T,T,T,F,F,F] rfl rfl q2_7 (fun _ _ _ h => h) (Or.inl ⟨by rfl, ?_⟩) hHeld ?_ ?_
                rotate_left
                ·rintro w' ⟨s0, s1⟩
                 have hy9 := (s0.cell (World.block_lt_of_cell? w _ hy'.out)).trans hy'.out
                 go_simp
                 with_reducible rfl
                rotate_left
                ·simp only [Act.put, List.setIfInBounds_toArray, List.set_cons_zero, List.set_cons_succ, i64_w, i32_w]
                 rfl
                refine one_ (i := 7) (N := some 59) #[T,T,T,T,T,T,T,T,F,F] rfl rfl q2_7 (by decide) (fun K hK => ?_)
                refine value_ (w1 := ?_) (v := ?_) (by rfl) rfl ?_ ?_
                rotate_left 2
                ·go_simp
                 constructor
                 ·rfl
                 ·rfl
                refine hK.out _ _ ⟨below_alloc HB.out _, (blk_cell (blk_alloc BK.out _) 0).trans rfl⟩ (fun hHeld => ?_)
                clear hK K
                refine norm_ (a' := ?_) ?_ ?_
                rotate_left
                ·show Act.put _ (some 59) _ = _
                 simp only [Act.put, List.setIfInBounds_toArray, List.set_cons_zero, List.set_cons_succ, i64_w, i32_w]
                 rfl
                refine one_ (i := 8) (N := some 60) #[T,T,T,T,T,T,T,T,T,F] rfl rfl q2_7 (by decide) (fun K hK => ?_)
                refine Kd.R_append_step (Kd.int .i64) (w0 := w) w.heap.size (by rfl) (.tmp 52) (.tmp 59) 27 3 (.int .i64 0) 8 rfl Try.underlying27 info3 rfl (by decide) (by omega) u5 hA (rd aA c2) [.int .i64 (rd aA c2)] (fun _ => True) (fun _ => False) rfl rfl ?aP (fun _ hk => hk.elim) ?aF ?aO ?aB ?aS ?aL ?_
                (case aP => exact rfl)
                (case aB => exact HB.out)
                (case aF => exact (fun _ _ => trivial))
                (case aO => exact HO.out)
                (case aS => exact below_size HB.out)
                (case aL => have := LM.out; omega)
                intro v15 KB ho hb hg hat
                replace BK := Aside0.mk (blk_grown (g := gb) (o := .cells #[.slice (some ad) aA.length fA] 29 (0, 0)) BK.out hg (Kd.R_ne HO.out BK.out (by decide)))
                replace BS := Aside0.mk (blk_grown (g := gs) (o := .cells (sn2.map Value.bool).toArray 79 (0, 0)) BS.out hg (Kd.R_ne HO.out BS.out (by decide)))
                replace HB := Aside0.mk hb
                have cB := Aside0.mk ho
                clear HO ho hb hg hat
                refine hK.out _ _ ⟨HB.out, (blk_cell BK.out 0).trans rfl⟩ (fun hHeld => ?_)
                clear hK K
                refine norm_ (a' := ?_) ?_ ?_
                rotate_left
                ·show Act.put _ (some 60) _ = _
                 simp only [Act.put, List.setIfInBounds_toArray, List.set_cons_zero, List.set_cons_succ, i64_w, i32_w]
                 rfl
                refine pure_ (i := 9) (N := some 5) (v := ?_) (a' := ?_) #[T,T,T,T,T,T,T,T,T,T] rfl rfl q2_7 (fun _ _ _ h => h) (Or.inl ⟨by rfl, ?_⟩) ?_ ?_
                rotate_left
                ·intro w'
                 go_simp
                 with_reducible rfl
                rotate_left
                ·simp only [Act.put, List.setIfInBounds_toArray, List.set_cons_zero, List.set_cons_succ, i64_w, i32_w]
                 rfl
                refine done_ q2_7 ?_
                clear hHeld
                try go_wp2
                go_roundg k2
                case measure => have := HK2.out; omega
                case rel => exact ⟨hA ++ [rd aA c2], sn2, rd aA c, rfl, H', ⟨by have := HK2.out; omega⟩, HN, ⟨by (with_reducible repeat (first | apply Kd.R_alloc | apply Kd.R_drewN | apply Kd.R_drew)); exact cB.out⟩, ⟨q2_10⟩, ⟨by (with_reducible repeat (first | refine blk_drewN ?_ _ | refine blk_drew ?_ | refine blk_alloc ?_ _)); exact BS.out⟩, ⟨q2_4⟩⟩
               ·rw [if_neg d2] at H
                exact absurd H (by simp)
              ·rw [if_neg d1] at H
               exact absurd H (by simp)
             ·rw [if_neg d0] at H
              exact absurd H (by simp)
           ·rw [if_neg c1] at H
            exact absurd H (by simp)
          ·rw [if_neg c0] at H
           exact absurd H (by simp)
        ·rw [if_neg h16] at H
         exact absurd H (by simp)
   ·rw [if_neg h0] at H
    exact absurd H (by simp)
  ·rw [if_neg he] at H
   obtain rfl := Option.some.inj H
   clear H
   have hne : ((aA.length : Int) != wrap64 (1 + wrap64 (2 * a0))) = true := by simp [he]
   go_wp2
   go_ret
   exact ⟨_, rfl, by (with_reducible repeat (first | apply Kd.R_alloc | apply Kd.R_drewN | apply Kd.R_drew)); exact Kd.R_mono HO.out (fun _ hk => trivial), q2_2⟩
def impl_LiKeys.f (a0 : Int) (l : List Int) : Option (List Int) := impl_LiKeys.g 100 a0 l
theorem impl_LiKeys.calls (a0 : Int) (kA : Option Addr) (fA : Nat) (aA : List Int) (r : List Int) (w : World) (sA : Kd.C (Kd.int .i64) w kA aA.length aA) (xA : aA.length ≤ fA) (h : impl_LiKeys.f a0 aA = some r) :
  Calls Try.prog 28 #[.int .i64 a0, .agg #[.slice kA aA.length fA]] w fun e w' => ∃ v0_ : Value, e = .returned (v0_) ∧ Kd.R (Kd.int .i64) 3 w' w.heap.size (fun _ => True) v0_ r ∧ Below w.heap.size w w' := impl_LiKeys.callsg 100 a0 kA fA aA r w sA xA h


end Go.Proofs.Ytjikobdblohphaa.PFnExactLiKeys
