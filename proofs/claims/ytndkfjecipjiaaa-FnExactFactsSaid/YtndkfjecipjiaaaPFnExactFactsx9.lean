-- Written by the session's own program (wip/hand_crewlaw.py): the law's walk, each call once.
import Derived.Test.YtndkfjecipjiaaaPFnExactFactsx0
import Derived.Test.YtndkfjecipjiaaaPFnExactFactsx1
import Derived.Test.YtndkfjecipjiaaaPFnExactFactsx2
import Derived.Test.YtndkfjecipjiaaaPFnExactFactsx3
import Derived.Test.YtndkfjecipjiaaaPFnExactFactsx4
import Derived.Test.YtndkfjecipjiaaaPFnExactFactsx5
import Derived.Test.YtndkfjecipjiaaaPFnExactFactsx6
import Derived.Test.YtndkfjecipjiaaaPFnExactFactsx7
import Derived.Test.YtndkfjecipjiaaaPFnExactFactsx8
namespace Go.Proofs.Ytndkfjecipjiaaa.PFnExactFacts
open Go.RowKit Go.Proofs.YtndkfjecipjiaaaW.PrintWords Go.Proofs.YtndkfjecipjiaaaW.PrintLast Go.Proofs.YtndkfjecipjiaaaW.PrintMore
attribute [local go_sem] max2_int min2_int max_two min_two max_three min_three max_four min_four   -- for this text's walks alone
set_option linter.unusedVariables false
set_option linter.unusedSimpArgs false

/-! ### laws_FnExactFacts: function 8 (walked by hand) -/
theorem keptI_ {α : Type} {d : Kd α} {e base x y a b : Nat} {w w1 : World} {v : Value} {xs : List α} (h : Kd.R d e w base (fun k_ => x ≤ k_ ∧ k_ < y) v xs) (hk : Kept w w1 (fun k_ => a ≤ k_ ∧ k_ < b)) (hd : y ≤ a ∨ b ≤ x) : Kd.R d e w1 base (fun k_ => x ≤ k_ ∧ k_ < y) v xs := Kd.R_kept h hk (fun k h1 h2 => by omega)
theorem blkI_ {w w1 : World} {g a b : Nat} {ob : Obj} (h : w.heap[g]? = some ob) (hk : Kept w w1 (fun k_ => a ≤ k_ ∧ k_ < b)) (hd : g < a ∨ b ≤ g) : w1.heap[g]? = some ob := blk_kept h hk (by omega)
set_option maxRecDepth 100000 in
set_option maxHeartbeats 2000000 in
theorem laws_FnExactFacts.small (k : Nat) (a0_0 : Int) (a0_1 : Int) (A0_2 : Option Addr) (c0_2 : Nat) (l0_2 : List Int) (A0_3 : Option Addr) (c0_3 : Nat) (l0_3 : List (S50)) (a0_4 : Int) (s : Int) (w : World) (hr0_2 : Kd.C (Kd.int .i64) w A0_2 l0_2.length l0_2) (hc0_2 : l0_2.length ≤ c0_2) (hr0_3 : Kd.C k50 w A0_3 l0_3.length l0_3) (hc0_3 : l0_3.length ≤ c0_3) (p1 : laws_szCrew.f k a0_0 a0_1 l0_2 l0_3 a0_4 1048576 = some s) (hs : s < 0) :
    Calls Try.prog 8 #[.agg #[.int .i64 a0_0, .int .i64 a0_1, .slice A0_2 l0_2.length c0_2, .slice A0_3 l0_3.length c0_3, .int .i64 a0_4]] w fun e w' => e = .returned (.bool true) ∧ Below w.heap.size w w' := by
  have hu40 := Try.underlying40
  have HR2 := Aside0.mk hr0_2
  have HC2 := Aside0.mk hc0_2
  have HR3 := Aside0.mk hr0_3
  have HC3 := Aside0.mk hc0_3
  have P1 := Aside0.mk p1
  clear hr0_2 hc0_2 hr0_3 hc0_3 p1
  have HA := Aside0.mk (below_alloc (Below.refl w.heap.size w) (.cells #[.int .i64 a0_0, .int .i64 a0_1, .slice A0_2 l0_2.length c0_2, .slice A0_3 l0_3.length c0_3, .int .i64 a0_4] 40 (0, 0)))
  have hs0 : decide (s < 0) = true := decide_eq_true hs
  go_enter Try.func8, Try.ntmps8
  go_wp2_with fail
  refine (laws_szCrew.calls k a0_0 a0_1 _ _ l0_2 _ _ l0_3 a0_4 1048576 s _ (Kd.C_below HR2.out HA.out) HC2.out (Kd.C_below HR3.out HA.out) HC3.out P1.out).mono ?_
  rintro e w1 ⟨rfl, hb⟩
  have HB := Aside0.mk (below_step HA.out hb)
  clear hb
  go_wp2
  go_ret
  exact ⟨rfl, HB.out⟩
set_option maxRecDepth 100000 in
set_option maxHeartbeats 8000000 in
theorem laws_FnExactFacts.walk (k : Nat) (a0_0 : Int) (a0_1 : Int) (A0_2 : Option Addr) (c0_2 : Nat) (l0_2 : List Int) (A0_3 : Option Addr) (c0_3 : Nat) (l0_3 : List (S50)) (a0_4 : Int) (s b0 b1 b4 : Int) (l2 : List Int) (l3 : List (S55)) (R R2 : List (S89)) (m : Int) (w : World) (hr0_2 : Kd.C (Kd.int .i64) w A0_2 l0_2.length l0_2) (hc0_2 : l0_2.length ≤ c0_2) (hr0_3 : Kd.C k50 w A0_3 l0_3.length l0_3) (hc0_3 : l0_3.length ≤ c0_3)
    (p1 : laws_szCrew.f k a0_0 a0_1 l0_2 l0_3 a0_4 1048576 = some s) (hs : ¬ s < 0) (p2 : laws_toCrew.f k a0_0 a0_1 l0_2 l0_3 a0_4 = some (b0, b1, l2, l3, b4)) (p3 : spec_Facts.f k b0 b1 l2 l3 b4 = some R) (p4 : impl_Facts.f k b0 b1 l2 l3 b4 = some R) (p5 : laws_eqFactS.f k R R = some true) (p6 : laws_eqCrew.f k b0 b1 l2 l3 b4 b0 b1 l2 l3 b4 = some true) (p7 : ¬ bumpT l3 (bump l2.length 1) < 0) (p8 : laws_markFactS.f k R 1 = some (m, R2)) (p9 : laws_heldFactS.f k R2 1 = some m) (hm : ¬ m < 0) :
    Calls Try.prog 8 #[.agg #[.int .i64 a0_0, .int .i64 a0_1, .slice A0_2 l0_2.length c0_2, .slice A0_3 l0_3.length c0_3, .int .i64 a0_4]] w fun e w' => e = .returned (.bool true) ∧ Below w.heap.size w w' := by
  have hu40 := Try.underlying40
  have HR2 := Aside0.mk hr0_2
  have HC2 := Aside0.mk hc0_2
  have HR3 := Aside0.mk hr0_3
  have HC3 := Aside0.mk hc0_3
  have P1 := Aside0.mk p1
  clear hr0_2 hc0_2 hr0_3 hc0_3 p1
  have HA := Aside0.mk (below_alloc (Below.refl w.heap.size w) (.cells #[.int .i64 a0_0, .int .i64 a0_1, .slice A0_2 l0_2.length c0_2, .slice A0_3 l0_3.length c0_3, .int .i64 a0_4] 40 (0, 0)))
  have P2 := Aside0.mk p2
  have P3 := Aside0.mk p3
  have P4 := Aside0.mk p4
  have P5 := Aside0.mk p5
  have P6 := Aside0.mk p6
  have P8 := Aside0.mk p8
  have P9 := Aside0.mk p9
  clear p2 p3 p4 p5 p6 p8 p9
  have hs0 : decide (s < 0) = false := decide_eq_false hs
  clear hs
  have hm1 : decide (m < 0) = false := decide_eq_false hm
  have hm2 : decide (bumpT l3 (bump l2.length 1) < 0) = false := decide_eq_false p7
  clear hm p7
  go_enter Try.func8, Try.ntmps8
  go_wp2_with fail
  refine (laws_szCrew.calls k a0_0 a0_1 _ _ l0_2 _ _ l0_3 a0_4 1048576 s _ (Kd.C_below HR2.out HA.out) HC2.out (Kd.C_below HR3.out HA.out) HC3.out P1.out).mono ?_
  rintro e w1 ⟨rfl, hb⟩
  have HB := Aside0.mk (below_step HA.out hb)
  have BK := Aside0.mk (show w1.heap[w.heap.size]? = some (.cells #[.int .i64 a0_0, .int .i64 a0_1, .slice A0_2 l0_2.length c0_2, .slice A0_3 l0_3.length c0_3, .int .i64 a0_4] 40 (0, 0)) from (hb.block _ (by simp)).trans (by simpa using heap_alloc_new w _))
  have G0 := Aside0.mk (show w.heap.size < w1.heap.size from blk_lt BK.out)
  clear hb
  have hx0 : w1.cell? ⟨w.heap.size, 0, none⟩ = some (.int .i64 a0_0) := (blk_cell BK.out 0).trans rfl
  have hx1 : w1.cell? ⟨w.heap.size, 1, none⟩ = some (.int .i64 a0_1) := (blk_cell BK.out 1).trans rfl
  have hx2 : w1.cell? ⟨w.heap.size, 2, none⟩ = some (.slice A0_2 l0_2.length c0_2) := (blk_cell BK.out 2).trans rfl
  have hx3 : w1.cell? ⟨w.heap.size, 3, none⟩ = some (.slice A0_3 l0_3.length c0_3) := (blk_cell BK.out 3).trans rfl
  have hx4 : w1.cell? ⟨w.heap.size, 4, none⟩ = some (.int .i64 a0_4) := (blk_cell BK.out 4).trans rfl
  go_wp2_with fail
  clear hx0 hx1 hx2 hx3 hx4
  refine (laws_toCrew.calls k a0_0 a0_1 _ _ l0_2 _ _ l0_3 a0_4 b0 b1 l2 l3 b4 _ (Kd.C_below HR2.out HB.out) HC2.out (Kd.C_below HR3.out HB.out) HC3.out P2.out).mono ?_
  rintro e w2 ⟨u_, v_, rfl, ru, rv, hb⟩
  obtain ⟨Ax2, cx2, rfl⟩ := Kd.R_slice ru
  obtain ⟨Ax3, cx3, rfl⟩ := Kd.S_slice rv
  have Ux := Aside0.mk (Kd.R_lower (Kd.R_mono (Kd.R_bound ru) (ok' := fun k_ => w1.heap.size ≤ k_ ∧ k_ < w2.heap.size) (fun k_ h_ => ⟨h_.2.1, h_.2.2.1⟩)) HB.out.size)
  have Vx := Aside0.mk (Kd.R_lower (Kd.R_mono (Kd.R_bound (Kd.S_R rv)) (ok' := fun k_ => w1.heap.size ≤ k_ ∧ k_ < w2.heap.size) (fun k_ h_ => ⟨h_.2.1, h_.2.2.1⟩)) HB.out.size)
  clear ru rv
  have G1 := Aside0.mk (show w1.heap.size ≤ w2.heap.size from hb.size)
  replace BK := Aside0.mk (blk_below BK.out hb)
  replace HB := Aside0.mk (below_step HB.out hb)
  clear hb
  go_wp2_with fail
  refine (spec_Facts.calls k b0 b1 _ _ l2 _ _ l3 b4 R _ (Kd.R_reads' Ux.out).2.2 (Kd.R_reads' Ux.out).2.1 (Kd.R_reads' Vx.out).2.2 (Kd.R_reads' Vx.out).2.1 P3.out).mono ?_
  rintro e w3 ⟨u_, rfl, ru, hb⟩
  obtain ⟨Ap, cp, rfl⟩ := Kd.R_slice ru
  have UP := Aside0.mk (Kd.R_lower (Kd.R_mono (Kd.R_bound ru) (ok' := fun k_ => w2.heap.size ≤ k_ ∧ k_ < w3.heap.size) (fun k_ h_ => ⟨h_.2.1, h_.2.2.1⟩)) HB.out.size)
  clear ru Ux Vx
  have G2 := Aside0.mk (show w2.heap.size ≤ w3.heap.size from hb.size)
  replace BK := Aside0.mk (blk_below BK.out hb)
  replace HB := Aside0.mk (below_step HB.out hb)
  clear hb
  have hx0 : w3.cell? ⟨w.heap.size, 0, none⟩ = some (.int .i64 a0_0) := (blk_cell BK.out 0).trans rfl
  have hx1 : w3.cell? ⟨w.heap.size, 1, none⟩ = some (.int .i64 a0_1) := (blk_cell BK.out 1).trans rfl
  have hx2 : w3.cell? ⟨w.heap.size, 2, none⟩ = some (.slice A0_2 l0_2.length c0_2) := (blk_cell BK.out 2).trans rfl
  have hx3 : w3.cell? ⟨w.heap.size, 3, none⟩ = some (.slice A0_3 l0_3.length c0_3) := (blk_cell BK.out 3).trans rfl
  have hx4 : w3.cell? ⟨w.heap.size, 4, none⟩ = some (.int .i64 a0_4) := (blk_cell BK.out 4).trans rfl
  go_wp2_with fail
  clear hx0 hx1 hx2 hx3 hx4
  refine (laws_toCrew.calls k a0_0 a0_1 _ _ l0_2 _ _ l0_3 a0_4 b0 b1 l2 l3 b4 _ (Kd.C_below HR2.out HB.out) HC2.out (Kd.C_below HR3.out HB.out) HC3.out P2.out).mono ?_
  rintro e w4 ⟨u_, v_, rfl, ru, rv, hb⟩
  obtain ⟨Ay2, cy2, rfl⟩ := Kd.R_slice ru
  obtain ⟨Ay3, cy3, rfl⟩ := Kd.S_slice rv
  have Uy := Aside0.mk (Kd.R_lower (Kd.R_mono (Kd.R_bound ru) (ok' := fun k_ => w3.heap.size ≤ k_ ∧ k_ < w4.heap.size) (fun k_ h_ => ⟨h_.2.1, h_.2.2.1⟩)) HB.out.size)
  have Vy := Aside0.mk (Kd.R_lower (Kd.R_mono (Kd.R_bound (Kd.S_R rv)) (ok' := fun k_ => w3.heap.size ≤ k_ ∧ k_ < w4.heap.size) (fun k_ h_ => ⟨h_.2.1, h_.2.2.1⟩)) HB.out.size)
  clear ru rv
  have G3 := Aside0.mk (show w3.heap.size ≤ w4.heap.size from hb.size)
  replace UP := Aside0.mk (Kd.R_below UP.out hb)
  replace BK := Aside0.mk (blk_below BK.out hb)
  replace HB := Aside0.mk (below_step HB.out hb)
  clear hb
  have hu29 := Try.underlying29
  go_wp2_with fail
  have HD := Aside0.mk (below_alloc (Below.refl w4.heap.size w4) (.cells #[.int .i64 b0, .int .i64 b1, .slice Ay2 l2.length cy2, .slice Ay3 l3.length cy3, .int .i64 b4] 29 (0, 0)))
  refine (impl_Facts.calls k b0 b1 _ _ l2 _ _ l3 b4 R _ (Kd.C_below (Kd.R_reads' Uy.out).2.2 HD.out) (Kd.R_reads' Uy.out).2.1 (Kd.C_below (Kd.R_reads' Vy.out).2.2 HD.out) (Kd.R_reads' Vy.out).2.1 P4.out).mono ?_
  rintro e w5 ⟨u_, rfl, ru, hb0⟩
  obtain ⟨Aq, cq, rfl⟩ := Kd.R_slice ru
  have BY := Aside0.mk (show w5.heap[w4.heap.size]? = some (.cells #[.int .i64 b0, .int .i64 b1, .slice Ay2 l2.length cy2, .slice Ay3 l3.length cy3, .int .i64 b4] 29 (0, 0)) from (hb0.block _ (by simp)).trans (by simpa using heap_alloc_new w4 _))
  have hb := below_step HD.out hb0
  have UQ := Aside0.mk (Kd.R_mono (Kd.R_bound ru) (ok' := fun k_ => w4.heap.size ≤ k_ ∧ k_ < w5.heap.size) (fun k_ h_ => ⟨Nat.le_trans HD.out.size h_.2.1, h_.2.2.1⟩))
  replace UQ := Aside0.mk (Kd.R_lower UQ.out (Nat.le_trans HB.out.size HD.out.size))
  clear ru hb0
  have G4 := Aside0.mk (show w4.heap.size ≤ w5.heap.size from hb.size)
  replace UP := Aside0.mk (Kd.R_below UP.out hb)
  replace Uy := Aside0.mk (Kd.R_below Uy.out hb)
  replace Vy := Aside0.mk (Kd.R_below Vy.out hb)
  replace BK := Aside0.mk (blk_below BK.out hb)
  replace HB := Aside0.mk (below_step HB.out hb)
  clear hb
  go_wp2_with fail
  refine (laws_eqFactS.calls k _ _ R _ _ R true _ (Kd.R_reads' UQ.out).2.2 (Kd.R_reads' UQ.out).2.1 (Kd.R_reads' UP.out).2.2 (Kd.R_reads' UP.out).2.1 P5.out).mono ?_
  rintro e w6 ⟨rfl, hb0⟩
  have hb : Below w5.heap.size w5 w6 := by first | exact hb0 | exact hb0.below
  clear hb0
  have G5 := Aside0.mk (show w5.heap.size ≤ w6.heap.size from hb.size)
  replace UP := Aside0.mk (Kd.R_below UP.out hb)
  replace Uy := Aside0.mk (Kd.R_below Uy.out hb)
  replace Vy := Aside0.mk (Kd.R_below Vy.out hb)
  replace UQ := Aside0.mk (Kd.R_below UQ.out hb)
  replace BK := Aside0.mk (blk_below BK.out hb)
  replace BY := Aside0.mk (blk_below BY.out hb)
  replace HB := Aside0.mk (below_step HB.out hb)
  clear hb
  go_wp2_with fail
  replace BK := Aside0.mk (blk_drew BK.out)
  replace BY := Aside0.mk (blk_drew BY.out)
  replace UP := Aside0.mk (Kd.R_drew UP.out)
  replace Uy := Aside0.mk (Kd.R_drew Uy.out)
  replace Vy := Aside0.mk (Kd.R_drew Vy.out)
  replace UQ := Aside0.mk (Kd.R_drew UQ.out)
  replace HB := Aside0.mk (below_drew1 HB.out)
  refine start_ (n := 5) (S := fun w' => w'.cell? ⟨w4.heap.size, 0, none⟩ = some (.int .i64 b0) ∧ w'.cell? ⟨w4.heap.size, 1, none⟩ = some (.int .i64 b1) ∧ w'.cell? ⟨w4.heap.size, 2, none⟩ = some (.slice Ay2 l2.length cy2) ∧ w'.cell? ⟨w4.heap.size, 3, none⟩ = some (.slice Ay3 l3.length cy3) ∧ w'.cell? ⟨w4.heap.size, 4, none⟩ = some (.int .i64 b4) ∧ w'.cell? ⟨w.heap.size, 0, none⟩ = some (.int .i64 a0_0) ∧ w'.cell? ⟨w.heap.size, 1, none⟩ = some (.int .i64 a0_1) ∧ w'.cell? ⟨w.heap.size, 2, none⟩ = some (.slice A0_2 l0_2.length c0_2) ∧ w'.cell? ⟨w.heap.size, 3, none⟩ = some (.slice A0_3 l0_3.length c0_3) ∧ w'.cell? ⟨w.heap.size, 4, none⟩ = some (.int .i64 a0_4)) (ds := []) #[false, false, false, false, false] (by kernel_rfl) rfl rfl ⟨(blk_cell BY.out 0).trans rfl, (blk_cell BY.out 1).trans rfl, (blk_cell BY.out 2).trans rfl, (blk_cell BY.out 3).trans rfl, (blk_cell BY.out 4).trans rfl, (blk_cell BK.out 0).trans rfl, (blk_cell BK.out 1).trans rfl, (blk_cell BK.out 2).trans rfl, (blk_cell BK.out 3).trans rfl, (blk_cell BK.out 4).trans rfl⟩ (fun hHeld => ?_)
  generalize w6.drew = w7 at BK BY UP Uy Vy UQ HB hHeld ⊢
  refine take_ (i := 0) (N := some 27) (v := ?_) (a' := ?_) #[true, false, false, false, false] rfl rfl (by kernel_rfl) (fun _ _ _ h => h) (Or.inl ⟨by rfl, ?_⟩) hHeld ?_ ?_
  rotate_left
  · rintro w' ⟨s0, s1, s2, s3, s4, s5, s6, s7, s8, s9⟩
    go_simp
    with_reducible rfl
  rotate_left
  · simp only [Act.put, List.setIfInBounds_toArray, List.set_cons_zero, List.set_cons_succ, i64_w, i32_w]
    rfl
  refine take_ (i := 1) (N := some 28) (v := ?_) (a' := ?_) #[true, true, false, false, false] rfl rfl (by kernel_rfl) (fun _ _ _ h => h) (Or.inl ⟨by rfl, ?_⟩) hHeld ?_ ?_
  rotate_left
  · rintro w' ⟨s0, s1, s2, s3, s4, s5, s6, s7, s8, s9⟩
    go_simp
    with_reducible rfl
  rotate_left
  · simp only [Act.put, List.setIfInBounds_toArray, List.set_cons_zero, List.set_cons_succ, i64_w, i32_w]
    rfl
  refine one_ (i := 2) (N := some 29) #[true, true, true, false, false] rfl rfl (by kernel_rfl) (by decide) (fun K hK => ?_)
  refine goes_ Try.func22 (by kernel_rfl) rfl #[.agg #[.int .i64 a0_0, .int .i64 a0_1, .slice A0_2 l0_2.length c0_2, .slice A0_3 l0_3.length c0_3, .int .i64 a0_4]] (by rfl) rfl rfl (by (try simp only [List.map_toArray, List.map_cons, List.map_nil]); first | done | rfl | (simp only [List.length_drop, List.length_take]; rfl)) ?_
  with_reducible refine (laws_toCrew.calls k a0_0 a0_1 _ _ l0_2 _ _ l0_3 a0_4 b0 b1 l2 l3 b4 _ ?side1 ?side2 ?side3 ?side4 P2.out).mono ?_
  (case side1 => exact Kd.C_below HR2.out HB.out)
  (case side2 => exact HC2.out)
  (case side3 => exact Kd.C_below HR3.out HB.out)
  (case side4 => exact HC3.out)
  rintro e w8 ⟨u_, v_, rfl, ru, rv, hb⟩
  refine ⟨_, rfl, ?_⟩
  obtain ⟨Ah2, ch2, rfl⟩ := Kd.R_slice ru
  obtain ⟨Ah3, ch3, rfl⟩ := Kd.S_slice rv
  have Uh := Aside0.mk ru
  have Vh := Aside0.mk (Kd.S_R rv)
  clear ru rv
  replace UP := Aside0.mk (Kd.R_below UP.out hb)
  replace Uy := Aside0.mk (Kd.R_below Uy.out hb)
  replace Vy := Aside0.mk (Kd.R_below Vy.out hb)
  replace UQ := Aside0.mk (Kd.R_below UQ.out hb)
  replace BK := Aside0.mk (blk_below BK.out hb)
  replace BY := Aside0.mk (blk_below BY.out hb)
  replace HB := Aside0.mk (below_step HB.out hb)
  clear hb
  refine hK.out _ _ ⟨(blk_cell BY.out 0).trans rfl, (blk_cell BY.out 1).trans rfl, (blk_cell BY.out 2).trans rfl, (blk_cell BY.out 3).trans rfl, (blk_cell BY.out 4).trans rfl, (blk_cell BK.out 0).trans rfl, (blk_cell BK.out 1).trans rfl, (blk_cell BK.out 2).trans rfl, (blk_cell BK.out 3).trans rfl, (blk_cell BK.out 4).trans rfl⟩ (fun hHeld => ?_)
  clear hK K
  refine norm_ (a' := ?_) ?_ ?_
  rotate_left
  · show Act.put _ (some 29) _ = _
    simp only [Act.put, List.setIfInBounds_toArray, List.set_cons_zero, List.set_cons_succ, i64_w, i32_w]
    rfl
  refine one_ (i := 3) (N := some 30) #[true, true, true, true, false] rfl rfl (by kernel_rfl) (by decide) (fun K hK => ?_)
  refine goes_ Try.func15 (by kernel_rfl) rfl #[.agg #[.int .i64 b0, .int .i64 b1, .slice Ay2 l2.length cy2, .slice Ay3 l3.length cy3, .int .i64 b4], .agg #[.int .i64 b0, .int .i64 b1, .slice Ah2 l2.length ch2, .slice Ah3 l3.length ch3, .int .i64 b4]] (by rfl) rfl rfl (by (try simp only [List.map_toArray, List.map_cons, List.map_nil]); first | done | rfl | (simp only [List.length_drop, List.length_take]; rfl)) ?_
  with_reducible refine (laws_eqCrew.calls k b0 b1 _ _ l2 _ _ l3 b4 b0 b1 _ _ l2 _ _ l3 b4 true _ ?side1 ?side2 ?side3 ?side4 ?side5 ?side6 ?side7 ?side8 P6.out).mono ?_
  (case side1 => exact (Kd.R_reads' Uy.out).2.2)
  (case side2 => exact (Kd.R_reads' Uy.out).2.1)
  (case side3 => exact (Kd.R_reads' Vy.out).2.2)
  (case side4 => exact (Kd.R_reads' Vy.out).2.1)
  (case side5 => exact (Kd.R_reads' Uh.out).2.2)
  (case side6 => exact (Kd.R_reads' Uh.out).2.1)
  (case side7 => exact (Kd.R_reads' Vh.out).2.2)
  (case side8 => exact (Kd.R_reads' Vh.out).2.1)
  rintro e w9 ⟨rfl, hb⟩
  refine ⟨_, rfl, ?_⟩
  clear Uh Vh
  replace UP := Aside0.mk (Kd.R_below UP.out hb)
  replace Uy := Aside0.mk (Kd.R_below Uy.out hb)
  replace Vy := Aside0.mk (Kd.R_below Vy.out hb)
  replace UQ := Aside0.mk (Kd.R_below UQ.out hb)
  replace BK := Aside0.mk (blk_below BK.out hb)
  replace BY := Aside0.mk (blk_below BY.out hb)
  replace HB := Aside0.mk (below_step HB.out hb)
  clear hb
  refine hK.out _ _ ⟨(blk_cell BY.out 0).trans rfl, (blk_cell BY.out 1).trans rfl, (blk_cell BY.out 2).trans rfl, (blk_cell BY.out 3).trans rfl, (blk_cell BY.out 4).trans rfl, (blk_cell BK.out 0).trans rfl, (blk_cell BK.out 1).trans rfl, (blk_cell BK.out 2).trans rfl, (blk_cell BK.out 3).trans rfl, (blk_cell BK.out 4).trans rfl⟩ (fun hHeld => ?_)
  clear hK K
  refine norm_ (a' := ?_) ?_ ?_
  rotate_left
  · show Act.put _ (some 30) _ = _
    simp only [Act.put, List.setIfInBounds_toArray, List.set_cons_zero, List.set_cons_succ, i64_w, i32_w]
    rfl
  refine pure_ (i := 4) (N := some 31) (v := ?_) (a' := ?_) #[true, true, true, true, true] rfl rfl (by kernel_rfl) (fun _ _ _ h => h) (Or.inl ⟨by rfl, ?_⟩) ?_ ?_
  rotate_left
  · intro w'
    go_simp
    with_reducible rfl
  rotate_left
  · simp only [Act.put, List.setIfInBounds_toArray, List.set_cons_zero, List.set_cons_succ, i64_w, i32_w]
    rfl
  refine done_ (by kernel_rfl) ?_
  clear hHeld
  have hx0 : w9.cell? ⟨w4.heap.size, 0, none⟩ = some (.int .i64 b0) := (blk_cell BY.out 0).trans rfl
  have hx1 : w9.cell? ⟨w4.heap.size, 1, none⟩ = some (.int .i64 b1) := (blk_cell BY.out 1).trans rfl
  have hx2 : w9.cell? ⟨w4.heap.size, 2, none⟩ = some (.slice Ay2 l2.length cy2) := (blk_cell BY.out 2).trans rfl
  have hx3 : w9.cell? ⟨w4.heap.size, 3, none⟩ = some (.slice Ay3 l3.length cy3) := (blk_cell BY.out 3).trans rfl
  have hx4 : w9.cell? ⟨w4.heap.size, 4, none⟩ = some (.int .i64 b4) := (blk_cell BY.out 4).trans rfl
  go_wp2_with fail
  clear hx0 hx1 hx2 hx3 hx4
  refine (markCrew_raw b0 b1 b4 w _ (fun k_ => w3.heap.size ≤ k_ ∧ k_ < w4.heap.size) (fun k_ => w3.heap.size ≤ k_ ∧ k_ < w4.heap.size) (.slice Ay2 l2.length cy2) (.slice Ay3 l3.length cy3) l2.length l3 1 HB.out (RawRow.of_R Uy.out) (RawThreads.of_R Vy.out)).mono ?_
  rintro e w10 ⟨rfl, hB10, hk0⟩
  clear Uy Vy BY
  replace HB := Aside0.mk hB10
  clear hB10
  have hk := Kept.mono hk0 (S' := fun k_ => w3.heap.size ≤ k_ ∧ k_ < w4.heap.size) (fun _ h_ => h_.elim id id)
  clear hk0
  replace UP := Aside0.mk (keptI_ UP.out hk (by have g0_ := G0.out; have g1_ := G1.out; have g2_ := G2.out; have g3_ := G3.out; have g4_ := G4.out; omega))
  replace UQ := Aside0.mk (keptI_ UQ.out hk (by have g0_ := G0.out; have g1_ := G1.out; have g2_ := G2.out; have g3_ := G3.out; have g4_ := G4.out; omega))
  replace BK := Aside0.mk (blkI_ BK.out hk (by have g0_ := G0.out; have g1_ := G1.out; have g2_ := G2.out; have g3_ := G3.out; have g4_ := G4.out; omega))
  clear hk
  go_wp2_with fail
  refine (laws_eqFactS.calls k _ _ R _ _ R true _ (Kd.R_reads' UQ.out).2.2 (Kd.R_reads' UQ.out).2.1 (Kd.R_reads' UP.out).2.2 (Kd.R_reads' UP.out).2.1 P5.out).mono ?_
  rintro e w11 ⟨rfl, hb0⟩
  have hb : Below w10.heap.size w10 w11 := by first | exact hb0 | exact hb0.below
  clear hb0
  replace UP := Aside0.mk (Kd.R_below UP.out hb)
  replace UQ := Aside0.mk (Kd.R_below UQ.out hb)
  replace BK := Aside0.mk (blk_below BK.out hb)
  replace HB := Aside0.mk (below_step HB.out hb)
  clear hb
  go_wp2_with fail
  refine (laws_markFactS.calls k (fun k_ => w4.heap.size ≤ k_ ∧ k_ < w5.heap.size) (.slice Aq R.length cq) R 1 m R2 w _ HB.out UQ.out P8.out).mono ?_
  rintro e w12 ⟨rfl, rq, hB12, hk⟩
  replace HB := Aside0.mk hB12
  clear hB12 UQ
  replace UP := Aside0.mk (keptI_ UP.out hk (by have g0_ := G0.out; have g1_ := G1.out; have g2_ := G2.out; have g3_ := G3.out; have g4_ := G4.out; omega))
  replace BK := Aside0.mk (blkI_ BK.out hk (by have g0_ := G0.out; have g1_ := G1.out; have g2_ := G2.out; have g3_ := G3.out; have g4_ := G4.out; omega))
  clear hk
  have UQ := Aside0.mk (Kd.R_mono rq (ok' := fun _ => True) (fun _ _ => trivial))
  clear rq
  have HL := Aside0.mk (Kd.R_reads' UQ.out).1
  go_wp2_with fail
  have hq := laws_heldFactS.calls k Aq cq R2 1 m w12 (by have h_ := (Kd.R_reads' UQ.out).2.2; exact h_) (by rw [← HL.out]; exact (Kd.R_reads' UQ.out).2.1) P9.out
  rw [← HL.out] at hq
  refine hq.mono ?_
  clear hq
  rintro e w13 ⟨rfl, hb0⟩
  have hb : Below w12.heap.size w12 w13 := by first | exact hb0 | exact hb0.below
  clear hb0
  replace UP := Aside0.mk (Kd.R_below UP.out hb)
  replace UQ := Aside0.mk (Kd.R_below UQ.out hb)
  replace BK := Aside0.mk (blk_below BK.out hb)
  replace HB := Aside0.mk (below_step HB.out hb)
  clear hb
  have hx0 : w13.cell? ⟨w.heap.size, 0, none⟩ = some (.int .i64 a0_0) := (blk_cell BK.out 0).trans rfl
  have hx1 : w13.cell? ⟨w.heap.size, 1, none⟩ = some (.int .i64 a0_1) := (blk_cell BK.out 1).trans rfl
  have hx2 : w13.cell? ⟨w.heap.size, 2, none⟩ = some (.slice A0_2 l0_2.length c0_2) := (blk_cell BK.out 2).trans rfl
  have hx3 : w13.cell? ⟨w.heap.size, 3, none⟩ = some (.slice A0_3 l0_3.length c0_3) := (blk_cell BK.out 3).trans rfl
  have hx4 : w13.cell? ⟨w.heap.size, 4, none⟩ = some (.int .i64 a0_4) := (blk_cell BK.out 4).trans rfl
  go_wp2_with fail
  clear hx0 hx1 hx2 hx3 hx4
  refine (laws_toCrew.calls k a0_0 a0_1 _ _ l0_2 _ _ l0_3 a0_4 b0 b1 l2 l3 b4 _ (Kd.C_below HR2.out HB.out) HC2.out (Kd.C_below HR3.out HB.out) HC3.out P2.out).mono ?_
  rintro e w14 ⟨u_, v_, rfl, ru, rv, hb⟩
  obtain ⟨Az2, cz2, rfl⟩ := Kd.R_slice ru
  obtain ⟨Az3, cz3, rfl⟩ := Kd.S_slice rv
  have Uz := Aside0.mk (Kd.R_lower (Kd.R_mono (Kd.R_bound ru) (ok' := fun k_ => w13.heap.size ≤ k_ ∧ k_ < w14.heap.size) (fun k_ h_ => ⟨h_.2.1, h_.2.2.1⟩)) HB.out.size)
  have Vz := Aside0.mk (Kd.R_lower (Kd.R_mono (Kd.R_bound (Kd.S_R rv)) (ok' := fun k_ => w13.heap.size ≤ k_ ∧ k_ < w14.heap.size) (fun k_ h_ => ⟨h_.2.1, h_.2.2.1⟩)) HB.out.size)
  clear ru rv
  replace UP := Aside0.mk (Kd.R_below UP.out hb)
  replace UQ := Aside0.mk (Kd.R_below UQ.out hb)
  replace BK := Aside0.mk (blk_below BK.out hb)
  replace HB := Aside0.mk (below_step HB.out hb)
  clear hb
  go_wp2_with fail
  refine (impl_Facts.calls k b0 b1 _ _ l2 _ _ l3 b4 R _ (Kd.R_reads' Uz.out).2.2 (Kd.R_reads' Uz.out).2.1 (Kd.R_reads' Vz.out).2.2 (Kd.R_reads' Vz.out).2.1 P4.out).mono ?_
  rintro e w15 ⟨u_, rfl, ru, hb⟩
  obtain ⟨At, ct, rfl⟩ := Kd.R_slice ru
  have UT := Aside0.mk (Kd.R_lower ru HB.out.size)
  clear ru Uz Vz
  replace UP := Aside0.mk (Kd.R_below UP.out hb)
  replace UQ := Aside0.mk (Kd.R_below UQ.out hb)
  replace BK := Aside0.mk (blk_below BK.out hb)
  replace HB := Aside0.mk (below_step HB.out hb)
  clear hb
  go_wp2_with fail
  refine (laws_eqFactS.calls k _ _ R _ _ R true _ (Kd.R_reads' UT.out).2.2 (Kd.R_reads' UT.out).2.1 (Kd.R_reads' UP.out).2.2 (Kd.R_reads' UP.out).2.1 P5.out).mono ?_
  rintro e w16 ⟨rfl, hb0⟩
  have hb : Below w15.heap.size w15 w16 := by first | exact hb0 | exact hb0.below
  clear hb0
  replace UP := Aside0.mk (Kd.R_below UP.out hb)
  replace UQ := Aside0.mk (Kd.R_below UQ.out hb)
  replace UT := Aside0.mk (Kd.R_below UT.out hb)
  replace BK := Aside0.mk (blk_below BK.out hb)
  replace HB := Aside0.mk (below_step HB.out hb)
  clear hb
  go_wp2_with fail
  have hq := laws_heldFactS.calls k Aq cq R2 1 m w16 (by have h_ := (Kd.R_reads' UQ.out).2.2; exact h_) (by rw [← HL.out]; exact (Kd.R_reads' UQ.out).2.1) P9.out
  rw [← HL.out] at hq
  refine hq.mono ?_
  clear hq
  rintro e w17 ⟨rfl, hb0⟩
  have hb : Below w16.heap.size w16 w17 := by first | exact hb0 | exact hb0.below
  clear hb0
  replace UP := Aside0.mk (Kd.R_below UP.out hb)
  replace UQ := Aside0.mk (Kd.R_below UQ.out hb)
  replace UT := Aside0.mk (Kd.R_below UT.out hb)
  replace BK := Aside0.mk (blk_below BK.out hb)
  replace HB := Aside0.mk (below_step HB.out hb)
  clear hb
  go_wp2
  go_ret
  exact ⟨rfl, HB.out⟩
def wfT106 (x : S106) : Prop := (Lit.int .i64 x.f0).wf = true ∧ (Lit.int .i64 x.f1).wf = true ∧ (Lit.int .i64 x.f2).wf = true ∧ (Lit.int .i64 x.f3).wf = true ∧ (Lit.int .i64 x.f4).wf = true ∧ (Lit.int .i64 x.f5).wf = true ∧ (Lit.int .i64 x.f6).wf = true ∧ (Lit.int .i64 x.f7).wf = true ∧ (Lit.int .i64 x.f8).wf = true ∧ True
def wfT50 (x : S50) : Prop := (x.f0.length ≤ maxLen ∧ ∀ y ∈ x.f0, wfT106 y) ∧ (Lit.int .i64 x.f1).wf = true ∧ (x.f2.length ≤ maxLen ∧ ∀ y ∈ x.f2, (Lit.int .i64 y).wf = true) ∧ (x.f3.length ≤ maxLen ∧ ∀ y ∈ x.f3, (Lit.int .i64 y).wf = true)
def laws_FnExactFacts.Pure : Prop := ∀ (a0_0 : Int) (a0_1 : Int) (l0_2 : List Int) (l0_3 : List (S50)) (a0_4 : Int), ((Lit.int .i64 a0_0).wf = true ∧ (Lit.int .i64 a0_1).wf = true ∧ ((l0_2.length ≤ maxLen ∧ ∀ y ∈ l0_2, (Lit.int .i64 y).wf = true)) ∧ (l0_3.length ≤ maxLen ∧ ∀ y ∈ l0_3, wfT50 y) ∧ (Lit.int .i64 a0_4).wf = true) →
  (∃ k s, laws_szCrew.f k a0_0 a0_1 l0_2 l0_3 a0_4 1048576 = some s ∧ s < 0) ∨ ∃ (k : Nat) (s b0 b1 b4 : Int) (l2 : List Int) (l3 : List (S55)) (R R2 : List (S89)) (m : Int), laws_szCrew.f k a0_0 a0_1 l0_2 l0_3 a0_4 1048576 = some s ∧ ¬ s < 0 ∧ laws_toCrew.f k a0_0 a0_1 l0_2 l0_3 a0_4 = some (b0, b1, l2, l3, b4) ∧ spec_Facts.f k b0 b1 l2 l3 b4 = some R ∧ impl_Facts.f k b0 b1 l2 l3 b4 = some R ∧ laws_eqFactS.f k R R = some true ∧ laws_eqCrew.f k b0 b1 l2 l3 b4 b0 b1 l2 l3 b4 = some true ∧ ¬ bumpT l3 (bump l2.length 1) < 0 ∧ laws_markFactS.f k R 1 = some (m, R2) ∧ laws_heldFactS.f k R2 1 = some m ∧ ¬ m < 0
end Go.Proofs.Ytndkfjecipjiaaa.PFnExactFacts
