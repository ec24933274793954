-- Written by the session's own patched copy of the printer (wip/patch_print.py).
import Derived.Test.YtndkfjecipjiaaaPFnExactFactsx0
import Derived.Test.YtndkfjecipjiaaaPFnExactFactsx2
namespace Go.Proofs.Ytndkfjecipjiaaa.PFnExactFacts
open Go.RowKit Go.Proofs.YtndkfjecipjiaaaW.PrintWords Go.Proofs.YtndkfjecipjiaaaW.PrintLast Go.Proofs.YtndkfjecipjiaaaW.PrintMore
attribute [local go_sem] max2_int min2_int max_two min_two max_three min_three max_four min_four   -- for this text's walks alone
set_option linter.unusedVariables false
set_option linter.unusedSimpArgs false

/-! ### laws_markCallS: function 53 -/
def laws_markCallS.l0 : Nat → List (S75) → Int → Int → Option (Int × (List (S75)))
  | 0, _, _, _ => none
  | k + 1, x0, x1, x5 => if x5 < (x0.length : Int) then (if 0 ≤ x5 then ((some (x0.set (x5 : Int).toNat (⟨x1, (rd_T75 x0 x5).f1, (rd_T75 x0 x5).f2, (rd_T75 x0 x5).f3, (rd_T75 x0 x5).f4, (rd_T75 x0 x5).f5, (rd_T75 x0 x5).f6, (rd_T75 x0 x5).f7, (rd_T75 x0 x5).f8, (rd_T75 x0 x5).f9⟩ : S75) : List (S75))).bind fun y124 => ((some (y124.set (x5 : Int).toNat (⟨(rd_T75 y124 x5).f0, wrap64 (x1 + 1), (rd_T75 y124 x5).f2, (rd_T75 y124 x5).f3, (rd_T75 y124 x5).f4, (rd_T75 y124 x5).f5, (rd_T75 y124 x5).f6, (rd_T75 y124 x5).f7, (rd_T75 y124 x5).f8, (rd_T75 y124 x5).f9⟩ : S75) : List (S75))).bind fun y125 => ((some (y125.set (x5 : Int).toNat (⟨(rd_T75 y125 x5).f0, (rd_T75 y125 x5).f1, wrap64 ((wrap64 (x1 + 1)) + 1), (rd_T75 y125 x5).f3, (rd_T75 y125 x5).f4, (rd_T75 y125 x5).f5, (rd_T75 y125 x5).f6, (rd_T75 y125 x5).f7, (rd_T75 y125 x5).f8, (rd_T75 y125 x5).f9⟩ : S75) : List (S75))).bind fun y126 => ((some (y126.set (x5 : Int).toNat (⟨(rd_T75 y126 x5).f0, (rd_T75 y126 x5).f1, (rd_T75 y126 x5).f2, wrap64 ((wrap64 ((wrap64 (x1 + 1)) + 1)) + 1), (rd_T75 y126 x5).f4, (rd_T75 y126 x5).f5, (rd_T75 y126 x5).f6, (rd_T75 y126 x5).f7, (rd_T75 y126 x5).f8, (rd_T75 y126 x5).f9⟩ : S75) : List (S75))).bind fun y127 => ((some (y127.set (x5 : Int).toNat (⟨(rd_T75 y127 x5).f0, (rd_T75 y127 x5).f1, (rd_T75 y127 x5).f2, (rd_T75 y127 x5).f3, wrap64 ((wrap64 ((wrap64 ((wrap64 (x1 + 1)) + 1)) + 1)) + 1), (rd_T75 y127 x5).f5, (rd_T75 y127 x5).f6, (rd_T75 y127 x5).f7, (rd_T75 y127 x5).f8, (rd_T75 y127 x5).f9⟩ : S75) : List (S75))).bind fun y128 => ((some (y128.set (x5 : Int).toNat (⟨(rd_T75 y128 x5).f0, (rd_T75 y128 x5).f1, (rd_T75 y128 x5).f2, (rd_T75 y128 x5).f3, (rd_T75 y128 x5).f4, wrap64 ((wrap64 ((wrap64 ((wrap64 ((wrap64 (x1 + 1)) + 1)) + 1)) + 1)) + 1), (rd_T75 y128 x5).f6, (rd_T75 y128 x5).f7, (rd_T75 y128 x5).f8, (rd_T75 y128 x5).f9⟩ : S75) : List (S75))).bind fun y129 => ((some (y129.set (x5 : Int).toNat (⟨(rd_T75 y129 x5).f0, (rd_T75 y129 x5).f1, (rd_T75 y129 x5).f2, (rd_T75 y129 x5).f3, (rd_T75 y129 x5).f4, (rd_T75 y129 x5).f5, wrap64 ((wrap64 ((wrap64 ((wrap64 ((wrap64 ((wrap64 (x1 + 1)) + 1)) + 1)) + 1)) + 1)) + 1), (rd_T75 y129 x5).f7, (rd_T75 y129 x5).f8, (rd_T75 y129 x5).f9⟩ : S75) : List (S75))).bind fun y130 => ((some (y130.set (x5 : Int).toNat (⟨(rd_T75 y130 x5).f0, (rd_T75 y130 x5).f1, (rd_T75 y130 x5).f2, (rd_T75 y130 x5).f3, (rd_T75 y130 x5).f4, (rd_T75 y130 x5).f5, (rd_T75 y130 x5).f6, wrap64 ((wrap64 ((wrap64 ((wrap64 ((wrap64 ((wrap64 ((wrap64 (x1 + 1)) + 1)) + 1)) + 1)) + 1)) + 1)) + 1), (rd_T75 y130 x5).f8, (rd_T75 y130 x5).f9⟩ : S75) : List (S75))).bind fun y131 => ((some (y131.set (x5 : Int).toNat (⟨(rd_T75 y131 x5).f0, (rd_T75 y131 x5).f1, (rd_T75 y131 x5).f2, (rd_T75 y131 x5).f3, (rd_T75 y131 x5).f4, (rd_T75 y131 x5).f5, (rd_T75 y131 x5).f6, (rd_T75 y131 x5).f7, wrap64 ((wrap64 ((wrap64 ((wrap64 ((wrap64 ((wrap64 ((wrap64 ((wrap64 (x1 + 1)) + 1)) + 1)) + 1)) + 1)) + 1)) + 1)) + 1), (rd_T75 y131 x5).f9⟩ : S75) : List (S75))).bind fun y132 => (laws_markCallS.l0 k (y132.set (x5 : Int).toNat (⟨(rd_T75 y132 x5).f0, (rd_T75 y132 x5).f1, (rd_T75 y132 x5).f2, (rd_T75 y132 x5).f3, (rd_T75 y132 x5).f4, (rd_T75 y132 x5).f5, (rd_T75 y132 x5).f6, (rd_T75 y132 x5).f7, (rd_T75 y132 x5).f8, ((Int.tmod (wrap64 ((wrap64 ((wrap64 ((wrap64 ((wrap64 ((wrap64 ((wrap64 ((wrap64 ((wrap64 (x1 + 1)) + 1)) + 1)) + 1)) + 1)) + 1)) + 1)) + 1)) + 1)) 3) == 0)⟩ : S75)) (wrap64 ((wrap64 ((wrap64 ((wrap64 ((wrap64 ((wrap64 ((wrap64 ((wrap64 ((wrap64 ((wrap64 (x1 + 1)) + 1)) + 1)) + 1)) + 1)) + 1)) + 1)) + 1)) + 1)) + 1)) (wrap64 (x5 + 1)))))))))))) else (none)) else (some (x1, x0))
def laws_markCallS.f (k : Nat) (l0 : List (S75)) (a1 : Int) : Option (Int × (List (S75))) := laws_markCallS.l0 k l0 a1 0
theorem laws_markCallS.mono_l : ∀ k, (∀ y0 y1 y2, LeO (laws_markCallS.l0 k y0 y1 y2) (laws_markCallS.l0 (k + 1) y0 y1 y2))
  | 0 => fun _ _ _ r h => by simp [laws_markCallS.l0] at h
  | k + 1 => by
    have ih0 := laws_markCallS.mono_l k
    · intro y0 y1 y2
      unfold laws_markCallS.l0
      repeat' first
      | (with_reducible exact ih0 _ _ _)
      | (with_reducible exact LeO.refl _)
      | (with_reducible exact LeO.none _)
      | (with_reducible refine LeO.ite ?_ ?_)
      | (with_reducible refine LeO.bind ?_ (fun _ => ?_))
      | exact ih0 _ _ _
      | exact LeO.none _
      | refine LeO.ite ?_ ?_
      | refine LeO.bind ?_ (fun _ => ?_)
theorem laws_markCallS.mono : ∀ a0 a1 k, LeO (laws_markCallS.f k a0 a1) (laws_markCallS.f (k + 1) a0 a1) := by
  intro a0 a1 k
  have ih0 := laws_markCallS.mono_l k
  unfold laws_markCallS.f
  repeat' first
      | (with_reducible exact ih0 _ _ _)
      | (with_reducible exact LeO.refl _)
      | (with_reducible exact LeO.none _)
      | (with_reducible refine LeO.ite ?_ ?_)
      | (with_reducible refine LeO.bind ?_ (fun _ => ?_))
      | exact ih0 _ _ _
      | exact LeO.none _
      | refine LeO.ite ?_ ?_
      | refine LeO.bind ?_ (fun _ => ?_)
set_option maxHeartbeats 8000000 in
set_option maxRecDepth 100000 in
theorem laws_markCallS.calls (k : Nat) (P0_ : Nat → Prop) (u9000_ : Value) (l0 : List (S75)) (a1 : Int) (r1 : Int) (r2 : List (S75)) (w0 w : World) (hB : Below w0.heap.size w0 w) (ho0 : Kd.R k75 75 w w0.heap.size P0_ u9000_ l0) (h : laws_markCallS.f k l0 a1 = some (r1, r2)) :
    Calls Try.prog 53 #[u9000_, .int .i64 a1] w fun e w' => e = .returned (.int .i64 r1) ∧ Kd.R k75 75 w' w0.heap.size (fun k_ => (P0_ k_ ∨ w.heap.size ≤ k_)) u9000_ r2 ∧ Below w0.heap.size w0 w' ∧ Kept w w' (fun k_ => P0_ k_) := by
  have HO0 := Aside0.mk (show Kd.R k75 75 w w0.heap.size (fun k_ => (P0_ k_ ∨ w.heap.size ≤ k_)) u9000_ l0 from Kd.R_mono ho0 (fun k_ hk => (.inl hk)))
  have HK := Aside0.mk (Kept.refl w (fun k_ => P0_ k_))
  have HW0 := Aside0.mk hB.size
  have HB := Aside0.mk hB
  clear hB
  have H : (laws_markCallS.l0 k l0 a1 0) = some (r1, r2) := h
  clear h
  have H' := Aside0.mk H
  clear H
  go_enter Try.func53, Try.ntmps53
  go_wp2
  go_loopg [1, 5] k (fun kq v1 v5 w' => ∃ (x0_1 : List (S75)) (x1_1 : Int) (x5_1 : Int), v1 = .int .i64 x1_1 ∧ v5 = .int .i64 x5_1 ∧ Aside0 (laws_markCallS.l0 kq x0_1 x1_1 x5_1 = some (r1, r2)) ∧ Aside0 (kq ≤ k) ∧ Aside0 (Kd.R k75 75 w' w0.heap.size (fun k_ => (P0_ k_ ∨ w.heap.size ≤ k_)) u9000_ x0_1) ∧ Aside0 (Kept w w' (fun k_ => P0_ k_)) ∧ Aside0 (Below w0.heap.size w0 w'))
  case atStart => exact ⟨(l0), (a1), (0), (by first | rfl | (simp; done) | (simp [*]; done)), (by first | rfl | (simp; done) | (simp [*]; done)), H', ⟨Nat.le_refl _⟩, ⟨by (with_reducible repeat (first | apply Kd.R_alloc | apply Kd.R_drewN | apply Kd.R_drew)); exact HO0.out⟩, ⟨by repeat (first | (with_reducible first | exact HK.out | apply Kept.alloc | apply Kept.drewN | apply Kept.drew) | exact HK.out)⟩, ⟨by repeat (first | (with_reducible first | exact HB.out | apply below_alloc | apply pw_below_drewN | apply below_drew1) | exact HB.out)⟩⟩
  case round =>
    clear H'
    try clear p2
    obtain ⟨x0_1, x1_1, x5_1, rfl, rfl, HA, HK1, HO_0, HK, HB⟩ := hrel
    cases gk with
    | zero => exact absurd HA.out (by simp [laws_markCallS.l0])
    | succ k1 =>
      have H := HA.out
      clear HA
      simp only [laws_markCallS.l0] at H
      by_cases c3 : x5_1 < (x0_1.length : Int)
      · rw [if_pos c3] at H
        have c3b0 : decide (x5_1 < (x0_1.length : Int)) = true := decide_eq_true c3
        clear c3
        by_cases c4 : 0 ≤ x5_1
        · rw [if_pos c4] at H
          have c4b0 : decide (0 ≤ x5_1) = true := decide_eq_true c4
          clear c4
          obtain ⟨y124, hy124⟩ : ∃ y_ : List (S75), y_ = (x0_1.set (x5_1 : Int).toNat (⟨x1_1, (rd_T75 x0_1 x5_1).f1, (rd_T75 x0_1 x5_1).f2, (rd_T75 x0_1 x5_1).f3, (rd_T75 x0_1 x5_1).f4, (rd_T75 x0_1 x5_1).f5, (rd_T75 x0_1 x5_1).f6, (rd_T75 x0_1 x5_1).f7, (rd_T75 x0_1 x5_1).f8, (rd_T75 x0_1 x5_1).f9⟩ : S75)) := ⟨_, rfl⟩
          replace H : ((some (y124.set (x5_1 : Int).toNat (⟨(rd_T75 y124 x5_1).f0, wrap64 (x1_1 + 1), (rd_T75 y124 x5_1).f2, (rd_T75 y124 x5_1).f3, (rd_T75 y124 x5_1).f4, (rd_T75 y124 x5_1).f5, (rd_T75 y124 x5_1).f6, (rd_T75 y124 x5_1).f7, (rd_T75 y124 x5_1).f8, (rd_T75 y124 x5_1).f9⟩ : S75) : List (S75))).bind fun y125 => ((some (y125.set (x5_1 : Int).toNat (⟨(rd_T75 y125 x5_1).f0, (rd_T75 y125 x5_1).f1, wrap64 ((wrap64 (x1_1 + 1)) + 1), (rd_T75 y125 x5_1).f3, (rd_T75 y125 x5_1).f4, (rd_T75 y125 x5_1).f5, (rd_T75 y125 x5_1).f6, (rd_T75 y125 x5_1).f7, (rd_T75 y125 x5_1).f8, (rd_T75 y125 x5_1).f9⟩ : S75) : List (S75))).bind fun y126 => ((some (y126.set (x5_1 : Int).toNat (⟨(rd_T75 y126 x5_1).f0, (rd_T75 y126 x5_1).f1, (rd_T75 y126 x5_1).f2, wrap64 ((wrap64 ((wrap64 (x1_1 + 1)) + 1)) + 1), (rd_T75 y126 x5_1).f4, (rd_T75 y126 x5_1).f5, (rd_T75 y126 x5_1).f6, (rd_T75 y126 x5_1).f7, (rd_T75 y126 x5_1).f8, (rd_T75 y126 x5_1).f9⟩ : S75) : List (S75))).bind fun y127 => ((some (y127.set (x5_1 : Int).toNat (⟨(rd_T75 y127 x5_1).f0, (rd_T75 y127 x5_1).f1, (rd_T75 y127 x5_1).f2, (rd_T75 y127 x5_1).f3, wrap64 ((wrap64 ((wrap64 ((wrap64 (x1_1 + 1)) + 1)) + 1)) + 1), (rd_T75 y127 x5_1).f5, (rd_T75 y127 x5_1).f6, (rd_T75 y127 x5_1).f7, (rd_T75 y127 x5_1).f8, (rd_T75 y127 x5_1).f9⟩ : S75) : List (S75))).bind fun y128 => ((some (y128.set (x5_1 : Int).toNat (⟨(rd_T75 y128 x5_1).f0, (rd_T75 y128 x5_1).f1, (rd_T75 y128 x5_1).f2, (rd_T75 y128 x5_1).f3, (rd_T75 y128 x5_1).f4, wrap64 ((wrap64 ((wrap64 ((wrap64 ((wrap64 (x1_1 + 1)) + 1)) + 1)) + 1)) + 1), (rd_T75 y128 x5_1).f6, (rd_T75 y128 x5_1).f7, (rd_T75 y128 x5_1).f8, (rd_T75 y128 x5_1).f9⟩ : S75) : List (S75))).bind fun y129 => ((some (y129.set (x5_1 : Int).toNat (⟨(rd_T75 y129 x5_1).f0, (rd_T75 y129 x5_1).f1, (rd_T75 y129 x5_1).f2, (rd_T75 y129 x5_1).f3, (rd_T75 y129 x5_1).f4, (rd_T75 y129 x5_1).f5, wrap64 ((wrap64 ((wrap64 ((wrap64 ((wrap64 ((wrap64 (x1_1 + 1)) + 1)) + 1)) + 1)) + 1)) + 1), (rd_T75 y129 x5_1).f7, (rd_T75 y129 x5_1).f8, (rd_T75 y129 x5_1).f9⟩ : S75) : List (S75))).bind fun y130 => ((some (y130.set (x5_1 : Int).toNat (⟨(rd_T75 y130 x5_1).f0, (rd_T75 y130 x5_1).f1, (rd_T75 y130 x5_1).f2, (rd_T75 y130 x5_1).f3, (rd_T75 y130 x5_1).f4, (rd_T75 y130 x5_1).f5, (rd_T75 y130 x5_1).f6, wrap64 ((wrap64 ((wrap64 ((wrap64 ((wrap64 ((wrap64 ((wrap64 (x1_1 + 1)) + 1)) + 1)) + 1)) + 1)) + 1)) + 1), (rd_T75 y130 x5_1).f8, (rd_T75 y130 x5_1).f9⟩ : S75) : List (S75))).bind fun y131 => ((some (y131.set (x5_1 : Int).toNat (⟨(rd_T75 y131 x5_1).f0, (rd_T75 y131 x5_1).f1, (rd_T75 y131 x5_1).f2, (rd_T75 y131 x5_1).f3, (rd_T75 y131 x5_1).f4, (rd_T75 y131 x5_1).f5, (rd_T75 y131 x5_1).f6, (rd_T75 y131 x5_1).f7, wrap64 ((wrap64 ((wrap64 ((wrap64 ((wrap64 ((wrap64 ((wrap64 ((wrap64 (x1_1 + 1)) + 1)) + 1)) + 1)) + 1)) + 1)) + 1)) + 1), (rd_T75 y131 x5_1).f9⟩ : S75) : List (S75))).bind fun y132 => (laws_markCallS.l0 k1 (y132.set (x5_1 : Int).toNat (⟨(rd_T75 y132 x5_1).f0, (rd_T75 y132 x5_1).f1, (rd_T75 y132 x5_1).f2, (rd_T75 y132 x5_1).f3, (rd_T75 y132 x5_1).f4, (rd_T75 y132 x5_1).f5, (rd_T75 y132 x5_1).f6, (rd_T75 y132 x5_1).f7, (rd_T75 y132 x5_1).f8, ((Int.tmod (wrap64 ((wrap64 ((wrap64 ((wrap64 ((wrap64 ((wrap64 ((wrap64 ((wrap64 ((wrap64 (x1_1 + 1)) + 1)) + 1)) + 1)) + 1)) + 1)) + 1)) + 1)) + 1)) 3) == 0)⟩ : S75)) (wrap64 ((wrap64 ((wrap64 ((wrap64 ((wrap64 ((wrap64 ((wrap64 ((wrap64 ((wrap64 ((wrap64 (x1_1 + 1)) + 1)) + 1)) + 1)) + 1)) + 1)) + 1)) + 1)) + 1)) + 1)) (wrap64 (x5_1 + 1))))))))))) = some (r1, r2) := by first | (rw [hy124]; with_reducible exact H) | (have H2_ := (Option.bind_some _ _).symm.trans H; rw [hy124]; with_reducible exact H2_) | (have H2_ := (Option.bind_some _ _).symm.trans H; with_reducible exact H2_) | with_reducible exact H | (rw [hy124]; exact H) | exact H
          have Ny124 := Aside0.mk hy124
          clear hy124
          obtain ⟨y125, hy125⟩ : ∃ y_ : List (S75), y_ = (y124.set (x5_1 : Int).toNat (⟨(rd_T75 y124 x5_1).f0, wrap64 (x1_1 + 1), (rd_T75 y124 x5_1).f2, (rd_T75 y124 x5_1).f3, (rd_T75 y124 x5_1).f4, (rd_T75 y124 x5_1).f5, (rd_T75 y124 x5_1).f6, (rd_T75 y124 x5_1).f7, (rd_T75 y124 x5_1).f8, (rd_T75 y124 x5_1).f9⟩ : S75)) := ⟨_, rfl⟩
          replace H : ((some (y125.set (x5_1 : Int).toNat (⟨(rd_T75 y125 x5_1).f0, (rd_T75 y125 x5_1).f1, wrap64 ((wrap64 (x1_1 + 1)) + 1), (rd_T75 y125 x5_1).f3, (rd_T75 y125 x5_1).f4, (rd_T75 y125 x5_1).f5, (rd_T75 y125 x5_1).f6, (rd_T75 y125 x5_1).f7, (rd_T75 y125 x5_1).f8, (rd_T75 y125 x5_1).f9⟩ : S75) : List (S75))).bind fun y126 => ((some (y126.set (x5_1 : Int).toNat (⟨(rd_T75 y126 x5_1).f0, (rd_T75 y126 x5_1).f1, (rd_T75 y126 x5_1).f2, wrap64 ((wrap64 ((wrap64 (x1_1 + 1)) + 1)) + 1), (rd_T75 y126 x5_1).f4, (rd_T75 y126 x5_1).f5, (rd_T75 y126 x5_1).f6, (rd_T75 y126 x5_1).f7, (rd_T75 y126 x5_1).f8, (rd_T75 y126 x5_1).f9⟩ : S75) : List (S75))).bind fun y127 => ((some (y127.set (x5_1 : Int).toNat (⟨(rd_T75 y127 x5_1).f0, (rd_T75 y127 x5_1).f1, (rd_T75 y127 x5_1).f2, (rd_T75 y127 x5_1).f3, wrap64 ((wrap64 ((wrap64 ((wrap64 (x1_1 + 1)) + 1)) + 1)) + 1), (rd_T75 y127 x5_1).f5, (rd_T75 y127 x5_1).f6, (rd_T75 y127 x5_1).f7, (rd_T75 y127 x5_1).f8, (rd_T75 y127 x5_1).f9⟩ : S75) : List (S75))).bind fun y128 => ((some (y128.set (x5_1 : Int).toNat (⟨(rd_T75 y128 x5_1).f0, (rd_T75 y128 x5_1).f1, (rd_T75 y128 x5_1).f2, (rd_T75 y128 x5_1).f3, (rd_T75 y128 x5_1).f4, wrap64 ((wrap64 ((wrap64 ((wrap64 ((wrap64 (x1_1 + 1)) + 1)) + 1)) + 1)) + 1), (rd_T75 y128 x5_1).f6, (rd_T75 y128 x5_1).f7, (rd_T75 y128 x5_1).f8, (rd_T75 y128 x5_1).f9⟩ : S75) : List (S75))).bind fun y129 => ((some (y129.set (x5_1 : Int).toNat (⟨(rd_T75 y129 x5_1).f0, (rd_T75 y129 x5_1).f1, (rd_T75 y129 x5_1).f2, (rd_T75 y129 x5_1).f3, (rd_T75 y129 x5_1).f4, (rd_T75 y129 x5_1).f5, wrap64 ((wrap64 ((wrap64 ((wrap64 ((wrap64 ((wrap64 (x1_1 + 1)) + 1)) + 1)) + 1)) + 1)) + 1), (rd_T75 y129 x5_1).f7, (rd_T75 y129 x5_1).f8, (rd_T75 y129 x5_1).f9⟩ : S75) : List (S75))).bind fun y130 => ((some (y130.set (x5_1 : Int).toNat (⟨(rd_T75 y130 x5_1).f0, (rd_T75 y130 x5_1).f1, (rd_T75 y130 x5_1).f2, (rd_T75 y130 x5_1).f3, (rd_T75 y130 x5_1).f4, (rd_T75 y130 x5_1).f5, (rd_T75 y130 x5_1).f6, wrap64 ((wrap64 ((wrap64 ((wrap64 ((wrap64 ((wrap64 ((wrap64 (x1_1 + 1)) + 1)) + 1)) + 1)) + 1)) + 1)) + 1), (rd_T75 y130 x5_1).f8, (rd_T75 y130 x5_1).f9⟩ : S75) : List (S75))).bind fun y131 => ((some (y131.set (x5_1 : Int).toNat (⟨(rd_T75 y131 x5_1).f0, (rd_T75 y131 x5_1).f1, (rd_T75 y131 x5_1).f2, (rd_T75 y131 x5_1).f3, (rd_T75 y131 x5_1).f4, (rd_T75 y131 x5_1).f5, (rd_T75 y131 x5_1).f6, (rd_T75 y131 x5_1).f7, wrap64 ((wrap64 ((wrap64 ((wrap64 ((wrap64 ((wrap64 ((wrap64 ((wrap64 (x1_1 + 1)) + 1)) + 1)) + 1)) + 1)) + 1)) + 1)) + 1), (rd_T75 y131 x5_1).f9⟩ : S75) : List (S75))).bind fun y132 => (laws_markCallS.l0 k1 (y132.set (x5_1 : Int).toNat (⟨(rd_T75 y132 x5_1).f0, (rd_T75 y132 x5_1).f1, (rd_T75 y132 x5_1).f2, (rd_T75 y132 x5_1).f3, (rd_T75 y132 x5_1).f4, (rd_T75 y132 x5_1).f5, (rd_T75 y132 x5_1).f6, (rd_T75 y132 x5_1).f7, (rd_T75 y132 x5_1).f8, ((Int.tmod (wrap64 ((wrap64 ((wrap64 ((wrap64 ((wrap64 ((wrap64 ((wrap64 ((wrap64 ((wrap64 (x1_1 + 1)) + 1)) + 1)) + 1)) + 1)) + 1)) + 1)) + 1)) + 1)) 3) == 0)⟩ : S75)) (wrap64 ((wrap64 ((wrap64 ((wrap64 ((wrap64 ((wrap64 ((wrap64 ((wrap64 ((wrap64 ((wrap64 (x1_1 + 1)) + 1)) + 1)) + 1)) + 1)) + 1)) + 1)) + 1)) + 1)) + 1)) (wrap64 (x5_1 + 1)))))))))) = some (r1, r2) := by first | (rw [hy125]; with_reducible exact H) | (have H2_ := (Option.bind_some _ _).symm.trans H; rw [hy125]; with_reducible exact H2_) | (have H2_ := (Option.bind_some _ _).symm.trans H; with_reducible exact H2_) | with_reducible exact H | (rw [hy125]; exact H) | exact H
          have Ny125 := Aside0.mk hy125
          clear hy125
          obtain ⟨y126, hy126⟩ : ∃ y_ : List (S75), y_ = (y125.set (x5_1 : Int).toNat (⟨(rd_T75 y125 x5_1).f0, (rd_T75 y125 x5_1).f1, wrap64 ((wrap64 (x1_1 + 1)) + 1), (rd_T75 y125 x5_1).f3, (rd_T75 y125 x5_1).f4, (rd_T75 y125 x5_1).f5, (rd_T75 y125 x5_1).f6, (rd_T75 y125 x5_1).f7, (rd_T75 y125 x5_1).f8, (rd_T75 y125 x5_1).f9⟩ : S75)) := ⟨_, rfl⟩
          replace H : ((some (y126.set (x5_1 : Int).toNat (⟨(rd_T75 y126 x5_1).f0, (rd_T75 y126 x5_1).f1, (rd_T75 y126 x5_1).f2, wrap64 ((wrap64 ((wrap64 (x1_1 + 1)) + 1)) + 1), (rd_T75 y126 x5_1).f4, (rd_T75 y126 x5_1).f5, (rd_T75 y126 x5_1).f6, (rd_T75 y126 x5_1).f7, (rd_T75 y126 x5_1).f8, (rd_T75 y126 x5_1).f9⟩ : S75) : List (S75))).bind fun y127 => ((some (y127.set (x5_1 : Int).toNat (⟨(rd_T75 y127 x5_1).f0, (rd_T75 y127 x5_1).f1, (rd_T75 y127 x5_1).f2, (rd_T75 y127 x5_1).f3, wrap64 ((wrap64 ((wrap64 ((wrap64 (x1_1 + 1)) + 1)) + 1)) + 1), (rd_T75 y127 x5_1).f5, (rd_T75 y127 x5_1).f6, (rd_T75 y127 x5_1).f7, (rd_T75 y127 x5_1).f8, (rd_T75 y127 x5_1).f9⟩ : S75) : List (S75))).bind fun y128 => ((some (y128.set (x5_1 : Int).toNat (⟨(rd_T75 y128 x5_1).f0, (rd_T75 y128 x5_1).f1, (rd_T75 y128 x5_1).f2, (rd_T75 y128 x5_1).f3, (rd_T75 y128 x5_1).f4, wrap64 ((wrap64 ((wrap64 ((wrap64 ((wrap64 (x1_1 + 1)) + 1)) + 1)) + 1)) + 1), (rd_T75 y128 x5_1).f6, (rd_T75 y128 x5_1).f7, (rd_T75 y128 x5_1).f8, (rd_T75 y128 x5_1).f9⟩ : S75) : List (S75))).bind fun y129 => ((some (y129.set (x5_1 : Int).toNat (⟨(rd_T75 y129 x5_1).f0, (rd_T75 y129 x5_1).f1, (rd_T75 y129 x5_1).f2, (rd_T75 y129 x5_1).f3, (rd_T75 y129 x5_1).f4, (rd_T75 y129 x5_1).f5, wrap64 ((wrap64 ((wrap64 ((wrap64 ((wrap64 ((wrap64 (x1_1 + 1)) + 1)) + 1)) + 1)) + 1)) + 1), (rd_T75 y129 x5_1).f7, (rd_T75 y129 x5_1).f8, (rd_T75 y129 x5_1).f9⟩ : S75) : List (S75))).bind fun y130 => ((some (y130.set (x5_1 : Int).toNat (⟨(rd_T75 y130 x5_1).f0, (rd_T75 y130 x5_1).f1, (rd_T75 y130 x5_1).f2, (rd_T75 y130 x5_1).f3, (rd_T75 y130 x5_1).f4, (rd_T75 y130 x5_1).f5, (rd_T75 y130 x5_1).f6, wrap64 ((wrap64 ((wrap64 ((wrap64 ((wrap64 ((wrap64 ((wrap64 (x1_1 + 1)) + 1)) + 1)) + 1)) + 1)) + 1)) + 1), (rd_T75 y130 x5_1).f8, (rd_T75 y130 x5_1).f9⟩ : S75) : List (S75))).bind fun y131 => ((some (y131.set (x5_1 : Int).toNat (⟨(rd_T75 y131 x5_1).f0, (rd_T75 y131 x5_1).f1, (rd_T75 y131 x5_1).f2, (rd_T75 y131 x5_1).f3, (rd_T75 y131 x5_1).f4, (rd_T75 y131 x5_1).f5, (rd_T75 y131 x5_1).f6, (rd_T75 y131 x5_1).f7, wrap64 ((wrap64 ((wrap64 ((wrap64 ((wrap64 ((wrap64 ((wrap64 ((wrap64 (x1_1 + 1)) + 1)) + 1)) + 1)) + 1)) + 1)) + 1)) + 1), (rd_T75 y131 x5_1).f9⟩ : S75) : List (S75))).bind fun y132 => (laws_markCallS.l0 k1 (y132.set (x5_1 : Int).toNat (⟨(rd_T75 y132 x5_1).f0, (rd_T75 y132 x5_1).f1, (rd_T75 y132 x5_1).f2, (rd_T75 y132 x5_1).f3, (rd_T75 y132 x5_1).f4, (rd_T75 y132 x5_1).f5, (rd_T75 y132 x5_1).f6, (rd_T75 y132 x5_1).f7, (rd_T75 y132 x5_1).f8, ((Int.tmod (wrap64 ((wrap64 ((wrap64 ((wrap64 ((wrap64 ((wrap64 ((wrap64 ((wrap64 ((wrap64 (x1_1 + 1)) + 1)) + 1)) + 1)) + 1)) + 1)) + 1)) + 1)) + 1)) 3) == 0)⟩ : S75)) (wrap64 ((wrap64 ((wrap64 ((wrap64 ((wrap64 ((wrap64 ((wrap64 ((wrap64 ((wrap64 ((wrap64 (x1_1 + 1)) + 1)) + 1)) + 1)) + 1)) + 1)) + 1)) + 1)) + 1)) + 1)) (wrap64 (x5_1 + 1))))))))) = some (r1, r2) := by first | (rw [hy126]; with_reducible exact H) | (have H2_ := (Option.bind_some _ _).symm.trans H; rw [hy126]; with_reducible exact H2_) | (have H2_ := (Option.bind_some _ _).symm.trans H; with_reducible exact H2_) | with_reducible exact H | (rw [hy126]; exact H) | exact H
          have Ny126 := Aside0.mk hy126
          clear hy126
          obtain ⟨y127, hy127⟩ : ∃ y_ : List (S75), y_ = (y126.set (x5_1 : Int).toNat (⟨(rd_T75 y126 x5_1).f0, (rd_T75 y126 x5_1).f1, (rd_T75 y126 x5_1).f2, wrap64 ((wrap64 ((wrap64 (x1_1 + 1)) + 1)) + 1), (rd_T75 y126 x5_1).f4, (rd_T75 y126 x5_1).f5, (rd_T75 y126 x5_1).f6, (rd_T75 y126 x5_1).f7, (rd_T75 y126 x5_1).f8, (rd_T75 y126 x5_1).f9⟩ : S75)) := ⟨_, rfl⟩
          replace H : ((some (y127.set (x5_1 : Int).toNat (⟨(rd_T75 y127 x5_1).f0, (rd_T75 y127 x5_1).f1, (rd_T75 y127 x5_1).f2, (rd_T75 y127 x5_1).f3, wrap64 ((wrap64 ((wrap64 ((wrap64 (x1_1 + 1)) + 1)) + 1)) + 1), (rd_T75 y127 x5_1).f5, (rd_T75 y127 x5_1).f6, (rd_T75 y127 x5_1).f7, (rd_T75 y127 x5_1).f8, (rd_T75 y127 x5_1).f9⟩ : S75) : List (S75))).bind fun y128 => ((some (y128.set (x5_1 : Int).toNat (⟨(rd_T75 y128 x5_1).f0, (rd_T75 y128 x5_1).f1, (rd_T75 y128 x5_1).f2, (rd_T75 y128 x5_1).f3, (rd_T75 y128 x5_1).f4, wrap64 ((wrap64 ((wrap64 ((wrap64 ((wrap64 (x1_1 + 1)) + 1)) + 1)) + 1)) + 1), (rd_T75 y128 x5_1).f6, (rd_T75 y128 x5_1).f7, (rd_T75 y128 x5_1).f8, (rd_T75 y128 x5_1).f9⟩ : S75) : List (S75))).bind fun y129 => ((some (y129.set (x5_1 : Int).toNat (⟨(rd_T75 y129 x5_1).f0, (rd_T75 y129 x5_1).f1, (rd_T75 y129 x5_1).f2, (rd_T75 y129 x5_1).f3, (rd_T75 y129 x5_1).f4, (rd_T75 y129 x5_1).f5, wrap64 ((wrap64 ((wrap64 ((wrap64 ((wrap64 ((wrap64 (x1_1 + 1)) + 1)) + 1)) + 1)) + 1)) + 1), (rd_T75 y129 x5_1).f7, (rd_T75 y129 x5_1).f8, (rd_T75 y129 x5_1).f9⟩ : S75) : List (S75))).bind fun y130 => ((some (y130.set (x5_1 : Int).toNat (⟨(rd_T75 y130 x5_1).f0, (rd_T75 y130 x5_1).f1, (rd_T75 y130 x5_1).f2, (rd_T75 y130 x5_1).f3, (rd_T75 y130 x5_1).f4, (rd_T75 y130 x5_1).f5, (rd_T75 y130 x5_1).f6, wrap64 ((wrap64 ((wrap64 ((wrap64 ((wrap64 ((wrap64 ((wrap64 (x1_1 + 1)) + 1)) + 1)) + 1)) + 1)) + 1)) + 1), (rd_T75 y130 x5_1).f8, (rd_T75 y130 x5_1).f9⟩ : S75) : List (S75))).bind fun y131 => ((some (y131.set (x5_1 : Int).toNat (⟨(rd_T75 y131 x5_1).f0, (rd_T75 y131 x5_1).f1, (rd_T75 y131 x5_1).f2, (rd_T75 y131 x5_1).f3, (rd_T75 y131 x5_1).f4, (rd_T75 y131 x5_1).f5, (rd_T75 y131 x5_1).f6, (rd_T75 y131 x5_1).f7, wrap64 ((wrap64 ((wrap64 ((wrap64 ((wrap64 ((wrap64 ((wrap64 ((wrap64 (x1_1 + 1)) + 1)) + 1)) + 1)) + 1)) + 1)) + 1)) + 1), (rd_T75 y131 x5_1).f9⟩ : S75) : List (S75))).bind fun y132 => (laws_markCallS.l0 k1 (y132.set (x5_1 : Int).toNat (⟨(rd_T75 y132 x5_1).f0, (rd_T75 y132 x5_1).f1, (rd_T75 y132 x5_1).f2, (rd_T75 y132 x5_1).f3, (rd_T75 y132 x5_1).f4, (rd_T75 y132 x5_1).f5, (rd_T75 y132 x5_1).f6, (rd_T75 y132 x5_1).f7, (rd_T75 y132 x5_1).f8, ((Int.tmod (wrap64 ((wrap64 ((wrap64 ((wrap64 ((wrap64 ((wrap64 ((wrap64 ((wrap64 ((wrap64 (x1_1 + 1)) + 1)) + 1)) + 1)) + 1)) + 1)) + 1)) + 1)) + 1)) 3) == 0)⟩ : S75)) (wrap64 ((wrap64 ((wrap64 ((wrap64 ((wrap64 ((wrap64 ((wrap64 ((wrap64 ((wrap64 ((wrap64 (x1_1 + 1)) + 1)) + 1)) + 1)) + 1)) + 1)) + 1)) + 1)) + 1)) + 1)) (wrap64 (x5_1 + 1)))))))) = some (r1, r2) := by first | (rw [hy127]; with_reducible exact H) | (have H2_ := (Option.bind_some _ _).symm.trans H; rw [hy127]; with_reducible exact H2_) | (have H2_ := (Option.bind_some _ _).symm.trans H; with_reducible exact H2_) | with_reducible exact H | (rw [hy127]; exact H) | exact H
          have Ny127 := Aside0.mk hy127
          clear hy127
          obtain ⟨y128, hy128⟩ : ∃ y_ : List (S75), y_ = (y127.set (x5_1 : Int).toNat (⟨(rd_T75 y127 x5_1).f0, (rd_T75 y127 x5_1).f1, (rd_T75 y127 x5_1).f2, (rd_T75 y127 x5_1).f3, wrap64 ((wrap64 ((wrap64 ((wrap64 (x1_1 + 1)) + 1)) + 1)) + 1), (rd_T75 y127 x5_1).f5, (rd_T75 y127 x5_1).f6, (rd_T75 y127 x5_1).f7, (rd_T75 y127 x5_1).f8, (rd_T75 y127 x5_1).f9⟩ : S75)) := ⟨_, rfl⟩
          replace H : ((some (y128.set (x5_1 : Int).toNat (⟨(rd_T75 y128 x5_1).f0, (rd_T75 y128 x5_1).f1, (rd_T75 y128 x5_1).f2, (rd_T75 y128 x5_1).f3, (rd_T75 y128 x5_1).f4, wrap64 ((wrap64 ((wrap64 ((wrap64 ((wrap64 (x1_1 + 1)) + 1)) + 1)) + 1)) + 1), (rd_T75 y128 x5_1).f6, (rd_T75 y128 x5_1).f7, (rd_T75 y128 x5_1).f8, (rd_T75 y128 x5_1).f9⟩ : S75) : List (S75))).bind fun y129 => ((some (y129.set (x5_1 : Int).toNat (⟨(rd_T75 y129 x5_1).f0, (rd_T75 y129 x5_1).f1, (rd_T75 y129 x5_1).f2, (rd_T75 y129 x5_1).f3, (rd_T75 y129 x5_1).f4, (rd_T75 y129 x5_1).f5, wrap64 ((wrap64 ((wrap64 ((wrap64 ((wrap64 ((wrap64 (x1_1 + 1)) + 1)) + 1)) + 1)) + 1)) + 1), (rd_T75 y129 x5_1).f7, (rd_T75 y129 x5_1).f8, (rd_T75 y129 x5_1).f9⟩ : S75) : List (S75))).bind fun y130 => ((some (y130.set (x5_1 : Int).toNat (⟨(rd_T75 y130 x5_1).f0, (rd_T75 y130 x5_1).f1, (rd_T75 y130 x5_1).f2, (rd_T75 y130 x5_1).f3, (rd_T75 y130 x5_1).f4, (rd_T75 y130 x5_1).f5, (rd_T75 y130 x5_1).f6, wrap64 ((wrap64 ((wrap64 ((wrap64 ((wrap64 ((wrap64 ((wrap64 (x1_1 + 1)) + 1)) + 1)) + 1)) + 1)) + 1)) + 1), (rd_T75 y130 x5_1).f8, (rd_T75 y130 x5_1).f9⟩ : S75) : List (S75))).bind fun y131 => ((some (y131.set (x5_1 : Int).toNat (⟨(rd_T75 y131 x5_1).f0, (rd_T75 y131 x5_1).f1, (rd_T75 y131 x5_1).f2, (rd_T75 y131 x5_1).f3, (rd_T75 y131 x5_1).f4, (rd_T75 y131 x5_1).f5, (rd_T75 y131 x5_1).f6, (rd_T75 y131 x5_1).f7, wrap64 ((wrap64 ((wrap64 ((wrap64 ((wrap64 ((wrap64 ((wrap64 ((wrap64 (x1_1 + 1)) + 1)) + 1)) + 1)) + 1)) + 1)) + 1)) + 1), (rd_T75 y131 x5_1).f9⟩ : S75) : List (S75))).bind fun y132 => (laws_markCallS.l0 k1 (y132.set (x5_1 : Int).toNat (⟨(rd_T75 y132 x5_1).f0, (rd_T75 y132 x5_1).f1, (rd_T75 y132 x5_1).f2, (rd_T75 y132 x5_1).f3, (rd_T75 y132 x5_1).f4, (rd_T75 y132 x5_1).f5, (rd_T75 y132 x5_1).f6, (rd_T75 y132 x5_1).f7, (rd_T75 y132 x5_1).f8, ((Int.tmod (wrap64 ((wrap64 ((wrap64 ((wrap64 ((wrap64 ((wrap64 ((wrap64 ((wrap64 ((wrap64 (x1_1 + 1)) + 1)) + 1)) + 1)) + 1)) + 1)) + 1)) + 1)) + 1)) 3) == 0)⟩ : S75)) (wrap64 ((wrap64 ((wrap64 ((wrap64 ((wrap64 ((wrap64 ((wrap64 ((wrap64 ((wrap64 ((wrap64 (x1_1 + 1)) + 1)) + 1)) + 1)) + 1)) + 1)) + 1)) + 1)) + 1)) + 1)) (wrap64 (x5_1 + 1))))))) = some (r1, r2) := by first | (rw [hy128]; with_reducible exact H) | (have H2_ := (Option.bind_some _ _).symm.trans H; rw [hy128]; with_reducible exact H2_) | (have H2_ := (Option.bind_some _ _).symm.trans H; with_reducible exact H2_) | with_reducible exact H | (rw [hy128]; exact H) | exact H
          have Ny128 := Aside0.mk hy128
          clear hy128
          obtain ⟨y129, hy129⟩ : ∃ y_ : List (S75), y_ = (y128.set (x5_1 : Int).toNat (⟨(rd_T75 y128 x5_1).f0, (rd_T75 y128 x5_1).f1, (rd_T75 y128 x5_1).f2, (rd_T75 y128 x5_1).f3, (rd_T75 y128 x5_1).f4, wrap64 ((wrap64 ((wrap64 ((wrap64 ((wrap64 (x1_1 + 1)) + 1)) + 1)) + 1)) + 1), (rd_T75 y128 x5_1).f6, (rd_T75 y128 x5_1).f7, (rd_T75 y128 x5_1).f8, (rd_T75 y128 x5_1).f9⟩ : S75)) := ⟨_, rfl⟩
          replace H : ((some (y129.set (x5_1 : Int).toNat (⟨(rd_T75 y129 x5_1).f0, (rd_T75 y129 x5_1).f1, (rd_T75 y129 x5_1).f2, (rd_T75 y129 x5_1).f3, (rd_T75 y129 x5_1).f4, (rd_T75 y129 x5_1).f5, wrap64 ((wrap64 ((wrap64 ((wrap64 ((wrap64 ((wrap64 (x1_1 + 1)) + 1)) + 1)) + 1)) + 1)) + 1), (rd_T75 y129 x5_1).f7, (rd_T75 y129 x5_1).f8, (rd_T75 y129 x5_1).f9⟩ : S75) : List (S75))).bind fun y130 => ((some (y130.set (x5_1 : Int).toNat (⟨(rd_T75 y130 x5_1).f0, (rd_T75 y130 x5_1).f1, (rd_T75 y130 x5_1).f2, (rd_T75 y130 x5_1).f3, (rd_T75 y130 x5_1).f4, (rd_T75 y130 x5_1).f5, (rd_T75 y130 x5_1).f6, wrap64 ((wrap64 ((wrap64 ((wrap64 ((wrap64 ((wrap64 ((wrap64 (x1_1 + 1)) + 1)) + 1)) + 1)) + 1)) + 1)) + 1), (rd_T75 y130 x5_1).f8, (rd_T75 y130 x5_1).f9⟩ : S75) : List (S75))).bind fun y131 => ((some (y131.set (x5_1 : Int).toNat (⟨(rd_T75 y131 x5_1).f0, (rd_T75 y131 x5_1).f1, (rd_T75 y131 x5_1).f2, (rd_T75 y131 x5_1).f3, (rd_T75 y131 x5_1).f4, (rd_T75 y131 x5_1).f5, (rd_T75 y131 x5_1).f6, (rd_T75 y131 x5_1).f7, wrap64 ((wrap64 ((wrap64 ((wrap64 ((wrap64 ((wrap64 ((wrap64 ((wrap64 (x1_1 + 1)) + 1)) + 1)) + 1)) + 1)) + 1)) + 1)) + 1), (rd_T75 y131 x5_1).f9⟩ : S75) : List (S75))).bind fun y132 => (laws_markCallS.l0 k1 (y132.set (x5_1 : Int).toNat (⟨(rd_T75 y132 x5_1).f0, (rd_T75 y132 x5_1).f1, (rd_T75 y132 x5_1).f2, (rd_T75 y132 x5_1).f3, (rd_T75 y132 x5_1).f4, (rd_T75 y132 x5_1).f5, (rd_T75 y132 x5_1).f6, (rd_T75 y132 x5_1).f7, (rd_T75 y132 x5_1).f8, ((Int.tmod (wrap64 ((wrap64 ((wrap64 ((wrap64 ((wrap64 ((wrap64 ((wrap64 ((wrap64 ((wrap64 (x1_1 + 1)) + 1)) + 1)) + 1)) + 1)) + 1)) + 1)) + 1)) + 1)) 3) == 0)⟩ : S75)) (wrap64 ((wrap64 ((wrap64 ((wrap64 ((wrap64 ((wrap64 ((wrap64 ((wrap64 ((wrap64 ((wrap64 (x1_1 + 1)) + 1)) + 1)) + 1)) + 1)) + 1)) + 1)) + 1)) + 1)) + 1)) (wrap64 (x5_1 + 1)))))) = some (r1, r2) := by first | (rw [hy129]; with_reducible exact H) | (have H2_ := (Option.bind_some _ _).symm.trans H; rw [hy129]; with_reducible exact H2_) | (have H2_ := (Option.bind_some _ _).symm.trans H; with_reducible exact H2_) | with_reducible exact H | (rw [hy129]; exact H) | exact H
          have Ny129 := Aside0.mk hy129
          clear hy129
          obtain ⟨y130, hy130⟩ : ∃ y_ : List (S75), y_ = (y129.set (x5_1 : Int).toNat (⟨(rd_T75 y129 x5_1).f0, (rd_T75 y129 x5_1).f1, (rd_T75 y129 x5_1).f2, (rd_T75 y129 x5_1).f3, (rd_T75 y129 x5_1).f4, (rd_T75 y129 x5_1).f5, wrap64 ((wrap64 ((wrap64 ((wrap64 ((wrap64 ((wrap64 (x1_1 + 1)) + 1)) + 1)) + 1)) + 1)) + 1), (rd_T75 y129 x5_1).f7, (rd_T75 y129 x5_1).f8, (rd_T75 y129 x5_1).f9⟩ : S75)) := ⟨_, rfl⟩
          replace H : ((some (y130.set (x5_1 : Int).toNat (⟨(rd_T75 y130 x5_1).f0, (rd_T75 y130 x5_1).f1, (rd_T75 y130 x5_1).f2, (rd_T75 y130 x5_1).f3, (rd_T75 y130 x5_1).f4, (rd_T75 y130 x5_1).f5, (rd_T75 y130 x5_1).f6, wrap64 ((wrap64 ((wrap64 ((wrap64 ((wrap64 ((wrap64 ((wrap64 (x1_1 + 1)) + 1)) + 1)) + 1)) + 1)) + 1)) + 1), (rd_T75 y130 x5_1).f8, (rd_T75 y130 x5_1).f9⟩ : S75) : List (S75))).bind fun y131 => ((some (y131.set (x5_1 : Int).toNat (⟨(rd_T75 y131 x5_1).f0, (rd_T75 y131 x5_1).f1, (rd_T75 y131 x5_1).f2, (rd_T75 y131 x5_1).f3, (rd_T75 y131 x5_1).f4, (rd_T75 y131 x5_1).f5, (rd_T75 y131 x5_1).f6, (rd_T75 y131 x5_1).f7, wrap64 ((wrap64 ((wrap64 ((wrap64 ((wrap64 ((wrap64 ((wrap64 ((wrap64 (x1_1 + 1)) + 1)) + 1)) + 1)) + 1)) + 1)) + 1)) + 1), (rd_T75 y131 x5_1).f9⟩ : S75) : List (S75))).bind fun y132 => (laws_markCallS.l0 k1 (y132.set (x5_1 : Int).toNat (⟨(rd_T75 y132 x5_1).f0, (rd_T75 y132 x5_1).f1, (rd_T75 y132 x5_1).f2, (rd_T75 y132 x5_1).f3, (rd_T75 y132 x5_1).f4, (rd_T75 y132 x5_1).f5, (rd_T75 y132 x5_1).f6, (rd_T75 y132 x5_1).f7, (rd_T75 y132 x5_1).f8, ((Int.tmod (wrap64 ((wrap64 ((wrap64 ((wrap64 ((wrap64 ((wrap64 ((wrap64 ((wrap64 ((wrap64 (x1_1 + 1)) + 1)) + 1)) + 1)) + 1)) + 1)) + 1)) + 1)) + 1)) 3) == 0)⟩ : S75)) (wrap64 ((wrap64 ((wrap64 ((wrap64 ((wrap64 ((wrap64 ((wrap64 ((wrap64 ((wrap64 ((wrap64 (x1_1 + 1)) + 1)) + 1)) + 1)) + 1)) + 1)) + 1)) + 1)) + 1)) + 1)) (wrap64 (x5_1 + 1))))) = some (r1, r2) := by first | (rw [hy130]; with_reducible exact H) | (have H2_ := (Option.bind_some _ _).symm.trans H; rw [hy130]; with_reducible exact H2_) | (have H2_ := (Option.bind_some _ _).symm.trans H; with_reducible exact H2_) | with_reducible exact H | (rw [hy130]; exact H) | exact H
          have Ny130 := Aside0.mk hy130
          clear hy130
          obtain ⟨y131, hy131⟩ : ∃ y_ : List (S75), y_ = (y130.set (x5_1 : Int).toNat (⟨(rd_T75 y130 x5_1).f0, (rd_T75 y130 x5_1).f1, (rd_T75 y130 x5_1).f2, (rd_T75 y130 x5_1).f3, (rd_T75 y130 x5_1).f4, (rd_T75 y130 x5_1).f5, (rd_T75 y130 x5_1).f6, wrap64 ((wrap64 ((wrap64 ((wrap64 ((wrap64 ((wrap64 ((wrap64 (x1_1 + 1)) + 1)) + 1)) + 1)) + 1)) + 1)) + 1), (rd_T75 y130 x5_1).f8, (rd_T75 y130 x5_1).f9⟩ : S75)) := ⟨_, rfl⟩
          replace H : ((some (y131.set (x5_1 : Int).toNat (⟨(rd_T75 y131 x5_1).f0, (rd_T75 y131 x5_1).f1, (rd_T75 y131 x5_1).f2, (rd_T75 y131 x5_1).f3, (rd_T75 y131 x5_1).f4, (rd_T75 y131 x5_1).f5, (rd_T75 y131 x5_1).f6, (rd_T75 y131 x5_1).f7, wrap64 ((wrap64 ((wrap64 ((wrap64 ((wrap64 ((wrap64 ((wrap64 ((wrap64 (x1_1 + 1)) + 1)) + 1)) + 1)) + 1)) + 1)) + 1)) + 1), (rd_T75 y131 x5_1).f9⟩ : S75) : List (S75))).bind fun y132 => (laws_markCallS.l0 k1 (y132.set (x5_1 : Int).toNat (⟨(rd_T75 y132 x5_1).f0, (rd_T75 y132 x5_1).f1, (rd_T75 y132 x5_1).f2, (rd_T75 y132 x5_1).f3, (rd_T75 y132 x5_1).f4, (rd_T75 y132 x5_1).f5, (rd_T75 y132 x5_1).f6, (rd_T75 y132 x5_1).f7, (rd_T75 y132 x5_1).f8, ((Int.tmod (wrap64 ((wrap64 ((wrap64 ((wrap64 ((wrap64 ((wrap64 ((wrap64 ((wrap64 ((wrap64 (x1_1 + 1)) + 1)) + 1)) + 1)) + 1)) + 1)) + 1)) + 1)) + 1)) 3) == 0)⟩ : S75)) (wrap64 ((wrap64 ((wrap64 ((wrap64 ((wrap64 ((wrap64 ((wrap64 ((wrap64 ((wrap64 ((wrap64 (x1_1 + 1)) + 1)) + 1)) + 1)) + 1)) + 1)) + 1)) + 1)) + 1)) + 1)) (wrap64 (x5_1 + 1)))) = some (r1, r2) := by first | (rw [hy131]; with_reducible exact H) | (have H2_ := (Option.bind_some _ _).symm.trans H; rw [hy131]; with_reducible exact H2_) | (have H2_ := (Option.bind_some _ _).symm.trans H; with_reducible exact H2_) | with_reducible exact H | (rw [hy131]; exact H) | exact H
          have Ny131 := Aside0.mk hy131
          clear hy131
          obtain ⟨y132, hy132⟩ : ∃ y_ : List (S75), y_ = (y131.set (x5_1 : Int).toNat (⟨(rd_T75 y131 x5_1).f0, (rd_T75 y131 x5_1).f1, (rd_T75 y131 x5_1).f2, (rd_T75 y131 x5_1).f3, (rd_T75 y131 x5_1).f4, (rd_T75 y131 x5_1).f5, (rd_T75 y131 x5_1).f6, (rd_T75 y131 x5_1).f7, wrap64 ((wrap64 ((wrap64 ((wrap64 ((wrap64 ((wrap64 ((wrap64 ((wrap64 (x1_1 + 1)) + 1)) + 1)) + 1)) + 1)) + 1)) + 1)) + 1), (rd_T75 y131 x5_1).f9⟩ : S75)) := ⟨_, rfl⟩
          replace H : (laws_markCallS.l0 k1 (y132.set (x5_1 : Int).toNat (⟨(rd_T75 y132 x5_1).f0, (rd_T75 y132 x5_1).f1, (rd_T75 y132 x5_1).f2, (rd_T75 y132 x5_1).f3, (rd_T75 y132 x5_1).f4, (rd_T75 y132 x5_1).f5, (rd_T75 y132 x5_1).f6, (rd_T75 y132 x5_1).f7, (rd_T75 y132 x5_1).f8, ((Int.tmod (wrap64 ((wrap64 ((wrap64 ((wrap64 ((wrap64 ((wrap64 ((wrap64 ((wrap64 ((wrap64 (x1_1 + 1)) + 1)) + 1)) + 1)) + 1)) + 1)) + 1)) + 1)) + 1)) 3) == 0)⟩ : S75)) (wrap64 ((wrap64 ((wrap64 ((wrap64 ((wrap64 ((wrap64 ((wrap64 ((wrap64 ((wrap64 ((wrap64 (x1_1 + 1)) + 1)) + 1)) + 1)) + 1)) + 1)) + 1)) + 1)) + 1)) + 1)) (wrap64 (x5_1 + 1))) = some (r1, r2) := by first | (rw [hy132]; with_reducible exact H) | (have H2_ := (Option.bind_some _ _).symm.trans H; rw [hy132]; with_reducible exact H2_) | (have H2_ := (Option.bind_some _ _).symm.trans H; with_reducible exact H2_) | with_reducible exact H | (rw [hy132]; exact H) | exact H
          have Ny132 := Aside0.mk hy132
          clear hy132
          obtain ⟨y133, hy133⟩ : ∃ y_ : List (S75), y_ = (y132.set (x5_1 : Int).toNat (⟨(rd_T75 y132 x5_1).f0, (rd_T75 y132 x5_1).f1, (rd_T75 y132 x5_1).f2, (rd_T75 y132 x5_1).f3, (rd_T75 y132 x5_1).f4, (rd_T75 y132 x5_1).f5, (rd_T75 y132 x5_1).f6, (rd_T75 y132 x5_1).f7, (rd_T75 y132 x5_1).f8, ((Int.tmod (wrap64 ((wrap64 ((wrap64 ((wrap64 ((wrap64 ((wrap64 ((wrap64 ((wrap64 ((wrap64 (x1_1 + 1)) + 1)) + 1)) + 1)) + 1)) + 1)) + 1)) + 1)) + 1)) 3) == 0)⟩ : S75)) := ⟨_, rfl⟩
          replace H : (laws_markCallS.l0 k1 y133 (wrap64 ((wrap64 ((wrap64 ((wrap64 ((wrap64 ((wrap64 ((wrap64 ((wrap64 ((wrap64 ((wrap64 (x1_1 + 1)) + 1)) + 1)) + 1)) + 1)) + 1)) + 1)) + 1)) + 1)) + 1)) (wrap64 (x5_1 + 1))) = some (r1, r2) := by first | (rw [hy133]; with_reducible exact H) | (have H2_ := (Option.bind_some _ _).symm.trans H; rw [hy133]; with_reducible exact H2_) | (have H2_ := (Option.bind_some _ _).symm.trans H; with_reducible exact H2_) | with_reducible exact H | (rw [hy133]; exact H) | exact H
          have Ny133 := Aside0.mk hy133
          clear hy133
          have H' := Aside0.mk H
          clear H
          obtain ⟨Ao15, co15, eo15⟩ := Kd.R_slice HO_0.out
          subst eo15
          have p5 : 0 ≤ (x5_1 : Int) := of_decide_eq_true (by first | (with_reducible assumption) | assumption)
          have q5 : (x5_1 : Int) < ((x0_1.length : Int) : Int) := of_decide_eq_true (by first | (with_reducible assumption) | assumption)
          obtain ⟨go5, co5, eo5, gb5, gl5, cl5, HG5⟩ := Kd.R_form HO_0.out (by omega)
          (first | cases eo5 | (injection eo5 with ea_ en_ ec_; (first | subst ea_ | (injection ea_ with ea_; subst ea_)); subst ec_; clear en_))
          have GB5 := Aside0.mk gb5
          have GG5 := Aside0.mk HG5
          clear gb5 gl5 HG5
          have HMgo5 := Aside0.mk (show (P0_ go5 ∨ w.heap.size ≤ go5) from (HO_0.out.1 _ rfl))
          obtain ⟨ce5, hcl5, hM5, hcc5, hfr5⟩ := Kd.R_elem HO_0.out z75 (x5_1 : Int) p5 q5
          obtain rfl := k75_openM hM5
          have hx5_0 : wr.cell? ⟨go5, (x5_1 : Int).toNat * 10, none⟩ = some (.int .i64 ((rd_T75 x0_1 x5_1).f0)) := hcc5 0 _ rfl
          have hx5_1 : wr.cell? ⟨go5, (x5_1 : Int).toNat * 10 + 1, none⟩ = some (.int .i64 ((rd_T75 x0_1 x5_1).f1)) := hcc5 1 _ rfl
          have hx5_2 : wr.cell? ⟨go5, (x5_1 : Int).toNat * 10 + 2, none⟩ = some (.int .i64 ((rd_T75 x0_1 x5_1).f2)) := hcc5 2 _ rfl
          have hx5_3 : wr.cell? ⟨go5, (x5_1 : Int).toNat * 10 + 3, none⟩ = some (.int .i64 ((rd_T75 x0_1 x5_1).f3)) := hcc5 3 _ rfl
          have hx5_4 : wr.cell? ⟨go5, (x5_1 : Int).toNat * 10 + 4, none⟩ = some (.int .i64 ((rd_T75 x0_1 x5_1).f4)) := hcc5 4 _ rfl
          have hx5_5 : wr.cell? ⟨go5, (x5_1 : Int).toNat * 10 + 5, none⟩ = some (.int .i64 ((rd_T75 x0_1 x5_1).f5)) := hcc5 5 _ rfl
          have hx5_6 : wr.cell? ⟨go5, (x5_1 : Int).toNat * 10 + 6, none⟩ = some (.int .i64 ((rd_T75 x0_1 x5_1).f6)) := hcc5 6 _ rfl
          have hx5_7 : wr.cell? ⟨go5, (x5_1 : Int).toNat * 10 + 7, none⟩ = some (.int .i64 ((rd_T75 x0_1 x5_1).f7)) := hcc5 7 _ rfl
          have hx5_8 : wr.cell? ⟨go5, (x5_1 : Int).toNat * 10 + 8, none⟩ = some (.int .i64 ((rd_T75 x0_1 x5_1).f8)) := hcc5 8 _ rfl
          have hx5_9 : wr.cell? ⟨go5, (x5_1 : Int).toNat * 10 + 9, none⟩ = some (.bool ((rd_T75 x0_1 x5_1).f9)) := hcc5 9 _ rfl
          have hf5_0 : wr.frozen? ⟨go5, (x5_1 : Int).toNat * 10, none⟩ = false := hfr5 0
          have hf5_1 : wr.frozen? ⟨go5, (x5_1 : Int).toNat * 10 + 1, none⟩ = false := hfr5 1
          have hf5_2 : wr.frozen? ⟨go5, (x5_1 : Int).toNat * 10 + 2, none⟩ = false := hfr5 2
          have hf5_3 : wr.frozen? ⟨go5, (x5_1 : Int).toNat * 10 + 3, none⟩ = false := hfr5 3
          have hf5_4 : wr.frozen? ⟨go5, (x5_1 : Int).toNat * 10 + 4, none⟩ = false := hfr5 4
          have hf5_5 : wr.frozen? ⟨go5, (x5_1 : Int).toNat * 10 + 5, none⟩ = false := hfr5 5
          have hf5_6 : wr.frozen? ⟨go5, (x5_1 : Int).toNat * 10 + 6, none⟩ = false := hfr5 6
          have hf5_7 : wr.frozen? ⟨go5, (x5_1 : Int).toNat * 10 + 7, none⟩ = false := hfr5 7
          have hf5_8 : wr.frozen? ⟨go5, (x5_1 : Int).toNat * 10 + 8, none⟩ = false := hfr5 8
          have hf5_9 : wr.frozen? ⟨go5, (x5_1 : Int).toNat * 10 + 9, none⟩ = false := hfr5 9
          clear hcl5 hcc5 hfr5 hM5
          replace p5 := eq_true p5
          replace q5 := eq_true q5
          have HX16 := Aside0.mk (show Kd.R k75 75 wr w0.heap.size (fun k_ => (P0_ k_ ∨ w.heap.size ≤ k_)) (.slice (some ⟨go5, 0, none⟩) x0_1.length co15) x0_1 from (by (with_reducible repeat (first | apply Kd.R_alloc | apply Kd.R_drewN | apply Kd.R_drew)); exact HO_0.out))
          obtain ⟨ce16, hcl16, hM16, hcc16, hfr16⟩ := Kd.R_elem HX16.out z75 (x5_1 : Int) (of_decide_eq_true (by first | (with_reducible assumption) | assumption)) (by have h_ : (x5_1 : Int) < ((x0_1.length : Int) : Int) := of_decide_eq_true (by first | (with_reducible assumption) | assumption); first | exact h_ | (have e_ := (Kd.R_reads' HO_0.out).1; omega) | simpa using h_)
          obtain rfl := k75_openM hM16
          have HP16 := Kd.R_seg HX16.out (x5_1 : Int) (of_decide_eq_true (by first | (with_reducible assumption) | assumption)) (by have h_ : (x5_1 : Int) < ((x0_1.length : Int) : Int) := of_decide_eq_true (by first | (with_reducible assumption) | assumption); first | exact h_ | (have e_ := (Kd.R_reads' HO_0.out).1; omega) | simpa using h_) (seg := [.int .i64 x1_1]) (j := 0) hcl16 hcc16 (show 1 ≤ 10 from by decide) (x' := (⟨x1_1, (rd_T75 x0_1 x5_1).f1, (rd_T75 x0_1 x5_1).f2, (rd_T75 x0_1 x5_1).f3, (rd_T75 x0_1 x5_1).f4, (rd_T75 x0_1 x5_1).f5, (rd_T75 x0_1 x5_1).f6, (rd_T75 x0_1 x5_1).f7, (rd_T75 x0_1 x5_1).f8, (rd_T75 x0_1 x5_1).f9⟩ : S75)) (k75_mkM _ _ _ (⟨x1_1, (rd_T75 x0_1 x5_1).f1, (rd_T75 x0_1 x5_1).f2, (rd_T75 x0_1 x5_1).f3, (rd_T75 x0_1 x5_1).f4, (rd_T75 x0_1 x5_1).f5, (rd_T75 x0_1 x5_1).f6, (rd_T75 x0_1 x5_1).f7, (rd_T75 x0_1 x5_1).f8, (rd_T75 x0_1 x5_1).f9⟩ : S75) ) (fun _ hk => hk)
          have hx16_0 := hcc16 0 _ rfl
          (try simp only [show (k75).sz = 10 from rfl, Nat.mul_one, Nat.add_zero] at hx16_0)
          have hf16_0 := hfr16 0
          (try simp only [show (k75).sz = 10 from rfl, Nat.mul_one, Nat.add_zero] at hf16_0)
          clear hcl16 hcc16 hfr16 hM16
          go_wp2_with (first | ((with_reducible refine gate_store (t := 3) (p := 16) rfl ?_); refine store_event (t := 3) (p := 16) (v := ?vo_w17) (w1 := (wr.setCell ⟨go5, (x5_1 : Int).toNat * 10, none⟩ (.int .i64 x1_1))) ?hg ?ho ?hn ?hr ?_; (case ho => rfl); (case hg => rfl); (case hn => rfl); (case hr => first | (go_simp; done) | (go_simp; rfl)); intro w17 hw; have hg : wr.grownBy w17 (some go5) := (by rw [hw]; exact HP16.2); have hp_ : Kd.R k75 75 w17 w0.heap.size (fun k_ => (P0_ k_ ∨ w.heap.size ≤ k_)) (.slice (some ⟨go5, 0, none⟩) x0_1.length co15) y124 := (by rw [hw, Ny124.out]; exact HP16.1); clear HP16; have n0_ := Aside0.mk (hp_); have n1_ := Aside0.mk ((by rw [hw]; exact below_set (HB.out) GB5.out : Below w0.heap.size w0 w17)); have n2_ := Aside0.mk (Kept.of_grown (S := (fun k_ => P0_ k_)) hg (by repeat (first | (with_reducible first | exact HK.out | apply Kept.alloc | apply Kept.drewN | apply Kept.drew) | exact HK.out)) (fun k_ e_ => (HO_0.out.1 k_ e_))); clear HO_0; clear HB; clear HK; have HO_0 := n0_; have HB := n1_; have HK := n2_; clear n0_ n1_ n2_; clear hg hw hp_; have p6 : 0 ≤ (x5_1 : Int) := of_decide_eq_true (by first | (with_reducible assumption) | assumption); have q6 : (x5_1 : Int) < ((x0_1.length : Int) : Int) := of_decide_eq_true (by first | (with_reducible assumption) | assumption); obtain ⟨ce6, hcl6, hM6, hcc6, hfr6⟩ := Kd.R_elem HO_0.out z75 (x5_1 : Int) p6 q6; obtain rfl := k75_openM hM6; have hx6_0 : w17.cell? ⟨go5, (x5_1 : Int).toNat * 10, none⟩ = some (.int .i64 ((rd_T75 y124 x5_1).f0)) := hcc6 0 _ rfl; have hx6_1 : w17.cell? ⟨go5, (x5_1 : Int).toNat * 10 + 1, none⟩ = some (.int .i64 ((rd_T75 y124 x5_1).f1)) := hcc6 1 _ rfl; have hx6_2 : w17.cell? ⟨go5, (x5_1 : Int).toNat * 10 + 2, none⟩ = some (.int .i64 ((rd_T75 y124 x5_1).f2)) := hcc6 2 _ rfl; have hx6_3 : w17.cell? ⟨go5, (x5_1 : Int).toNat * 10 + 3, none⟩ = some (.int .i64 ((rd_T75 y124 x5_1).f3)) := hcc6 3 _ rfl; have hx6_4 : w17.cell? ⟨go5, (x5_1 : Int).toNat * 10 + 4, none⟩ = some (.int .i64 ((rd_T75 y124 x5_1).f4)) := hcc6 4 _ rfl; have hx6_5 : w17.cell? ⟨go5, (x5_1 : Int).toNat * 10 + 5, none⟩ = some (.int .i64 ((rd_T75 y124 x5_1).f5)) := hcc6 5 _ rfl; have hx6_6 : w17.cell? ⟨go5, (x5_1 : Int).toNat * 10 + 6, none⟩ = some (.int .i64 ((rd_T75 y124 x5_1).f6)) := hcc6 6 _ rfl; have hx6_7 : w17.cell? ⟨go5, (x5_1 : Int).toNat * 10 + 7, none⟩ = some (.int .i64 ((rd_T75 y124 x5_1).f7)) := hcc6 7 _ rfl; have hx6_8 : w17.cell? ⟨go5, (x5_1 : Int).toNat * 10 + 8, none⟩ = some (.int .i64 ((rd_T75 y124 x5_1).f8)) := hcc6 8 _ rfl; have hx6_9 : w17.cell? ⟨go5, (x5_1 : Int).toNat * 10 + 9, none⟩ = some (.bool ((rd_T75 y124 x5_1).f9)) := hcc6 9 _ rfl; have hf6_0 : w17.frozen? ⟨go5, (x5_1 : Int).toNat * 10, none⟩ = false := hfr6 0; have hf6_1 : w17.frozen? ⟨go5, (x5_1 : Int).toNat * 10 + 1, none⟩ = false := hfr6 1; have hf6_2 : w17.frozen? ⟨go5, (x5_1 : Int).toNat * 10 + 2, none⟩ = false := hfr6 2; have hf6_3 : w17.frozen? ⟨go5, (x5_1 : Int).toNat * 10 + 3, none⟩ = false := hfr6 3; have hf6_4 : w17.frozen? ⟨go5, (x5_1 : Int).toNat * 10 + 4, none⟩ = false := hfr6 4; have hf6_5 : w17.frozen? ⟨go5, (x5_1 : Int).toNat * 10 + 5, none⟩ = false := hfr6 5; have hf6_6 : w17.frozen? ⟨go5, (x5_1 : Int).toNat * 10 + 6, none⟩ = false := hfr6 6; have hf6_7 : w17.frozen? ⟨go5, (x5_1 : Int).toNat * 10 + 7, none⟩ = false := hfr6 7; have hf6_8 : w17.frozen? ⟨go5, (x5_1 : Int).toNat * 10 + 8, none⟩ = false := hfr6 8; have hf6_9 : w17.frozen? ⟨go5, (x5_1 : Int).toNat * 10 + 9, none⟩ = false := hfr6 9; clear hcl6 hcc6 hfr6 hM6; replace p6 := eq_true p6; replace q6 := eq_true q6; have HX18 := Aside0.mk (show Kd.R k75 75 w17 w0.heap.size (fun k_ => (P0_ k_ ∨ w.heap.size ≤ k_)) (.slice (some ⟨go5, 0, none⟩) x0_1.length co15) y124 from (by (with_reducible repeat (first | apply Kd.R_alloc | apply Kd.R_drewN | apply Kd.R_drew)); exact HO_0.out)); obtain ⟨ce18, hcl18, hM18, hcc18, hfr18⟩ := Kd.R_elem HX18.out z75 (x5_1 : Int) (of_decide_eq_true (by first | (with_reducible assumption) | assumption)) (by have h_ : (x5_1 : Int) < ((x0_1.length : Int) : Int) := of_decide_eq_true (by first | (with_reducible assumption) | assumption); first | exact h_ | (have e_ := (Kd.R_reads' HO_0.out).1; omega) | simpa using h_); obtain rfl := k75_openM hM18; have HP18 := Kd.R_seg HX18.out (x5_1 : Int) (of_decide_eq_true (by first | (with_reducible assumption) | assumption)) (by have h_ : (x5_1 : Int) < ((x0_1.length : Int) : Int) := of_decide_eq_true (by first | (with_reducible assumption) | assumption); first | exact h_ | (have e_ := (Kd.R_reads' HO_0.out).1; omega) | simpa using h_) (seg := [.int .i64 (wrap64 (x1_1 + 1))]) (j := 1) hcl18 hcc18 (show 2 ≤ 10 from by decide) (x' := (⟨(rd_T75 y124 x5_1).f0, wrap64 (x1_1 + 1), (rd_T75 y124 x5_1).f2, (rd_T75 y124 x5_1).f3, (rd_T75 y124 x5_1).f4, (rd_T75 y124 x5_1).f5, (rd_T75 y124 x5_1).f6, (rd_T75 y124 x5_1).f7, (rd_T75 y124 x5_1).f8, (rd_T75 y124 x5_1).f9⟩ : S75)) (k75_mkM _ _ _ (⟨(rd_T75 y124 x5_1).f0, wrap64 (x1_1 + 1), (rd_T75 y124 x5_1).f2, (rd_T75 y124 x5_1).f3, (rd_T75 y124 x5_1).f4, (rd_T75 y124 x5_1).f5, (rd_T75 y124 x5_1).f6, (rd_T75 y124 x5_1).f7, (rd_T75 y124 x5_1).f8, (rd_T75 y124 x5_1).f9⟩ : S75) ) (fun _ hk => hk); have hx18_1 := hcc18 1 _ rfl; (try simp only [show (k75).sz = 10 from rfl, Nat.mul_one, Nat.add_zero] at hx18_1); have hf18_1 := hfr18 1; (try simp only [show (k75).sz = 10 from rfl, Nat.mul_one, Nat.add_zero] at hf18_1); clear hcl18 hcc18 hfr18 hM18) | ((with_reducible refine gate_store (t := 3) (p := 23) rfl ?_); refine store_event (t := 3) (p := 23) (v := ?vo_w19) (w1 := (w17.setCell ⟨go5, (x5_1 : Int).toNat * 10 + 1, none⟩ (.int .i64 (wrap64 (x1_1 + 1))))) ?hg ?ho ?hn ?hr ?_; (case ho => rfl); (case hg => rfl); (case hn => rfl); (case hr => first | (go_simp; done) | (go_simp; rfl)); intro w19 hw; have hg : w17.grownBy w19 (some go5) := (by rw [hw]; exact HP18.2); have hp_ : Kd.R k75 75 w19 w0.heap.size (fun k_ => (P0_ k_ ∨ w.heap.size ≤ k_)) (.slice (some ⟨go5, 0, none⟩) x0_1.length co15) y125 := (by rw [hw, Ny125.out]; exact HP18.1); clear HP18; have n0_ := Aside0.mk (hp_); have n1_ := Aside0.mk ((by rw [hw]; exact below_set (HB.out) GB5.out : Below w0.heap.size w0 w19)); have n2_ := Aside0.mk (Kept.of_grown (S := (fun k_ => P0_ k_)) hg (by repeat (first | (with_reducible first | exact HK.out | apply Kept.alloc | apply Kept.drewN | apply Kept.drew) | exact HK.out)) (fun k_ e_ => (HO_0.out.1 k_ e_))); clear HO_0; clear HB; clear HK; have HO_0 := n0_; have HB := n1_; have HK := n2_; clear n0_ n1_ n2_; clear hg hw hp_; have p7 : 0 ≤ (x5_1 : Int) := of_decide_eq_true (by first | (with_reducible assumption) | assumption); have q7 : (x5_1 : Int) < ((x0_1.length : Int) : Int) := of_decide_eq_true (by first | (with_reducible assumption) | assumption); obtain ⟨ce7, hcl7, hM7, hcc7, hfr7⟩ := Kd.R_elem HO_0.out z75 (x5_1 : Int) p7 q7; obtain rfl := k75_openM hM7; have hx7_0 : w19.cell? ⟨go5, (x5_1 : Int).toNat * 10, none⟩ = some (.int .i64 ((rd_T75 y125 x5_1).f0)) := hcc7 0 _ rfl; have hx7_1 : w19.cell? ⟨go5, (x5_1 : Int).toNat * 10 + 1, none⟩ = some (.int .i64 ((rd_T75 y125 x5_1).f1)) := hcc7 1 _ rfl; have hx7_2 : w19.cell? ⟨go5, (x5_1 : Int).toNat * 10 + 2, none⟩ = some (.int .i64 ((rd_T75 y125 x5_1).f2)) := hcc7 2 _ rfl; have hx7_3 : w19.cell? ⟨go5, (x5_1 : Int).toNat * 10 + 3, none⟩ = some (.int .i64 ((rd_T75 y125 x5_1).f3)) := hcc7 3 _ rfl; have hx7_4 : w19.cell? ⟨go5, (x5_1 : Int).toNat * 10 + 4, none⟩ = some (.int .i64 ((rd_T75 y125 x5_1).f4)) := hcc7 4 _ rfl; have hx7_5 : w19.cell? ⟨go5, (x5_1 : Int).toNat * 10 + 5, none⟩ = some (.int .i64 ((rd_T75 y125 x5_1).f5)) := hcc7 5 _ rfl; have hx7_6 : w19.cell? ⟨go5, (x5_1 : Int).toNat * 10 + 6, none⟩ = some (.int .i64 ((rd_T75 y125 x5_1).f6)) := hcc7 6 _ rfl; have hx7_7 : w19.cell? ⟨go5, (x5_1 : Int).toNat * 10 + 7, none⟩ = some (.int .i64 ((rd_T75 y125 x5_1).f7)) := hcc7 7 _ rfl; have hx7_8 : w19.cell? ⟨go5, (x5_1 : Int).toNat * 10 + 8, none⟩ = some (.int .i64 ((rd_T75 y125 x5_1).f8)) := hcc7 8 _ rfl; have hx7_9 : w19.cell? ⟨go5, (x5_1 : Int).toNat * 10 + 9, none⟩ = some (.bool ((rd_T75 y125 x5_1).f9)) := hcc7 9 _ rfl; have hf7_0 : w19.frozen? ⟨go5, (x5_1 : Int).toNat * 10, none⟩ = false := hfr7 0; have hf7_1 : w19.frozen? ⟨go5, (x5_1 : Int).toNat * 10 + 1, none⟩ = false := hfr7 1; have hf7_2 : w19.frozen? ⟨go5, (x5_1 : Int).toNat * 10 + 2, none⟩ = false := hfr7 2; have hf7_3 : w19.frozen? ⟨go5, (x5_1 : Int).toNat * 10 + 3, none⟩ = false := hfr7 3; have hf7_4 : w19.frozen? ⟨go5, (x5_1 : Int).toNat * 10 + 4, none⟩ = false := hfr7 4; have hf7_5 : w19.frozen? ⟨go5, (x5_1 : Int).toNat * 10 + 5, none⟩ = false := hfr7 5; have hf7_6 : w19.frozen? ⟨go5, (x5_1 : Int).toNat * 10 + 6, none⟩ = false := hfr7 6; have hf7_7 : w19.frozen? ⟨go5, (x5_1 : Int).toNat * 10 + 7, none⟩ = false := hfr7 7; have hf7_8 : w19.frozen? ⟨go5, (x5_1 : Int).toNat * 10 + 8, none⟩ = false := hfr7 8; have hf7_9 : w19.frozen? ⟨go5, (x5_1 : Int).toNat * 10 + 9, none⟩ = false := hfr7 9; clear hcl7 hcc7 hfr7 hM7; replace p7 := eq_true p7; replace q7 := eq_true q7; have HX20 := Aside0.mk (show Kd.R k75 75 w19 w0.heap.size (fun k_ => (P0_ k_ ∨ w.heap.size ≤ k_)) (.slice (some ⟨go5, 0, none⟩) x0_1.length co15) y125 from (by (with_reducible repeat (first | apply Kd.R_alloc | apply Kd.R_drewN | apply Kd.R_drew)); exact HO_0.out)); obtain ⟨ce20, hcl20, hM20, hcc20, hfr20⟩ := Kd.R_elem HX20.out z75 (x5_1 : Int) (of_decide_eq_true (by first | (with_reducible assumption) | assumption)) (by have h_ : (x5_1 : Int) < ((x0_1.length : Int) : Int) := of_decide_eq_true (by first | (with_reducible assumption) | assumption); first | exact h_ | (have e_ := (Kd.R_reads' HO_0.out).1; omega) | simpa using h_); obtain rfl := k75_openM hM20; have HP20 := Kd.R_seg HX20.out (x5_1 : Int) (of_decide_eq_true (by first | (with_reducible assumption) | assumption)) (by have h_ : (x5_1 : Int) < ((x0_1.length : Int) : Int) := of_decide_eq_true (by first | (with_reducible assumption) | assumption); first | exact h_ | (have e_ := (Kd.R_reads' HO_0.out).1; omega) | simpa using h_) (seg := [.int .i64 (wrap64 ((wrap64 (x1_1 + 1)) + 1))]) (j := 2) hcl20 hcc20 (show 3 ≤ 10 from by decide) (x' := (⟨(rd_T75 y125 x5_1).f0, (rd_T75 y125 x5_1).f1, wrap64 ((wrap64 (x1_1 + 1)) + 1), (rd_T75 y125 x5_1).f3, (rd_T75 y125 x5_1).f4, (rd_T75 y125 x5_1).f5, (rd_T75 y125 x5_1).f6, (rd_T75 y125 x5_1).f7, (rd_T75 y125 x5_1).f8, (rd_T75 y125 x5_1).f9⟩ : S75)) (k75_mkM _ _ _ (⟨(rd_T75 y125 x5_1).f0, (rd_T75 y125 x5_1).f1, wrap64 ((wrap64 (x1_1 + 1)) + 1), (rd_T75 y125 x5_1).f3, (rd_T75 y125 x5_1).f4, (rd_T75 y125 x5_1).f5, (rd_T75 y125 x5_1).f6, (rd_T75 y125 x5_1).f7, (rd_T75 y125 x5_1).f8, (rd_T75 y125 x5_1).f9⟩ : S75) ) (fun _ hk => hk); have hx20_2 := hcc20 2 _ rfl; (try simp only [show (k75).sz = 10 from rfl, Nat.mul_one, Nat.add_zero] at hx20_2); have hf20_2 := hfr20 2; (try simp only [show (k75).sz = 10 from rfl, Nat.mul_one, Nat.add_zero] at hf20_2); clear hcl20 hcc20 hfr20 hM20) | ((with_reducible refine gate_store (t := 3) (p := 30) rfl ?_); refine store_event (t := 3) (p := 30) (v := ?vo_w21) (w1 := (w19.setCell ⟨go5, (x5_1 : Int).toNat * 10 + 2, none⟩ (.int .i64 (wrap64 ((wrap64 (x1_1 + 1)) + 1))))) ?hg ?ho ?hn ?hr ?_; (case ho => rfl); (case hg => rfl); (case hn => rfl); (case hr => first | (go_simp; done) | (go_simp; rfl)); intro w21 hw; have hg : w19.grownBy w21 (some go5) := (by rw [hw]; exact HP20.2); have hp_ : Kd.R k75 75 w21 w0.heap.size (fun k_ => (P0_ k_ ∨ w.heap.size ≤ k_)) (.slice (some ⟨go5, 0, none⟩) x0_1.length co15) y126 := (by rw [hw, Ny126.out]; exact HP20.1); clear HP20; have n0_ := Aside0.mk (hp_); have n1_ := Aside0.mk ((by rw [hw]; exact below_set (HB.out) GB5.out : Below w0.heap.size w0 w21)); have n2_ := Aside0.mk (Kept.of_grown (S := (fun k_ => P0_ k_)) hg (by repeat (first | (with_reducible first | exact HK.out | apply Kept.alloc | apply Kept.drewN | apply Kept.drew) | exact HK.out)) (fun k_ e_ => (HO_0.out.1 k_ e_))); clear HO_0; clear HB; clear HK; have HO_0 := n0_; have HB := n1_; have HK := n2_; clear n0_ n1_ n2_; clear hg hw hp_; have p8 : 0 ≤ (x5_1 : Int) := of_decide_eq_true (by first | (with_reducible assumption) | assumption); have q8 : (x5_1 : Int) < ((x0_1.length : Int) : Int) := of_decide_eq_true (by first | (with_reducible assumption) | assumption); obtain ⟨ce8, hcl8, hM8, hcc8, hfr8⟩ := Kd.R_elem HO_0.out z75 (x5_1 : Int) p8 q8; obtain rfl := k75_openM hM8; have hx8_0 : w21.cell? ⟨go5, (x5_1 : Int).toNat * 10, none⟩ = some (.int .i64 ((rd_T75 y126 x5_1).f0)) := hcc8 0 _ rfl; have hx8_1 : w21.cell? ⟨go5, (x5_1 : Int).toNat * 10 + 1, none⟩ = some (.int .i64 ((rd_T75 y126 x5_1).f1)) := hcc8 1 _ rfl; have hx8_2 : w21.cell? ⟨go5, (x5_1 : Int).toNat * 10 + 2, none⟩ = some (.int .i64 ((rd_T75 y126 x5_1).f2)) := hcc8 2 _ rfl; have hx8_3 : w21.cell? ⟨go5, (x5_1 : Int).toNat * 10 + 3, none⟩ = some (.int .i64 ((rd_T75 y126 x5_1).f3)) := hcc8 3 _ rfl; have hx8_4 : w21.cell? ⟨go5, (x5_1 : Int).toNat * 10 + 4, none⟩ = some (.int .i64 ((rd_T75 y126 x5_1).f4)) := hcc8 4 _ rfl; have hx8_5 : w21.cell? ⟨go5, (x5_1 : Int).toNat * 10 + 5, none⟩ = some (.int .i64 ((rd_T75 y126 x5_1).f5)) := hcc8 5 _ rfl; have hx8_6 : w21.cell? ⟨go5, (x5_1 : Int).toNat * 10 + 6, none⟩ = some (.int .i64 ((rd_T75 y126 x5_1).f6)) := hcc8 6 _ rfl; have hx8_7 : w21.cell? ⟨go5, (x5_1 : Int).toNat * 10 + 7, none⟩ = some (.int .i64 ((rd_T75 y126 x5_1).f7)) := hcc8 7 _ rfl; have hx8_8 : w21.cell? ⟨go5, (x5_1 : Int).toNat * 10 + 8, none⟩ = some (.int .i64 ((rd_T75 y126 x5_1).f8)) := hcc8 8 _ rfl; have hx8_9 : w21.cell? ⟨go5, (x5_1 : Int).toNat * 10 + 9, none⟩ = some (.bool ((rd_T75 y126 x5_1).f9)) := hcc8 9 _ rfl; have hf8_0 : w21.frozen? ⟨go5, (x5_1 : Int).toNat * 10, none⟩ = false := hfr8 0; have hf8_1 : w21.frozen? ⟨go5, (x5_1 : Int).toNat * 10 + 1, none⟩ = false := hfr8 1; have hf8_2 : w21.frozen? ⟨go5, (x5_1 : Int).toNat * 10 + 2, none⟩ = false := hfr8 2; have hf8_3 : w21.frozen? ⟨go5, (x5_1 : Int).toNat * 10 + 3, none⟩ = false := hfr8 3; have hf8_4 : w21.frozen? ⟨go5, (x5_1 : Int).toNat * 10 + 4, none⟩ = false := hfr8 4; have hf8_5 : w21.frozen? ⟨go5, (x5_1 : Int).toNat * 10 + 5, none⟩ = false := hfr8 5; have hf8_6 : w21.frozen? ⟨go5, (x5_1 : Int).toNat * 10 + 6, none⟩ = false := hfr8 6; have hf8_7 : w21.frozen? ⟨go5, (x5_1 : Int).toNat * 10 + 7, none⟩ = false := hfr8 7; have hf8_8 : w21.frozen? ⟨go5, (x5_1 : Int).toNat * 10 + 8, none⟩ = false := hfr8 8; have hf8_9 : w21.frozen? ⟨go5, (x5_1 : Int).toNat * 10 + 9, none⟩ = false := hfr8 9; clear hcl8 hcc8 hfr8 hM8; replace p8 := eq_true p8; replace q8 := eq_true q8; have HX22 := Aside0.mk (show Kd.R k75 75 w21 w0.heap.size (fun k_ => (P0_ k_ ∨ w.heap.size ≤ k_)) (.slice (some ⟨go5, 0, none⟩) x0_1.length co15) y126 from (by (with_reducible repeat (first | apply Kd.R_alloc | apply Kd.R_drewN | apply Kd.R_drew)); exact HO_0.out)); obtain ⟨ce22, hcl22, hM22, hcc22, hfr22⟩ := Kd.R_elem HX22.out z75 (x5_1 : Int) (of_decide_eq_true (by first | (with_reducible assumption) | assumption)) (by have h_ : (x5_1 : Int) < ((x0_1.length : Int) : Int) := of_decide_eq_true (by first | (with_reducible assumption) | assumption); first | exact h_ | (have e_ := (Kd.R_reads' HO_0.out).1; omega) | simpa using h_); obtain rfl := k75_openM hM22; have HP22 := Kd.R_seg HX22.out (x5_1 : Int) (of_decide_eq_true (by first | (with_reducible assumption) | assumption)) (by have h_ : (x5_1 : Int) < ((x0_1.length : Int) : Int) := of_decide_eq_true (by first | (with_reducible assumption) | assumption); first | exact h_ | (have e_ := (Kd.R_reads' HO_0.out).1; omega) | simpa using h_) (seg := [.int .i64 (wrap64 ((wrap64 ((wrap64 (x1_1 + 1)) + 1)) + 1))]) (j := 3) hcl22 hcc22 (show 4 ≤ 10 from by decide) (x' := (⟨(rd_T75 y126 x5_1).f0, (rd_T75 y126 x5_1).f1, (rd_T75 y126 x5_1).f2, wrap64 ((wrap64 ((wrap64 (x1_1 + 1)) + 1)) + 1), (rd_T75 y126 x5_1).f4, (rd_T75 y126 x5_1).f5, (rd_T75 y126 x5_1).f6, (rd_T75 y126 x5_1).f7, (rd_T75 y126 x5_1).f8, (rd_T75 y126 x5_1).f9⟩ : S75)) (k75_mkM _ _ _ (⟨(rd_T75 y126 x5_1).f0, (rd_T75 y126 x5_1).f1, (rd_T75 y126 x5_1).f2, wrap64 ((wrap64 ((wrap64 (x1_1 + 1)) + 1)) + 1), (rd_T75 y126 x5_1).f4, (rd_T75 y126 x5_1).f5, (rd_T75 y126 x5_1).f6, (rd_T75 y126 x5_1).f7, (rd_T75 y126 x5_1).f8, (rd_T75 y126 x5_1).f9⟩ : S75) ) (fun _ hk => hk); have hx22_3 := hcc22 3 _ rfl; (try simp only [show (k75).sz = 10 from rfl, Nat.mul_one, Nat.add_zero] at hx22_3); have hf22_3 := hfr22 3; (try simp only [show (k75).sz = 10 from rfl, Nat.mul_one, Nat.add_zero] at hf22_3); clear hcl22 hcc22 hfr22 hM22) | ((with_reducible refine gate_store (t := 3) (p := 37) rfl ?_); refine store_event (t := 3) (p := 37) (v := ?vo_w23) (w1 := (w21.setCell ⟨go5, (x5_1 : Int).toNat * 10 + 3, none⟩ (.int .i64 (wrap64 ((wrap64 ((wrap64 (x1_1 + 1)) + 1)) + 1))))) ?hg ?ho ?hn ?hr ?_; (case ho => rfl); (case hg => rfl); (case hn => rfl); (case hr => first | (go_simp; done) | (go_simp; rfl)); intro w23 hw; have hg : w21.grownBy w23 (some go5) := (by rw [hw]; exact HP22.2); have hp_ : Kd.R k75 75 w23 w0.heap.size (fun k_ => (P0_ k_ ∨ w.heap.size ≤ k_)) (.slice (some ⟨go5, 0, none⟩) x0_1.length co15) y127 := (by rw [hw, Ny127.out]; exact HP22.1); clear HP22; have n0_ := Aside0.mk (hp_); have n1_ := Aside0.mk ((by rw [hw]; exact below_set (HB.out) GB5.out : Below w0.heap.size w0 w23)); have n2_ := Aside0.mk (Kept.of_grown (S := (fun k_ => P0_ k_)) hg (by repeat (first | (with_reducible first | exact HK.out | apply Kept.alloc | apply Kept.drewN | apply Kept.drew) | exact HK.out)) (fun k_ e_ => (HO_0.out.1 k_ e_))); clear HO_0; clear HB; clear HK; have HO_0 := n0_; have HB := n1_; have HK := n2_; clear n0_ n1_ n2_; clear hg hw hp_; have p9 : 0 ≤ (x5_1 : Int) := of_decide_eq_true (by first | (with_reducible assumption) | assumption); have q9 : (x5_1 : Int) < ((x0_1.length : Int) : Int) := of_decide_eq_true (by first | (with_reducible assumption) | assumption); obtain ⟨ce9, hcl9, hM9, hcc9, hfr9⟩ := Kd.R_elem HO_0.out z75 (x5_1 : Int) p9 q9; obtain rfl := k75_openM hM9; have hx9_0 : w23.cell? ⟨go5, (x5_1 : Int).toNat * 10, none⟩ = some (.int .i64 ((rd_T75 y127 x5_1).f0)) := hcc9 0 _ rfl; have hx9_1 : w23.cell? ⟨go5, (x5_1 : Int).toNat * 10 + 1, none⟩ = some (.int .i64 ((rd_T75 y127 x5_1).f1)) := hcc9 1 _ rfl; have hx9_2 : w23.cell? ⟨go5, (x5_1 : Int).toNat * 10 + 2, none⟩ = some (.int .i64 ((rd_T75 y127 x5_1).f2)) := hcc9 2 _ rfl; have hx9_3 : w23.cell? ⟨go5, (x5_1 : Int).toNat * 10 + 3, none⟩ = some (.int .i64 ((rd_T75 y127 x5_1).f3)) := hcc9 3 _ rfl; have hx9_4 : w23.cell? ⟨go5, (x5_1 : Int).toNat * 10 + 4, none⟩ = some (.int .i64 ((rd_T75 y127 x5_1).f4)) := hcc9 4 _ rfl; have hx9_5 : w23.cell? ⟨go5, (x5_1 : Int).toNat * 10 + 5, none⟩ = some (.int .i64 ((rd_T75 y127 x5_1).f5)) := hcc9 5 _ rfl; have hx9_6 : w23.cell? ⟨go5, (x5_1 : Int).toNat * 10 + 6, none⟩ = some (.int .i64 ((rd_T75 y127 x5_1).f6)) := hcc9 6 _ rfl; have hx9_7 : w23.cell? ⟨go5, (x5_1 : Int).toNat * 10 + 7, none⟩ = some (.int .i64 ((rd_T75 y127 x5_1).f7)) := hcc9 7 _ rfl; have hx9_8 : w23.cell? ⟨go5, (x5_1 : Int).toNat * 10 + 8, none⟩ = some (.int .i64 ((rd_T75 y127 x5_1).f8)) := hcc9 8 _ rfl; have hx9_9 : w23.cell? ⟨go5, (x5_1 : Int).toNat * 10 + 9, none⟩ = some (.bool ((rd_T75 y127 x5_1).f9)) := hcc9 9 _ rfl; have hf9_0 : w23.frozen? ⟨go5, (x5_1 : Int).toNat * 10, none⟩ = false := hfr9 0; have hf9_1 : w23.frozen? ⟨go5, (x5_1 : Int).toNat * 10 + 1, none⟩ = false := hfr9 1; have hf9_2 : w23.frozen? ⟨go5, (x5_1 : Int).toNat * 10 + 2, none⟩ = false := hfr9 2; have hf9_3 : w23.frozen? ⟨go5, (x5_1 : Int).toNat * 10 + 3, none⟩ = false := hfr9 3; have hf9_4 : w23.frozen? ⟨go5, (x5_1 : Int).toNat * 10 + 4, none⟩ = false := hfr9 4; have hf9_5 : w23.frozen? ⟨go5, (x5_1 : Int).toNat * 10 + 5, none⟩ = false := hfr9 5; have hf9_6 : w23.frozen? ⟨go5, (x5_1 : Int).toNat * 10 + 6, none⟩ = false := hfr9 6; have hf9_7 : w23.frozen? ⟨go5, (x5_1 : Int).toNat * 10 + 7, none⟩ = false := hfr9 7; have hf9_8 : w23.frozen? ⟨go5, (x5_1 : Int).toNat * 10 + 8, none⟩ = false := hfr9 8; have hf9_9 : w23.frozen? ⟨go5, (x5_1 : Int).toNat * 10 + 9, none⟩ = false := hfr9 9; clear hcl9 hcc9 hfr9 hM9; replace p9 := eq_true p9; replace q9 := eq_true q9; have HX24 := Aside0.mk (show Kd.R k75 75 w23 w0.heap.size (fun k_ => (P0_ k_ ∨ w.heap.size ≤ k_)) (.slice (some ⟨go5, 0, none⟩) x0_1.length co15) y127 from (by (with_reducible repeat (first | apply Kd.R_alloc | apply Kd.R_drewN | apply Kd.R_drew)); exact HO_0.out)); obtain ⟨ce24, hcl24, hM24, hcc24, hfr24⟩ := Kd.R_elem HX24.out z75 (x5_1 : Int) (of_decide_eq_true (by first | (with_reducible assumption) | assumption)) (by have h_ : (x5_1 : Int) < ((x0_1.length : Int) : Int) := of_decide_eq_true (by first | (with_reducible assumption) | assumption); first | exact h_ | (have e_ := (Kd.R_reads' HO_0.out).1; omega) | simpa using h_); obtain rfl := k75_openM hM24; have HP24 := Kd.R_seg HX24.out (x5_1 : Int) (of_decide_eq_true (by first | (with_reducible assumption) | assumption)) (by have h_ : (x5_1 : Int) < ((x0_1.length : Int) : Int) := of_decide_eq_true (by first | (with_reducible assumption) | assumption); first | exact h_ | (have e_ := (Kd.R_reads' HO_0.out).1; omega) | simpa using h_) (seg := [.int .i64 (wrap64 ((wrap64 ((wrap64 ((wrap64 (x1_1 + 1)) + 1)) + 1)) + 1))]) (j := 4) hcl24 hcc24 (show 5 ≤ 10 from by decide) (x' := (⟨(rd_T75 y127 x5_1).f0, (rd_T75 y127 x5_1).f1, (rd_T75 y127 x5_1).f2, (rd_T75 y127 x5_1).f3, wrap64 ((wrap64 ((wrap64 ((wrap64 (x1_1 + 1)) + 1)) + 1)) + 1), (rd_T75 y127 x5_1).f5, (rd_T75 y127 x5_1).f6, (rd_T75 y127 x5_1).f7, (rd_T75 y127 x5_1).f8, (rd_T75 y127 x5_1).f9⟩ : S75)) (k75_mkM _ _ _ (⟨(rd_T75 y127 x5_1).f0, (rd_T75 y127 x5_1).f1, (rd_T75 y127 x5_1).f2, (rd_T75 y127 x5_1).f3, wrap64 ((wrap64 ((wrap64 ((wrap64 (x1_1 + 1)) + 1)) + 1)) + 1), (rd_T75 y127 x5_1).f5, (rd_T75 y127 x5_1).f6, (rd_T75 y127 x5_1).f7, (rd_T75 y127 x5_1).f8, (rd_T75 y127 x5_1).f9⟩ : S75) ) (fun _ hk => hk); have hx24_4 := hcc24 4 _ rfl; (try simp only [show (k75).sz = 10 from rfl, Nat.mul_one, Nat.add_zero] at hx24_4); have hf24_4 := hfr24 4; (try simp only [show (k75).sz = 10 from rfl, Nat.mul_one, Nat.add_zero] at hf24_4); clear hcl24 hcc24 hfr24 hM24) | ((with_reducible refine gate_store (t := 3) (p := 44) rfl ?_); refine store_event (t := 3) (p := 44) (v := ?vo_w25) (w1 := (w23.setCell ⟨go5, (x5_1 : Int).toNat * 10 + 4, none⟩ (.int .i64 (wrap64 ((wrap64 ((wrap64 ((wrap64 (x1_1 + 1)) + 1)) + 1)) + 1))))) ?hg ?ho ?hn ?hr ?_; (case ho => rfl); (case hg => rfl); (case hn => rfl); (case hr => first | (go_simp; done) | (go_simp; rfl)); intro w25 hw; have hg : w23.grownBy w25 (some go5) := (by rw [hw]; exact HP24.2); have hp_ : Kd.R k75 75 w25 w0.heap.size (fun k_ => (P0_ k_ ∨ w.heap.size ≤ k_)) (.slice (some ⟨go5, 0, none⟩) x0_1.length co15) y128 := (by rw [hw, Ny128.out]; exact HP24.1); clear HP24; have n0_ := Aside0.mk (hp_); have n1_ := Aside0.mk ((by rw [hw]; exact below_set (HB.out) GB5.out : Below w0.heap.size w0 w25)); have n2_ := Aside0.mk (Kept.of_grown (S := (fun k_ => P0_ k_)) hg (by repeat (first | (with_reducible first | exact HK.out | apply Kept.alloc | apply Kept.drewN | apply Kept.drew) | exact HK.out)) (fun k_ e_ => (HO_0.out.1 k_ e_))); clear HO_0; clear HB; clear HK; have HO_0 := n0_; have HB := n1_; have HK := n2_; clear n0_ n1_ n2_; clear hg hw hp_; have p10 : 0 ≤ (x5_1 : Int) := of_decide_eq_true (by first | (with_reducible assumption) | assumption); have q10 : (x5_1 : Int) < ((x0_1.length : Int) : Int) := of_decide_eq_true (by first | (with_reducible assumption) | assumption); obtain ⟨ce10, hcl10, hM10, hcc10, hfr10⟩ := Kd.R_elem HO_0.out z75 (x5_1 : Int) p10 q10; obtain rfl := k75_openM hM10; have hx10_0 : w25.cell? ⟨go5, (x5_1 : Int).toNat * 10, none⟩ = some (.int .i64 ((rd_T75 y128 x5_1).f0)) := hcc10 0 _ rfl; have hx10_1 : w25.cell? ⟨go5, (x5_1 : Int).toNat * 10 + 1, none⟩ = some (.int .i64 ((rd_T75 y128 x5_1).f1)) := hcc10 1 _ rfl; have hx10_2 : w25.cell? ⟨go5, (x5_1 : Int).toNat * 10 + 2, none⟩ = some (.int .i64 ((rd_T75 y128 x5_1).f2)) := hcc10 2 _ rfl; have hx10_3 : w25.cell? ⟨go5, (x5_1 : Int).toNat * 10 + 3, none⟩ = some (.int .i64 ((rd_T75 y128 x5_1).f3)) := hcc10 3 _ rfl; have hx10_4 : w25.cell? ⟨go5, (x5_1 : Int).toNat * 10 + 4, none⟩ = some (.int .i64 ((rd_T75 y128 x5_1).f4)) := hcc10 4 _ rfl; have hx10_5 : w25.cell? ⟨go5, (x5_1 : Int).toNat * 10 + 5, none⟩ = some (.int .i64 ((rd_T75 y128 x5_1).f5)) := hcc10 5 _ rfl; have hx10_6 : w25.cell? ⟨go5, (x5_1 : Int).toNat * 10 + 6, none⟩ = some (.int .i64 ((rd_T75 y128 x5_1).f6)) := hcc10 6 _ rfl; have hx10_7 : w25.cell? ⟨go5, (x5_1 : Int).toNat * 10 + 7, none⟩ = some (.int .i64 ((rd_T75 y128 x5_1).f7)) := hcc10 7 _ rfl; have hx10_8 : w25.cell? ⟨go5, (x5_1 : Int).toNat * 10 + 8, none⟩ = some (.int .i64 ((rd_T75 y128 x5_1).f8)) := hcc10 8 _ rfl; have hx10_9 : w25.cell? ⟨go5, (x5_1 : Int).toNat * 10 + 9, none⟩ = some (.bool ((rd_T75 y128 x5_1).f9)) := hcc10 9 _ rfl; have hf10_0 : w25.frozen? ⟨go5, (x5_1 : Int).toNat * 10, none⟩ = false := hfr10 0; have hf10_1 : w25.frozen? ⟨go5, (x5_1 : Int).toNat * 10 + 1, none⟩ = false := hfr10 1; have hf10_2 : w25.frozen? ⟨go5, (x5_1 : Int).toNat * 10 + 2, none⟩ = false := hfr10 2; have hf10_3 : w25.frozen? ⟨go5, (x5_1 : Int).toNat * 10 + 3, none⟩ = false := hfr10 3; have hf10_4 : w25.frozen? ⟨go5, (x5_1 : Int).toNat * 10 + 4, none⟩ = false := hfr10 4; have hf10_5 : w25.frozen? ⟨go5, (x5_1 : Int).toNat * 10 + 5, none⟩ = false := hfr10 5; have hf10_6 : w25.frozen? ⟨go5, (x5_1 : Int).toNat * 10 + 6, none⟩ = false := hfr10 6; have hf10_7 : w25.frozen? ⟨go5, (x5_1 : Int).toNat * 10 + 7, none⟩ = false := hfr10 7; have hf10_8 : w25.frozen? ⟨go5, (x5_1 : Int).toNat * 10 + 8, none⟩ = false := hfr10 8; have hf10_9 : w25.frozen? ⟨go5, (x5_1 : Int).toNat * 10 + 9, none⟩ = false := hfr10 9; clear hcl10 hcc10 hfr10 hM10; replace p10 := eq_true p10; replace q10 := eq_true q10; have HX26 := Aside0.mk (show Kd.R k75 75 w25 w0.heap.size (fun k_ => (P0_ k_ ∨ w.heap.size ≤ k_)) (.slice (some ⟨go5, 0, none⟩) x0_1.length co15) y128 from (by (with_reducible repeat (first | apply Kd.R_alloc | apply Kd.R_drewN | apply Kd.R_drew)); exact HO_0.out)); obtain ⟨ce26, hcl26, hM26, hcc26, hfr26⟩ := Kd.R_elem HX26.out z75 (x5_1 : Int) (of_decide_eq_true (by first | (with_reducible assumption) | assumption)) (by have h_ : (x5_1 : Int) < ((x0_1.length : Int) : Int) := of_decide_eq_true (by first | (with_reducible assumption) | assumption); first | exact h_ | (have e_ := (Kd.R_reads' HO_0.out).1; omega) | simpa using h_); obtain rfl := k75_openM hM26; have HP26 := Kd.R_seg HX26.out (x5_1 : Int) (of_decide_eq_true (by first | (with_reducible assumption) | assumption)) (by have h_ : (x5_1 : Int) < ((x0_1.length : Int) : Int) := of_decide_eq_true (by first | (with_reducible assumption) | assumption); first | exact h_ | (have e_ := (Kd.R_reads' HO_0.out).1; omega) | simpa using h_) (seg := [.int .i64 (wrap64 ((wrap64 ((wrap64 ((wrap64 ((wrap64 (x1_1 + 1)) + 1)) + 1)) + 1)) + 1))]) (j := 5) hcl26 hcc26 (show 6 ≤ 10 from by decide) (x' := (⟨(rd_T75 y128 x5_1).f0, (rd_T75 y128 x5_1).f1, (rd_T75 y128 x5_1).f2, (rd_T75 y128 x5_1).f3, (rd_T75 y128 x5_1).f4, wrap64 ((wrap64 ((wrap64 ((wrap64 ((wrap64 (x1_1 + 1)) + 1)) + 1)) + 1)) + 1), (rd_T75 y128 x5_1).f6, (rd_T75 y128 x5_1).f7, (rd_T75 y128 x5_1).f8, (rd_T75 y128 x5_1).f9⟩ : S75)) (k75_mkM _ _ _ (⟨(rd_T75 y128 x5_1).f0, (rd_T75 y128 x5_1).f1, (rd_T75 y128 x5_1).f2, (rd_T75 y128 x5_1).f3, (rd_T75 y128 x5_1).f4, wrap64 ((wrap64 ((wrap64 ((wrap64 ((wrap64 (x1_1 + 1)) + 1)) + 1)) + 1)) + 1), (rd_T75 y128 x5_1).f6, (rd_T75 y128 x5_1).f7, (rd_T75 y128 x5_1).f8, (rd_T75 y128 x5_1).f9⟩ : S75) ) (fun _ hk => hk); have hx26_5 := hcc26 5 _ rfl; (try simp only [show (k75).sz = 10 from rfl, Nat.mul_one, Nat.add_zero] at hx26_5); have hf26_5 := hfr26 5; (try simp only [show (k75).sz = 10 from rfl, Nat.mul_one, Nat.add_zero] at hf26_5); clear hcl26 hcc26 hfr26 hM26) | ((with_reducible refine gate_store (t := 3) (p := 51) rfl ?_); refine store_event (t := 3) (p := 51) (v := ?vo_w27) (w1 := (w25.setCell ⟨go5, (x5_1 : Int).toNat * 10 + 5, none⟩ (.int .i64 (wrap64 ((wrap64 ((wrap64 ((wrap64 ((wrap64 (x1_1 + 1)) + 1)) + 1)) + 1)) + 1))))) ?hg ?ho ?hn ?hr ?_; (case ho => rfl); (case hg => rfl); (case hn => rfl); (case hr => first | (go_simp; done) | (go_simp; rfl)); intro w27 hw; have hg : w25.grownBy w27 (some go5) := (by rw [hw]; exact HP26.2); have hp_ : Kd.R k75 75 w27 w0.heap.size (fun k_ => (P0_ k_ ∨ w.heap.size ≤ k_)) (.slice (some ⟨go5, 0, none⟩) x0_1.length co15) y129 := (by rw [hw, Ny129.out]; exact HP26.1); clear HP26; have n0_ := Aside0.mk (hp_); have n1_ := Aside0.mk ((by rw [hw]; exact below_set (HB.out) GB5.out : Below w0.heap.size w0 w27)); have n2_ := Aside0.mk (Kept.of_grown (S := (fun k_ => P0_ k_)) hg (by repeat (first | (with_reducible first | exact HK.out | apply Kept.alloc | apply Kept.drewN | apply Kept.drew) | exact HK.out)) (fun k_ e_ => (HO_0.out.1 k_ e_))); clear HO_0; clear HB; clear HK; have HO_0 := n0_; have HB := n1_; have HK := n2_; clear n0_ n1_ n2_; clear hg hw hp_; have p11 : 0 ≤ (x5_1 : Int) := of_decide_eq_true (by first | (with_reducible assumption) | assumption); have q11 : (x5_1 : Int) < ((x0_1.length : Int) : Int) := of_decide_eq_true (by first | (with_reducible assumption) | assumption); obtain ⟨ce11, hcl11, hM11, hcc11, hfr11⟩ := Kd.R_elem HO_0.out z75 (x5_1 : Int) p11 q11; obtain rfl := k75_openM hM11; have hx11_0 : w27.cell? ⟨go5, (x5_1 : Int).toNat * 10, none⟩ = some (.int .i64 ((rd_T75 y129 x5_1).f0)) := hcc11 0 _ rfl; have hx11_1 : w27.cell? ⟨go5, (x5_1 : Int).toNat * 10 + 1, none⟩ = some (.int .i64 ((rd_T75 y129 x5_1).f1)) := hcc11 1 _ rfl; have hx11_2 : w27.cell? ⟨go5, (x5_1 : Int).toNat * 10 + 2, none⟩ = some (.int .i64 ((rd_T75 y129 x5_1).f2)) := hcc11 2 _ rfl; have hx11_3 : w27.cell? ⟨go5, (x5_1 : Int).toNat * 10 + 3, none⟩ = some (.int .i64 ((rd_T75 y129 x5_1).f3)) := hcc11 3 _ rfl; have hx11_4 : w27.cell? ⟨go5, (x5_1 : Int).toNat * 10 + 4, none⟩ = some (.int .i64 ((rd_T75 y129 x5_1).f4)) := hcc11 4 _ rfl; have hx11_5 : w27.cell? ⟨go5, (x5_1 : Int).toNat * 10 + 5, none⟩ = some (.int .i64 ((rd_T75 y129 x5_1).f5)) := hcc11 5 _ rfl; have hx11_6 : w27.cell? ⟨go5, (x5_1 : Int).toNat * 10 + 6, none⟩ = some (.int .i64 ((rd_T75 y129 x5_1).f6)) := hcc11 6 _ rfl; have hx11_7 : w27.cell? ⟨go5, (x5_1 : Int).toNat * 10 + 7, none⟩ = some (.int .i64 ((rd_T75 y129 x5_1).f7)) := hcc11 7 _ rfl; have hx11_8 : w27.cell? ⟨go5, (x5_1 : Int).toNat * 10 + 8, none⟩ = some (.int .i64 ((rd_T75 y129 x5_1).f8)) := hcc11 8 _ rfl; have hx11_9 : w27.cell? ⟨go5, (x5_1 : Int).toNat * 10 + 9, none⟩ = some (.bool ((rd_T75 y129 x5_1).f9)) := hcc11 9 _ rfl; have hf11_0 : w27.frozen? ⟨go5, (x5_1 : Int).toNat * 10, none⟩ = false := hfr11 0; have hf11_1 : w27.frozen? ⟨go5, (x5_1 : Int).toNat * 10 + 1, none⟩ = false := hfr11 1; have hf11_2 : w27.frozen? ⟨go5, (x5_1 : Int).toNat * 10 + 2, none⟩ = false := hfr11 2; have hf11_3 : w27.frozen? ⟨go5, (x5_1 : Int).toNat * 10 + 3, none⟩ = false := hfr11 3; have hf11_4 : w27.frozen? ⟨go5, (x5_1 : Int).toNat * 10 + 4, none⟩ = false := hfr11 4; have hf11_5 : w27.frozen? ⟨go5, (x5_1 : Int).toNat * 10 + 5, none⟩ = false := hfr11 5; have hf11_6 : w27.frozen? ⟨go5, (x5_1 : Int).toNat * 10 + 6, none⟩ = false := hfr11 6; have hf11_7 : w27.frozen? ⟨go5, (x5_1 : Int).toNat * 10 + 7, none⟩ = false := hfr11 7; have hf11_8 : w27.frozen? ⟨go5, (x5_1 : Int).toNat * 10 + 8, none⟩ = false := hfr11 8; have hf11_9 : w27.frozen? ⟨go5, (x5_1 : Int).toNat * 10 + 9, none⟩ = false := hfr11 9; clear hcl11 hcc11 hfr11 hM11; replace p11 := eq_true p11; replace q11 := eq_true q11; have HX28 := Aside0.mk (show Kd.R k75 75 w27 w0.heap.size (fun k_ => (P0_ k_ ∨ w.heap.size ≤ k_)) (.slice (some ⟨go5, 0, none⟩) x0_1.length co15) y129 from (by (with_reducible repeat (first | apply Kd.R_alloc | apply Kd.R_drewN | apply Kd.R_drew)); exact HO_0.out)); obtain ⟨ce28, hcl28, hM28, hcc28, hfr28⟩ := Kd.R_elem HX28.out z75 (x5_1 : Int) (of_decide_eq_true (by first | (with_reducible assumption) | assumption)) (by have h_ : (x5_1 : Int) < ((x0_1.length : Int) : Int) := of_decide_eq_true (by first | (with_reducible assumption) | assumption); first | exact h_ | (have e_ := (Kd.R_reads' HO_0.out).1; omega) | simpa using h_); obtain rfl := k75_openM hM28; have HP28 := Kd.R_seg HX28.out (x5_1 : Int) (of_decide_eq_true (by first | (with_reducible assumption) | assumption)) (by have h_ : (x5_1 : Int) < ((x0_1.length : Int) : Int) := of_decide_eq_true (by first | (with_reducible assumption) | assumption); first | exact h_ | (have e_ := (Kd.R_reads' HO_0.out).1; omega) | simpa using h_) (seg := [.int .i64 (wrap64 ((wrap64 ((wrap64 ((wrap64 ((wrap64 ((wrap64 (x1_1 + 1)) + 1)) + 1)) + 1)) + 1)) + 1))]) (j := 6) hcl28 hcc28 (show 7 ≤ 10 from by decide) (x' := (⟨(rd_T75 y129 x5_1).f0, (rd_T75 y129 x5_1).f1, (rd_T75 y129 x5_1).f2, (rd_T75 y129 x5_1).f3, (rd_T75 y129 x5_1).f4, (rd_T75 y129 x5_1).f5, wrap64 ((wrap64 ((wrap64 ((wrap64 ((wrap64 ((wrap64 (x1_1 + 1)) + 1)) + 1)) + 1)) + 1)) + 1), (rd_T75 y129 x5_1).f7, (rd_T75 y129 x5_1).f8, (rd_T75 y129 x5_1).f9⟩ : S75)) (k75_mkM _ _ _ (⟨(rd_T75 y129 x5_1).f0, (rd_T75 y129 x5_1).f1, (rd_T75 y129 x5_1).f2, (rd_T75 y129 x5_1).f3, (rd_T75 y129 x5_1).f4, (rd_T75 y129 x5_1).f5, wrap64 ((wrap64 ((wrap64 ((wrap64 ((wrap64 ((wrap64 (x1_1 + 1)) + 1)) + 1)) + 1)) + 1)) + 1), (rd_T75 y129 x5_1).f7, (rd_T75 y129 x5_1).f8, (rd_T75 y129 x5_1).f9⟩ : S75) ) (fun _ hk => hk); have hx28_6 := hcc28 6 _ rfl; (try simp only [show (k75).sz = 10 from rfl, Nat.mul_one, Nat.add_zero] at hx28_6); have hf28_6 := hfr28 6; (try simp only [show (k75).sz = 10 from rfl, Nat.mul_one, Nat.add_zero] at hf28_6); clear hcl28 hcc28 hfr28 hM28) | ((with_reducible refine gate_store (t := 3) (p := 58) rfl ?_); refine store_event (t := 3) (p := 58) (v := ?vo_w29) (w1 := (w27.setCell ⟨go5, (x5_1 : Int).toNat * 10 + 6, none⟩ (.int .i64 (wrap64 ((wrap64 ((wrap64 ((wrap64 ((wrap64 ((wrap64 (x1_1 + 1)) + 1)) + 1)) + 1)) + 1)) + 1))))) ?hg ?ho ?hn ?hr ?_; (case ho => rfl); (case hg => rfl); (case hn => rfl); (case hr => first | (go_simp; done) | (go_simp; rfl)); intro w29 hw; have hg : w27.grownBy w29 (some go5) := (by rw [hw]; exact HP28.2); have hp_ : Kd.R k75 75 w29 w0.heap.size (fun k_ => (P0_ k_ ∨ w.heap.size ≤ k_)) (.slice (some ⟨go5, 0, none⟩) x0_1.length co15) y130 := (by rw [hw, Ny130.out]; exact HP28.1); clear HP28; have n0_ := Aside0.mk (hp_); have n1_ := Aside0.mk ((by rw [hw]; exact below_set (HB.out) GB5.out : Below w0.heap.size w0 w29)); have n2_ := Aside0.mk (Kept.of_grown (S := (fun k_ => P0_ k_)) hg (by repeat (first | (with_reducible first | exact HK.out | apply Kept.alloc | apply Kept.drewN | apply Kept.drew) | exact HK.out)) (fun k_ e_ => (HO_0.out.1 k_ e_))); clear HO_0; clear HB; clear HK; have HO_0 := n0_; have HB := n1_; have HK := n2_; clear n0_ n1_ n2_; clear hg hw hp_; have p12 : 0 ≤ (x5_1 : Int) := of_decide_eq_true (by first | (with_reducible assumption) | assumption); have q12 : (x5_1 : Int) < ((x0_1.length : Int) : Int) := of_decide_eq_true (by first | (with_reducible assumption) | assumption); obtain ⟨ce12, hcl12, hM12, hcc12, hfr12⟩ := Kd.R_elem HO_0.out z75 (x5_1 : Int) p12 q12; obtain rfl := k75_openM hM12; have hx12_0 : w29.cell? ⟨go5, (x5_1 : Int).toNat * 10, none⟩ = some (.int .i64 ((rd_T75 y130 x5_1).f0)) := hcc12 0 _ rfl; have hx12_1 : w29.cell? ⟨go5, (x5_1 : Int).toNat * 10 + 1, none⟩ = some (.int .i64 ((rd_T75 y130 x5_1).f1)) := hcc12 1 _ rfl; have hx12_2 : w29.cell? ⟨go5, (x5_1 : Int).toNat * 10 + 2, none⟩ = some (.int .i64 ((rd_T75 y130 x5_1).f2)) := hcc12 2 _ rfl; have hx12_3 : w29.cell? ⟨go5, (x5_1 : Int).toNat * 10 + 3, none⟩ = some (.int .i64 ((rd_T75 y130 x5_1).f3)) := hcc12 3 _ rfl; have hx12_4 : w29.cell? ⟨go5, (x5_1 : Int).toNat * 10 + 4, none⟩ = some (.int .i64 ((rd_T75 y130 x5_1).f4)) := hcc12 4 _ rfl; have hx12_5 : w29.cell? ⟨go5, (x5_1 : Int).toNat * 10 + 5, none⟩ = some (.int .i64 ((rd_T75 y130 x5_1).f5)) := hcc12 5 _ rfl; have hx12_6 : w29.cell? ⟨go5, (x5_1 : Int).toNat * 10 + 6, none⟩ = some (.int .i64 ((rd_T75 y130 x5_1).f6)) := hcc12 6 _ rfl; have hx12_7 : w29.cell? ⟨go5, (x5_1 : Int).toNat * 10 + 7, none⟩ = some (.int .i64 ((rd_T75 y130 x5_1).f7)) := hcc12 7 _ rfl; have hx12_8 : w29.cell? ⟨go5, (x5_1 : Int).toNat * 10 + 8, none⟩ = some (.int .i64 ((rd_T75 y130 x5_1).f8)) := hcc12 8 _ rfl; have hx12_9 : w29.cell? ⟨go5, (x5_1 : Int).toNat * 10 + 9, none⟩ = some (.bool ((rd_T75 y130 x5_1).f9)) := hcc12 9 _ rfl; have hf12_0 : w29.frozen? ⟨go5, (x5_1 : Int).toNat * 10, none⟩ = false := hfr12 0; have hf12_1 : w29.frozen? ⟨go5, (x5_1 : Int).toNat * 10 + 1, none⟩ = false := hfr12 1; have hf12_2 : w29.frozen? ⟨go5, (x5_1 : Int).toNat * 10 + 2, none⟩ = false := hfr12 2; have hf12_3 : w29.frozen? ⟨go5, (x5_1 : Int).toNat * 10 + 3, none⟩ = false := hfr12 3; have hf12_4 : w29.frozen? ⟨go5, (x5_1 : Int).toNat * 10 + 4, none⟩ = false := hfr12 4; have hf12_5 : w29.frozen? ⟨go5, (x5_1 : Int).toNat * 10 + 5, none⟩ = false := hfr12 5; have hf12_6 : w29.frozen? ⟨go5, (x5_1 : Int).toNat * 10 + 6, none⟩ = false := hfr12 6; have hf12_7 : w29.frozen? ⟨go5, (x5_1 : Int).toNat * 10 + 7, none⟩ = false := hfr12 7; have hf12_8 : w29.frozen? ⟨go5, (x5_1 : Int).toNat * 10 + 8, none⟩ = false := hfr12 8; have hf12_9 : w29.frozen? ⟨go5, (x5_1 : Int).toNat * 10 + 9, none⟩ = false := hfr12 9; clear hcl12 hcc12 hfr12 hM12; replace p12 := eq_true p12; replace q12 := eq_true q12; have HX30 := Aside0.mk (show Kd.R k75 75 w29 w0.heap.size (fun k_ => (P0_ k_ ∨ w.heap.size ≤ k_)) (.slice (some ⟨go5, 0, none⟩) x0_1.length co15) y130 from (by (with_reducible repeat (first | apply Kd.R_alloc | apply Kd.R_drewN | apply Kd.R_drew)); exact HO_0.out)); obtain ⟨ce30, hcl30, hM30, hcc30, hfr30⟩ := Kd.R_elem HX30.out z75 (x5_1 : Int) (of_decide_eq_true (by first | (with_reducible assumption) | assumption)) (by have h_ : (x5_1 : Int) < ((x0_1.length : Int) : Int) := of_decide_eq_true (by first | (with_reducible assumption) | assumption); first | exact h_ | (have e_ := (Kd.R_reads' HO_0.out).1; omega) | simpa using h_); obtain rfl := k75_openM hM30; have HP30 := Kd.R_seg HX30.out (x5_1 : Int) (of_decide_eq_true (by first | (with_reducible assumption) | assumption)) (by have h_ : (x5_1 : Int) < ((x0_1.length : Int) : Int) := of_decide_eq_true (by first | (with_reducible assumption) | assumption); first | exact h_ | (have e_ := (Kd.R_reads' HO_0.out).1; omega) | simpa using h_) (seg := [.int .i64 (wrap64 ((wrap64 ((wrap64 ((wrap64 ((wrap64 ((wrap64 ((wrap64 (x1_1 + 1)) + 1)) + 1)) + 1)) + 1)) + 1)) + 1))]) (j := 7) hcl30 hcc30 (show 8 ≤ 10 from by decide) (x' := (⟨(rd_T75 y130 x5_1).f0, (rd_T75 y130 x5_1).f1, (rd_T75 y130 x5_1).f2, (rd_T75 y130 x5_1).f3, (rd_T75 y130 x5_1).f4, (rd_T75 y130 x5_1).f5, (rd_T75 y130 x5_1).f6, wrap64 ((wrap64 ((wrap64 ((wrap64 ((wrap64 ((wrap64 ((wrap64 (x1_1 + 1)) + 1)) + 1)) + 1)) + 1)) + 1)) + 1), (rd_T75 y130 x5_1).f8, (rd_T75 y130 x5_1).f9⟩ : S75)) (k75_mkM _ _ _ (⟨(rd_T75 y130 x5_1).f0, (rd_T75 y130 x5_1).f1, (rd_T75 y130 x5_1).f2, (rd_T75 y130 x5_1).f3, (rd_T75 y130 x5_1).f4, (rd_T75 y130 x5_1).f5, (rd_T75 y130 x5_1).f6, wrap64 ((wrap64 ((wrap64 ((wrap64 ((wrap64 ((wrap64 ((wrap64 (x1_1 + 1)) + 1)) + 1)) + 1)) + 1)) + 1)) + 1), (rd_T75 y130 x5_1).f8, (rd_T75 y130 x5_1).f9⟩ : S75) ) (fun _ hk => hk); have hx30_7 := hcc30 7 _ rfl; (try simp only [show (k75).sz = 10 from rfl, Nat.mul_one, Nat.add_zero] at hx30_7); have hf30_7 := hfr30 7; (try simp only [show (k75).sz = 10 from rfl, Nat.mul_one, Nat.add_zero] at hf30_7); clear hcl30 hcc30 hfr30 hM30) | ((with_reducible refine gate_store (t := 3) (p := 65) rfl ?_); refine store_event (t := 3) (p := 65) (v := ?vo_w31) (w1 := (w29.setCell ⟨go5, (x5_1 : Int).toNat * 10 + 7, none⟩ (.int .i64 (wrap64 ((wrap64 ((wrap64 ((wrap64 ((wrap64 ((wrap64 ((wrap64 (x1_1 + 1)) + 1)) + 1)) + 1)) + 1)) + 1)) + 1))))) ?hg ?ho ?hn ?hr ?_; (case ho => rfl); (case hg => rfl); (case hn => rfl); (case hr => first | (go_simp; done) | (go_simp; rfl)); intro w31 hw; have hg : w29.grownBy w31 (some go5) := (by rw [hw]; exact HP30.2); have hp_ : Kd.R k75 75 w31 w0.heap.size (fun k_ => (P0_ k_ ∨ w.heap.size ≤ k_)) (.slice (some ⟨go5, 0, none⟩) x0_1.length co15) y131 := (by rw [hw, Ny131.out]; exact HP30.1); clear HP30; have n0_ := Aside0.mk (hp_); have n1_ := Aside0.mk ((by rw [hw]; exact below_set (HB.out) GB5.out : Below w0.heap.size w0 w31)); have n2_ := Aside0.mk (Kept.of_grown (S := (fun k_ => P0_ k_)) hg (by repeat (first | (with_reducible first | exact HK.out | apply Kept.alloc | apply Kept.drewN | apply Kept.drew) | exact HK.out)) (fun k_ e_ => (HO_0.out.1 k_ e_))); clear HO_0; clear HB; clear HK; have HO_0 := n0_; have HB := n1_; have HK := n2_; clear n0_ n1_ n2_; clear hg hw hp_; have p13 : 0 ≤ (x5_1 : Int) := of_decide_eq_true (by first | (with_reducible assumption) | assumption); have q13 : (x5_1 : Int) < ((x0_1.length : Int) : Int) := of_decide_eq_true (by first | (with_reducible assumption) | assumption); obtain ⟨ce13, hcl13, hM13, hcc13, hfr13⟩ := Kd.R_elem HO_0.out z75 (x5_1 : Int) p13 q13; obtain rfl := k75_openM hM13; have hx13_0 : w31.cell? ⟨go5, (x5_1 : Int).toNat * 10, none⟩ = some (.int .i64 ((rd_T75 y131 x5_1).f0)) := hcc13 0 _ rfl; have hx13_1 : w31.cell? ⟨go5, (x5_1 : Int).toNat * 10 + 1, none⟩ = some (.int .i64 ((rd_T75 y131 x5_1).f1)) := hcc13 1 _ rfl; have hx13_2 : w31.cell? ⟨go5, (x5_1 : Int).toNat * 10 + 2, none⟩ = some (.int .i64 ((rd_T75 y131 x5_1).f2)) := hcc13 2 _ rfl; have hx13_3 : w31.cell? ⟨go5, (x5_1 : Int).toNat * 10 + 3, none⟩ = some (.int .i64 ((rd_T75 y131 x5_1).f3)) := hcc13 3 _ rfl; have hx13_4 : w31.cell? ⟨go5, (x5_1 : Int).toNat * 10 + 4, none⟩ = some (.int .i64 ((rd_T75 y131 x5_1).f4)) := hcc13 4 _ rfl; have hx13_5 : w31.cell? ⟨go5, (x5_1 : Int).toNat * 10 + 5, none⟩ = some (.int .i64 ((rd_T75 y131 x5_1).f5)) := hcc13 5 _ rfl; have hx13_6 : w31.cell? ⟨go5, (x5_1 : Int).toNat * 10 + 6, none⟩ = some (.int .i64 ((rd_T75 y131 x5_1).f6)) := hcc13 6 _ rfl; have hx13_7 : w31.cell? ⟨go5, (x5_1 : Int).toNat * 10 + 7, none⟩ = some (.int .i64 ((rd_T75 y131 x5_1).f7)) := hcc13 7 _ rfl; have hx13_8 : w31.cell? ⟨go5, (x5_1 : Int).toNat * 10 + 8, none⟩ = some (.int .i64 ((rd_T75 y131 x5_1).f8)) := hcc13 8 _ rfl; have hx13_9 : w31.cell? ⟨go5, (x5_1 : Int).toNat * 10 + 9, none⟩ = some (.bool ((rd_T75 y131 x5_1).f9)) := hcc13 9 _ rfl; have hf13_0 : w31.frozen? ⟨go5, (x5_1 : Int).toNat * 10, none⟩ = false := hfr13 0; have hf13_1 : w31.frozen? ⟨go5, (x5_1 : Int).toNat * 10 + 1, none⟩ = false := hfr13 1; have hf13_2 : w31.frozen? ⟨go5, (x5_1 : Int).toNat * 10 + 2, none⟩ = false := hfr13 2; have hf13_3 : w31.frozen? ⟨go5, (x5_1 : Int).toNat * 10 + 3, none⟩ = false := hfr13 3; have hf13_4 : w31.frozen? ⟨go5, (x5_1 : Int).toNat * 10 + 4, none⟩ = false := hfr13 4; have hf13_5 : w31.frozen? ⟨go5, (x5_1 : Int).toNat * 10 + 5, none⟩ = false := hfr13 5; have hf13_6 : w31.frozen? ⟨go5, (x5_1 : Int).toNat * 10 + 6, none⟩ = false := hfr13 6; have hf13_7 : w31.frozen? ⟨go5, (x5_1 : Int).toNat * 10 + 7, none⟩ = false := hfr13 7; have hf13_8 : w31.frozen? ⟨go5, (x5_1 : Int).toNat * 10 + 8, none⟩ = false := hfr13 8; have hf13_9 : w31.frozen? ⟨go5, (x5_1 : Int).toNat * 10 + 9, none⟩ = false := hfr13 9; clear hcl13 hcc13 hfr13 hM13; replace p13 := eq_true p13; replace q13 := eq_true q13; have HX32 := Aside0.mk (show Kd.R k75 75 w31 w0.heap.size (fun k_ => (P0_ k_ ∨ w.heap.size ≤ k_)) (.slice (some ⟨go5, 0, none⟩) x0_1.length co15) y131 from (by (with_reducible repeat (first | apply Kd.R_alloc | apply Kd.R_drewN | apply Kd.R_drew)); exact HO_0.out)); obtain ⟨ce32, hcl32, hM32, hcc32, hfr32⟩ := Kd.R_elem HX32.out z75 (x5_1 : Int) (of_decide_eq_true (by first | (with_reducible assumption) | assumption)) (by have h_ : (x5_1 : Int) < ((x0_1.length : Int) : Int) := of_decide_eq_true (by first | (with_reducible assumption) | assumption); first | exact h_ | (have e_ := (Kd.R_reads' HO_0.out).1; omega) | simpa using h_); obtain rfl := k75_openM hM32; have HP32 := Kd.R_seg HX32.out (x5_1 : Int) (of_decide_eq_true (by first | (with_reducible assumption) | assumption)) (by have h_ : (x5_1 : Int) < ((x0_1.length : Int) : Int) := of_decide_eq_true (by first | (with_reducible assumption) | assumption); first | exact h_ | (have e_ := (Kd.R_reads' HO_0.out).1; omega) | simpa using h_) (seg := [.int .i64 (wrap64 ((wrap64 ((wrap64 ((wrap64 ((wrap64 ((wrap64 ((wrap64 ((wrap64 (x1_1 + 1)) + 1)) + 1)) + 1)) + 1)) + 1)) + 1)) + 1))]) (j := 8) hcl32 hcc32 (show 9 ≤ 10 from by decide) (x' := (⟨(rd_T75 y131 x5_1).f0, (rd_T75 y131 x5_1).f1, (rd_T75 y131 x5_1).f2, (rd_T75 y131 x5_1).f3, (rd_T75 y131 x5_1).f4, (rd_T75 y131 x5_1).f5, (rd_T75 y131 x5_1).f6, (rd_T75 y131 x5_1).f7, wrap64 ((wrap64 ((wrap64 ((wrap64 ((wrap64 ((wrap64 ((wrap64 ((wrap64 (x1_1 + 1)) + 1)) + 1)) + 1)) + 1)) + 1)) + 1)) + 1), (rd_T75 y131 x5_1).f9⟩ : S75)) (k75_mkM _ _ _ (⟨(rd_T75 y131 x5_1).f0, (rd_T75 y131 x5_1).f1, (rd_T75 y131 x5_1).f2, (rd_T75 y131 x5_1).f3, (rd_T75 y131 x5_1).f4, (rd_T75 y131 x5_1).f5, (rd_T75 y131 x5_1).f6, (rd_T75 y131 x5_1).f7, wrap64 ((wrap64 ((wrap64 ((wrap64 ((wrap64 ((wrap64 ((wrap64 ((wrap64 (x1_1 + 1)) + 1)) + 1)) + 1)) + 1)) + 1)) + 1)) + 1), (rd_T75 y131 x5_1).f9⟩ : S75) ) (fun _ hk => hk); have hx32_8 := hcc32 8 _ rfl; (try simp only [show (k75).sz = 10 from rfl, Nat.mul_one, Nat.add_zero] at hx32_8); have hf32_8 := hfr32 8; (try simp only [show (k75).sz = 10 from rfl, Nat.mul_one, Nat.add_zero] at hf32_8); clear hcl32 hcc32 hfr32 hM32) | ((with_reducible refine gate_store (t := 3) (p := 72) rfl ?_); refine store_event (t := 3) (p := 72) (v := ?vo_w33) (w1 := (w31.setCell ⟨go5, (x5_1 : Int).toNat * 10 + 8, none⟩ (.int .i64 (wrap64 ((wrap64 ((wrap64 ((wrap64 ((wrap64 ((wrap64 ((wrap64 ((wrap64 (x1_1 + 1)) + 1)) + 1)) + 1)) + 1)) + 1)) + 1)) + 1))))) ?hg ?ho ?hn ?hr ?_; (case ho => rfl); (case hg => rfl); (case hn => rfl); (case hr => first | (go_simp; done) | (go_simp; rfl)); intro w33 hw; have hg : w31.grownBy w33 (some go5) := (by rw [hw]; exact HP32.2); have hp_ : Kd.R k75 75 w33 w0.heap.size (fun k_ => (P0_ k_ ∨ w.heap.size ≤ k_)) (.slice (some ⟨go5, 0, none⟩) x0_1.length co15) y132 := (by rw [hw, Ny132.out]; exact HP32.1); clear HP32; have n0_ := Aside0.mk (hp_); have n1_ := Aside0.mk ((by rw [hw]; exact below_set (HB.out) GB5.out : Below w0.heap.size w0 w33)); have n2_ := Aside0.mk (Kept.of_grown (S := (fun k_ => P0_ k_)) hg (by repeat (first | (with_reducible first | exact HK.out | apply Kept.alloc | apply Kept.drewN | apply Kept.drew) | exact HK.out)) (fun k_ e_ => (HO_0.out.1 k_ e_))); clear HO_0; clear HB; clear HK; have HO_0 := n0_; have HB := n1_; have HK := n2_; clear n0_ n1_ n2_; clear hg hw hp_; have p14 : 0 ≤ (x5_1 : Int) := of_decide_eq_true (by first | (with_reducible assumption) | assumption); have q14 : (x5_1 : Int) < ((x0_1.length : Int) : Int) := of_decide_eq_true (by first | (with_reducible assumption) | assumption); obtain ⟨ce14, hcl14, hM14, hcc14, hfr14⟩ := Kd.R_elem HO_0.out z75 (x5_1 : Int) p14 q14; obtain rfl := k75_openM hM14; have hx14_0 : w33.cell? ⟨go5, (x5_1 : Int).toNat * 10, none⟩ = some (.int .i64 ((rd_T75 y132 x5_1).f0)) := hcc14 0 _ rfl; have hx14_1 : w33.cell? ⟨go5, (x5_1 : Int).toNat * 10 + 1, none⟩ = some (.int .i64 ((rd_T75 y132 x5_1).f1)) := hcc14 1 _ rfl; have hx14_2 : w33.cell? ⟨go5, (x5_1 : Int).toNat * 10 + 2, none⟩ = some (.int .i64 ((rd_T75 y132 x5_1).f2)) := hcc14 2 _ rfl; have hx14_3 : w33.cell? ⟨go5, (x5_1 : Int).toNat * 10 + 3, none⟩ = some (.int .i64 ((rd_T75 y132 x5_1).f3)) := hcc14 3 _ rfl; have hx14_4 : w33.cell? ⟨go5, (x5_1 : Int).toNat * 10 + 4, none⟩ = some (.int .i64 ((rd_T75 y132 x5_1).f4)) := hcc14 4 _ rfl; have hx14_5 : w33.cell? ⟨go5, (x5_1 : Int).toNat * 10 + 5, none⟩ = some (.int .i64 ((rd_T75 y132 x5_1).f5)) := hcc14 5 _ rfl; have hx14_6 : w33.cell? ⟨go5, (x5_1 : Int).toNat * 10 + 6, none⟩ = some (.int .i64 ((rd_T75 y132 x5_1).f6)) := hcc14 6 _ rfl; have hx14_7 : w33.cell? ⟨go5, (x5_1 : Int).toNat * 10 + 7, none⟩ = some (.int .i64 ((rd_T75 y132 x5_1).f7)) := hcc14 7 _ rfl; have hx14_8 : w33.cell? ⟨go5, (x5_1 : Int).toNat * 10 + 8, none⟩ = some (.int .i64 ((rd_T75 y132 x5_1).f8)) := hcc14 8 _ rfl; have hx14_9 : w33.cell? ⟨go5, (x5_1 : Int).toNat * 10 + 9, none⟩ = some (.bool ((rd_T75 y132 x5_1).f9)) := hcc14 9 _ rfl; have hf14_0 : w33.frozen? ⟨go5, (x5_1 : Int).toNat * 10, none⟩ = false := hfr14 0; have hf14_1 : w33.frozen? ⟨go5, (x5_1 : Int).toNat * 10 + 1, none⟩ = false := hfr14 1; have hf14_2 : w33.frozen? ⟨go5, (x5_1 : Int).toNat * 10 + 2, none⟩ = false := hfr14 2; have hf14_3 : w33.frozen? ⟨go5, (x5_1 : Int).toNat * 10 + 3, none⟩ = false := hfr14 3; have hf14_4 : w33.frozen? ⟨go5, (x5_1 : Int).toNat * 10 + 4, none⟩ = false := hfr14 4; have hf14_5 : w33.frozen? ⟨go5, (x5_1 : Int).toNat * 10 + 5, none⟩ = false := hfr14 5; have hf14_6 : w33.frozen? ⟨go5, (x5_1 : Int).toNat * 10 + 6, none⟩ = false := hfr14 6; have hf14_7 : w33.frozen? ⟨go5, (x5_1 : Int).toNat * 10 + 7, none⟩ = false := hfr14 7; have hf14_8 : w33.frozen? ⟨go5, (x5_1 : Int).toNat * 10 + 8, none⟩ = false := hfr14 8; have hf14_9 : w33.frozen? ⟨go5, (x5_1 : Int).toNat * 10 + 9, none⟩ = false := hfr14 9; clear hcl14 hcc14 hfr14 hM14; replace p14 := eq_true p14; replace q14 := eq_true q14; have HX34 := Aside0.mk (show Kd.R k75 75 w33 w0.heap.size (fun k_ => (P0_ k_ ∨ w.heap.size ≤ k_)) (.slice (some ⟨go5, 0, none⟩) x0_1.length co15) y132 from (by (with_reducible repeat (first | apply Kd.R_alloc | apply Kd.R_drewN | apply Kd.R_drew)); exact HO_0.out)); obtain ⟨ce34, hcl34, hM34, hcc34, hfr34⟩ := Kd.R_elem HX34.out z75 (x5_1 : Int) (of_decide_eq_true (by first | (with_reducible assumption) | assumption)) (by have h_ : (x5_1 : Int) < ((x0_1.length : Int) : Int) := of_decide_eq_true (by first | (with_reducible assumption) | assumption); first | exact h_ | (have e_ := (Kd.R_reads' HO_0.out).1; omega) | simpa using h_); obtain rfl := k75_openM hM34; have HP34 := Kd.R_seg HX34.out (x5_1 : Int) (of_decide_eq_true (by first | (with_reducible assumption) | assumption)) (by have h_ : (x5_1 : Int) < ((x0_1.length : Int) : Int) := of_decide_eq_true (by first | (with_reducible assumption) | assumption); first | exact h_ | (have e_ := (Kd.R_reads' HO_0.out).1; omega) | simpa using h_) (seg := [.bool ((Int.tmod (wrap64 ((wrap64 ((wrap64 ((wrap64 ((wrap64 ((wrap64 ((wrap64 ((wrap64 ((wrap64 (x1_1 + 1)) + 1)) + 1)) + 1)) + 1)) + 1)) + 1)) + 1)) + 1)) 3) == 0)]) (j := 9) hcl34 hcc34 (show 10 ≤ 10 from by decide) (x' := (⟨(rd_T75 y132 x5_1).f0, (rd_T75 y132 x5_1).f1, (rd_T75 y132 x5_1).f2, (rd_T75 y132 x5_1).f3, (rd_T75 y132 x5_1).f4, (rd_T75 y132 x5_1).f5, (rd_T75 y132 x5_1).f6, (rd_T75 y132 x5_1).f7, (rd_T75 y132 x5_1).f8, ((Int.tmod (wrap64 ((wrap64 ((wrap64 ((wrap64 ((wrap64 ((wrap64 ((wrap64 ((wrap64 ((wrap64 (x1_1 + 1)) + 1)) + 1)) + 1)) + 1)) + 1)) + 1)) + 1)) + 1)) 3) == 0)⟩ : S75)) (k75_mkM _ _ _ (⟨(rd_T75 y132 x5_1).f0, (rd_T75 y132 x5_1).f1, (rd_T75 y132 x5_1).f2, (rd_T75 y132 x5_1).f3, (rd_T75 y132 x5_1).f4, (rd_T75 y132 x5_1).f5, (rd_T75 y132 x5_1).f6, (rd_T75 y132 x5_1).f7, (rd_T75 y132 x5_1).f8, ((Int.tmod (wrap64 ((wrap64 ((wrap64 ((wrap64 ((wrap64 ((wrap64 ((wrap64 ((wrap64 ((wrap64 (x1_1 + 1)) + 1)) + 1)) + 1)) + 1)) + 1)) + 1)) + 1)) + 1)) 3) == 0)⟩ : S75) ) (fun _ hk => hk); have hx34_9 := hcc34 9 _ rfl; (try simp only [show (k75).sz = 10 from rfl, Nat.mul_one, Nat.add_zero] at hx34_9); have hf34_9 := hfr34 9; (try simp only [show (k75).sz = 10 from rfl, Nat.mul_one, Nat.add_zero] at hf34_9); clear hcl34 hcc34 hfr34 hM34) | ((with_reducible refine gate_store (t := 4) (p := 81) rfl ?_); refine store_event (t := 4) (p := 81) (v := ?vo_w35) (w1 := (w33.setCell ⟨go5, (x5_1 : Int).toNat * 10 + 9, none⟩ (.bool ((Int.tmod (wrap64 ((wrap64 ((wrap64 ((wrap64 ((wrap64 ((wrap64 ((wrap64 ((wrap64 ((wrap64 (x1_1 + 1)) + 1)) + 1)) + 1)) + 1)) + 1)) + 1)) + 1)) + 1)) 3) == 0)))) ?hg ?ho ?hn ?hr ?_; (case ho => rfl); (case hg => rfl); (case hn => rfl); (case hr => first | (go_simp; done) | (go_simp; rfl)); intro w35 hw; have hg : w33.grownBy w35 (some go5) := (by rw [hw]; exact HP34.2); have hp_ : Kd.R k75 75 w35 w0.heap.size (fun k_ => (P0_ k_ ∨ w.heap.size ≤ k_)) (.slice (some ⟨go5, 0, none⟩) x0_1.length co15) y133 := (by rw [hw, Ny133.out]; exact HP34.1); clear HP34; have n0_ := Aside0.mk (hp_); have n1_ := Aside0.mk ((by rw [hw]; exact below_set (HB.out) GB5.out : Below w0.heap.size w0 w35)); have n2_ := Aside0.mk (Kept.of_grown (S := (fun k_ => P0_ k_)) hg (by repeat (first | (with_reducible first | exact HK.out | apply Kept.alloc | apply Kept.drewN | apply Kept.drew) | exact HK.out)) (fun k_ e_ => (HO_0.out.1 k_ e_))); clear HO_0; clear HB; clear HK; have HO_0 := n0_; have HB := n1_; have HK := n2_; clear n0_ n1_ n2_; clear hg hw hp_))
          go_roundg k1
          case measure => have := HK1.out; omega
          case rel => exact ⟨(y133), (wrap64 ((wrap64 ((wrap64 ((wrap64 ((wrap64 ((wrap64 ((wrap64 ((wrap64 ((wrap64 ((wrap64 (x1_1 + 1)) + 1)) + 1)) + 1)) + 1)) + 1)) + 1)) + 1)) + 1)) + 1)), (wrap64 (x5_1 + 1)), (by first | rfl | (simp; done) | (simp [*]; done)), (by first | rfl | (simp; done) | (simp [*]; done)), H', ⟨by have := HK1.out; omega⟩, ⟨by (with_reducible repeat (first | apply Kd.R_alloc | apply Kd.R_drewN | apply Kd.R_drew)); exact HO_0.out⟩, ⟨by repeat (first | (with_reducible first | exact HK.out | apply Kept.alloc | apply Kept.drewN | apply Kept.drew) | exact HK.out)⟩, ⟨by repeat (first | (with_reducible first | exact HB.out | apply below_alloc | apply pw_below_drewN | apply below_drew1) | exact HB.out)⟩⟩
        · rw [if_neg c4] at H
          exact absurd H (by simp)
      · rw [if_neg c3] at H
        have c3b0 : decide (x5_1 < (x0_1.length : Int)) = false := decide_eq_false c3
        clear c3
        simp only [Option.some.injEq, Prod.mk.injEq] at H
        obtain ⟨rfl, rfl⟩ := H
        obtain ⟨Ao36, co36, eo36⟩ := Kd.R_slice HO_0.out
        subst eo36
        go_wp2
        go_ret
        exact ⟨by first | rfl | (simp [errW_none, errW_some] <;> rfl) | (simp [*, errW_none, errW_some] <;> rfl), by (with_reducible repeat (first | apply Kd.R_alloc | apply Kd.R_drewN | apply Kd.R_drew)); exact HO_0.out, by repeat (first | (with_reducible first | exact HB.out | apply below_alloc | apply pw_below_drewN | apply below_drew1) | exact HB.out), by repeat (first | (with_reducible first | exact HK.out | apply Kept.alloc | apply Kept.drewN | apply Kept.drew) | exact HK.out)⟩

/-! ### laws_markThreadS: function 17 (walked by hand) -/
/-- n times one more. -/
def bump : Nat → Int → Int
  | 0, a => a
  | n + 1, a => bump n (wrap64 (a + 1))
/-- One block has been written, and keeps its size. -/
def RawPost (w0 w : World) (g t m : Nat) (w' : World) : Prop := Below w0.heap.size w0 w' ∧ Kept w w' (fun k => k = g) ∧ ∃ cs : Array Value, w'.heap[g]? = some (.cells cs t (0, 0)) ∧ cs.size = m
theorem RawPost.set {w0 w w' : World} {g t m : Nat} (h : RawPost w0 w g t m w') (hge : w0.heap.size ≤ g) (i : Nat) (u : Value) : RawPost w0 w g t m (w'.setCell ⟨g, i, none⟩ u) := by
  obtain ⟨h1, h2, cs, h3, h4⟩ := h
  exact ⟨below_set h1 hge, h2.setCell (.inl rfl) u, _, blk_set h3 i u, by simpa using h4⟩
theorem RawPost.cell {w0 w w' : World} {g t m : Nat} (h : RawPost w0 w g t m w') (i : Nat) (hi : i < m) : (∃ x, w'.cell? ⟨g, i, none⟩ = some x) ∧ w'.frozen? ⟨g, i, none⟩ = false := by
  obtain ⟨h1, h2, cs, h3, h4⟩ := h
  exact ⟨⟨cs[i]'(by omega), (blk_cell h3 i).trans (Array.getElem?_eq_getElem (by omega))⟩, blk_frozen h3 i⟩
set_option maxHeartbeats 1000000 in
theorem markInt_raw (g cap n : Nat) (a : Int) (w0 w : World) (cs : Array Value) (hB : Below w0.heap.size w0 w) (hge : w0.heap.size ≤ g) (hb : w.heap[g]? = some (.cells cs 3 (0, 0))) (hn : n ≤ cs.size) (hm : n ≤ maxLen) :
    Calls Try.prog 27 #[.slice (some ⟨g, 0, none⟩) n cap, .int .i64 a] w fun e w' => e = .returned (.int .i64 (bump n a)) ∧ RawPost w0 w g 3 cs.size w' := by
  have H0 := Aside0.mk (show RawPost w0 w g 3 cs.size w from ⟨hB, Kept.refl _ _, cs, hb, rfl⟩)
  have HE := Aside0.mk hge
  unfold maxLen at hm
  clear hB hge hb
  go_enter Try.func27, Try.ntmps27
  go_wp2
  go_loopw [1, 5] (fun v1 v5 w' => ∃ (b : Int) (j : Nat), v1 = .int .i64 b ∧ v5 = .int .i64 (j : Int) ∧ j ≤ n ∧ Aside0 (bump (n - j) b = bump n a) ∧ Aside0 (RawPost w0 w g 3 cs.size w')) (fun _ i _ => n - (intOf i).toNat)
  case atStart => exact ⟨a, 0, rfl, rfl, Nat.zero_le _, ⟨rfl⟩, H0⟩
  case round =>
    obtain ⟨b, j, rfl, rfl, hj, HN, HR⟩ := hrel
    by_cases hlt : j < n
    · obtain ⟨⟨x, hx⟩, hf⟩ := HR.out.cell j (by omega)
      have hN : bump (n - (j + 1)) (wrap64 (b + 1)) = bump n a := by rw [← HN.out, show n - j = (n - (j + 1)) + 1 by omega]; rfl
      have HN2 := Aside0.mk hN
      have HR2 := Aside0.mk (HR.out.set HE.out j (.int .i64 b))
      clear hN HN
      go_wp2
      exact ⟨⟨_, j + 1, rfl, by go_num, by omega, HN2, HR2⟩, by simp [intOf]; omega⟩
    · obtain rfl : j = n := by omega
      have HN2 := Aside0.mk (show b = bump j a by rw [← HN.out, Nat.sub_self]; rfl)
      clear HN
      go_wp2
      go_ret
      exact ⟨by rw [HN2.out]; rfl, HR.out⟩
/-- Each call takes ten numbers. -/
def bumpC : Nat → Int → Int
  | 0, a => a
  | n + 1, a => bumpC n (bump 10 a)
set_option maxRecDepth 100000 in
set_option maxHeartbeats 2000000 in
theorem markCall_raw (g cap n : Nat) (a : Int) (w0 w : World) (cs : Array Value) (hB : Below w0.heap.size w0 w) (hge : w0.heap.size ≤ g) (hb : w.heap[g]? = some (.cells cs 75 (0, 0))) (hn : n * 10 ≤ cs.size) (hm : n ≤ maxLen) :
    Calls Try.prog 53 #[.slice (some ⟨g, 0, none⟩) n cap, .int .i64 a] w fun e w' => e = .returned (.int .i64 (bumpC n a)) ∧ RawPost w0 w g 75 cs.size w' := by
  have H0 := Aside0.mk (show RawPost w0 w g 75 cs.size w from ⟨hB, Kept.refl _ _, cs, hb, rfl⟩)
  have HE := Aside0.mk hge
  unfold maxLen at hm
  clear hB hge hb
  go_enter Try.func53, Try.ntmps53
  go_wp2
  go_loopw [1, 5] (fun v1 v5 w' => ∃ (b : Int) (j : Nat), v1 = .int .i64 b ∧ v5 = .int .i64 (j : Int) ∧ j ≤ n ∧ Aside0 (bumpC (n - j) b = bumpC n a) ∧ Aside0 (RawPost w0 w g 75 cs.size w')) (fun _ i _ => n - (intOf i).toNat)
  case atStart => exact ⟨a, 0, rfl, rfl, Nat.zero_le _, ⟨rfl⟩, H0⟩
  case round =>
    obtain ⟨b, j, rfl, rfl, hj, HN, HR⟩ := hrel
    by_cases hlt : j < n
    · obtain ⟨⟨x0, hx0⟩, hf0⟩ := HR.out.cell (j * 10) (by omega)
      obtain ⟨⟨x1, hx1⟩, hf1⟩ := HR.out.cell (j * 10 + 1) (by omega)
      obtain ⟨⟨x2, hx2⟩, hf2⟩ := HR.out.cell (j * 10 + 2) (by omega)
      obtain ⟨⟨x3, hx3⟩, hf3⟩ := HR.out.cell (j * 10 + 3) (by omega)
      obtain ⟨⟨x4, hx4⟩, hf4⟩ := HR.out.cell (j * 10 + 4) (by omega)
      obtain ⟨⟨x5, hx5⟩, hf5⟩ := HR.out.cell (j * 10 + 5) (by omega)
      obtain ⟨⟨x6, hx6⟩, hf6⟩ := HR.out.cell (j * 10 + 6) (by omega)
      obtain ⟨⟨x7, hx7⟩, hf7⟩ := HR.out.cell (j * 10 + 7) (by omega)
      obtain ⟨⟨x8, hx8⟩, hf8⟩ := HR.out.cell (j * 10 + 8) (by omega)
      obtain ⟨⟨x9, hx9⟩, hf9⟩ := HR.out.cell (j * 10 + 9) (by omega)
      have hN : bumpC (n - (j + 1)) (bump 10 b) = bumpC n a := by rw [← HN.out, show n - j = (n - (j + 1)) + 1 by omega]; rfl
      have HN2 := Aside0.mk hN
      clear hN HN
      go_wp2
      exact ⟨⟨_, j + 1, rfl, by go_num, by omega, HN2, ⟨by repeat (with_reducible first | refine RawPost.set ?_ HE.out _ _ | exact HR.out)⟩⟩, by simp [intOf]; omega⟩
    · obtain rfl : j = n := by omega
      have HN2 := Aside0.mk (show b = bumpC j a by rw [← HN.out, Nat.sub_self]; rfl)
      clear HN
      go_wp2
      go_ret
      exact ⟨by rw [HN2.out]; rfl, HR.out⟩
/-- Blocks keep their sizes. -/
def Sh (w w' : World) : Prop := ∀ (b : Nat) (cs : Array Value) (t : TypeId), w.heap[b]? = some (.cells cs t (0, 0)) → ∃ cs' : Array Value, w'.heap[b]? = some (.cells cs' t (0, 0)) ∧ cs'.size = cs.size
theorem Sh.refl (w : World) : Sh w w := fun b cs t h => ⟨cs, h, rfl⟩
theorem Sh.trans {w w1 w2 : World} (h : Sh w w1) (k : Sh w1 w2) : Sh w w2 := fun b cs t hb => by
  obtain ⟨c1, h1, e1⟩ := h b cs t hb
  obtain ⟨c2, h2, e2⟩ := k b c1 t h1
  exact ⟨c2, h2, e2.trans e1⟩
theorem Sh.set (w : World) (g i : Nat) (u : Value) : Sh w (w.setCell ⟨g, i, none⟩ u) := fun b cs t hb => by
  by_cases e : b = g
  · subst e; exact ⟨_, blk_set hb i u, by simp⟩
  · exact ⟨cs, blk_far (p := ⟨g, i, none⟩) hb e u, rfl⟩
/-- What a call that marks rows of the type t leaves: other types' blocks stand as they were. -/
def MarkPost (w0 w : World) (P : Nat → Prop) (t : Nat) (w' : World) : Prop := Below w0.heap.size w0 w' ∧ Kept w w' P ∧ Sh w w' ∧ ∀ (g : Nat) (cs : Array Value) (t' : TypeId), t' ≠ t → w.heap[g]? = some (.cells cs t' (0, 0)) → w'.heap[g]? = some (.cells cs t' (0, 0))
theorem RawPost.mark {w0 w w' : World} {g t : Nat} {cs : Array Value} {P : Nat → Prop} (h : RawPost w0 w g t cs.size w') (hb : w.heap[g]? = some (.cells cs t (0, 0))) (hP : P g) : MarkPost w0 w P t w' := by
  obtain ⟨h1, h2, cs', h3, h4⟩ := h
  refine ⟨h1, h2.mono (fun k hk => by subst hk; exact hP), fun b c t1 hc => ?_, fun b c t1 ht hc => ?_⟩
  · by_cases e : b = g
    · subst e
      rw [hb] at hc
      injection hc with hc
      injection hc with hc1 hc2
      subst hc1 hc2
      exact ⟨cs', h3, h4⟩
    · exact ⟨c, (h2.2 b (blk_lt hc) e).trans hc, rfl⟩
  · refine (h2.2 b (blk_lt hc) ?_).trans hc
    rintro rfl
    rw [hb] at hc
    injection hc with hc
    injection hc with hc1 hc2
    exact ht hc2.symm
/-- A slice over a block of its own, or none: enough cells, whatever they hold. -/
def RawRow (w : World) (base : Nat) (P : Nat → Prop) (t sz : Nat) (v : Value) (n : Nat) : Prop := (v = .slice none 0 0 ∧ n = 0) ∨ ∃ (g cap : Nat) (cs : Array Value), v = .slice (some ⟨g, 0, none⟩) n cap ∧ base ≤ g ∧ P g ∧ w.heap[g]? = some (.cells cs t (0, 0)) ∧ n * sz ≤ cs.size ∧ n ≤ maxLen
theorem RawRow.of_R {α : Type} {d : Kd α} {e base : Nat} {w : World} {ok : Nat → Prop} {v : Value} {xs : List α} (h : Kd.R d e w base ok v xs) : RawRow w base ok e d.sz v xs.length := by
  obtain ⟨h0, inner, ⟨hl, ho⟩, -⟩ := h
  rcases ho with ⟨rfl, hn⟩ | ⟨g, cap, cur, rfl, hg, hh, hc, hm, hs, -⟩
  · exact .inl ⟨rfl, hn⟩
  · exact .inr ⟨g, cap, cur, rfl, hg, h0 g (by simp [Value.ownBlock]), hh, by rw [hs]; exact Nat.mul_le_mul_right _ hc, by omega⟩
theorem RawRow.sh {w w' : World} {base : Nat} {P : Nat → Prop} {t sz : Nat} {v : Value} {n : Nat} (h : RawRow w base P t sz v n) (hs : Sh w w') : RawRow w' base P t sz v n := by
  rcases h with h | ⟨g, cap, cs, h1, h2, h3, h4, h5, h6⟩
  · exact .inl h
  · obtain ⟨c, hc, he⟩ := hs g cs t h4
    exact .inr ⟨g, cap, c, h1, h2, h3, hc, by omega, h6⟩
theorem RawRow.mono {w : World} {base : Nat} {P P' : Nat → Prop} {t sz : Nat} {v : Value} {n : Nat} (h : RawRow w base P t sz v n) (hp : ∀ k, P k → P' k) : RawRow w base P' t sz v n := by
  rcases h with h | ⟨g, cap, cs, h1, h2, h3, h4⟩
  · exact .inl h
  · exact .inr ⟨g, cap, cs, h1, h2, hp g h3, h4⟩
theorem MarkPost.refl {w0 w : World} {P : Nat → Prop} {t : Nat} (hB : Below w0.heap.size w0 w) : MarkPost w0 w P t w := ⟨hB, Kept.refl _ _, Sh.refl _, fun _ _ _ _ h => h⟩
theorem markInt_nil (a : Int) (w : World) : Calls Try.prog 27 #[.slice none 0 0, .int .i64 a] w fun e w' => e = .returned (.int .i64 a) ∧ w = w' := by
  go_enter Try.func27, Try.ntmps27
  go_wp2
  refine wp_loop_rounds 1 ?_
  rw [rounds_succ]
  go_wp2
  go_ret
  exact ⟨rfl, rfl⟩
set_option maxRecDepth 100000 in
theorem markCall_nil (a : Int) (w : World) : Calls Try.prog 53 #[.slice none 0 0, .int .i64 a] w fun e w' => e = .returned (.int .i64 a) ∧ w = w' := by
  go_enter Try.func53, Try.ntmps53
  go_wp2
  refine wp_loop_rounds 1 ?_
  rw [rounds_succ]
  go_wp2
  go_ret
  exact ⟨rfl, rfl⟩
theorem markInt_row (w0 w : World) (P : Nat → Prop) (v : Value) (n : Nat) (a : Int) (hB : Below w0.heap.size w0 w) (h : RawRow w w0.heap.size P 3 1 v n) : Calls Try.prog 27 #[v, .int .i64 a] w fun e w' => e = .returned (.int .i64 (bump n a)) ∧ MarkPost w0 w P 3 w' := by
  rcases h with ⟨rfl, rfl⟩ | ⟨g, cap, cs, rfl, h2, h3, h4, h5, h6⟩
  · exact (markInt_nil a w).mono fun e w' ⟨h1, h2⟩ => by subst h2; exact ⟨h1, MarkPost.refl hB⟩
  · exact (markInt_raw g cap n a w0 w cs hB h2 h4 (by omega) h6).mono fun e w' ⟨h1, h2⟩ => ⟨h1, h2.mark h4 h3⟩
theorem markCall_row (w0 w : World) (P : Nat → Prop) (v : Value) (n : Nat) (a : Int) (hB : Below w0.heap.size w0 w) (h : RawRow w w0.heap.size P 75 10 v n) : Calls Try.prog 53 #[v, .int .i64 a] w fun e w' => e = .returned (.int .i64 (bumpC n a)) ∧ MarkPost w0 w P 75 w' := by
  rcases h with ⟨rfl, rfl⟩ | ⟨g, cap, cs, rfl, h2, h3, h4, h5, h6⟩
  · exact (markCall_nil a w).mono fun e w' ⟨h1, h2⟩ => by subst h2; exact ⟨h1, MarkPost.refl hB⟩
  · exact (markCall_raw g cap n a w0 w cs hB h2 h4 h5 h6).mono fun e w' ⟨h1, h2⟩ => ⟨h1, h2.mark h4 h3⟩
/-- What the threads' marks come to. -/
def bumpT : List S55 → Int → Int
  | [], a => a
  | t :: l, a => bumpT l (bump t.f3.length (bump t.f2.length (wrap64 (bumpC t.f0.length a + 1))))
/-- While threads are marked: the row's cells but the marks stand as they stood. -/
def Mid (w0 w : World) (P : Nat → Prop) (g : Nat) (cs : Array Value) (w' : World) : Prop := Below w0.heap.size w0 w' ∧ Kept w w' P ∧ Sh w w' ∧ ∃ cs' : Array Value, w'.heap[g]? = some (.cells cs' 55 (0, 0)) ∧ cs'.size = cs.size ∧ ∀ i, i % 4 ≠ 1 → cs'[i]? = cs[i]?
theorem Kept.trans_ {w w1 w2 : World} {S : Nat → Prop} (h : Kept w w1 S) (k : Kept w1 w2 S) : Kept w w2 S := ⟨Nat.le_trans h.1 k.1, fun i hi hn => (k.2 i (Nat.lt_of_lt_of_le hi h.1) hn).trans (h.2 i hi hn)⟩
theorem Mid.call {w0 w w1 w2 : World} {P : Nat → Prop} {g t : Nat} {cs : Array Value} (h : Mid w0 w P g cs w1) (k : MarkPost w0 w1 P t w2) (ht : t ≠ 55) : Mid w0 w P g cs w2 := by
  obtain ⟨h1, h2, h3, c, h4, h5, h6⟩ := h
  obtain ⟨k1, k2, k3, k4⟩ := k
  exact ⟨k1, Kept.trans_ h2 k2, h3.trans k3, c, k4 g c 55 (Ne.symm ht) h4, h5, h6⟩
theorem Mid.store {w0 w w1 : World} {P : Nat → Prop} {g : Nat} {cs : Array Value} (h : Mid w0 w P g cs w1) (hge : w0.heap.size ≤ g) (hP : P g) (j : Nat) (u : Value) : Mid w0 w P g cs (w1.setCell ⟨g, j * 4 + 1, none⟩ u) := by
  obtain ⟨h1, h2, h3, c, h4, h5, h6⟩ := h
  refine ⟨below_set h1 hge, h2.setCell (.inl hP) u, h3.trans (Sh.set _ _ _ _), _, blk_set h4 _ u, by simpa using h5, fun i hi => ?_⟩
  rw [Array.getElem?_setIfInBounds, if_neg (by omega)]
  exact h6 i hi
theorem Mid.cell {w0 w w1 : World} {P : Nat → Prop} {g : Nat} {cs : Array Value} (h : Mid w0 w P g cs w1) (i : Nat) (hi : i % 4 ≠ 1) {u : Value} (hu : cs[i]? = some u) : w1.cell? ⟨g, i, none⟩ = some u := by
  obtain ⟨h1, h2, h3, c, h4, h5, h6⟩ := h
  exact (blk_cell h4 i).trans ((h6 i hi).trans hu)
theorem Mid.at_ {w0 w w1 : World} {P : Nat → Prop} {g : Nat} {cs : Array Value} (h : Mid w0 w P g cs w1) (i : Nat) (hi : i < cs.size) : (∃ x, w1.cell? ⟨g, i, none⟩ = some x) ∧ ∀ j, w1.frozen? ⟨g, j, none⟩ = false := by
  obtain ⟨h1, h2, h3, c, h4, h5, h6⟩ := h
  exact ⟨⟨c[i]'(by omega), (blk_cell h4 i).trans (Array.getElem?_eq_getElem (by omega))⟩, fun j => blk_frozen h4 j⟩
theorem row_at {w : World} {base g n cap : Nat} {P : Nat → Prop} {l : List S55} (h : Kd.R k55 55 w base P (.slice (some ⟨g, 0, none⟩) n cap) l) (j : Nat) (hj : j < n) (cs : Array Value) (hb : w.heap[g]? = some (.cells cs 55 (0, 0))) :
    ∃ v0 v2 v3, cs[j * 4]? = some v0 ∧ cs[j * 4 + 2]? = some v2 ∧ cs[j * 4 + 3]? = some v3 ∧ RawRow w base P 75 10 v0 (l.getD j z55).f0.length ∧ RawRow w base P 3 1 v2 (l.getD j z55).f2.length ∧ RawRow w base P 3 1 v3 (l.getD j z55).f3.length := by
  obtain ⟨c, hcl, hM, hc, -⟩ := Kd.R_elem h z55 (j : Int) (by omega) (by omega)
  obtain ⟨v0, v2, v3, rfl, r0, r2, r3⟩ := k55_openM hM
  have hc' : ∀ i u, [v0, .int .i64 _, v2, v3][i]? = some u → cs[j * 4 + i]? = some u := fun i u hu => by
    have := hc i u hu
    rw [blk_cell hb] at this
    simpa [show k55.sz = 4 from rfl] using this
  exact ⟨v0, v2, v3, hc' 0 _ rfl, hc' 2 _ rfl, hc' 3 _ rfl, (RawRow.of_R r0).mono (fun k hk => hk.1), (RawRow.of_R r2).mono (fun k hk => hk.1), (RawRow.of_R r3).mono (fun k hk => hk.1)⟩
/-- Threads' rows as cells: whatever their numbers, their lengths are l's. -/
def RawThreads (w : World) (base : Nat) (P : Nat → Prop) (v : Value) (l : List S55) : Prop := (v = .slice none 0 0 ∧ l = []) ∨ ∃ (g cap : Nat) (cs : Array Value), v = .slice (some ⟨g, 0, none⟩) l.length cap ∧ base ≤ g ∧ P g ∧ w.heap[g]? = some (.cells cs 55 (0, 0)) ∧ l.length * 4 ≤ cs.size ∧ l.length ≤ maxLen ∧ ∀ j, j < l.length → ∃ v0 v2 v3, cs[j * 4]? = some v0 ∧ cs[j * 4 + 2]? = some v2 ∧ cs[j * 4 + 3]? = some v3 ∧ RawRow w base P 75 10 v0 (l.getD j z55).f0.length ∧ RawRow w base P 3 1 v2 (l.getD j z55).f2.length ∧ RawRow w base P 3 1 v3 (l.getD j z55).f3.length
theorem RawThreads.of_R {w : World} {base : Nat} {P : Nat → Prop} {v : Value} {l : List S55} (h : Kd.R k55 55 w base P v l) : RawThreads w base P v l := by
  rcases RawRow.of_R h with ⟨rfl, hn⟩ | ⟨g, cap, cs, rfl, h2, h3, h4, h5, h6⟩
  · exact .inl ⟨rfl, List.length_eq_zero_iff.1 hn⟩
  · exact .inr ⟨g, cap, cs, rfl, h2, h3, h4, h5, h6, fun j hj => row_at h j hj cs h4⟩
theorem RawThreads.mark {w0 w w' : World} {base t : Nat} {P Q : Nat → Prop} {v : Value} {l : List S55} (h : RawThreads w base P v l) (k : MarkPost w0 w Q t w') (ht : t ≠ 55) : RawThreads w' base P v l := by
  rcases h with h | ⟨g, cap, cs, h1, h2, h3, h4, h5, h6, h7⟩
  · exact .inl h
  · refine .inr ⟨g, cap, cs, h1, h2, h3, k.2.2.2 g cs 55 (Ne.symm ht) h4, h5, h6, fun j hj => ?_⟩
    obtain ⟨v0, v2, v3, e0, e2, e3, r0, r2, r3⟩ := h7 j hj
    exact ⟨v0, v2, v3, e0, e2, e3, r0.sh k.2.2.1, r2.sh k.2.2.1, r3.sh k.2.2.1⟩
theorem Sh.below {w w' : World} (hb : Below w.heap.size w w') : Sh w w' := fun b cs t h => ⟨cs, (hb.block b (blk_lt h)).trans h, rfl⟩
theorem MarkPost.behind {w0 w w1 w2 : World} {P : Nat → Prop} {t : Nat} (hb : Below w.heap.size w w1) (h : MarkPost w0 w1 P t w2) : MarkPost w0 w P t w2 := by
  obtain ⟨h1, h2, h3, h4⟩ := h
  exact ⟨h1, Kept.trans_ ⟨hb.size, fun i hi _ => hb.block i hi⟩ h2, (Sh.below hb).trans h3, fun g cs t' ht hc => h4 g cs t' ht ((hb.block g (blk_lt hc)).trans hc)⟩
theorem RawThreads.below {w w' : World} {base : Nat} {P : Nat → Prop} {v : Value} {l : List S55} (h : RawThreads w base P v l) (hb : Below w.heap.size w w') : RawThreads w' base P v l := by
  rcases h with h | ⟨g, cap, cs, h1, h2, h3, h4, h5, h6, h7⟩
  · exact .inl h
  · refine .inr ⟨g, cap, cs, h1, h2, h3, (hb.block g (blk_lt h4)).trans h4, h5, h6, fun j hj => ?_⟩
    obtain ⟨v0, v2, v3, e0, e2, e3, r0, r2, r3⟩ := h7 j hj
    exact ⟨v0, v2, v3, e0, e2, e3, r0.sh (Sh.below hb), r2.sh (Sh.below hb), r3.sh (Sh.below hb)⟩
theorem RawThreads.mono {w : World} {base : Nat} {P P' : Nat → Prop} {v : Value} {l : List S55} (h : RawThreads w base P v l) (hp : ∀ k, P k → P' k) : RawThreads w base P' v l := by
  rcases h with h | ⟨g, cap, cs, h1, h2, h3, h4, h5, h6, h7⟩
  · exact .inl h
  · refine .inr ⟨g, cap, cs, h1, h2, hp g h3, h4, h5, h6, fun j hj => ?_⟩
    obtain ⟨v0, v2, v3, e0, e2, e3, r0, r2, r3⟩ := h7 j hj
    exact ⟨v0, v2, v3, e0, e2, e3, r0.mono hp, r2.mono hp, r3.mono hp⟩
set_option maxRecDepth 100000 in
set_option maxHeartbeats 4000000 in
theorem markThreads (w0 w : World) (P : Nat → Prop) (v : Value) (l : List S55) (a : Int) (hB : Below w0.heap.size w0 w) (h : RawThreads w w0.heap.size P v l) : Calls Try.prog 17 #[v, .int .i64 a] w fun e w' => e = .returned (.int .i64 (bumpT l a)) ∧ Below w0.heap.size w0 w' ∧ Kept w w' P := by
  rcases h with ⟨rfl, rfl⟩ | ⟨g, cap, cs, rfl, h2, h3, h4, h5, h6, h⟩
  · go_enter Try.func17, Try.ntmps17
    go_wp2
    refine wp_loop_rounds 1 ?_
    rw [rounds_succ]
    go_wp2
    go_ret
    exact ⟨rfl, hB, Kept.refl _ _⟩
  · have H0 := Aside0.mk (show Mid w0 w P g cs w from ⟨hB, Kept.refl _ _, Sh.refl _, cs, h4, rfl, fun _ _ => rfl⟩)
    have HE := Aside0.mk h2
    have HP := Aside0.mk h3
    have HR := Aside0.mk h
    have H4 := Aside0.mk h4
    have H5 := Aside0.mk (show l.length * 4 ≤ cs.size from h5)
    unfold maxLen at h6
    clear hB h2 h3 h h4 h5
    go_enter Try.func17, Try.ntmps17
    go_wp2
    go_loopw [1, 5] (fun v1 v5 w' => ∃ (b : Int) (j : Nat), v1 = .int .i64 b ∧ v5 = .int .i64 (j : Int) ∧ j ≤ l.length ∧ Aside0 (bumpT (l.drop j) b = bumpT l a) ∧ Aside0 (Mid w0 w P g cs w')) (fun _ i _ => l.length - (intOf i).toNat)
    case atStart => exact ⟨a, 0, rfl, rfl, Nat.zero_le _, ⟨rfl⟩, H0⟩
    case round =>
      obtain ⟨b, j, rfl, rfl, hj, HN, HM⟩ := hrel
      by_cases hlt : j < l.length
      · obtain ⟨v0, v2, v3, e0, e2, e3, r0, r2, r3⟩ := HR.out j hlt
        have R0 := Aside0.mk r0
        have R2 := Aside0.mk r2
        have R3 := Aside0.mk r3
        have E2 := Aside0.mk e2
        have E3 := Aside0.mk e3
        have hx0 := HM.out.cell (j * 4) (by omega) e0
        clear r0 r2 r3 e2 e3 e0
        have hN : bumpT (l.drop (j + 1)) (bump (l.getD j z55).f3.length (bump (l.getD j z55).f2.length (wrap64 (bumpC (l.getD j z55).f0.length b + 1)))) = bumpT l a := by
          rw [← HN.out, List.drop_eq_getElem_cons hlt]
          simp only [bumpT, List.getD_eq_getElem?_getD, List.getElem?_eq_getElem hlt, Option.getD_some]
        have HN2 := Aside0.mk hN
        clear hN HN
        generalize (l.getD j z55).f0.length = n0 at *
        generalize (l.getD j z55).f2.length = n2 at *
        generalize (l.getD j z55).f3.length = n3 at *
        go_wp2_with fail
        refine (markCall_row w0 wr P v0 n0 b HM.out.1 (R0.out.sh HM.out.2.2.1)).mono ?_
        rintro e w1 ⟨rfl, hm1⟩
        have HM1 := Aside0.mk (HM.out.call hm1 (by decide))
        clear hm1
        obtain ⟨⟨x1, hx1⟩, hf1⟩ := HM1.out.at_ (j * 4 + 1) (by have := H5.out; omega)
        have hf11 := hf1 (j * 4 + 1)
        clear hf1
        have hx2 := HM1.out.cell (j * 4 + 2) (by omega) E2.out
        have HM2 := Aside0.mk (HM1.out.store HE.out HP.out j (.int .i64 (bumpC n0 b)))
        go_wp2_with fail
        refine (markInt_row w0 _ P v2 n2 _ HM2.out.1 (R2.out.sh HM2.out.2.2.1)).mono ?_
        rintro e w2 ⟨rfl, hm2⟩
        have HM3 := Aside0.mk (HM2.out.call hm2 (by decide))
        clear hm2 HM2 HM1 hf11 hx1 hx2
        have hx3 := HM3.out.cell (j * 4 + 3) (by omega) E3.out
        go_wp2_with fail
        refine (markInt_row w0 _ P v3 n3 _ HM3.out.1 (R3.out.sh HM3.out.2.2.1)).mono ?_
        rintro e w3 ⟨rfl, hm3⟩
        have HM4 := Aside0.mk (HM3.out.call hm3 (by decide))
        clear hm3 hx3
        go_wp2
        exact ⟨⟨_, j + 1, rfl, by go_num, by omega, HN2, HM4⟩, by simp [intOf]; omega⟩
      · obtain rfl : j = l.length := by omega
        have HN2 := Aside0.mk (show b = bumpT l a by rw [← HN.out, List.drop_length]; rfl)
        clear HN
        go_wp2
        go_ret
        exact ⟨by rw [HN2.out]; rfl, HM.out.1, HM.out.2.1⟩
/-- 'markMem', over a row of whatever numbers. -/
theorem markMem_row (w0 w : World) (P : Nat → Prop) (v : Value) (n : Nat) (a : Int) (hB : Below w0.heap.size w0 w) (h : RawRow w w0.heap.size P 3 1 v n) : Calls Try.prog 54 #[.agg #[v], .int .i64 a] w fun e w' => e = .returned (.int .i64 (bump n a)) ∧ MarkPost w0 w P 3 w' := by
  have hu26 := Try.underlying26
  have HA := Aside0.mk h
  have HB := Aside0.mk hB
  clear h hB
  go_enter Try.func54, Try.ntmps54
  go_wp2_with fail
  have hb0 := below_alloc (Below.refl w.heap.size w) (.cells #[v] 26 (0, 0))
  refine (markInt_row w0 _ P v n a (below_alloc HB.out _) (HA.out.sh (Sh.below hb0))).mono ?_
  rintro e w1 ⟨rfl, hm⟩
  have HM := Aside0.mk (hm.behind hb0)
  clear hm hb0
  go_wp2
  go_ret
  exact ⟨rfl, HM.out⟩
def laws_markThreadS.f (l0 : List (S55)) (a1 : Int) : Option (Int) := some (bumpT l0 a1)
theorem laws_markThreadS.calls (P0_ : Nat → Prop) (u9000_ : Value) (l0 : List (S55)) (a1 : Int) (r1 : Int) (w0 w : World) (hB : Below w0.heap.size w0 w) (ho0 : Kd.R k55 55 w w0.heap.size P0_ u9000_ l0) (h : laws_markThreadS.f l0 a1 = some r1) :
    Calls Try.prog 17 #[u9000_, .int .i64 a1] w fun e w' => e = .returned (.int .i64 r1) ∧ Below w0.heap.size w0 w' ∧ Kept w w' (fun k_ => P0_ k_) := by
  obtain rfl : bumpT l0 a1 = r1 := by injection h
  exact markThreads w0 w P0_ u9000_ l0 a1 hB (RawThreads.of_R ho0)


/-! ### laws_markMem: function 54 -/
def laws_markMem.f (k : Nat) (l0_0 : List Int) (a1 : Int) : Option (Int × List Int) := (laws_markIntS.f k l0_0 a1).bind fun bt135 => (some (bt135.1, bt135.2))
theorem laws_markMem.mono : ∀ a0 a1 k, LeO (laws_markMem.f k a0 a1) (laws_markMem.f (k + 1) a0 a1) := by
  intro a0 a1 k
  unfold laws_markMem.f
  repeat' first
      | (with_reducible exact laws_markIntS.mono _ _ _)
      | (with_reducible exact LeO.refl _)
      | (with_reducible exact LeO.none _)
      | (with_reducible refine LeO.ite ?_ ?_)
      | (with_reducible refine LeO.bind ?_ (fun _ => ?_))
      | exact laws_markIntS.mono _ _ _
      | exact LeO.none _
      | refine LeO.ite ?_ ?_
      | refine LeO.bind ?_ (fun _ => ?_)
set_option maxHeartbeats 8000000 in
set_option maxRecDepth 100000 in
theorem laws_markMem.calls (k : Nat) (P0_0_ : Nat → Prop) (u9000_ : Value) (l0_0 : List Int) (a1 : Int) (r1 : Int) (r2 : List Int) (w0 w : World) (hB : Below w0.heap.size w0 w) (ho0_0 : Kd.R (Kd.int .i64) 3 w w0.heap.size P0_0_ u9000_ l0_0) (h : laws_markMem.f k l0_0 a1 = some (r1, r2)) :
    Calls Try.prog 54 #[.agg #[u9000_], .int .i64 a1] w fun e w' => e = .returned (.int .i64 r1) ∧ Kd.R (Kd.int .i64) 3 w' w0.heap.size (fun k_ => (P0_0_ k_ ∨ w.heap.size ≤ k_)) u9000_ r2 ∧ Below w0.heap.size w0 w' ∧ Kept w w' (fun k_ => P0_0_ k_) := by
  have hu26 := Try.underlying26
  have HO0_0 := Aside0.mk (show Kd.R (Kd.int .i64) 3 w w0.heap.size (fun k_ => (P0_0_ k_ ∨ w.heap.size ≤ k_)) u9000_ l0_0 from Kd.R_mono ho0_0 (fun k_ hk => (.inl hk)))
  have HK := Aside0.mk (Kept.refl w (fun k_ => P0_0_ k_))
  have HW0 := Aside0.mk hB.size
  have HB := Aside0.mk hB
  clear hB
  have H : ((laws_markIntS.f k l0_0 a1).bind fun bt135 => (some (bt135.1, bt135.2))) = some (r1, r2) := h
  clear h
  replace H := Option.bind_eq_some_iff.mp H
  obtain ⟨⟨t135, t136⟩, A30, H⟩ := H
  replace H : (some (t135, t136)) = some (r1, r2) := H
  have A3 := Aside0.mk A30
  clear A30
  simp only [Option.some.injEq, Prod.mk.injEq] at H
  obtain ⟨rfl, rfl⟩ := H
  obtain ⟨Ao4, co4, eo4⟩ := Kd.R_slice HO0_0.out
  subst eo4
  go_enter Try.func54, Try.ntmps54
  go_wp2_with (first | ((with_reducible refine gate_dst (N := 2) rfl ?_); refine box_event ?hg (N := 2) ?hd (cs := #[.slice Ao4 l0_0.length co4]) (t := 26) ?hr ?_; (case hd => rfl); (case hg => rfl); (case hr => first | (go_simp; done) | (go_simp; rfl)); intro gb134 hg w5 hbox hb; have n0_ := Aside0.mk (Kd.R_below (by (with_reducible repeat (first | apply Kd.R_alloc | apply Kd.R_drewN | apply Kd.R_drew)); exact HO0_0.out) hb); have n1_ := Aside0.mk (Kept.below (S := (fun k_ => P0_0_ k_)) (by repeat (first | (with_reducible first | exact HK.out | apply Kept.alloc | apply Kept.drewN | apply Kept.drew) | exact HK.out)) hb); have n2_ := Aside0.mk (below_step (by repeat (first | (with_reducible first | exact HB.out | apply below_alloc | apply pw_below_drewN | apply below_drew1) | exact HB.out)) hb); have n3_ := Aside0.mk (hbox); have n4_ := Aside0.mk ((by rw [hg]; exact (by first | exact HK.out.1 | exact (show Kept w _ (fun k_ => P0_0_ k_) from by repeat (first | (with_reducible first | exact HK.out | apply Kept.alloc | apply Kept.drewN | apply Kept.drew) | exact HK.out)).1) : w.heap.size ≤ gb134)); have n5_ := Aside0.mk ((by rw [hg]; exact (below_size (by repeat (first | (with_reducible first | exact HB.out | apply below_alloc | apply pw_below_drewN | apply below_drew1) | exact HB.out))) : w0.heap.size ≤ gb134)); clear HO0_0; clear HK; clear HB; have HO0_0 := n0_; have HK := n1_; have HB := n2_; have BK134 := n3_; have GW134 := n4_; have GE134 := n5_; clear n0_ n1_ n2_ n3_ n4_ n5_; clear hb hbox hg; have hcz6_0 : w5.cell? ⟨gb134, 0, none⟩ = some (.slice Ao4 l0_0.length co4) := (blk_cell BK134.out 0).trans rfl; have hfz6_0 := blk_frozen BK134.out 0) | ((with_reducible refine gate_callee (f := 27) rfl ?_); refine goesL_ (some 8) rfl rfl Try.func27 (by kernel_rfl) rfl #[.slice Ao4 l0_0.length co4, .int .i64 a1] rfl (by (try simp only [List.map_toArray, List.map_cons, List.map_nil]); first | done | rfl | (simp only [List.length_drop, List.length_take]; rfl)) ?_; (with_reducible refine (laws_markIntS.calls k (fun k_ => some k_ = (.slice Ao4 l0_0.length co4 : Value).ownBlock) (.slice Ao4 l0_0.length co4) l0_0 a1 t135 t136 w0 _ ?side1 ?side2 A3.out).mono ?_); (case side1 => repeat (first | (with_reducible first | exact HB.out | apply below_alloc | apply pw_below_drewN | apply below_drew1 | refine below_set ?_ GE134.out) | exact HB.out)); (case side2 => exact Kd.R_tight rfl HO0_0.out); rintro e w7 ⟨rfl, hy0, hb, hkp⟩; refine ⟨_, rfl, ?_⟩; have n0_ := Aside0.mk (Kd.R_reok rfl hy0 (fun k_ e_ => HO0_0.out.1 k_ e_)); have n1_ := Aside0.mk (blk_kept (by (with_reducible repeat (first | refine blk_drewN ?_ _ | refine blk_drew ?_ | refine blk_alloc ?_ _)); exact BK134.out) hkp (fun hs_ => (fun e_ => (Kd.R_ne HO0_0.out BK134.out (by decide)) e_) hs_)); have n2_ := Aside0.mk (Kept.then_ (S := (fun k_ => P0_0_ k_)) (by repeat (first | (with_reducible first | exact HK.out | apply Kept.alloc | apply Kept.drewN | apply Kept.drew | refine Kept.setCell ?_ (.inr GW134.out) _) | exact HK.out)) hkp (fun k_ hs_ => (fun e_ => (HO0_0.out.1 k_ e_.symm)) hs_)); have n3_ := Aside0.mk (hb); clear HO0_0; clear BK134; clear HK; clear HB; have HO0_0 := n0_; have BK134 := n1_; have HK := n2_; have HB := n3_; clear n0_ n1_ n2_ n3_; (try clear hb); (try clear hkp); (try clear hy0)))
  go_ret
  exact ⟨by first | rfl | (simp [errW_none, errW_some] <;> rfl) | (simp [*, errW_none, errW_some] <;> rfl), by (with_reducible repeat (first | apply Kd.R_alloc | apply Kd.R_drewN | apply Kd.R_drew)); exact HO0_0.out, by repeat (first | (with_reducible first | exact HB.out | apply below_alloc | apply pw_below_drewN | apply below_drew1 | refine below_set ?_ GE134.out) | exact HB.out), by repeat (first | (with_reducible first | exact HK.out | apply Kept.alloc | apply Kept.drewN | apply Kept.drew | refine Kept.setCell ?_ (.inr GW134.out) _) | exact HK.out)⟩

/-! ### laws_markCrew: function 18 (walked by hand) -/
set_option maxRecDepth 100000 in
theorem markCrew_raw (a0 a1 a4 : Int) (w0 w : World) (P Q : Nat → Prop) (u v : Value) (n : Nat) (l : List S55) (a : Int) (hB : Below w0.heap.size w0 w) (h : RawRow w w0.heap.size P 3 1 u n) (h2 : RawThreads w w0.heap.size Q v l) :
    Calls Try.prog 18 #[.agg #[.int .i64 a0, .int .i64 a1, u, v, .int .i64 a4], .int .i64 a] w fun e w' => e = .returned (.int .i64 (bumpT l (bump n a))) ∧ Below w0.heap.size w0 w' ∧ Kept w w' (fun k_ => P k_ ∨ Q k_) := by
  have hu29 := Try.underlying29
  have HA := Aside0.mk h
  have HT := Aside0.mk h2
  have HB := Aside0.mk hB
  clear h h2 hB
  go_enter Try.func18, Try.ntmps18
  go_wp2_with fail
  have hb0 := below_alloc (Below.refl w.heap.size w) (.cells #[.int .i64 a0, .int .i64 a1, u, v, .int .i64 a4] 29 (0, 0))
  have HB0 := Aside0.mk hb0
  refine (markMem_row w0 _ P u n a (below_alloc HB.out _) (HA.out.sh (Sh.below hb0))).mono ?_
  rintro e w1 ⟨rfl, hm⟩
  have hc : w1.heap[w.heap.size]? = some (.cells #[.int .i64 a0, .int .i64 a1, u, v, .int .i64 a4] 29 (0, 0)) := hm.2.2.2 _ _ 29 (by decide) (by simpa using heap_alloc_new w _)
  have hc3 : w1.cell? ⟨w.heap.size, 3, none⟩ = some v := (blk_cell hc 3).trans rfl
  have HM := Aside0.mk hm
  have HT1 := Aside0.mk ((HT.out.below hb0).mark hm (by decide))
  clear hm hc hb0
  go_wp2_with fail
  refine (markThreads w0 w1 Q v l _ HM.out.1 HT1.out).mono ?_
  rintro e w2 ⟨rfl, hb2, hk2⟩
  have HK := Aside0.mk (show Kept w w2 (fun k_ => P k_ ∨ Q k_) from Kept.trans_ ((HM.out.behind HB0.out).2.1.mono (fun _ h => .inl h)) (hk2.mono (fun _ h => .inr h)))
  have HB2 := Aside0.mk hb2
  clear hb2 hk2
  go_wp2
  go_ret
  exact ⟨rfl, HB2.out, HK.out⟩
def laws_markCrew.f (a0_0 : Int) (a0_1 : Int) (l0_2 : List Int) (l0_3 : List (S55)) (a0_4 : Int) (a1 : Int) : Option (Int) := some (bumpT l0_3 (bump l0_2.length a1))
theorem laws_markCrew.calls (a0_0 : Int) (a0_1 : Int) (P0_2_ : Nat → Prop) (u9000_ : Value) (l0_2 : List Int) (P0_3_ : Nat → Prop) (u9001_ : Value) (l0_3 : List (S55)) (a0_4 : Int) (a1 : Int) (r1 : Int) (w0 w : World) (hB : Below w0.heap.size w0 w) (ho0_2 : Kd.R (Kd.int .i64) 3 w w0.heap.size P0_2_ u9000_ l0_2) (ho0_3 : Kd.R k55 55 w w0.heap.size P0_3_ u9001_ l0_3) (h : laws_markCrew.f a0_0 a0_1 l0_2 l0_3 a0_4 a1 = some r1) :
    Calls Try.prog 18 #[.agg #[.int .i64 a0_0, .int .i64 a0_1, u9000_, u9001_, .int .i64 a0_4], .int .i64 a1] w fun e w' => e = .returned (.int .i64 r1) ∧ Below w0.heap.size w0 w' ∧ Kept w w' (fun k_ => P0_2_ k_ ∨ P0_3_ k_) := by
  obtain rfl : bumpT l0_3 (bump l0_2.length a1) = r1 := by injection h
  exact markCrew_raw a0_0 a0_1 a0_4 w0 w P0_2_ P0_3_ u9000_ u9001_ l0_2.length l0_3 a1 hB (RawRow.of_R ho0_2) (RawThreads.of_R ho0_3)


/-! ### laws_szCallS: function 64 -/
def laws_szCallS.f (l0 : List (S106)) (a1 : Int) : Option (Int) := if (wrap64 (a1 - (l0.length : Int))) < 0 then (some (-1)) else (some (wrap64 (a1 - (l0.length : Int))))
set_option maxHeartbeats 8000000 in
set_option maxRecDepth 100000 in
theorem laws_szCallS.calls (A0 : Option Addr) (c0 : Nat) (l0 : List (S106)) (a1 : Int) (r : Int) (w : World) (hr0 : Kd.C k106 w A0 l0.length l0) (hc0 : l0.length ≤ c0) (h : laws_szCallS.f l0 a1 = some r) :
    Calls Try.prog 64 #[.slice A0 l0.length c0, .int .i64 a1] w fun e w' => e = .returned (.int .i64 r) ∧ Drawn0 w w' := by
  have HR0 := Aside0.mk hr0
  have HC0 := Aside0.mk hc0
  clear hr0 hc0
  have H : (if (wrap64 (a1 - (l0.length : Int))) < 0 then (some (-1)) else (some (wrap64 (a1 - (l0.length : Int))))) = some r := h
  clear h
  by_cases c3 : (wrap64 (a1 - (l0.length : Int))) < 0
  · rw [if_pos c3] at H
    have c3b0 : decide ((wrap64 (a1 - (l0.length : Int))) < 0) = true := decide_eq_true c3
    clear c3
    obtain rfl := Option.some.inj H
    go_enter Try.func64, Try.ntmps64
    go_wp2
    go_ret
    exact ⟨by first | rfl | (simp; done) | (simp [*]; done), by repeat (first | exact Drawn0.refl _ | apply Drawn0.step)⟩
  · rw [if_neg c3] at H
    have c3b0 : decide ((wrap64 (a1 - (l0.length : Int))) < 0) = false := decide_eq_false c3
    clear c3
    obtain rfl := Option.some.inj H
    go_enter Try.func64, Try.ntmps64
    go_wp2
    go_ret
    exact ⟨by first | rfl | (simp; done) | (simp [*]; done), by repeat (first | exact Drawn0.refl _ | apply Drawn0.step)⟩

/-! ### laws_szIntS: function 65 -/
def laws_szIntS.f (l0 : List Int) (a1 : Int) : Option (Int) := if (wrap64 (a1 - (l0.length : Int))) < 0 then (some (-1)) else (some (wrap64 (a1 - (l0.length : Int))))
set_option maxHeartbeats 8000000 in
set_option maxRecDepth 100000 in
theorem laws_szIntS.calls (A0 : Option Addr) (c0 : Nat) (l0 : List Int) (a1 : Int) (r : Int) (w : World) (hr0 : Kd.C (Kd.int .i64) w A0 l0.length l0) (hc0 : l0.length ≤ c0) (h : laws_szIntS.f l0 a1 = some r) :
    Calls Try.prog 65 #[.slice A0 l0.length c0, .int .i64 a1] w fun e w' => e = .returned (.int .i64 r) ∧ Drawn0 w w' := by
  have HR0 := Aside0.mk hr0
  have HC0 := Aside0.mk hc0
  clear hr0 hc0
  have H : (if (wrap64 (a1 - (l0.length : Int))) < 0 then (some (-1)) else (some (wrap64 (a1 - (l0.length : Int))))) = some r := h
  clear h
  by_cases c3 : (wrap64 (a1 - (l0.length : Int))) < 0
  · rw [if_pos c3] at H
    have c3b0 : decide ((wrap64 (a1 - (l0.length : Int))) < 0) = true := decide_eq_true c3
    clear c3
    obtain rfl := Option.some.inj H
    go_enter Try.func65, Try.ntmps65
    go_wp2
    go_ret
    exact ⟨by first | rfl | (simp; done) | (simp [*]; done), by repeat (first | exact Drawn0.refl _ | apply Drawn0.step)⟩
  · rw [if_neg c3] at H
    have c3b0 : decide ((wrap64 (a1 - (l0.length : Int))) < 0) = false := decide_eq_false c3
    clear c3
    obtain rfl := Option.some.inj H
    go_enter Try.func65, Try.ntmps65
    go_wp2
    go_ret
    exact ⟨by first | rfl | (simp; done) | (simp [*]; done), by repeat (first | exact Drawn0.refl _ | apply Drawn0.step)⟩

/-! ### laws_szThread: function 29 -/
def laws_szThread.f (l0_0 : List (S106)) (a0_1 : Int) (l0_2 : List Int) (l0_3 : List Int) (a1 : Int) : Option (Int) := (laws_szCallS.f l0_0 a1).bind fun t138 => (if t138 < 0 then (some (-1)) else ((laws_szIntS.f l0_2 t138).bind fun t139 => (if t139 < 0 then (some (-1)) else ((laws_szIntS.f l0_3 t139).bind fun t140 => (if t140 < 0 then (some (-1)) else (some t140))))))
set_option maxHeartbeats 8000000 in
set_option maxRecDepth 100000 in
theorem laws_szThread.calls (A0_0 : Option Addr) (c0_0 : Nat) (l0_0 : List (S106)) (a0_1 : Int) (A0_2 : Option Addr) (c0_2 : Nat) (l0_2 : List Int) (A0_3 : Option Addr) (c0_3 : Nat) (l0_3 : List Int) (a1 : Int) (r : Int) (w : World) (hr0_0 : Kd.C k106 w A0_0 l0_0.length l0_0) (hc0_0 : l0_0.length ≤ c0_0) (hr0_2 : Kd.C (Kd.int .i64) w A0_2 l0_2.length l0_2) (hc0_2 : l0_2.length ≤ c0_2) (hr0_3 : Kd.C (Kd.int .i64) w A0_3 l0_3.length l0_3) (hc0_3 : l0_3.length ≤ c0_3) (h : laws_szThread.f l0_0 a0_1 l0_2 l0_3 a1 = some r) :
    Calls Try.prog 29 #[.agg #[.slice A0_0 l0_0.length c0_0, .int .i64 a0_1, .slice A0_2 l0_2.length c0_2, .slice A0_3 l0_3.length c0_3], .int .i64 a1] w fun e w' => e = .returned (.int .i64 r) ∧ Below w.heap.size w w' := by
  have hu50 := Try.underlying50
  have HR0_0 := Aside0.mk hr0_0
  have HC0_0 := Aside0.mk hc0_0
  clear hr0_0 hc0_0
  have HR0_2 := Aside0.mk hr0_2
  have HC0_2 := Aside0.mk hc0_2
  clear hr0_2 hc0_2
  have HR0_3 := Aside0.mk hr0_3
  have HC0_3 := Aside0.mk hc0_3
  clear hr0_3 hc0_3
  have HB := Aside0.mk (Below.refl w.heap.size w)
  have H : ((laws_szCallS.f l0_0 a1).bind fun t138 => (if t138 < 0 then (some (-1)) else ((laws_szIntS.f l0_2 t138).bind fun t139 => (if t139 < 0 then (some (-1)) else ((laws_szIntS.f l0_3 t139).bind fun t140 => (if t140 < 0 then (some (-1)) else (some t140))))))) = some r := h
  clear h
  replace H := Option.bind_eq_some_iff.mp H
  obtain ⟨t138, A30, H⟩ := H
  replace H : (if t138 < 0 then (some (-1)) else ((laws_szIntS.f l0_2 t138).bind fun t139 => (if t139 < 0 then (some (-1)) else ((laws_szIntS.f l0_3 t139).bind fun t140 => (if t140 < 0 then (some (-1)) else (some t140)))))) = some r := H
  have A3 := Aside0.mk A30
  clear A30
  by_cases c4 : t138 < 0
  · rw [if_pos c4] at H
    have c4b0 : decide (t138 < 0) = true := decide_eq_true c4
    clear c4
    obtain rfl := Option.some.inj H
    go_enter Try.func29, Try.ntmps29
    go_wp2_with (first | ((with_reducible refine gate_dst (N := 2) rfl ?_); refine box_event ?hg (N := 2) ?hd (cs := #[.slice A0_0 l0_0.length c0_0, .int .i64 a0_1, .slice A0_2 l0_2.length c0_2, .slice A0_3 l0_3.length c0_3]) (t := 50) ?hr ?_; (case hd => rfl); (case hg => rfl); (case hr => first | (go_simp; done) | (go_simp; rfl)); intro gb137 hg w5 hbox hb; have n0_ := Aside0.mk (below_step (by repeat (first | (with_reducible first | exact HB.out | apply below_alloc | apply pw_below_drewN | apply below_drew1) | exact HB.out)) hb); have n1_ := Aside0.mk (hbox); have n2_ := Aside0.mk ((by rw [hg]; exact (below_size (by repeat (first | (with_reducible first | exact HB.out | apply below_alloc | apply pw_below_drewN | apply below_drew1) | exact HB.out))) : w.heap.size ≤ gb137)); have n3_ := Aside0.mk ((by rw [hg]; exact (below_size (by repeat (first | (with_reducible first | exact HB.out | apply below_alloc | apply pw_below_drewN | apply below_drew1) | exact HB.out))) : w.heap.size ≤ gb137)); clear HB; have HB := n0_; have BK137 := n1_; have GW137 := n2_; have GE137 := n3_; clear n0_ n1_ n2_ n3_; clear hb hbox hg; have hcz6_0 : w5.cell? ⟨gb137, 0, none⟩ = some (.slice A0_0 l0_0.length c0_0) := (blk_cell BK137.out 0).trans rfl; have hcz6_1 : w5.cell? ⟨gb137, 1, none⟩ = some (.int .i64 a0_1) := (blk_cell BK137.out 1).trans rfl; have hcz6_2 : w5.cell? ⟨gb137, 2, none⟩ = some (.slice A0_2 l0_2.length c0_2) := (blk_cell BK137.out 2).trans rfl; have hcz6_3 : w5.cell? ⟨gb137, 3, none⟩ = some (.slice A0_3 l0_3.length c0_3) := (blk_cell BK137.out 3).trans rfl; have hfz6_0 := blk_frozen BK137.out 0; have hfz6_1 := blk_frozen BK137.out 1; have hfz6_2 := blk_frozen BK137.out 2; have hfz6_3 := blk_frozen BK137.out 3) | ((with_reducible refine gate_callee (f := 64) rfl ?_); refine goesL_ (some 8) rfl rfl Try.func64 (by kernel_rfl) rfl #[.slice A0_0 l0_0.length c0_0, .int .i64 a1] rfl (by (try simp only [List.map_toArray, List.map_cons, List.map_nil]); first | done | rfl | (simp only [List.length_drop, List.length_take]; rfl)) ?_; (with_reducible refine (laws_szCallS.calls _ _ l0_0 a1 t138 _ ?side1 ?side2 A3.out).mono ?_); (case side1 => repeat (first | exact (Kd.C_below HR0_0.out HB.out) | (with_reducible refine Kd.C_alloc ?_ _) | (with_reducible refine Kd.C_drewN ?_ _) | (with_reducible refine Kd.C_drew ?_))); (case side2 => exact HC0_0.out); rintro e w' ⟨rfl, ⟨nd, rfl⟩⟩; refine ⟨_, rfl, ?_⟩))
    go_ret
    exact ⟨by first | rfl | (simp [errW_none, errW_some] <;> rfl) | (simp [*, errW_none, errW_some] <;> rfl), by repeat (first | (with_reducible first | exact HB.out | apply below_alloc | apply pw_below_drewN | apply below_drew1 | refine below_set ?_ GE137.out) | exact HB.out)⟩
  · rw [if_neg c4] at H
    have c4b0 : decide (t138 < 0) = false := decide_eq_false c4
    clear c4
    replace H := Option.bind_eq_some_iff.mp H
    obtain ⟨t139, A70, H⟩ := H
    replace H : (if t139 < 0 then (some (-1)) else ((laws_szIntS.f l0_3 t139).bind fun t140 => (if t140 < 0 then (some (-1)) else (some t140)))) = some r := H
    have A7 := Aside0.mk A70
    clear A70
    by_cases c8 : t139 < 0
    · rw [if_pos c8] at H
      have c8b0 : decide (t139 < 0) = true := decide_eq_true c8
      clear c8
      obtain rfl := Option.some.inj H
      go_enter Try.func29, Try.ntmps29
      go_wp2_with (first | ((with_reducible refine gate_dst (N := 2) rfl ?_); refine box_event ?hg (N := 2) ?hd (cs := #[.slice A0_0 l0_0.length c0_0, .int .i64 a0_1, .slice A0_2 l0_2.length c0_2, .slice A0_3 l0_3.length c0_3]) (t := 50) ?hr ?_; (case hd => rfl); (case hg => rfl); (case hr => first | (go_simp; done) | (go_simp; rfl)); intro gb137 hg w9 hbox hb; have n0_ := Aside0.mk (below_step (by repeat (first | (with_reducible first | exact HB.out | apply below_alloc | apply pw_below_drewN | apply below_drew1) | exact HB.out)) hb); have n1_ := Aside0.mk (hbox); have n2_ := Aside0.mk ((by rw [hg]; exact (below_size (by repeat (first | (with_reducible first | exact HB.out | apply below_alloc | apply pw_below_drewN | apply below_drew1) | exact HB.out))) : w.heap.size ≤ gb137)); have n3_ := Aside0.mk ((by rw [hg]; exact (below_size (by repeat (first | (with_reducible first | exact HB.out | apply below_alloc | apply pw_below_drewN | apply below_drew1) | exact HB.out))) : w.heap.size ≤ gb137)); clear HB; have HB := n0_; have BK137 := n1_; have GW137 := n2_; have GE137 := n3_; clear n0_ n1_ n2_ n3_; clear hb hbox hg; have hcz10_0 : w9.cell? ⟨gb137, 0, none⟩ = some (.slice A0_0 l0_0.length c0_0) := (blk_cell BK137.out 0).trans rfl; have hcz10_1 : w9.cell? ⟨gb137, 1, none⟩ = some (.int .i64 a0_1) := (blk_cell BK137.out 1).trans rfl; have hcz10_2 : w9.cell? ⟨gb137, 2, none⟩ = some (.slice A0_2 l0_2.length c0_2) := (blk_cell BK137.out 2).trans rfl; have hcz10_3 : w9.cell? ⟨gb137, 3, none⟩ = some (.slice A0_3 l0_3.length c0_3) := (blk_cell BK137.out 3).trans rfl; have hfz10_0 := blk_frozen BK137.out 0; have hfz10_1 := blk_frozen BK137.out 1; have hfz10_2 := blk_frozen BK137.out 2; have hfz10_3 := blk_frozen BK137.out 3) | ((with_reducible refine gate_callee (f := 64) rfl ?_); refine goesL_ (some 8) rfl rfl Try.func64 (by kernel_rfl) rfl #[.slice A0_0 l0_0.length c0_0, .int .i64 a1] rfl (by (try simp only [List.map_toArray, List.map_cons, List.map_nil]); first | done | rfl | (simp only [List.length_drop, List.length_take]; rfl)) ?_; (with_reducible refine (laws_szCallS.calls _ _ l0_0 a1 t138 _ ?side1 ?side2 A3.out).mono ?_); (case side1 => repeat (first | exact (Kd.C_below HR0_0.out HB.out) | (with_reducible refine Kd.C_alloc ?_ _) | (with_reducible refine Kd.C_drewN ?_ _) | (with_reducible refine Kd.C_drew ?_))); (case side2 => exact HC0_0.out); rintro e w' ⟨rfl, ⟨nd, rfl⟩⟩; refine ⟨_, rfl, ?_⟩) | ((with_reducible refine gate_callee (f := 65) rfl ?_); refine goesL_ (some 14) rfl rfl Try.func65 (by kernel_rfl) rfl #[.slice A0_2 l0_2.length c0_2, .int .i64 t138] rfl (by (try simp only [List.map_toArray, List.map_cons, List.map_nil]); first | done | rfl | (simp only [List.length_drop, List.length_take]; rfl)) ?_; (with_reducible refine (laws_szIntS.calls _ _ l0_2 t138 t139 _ ?side1 ?side2 A7.out).mono ?_); (case side1 => repeat (first | exact (Kd.C_below HR0_2.out (by repeat (first | (with_reducible first | exact HB.out | apply below_alloc | apply pw_below_drewN | apply below_drew1 | refine below_set ?_ GE137.out) | exact HB.out))) | (with_reducible refine Kd.C_alloc ?_ _) | (with_reducible refine Kd.C_drewN ?_ _) | (with_reducible refine Kd.C_drew ?_))); (case side2 => exact HC0_2.out); rintro e w' ⟨rfl, ⟨nd, rfl⟩⟩; refine ⟨_, rfl, ?_⟩))
      go_ret
      exact ⟨by first | rfl | (simp [errW_none, errW_some] <;> rfl) | (simp [*, errW_none, errW_some] <;> rfl), by repeat (first | (with_reducible first | exact HB.out | apply below_alloc | apply pw_below_drewN | apply below_drew1 | refine below_set ?_ GE137.out) | exact HB.out)⟩
    · rw [if_neg c8] at H
      have c8b0 : decide (t139 < 0) = false := decide_eq_false c8
      clear c8
      replace H := Option.bind_eq_some_iff.mp H
      obtain ⟨t140, A110, H⟩ := H
      replace H : (if t140 < 0 then (some (-1)) else (some t140)) = some r := H
      have A11 := Aside0.mk A110
      clear A110
      by_cases c12 : t140 < 0
      · rw [if_pos c12] at H
        have c12b0 : decide (t140 < 0) = true := decide_eq_true c12
        clear c12
        obtain rfl := Option.some.inj H
        go_enter Try.func29, Try.ntmps29
        go_wp2_with (first | ((with_reducible refine gate_dst (N := 2) rfl ?_); refine box_event ?hg (N := 2) ?hd (cs := #[.slice A0_0 l0_0.length c0_0, .int .i64 a0_1, .slice A0_2 l0_2.length c0_2, .slice A0_3 l0_3.length c0_3]) (t := 50) ?hr ?_; (case hd => rfl); (case hg => rfl); (case hr => first | (go_simp; done) | (go_simp; rfl)); intro gb137 hg w13 hbox hb; have n0_ := Aside0.mk (below_step (by repeat (first | (with_reducible first | exact HB.out | apply below_alloc | apply pw_below_drewN | apply below_drew1) | exact HB.out)) hb); have n1_ := Aside0.mk (hbox); have n2_ := Aside0.mk ((by rw [hg]; exact (below_size (by repeat (first | (with_reducible first | exact HB.out | apply below_alloc | apply pw_below_drewN | apply below_drew1) | exact HB.out))) : w.heap.size ≤ gb137)); have n3_ := Aside0.mk ((by rw [hg]; exact (below_size (by repeat (first | (with_reducible first | exact HB.out | apply below_alloc | apply pw_below_drewN | apply below_drew1) | exact HB.out))) : w.heap.size ≤ gb137)); clear HB; have HB := n0_; have BK137 := n1_; have GW137 := n2_; have GE137 := n3_; clear n0_ n1_ n2_ n3_; clear hb hbox hg; have hcz14_0 : w13.cell? ⟨gb137, 0, none⟩ = some (.slice A0_0 l0_0.length c0_0) := (blk_cell BK137.out 0).trans rfl; have hcz14_1 : w13.cell? ⟨gb137, 1, none⟩ = some (.int .i64 a0_1) := (blk_cell BK137.out 1).trans rfl; have hcz14_2 : w13.cell? ⟨gb137, 2, none⟩ = some (.slice A0_2 l0_2.length c0_2) := (blk_cell BK137.out 2).trans rfl; have hcz14_3 : w13.cell? ⟨gb137, 3, none⟩ = some (.slice A0_3 l0_3.length c0_3) := (blk_cell BK137.out 3).trans rfl; have hfz14_0 := blk_frozen BK137.out 0; have hfz14_1 := blk_frozen BK137.out 1; have hfz14_2 := blk_frozen BK137.out 2; have hfz14_3 := blk_frozen BK137.out 3) | ((with_reducible refine gate_callee (f := 64) rfl ?_); refine goesL_ (some 8) rfl rfl Try.func64 (by kernel_rfl) rfl #[.slice A0_0 l0_0.length c0_0, .int .i64 a1] rfl (by (try simp only [List.map_toArray, List.map_cons, List.map_nil]); first | done | rfl | (simp only [List.length_drop, List.length_take]; rfl)) ?_; (with_reducible refine (laws_szCallS.calls _ _ l0_0 a1 t138 _ ?side1 ?side2 A3.out).mono ?_); (case side1 => repeat (first | exact (Kd.C_below HR0_0.out HB.out) | (with_reducible refine Kd.C_alloc ?_ _) | (with_reducible refine Kd.C_drewN ?_ _) | (with_reducible refine Kd.C_drew ?_))); (case side2 => exact HC0_0.out); rintro e w' ⟨rfl, ⟨nd, rfl⟩⟩; refine ⟨_, rfl, ?_⟩) | ((with_reducible refine gate_callee (f := 65) rfl ?_); refine goesL_ (some 14) rfl rfl Try.func65 (by kernel_rfl) rfl #[.slice A0_2 l0_2.length c0_2, .int .i64 t138] rfl (by (try simp only [List.map_toArray, List.map_cons, List.map_nil]); first | done | rfl | (simp only [List.length_drop, List.length_take]; rfl)) ?_; (with_reducible refine (laws_szIntS.calls _ _ l0_2 t138 t139 _ ?side1 ?side2 A7.out).mono ?_); (case side1 => repeat (first | exact (Kd.C_below HR0_2.out (by repeat (first | (with_reducible first | exact HB.out | apply below_alloc | apply pw_below_drewN | apply below_drew1 | refine below_set ?_ GE137.out) | exact HB.out))) | (with_reducible refine Kd.C_alloc ?_ _) | (with_reducible refine Kd.C_drewN ?_ _) | (with_reducible refine Kd.C_drew ?_))); (case side2 => exact HC0_2.out); rintro e w' ⟨rfl, ⟨nd, rfl⟩⟩; refine ⟨_, rfl, ?_⟩) | ((with_reducible refine gate_callee (f := 65) rfl ?_); refine goesL_ (some 20) rfl rfl Try.func65 (by kernel_rfl) rfl #[.slice A0_3 l0_3.length c0_3, .int .i64 t139] rfl (by (try simp only [List.map_toArray, List.map_cons, List.map_nil]); first | done | rfl | (simp only [List.length_drop, List.length_take]; rfl)) ?_; (with_reducible refine (laws_szIntS.calls _ _ l0_3 t139 t140 _ ?side1 ?side2 A11.out).mono ?_); (case side1 => repeat (first | exact (Kd.C_below HR0_3.out (by repeat (first | (with_reducible first | exact HB.out | apply below_alloc | apply pw_below_drewN | apply below_drew1 | refine below_set ?_ GE137.out) | exact HB.out))) | (with_reducible refine Kd.C_alloc ?_ _) | (with_reducible refine Kd.C_drewN ?_ _) | (with_reducible refine Kd.C_drew ?_))); (case side2 => exact HC0_3.out); rintro e w' ⟨rfl, ⟨nd, rfl⟩⟩; refine ⟨_, rfl, ?_⟩))
        go_ret
        exact ⟨by first | rfl | (simp [errW_none, errW_some] <;> rfl) | (simp [*, errW_none, errW_some] <;> rfl), by repeat (first | (with_reducible first | exact HB.out | apply below_alloc | apply pw_below_drewN | apply below_drew1 | refine below_set ?_ GE137.out) | exact HB.out)⟩
      · rw [if_neg c12] at H
        have c12b0 : decide (t140 < 0) = false := decide_eq_false c12
        clear c12
        obtain rfl := Option.some.inj H
        go_enter Try.func29, Try.ntmps29
        go_wp2_with (first | ((with_reducible refine gate_dst (N := 2) rfl ?_); refine box_event ?hg (N := 2) ?hd (cs := #[.slice A0_0 l0_0.length c0_0, .int .i64 a0_1, .slice A0_2 l0_2.length c0_2, .slice A0_3 l0_3.length c0_3]) (t := 50) ?hr ?_; (case hd => rfl); (case hg => rfl); (case hr => first | (go_simp; done) | (go_simp; rfl)); intro gb137 hg w15 hbox hb; have n0_ := Aside0.mk (below_step (by repeat (first | (with_reducible first | exact HB.out | apply below_alloc | apply pw_below_drewN | apply below_drew1) | exact HB.out)) hb); have n1_ := Aside0.mk (hbox); have n2_ := Aside0.mk ((by rw [hg]; exact (below_size (by repeat (first | (with_reducible first | exact HB.out | apply below_alloc | apply pw_below_drewN | apply below_drew1) | exact HB.out))) : w.heap.size ≤ gb137)); have n3_ := Aside0.mk ((by rw [hg]; exact (below_size (by repeat (first | (with_reducible first | exact HB.out | apply below_alloc | apply pw_below_drewN | apply below_drew1) | exact HB.out))) : w.heap.size ≤ gb137)); clear HB; have HB := n0_; have BK137 := n1_; have GW137 := n2_; have GE137 := n3_; clear n0_ n1_ n2_ n3_; clear hb hbox hg; have hcz16_0 : w15.cell? ⟨gb137, 0, none⟩ = some (.slice A0_0 l0_0.length c0_0) := (blk_cell BK137.out 0).trans rfl; have hcz16_1 : w15.cell? ⟨gb137, 1, none⟩ = some (.int .i64 a0_1) := (blk_cell BK137.out 1).trans rfl; have hcz16_2 : w15.cell? ⟨gb137, 2, none⟩ = some (.slice A0_2 l0_2.length c0_2) := (blk_cell BK137.out 2).trans rfl; have hcz16_3 : w15.cell? ⟨gb137, 3, none⟩ = some (.slice A0_3 l0_3.length c0_3) := (blk_cell BK137.out 3).trans rfl; have hfz16_0 := blk_frozen BK137.out 0; have hfz16_1 := blk_frozen BK137.out 1; have hfz16_2 := blk_frozen BK137.out 2; have hfz16_3 := blk_frozen BK137.out 3) | ((with_reducible refine gate_callee (f := 64) rfl ?_); refine goesL_ (some 8) rfl rfl Try.func64 (by kernel_rfl) rfl #[.slice A0_0 l0_0.length c0_0, .int .i64 a1] rfl (by (try simp only [List.map_toArray, List.map_cons, List.map_nil]); first | done | rfl | (simp only [List.length_drop, List.length_take]; rfl)) ?_; (with_reducible refine (laws_szCallS.calls _ _ l0_0 a1 t138 _ ?side1 ?side2 A3.out).mono ?_); (case side1 => repeat (first | exact (Kd.C_below HR0_0.out HB.out) | (with_reducible refine Kd.C_alloc ?_ _) | (with_reducible refine Kd.C_drewN ?_ _) | (with_reducible refine Kd.C_drew ?_))); (case side2 => exact HC0_0.out); rintro e w' ⟨rfl, ⟨nd, rfl⟩⟩; refine ⟨_, rfl, ?_⟩) | ((with_reducible refine gate_callee (f := 65) rfl ?_); refine goesL_ (some 14) rfl rfl Try.func65 (by kernel_rfl) rfl #[.slice A0_2 l0_2.length c0_2, .int .i64 t138] rfl (by (try simp only [List.map_toArray, List.map_cons, List.map_nil]); first | done | rfl | (simp only [List.length_drop, List.length_take]; rfl)) ?_; (with_reducible refine (laws_szIntS.calls _ _ l0_2 t138 t139 _ ?side1 ?side2 A7.out).mono ?_); (case side1 => repeat (first | exact (Kd.C_below HR0_2.out (by repeat (first | (with_reducible first | exact HB.out | apply below_alloc | apply pw_below_drewN | apply below_drew1 | refine below_set ?_ GE137.out) | exact HB.out))) | (with_reducible refine Kd.C_alloc ?_ _) | (with_reducible refine Kd.C_drewN ?_ _) | (with_reducible refine Kd.C_drew ?_))); (case side2 => exact HC0_2.out); rintro e w' ⟨rfl, ⟨nd, rfl⟩⟩; refine ⟨_, rfl, ?_⟩) | ((with_reducible refine gate_callee (f := 65) rfl ?_); refine goesL_ (some 20) rfl rfl Try.func65 (by kernel_rfl) rfl #[.slice A0_3 l0_3.length c0_3, .int .i64 t139] rfl (by (try simp only [List.map_toArray, List.map_cons, List.map_nil]); first | done | rfl | (simp only [List.length_drop, List.length_take]; rfl)) ?_; (with_reducible refine (laws_szIntS.calls _ _ l0_3 t139 t140 _ ?side1 ?side2 A11.out).mono ?_); (case side1 => repeat (first | exact (Kd.C_below HR0_3.out (by repeat (first | (with_reducible first | exact HB.out | apply below_alloc | apply pw_below_drewN | apply below_drew1 | refine below_set ?_ GE137.out) | exact HB.out))) | (with_reducible refine Kd.C_alloc ?_ _) | (with_reducible refine Kd.C_drewN ?_ _) | (with_reducible refine Kd.C_drew ?_))); (case side2 => exact HC0_3.out); rintro e w' ⟨rfl, ⟨nd, rfl⟩⟩; refine ⟨_, rfl, ?_⟩))
        go_ret
        exact ⟨by first | rfl | (simp [errW_none, errW_some] <;> rfl) | (simp [*, errW_none, errW_some] <;> rfl), by repeat (first | (with_reducible first | exact HB.out | apply below_alloc | apply pw_below_drewN | apply below_drew1 | refine below_set ?_ GE137.out) | exact HB.out)⟩

/-! ### laws_szThreadS: function 11 -/
def laws_szThreadS.l0 : Nat → List (S50) → Int → Int → Option (Int)
  | 0, _, _, _ => none
  | k + 1, x0, x1, x5 => if x5 < (x0.length : Int) then (if 0 ≤ x5 then ((laws_szThread.f ((rd_T50 x0 x5).f0) ((rd_T50 x0 x5).f1) ((rd_T50 x0 x5).f2) ((rd_T50 x0 x5).f3) x1).bind fun t142 => (if t142 < 0 then (some (-1)) else (laws_szThreadS.l0 k x0 t142 (wrap64 (x5 + 1))))) else (none)) else (some x1)
def laws_szThreadS.f (k : Nat) (l0 : List (S50)) (a1 : Int) : Option (Int) := if (wrap64 (a1 - (l0.length : Int))) < 0 then (some (-1)) else (laws_szThreadS.l0 k l0 (wrap64 (a1 - (l0.length : Int))) 0)
theorem laws_szThreadS.mono_l : ∀ k, (∀ y0 y1 y2, LeO (laws_szThreadS.l0 k y0 y1 y2) (laws_szThreadS.l0 (k + 1) y0 y1 y2))
  | 0 => fun _ _ _ r h => by simp [laws_szThreadS.l0] at h
  | k + 1 => by
    have ih0 := laws_szThreadS.mono_l k
    · intro y0 y1 y2
      unfold laws_szThreadS.l0
      repeat' first
      | (with_reducible exact ih0 _ _ _)
      | (with_reducible exact LeO.refl _)
      | (with_reducible exact LeO.none _)
      | (with_reducible refine LeO.ite ?_ ?_)
      | (with_reducible refine LeO.bind ?_ (fun _ => ?_))
      | exact ih0 _ _ _
      | exact LeO.none _
      | refine LeO.ite ?_ ?_
      | refine LeO.bind ?_ (fun _ => ?_)
theorem laws_szThreadS.mono : ∀ a0 a1 k, LeO (laws_szThreadS.f k a0 a1) (laws_szThreadS.f (k + 1) a0 a1) := by
  intro a0 a1 k
  have ih0 := laws_szThreadS.mono_l k
  unfold laws_szThreadS.f
  repeat' first
      | (with_reducible exact ih0 _ _ _)
      | (with_reducible exact LeO.refl _)
      | (with_reducible exact LeO.none _)
      | (with_reducible refine LeO.ite ?_ ?_)
      | (with_reducible refine LeO.bind ?_ (fun _ => ?_))
      | exact ih0 _ _ _
      | exact LeO.none _
      | refine LeO.ite ?_ ?_
      | refine LeO.bind ?_ (fun _ => ?_)
set_option maxHeartbeats 8000000 in
set_option maxRecDepth 100000 in
theorem laws_szThreadS.calls (k : Nat) (A0 : Option Addr) (c0 : Nat) (l0 : List (S50)) (a1 : Int) (r : Int) (w : World) (hr0 : Kd.C k50 w A0 l0.length l0) (hc0 : l0.length ≤ c0) (h : laws_szThreadS.f k l0 a1 = some r) :
    Calls Try.prog 11 #[.slice A0 l0.length c0, .int .i64 a1] w fun e w' => e = .returned (.int .i64 r) ∧ Below w.heap.size w w' := by
  have hu50 := Try.underlying50
  have HR0 := Aside0.mk hr0
  have HC0 := Aside0.mk hc0
  clear hr0 hc0
  have HB := Aside0.mk (Below.refl w.heap.size w)
  have H : (if (wrap64 (a1 - (l0.length : Int))) < 0 then (some (-1)) else (laws_szThreadS.l0 k l0 (wrap64 (a1 - (l0.length : Int))) 0)) = some r := h
  clear h
  by_cases c3 : (wrap64 (a1 - (l0.length : Int))) < 0
  · rw [if_pos c3] at H
    have c3b0 : decide ((wrap64 (a1 - (l0.length : Int))) < 0) = true := decide_eq_true c3
    clear c3
    obtain rfl := Option.some.inj H
    go_enter Try.func11, Try.ntmps11
    go_wp2
    go_ret
    exact ⟨by first | rfl | (simp [errW_none, errW_some] <;> rfl) | (simp [*, errW_none, errW_some] <;> rfl), by repeat (first | (with_reducible first | exact HB.out | apply below_alloc | apply pw_below_drewN | apply below_drew1) | exact HB.out)⟩
  · rw [if_neg c3] at H
    have c3b0 : decide ((wrap64 (a1 - (l0.length : Int))) < 0) = false := decide_eq_false c3
    clear c3
    have H' := Aside0.mk H
    clear H
    go_enter Try.func11, Try.ntmps11
    go_wp2
    go_loopg [1, 5] k (fun kq v1 v5 w' => ∃ (x1_1 : Int) (x5_1 : Int), v1 = .int .i64 x1_1 ∧ v5 = .int .i64 x5_1 ∧ Aside0 (laws_szThreadS.l0 kq l0 x1_1 x5_1 = some r) ∧ Aside0 (kq ≤ k) ∧ Aside0 (Below w.heap.size w w'))
    case atStart => exact ⟨(wrap64 (a1 - (l0.length : Int))), (0), (by first | rfl | (simp; done) | (simp [*]; done)), (by first | rfl | (simp; done) | (simp [*]; done)), H', ⟨Nat.le_refl _⟩, ⟨by repeat (first | (with_reducible first | exact HB.out | apply below_alloc | apply pw_below_drewN | apply below_drew1) | exact HB.out)⟩⟩
    case round =>
      clear H'
      try clear c1
      try clear p2
      try clear c3
      try clear c3b0
      obtain ⟨x1_1, x5_1, rfl, rfl, HA, HK1, HB⟩ := hrel
      cases gk with
      | zero => exact absurd HA.out (by simp [laws_szThreadS.l0])
      | succ k1 =>
        have H := HA.out
        clear HA
        simp only [laws_szThreadS.l0] at H
        by_cases c4 : x5_1 < (l0.length : Int)
        · rw [if_pos c4] at H
          have c4b0 : decide (x5_1 < (l0.length : Int)) = true := decide_eq_true c4
          clear c4
          by_cases c5 : 0 ≤ x5_1
          · rw [if_pos c5] at H
            have c5b0 : decide (0 ≤ x5_1) = true := decide_eq_true c5
            clear c5
            replace H := Option.bind_eq_some_iff.mp H
            obtain ⟨t142, A60, H⟩ := H
            replace H : (if t142 < 0 then (some (-1)) else (laws_szThreadS.l0 k1 l0 t142 (wrap64 (x5_1 + 1)))) = some r := H
            have A6 := Aside0.mk A60
            clear A60
            by_cases c7 : t142 < 0
            · rw [if_pos c7] at H
              have c7b0 : decide (t142 < 0) = true := decide_eq_true c7
              clear c7
              obtain rfl := Option.some.inj H
              have p141 : 0 ≤ (x5_1 : Int) := of_decide_eq_true (by first | (with_reducible assumption) | assumption)
              have q141 : x5_1 < (l0.length : Int) := of_decide_eq_true (by first | (with_reducible assumption) | assumption)
              obtain ⟨ad141, A141_0, c141_0, A141_2, c141_2, A141_3, c141_3, e141, hx141_0, hx141_1, hx141_2, hx141_3, hl141_0, hi141_0, hl141_2, hi141_2, hl141_3, hi141_3⟩ := at_T50 HR0.out x5_1 p141 q141
              cases e141
              replace hx141_0 := (HB.out.cell (World.block_lt_of_cell? w _ hx141_0)).trans hx141_0
              replace hx141_1 := (HB.out.cell (World.block_lt_of_cell? w _ hx141_1)).trans hx141_1
              replace hx141_2 := (HB.out.cell (World.block_lt_of_cell? w _ hx141_2)).trans hx141_2
              replace hx141_3 := (HB.out.cell (World.block_lt_of_cell? w _ hx141_3)).trans hx141_3
              have HR141_0 := Aside0.mk hi141_0
              have HC141_0 := Aside0.mk hl141_0
              clear hi141_0 hl141_0
              have HR141_2 := Aside0.mk hi141_2
              have HC141_2 := Aside0.mk hl141_2
              clear hi141_2 hl141_2
              have HR141_3 := Aside0.mk hi141_3
              have HC141_3 := Aside0.mk hl141_3
              clear hi141_3 hl141_3
              replace p141 := eq_true p141
              replace q141 := eq_true q141
              go_wp2_with (first | ((with_reducible refine gate_callee (f := 29) rfl ?_); refine goesL_ (some 23) rfl rfl Try.func29 (by kernel_rfl) rfl #[.agg #[.slice A141_0 ((rd_T50 l0 x5_1).f0).length c141_0, .int .i64 ((rd_T50 l0 x5_1).f1), .slice A141_2 ((rd_T50 l0 x5_1).f2).length c141_2, .slice A141_3 ((rd_T50 l0 x5_1).f3).length c141_3], .int .i64 x1_1] rfl (by (try simp only [List.map_toArray, List.map_cons, List.map_nil]); first | done | rfl | (simp only [List.length_drop, List.length_take]; rfl)) ?_; (with_reducible refine (laws_szThread.calls _ _ ((rd_T50 l0 x5_1).f0) ((rd_T50 l0 x5_1).f1) _ _ ((rd_T50 l0 x5_1).f2) _ _ ((rd_T50 l0 x5_1).f3) x1_1 t142 _ ?side1 ?side2 ?side3 ?side4 ?side5 ?side6 A6.out).mono ?_); (case side1 => repeat (first | exact (Kd.C_below HR141_0.out HB.out) | (with_reducible refine Kd.C_alloc ?_ _) | (with_reducible refine Kd.C_drewN ?_ _) | (with_reducible refine Kd.C_drew ?_))); (case side2 => exact HC141_0.out); (case side3 => repeat (first | exact (Kd.C_below HR141_2.out HB.out) | (with_reducible refine Kd.C_alloc ?_ _) | (with_reducible refine Kd.C_drewN ?_ _) | (with_reducible refine Kd.C_drew ?_))); (case side4 => exact HC141_2.out); (case side5 => repeat (first | exact (Kd.C_below HR141_3.out HB.out) | (with_reducible refine Kd.C_alloc ?_ _) | (with_reducible refine Kd.C_drewN ?_ _) | (with_reducible refine Kd.C_drew ?_))); (case side6 => exact HC141_3.out); rintro e w8 ⟨rfl, hb⟩; refine ⟨_, rfl, ?_⟩; have n0_ := Aside0.mk (below_step (by repeat (first | (with_reducible first | exact HB.out | apply below_alloc | apply pw_below_drewN | apply below_drew1) | exact HB.out)) hb); clear HB; have HB := n0_; clear n0_; (try clear hb); (try clear hb2); (try clear hk); (try clear hi)))
              go_ret
              exact ⟨by first | rfl | (simp [errW_none, errW_some] <;> rfl) | (simp [*, errW_none, errW_some] <;> rfl), by repeat (first | (with_reducible first | exact HB.out | apply below_alloc | apply pw_below_drewN | apply below_drew1) | exact HB.out)⟩
            · rw [if_neg c7] at H
              have c7b0 : decide (t142 < 0) = false := decide_eq_false c7
              clear c7
              have H' := Aside0.mk H
              clear H
              have p141 : 0 ≤ (x5_1 : Int) := of_decide_eq_true (by first | (with_reducible assumption) | assumption)
              have q141 : x5_1 < (l0.length : Int) := of_decide_eq_true (by first | (with_reducible assumption) | assumption)
              obtain ⟨ad141, A141_0, c141_0, A141_2, c141_2, A141_3, c141_3, e141, hx141_0, hx141_1, hx141_2, hx141_3, hl141_0, hi141_0, hl141_2, hi141_2, hl141_3, hi141_3⟩ := at_T50 HR0.out x5_1 p141 q141
              cases e141
              replace hx141_0 := (HB.out.cell (World.block_lt_of_cell? w _ hx141_0)).trans hx141_0
              replace hx141_1 := (HB.out.cell (World.block_lt_of_cell? w _ hx141_1)).trans hx141_1
              replace hx141_2 := (HB.out.cell (World.block_lt_of_cell? w _ hx141_2)).trans hx141_2
              replace hx141_3 := (HB.out.cell (World.block_lt_of_cell? w _ hx141_3)).trans hx141_3
              have HR141_0 := Aside0.mk hi141_0
              have HC141_0 := Aside0.mk hl141_0
              clear hi141_0 hl141_0
              have HR141_2 := Aside0.mk hi141_2
              have HC141_2 := Aside0.mk hl141_2
              clear hi141_2 hl141_2
              have HR141_3 := Aside0.mk hi141_3
              have HC141_3 := Aside0.mk hl141_3
              clear hi141_3 hl141_3
              replace p141 := eq_true p141
              replace q141 := eq_true q141
              go_wp2_with (first | ((with_reducible refine gate_callee (f := 29) rfl ?_); refine goesL_ (some 23) rfl rfl Try.func29 (by kernel_rfl) rfl #[.agg #[.slice A141_0 ((rd_T50 l0 x5_1).f0).length c141_0, .int .i64 ((rd_T50 l0 x5_1).f1), .slice A141_2 ((rd_T50 l0 x5_1).f2).length c141_2, .slice A141_3 ((rd_T50 l0 x5_1).f3).length c141_3], .int .i64 x1_1] rfl (by (try simp only [List.map_toArray, List.map_cons, List.map_nil]); first | done | rfl | (simp only [List.length_drop, List.length_take]; rfl)) ?_; (with_reducible refine (laws_szThread.calls _ _ ((rd_T50 l0 x5_1).f0) ((rd_T50 l0 x5_1).f1) _ _ ((rd_T50 l0 x5_1).f2) _ _ ((rd_T50 l0 x5_1).f3) x1_1 t142 _ ?side1 ?side2 ?side3 ?side4 ?side5 ?side6 A6.out).mono ?_); (case side1 => repeat (first | exact (Kd.C_below HR141_0.out HB.out) | (with_reducible refine Kd.C_alloc ?_ _) | (with_reducible refine Kd.C_drewN ?_ _) | (with_reducible refine Kd.C_drew ?_))); (case side2 => exact HC141_0.out); (case side3 => repeat (first | exact (Kd.C_below HR141_2.out HB.out) | (with_reducible refine Kd.C_alloc ?_ _) | (with_reducible refine Kd.C_drewN ?_ _) | (with_reducible refine Kd.C_drew ?_))); (case side4 => exact HC141_2.out); (case side5 => repeat (first | exact (Kd.C_below HR141_3.out HB.out) | (with_reducible refine Kd.C_alloc ?_ _) | (with_reducible refine Kd.C_drewN ?_ _) | (with_reducible refine Kd.C_drew ?_))); (case side6 => exact HC141_3.out); rintro e w9 ⟨rfl, hb⟩; refine ⟨_, rfl, ?_⟩; have n0_ := Aside0.mk (below_step (by repeat (first | (with_reducible first | exact HB.out | apply below_alloc | apply pw_below_drewN | apply below_drew1) | exact HB.out)) hb); clear HB; have HB := n0_; clear n0_; (try clear hb); (try clear hb2); (try clear hk); (try clear hi)))
              go_roundg k1
              case measure => have := HK1.out; omega
              case rel => exact ⟨(t142), (wrap64 (x5_1 + 1)), (by first | rfl | (simp; done) | (simp [*]; done)), (by first | rfl | (simp; done) | (simp [*]; done)), H', ⟨by have := HK1.out; omega⟩, ⟨by repeat (first | (with_reducible first | exact HB.out | apply below_alloc | apply pw_below_drewN | apply below_drew1) | exact HB.out)⟩⟩
          · rw [if_neg c5] at H
            exact absurd H (by simp)
        · rw [if_neg c4] at H
          have c4b0 : decide (x5_1 < (l0.length : Int)) = false := decide_eq_false c4
          clear c4
          obtain rfl := Option.some.inj H
          go_wp2
          go_ret
          exact ⟨by first | rfl | (simp [errW_none, errW_some] <;> rfl) | (simp [*, errW_none, errW_some] <;> rfl), by repeat (first | (with_reducible first | exact HB.out | apply below_alloc | apply pw_below_drewN | apply below_drew1) | exact HB.out)⟩

/-! ### laws_szMem: function 57 -/
def laws_szMem.f (l0_0 : List Int) (a1 : Int) : Option (Int) := (laws_szIntS.f l0_0 a1).bind fun t144 => (if t144 < 0 then (some (-1)) else (some t144))
set_option maxHeartbeats 8000000 in
set_option maxRecDepth 100000 in
theorem laws_szMem.calls (A0_0 : Option Addr) (c0_0 : Nat) (l0_0 : List Int) (a1 : Int) (r : Int) (w : World) (hr0_0 : Kd.C (Kd.int .i64) w A0_0 l0_0.length l0_0) (hc0_0 : l0_0.length ≤ c0_0) (h : laws_szMem.f l0_0 a1 = some r) :
    Calls Try.prog 57 #[.agg #[.slice A0_0 l0_0.length c0_0], .int .i64 a1] w fun e w' => e = .returned (.int .i64 r) ∧ Below w.heap.size w w' := by
  have hu38 := Try.underlying38
  have HR0_0 := Aside0.mk hr0_0
  have HC0_0 := Aside0.mk hc0_0
  clear hr0_0 hc0_0
  have HB := Aside0.mk (Below.refl w.heap.size w)
  have H : ((laws_szIntS.f l0_0 a1).bind fun t144 => (if t144 < 0 then (some (-1)) else (some t144))) = some r := h
  clear h
  replace H := Option.bind_eq_some_iff.mp H
  obtain ⟨t144, A30, H⟩ := H
  replace H : (if t144 < 0 then (some (-1)) else (some t144)) = some r := H
  have A3 := Aside0.mk A30
  clear A30
  by_cases c4 : t144 < 0
  · rw [if_pos c4] at H
    have c4b0 : decide (t144 < 0) = true := decide_eq_true c4
    clear c4
    obtain rfl := Option.some.inj H
    go_enter Try.func57, Try.ntmps57
    go_wp2_with (first | ((with_reducible refine gate_dst (N := 2) rfl ?_); refine box_event ?hg (N := 2) ?hd (cs := #[.slice A0_0 l0_0.length c0_0]) (t := 38) ?hr ?_; (case hd => rfl); (case hg => rfl); (case hr => first | (go_simp; done) | (go_simp; rfl)); intro gb143 hg w5 hbox hb; have n0_ := Aside0.mk (below_step (by repeat (first | (with_reducible first | exact HB.out | apply below_alloc | apply pw_below_drewN | apply below_drew1) | exact HB.out)) hb); have n1_ := Aside0.mk (hbox); have n2_ := Aside0.mk ((by rw [hg]; exact (below_size (by repeat (first | (with_reducible first | exact HB.out | apply below_alloc | apply pw_below_drewN | apply below_drew1) | exact HB.out))) : w.heap.size ≤ gb143)); have n3_ := Aside0.mk ((by rw [hg]; exact (below_size (by repeat (first | (with_reducible first | exact HB.out | apply below_alloc | apply pw_below_drewN | apply below_drew1) | exact HB.out))) : w.heap.size ≤ gb143)); clear HB; have HB := n0_; have BK143 := n1_; have GW143 := n2_; have GE143 := n3_; clear n0_ n1_ n2_ n3_; clear hb hbox hg; have hcz6_0 : w5.cell? ⟨gb143, 0, none⟩ = some (.slice A0_0 l0_0.length c0_0) := (blk_cell BK143.out 0).trans rfl; have hfz6_0 := blk_frozen BK143.out 0) | ((with_reducible refine gate_callee (f := 65) rfl ?_); refine goesL_ (some 8) rfl rfl Try.func65 (by kernel_rfl) rfl #[.slice A0_0 l0_0.length c0_0, .int .i64 a1] rfl (by (try simp only [List.map_toArray, List.map_cons, List.map_nil]); first | done | rfl | (simp only [List.length_drop, List.length_take]; rfl)) ?_; (with_reducible refine (laws_szIntS.calls _ _ l0_0 a1 t144 _ ?side1 ?side2 A3.out).mono ?_); (case side1 => repeat (first | exact (Kd.C_below HR0_0.out HB.out) | (with_reducible refine Kd.C_alloc ?_ _) | (with_reducible refine Kd.C_drewN ?_ _) | (with_reducible refine Kd.C_drew ?_))); (case side2 => exact HC0_0.out); rintro e w' ⟨rfl, ⟨nd, rfl⟩⟩; refine ⟨_, rfl, ?_⟩))
    go_ret
    exact ⟨by first | rfl | (simp [errW_none, errW_some] <;> rfl) | (simp [*, errW_none, errW_some] <;> rfl), by repeat (first | (with_reducible first | exact HB.out | apply below_alloc | apply pw_below_drewN | apply below_drew1 | refine below_set ?_ GE143.out) | exact HB.out)⟩
  · rw [if_neg c4] at H
    have c4b0 : decide (t144 < 0) = false := decide_eq_false c4
    clear c4
    obtain rfl := Option.some.inj H
    go_enter Try.func57, Try.ntmps57
    go_wp2_with (first | ((with_reducible refine gate_dst (N := 2) rfl ?_); refine box_event ?hg (N := 2) ?hd (cs := #[.slice A0_0 l0_0.length c0_0]) (t := 38) ?hr ?_; (case hd => rfl); (case hg => rfl); (case hr => first | (go_simp; done) | (go_simp; rfl)); intro gb143 hg w7 hbox hb; have n0_ := Aside0.mk (below_step (by repeat (first | (with_reducible first | exact HB.out | apply below_alloc | apply pw_below_drewN | apply below_drew1) | exact HB.out)) hb); have n1_ := Aside0.mk (hbox); have n2_ := Aside0.mk ((by rw [hg]; exact (below_size (by repeat (first | (with_reducible first | exact HB.out | apply below_alloc | apply pw_below_drewN | apply below_drew1) | exact HB.out))) : w.heap.size ≤ gb143)); have n3_ := Aside0.mk ((by rw [hg]; exact (below_size (by repeat (first | (with_reducible first | exact HB.out | apply below_alloc | apply pw_below_drewN | apply below_drew1) | exact HB.out))) : w.heap.size ≤ gb143)); clear HB; have HB := n0_; have BK143 := n1_; have GW143 := n2_; have GE143 := n3_; clear n0_ n1_ n2_ n3_; clear hb hbox hg; have hcz8_0 : w7.cell? ⟨gb143, 0, none⟩ = some (.slice A0_0 l0_0.length c0_0) := (blk_cell BK143.out 0).trans rfl; have hfz8_0 := blk_frozen BK143.out 0) | ((with_reducible refine gate_callee (f := 65) rfl ?_); refine goesL_ (some 8) rfl rfl Try.func65 (by kernel_rfl) rfl #[.slice A0_0 l0_0.length c0_0, .int .i64 a1] rfl (by (try simp only [List.map_toArray, List.map_cons, List.map_nil]); first | done | rfl | (simp only [List.length_drop, List.length_take]; rfl)) ?_; (with_reducible refine (laws_szIntS.calls _ _ l0_0 a1 t144 _ ?side1 ?side2 A3.out).mono ?_); (case side1 => repeat (first | exact (Kd.C_below HR0_0.out HB.out) | (with_reducible refine Kd.C_alloc ?_ _) | (with_reducible refine Kd.C_drewN ?_ _) | (with_reducible refine Kd.C_drew ?_))); (case side2 => exact HC0_0.out); rintro e w' ⟨rfl, ⟨nd, rfl⟩⟩; refine ⟨_, rfl, ?_⟩))
    go_ret
    exact ⟨by first | rfl | (simp [errW_none, errW_some] <;> rfl) | (simp [*, errW_none, errW_some] <;> rfl), by repeat (first | (with_reducible first | exact HB.out | apply below_alloc | apply pw_below_drewN | apply below_drew1 | refine below_set ?_ GE143.out) | exact HB.out)⟩

end Go.Proofs.Ytndkfjecipjiaaa.PFnExactFacts
