-- Written by the session's own patched copy of the printer (wip/patch_print.py).
import Derived.Test.YtgghglocfdcegaaPFnExactCrewNewx0
import Derived.Test.YtgghglocfdcegaaPFnExactCrewNewx7
namespace Go.Proofs.Ytgghglocfdcegaa.PFnExactCrewNew
open Go.RowKit Go.Proofs.YtgghglocfdcegaaW.PrintWords Go.Proofs.YtgghglocfdcegaaW.PrintLast Go.Proofs.YtgghglocfdcegaaW.PrintMore
attribute [local go_sem] max2_int min2_int max_two min_two max_three min_three max_four min_four   -- for this text's walks alone
set_option linter.unusedVariables false
set_option linter.unusedSimpArgs false

theorem q8_0 {p : Prop} (h : p := by have h_ : (aA : Int) < ((cA.length : Int) : Int) := of_decide_eq_true (by first | (with_reducible assumption) | assumption); first | exact h_ | (have e_ := (Kd.R_reads' dA.out).1; omega) | simpa using h_) : p := h
theorem q8_1 {p : Prop} (h : p := by first | (with_reducible assumption) | assumption) : p := h
theorem q8_2 {p : Prop} (h : p := by repeat (first | (with_reducible first | exact HK.out | apply Kept.alloc | apply Kept.drewN | apply Kept.drew) | exact HK.out)) : p := h
theorem q8_3 {p : Prop} (h : p := by repeat (first | (with_reducible first | exact HB.out | apply below_alloc | apply pw_below_drewN | apply below_drew1) | exact HB.out)) : p := h
theorem q8_4 {p : Prop} (h : p := by (with_reducible repeat (first | apply Kd.R_alloc | apply Kd.R_drewN | apply Kd.R_drew)); exact dA.out) : p := h
theorem q8_5 {p : Prop} (h : p := by first | rfl | (simp; done) | (simp [*]; done)) : p := h
theorem q8_6 {p : Prop} (h : p := by rw [hw]; exact below_set (HB.out) GB5.out) : p := h
theorem q8_7 {p : Prop} (h : p := by first | rfl | (simp [errW_none, errW_some] <;> rfl) | (simp [*, errW_none, errW_some] <;> rfl)) : p := h
theorem q8_8 {p : Prop} (h : p := by (try simp only [List.map_toArray, List.map_cons, List.map_nil]); first | done | rfl | (simp only [List.length_drop, List.length_take]; rfl)) : p := h
/-! ### laws_markCallS: function 53 -/
def laws_markCallS.l0 : Nat → List (S75) → Int → Int → Option (Int × (List (S75)))
 | 0, _, _, _ => none
 | k + 1, x0, x1, x5 => if x5 < (x0.length : Int) then (if 0 ≤ x5 then ((some (x0.set (x5 : Int).toNat (⟨x1, (rd_T75 x0 x5).f1, (rd_T75 x0 x5).f2, (rd_T75 x0 x5).f3, (rd_T75 x0 x5).f4, (rd_T75 x0 x5).f5, (rd_T75 x0 x5).f6, (rd_T75 x0 x5).f7, (rd_T75 x0 x5).f8, (rd_T75 x0 x5).f9⟩ : S75) : List (S75))).bind fun y391 => ((some (y391.set (x5 : Int).toNat (⟨(rd_T75 y391 x5).f0, wrap64 (x1 + 1), (rd_T75 y391 x5).f2, (rd_T75 y391 x5).f3, (rd_T75 y391 x5).f4, (rd_T75 y391 x5).f5, (rd_T75 y391 x5).f6, (rd_T75 y391 x5).f7, (rd_T75 y391 x5).f8, (rd_T75 y391 x5).f9⟩ : S75) : List (S75))).bind fun y392 => ((some (y392.set (x5 : Int).toNat (⟨(rd_T75 y392 x5).f0, (rd_T75 y392 x5).f1, wrap64 ((wrap64 (x1 + 1)) + 1), (rd_T75 y392 x5).f3, (rd_T75 y392 x5).f4, (rd_T75 y392 x5).f5, (rd_T75 y392 x5).f6, (rd_T75 y392 x5).f7, (rd_T75 y392 x5).f8, (rd_T75 y392 x5).f9⟩ : S75) : List (S75))).bind fun y393 => ((some (y393.set (x5 : Int).toNat (⟨(rd_T75 y393 x5).f0, (rd_T75 y393 x5).f1, (rd_T75 y393 x5).f2, wrap64 ((wrap64 ((wrap64 (x1 + 1)) + 1)) + 1), (rd_T75 y393 x5).f4, (rd_T75 y393 x5).f5, (rd_T75 y393 x5).f6, (rd_T75 y393 x5).f7, (rd_T75 y393 x5).f8, (rd_T75 y393 x5).f9⟩ : S75) : List (S75))).bind fun y394 => ((some (y394.set (x5 : Int).toNat (⟨(rd_T75 y394 x5).f0, (rd_T75 y394 x5).f1, (rd_T75 y394 x5).f2, (rd_T75 y394 x5).f3, wrap64 ((wrap64 ((wrap64 ((wrap64 (x1 + 1)) + 1)) + 1)) + 1), (rd_T75 y394 x5).f5, (rd_T75 y394 x5).f6, (rd_T75 y394 x5).f7, (rd_T75 y394 x5).f8, (rd_T75 y394 x5).f9⟩ : S75) : List (S75))).bind fun y395 => ((some (y395.set (x5 : Int).toNat (⟨(rd_T75 y395 x5).f0, (rd_T75 y395 x5).f1, (rd_T75 y395 x5).f2, (rd_T75 y395 x5).f3, (rd_T75 y395 x5).f4, wrap64 ((wrap64 ((wrap64 ((wrap64 ((wrap64 (x1 + 1)) + 1)) + 1)) + 1)) + 1), (rd_T75 y395 x5).f6, (rd_T75 y395 x5).f7, (rd_T75 y395 x5).f8, (rd_T75 y395 x5).f9⟩ : S75) : List (S75))).bind fun y396 => ((some (y396.set (x5 : Int).toNat (⟨(rd_T75 y396 x5).f0, (rd_T75 y396 x5).f1, (rd_T75 y396 x5).f2, (rd_T75 y396 x5).f3, (rd_T75 y396 x5).f4, (rd_T75 y396 x5).f5, wrap64 ((wrap64 ((wrap64 ((wrap64 ((wrap64 ((wrap64 (x1 + 1)) + 1)) + 1)) + 1)) + 1)) + 1), (rd_T75 y396 x5).f7, (rd_T75 y396 x5).f8, (rd_T75 y396 x5).f9⟩ : S75) : List (S75))).bind fun y397 => ((some (y397.set (x5 : Int).toNat (⟨(rd_T75 y397 x5).f0, (rd_T75 y397 x5).f1, (rd_T75 y397 x5).f2, (rd_T75 y397 x5).f3, (rd_T75 y397 x5).f4, (rd_T75 y397 x5).f5, (rd_T75 y397 x5).f6, wrap64 ((wrap64 ((wrap64 ((wrap64 ((wrap64 ((wrap64 ((wrap64 (x1 + 1)) + 1)) + 1)) + 1)) + 1)) + 1)) + 1), (rd_T75 y397 x5).f8, (rd_T75 y397 x5).f9⟩ : S75) : List (S75))).bind fun y398 => ((some (y398.set (x5 : Int).toNat (⟨(rd_T75 y398 x5).f0, (rd_T75 y398 x5).f1, (rd_T75 y398 x5).f2, (rd_T75 y398 x5).f3, (rd_T75 y398 x5).f4, (rd_T75 y398 x5).f5, (rd_T75 y398 x5).f6, (rd_T75 y398 x5).f7, wrap64 ((wrap64 ((wrap64 ((wrap64 ((wrap64 ((wrap64 ((wrap64 ((wrap64 (x1 + 1)) + 1)) + 1)) + 1)) + 1)) + 1)) + 1)) + 1), (rd_T75 y398 x5).f9⟩ : S75) : List (S75))).bind fun y399 => (laws_markCallS.l0 k (y399.set (x5 : Int).toNat (⟨(rd_T75 y399 x5).f0, (rd_T75 y399 x5).f1, (rd_T75 y399 x5).f2, (rd_T75 y399 x5).f3, (rd_T75 y399 x5).f4, (rd_T75 y399 x5).f5, (rd_T75 y399 x5).f6, (rd_T75 y399 x5).f7, (rd_T75 y399 x5).f8, ((Int.tmod (wrap64 ((wrap64 ((wrap64 ((wrap64 ((wrap64 ((wrap64 ((wrap64 ((wrap64 ((wrap64 (x1 + 1)) + 1)) + 1)) + 1)) + 1)) + 1)) + 1)) + 1)) + 1)) 3) == 0)⟩ : S75)) (wrap64 ((wrap64 ((wrap64 ((wrap64 ((wrap64 ((wrap64 ((wrap64 ((wrap64 ((wrap64 ((wrap64 (x1 + 1)) + 1)) + 1)) + 1)) + 1)) + 1)) + 1)) + 1)) + 1)) + 1)) (wrap64 (x5 + 1)))))))))))) else (none)) else (some (x1, x0))
def laws_markCallS.f (k : Nat) (l0 : List (S75)) (a1 : Int) : Option (Int × (List (S75))) := laws_markCallS.l0 k l0 a1 0
theorem laws_markCallS.mono_l : ∀ k, (∀ y0 y1 y2, LeO (laws_markCallS.l0 k y0 y1 y2) (laws_markCallS.l0 (k + 1) y0 y1 y2))
 | 0 => fun _ _ _ r h => by simp [laws_markCallS.l0] at h
 | k + 1 => by
  have ih0 := laws_markCallS.mono_l k
  ·intro y0 y1 y2
   unfold laws_markCallS.l0
   repeat' first
   | (with_reducible exact ih0 _ _ _)
   | (with_reducible exact LeO.refl _)
   | (with_reducible exact LeO.none _)
   | (with_reducible refine LeO.ite ?_ ?_)
   | (with_reducible refine LeO.bind ?_ (fun _ => ?_))
   | exact ih0 _ _ _
   | exact LeO.none _
   | refine LeO.ite ?_ ?_
   | refine LeO.bind ?_ (fun _ => ?_)
theorem laws_markCallS.mono : ∀ a0 a1 k, LeO (laws_markCallS.f k a0 a1) (laws_markCallS.f (k + 1) a0 a1) := by
 intro a0 a1 k
 have ih0 := laws_markCallS.mono_l k
 unfold laws_markCallS.f
 repeat' first
   | (with_reducible exact ih0 _ _ _)
   | (with_reducible exact LeO.refl _)
   | (with_reducible exact LeO.none _)
   | (with_reducible refine LeO.ite ?_ ?_)
   | (with_reducible refine LeO.bind ?_ (fun _ => ?_))
   | exact ih0 _ _ _
   | exact LeO.none _
   | refine LeO.ite ?_ ?_
   | refine LeO.bind ?_ (fun _ => ?_)
set_option maxHeartbeats 8000000 in
set_option maxRecDepth 100000 in
theorem laws_markCallS.calls (k : Nat) (P0_ : Nat → Prop) (u9000_ : Value) (l0 : List (S75)) (a1 : Int) (r1 : Int) (r2 : List (S75)) (w0 w : World) (hB : Below w0.heap.size w0 w) (ho0 : Kd.R k75 75 w w0.heap.size P0_ u9000_ l0) (h : laws_markCallS.f k l0 a1 = some (r1, r2)) :
  Calls Try.prog 53 #[u9000_, .int .i64 a1] w fun e w' => e = .returned (.int .i64 r1) ∧ Kd.R k75 75 w' w0.heap.size (fun k_ => (P0_ k_ ∨ w.heap.size ≤ k_)) u9000_ r2 ∧ Below w0.heap.size w0 w' ∧ Kept w w' (fun k_ => P0_ k_) := by
 have FF := Aside0.mk (show Kd.R k75 75 w w0.heap.size (fun k_ => (P0_ k_ ∨ w.heap.size ≤ k_)) u9000_ l0 from Kd.R_mono ho0 (fun k_ hk => (.inl hk)))
 have HK := Aside0.mk (Kept.refl w (fun k_ => P0_ k_))
 have HW0 := Aside0.mk hB.size
 have HB := Aside0.mk hB
 clear hB
 have H : (laws_markCallS.l0 k l0 a1 0) = some (r1, r2) := h
 clear h
 have H' := Aside0.mk H
 clear H
 go_enter Try.func53, Try.ntmps53
 go_wp2
 go_loopg [1, 5] k (fun kq v1 v5 w' => ∃ (cA : List (S75)) (bA : Int) (aA : Int), v1 = .int .i64 bA ∧ v5 = .int .i64 aA ∧ Aside0 (laws_markCallS.l0 kq cA bA aA = some (r1, r2)) ∧ Aside0 (kq ≤ k) ∧ Aside0 (Kd.R k75 75 w' w0.heap.size (fun k_ => (P0_ k_ ∨ w.heap.size ≤ k_)) u9000_ cA) ∧ Aside0 (Kept w w' (fun k_ => P0_ k_)) ∧ Aside0 (Below w0.heap.size w0 w'))
 case atStart => exact ⟨(l0), (a1), (0), q8_5, q8_5, H', ⟨Nat.le_refl _⟩, ⟨by (with_reducible repeat (first | apply Kd.R_alloc | apply Kd.R_drewN | apply Kd.R_drew)); exact FF.out⟩, ⟨q8_2⟩, ⟨q8_3⟩⟩
 case round =>
  clear H'
  try clear p2
  obtain ⟨cA, bA, aA, rfl, rfl, HA, HK1, dA, HK, HB⟩ := hrel
  cases gk with
  | zero => exact absurd HA.out (by simp [laws_markCallS.l0])
  | succ k1 =>
   have H := HA.out
   clear HA
   simp only [laws_markCallS.l0] at H
   by_cases c3 : aA < (cA.length : Int)
   ·rw [if_pos c3] at H
    have QA : decide (aA < (cA.length : Int)) = true := decide_eq_true c3
    clear c3
    by_cases c4 : 0 ≤ aA
    ·rw [if_pos c4] at H
     have RA : decide (0 ≤ aA) = true := decide_eq_true c4
     clear c4
     obtain ⟨y391, hy391⟩ : ∃ y_ : List (S75), y_ = (cA.set (aA : Int).toNat (⟨bA, (rd_T75 cA aA).f1, (rd_T75 cA aA).f2, (rd_T75 cA aA).f3, (rd_T75 cA aA).f4, (rd_T75 cA aA).f5, (rd_T75 cA aA).f6, (rd_T75 cA aA).f7, (rd_T75 cA aA).f8, (rd_T75 cA aA).f9⟩ : S75)) := ⟨_, rfl⟩
     replace H : ((some (y391.set (aA : Int).toNat (⟨(rd_T75 y391 aA).f0, wrap64 (bA + 1), (rd_T75 y391 aA).f2, (rd_T75 y391 aA).f3, (rd_T75 y391 aA).f4, (rd_T75 y391 aA).f5, (rd_T75 y391 aA).f6, (rd_T75 y391 aA).f7, (rd_T75 y391 aA).f8, (rd_T75 y391 aA).f9⟩ : S75) : List (S75))).bind fun y392 => ((some (y392.set (aA : Int).toNat (⟨(rd_T75 y392 aA).f0, (rd_T75 y392 aA).f1, wrap64 ((wrap64 (bA + 1)) + 1), (rd_T75 y392 aA).f3, (rd_T75 y392 aA).f4, (rd_T75 y392 aA).f5, (rd_T75 y392 aA).f6, (rd_T75 y392 aA).f7, (rd_T75 y392 aA).f8, (rd_T75 y392 aA).f9⟩ : S75) : List (S75))).bind fun y393 => ((some (y393.set (aA : Int).toNat (⟨(rd_T75 y393 aA).f0, (rd_T75 y393 aA).f1, (rd_T75 y393 aA).f2, wrap64 ((wrap64 ((wrap64 (bA + 1)) + 1)) + 1), (rd_T75 y393 aA).f4, (rd_T75 y393 aA).f5, (rd_T75 y393 aA).f6, (rd_T75 y393 aA).f7, (rd_T75 y393 aA).f8, (rd_T75 y393 aA).f9⟩ : S75) : List (S75))).bind fun y394 => ((some (y394.set (aA : Int).toNat (⟨(rd_T75 y394 aA).f0, (rd_T75 y394 aA).f1, (rd_T75 y394 aA).f2, (rd_T75 y394 aA).f3, wrap64 ((wrap64 ((wrap64 ((wrap64 (bA + 1)) + 1)) + 1)) + 1), (rd_T75 y394 aA).f5, (rd_T75 y394 aA).f6, (rd_T75 y394 aA).f7, (rd_T75 y394 aA).f8, (rd_T75 y394 aA).f9⟩ : S75) : List (S75))).bind fun y395 => ((some (y395.set (aA : Int).toNat (⟨(rd_T75 y395 aA).f0, (rd_T75 y395 aA).f1, (rd_T75 y395 aA).f2, (rd_T75 y395 aA).f3, (rd_T75 y395 aA).f4, wrap64 ((wrap64 ((wrap64 ((wrap64 ((wrap64 (bA + 1)) + 1)) + 1)) + 1)) + 1), (rd_T75 y395 aA).f6, (rd_T75 y395 aA).f7, (rd_T75 y395 aA).f8, (rd_T75 y395 aA).f9⟩ : S75) : List (S75))).bind fun y396 => ((some (y396.set (aA : Int).toNat (⟨(rd_T75 y396 aA).f0, (rd_T75 y396 aA).f1, (rd_T75 y396 aA).f2, (rd_T75 y396 aA).f3, (rd_T75 y396 aA).f4, (rd_T75 y396 aA).f5, wrap64 ((wrap64 ((wrap64 ((wrap64 ((wrap64 ((wrap64 (bA + 1)) + 1)) + 1)) + 1)) + 1)) + 1), (rd_T75 y396 aA).f7, (rd_T75 y396 aA).f8, (rd_T75 y396 aA).f9⟩ : S75) : List (S75))).bind fun y397 => ((some (y397.set (aA : Int).toNat (⟨(rd_T75 y397 aA).f0, (rd_T75 y397 aA).f1, (rd_T75 y397 aA).f2, (rd_T75 y397 aA).f3, (rd_T75 y397 aA).f4, (rd_T75 y397 aA).f5, (rd_T75 y397 aA).f6, wrap64 ((wrap64 ((wrap64 ((wrap64 ((wrap64 ((wrap64 ((wrap64 (bA + 1)) + 1)) + 1)) + 1)) + 1)) + 1)) + 1), (rd_T75 y397 aA).f8, (rd_T75 y397 aA).f9⟩ : S75) : List (S75))).bind fun y398 => ((some (y398.set (aA : Int).toNat (⟨(rd_T75 y398 aA).f0, (rd_T75 y398 aA).f1, (rd_T75 y398 aA).f2, (rd_T75 y398 aA).f3, (rd_T75 y398 aA).f4, (rd_T75 y398 aA).f5, (rd_T75 y398 aA).f6, (rd_T75 y398 aA).f7, wrap64 ((wrap64 ((wrap64 ((wrap64 ((wrap64 ((wrap64 ((wrap64 ((wrap64 (bA + 1)) + 1)) + 1)) + 1)) + 1)) + 1)) + 1)) + 1), (rd_T75 y398 aA).f9⟩ : S75) : List (S75))).bind fun y399 => (laws_markCallS.l0 k1 (y399.set (aA : Int).toNat (⟨(rd_T75 y399 aA).f0, (rd_T75 y399 aA).f1, (rd_T75 y399 aA).f2, (rd_T75 y399 aA).f3, (rd_T75 y399 aA).f4, (rd_T75 y399 aA).f5, (rd_T75 y399 aA).f6, (rd_T75 y399 aA).f7, (rd_T75 y399 aA).f8, ((Int.tmod (wrap64 ((wrap64 ((wrap64 ((wrap64 ((wrap64 ((wrap64 ((wrap64 ((wrap64 ((wrap64 (bA + 1)) + 1)) + 1)) + 1)) + 1)) + 1)) + 1)) + 1)) + 1)) 3) == 0)⟩ : S75)) (wrap64 ((wrap64 ((wrap64 ((wrap64 ((wrap64 ((wrap64 ((wrap64 ((wrap64 ((wrap64 ((wrap64 (bA + 1)) + 1)) + 1)) + 1)) + 1)) + 1)) + 1)) + 1)) + 1)) + 1)) (wrap64 (aA + 1))))))))))) = some (r1, r2) := by first | (rw [hy391]; with_reducible exact H) | (have H2_ := (Option.bind_some _ _).symm.trans H; rw [hy391]; with_reducible exact H2_) | (have H2_ := (Option.bind_some _ _).symm.trans H; with_reducible exact H2_) | with_reducible exact H | (rw [hy391]; exact H) | exact H
     have Ny391 := Aside0.mk hy391
     clear hy391
     obtain ⟨y392, hy392⟩ : ∃ y_ : List (S75), y_ = (y391.set (aA : Int).toNat (⟨(rd_T75 y391 aA).f0, wrap64 (bA + 1), (rd_T75 y391 aA).f2, (rd_T75 y391 aA).f3, (rd_T75 y391 aA).f4, (rd_T75 y391 aA).f5, (rd_T75 y391 aA).f6, (rd_T75 y391 aA).f7, (rd_T75 y391 aA).f8, (rd_T75 y391 aA).f9⟩ : S75)) := ⟨_, rfl⟩
     replace H : ((some (y392.set (aA : Int).toNat (⟨(rd_T75 y392 aA).f0, (rd_T75 y392 aA).f1, wrap64 ((wrap64 (bA + 1)) + 1), (rd_T75 y392 aA).f3, (rd_T75 y392 aA).f4, (rd_T75 y392 aA).f5, (rd_T75 y392 aA).f6, (rd_T75 y392 aA).f7, (rd_T75 y392 aA).f8, (rd_T75 y392 aA).f9⟩ : S75) : List (S75))).bind fun y393 => ((some (y393.set (aA : Int).toNat (⟨(rd_T75 y393 aA).f0, (rd_T75 y393 aA).f1, (rd_T75 y393 aA).f2, wrap64 ((wrap64 ((wrap64 (bA + 1)) + 1)) + 1), (rd_T75 y393 aA).f4, (rd_T75 y393 aA).f5, (rd_T75 y393 aA).f6, (rd_T75 y393 aA).f7, (rd_T75 y393 aA).f8, (rd_T75 y393 aA).f9⟩ : S75) : List (S75))).bind fun y394 => ((some (y394.set (aA : Int).toNat (⟨(rd_T75 y394 aA).f0, (rd_T75 y394 aA).f1, (rd_T75 y394 aA).f2, (rd_T75 y394 aA).f3, wrap64 ((wrap64 ((wrap64 ((wrap64 (bA + 1)) + 1)) + 1)) + 1), (rd_T75 y394 aA).f5, (rd_T75 y394 aA).f6, (rd_T75 y394 aA).f7, (rd_T75 y394 aA).f8, (rd_T75 y394 aA).f9⟩ : S75) : List (S75))).bind fun y395 => ((some (y395.set (aA : Int).toNat (⟨(rd_T75 y395 aA).f0, (rd_T75 y395 aA).f1, (rd_T75 y395 aA).f2, (rd_T75 y395 aA).f3, (rd_T75 y395 aA).f4, wrap64 ((wrap64 ((wrap64 ((wrap64 ((wrap64 (bA + 1)) + 1)) + 1)) + 1)) + 1), (rd_T75 y395 aA).f6, (rd_T75 y395 aA).f7, (rd_T75 y395 aA).f8, (rd_T75 y395 aA).f9⟩ : S75) : List (S75))).bind fun y396 => ((some (y396.set (aA : Int).toNat (⟨(rd_T75 y396 aA).f0, (rd_T75 y396 aA).f1, (rd_T75 y396 aA).f2, (rd_T75 y396 aA).f3, (rd_T75 y396 aA).f4, (rd_T75 y396 aA).f5, wrap64 ((wrap64 ((wrap64 ((wrap64 ((wrap64 ((wrap64 (bA + 1)) + 1)) + 1)) + 1)) + 1)) + 1), (rd_T75 y396 aA).f7, (rd_T75 y396 aA).f8, (rd_T75 y396 aA).f9⟩ : S75) : List (S75))).bind fun y397 => ((some (y397.set (aA : Int).toNat (⟨(rd_T75 y397 aA).f0, (rd_T75 y397 aA).f1, (rd_T75 y397 aA).f2, (rd_T75 y397 aA).f3, (rd_T75 y397 aA).f4, (rd_T75 y397 aA).f5, (rd_T75 y397 aA).f6, wrap64 ((wrap64 ((wrap64 ((wrap64 ((wrap64 ((wrap64 ((wrap64 (bA + 1)) + 1)) + 1)) + 1)) + 1)) + 1)) + 1), (rd_T75 y397 aA).f8, (rd_T75 y397 aA).f9⟩ : S75) : List (S75))).bind fun y398 => ((some (y398.set (aA : Int).toNat (⟨(rd_T75 y398 aA).f0, (rd_T75 y398 aA).f1, (rd_T75 y398 aA).f2, (rd_T75 y398 aA).f3, (rd_T75 y398 aA).f4, (rd_T75 y398 aA).f5, (rd_T75 y398 aA).f6, (rd_T75 y398 aA).f7, wrap64 ((wrap64 ((wrap64 ((wrap64 ((wrap64 ((wrap64 ((wrap64 ((wrap64 (bA + 1)) + 1)) + 1)) + 1)) + 1)) + 1)) + 1)) + 1), (rd_T75 y398 aA).f9⟩ : S75) : List (S75))).bind fun y399 => (laws_markCallS.l0 k1 (y399.set (aA : Int).toNat (⟨(rd_T75 y399 aA).f0, (rd_T75 y399 aA).f1, (rd_T75 y399 aA).f2, (rd_T75 y399 aA).f3, (rd_T75 y399 aA).f4, (rd_T75 y399 aA).f5, (rd_T75 y399 aA).f6, (rd_T75 y399 aA).f7, (rd_T75 y399 aA).f8, ((Int.tmod (wrap64 ((wrap64 ((wrap64 ((wrap64 ((wrap64 ((wrap64 ((wrap64 ((wrap64 ((wrap64 (bA + 1)) + 1)) + 1)) + 1)) + 1)) + 1)) + 1)) + 1)) + 1)) 3) == 0)⟩ : S75)) (wrap64 ((wrap64 ((wrap64 ((wrap64 ((wrap64 ((wrap64 ((wrap64 ((wrap64 ((wrap64 ((wrap64 (bA + 1)) + 1)) + 1)) + 1)) + 1)) + 1)) + 1)) + 1)) + 1)) + 1)) (wrap64 (aA + 1)))))))))) = some (r1, r2) := by first | (rw [hy392]; with_reducible exact H) | (have H2_ := (Option.bind_some _ _).symm.trans H; rw [hy392]; with_reducible exact H2_) | (have H2_ := (Option.bind_some _ _).symm.trans H; with_reducible exact H2_) | with_reducible exact H | (rw [hy392]; exact H) | exact H
     have Ny392 := Aside0.mk hy392
     clear hy392
     obtain ⟨y393, hy393⟩ : ∃ y_ : List (S75), y_ = (y392.set (aA : Int).toNat (⟨(rd_T75 y392 aA).f0, (rd_T75 y392 aA).f1, wrap64 ((wrap64 (bA + 1)) + 1), (rd_T75 y392 aA).f3, (rd_T75 y392 aA).f4, (rd_T75 y392 aA).f5, (rd_T75 y392 aA).f6, (rd_T75 y392 aA).f7, (rd_T75 y392 aA).f8, (rd_T75 y392 aA).f9⟩ : S75)) := ⟨_, rfl⟩
     replace H : ((some (y393.set (aA : Int).toNat (⟨(rd_T75 y393 aA).f0, (rd_T75 y393 aA).f1, (rd_T75 y393 aA).f2, wrap64 ((wrap64 ((wrap64 (bA + 1)) + 1)) + 1), (rd_T75 y393 aA).f4, (rd_T75 y393 aA).f5, (rd_T75 y393 aA).f6, (rd_T75 y393 aA).f7, (rd_T75 y393 aA).f8, (rd_T75 y393 aA).f9⟩ : S75) : List (S75))).bind fun y394 => ((some (y394.set (aA : Int).toNat (⟨(rd_T75 y394 aA).f0, (rd_T75 y394 aA).f1, (rd_T75 y394 aA).f2, (rd_T75 y394 aA).f3, wrap64 ((wrap64 ((wrap64 ((wrap64 (bA + 1)) + 1)) + 1)) + 1), (rd_T75 y394 aA).f5, (rd_T75 y394 aA).f6, (rd_T75 y394 aA).f7, (rd_T75 y394 aA).f8, (rd_T75 y394 aA).f9⟩ : S75) : List (S75))).bind fun y395 => ((some (y395.set (aA : Int).toNat (⟨(rd_T75 y395 aA).f0, (rd_T75 y395 aA).f1, (rd_T75 y395 aA).f2, (rd_T75 y395 aA).f3, (rd_T75 y395 aA).f4, wrap64 ((wrap64 ((wrap64 ((wrap64 ((wrap64 (bA + 1)) + 1)) + 1)) + 1)) + 1), (rd_T75 y395 aA).f6, (rd_T75 y395 aA).f7, (rd_T75 y395 aA).f8, (rd_T75 y395 aA).f9⟩ : S75) : List (S75))).bind fun y396 => ((some (y396.set (aA : Int).toNat (⟨(rd_T75 y396 aA).f0, (rd_T75 y396 aA).f1, (rd_T75 y396 aA).f2, (rd_T75 y396 aA).f3, (rd_T75 y396 aA).f4, (rd_T75 y396 aA).f5, wrap64 ((wrap64 ((wrap64 ((wrap64 ((wrap64 ((wrap64 (bA + 1)) + 1)) + 1)) + 1)) + 1)) + 1), (rd_T75 y396 aA).f7, (rd_T75 y396 aA).f8, (rd_T75 y396 aA).f9⟩ : S75) : List (S75))).bind fun y397 => ((some (y397.set (aA : Int).toNat (⟨(rd_T75 y397 aA).f0, (rd_T75 y397 aA).f1, (rd_T75 y397 aA).f2, (rd_T75 y397 aA).f3, (rd_T75 y397 aA).f4, (rd_T75 y397 aA).f5, (rd_T75 y397 aA).f6, wrap64 ((wrap64 ((wrap64 ((wrap64 ((wrap64 ((wrap64 ((wrap64 (bA + 1)) + 1)) + 1)) + 1)) + 1)) + 1)) + 1), (rd_T75 y397 aA).f8, (rd_T75 y397 aA).f9⟩ : S75) : List (S75))).bind fun y398 => ((some (y398.set (aA : Int).toNat (⟨(rd_T75 y398 aA).f0, (rd_T75 y398 aA).f1, (rd_T75 y398 aA).f2, (rd_T75 y398 aA).f3, (rd_T75 y398 aA).f4, (rd_T75 y398 aA).f5, (rd_T75 y398 aA).f6, (rd_T75 y398 aA).f7, wrap64 ((wrap64 ((wrap64 ((wrap64 ((wrap64 ((wrap64 ((wrap64 ((wrap64 (bA + 1)) + 1)) + 1)) + 1)) + 1)) + 1)) + 1)) + 1), (rd_T75 y398 aA).f9⟩ : S75) : List (S75))).bind fun y399 => (laws_markCallS.l0 k1 (y399.set (aA : Int).toNat (⟨(rd_T75 y399 aA).f0, (rd_T75 y399 aA).f1, (rd_T75 y399 aA).f2, (rd_T75 y399 aA).f3, (rd_T75 y399 aA).f4, (rd_T75 y399 aA).f5, (rd_T75 y399 aA).f6, (rd_T75 y399 aA).f7, (rd_T75 y399 aA).f8, ((Int.tmod (wrap64 ((wrap64 ((wrap64 ((wrap64 ((wrap64 ((wrap64 ((wrap64 ((wrap64 ((wrap64 (bA + 1)) + 1)) + 1)) + 1)) + 1)) + 1)) + 1)) + 1)) + 1)) 3) == 0)⟩ : S75)) (wrap64 ((wrap64 ((wrap64 ((wrap64 ((wrap64 ((wrap64 ((wrap64 ((wrap64 ((wrap64 ((wrap64 (bA + 1)) + 1)) + 1)) + 1)) + 1)) + 1)) + 1)) + 1)) + 1)) + 1)) (wrap64 (aA + 1))))))))) = some (r1, r2) := by first | (rw [hy393]; with_reducible exact H) | (have H2_ := (Option.bind_some _ _).symm.trans H; rw [hy393]; with_reducible exact H2_) | (have H2_ := (Option.bind_some _ _).symm.trans H; with_reducible exact H2_) | with_reducible exact H | (rw [hy393]; exact H) | exact H
     have Ny393 := Aside0.mk hy393
     clear hy393
     obtain ⟨y394, hy394⟩ : ∃ y_ : List (S75), y_ = (y393.set (aA : Int).toNat (⟨(rd_T75 y393 aA).f0, (rd_T75 y393 aA).f1, (rd_T75 y393 aA).f2, wrap64 ((wrap64 ((wrap64 (bA + 1)) + 1)) + 1), (rd_T75 y393 aA).f4, (rd_T75 y393 aA).f5, (rd_T75 y393 aA).f6, (rd_T75 y393 aA).f7, (rd_T75 y393 aA).f8, (rd_T75 y393 aA).f9⟩ : S75)) := ⟨_, rfl⟩
     replace H : ((some (y394.set (aA : Int).toNat (⟨(rd_T75 y394 aA).f0, (rd_T75 y394 aA).f1, (rd_T75 y394 aA).f2, (rd_T75 y394 aA).f3, wrap64 ((wrap64 ((wrap64 ((wrap64 (bA + 1)) + 1)) + 1)) + 1), (rd_T75 y394 aA).f5, (rd_T75 y394 aA).f6, (rd_T75 y394 aA).f7, (rd_T75 y394 aA).f8, (rd_T75 y394 aA).f9⟩ : S75) : List (S75))).bind fun y395 => ((some (y395.set (aA : Int).toNat (⟨(rd_T75 y395 aA).f0, (rd_T75 y395 aA).f1, (rd_T75 y395 aA).f2, (rd_T75 y395 aA).f3, (rd_T75 y395 aA).f4, wrap64 ((wrap64 ((wrap64 ((wrap64 ((wrap64 (bA + 1)) + 1)) + 1)) + 1)) + 1), (rd_T75 y395 aA).f6, (rd_T75 y395 aA).f7, (rd_T75 y395 aA).f8, (rd_T75 y395 aA).f9⟩ : S75) : List (S75))).bind fun y396 => ((some (y396.set (aA : Int).toNat (⟨(rd_T75 y396 aA).f0, (rd_T75 y396 aA).f1, (rd_T75 y396 aA).f2, (rd_T75 y396 aA).f3, (rd_T75 y396 aA).f4, (rd_T75 y396 aA).f5, wrap64 ((wrap64 ((wrap64 ((wrap64 ((wrap64 ((wrap64 (bA + 1)) + 1)) + 1)) + 1)) + 1)) + 1), (rd_T75 y396 aA).f7, (rd_T75 y396 aA).f8, (rd_T75 y396 aA).f9⟩ : S75) : List (S75))).bind fun y397 => ((some (y397.set (aA : Int).toNat (⟨(rd_T75 y397 aA).f0, (rd_T75 y397 aA).f1, (rd_T75 y397 aA).f2, (rd_T75 y397 aA).f3, (rd_T75 y397 aA).f4, (rd_T75 y397 aA).f5, (rd_T75 y397 aA).f6, wrap64 ((wrap64 ((wrap64 ((wrap64 ((wrap64 ((wrap64 ((wrap64 (bA + 1)) + 1)) + 1)) + 1)) + 1)) + 1)) + 1), (rd_T75 y397 aA).f8, (rd_T75 y397 aA).f9⟩ : S75) : List (S75))).bind fun y398 => ((some (y398.set (aA : Int).toNat (⟨(rd_T75 y398 aA).f0, (rd_T75 y398 aA).f1, (rd_T75 y398 aA).f2, (rd_T75 y398 aA).f3, (rd_T75 y398 aA).f4, (rd_T75 y398 aA).f5, (rd_T75 y398 aA).f6, (rd_T75 y398 aA).f7, wrap64 ((wrap64 ((wrap64 ((wrap64 ((wrap64 ((wrap64 ((wrap64 ((wrap64 (bA + 1)) + 1)) + 1)) + 1)) + 1)) + 1)) + 1)) + 1), (rd_T75 y398 aA).f9⟩ : S75) : List (S75))).bind fun y399 => (laws_markCallS.l0 k1 (y399.set (aA : Int).toNat (⟨(rd_T75 y399 aA).f0, (rd_T75 y399 aA).f1, (rd_T75 y399 aA).f2, (rd_T75 y399 aA).f3, (rd_T75 y399 aA).f4, (rd_T75 y399 aA).f5, (rd_T75 y399 aA).f6, (rd_T75 y399 aA).f7, (rd_T75 y399 aA).f8, ((Int.tmod (wrap64 ((wrap64 ((wrap64 ((wrap64 ((wrap64 ((wrap64 ((wrap64 ((wrap64 ((wrap64 (bA + 1)) + 1)) + 1)) + 1)) + 1)) + 1)) + 1)) + 1)) + 1)) 3) == 0)⟩ : S75)) (wrap64 ((wrap64 ((wrap64 ((wrap64 ((wrap64 ((wrap64 ((wrap64 ((wrap64 ((wrap64 ((wrap64 (bA + 1)) + 1)) + 1)) + 1)) + 1)) + 1)) + 1)) + 1)) + 1)) + 1)) (wrap64 (aA + 1)))))))) = some (r1, r2) := by first | (rw [hy394]; with_reducible exact H) | (have H2_ := (Option.bind_some _ _).symm.trans H; rw [hy394]; with_reducible exact H2_) | (have H2_ := (Option.bind_some _ _).symm.trans H; with_reducible exact H2_) | with_reducible exact H | (rw [hy394]; exact H) | exact H
     have Ny394 := Aside0.mk hy394
     clear hy394
     obtain ⟨y395, hy395⟩ : ∃ y_ : List (S75), y_ = (y394.set (aA : Int).toNat (⟨(rd_T75 y394 aA).f0, (rd_T75 y394 aA).f1, (rd_T75 y394 aA).f2, (rd_T75 y394 aA).f3, wrap64 ((wrap64 ((wrap64 ((wrap64 (bA + 1)) + 1)) + 1)) + 1), (rd_T75 y394 aA).f5, (rd_T75 y394 aA).f6, (rd_T75 y394 aA).f7, (rd_T75 y394 aA).f8, (rd_T75 y394 aA).f9⟩ : S75)) := ⟨_, rfl⟩
     replace H : ((some (y395.set (aA : Int).toNat (⟨(rd_T75 y395 aA).f0, (rd_T75 y395 aA).f1, (rd_T75 y395 aA).f2, (rd_T75 y395 aA).f3, (rd_T75 y395 aA).f4, wrap64 ((wrap64 ((wrap64 ((wrap64 ((wrap64 (bA + 1)) + 1)) + 1)) + 1)) + 1), (rd_T75 y395 aA).f6, (rd_T75 y395 aA).f7, (rd_T75 y395 aA).f8, (rd_T75 y395 aA).f9⟩ : S75) : List (S75))).bind fun y396 => ((some (y396.set (aA : Int).toNat (⟨(rd_T75 y396 aA).f0, (rd_T75 y396 aA).f1, (rd_T75 y396 aA).f2, (rd_T75 y396 aA).f3, (rd_T75 y396 aA).f4, (rd_T75 y396 aA).f5, wrap64 ((wrap64 ((wrap64 ((wrap64 ((wrap64 ((wrap64 (bA + 1)) + 1)) + 1)) + 1)) + 1)) + 1), (rd_T75 y396 aA).f7, (rd_T75 y396 aA).f8, (rd_T75 y396 aA).f9⟩ : S75) : List (S75))).bind fun y397 => ((some (y397.set (aA : Int).toNat (⟨(rd_T75 y397 aA).f0, (rd_T75 y397 aA).f1, (rd_T75 y397 aA).f2, (rd_T75 y397 aA).f3, (rd_T75 y397 aA).f4, (rd_T75 y397 aA).f5, (rd_T75 y397 aA).f6, wrap64 ((wrap64 ((wrap64 ((wrap64 ((wrap64 ((wrap64 ((wrap64 (bA + 1)) + 1)) + 1)) + 1)) + 1)) + 1)) + 1), (rd_T75 y397 aA).f8, (rd_T75 y397 aA).f9⟩ : S75) : List (S75))).bind fun y398 => ((some (y398.set (aA : Int).toNat (⟨(rd_T75 y398 aA).f0, (rd_T75 y398 aA).f1, (rd_T75 y398 aA).f2, (rd_T75 y398 aA).f3, (rd_T75 y398 aA).f4, (rd_T75 y398 aA).f5, (rd_T75 y398 aA).f6, (rd_T75 y398 aA).f7, wrap64 ((wrap64 ((wrap64 ((wrap64 ((wrap64 ((wrap64 ((wrap64 ((wrap64 (bA + 1)) + 1)) + 1)) + 1)) + 1)) + 1)) + 1)) + 1), (rd_T75 y398 aA).f9⟩ : S75) : List (S75))).bind fun y399 => (laws_markCallS.l0 k1 (y399.set (aA : Int).toNat (⟨(rd_T75 y399 aA).f0, (rd_T75 y399 aA).f1, (rd_T75 y399 aA).f2, (rd_T75 y399 aA).f3, (rd_T75 y399 aA).f4, (rd_T75 y399 aA).f5, (rd_T75 y399 aA).f6, (rd_T75 y399 aA).f7, (rd_T75 y399 aA).f8, ((Int.tmod (wrap64 ((wrap64 ((wrap64 ((wrap64 ((wrap64 ((wrap64 ((wrap64 ((wrap64 ((wrap64 (bA + 1)) + 1)) + 1)) + 1)) + 1)) + 1)) + 1)) + 1)) + 1)) 3) == 0)⟩ : S75)) (wrap64 ((wrap64 ((wrap64 ((wrap64 ((wrap64 ((wrap64 ((wrap64 ((wrap64 ((wrap64 ((wrap64 (bA + 1)) + 1)) + 1)) + 1)) + 1)) + 1)) + 1)) + 1)) + 1)) + 1)) (wrap64 (aA + 1))))))) = some (r1, r2) := by first | (rw [hy395]; with_reducible exact H) | (have H2_ := (Option.bind_some _ _).symm.trans H; rw [hy395]; with_reducible exact H2_) | (have H2_ := (Option.bind_some _ _).symm.trans H; with_reducible exact H2_) | with_reducible exact H | (rw [hy395]; exact H) | exact H
     have Ny395 := Aside0.mk hy395
     clear hy395
     obtain ⟨y396, hy396⟩ : ∃ y_ : List (S75), y_ = (y395.set (aA : Int).toNat (⟨(rd_T75 y395 aA).f0, (rd_T75 y395 aA).f1, (rd_T75 y395 aA).f2, (rd_T75 y395 aA).f3, (rd_T75 y395 aA).f4, wrap64 ((wrap64 ((wrap64 ((wrap64 ((wrap64 (bA + 1)) + 1)) + 1)) + 1)) + 1), (rd_T75 y395 aA).f6, (rd_T75 y395 aA).f7, (rd_T75 y395 aA).f8, (rd_T75 y395 aA).f9⟩ : S75)) := ⟨_, rfl⟩
     replace H : ((some (y396.set (aA : Int).toNat (⟨(rd_T75 y396 aA).f0, (rd_T75 y396 aA).f1, (rd_T75 y396 aA).f2, (rd_T75 y396 aA).f3, (rd_T75 y396 aA).f4, (rd_T75 y396 aA).f5, wrap64 ((wrap64 ((wrap64 ((wrap64 ((wrap64 ((wrap64 (bA + 1)) + 1)) + 1)) + 1)) + 1)) + 1), (rd_T75 y396 aA).f7, (rd_T75 y396 aA).f8, (rd_T75 y396 aA).f9⟩ : S75) : List (S75))).bind fun y397 => ((some (y397.set (aA : Int).toNat (⟨(rd_T75 y397 aA).f0, (rd_T75 y397 aA).f1, (rd_T75 y397 aA).f2, (rd_T75 y397 aA).f3, (rd_T75 y397 aA).f4, (rd_T75 y397 aA).f5, (rd_T75 y397 aA).f6, wrap64 ((wrap64 ((wrap64 ((wrap64 ((wrap64 ((wrap64 ((wrap64 (bA + 1)) + 1)) + 1)) + 1)) + 1)) + 1)) + 1), (rd_T75 y397 aA).f8, (rd_T75 y397 aA).f9⟩ : S75) : List (S75))).bind fun y398 => ((some (y398.set (aA : Int).toNat (⟨(rd_T75 y398 aA).f0, (rd_T75 y398 aA).f1, (rd_T75 y398 aA).f2, (rd_T75 y398 aA).f3, (rd_T75 y398 aA).f4, (rd_T75 y398 aA).f5, (rd_T75 y398 aA).f6, (rd_T75 y398 aA).f7, wrap64 ((wrap64 ((wrap64 ((wrap64 ((wrap64 ((wrap64 ((wrap64 ((wrap64 (bA + 1)) + 1)) + 1)) + 1)) + 1)) + 1)) + 1)) + 1), (rd_T75 y398 aA).f9⟩ : S75) : List (S75))).bind fun y399 => (laws_markCallS.l0 k1 (y399.set (aA : Int).toNat (⟨(rd_T75 y399 aA).f0, (rd_T75 y399 aA).f1, (rd_T75 y399 aA).f2, (rd_T75 y399 aA).f3, (rd_T75 y399 aA).f4, (rd_T75 y399 aA).f5, (rd_T75 y399 aA).f6, (rd_T75 y399 aA).f7, (rd_T75 y399 aA).f8, ((Int.tmod (wrap64 ((wrap64 ((wrap64 ((wrap64 ((wrap64 ((wrap64 ((wrap64 ((wrap64 ((wrap64 (bA + 1)) + 1)) + 1)) + 1)) + 1)) + 1)) + 1)) + 1)) + 1)) 3) == 0)⟩ : S75)) (wrap64 ((wrap64 ((wrap64 ((wrap64 ((wrap64 ((wrap64 ((wrap64 ((wrap64 ((wrap64 ((wrap64 (bA + 1)) + 1)) + 1)) + 1)) + 1)) + 1)) + 1)) + 1)) + 1)) + 1)) (wrap64 (aA + 1)))))) = some (r1, r2) := by first | (rw [hy396]; with_reducible exact H) | (have H2_ := (Option.bind_some _ _).symm.trans H; rw [hy396]; with_reducible exact H2_) | (have H2_ := (Option.bind_some _ _).symm.trans H; with_reducible exact H2_) | with_reducible exact H | (rw [hy396]; exact H) | exact H
     have Ny396 := Aside0.mk hy396
     clear hy396
     obtain ⟨y397, hy397⟩ : ∃ y_ : List (S75), y_ = (y396.set (aA : Int).toNat (⟨(rd_T75 y396 aA).f0, (rd_T75 y396 aA).f1, (rd_T75 y396 aA).f2, (rd_T75 y396 aA).f3, (rd_T75 y396 aA).f4, (rd_T75 y396 aA).f5, wrap64 ((wrap64 ((wrap64 ((wrap64 ((wrap64 ((wrap64 (bA + 1)) + 1)) + 1)) + 1)) + 1)) + 1), (rd_T75 y396 aA).f7, (rd_T75 y396 aA).f8, (rd_T75 y396 aA).f9⟩ : S75)) := ⟨_, rfl⟩
     replace H : ((some (y397.set (aA : Int).toNat (⟨(rd_T75 y397 aA).f0, (rd_T75 y397 aA).f1, (rd_T75 y397 aA).f2, (rd_T75 y397 aA).f3, (rd_T75 y397 aA).f4, (rd_T75 y397 aA).f5, (rd_T75 y397 aA).f6, wrap64 ((wrap64 ((wrap64 ((wrap64 ((wrap64 ((wrap64 ((wrap64 (bA + 1)) + 1)) + 1)) + 1)) + 1)) + 1)) + 1), (rd_T75 y397 aA).f8, (rd_T75 y397 aA).f9⟩ : S75) : List (S75))).bind fun y398 => ((some (y398.set (aA : Int).toNat (⟨(rd_T75 y398 aA).f0, (rd_T75 y398 aA).f1, (rd_T75 y398 aA).f2, (rd_T75 y398 aA).f3, (rd_T75 y398 aA).f4, (rd_T75 y398 aA).f5, (rd_T75 y398 aA).f6, (rd_T75 y398 aA).f7, wrap64 ((wrap64 ((wrap64 ((wrap64 ((wrap64 ((wrap64 ((wrap64 ((wrap64 (bA + 1)) + 1)) + 1)) + 1)) + 1)) + 1)) + 1)) + 1), (rd_T75 y398 aA).f9⟩ : S75) : List (S75))).bind fun y399 => (laws_markCallS.l0 k1 (y399.set (aA : Int).toNat (⟨(rd_T75 y399 aA).f0, (rd_T75 y399 aA).f1, (rd_T75 y399 aA).f2, (rd_T75 y399 aA).f3, (rd_T75 y399 aA).f4, (rd_T75 y399 aA).f5, (rd_T75 y399 aA).f6, (rd_T75 y399 aA).f7, (rd_T75 y399 aA).f8, ((Int.tmod (wrap64 ((wrap64 ((wrap64 ((wrap64 ((wrap64 ((wrap64 ((wrap64 ((wrap64 ((wrap64 (bA + 1)) + 1)) + 1)) + 1)) + 1)) + 1)) + 1)) + 1)) + 1)) 3) == 0)⟩ : S75)) (wrap64 ((wrap64 ((wrap64 ((wrap64 ((wrap64 ((wrap64 ((wrap64 ((wrap64 ((wrap64 ((wrap64 (bA + 1)) + 1)) + 1)) + 1)) + 1)) + 1)) + 1)) + 1)) + 1)) + 1)) (wrap64 (aA + 1))))) = some (r1, r2) := by first | (rw [hy397]; with_reducible exact H) | (have H2_ := (Option.bind_some _ _).symm.trans H; rw [hy397]; with_reducible exact H2_) | (have H2_ := (Option.bind_some _ _).symm.trans H; with_reducible exact H2_) | with_reducible exact H | (rw [hy397]; exact H) | exact H
     have Ny397 := Aside0.mk hy397
     clear hy397
     obtain ⟨y398, hy398⟩ : ∃ y_ : List (S75), y_ = (y397.set (aA : Int).toNat (⟨(rd_T75 y397 aA).f0, (rd_T75 y397 aA).f1, (rd_T75 y397 aA).f2, (rd_T75 y397 aA).f3, (rd_T75 y397 aA).f4, (rd_T75 y397 aA).f5, (rd_T75 y397 aA).f6, wrap64 ((wrap64 ((wrap64 ((wrap64 ((wrap64 ((wrap64 ((wrap64 (bA + 1)) + 1)) + 1)) + 1)) + 1)) + 1)) + 1), (rd_T75 y397 aA).f8, (rd_T75 y397 aA).f9⟩ : S75)) := ⟨_, rfl⟩
     replace H : ((some (y398.set (aA : Int).toNat (⟨(rd_T75 y398 aA).f0, (rd_T75 y398 aA).f1, (rd_T75 y398 aA).f2, (rd_T75 y398 aA).f3, (rd_T75 y398 aA).f4, (rd_T75 y398 aA).f5, (rd_T75 y398 aA).f6, (rd_T75 y398 aA).f7, wrap64 ((wrap64 ((wrap64 ((wrap64 ((wrap64 ((wrap64 ((wrap64 ((wrap64 (bA + 1)) + 1)) + 1)) + 1)) + 1)) + 1)) + 1)) + 1), (rd_T75 y398 aA).f9⟩ : S75) : List (S75))).bind fun y399 => (laws_markCallS.l0 k1 (y399.set (aA : Int).toNat (⟨(rd_T75 y399 aA).f0, (rd_T75 y399 aA).f1, (rd_T75 y399 aA).f2, (rd_T75 y399 aA).f3, (rd_T75 y399 aA).f4, (rd_T75 y399 aA).f5, (rd_T75 y399 aA).f6, (rd_T75 y399 aA).f7, (rd_T75 y399 aA).f8, ((Int.tmod (wrap64 ((wrap64 ((wrap64 ((wrap64 ((wrap64 ((wrap64 ((wrap64 ((wrap64 ((wrap64 (bA + 1)) + 1)) + 1)) + 1)) + 1)) + 1)) + 1)) + 1)) + 1)) 3) == 0)⟩ : S75)) (wrap64 ((wrap64 ((wrap64 ((wrap64 ((wrap64 ((wrap64 ((wrap64 ((wrap64 ((wrap64 ((wrap64 (bA + 1)) + 1)) + 1)) + 1)) + 1)) + 1)) + 1)) + 1)) + 1)) + 1)) (wrap64 (aA + 1)))) = some (r1, r2) := by first | (rw [hy398]; with_reducible exact H) | (have H2_ := (Option.bind_some _ _).symm.trans H; rw [hy398]; with_reducible exact H2_) | (have H2_ := (Option.bind_some _ _).symm.trans H; with_reducible exact H2_) | with_reducible exact H | (rw [hy398]; exact H) | exact H
     have Ny398 := Aside0.mk hy398
     clear hy398
     obtain ⟨y399, hy399⟩ : ∃ y_ : List (S75), y_ = (y398.set (aA : Int).toNat (⟨(rd_T75 y398 aA).f0, (rd_T75 y398 aA).f1, (rd_T75 y398 aA).f2, (rd_T75 y398 aA).f3, (rd_T75 y398 aA).f4, (rd_T75 y398 aA).f5, (rd_T75 y398 aA).f6, (rd_T75 y398 aA).f7, wrap64 ((wrap64 ((wrap64 ((wrap64 ((wrap64 ((wrap64 ((wrap64 ((wrap64 (bA + 1)) + 1)) + 1)) + 1)) + 1)) + 1)) + 1)) + 1), (rd_T75 y398 aA).f9⟩ : S75)) := ⟨_, rfl⟩
     replace H : (laws_markCallS.l0 k1 (y399.set (aA : Int).toNat (⟨(rd_T75 y399 aA).f0, (rd_T75 y399 aA).f1, (rd_T75 y399 aA).f2, (rd_T75 y399 aA).f3, (rd_T75 y399 aA).f4, (rd_T75 y399 aA).f5, (rd_T75 y399 aA).f6, (rd_T75 y399 aA).f7, (rd_T75 y399 aA).f8, ((Int.tmod (wrap64 ((wrap64 ((wrap64 ((wrap64 ((wrap64 ((wrap64 ((wrap64 ((wrap64 ((wrap64 (bA + 1)) + 1)) + 1)) + 1)) + 1)) + 1)) + 1)) + 1)) + 1)) 3) == 0)⟩ : S75)) (wrap64 ((wrap64 ((wrap64 ((wrap64 ((wrap64 ((wrap64 ((wrap64 ((wrap64 ((wrap64 ((wrap64 (bA + 1)) + 1)) + 1)) + 1)) + 1)) + 1)) + 1)) + 1)) + 1)) + 1)) (wrap64 (aA + 1))) = some (r1, r2) := by first | (rw [hy399]; with_reducible exact H) | (have H2_ := (Option.bind_some _ _).symm.trans H; rw [hy399]; with_reducible exact H2_) | (have H2_ := (Option.bind_some _ _).symm.trans H; with_reducible exact H2_) | with_reducible exact H | (rw [hy399]; exact H) | exact H
     have Ny399 := Aside0.mk hy399
     clear hy399
     obtain ⟨y400, hy400⟩ : ∃ y_ : List (S75), y_ = (y399.set (aA : Int).toNat (⟨(rd_T75 y399 aA).f0, (rd_T75 y399 aA).f1, (rd_T75 y399 aA).f2, (rd_T75 y399 aA).f3, (rd_T75 y399 aA).f4, (rd_T75 y399 aA).f5, (rd_T75 y399 aA).f6, (rd_T75 y399 aA).f7, (rd_T75 y399 aA).f8, ((Int.tmod (wrap64 ((wrap64 ((wrap64 ((wrap64 ((wrap64 ((wrap64 ((wrap64 ((wrap64 ((wrap64 (bA + 1)) + 1)) + 1)) + 1)) + 1)) + 1)) + 1)) + 1)) + 1)) 3) == 0)⟩ : S75)) := ⟨_, rfl⟩
     replace H : (laws_markCallS.l0 k1 y400 (wrap64 ((wrap64 ((wrap64 ((wrap64 ((wrap64 ((wrap64 ((wrap64 ((wrap64 ((wrap64 ((wrap64 (bA + 1)) + 1)) + 1)) + 1)) + 1)) + 1)) + 1)) + 1)) + 1)) + 1)) (wrap64 (aA + 1))) = some (r1, r2) := by first | (rw [hy400]; with_reducible exact H) | (have H2_ := (Option.bind_some _ _).symm.trans H; rw [hy400]; with_reducible exact H2_) | (have H2_ := (Option.bind_some _ _).symm.trans H; with_reducible exact H2_) | with_reducible exact H | (rw [hy400]; exact H) | exact H
     have Ny400 := Aside0.mk hy400
     clear hy400
     have H' := Aside0.mk H
     clear H
     obtain ⟨GF, fA, wB⟩ := Kd.R_slice dA.out
     subst wB
     have p5 : 0 ≤ (aA : Int) := of_decide_eq_true q8_1
     have q5 : (aA : Int) < ((cA.length : Int) : Int) := of_decide_eq_true q8_1
     obtain ⟨go5, LF, ED, FD, gl5, cl5, HG5⟩ := Kd.R_form dA.out (by omega)
     (first | cases ED | (injection ED with ea_ en_ ec_; (first | subst ea_ | (injection ea_ with ea_; subst ea_)); subst ec_; clear en_))
     have GB5 := Aside0.mk FD
     have GG5 := Aside0.mk HG5
     clear FD gl5 HG5
     obtain ⟨ce5, hcl5, hM5, hcc5, hfr5⟩ := Kd.R_elem dA.out z75 (aA : Int) p5 q5
     obtain rfl := k75_openM hM5
     have GD : wr.cell? ⟨go5, (aA : Int).toNat * 10, none⟩ = some (.int .i64 ((rd_T75 cA aA).f0)) := hcc5 0 _ rfl
     have HD : wr.cell? ⟨go5, (aA : Int).toNat * 10 + 1, none⟩ = some (.int .i64 ((rd_T75 cA aA).f1)) := hcc5 1 _ rfl
     have ID : wr.cell? ⟨go5, (aA : Int).toNat * 10 + 2, none⟩ = some (.int .i64 ((rd_T75 cA aA).f2)) := hcc5 2 _ rfl
     have JD : wr.cell? ⟨go5, (aA : Int).toNat * 10 + 3, none⟩ = some (.int .i64 ((rd_T75 cA aA).f3)) := hcc5 3 _ rfl
     have KD : wr.cell? ⟨go5, (aA : Int).toNat * 10 + 4, none⟩ = some (.int .i64 ((rd_T75 cA aA).f4)) := hcc5 4 _ rfl
     have LD : wr.cell? ⟨go5, (aA : Int).toNat * 10 + 5, none⟩ = some (.int .i64 ((rd_T75 cA aA).f5)) := hcc5 5 _ rfl
     have MD : wr.cell? ⟨go5, (aA : Int).toNat * 10 + 6, none⟩ = some (.int .i64 ((rd_T75 cA aA).f6)) := hcc5 6 _ rfl
     have ND : wr.cell? ⟨go5, (aA : Int).toNat * 10 + 7, none⟩ = some (.int .i64 ((rd_T75 cA aA).f7)) := hcc5 7 _ rfl
     have OD : wr.cell? ⟨go5, (aA : Int).toNat * 10 + 8, none⟩ = some (.int .i64 ((rd_T75 cA aA).f8)) := hcc5 8 _ rfl
     have PD : wr.cell? ⟨go5, (aA : Int).toNat * 10 + 9, none⟩ = some (.bool ((rd_T75 cA aA).f9)) := hcc5 9 _ rfl
     have QD : wr.frozen? ⟨go5, (aA : Int).toNat * 10, none⟩ = false := hfr5 0
     have RD : wr.frozen? ⟨go5, (aA : Int).toNat * 10 + 1, none⟩ = false := hfr5 1
     have SD : wr.frozen? ⟨go5, (aA : Int).toNat * 10 + 2, none⟩ = false := hfr5 2
     have TD : wr.frozen? ⟨go5, (aA : Int).toNat * 10 + 3, none⟩ = false := hfr5 3
     have UD : wr.frozen? ⟨go5, (aA : Int).toNat * 10 + 4, none⟩ = false := hfr5 4
     have VD : wr.frozen? ⟨go5, (aA : Int).toNat * 10 + 5, none⟩ = false := hfr5 5
     have WD : wr.frozen? ⟨go5, (aA : Int).toNat * 10 + 6, none⟩ = false := hfr5 6
     have XD : wr.frozen? ⟨go5, (aA : Int).toNat * 10 + 7, none⟩ = false := hfr5 7
     have YD : wr.frozen? ⟨go5, (aA : Int).toNat * 10 + 8, none⟩ = false := hfr5 8
     have ZD : wr.frozen? ⟨go5, (aA : Int).toNat * 10 + 9, none⟩ = false := hfr5 9
     clear hcl5 hcc5 hfr5 hM5
     replace p5 := eq_true p5
     replace q5 := eq_true q5
     have HX16 := Aside0.mk (show Kd.R k75 75 wr w0.heap.size (fun k_ => (P0_ k_ ∨ w.heap.size ≤ k_)) (.slice (some ⟨go5, 0, none⟩) cA.length fA) cA from q8_4)
     obtain ⟨ce16, hcl16, hM16, hcc16, hfr16⟩ := Kd.R_elem HX16.out z75 (aA : Int) (of_decide_eq_true q8_1) q8_0
     obtain rfl := k75_openM hM16
     have HP16 := Kd.R_seg HX16.out (aA : Int) (of_decide_eq_true q8_1) q8_0 (seg := [.int .i64 bA]) (j := 0) hcl16 hcc16 (show 1 ≤ 10 from by decide) (x' := (⟨bA, (rd_T75 cA aA).f1, (rd_T75 cA aA).f2, (rd_T75 cA aA).f3, (rd_T75 cA aA).f4, (rd_T75 cA aA).f5, (rd_T75 cA aA).f6, (rd_T75 cA aA).f7, (rd_T75 cA aA).f8, (rd_T75 cA aA).f9⟩ : S75)) (k75_mkM _ _ _ (⟨bA, (rd_T75 cA aA).f1, (rd_T75 cA aA).f2, (rd_T75 cA aA).f3, (rd_T75 cA aA).f4, (rd_T75 cA aA).f5, (rd_T75 cA aA).f6, (rd_T75 cA aA).f7, (rd_T75 cA aA).f8, (rd_T75 cA aA).f9⟩ : S75) ) (fun _ hk => hk)
     have SA := hcc16 0 _ rfl
     (try simp only [show (k75).sz = 10 from rfl, Nat.mul_one, Nat.add_zero] at SA)
     have TA := hfr16 0
     (try simp only [show (k75).sz = 10 from rfl, Nat.mul_one, Nat.add_zero] at TA)
     clear hcl16 hcc16 hfr16 hM16
     go_wp2_with (first | ((with_reducible refine gate_store (t := 3) (p := 16) rfl ?_); refine store_event (t := 3) (p := 16) (v := ?vo_w17) (w1 := (wr.setCell ⟨go5, (aA : Int).toNat * 10, none⟩ (.int .i64 bA))) ?hg ?ho ?hn ?hr ?_; (case ho => rfl); (case hg => rfl); (case hn => rfl); (case hr => first | (go_simp; done) | (go_simp; rfl)); intro kA hw; have hg : wr.grownBy kA (some go5) := (by rw [hw]; exact HP16.2); have hp_ : Kd.R k75 75 kA w0.heap.size (fun k_ => (P0_ k_ ∨ w.heap.size ≤ k_)) (.slice (some ⟨go5, 0, none⟩) cA.length fA) y391 := (by rw [hw, Ny391.out]; exact HP16.1); clear HP16; have gA := Aside0.mk (hp_); have hA := Aside0.mk ((q8_6 : Below w0.heap.size w0 kA)); have iA := Aside0.mk (Kept.of_grown (S := (fun k_ => P0_ k_)) hg q8_2 (fun k_ e_ => (dA.out.1 k_ e_))); clear dA HB HK; have dA := gA; have HB := hA; have HK := iA; clear gA hA iA; clear hg hw hp_; have p6 : 0 ≤ (aA : Int) := of_decide_eq_true q8_1; have q6 : (aA : Int) < ((cA.length : Int) : Int) := of_decide_eq_true q8_1; obtain ⟨ce6, hcl6, hM6, hcc6, hfr6⟩ := Kd.R_elem dA.out z75 (aA : Int) p6 q6; obtain rfl := k75_openM hM6; have aE : kA.cell? ⟨go5, (aA : Int).toNat * 10, none⟩ = some (.int .i64 ((rd_T75 y391 aA).f0)) := hcc6 0 _ rfl; have bE : kA.cell? ⟨go5, (aA : Int).toNat * 10 + 1, none⟩ = some (.int .i64 ((rd_T75 y391 aA).f1)) := hcc6 1 _ rfl; have cE : kA.cell? ⟨go5, (aA : Int).toNat * 10 + 2, none⟩ = some (.int .i64 ((rd_T75 y391 aA).f2)) := hcc6 2 _ rfl; have dE : kA.cell? ⟨go5, (aA : Int).toNat * 10 + 3, none⟩ = some (.int .i64 ((rd_T75 y391 aA).f3)) := hcc6 3 _ rfl; have eE : kA.cell? ⟨go5, (aA : Int).toNat * 10 + 4, none⟩ = some (.int .i64 ((rd_T75 y391 aA).f4)) := hcc6 4 _ rfl; have fE : kA.cell? ⟨go5, (aA : Int).toNat * 10 + 5, none⟩ = some (.int .i64 ((rd_T75 y391 aA).f5)) := hcc6 5 _ rfl; have gE : kA.cell? ⟨go5, (aA : Int).toNat * 10 + 6, none⟩ = some (.int .i64 ((rd_T75 y391 aA).f6)) := hcc6 6 _ rfl; have hE : kA.cell? ⟨go5, (aA : Int).toNat * 10 + 7, none⟩ = some (.int .i64 ((rd_T75 y391 aA).f7)) := hcc6 7 _ rfl; have iE : kA.cell? ⟨go5, (aA : Int).toNat * 10 + 8, none⟩ = some (.int .i64 ((rd_T75 y391 aA).f8)) := hcc6 8 _ rfl; have jE : kA.cell? ⟨go5, (aA : Int).toNat * 10 + 9, none⟩ = some (.bool ((rd_T75 y391 aA).f9)) := hcc6 9 _ rfl; have kE : kA.frozen? ⟨go5, (aA : Int).toNat * 10, none⟩ = false := hfr6 0; have lE : kA.frozen? ⟨go5, (aA : Int).toNat * 10 + 1, none⟩ = false := hfr6 1; have mE : kA.frozen? ⟨go5, (aA : Int).toNat * 10 + 2, none⟩ = false := hfr6 2; have nE : kA.frozen? ⟨go5, (aA : Int).toNat * 10 + 3, none⟩ = false := hfr6 3; have oE : kA.frozen? ⟨go5, (aA : Int).toNat * 10 + 4, none⟩ = false := hfr6 4; have pE : kA.frozen? ⟨go5, (aA : Int).toNat * 10 + 5, none⟩ = false := hfr6 5; have qE : kA.frozen? ⟨go5, (aA : Int).toNat * 10 + 6, none⟩ = false := hfr6 6; have rE : kA.frozen? ⟨go5, (aA : Int).toNat * 10 + 7, none⟩ = false := hfr6 7; have sE : kA.frozen? ⟨go5, (aA : Int).toNat * 10 + 8, none⟩ = false := hfr6 8; have tE : kA.frozen? ⟨go5, (aA : Int).toNat * 10 + 9, none⟩ = false := hfr6 9; clear hcl6 hcc6 hfr6 hM6; replace p6 := eq_true p6; replace q6 := eq_true q6; have HX18 := Aside0.mk (show Kd.R k75 75 kA w0.heap.size (fun k_ => (P0_ k_ ∨ w.heap.size ≤ k_)) (.slice (some ⟨go5, 0, none⟩) cA.length fA) y391 from q8_4); obtain ⟨ce18, hcl18, hM18, hcc18, hfr18⟩ := Kd.R_elem HX18.out z75 (aA : Int) (of_decide_eq_true q8_1) q8_0; obtain rfl := k75_openM hM18; have HP18 := Kd.R_seg HX18.out (aA : Int) (of_decide_eq_true q8_1) q8_0 (seg := [.int .i64 (wrap64 (bA + 1))]) (j := 1) hcl18 hcc18 (show 2 ≤ 10 from by decide) (x' := (⟨(rd_T75 y391 aA).f0, wrap64 (bA + 1), (rd_T75 y391 aA).f2, (rd_T75 y391 aA).f3, (rd_T75 y391 aA).f4, (rd_T75 y391 aA).f5, (rd_T75 y391 aA).f6, (rd_T75 y391 aA).f7, (rd_T75 y391 aA).f8, (rd_T75 y391 aA).f9⟩ : S75)) (k75_mkM _ _ _ (⟨(rd_T75 y391 aA).f0, wrap64 (bA + 1), (rd_T75 y391 aA).f2, (rd_T75 y391 aA).f3, (rd_T75 y391 aA).f4, (rd_T75 y391 aA).f5, (rd_T75 y391 aA).f6, (rd_T75 y391 aA).f7, (rd_T75 y391 aA).f8, (rd_T75 y391 aA).f9⟩ : S75) ) (fun _ hk => hk); have UA := hcc18 1 _ rfl; (try simp only [show (k75).sz = 10 from rfl, Nat.mul_one, Nat.add_zero] at UA); have VA := hfr18 1; (try simp only [show (k75).sz = 10 from rfl, Nat.mul_one, Nat.add_zero] at VA); clear hcl18 hcc18 hfr18 hM18) | ((with_reducible refine gate_store (t := 3) (p := 23) rfl ?_); refine store_event (t := 3) (p := 23) (v := ?vo_w19) (w1 := (kA.setCell ⟨go5, (aA : Int).toNat * 10 + 1, none⟩ (.int .i64 (wrap64 (bA + 1))))) ?hg ?ho ?hn ?hr ?_; (case ho => rfl); (case hg => rfl); (case hn => rfl); (case hr => first | (go_simp; done) | (go_simp; rfl)); intro lA hw; have hg : kA.grownBy lA (some go5) := (by rw [hw]; exact HP18.2); have hp_ : Kd.R k75 75 lA w0.heap.size (fun k_ => (P0_ k_ ∨ w.heap.size ≤ k_)) (.slice (some ⟨go5, 0, none⟩) cA.length fA) y392 := (by rw [hw, Ny392.out]; exact HP18.1); clear HP18; have gA := Aside0.mk (hp_); have hA := Aside0.mk ((q8_6 : Below w0.heap.size w0 lA)); have iA := Aside0.mk (Kept.of_grown (S := (fun k_ => P0_ k_)) hg q8_2 (fun k_ e_ => (dA.out.1 k_ e_))); clear dA HB HK; have dA := gA; have HB := hA; have HK := iA; clear gA hA iA; clear hg hw hp_; have p7 : 0 ≤ (aA : Int) := of_decide_eq_true q8_1; have q7 : (aA : Int) < ((cA.length : Int) : Int) := of_decide_eq_true q8_1; obtain ⟨ce7, hcl7, hM7, hcc7, hfr7⟩ := Kd.R_elem dA.out z75 (aA : Int) p7 q7; obtain rfl := k75_openM hM7; have uE : lA.cell? ⟨go5, (aA : Int).toNat * 10, none⟩ = some (.int .i64 ((rd_T75 y392 aA).f0)) := hcc7 0 _ rfl; have vE : lA.cell? ⟨go5, (aA : Int).toNat * 10 + 1, none⟩ = some (.int .i64 ((rd_T75 y392 aA).f1)) := hcc7 1 _ rfl; have wE : lA.cell? ⟨go5, (aA : Int).toNat * 10 + 2, none⟩ = some (.int .i64 ((rd_T75 y392 aA).f2)) := hcc7 2 _ rfl; have xE : lA.cell? ⟨go5, (aA : Int).toNat * 10 + 3, none⟩ = some (.int .i64 ((rd_T75 y392 aA).f3)) := hcc7 3 _ rfl; have yE : lA.cell? ⟨go5, (aA : Int).toNat * 10 + 4, none⟩ = some (.int .i64 ((rd_T75 y392 aA).f4)) := hcc7 4 _ rfl; have zE : lA.cell? ⟨go5, (aA : Int).toNat * 10 + 5, none⟩ = some (.int .i64 ((rd_T75 y392 aA).f5)) := hcc7 5 _ rfl; have AE : lA.cell? ⟨go5, (aA : Int).toNat * 10 + 6, none⟩ = some (.int .i64 ((rd_T75 y392 aA).f6)) := hcc7 6 _ rfl; have BE : lA.cell? ⟨go5, (aA : Int).toNat * 10 + 7, none⟩ = some (.int .i64 ((rd_T75 y392 aA).f7)) := hcc7 7 _ rfl; have CE : lA.cell? ⟨go5, (aA : Int).toNat * 10 + 8, none⟩ = some (.int .i64 ((rd_T75 y392 aA).f8)) := hcc7 8 _ rfl; have DE : lA.cell? ⟨go5, (aA : Int).toNat * 10 + 9, none⟩ = some (.bool ((rd_T75 y392 aA).f9)) := hcc7 9 _ rfl; have EE : lA.frozen? ⟨go5, (aA : Int).toNat * 10, none⟩ = false := hfr7 0; have FE : lA.frozen? ⟨go5, (aA : Int).toNat * 10 + 1, none⟩ = false := hfr7 1; have GE : lA.frozen? ⟨go5, (aA : Int).toNat * 10 + 2, none⟩ = false := hfr7 2; have IE : lA.frozen? ⟨go5, (aA : Int).toNat * 10 + 3, none⟩ = false := hfr7 3; have JE : lA.frozen? ⟨go5, (aA : Int).toNat * 10 + 4, none⟩ = false := hfr7 4; have KE : lA.frozen? ⟨go5, (aA : Int).toNat * 10 + 5, none⟩ = false := hfr7 5; have LE : lA.frozen? ⟨go5, (aA : Int).toNat * 10 + 6, none⟩ = false := hfr7 6; have ME : lA.frozen? ⟨go5, (aA : Int).toNat * 10 + 7, none⟩ = false := hfr7 7; have NE : lA.frozen? ⟨go5, (aA : Int).toNat * 10 + 8, none⟩ = false := hfr7 8; have OE : lA.frozen? ⟨go5, (aA : Int).toNat * 10 + 9, none⟩ = false := hfr7 9; clear hcl7 hcc7 hfr7 hM7; replace p7 := eq_true p7; replace q7 := eq_true q7; have HX20 := Aside0.mk (show Kd.R k75 75 lA w0.heap.size (fun k_ => (P0_ k_ ∨ w.heap.size ≤ k_)) (.slice (some ⟨go5, 0, none⟩) cA.length fA) y392 from q8_4); obtain ⟨ce20, hcl20, hM20, hcc20, hfr20⟩ := Kd.R_elem HX20.out z75 (aA : Int) (of_decide_eq_true q8_1) q8_0; obtain rfl := k75_openM hM20; have HP20 := Kd.R_seg HX20.out (aA : Int) (of_decide_eq_true q8_1) q8_0 (seg := [.int .i64 (wrap64 ((wrap64 (bA + 1)) + 1))]) (j := 2) hcl20 hcc20 (show 3 ≤ 10 from by decide) (x' := (⟨(rd_T75 y392 aA).f0, (rd_T75 y392 aA).f1, wrap64 ((wrap64 (bA + 1)) + 1), (rd_T75 y392 aA).f3, (rd_T75 y392 aA).f4, (rd_T75 y392 aA).f5, (rd_T75 y392 aA).f6, (rd_T75 y392 aA).f7, (rd_T75 y392 aA).f8, (rd_T75 y392 aA).f9⟩ : S75)) (k75_mkM _ _ _ (⟨(rd_T75 y392 aA).f0, (rd_T75 y392 aA).f1, wrap64 ((wrap64 (bA + 1)) + 1), (rd_T75 y392 aA).f3, (rd_T75 y392 aA).f4, (rd_T75 y392 aA).f5, (rd_T75 y392 aA).f6, (rd_T75 y392 aA).f7, (rd_T75 y392 aA).f8, (rd_T75 y392 aA).f9⟩ : S75) ) (fun _ hk => hk); have WA := hcc20 2 _ rfl; (try simp only [show (k75).sz = 10 from rfl, Nat.mul_one, Nat.add_zero] at WA); have XA := hfr20 2; (try simp only [show (k75).sz = 10 from rfl, Nat.mul_one, Nat.add_zero] at XA); clear hcl20 hcc20 hfr20 hM20) | ((with_reducible refine gate_store (t := 3) (p := 30) rfl ?_); refine store_event (t := 3) (p := 30) (v := ?vo_w21) (w1 := (lA.setCell ⟨go5, (aA : Int).toNat * 10 + 2, none⟩ (.int .i64 (wrap64 ((wrap64 (bA + 1)) + 1))))) ?hg ?ho ?hn ?hr ?_; (case ho => rfl); (case hg => rfl); (case hn => rfl); (case hr => first | (go_simp; done) | (go_simp; rfl)); intro mA hw; have hg : lA.grownBy mA (some go5) := (by rw [hw]; exact HP20.2); have hp_ : Kd.R k75 75 mA w0.heap.size (fun k_ => (P0_ k_ ∨ w.heap.size ≤ k_)) (.slice (some ⟨go5, 0, none⟩) cA.length fA) y393 := (by rw [hw, Ny393.out]; exact HP20.1); clear HP20; have gA := Aside0.mk (hp_); have hA := Aside0.mk ((q8_6 : Below w0.heap.size w0 mA)); have iA := Aside0.mk (Kept.of_grown (S := (fun k_ => P0_ k_)) hg q8_2 (fun k_ e_ => (dA.out.1 k_ e_))); clear dA HB HK; have dA := gA; have HB := hA; have HK := iA; clear gA hA iA; clear hg hw hp_; have p8 : 0 ≤ (aA : Int) := of_decide_eq_true q8_1; have q8 : (aA : Int) < ((cA.length : Int) : Int) := of_decide_eq_true q8_1; obtain ⟨ce8, hcl8, hM8, hcc8, hfr8⟩ := Kd.R_elem dA.out z75 (aA : Int) p8 q8; obtain rfl := k75_openM hM8; have PE : mA.cell? ⟨go5, (aA : Int).toNat * 10, none⟩ = some (.int .i64 ((rd_T75 y393 aA).f0)) := hcc8 0 _ rfl; have QE : mA.cell? ⟨go5, (aA : Int).toNat * 10 + 1, none⟩ = some (.int .i64 ((rd_T75 y393 aA).f1)) := hcc8 1 _ rfl; have RE : mA.cell? ⟨go5, (aA : Int).toNat * 10 + 2, none⟩ = some (.int .i64 ((rd_T75 y393 aA).f2)) := hcc8 2 _ rfl; have SE : mA.cell? ⟨go5, (aA : Int).toNat * 10 + 3, none⟩ = some (.int .i64 ((rd_T75 y393 aA).f3)) := hcc8 3 _ rfl; have TE : mA.cell? ⟨go5, (aA : Int).toNat * 10 + 4, none⟩ = some (.int .i64 ((rd_T75 y393 aA).f4)) := hcc8 4 _ rfl; have UE : mA.cell? ⟨go5, (aA : Int).toNat * 10 + 5, none⟩ = some (.int .i64 ((rd_T75 y393 aA).f5)) := hcc8 5 _ rfl; have VE : mA.cell? ⟨go5, (aA : Int).toNat * 10 + 6, none⟩ = some (.int .i64 ((rd_T75 y393 aA).f6)) := hcc8 6 _ rfl; have WE : mA.cell? ⟨go5, (aA : Int).toNat * 10 + 7, none⟩ = some (.int .i64 ((rd_T75 y393 aA).f7)) := hcc8 7 _ rfl; have XE : mA.cell? ⟨go5, (aA : Int).toNat * 10 + 8, none⟩ = some (.int .i64 ((rd_T75 y393 aA).f8)) := hcc8 8 _ rfl; have YE : mA.cell? ⟨go5, (aA : Int).toNat * 10 + 9, none⟩ = some (.bool ((rd_T75 y393 aA).f9)) := hcc8 9 _ rfl; have ZE : mA.frozen? ⟨go5, (aA : Int).toNat * 10, none⟩ = false := hfr8 0; have aF : mA.frozen? ⟨go5, (aA : Int).toNat * 10 + 1, none⟩ = false := hfr8 1; have bF : mA.frozen? ⟨go5, (aA : Int).toNat * 10 + 2, none⟩ = false := hfr8 2; have cF : mA.frozen? ⟨go5, (aA : Int).toNat * 10 + 3, none⟩ = false := hfr8 3; have dF : mA.frozen? ⟨go5, (aA : Int).toNat * 10 + 4, none⟩ = false := hfr8 4; have eF : mA.frozen? ⟨go5, (aA : Int).toNat * 10 + 5, none⟩ = false := hfr8 5; have fF : mA.frozen? ⟨go5, (aA : Int).toNat * 10 + 6, none⟩ = false := hfr8 6; have gF : mA.frozen? ⟨go5, (aA : Int).toNat * 10 + 7, none⟩ = false := hfr8 7; have hF : mA.frozen? ⟨go5, (aA : Int).toNat * 10 + 8, none⟩ = false := hfr8 8; have iF : mA.frozen? ⟨go5, (aA : Int).toNat * 10 + 9, none⟩ = false := hfr8 9; clear hcl8 hcc8 hfr8 hM8; replace p8 := eq_true p8; replace q8 := eq_true q8; have HX22 := Aside0.mk (show Kd.R k75 75 mA w0.heap.size (fun k_ => (P0_ k_ ∨ w.heap.size ≤ k_)) (.slice (some ⟨go5, 0, none⟩) cA.length fA) y393 from q8_4); obtain ⟨ce22, hcl22, hM22, hcc22, hfr22⟩ := Kd.R_elem HX22.out z75 (aA : Int) (of_decide_eq_true q8_1) q8_0; obtain rfl := k75_openM hM22; have HP22 := Kd.R_seg HX22.out (aA : Int) (of_decide_eq_true q8_1) q8_0 (seg := [.int .i64 (wrap64 ((wrap64 ((wrap64 (bA + 1)) + 1)) + 1))]) (j := 3) hcl22 hcc22 (show 4 ≤ 10 from by decide) (x' := (⟨(rd_T75 y393 aA).f0, (rd_T75 y393 aA).f1, (rd_T75 y393 aA).f2, wrap64 ((wrap64 ((wrap64 (bA + 1)) + 1)) + 1), (rd_T75 y393 aA).f4, (rd_T75 y393 aA).f5, (rd_T75 y393 aA).f6, (rd_T75 y393 aA).f7, (rd_T75 y393 aA).f8, (rd_T75 y393 aA).f9⟩ : S75)) (k75_mkM _ _ _ (⟨(rd_T75 y393 aA).f0, (rd_T75 y393 aA).f1, (rd_T75 y393 aA).f2, wrap64 ((wrap64 ((wrap64 (bA + 1)) + 1)) + 1), (rd_T75 y393 aA).f4, (rd_T75 y393 aA).f5, (rd_T75 y393 aA).f6, (rd_T75 y393 aA).f7, (rd_T75 y393 aA).f8, (rd_T75 y393 aA).f9⟩ : S75) ) (fun _ hk => hk); have YA := hcc22 3 _ rfl; (try simp only [show (k75).sz = 10 from rfl, Nat.mul_one, Nat.add_zero] at YA); have ZA := hfr22 3; (try simp only [show (k75).sz = 10 from rfl, Nat.mul_one, Nat.add_zero] at ZA); clear hcl22 hcc22 hfr22 hM22) | ((with_reducible refine gate_store (t := 3) (p := 37) rfl ?_); refine store_event (t := 3) (p := 37) (v := ?vo_w23) (w1 := (mA.setCell ⟨go5, (aA : Int).toNat * 10 + 3, none⟩ (.int .i64 (wrap64 ((wrap64 ((wrap64 (bA + 1)) + 1)) + 1))))) ?hg ?ho ?hn ?hr ?_; (case ho => rfl); (case hg => rfl); (case hn => rfl); (case hr => first | (go_simp; done) | (go_simp; rfl)); intro nA hw; have hg : mA.grownBy nA (some go5) := (by rw [hw]; exact HP22.2); have hp_ : Kd.R k75 75 nA w0.heap.size (fun k_ => (P0_ k_ ∨ w.heap.size ≤ k_)) (.slice (some ⟨go5, 0, none⟩) cA.length fA) y394 := (by rw [hw, Ny394.out]; exact HP22.1); clear HP22; have gA := Aside0.mk (hp_); have hA := Aside0.mk ((q8_6 : Below w0.heap.size w0 nA)); have iA := Aside0.mk (Kept.of_grown (S := (fun k_ => P0_ k_)) hg q8_2 (fun k_ e_ => (dA.out.1 k_ e_))); clear dA HB HK; have dA := gA; have HB := hA; have HK := iA; clear gA hA iA; clear hg hw hp_; have p9 : 0 ≤ (aA : Int) := of_decide_eq_true q8_1; have q9 : (aA : Int) < ((cA.length : Int) : Int) := of_decide_eq_true q8_1; obtain ⟨ce9, hcl9, hM9, hcc9, hfr9⟩ := Kd.R_elem dA.out z75 (aA : Int) p9 q9; obtain rfl := k75_openM hM9; have jF : nA.cell? ⟨go5, (aA : Int).toNat * 10, none⟩ = some (.int .i64 ((rd_T75 y394 aA).f0)) := hcc9 0 _ rfl; have kF : nA.cell? ⟨go5, (aA : Int).toNat * 10 + 1, none⟩ = some (.int .i64 ((rd_T75 y394 aA).f1)) := hcc9 1 _ rfl; have lF : nA.cell? ⟨go5, (aA : Int).toNat * 10 + 2, none⟩ = some (.int .i64 ((rd_T75 y394 aA).f2)) := hcc9 2 _ rfl; have mF : nA.cell? ⟨go5, (aA : Int).toNat * 10 + 3, none⟩ = some (.int .i64 ((rd_T75 y394 aA).f3)) := hcc9 3 _ rfl; have nF : nA.cell? ⟨go5, (aA : Int).toNat * 10 + 4, none⟩ = some (.int .i64 ((rd_T75 y394 aA).f4)) := hcc9 4 _ rfl; have oF : nA.cell? ⟨go5, (aA : Int).toNat * 10 + 5, none⟩ = some (.int .i64 ((rd_T75 y394 aA).f5)) := hcc9 5 _ rfl; have pF : nA.cell? ⟨go5, (aA : Int).toNat * 10 + 6, none⟩ = some (.int .i64 ((rd_T75 y394 aA).f6)) := hcc9 6 _ rfl; have qF : nA.cell? ⟨go5, (aA : Int).toNat * 10 + 7, none⟩ = some (.int .i64 ((rd_T75 y394 aA).f7)) := hcc9 7 _ rfl; have rF : nA.cell? ⟨go5, (aA : Int).toNat * 10 + 8, none⟩ = some (.int .i64 ((rd_T75 y394 aA).f8)) := hcc9 8 _ rfl; have sF : nA.cell? ⟨go5, (aA : Int).toNat * 10 + 9, none⟩ = some (.bool ((rd_T75 y394 aA).f9)) := hcc9 9 _ rfl; have tF : nA.frozen? ⟨go5, (aA : Int).toNat * 10, none⟩ = false := hfr9 0; have uF : nA.frozen? ⟨go5, (aA : Int).toNat * 10 + 1, none⟩ = false := hfr9 1; have vF : nA.frozen? ⟨go5, (aA : Int).toNat * 10 + 2, none⟩ = false := hfr9 2; have wF : nA.frozen? ⟨go5, (aA : Int).toNat * 10 + 3, none⟩ = false := hfr9 3; have xF : nA.frozen? ⟨go5, (aA : Int).toNat * 10 + 4, none⟩ = false := hfr9 4; have yF : nA.frozen? ⟨go5, (aA : Int).toNat * 10 + 5, none⟩ = false := hfr9 5; have zF : nA.frozen? ⟨go5, (aA : Int).toNat * 10 + 6, none⟩ = false := hfr9 6; have AF : nA.frozen? ⟨go5, (aA : Int).toNat * 10 + 7, none⟩ = false := hfr9 7; have BF : nA.frozen? ⟨go5, (aA : Int).toNat * 10 + 8, none⟩ = false := hfr9 8; have CF : nA.frozen? ⟨go5, (aA : Int).toNat * 10 + 9, none⟩ = false := hfr9 9; clear hcl9 hcc9 hfr9 hM9; replace p9 := eq_true p9; replace q9 := eq_true q9; have HX24 := Aside0.mk (show Kd.R k75 75 nA w0.heap.size (fun k_ => (P0_ k_ ∨ w.heap.size ≤ k_)) (.slice (some ⟨go5, 0, none⟩) cA.length fA) y394 from q8_4); obtain ⟨ce24, hcl24, hM24, hcc24, hfr24⟩ := Kd.R_elem HX24.out z75 (aA : Int) (of_decide_eq_true q8_1) q8_0; obtain rfl := k75_openM hM24; have HP24 := Kd.R_seg HX24.out (aA : Int) (of_decide_eq_true q8_1) q8_0 (seg := [.int .i64 (wrap64 ((wrap64 ((wrap64 ((wrap64 (bA + 1)) + 1)) + 1)) + 1))]) (j := 4) hcl24 hcc24 (show 5 ≤ 10 from by decide) (x' := (⟨(rd_T75 y394 aA).f0, (rd_T75 y394 aA).f1, (rd_T75 y394 aA).f2, (rd_T75 y394 aA).f3, wrap64 ((wrap64 ((wrap64 ((wrap64 (bA + 1)) + 1)) + 1)) + 1), (rd_T75 y394 aA).f5, (rd_T75 y394 aA).f6, (rd_T75 y394 aA).f7, (rd_T75 y394 aA).f8, (rd_T75 y394 aA).f9⟩ : S75)) (k75_mkM _ _ _ (⟨(rd_T75 y394 aA).f0, (rd_T75 y394 aA).f1, (rd_T75 y394 aA).f2, (rd_T75 y394 aA).f3, wrap64 ((wrap64 ((wrap64 ((wrap64 (bA + 1)) + 1)) + 1)) + 1), (rd_T75 y394 aA).f5, (rd_T75 y394 aA).f6, (rd_T75 y394 aA).f7, (rd_T75 y394 aA).f8, (rd_T75 y394 aA).f9⟩ : S75) ) (fun _ hk => hk); have aB := hcc24 4 _ rfl; (try simp only [show (k75).sz = 10 from rfl, Nat.mul_one, Nat.add_zero] at aB); have bB := hfr24 4; (try simp only [show (k75).sz = 10 from rfl, Nat.mul_one, Nat.add_zero] at bB); clear hcl24 hcc24 hfr24 hM24) | ((with_reducible refine gate_store (t := 3) (p := 44) rfl ?_); refine store_event (t := 3) (p := 44) (v := ?vo_w25) (w1 := (nA.setCell ⟨go5, (aA : Int).toNat * 10 + 4, none⟩ (.int .i64 (wrap64 ((wrap64 ((wrap64 ((wrap64 (bA + 1)) + 1)) + 1)) + 1))))) ?hg ?ho ?hn ?hr ?_; (case ho => rfl); (case hg => rfl); (case hn => rfl); (case hr => first | (go_simp; done) | (go_simp; rfl)); intro oA hw; have hg : nA.grownBy oA (some go5) := (by rw [hw]; exact HP24.2); have hp_ : Kd.R k75 75 oA w0.heap.size (fun k_ => (P0_ k_ ∨ w.heap.size ≤ k_)) (.slice (some ⟨go5, 0, none⟩) cA.length fA) y395 := (by rw [hw, Ny395.out]; exact HP24.1); clear HP24; have gA := Aside0.mk (hp_); have hA := Aside0.mk ((q8_6 : Below w0.heap.size w0 oA)); have iA := Aside0.mk (Kept.of_grown (S := (fun k_ => P0_ k_)) hg q8_2 (fun k_ e_ => (dA.out.1 k_ e_))); clear dA HB HK; have dA := gA; have HB := hA; have HK := iA; clear gA hA iA; clear hg hw hp_; have p10 : 0 ≤ (aA : Int) := of_decide_eq_true q8_1; have q10 : (aA : Int) < ((cA.length : Int) : Int) := of_decide_eq_true q8_1; obtain ⟨ce10, hcl10, hM10, hcc10, hfr10⟩ := Kd.R_elem dA.out z75 (aA : Int) p10 q10; obtain rfl := k75_openM hM10; have xB : oA.cell? ⟨go5, (aA : Int).toNat * 10, none⟩ = some (.int .i64 ((rd_T75 y395 aA).f0)) := hcc10 0 _ rfl; have yB : oA.cell? ⟨go5, (aA : Int).toNat * 10 + 1, none⟩ = some (.int .i64 ((rd_T75 y395 aA).f1)) := hcc10 1 _ rfl; have zB : oA.cell? ⟨go5, (aA : Int).toNat * 10 + 2, none⟩ = some (.int .i64 ((rd_T75 y395 aA).f2)) := hcc10 2 _ rfl; have AB : oA.cell? ⟨go5, (aA : Int).toNat * 10 + 3, none⟩ = some (.int .i64 ((rd_T75 y395 aA).f3)) := hcc10 3 _ rfl; have BB : oA.cell? ⟨go5, (aA : Int).toNat * 10 + 4, none⟩ = some (.int .i64 ((rd_T75 y395 aA).f4)) := hcc10 4 _ rfl; have CB : oA.cell? ⟨go5, (aA : Int).toNat * 10 + 5, none⟩ = some (.int .i64 ((rd_T75 y395 aA).f5)) := hcc10 5 _ rfl; have DB : oA.cell? ⟨go5, (aA : Int).toNat * 10 + 6, none⟩ = some (.int .i64 ((rd_T75 y395 aA).f6)) := hcc10 6 _ rfl; have EB : oA.cell? ⟨go5, (aA : Int).toNat * 10 + 7, none⟩ = some (.int .i64 ((rd_T75 y395 aA).f7)) := hcc10 7 _ rfl; have FB : oA.cell? ⟨go5, (aA : Int).toNat * 10 + 8, none⟩ = some (.int .i64 ((rd_T75 y395 aA).f8)) := hcc10 8 _ rfl; have GB : oA.cell? ⟨go5, (aA : Int).toNat * 10 + 9, none⟩ = some (.bool ((rd_T75 y395 aA).f9)) := hcc10 9 _ rfl; have IB : oA.frozen? ⟨go5, (aA : Int).toNat * 10, none⟩ = false := hfr10 0; have JB : oA.frozen? ⟨go5, (aA : Int).toNat * 10 + 1, none⟩ = false := hfr10 1; have KB : oA.frozen? ⟨go5, (aA : Int).toNat * 10 + 2, none⟩ = false := hfr10 2; have LB : oA.frozen? ⟨go5, (aA : Int).toNat * 10 + 3, none⟩ = false := hfr10 3; have MB : oA.frozen? ⟨go5, (aA : Int).toNat * 10 + 4, none⟩ = false := hfr10 4; have NB : oA.frozen? ⟨go5, (aA : Int).toNat * 10 + 5, none⟩ = false := hfr10 5; have OB : oA.frozen? ⟨go5, (aA : Int).toNat * 10 + 6, none⟩ = false := hfr10 6; have PB : oA.frozen? ⟨go5, (aA : Int).toNat * 10 + 7, none⟩ = false := hfr10 7; have QB : oA.frozen? ⟨go5, (aA : Int).toNat * 10 + 8, none⟩ = false := hfr10 8; have RB : oA.frozen? ⟨go5, (aA : Int).toNat * 10 + 9, none⟩ = false := hfr10 9; clear hcl10 hcc10 hfr10 hM10; replace p10 := eq_true p10; replace q10 := eq_true q10; have HX26 := Aside0.mk (show Kd.R k75 75 oA w0.heap.size (fun k_ => (P0_ k_ ∨ w.heap.size ≤ k_)) (.slice (some ⟨go5, 0, none⟩) cA.length fA) y395 from q8_4); obtain ⟨ce26, hcl26, hM26, hcc26, hfr26⟩ := Kd.R_elem HX26.out z75 (aA : Int) (of_decide_eq_true q8_1) q8_0; obtain rfl := k75_openM hM26; have HP26 := Kd.R_seg HX26.out (aA : Int) (of_decide_eq_true q8_1) q8_0 (seg := [.int .i64 (wrap64 ((wrap64 ((wrap64 ((wrap64 ((wrap64 (bA + 1)) + 1)) + 1)) + 1)) + 1))]) (j := 5) hcl26 hcc26 (show 6 ≤ 10 from by decide) (x' := (⟨(rd_T75 y395 aA).f0, (rd_T75 y395 aA).f1, (rd_T75 y395 aA).f2, (rd_T75 y395 aA).f3, (rd_T75 y395 aA).f4, wrap64 ((wrap64 ((wrap64 ((wrap64 ((wrap64 (bA + 1)) + 1)) + 1)) + 1)) + 1), (rd_T75 y395 aA).f6, (rd_T75 y395 aA).f7, (rd_T75 y395 aA).f8, (rd_T75 y395 aA).f9⟩ : S75)) (k75_mkM _ _ _ (⟨(rd_T75 y395 aA).f0, (rd_T75 y395 aA).f1, (rd_T75 y395 aA).f2, (rd_T75 y395 aA).f3, (rd_T75 y395 aA).f4, wrap64 ((wrap64 ((wrap64 ((wrap64 ((wrap64 (bA + 1)) + 1)) + 1)) + 1)) + 1), (rd_T75 y395 aA).f6, (rd_T75 y395 aA).f7, (rd_T75 y395 aA).f8, (rd_T75 y395 aA).f9⟩ : S75) ) (fun _ hk => hk); have cB := hcc26 5 _ rfl; (try simp only [show (k75).sz = 10 from rfl, Nat.mul_one, Nat.add_zero] at cB); have dB := hfr26 5; (try simp only [show (k75).sz = 10 from rfl, Nat.mul_one, Nat.add_zero] at dB); clear hcl26 hcc26 hfr26 hM26) | ((with_reducible refine gate_store (t := 3) (p := 51) rfl ?_); refine store_event (t := 3) (p := 51) (v := ?vo_w27) (w1 := (oA.setCell ⟨go5, (aA : Int).toNat * 10 + 5, none⟩ (.int .i64 (wrap64 ((wrap64 ((wrap64 ((wrap64 ((wrap64 (bA + 1)) + 1)) + 1)) + 1)) + 1))))) ?hg ?ho ?hn ?hr ?_; (case ho => rfl); (case hg => rfl); (case hn => rfl); (case hr => first | (go_simp; done) | (go_simp; rfl)); intro pA hw; have hg : oA.grownBy pA (some go5) := (by rw [hw]; exact HP26.2); have hp_ : Kd.R k75 75 pA w0.heap.size (fun k_ => (P0_ k_ ∨ w.heap.size ≤ k_)) (.slice (some ⟨go5, 0, none⟩) cA.length fA) y396 := (by rw [hw, Ny396.out]; exact HP26.1); clear HP26; have gA := Aside0.mk (hp_); have hA := Aside0.mk ((q8_6 : Below w0.heap.size w0 pA)); have iA := Aside0.mk (Kept.of_grown (S := (fun k_ => P0_ k_)) hg q8_2 (fun k_ e_ => (dA.out.1 k_ e_))); clear dA HB HK; have dA := gA; have HB := hA; have HK := iA; clear gA hA iA; clear hg hw hp_; have p11 : 0 ≤ (aA : Int) := of_decide_eq_true q8_1; have q11 : (aA : Int) < ((cA.length : Int) : Int) := of_decide_eq_true q8_1; obtain ⟨ce11, hcl11, hM11, hcc11, hfr11⟩ := Kd.R_elem dA.out z75 (aA : Int) p11 q11; obtain rfl := k75_openM hM11; have SB : pA.cell? ⟨go5, (aA : Int).toNat * 10, none⟩ = some (.int .i64 ((rd_T75 y396 aA).f0)) := hcc11 0 _ rfl; have TB : pA.cell? ⟨go5, (aA : Int).toNat * 10 + 1, none⟩ = some (.int .i64 ((rd_T75 y396 aA).f1)) := hcc11 1 _ rfl; have UB : pA.cell? ⟨go5, (aA : Int).toNat * 10 + 2, none⟩ = some (.int .i64 ((rd_T75 y396 aA).f2)) := hcc11 2 _ rfl; have VB : pA.cell? ⟨go5, (aA : Int).toNat * 10 + 3, none⟩ = some (.int .i64 ((rd_T75 y396 aA).f3)) := hcc11 3 _ rfl; have WB : pA.cell? ⟨go5, (aA : Int).toNat * 10 + 4, none⟩ = some (.int .i64 ((rd_T75 y396 aA).f4)) := hcc11 4 _ rfl; have XB : pA.cell? ⟨go5, (aA : Int).toNat * 10 + 5, none⟩ = some (.int .i64 ((rd_T75 y396 aA).f5)) := hcc11 5 _ rfl; have YB : pA.cell? ⟨go5, (aA : Int).toNat * 10 + 6, none⟩ = some (.int .i64 ((rd_T75 y396 aA).f6)) := hcc11 6 _ rfl; have ZB : pA.cell? ⟨go5, (aA : Int).toNat * 10 + 7, none⟩ = some (.int .i64 ((rd_T75 y396 aA).f7)) := hcc11 7 _ rfl; have aC : pA.cell? ⟨go5, (aA : Int).toNat * 10 + 8, none⟩ = some (.int .i64 ((rd_T75 y396 aA).f8)) := hcc11 8 _ rfl; have bC : pA.cell? ⟨go5, (aA : Int).toNat * 10 + 9, none⟩ = some (.bool ((rd_T75 y396 aA).f9)) := hcc11 9 _ rfl; have cC : pA.frozen? ⟨go5, (aA : Int).toNat * 10, none⟩ = false := hfr11 0; have dC : pA.frozen? ⟨go5, (aA : Int).toNat * 10 + 1, none⟩ = false := hfr11 1; have eC : pA.frozen? ⟨go5, (aA : Int).toNat * 10 + 2, none⟩ = false := hfr11 2; have fC : pA.frozen? ⟨go5, (aA : Int).toNat * 10 + 3, none⟩ = false := hfr11 3; have gC : pA.frozen? ⟨go5, (aA : Int).toNat * 10 + 4, none⟩ = false := hfr11 4; have hC : pA.frozen? ⟨go5, (aA : Int).toNat * 10 + 5, none⟩ = false := hfr11 5; have iC : pA.frozen? ⟨go5, (aA : Int).toNat * 10 + 6, none⟩ = false := hfr11 6; have jC : pA.frozen? ⟨go5, (aA : Int).toNat * 10 + 7, none⟩ = false := hfr11 7; have kC : pA.frozen? ⟨go5, (aA : Int).toNat * 10 + 8, none⟩ = false := hfr11 8; have lC : pA.frozen? ⟨go5, (aA : Int).toNat * 10 + 9, none⟩ = false := hfr11 9; clear hcl11 hcc11 hfr11 hM11; replace p11 := eq_true p11; replace q11 := eq_true q11; have HX28 := Aside0.mk (show Kd.R k75 75 pA w0.heap.size (fun k_ => (P0_ k_ ∨ w.heap.size ≤ k_)) (.slice (some ⟨go5, 0, none⟩) cA.length fA) y396 from q8_4); obtain ⟨ce28, hcl28, hM28, hcc28, hfr28⟩ := Kd.R_elem HX28.out z75 (aA : Int) (of_decide_eq_true q8_1) q8_0; obtain rfl := k75_openM hM28; have HP28 := Kd.R_seg HX28.out (aA : Int) (of_decide_eq_true q8_1) q8_0 (seg := [.int .i64 (wrap64 ((wrap64 ((wrap64 ((wrap64 ((wrap64 ((wrap64 (bA + 1)) + 1)) + 1)) + 1)) + 1)) + 1))]) (j := 6) hcl28 hcc28 (show 7 ≤ 10 from by decide) (x' := (⟨(rd_T75 y396 aA).f0, (rd_T75 y396 aA).f1, (rd_T75 y396 aA).f2, (rd_T75 y396 aA).f3, (rd_T75 y396 aA).f4, (rd_T75 y396 aA).f5, wrap64 ((wrap64 ((wrap64 ((wrap64 ((wrap64 ((wrap64 (bA + 1)) + 1)) + 1)) + 1)) + 1)) + 1), (rd_T75 y396 aA).f7, (rd_T75 y396 aA).f8, (rd_T75 y396 aA).f9⟩ : S75)) (k75_mkM _ _ _ (⟨(rd_T75 y396 aA).f0, (rd_T75 y396 aA).f1, (rd_T75 y396 aA).f2, (rd_T75 y396 aA).f3, (rd_T75 y396 aA).f4, (rd_T75 y396 aA).f5, wrap64 ((wrap64 ((wrap64 ((wrap64 ((wrap64 ((wrap64 (bA + 1)) + 1)) + 1)) + 1)) + 1)) + 1), (rd_T75 y396 aA).f7, (rd_T75 y396 aA).f8, (rd_T75 y396 aA).f9⟩ : S75) ) (fun _ hk => hk); have eB := hcc28 6 _ rfl; (try simp only [show (k75).sz = 10 from rfl, Nat.mul_one, Nat.add_zero] at eB); have fB := hfr28 6; (try simp only [show (k75).sz = 10 from rfl, Nat.mul_one, Nat.add_zero] at fB); clear hcl28 hcc28 hfr28 hM28) | ((with_reducible refine gate_store (t := 3) (p := 58) rfl ?_); refine store_event (t := 3) (p := 58) (v := ?vo_w29) (w1 := (pA.setCell ⟨go5, (aA : Int).toNat * 10 + 6, none⟩ (.int .i64 (wrap64 ((wrap64 ((wrap64 ((wrap64 ((wrap64 ((wrap64 (bA + 1)) + 1)) + 1)) + 1)) + 1)) + 1))))) ?hg ?ho ?hn ?hr ?_; (case ho => rfl); (case hg => rfl); (case hn => rfl); (case hr => first | (go_simp; done) | (go_simp; rfl)); intro qA hw; have hg : pA.grownBy qA (some go5) := (by rw [hw]; exact HP28.2); have hp_ : Kd.R k75 75 qA w0.heap.size (fun k_ => (P0_ k_ ∨ w.heap.size ≤ k_)) (.slice (some ⟨go5, 0, none⟩) cA.length fA) y397 := (by rw [hw, Ny397.out]; exact HP28.1); clear HP28; have gA := Aside0.mk (hp_); have hA := Aside0.mk ((q8_6 : Below w0.heap.size w0 qA)); have iA := Aside0.mk (Kept.of_grown (S := (fun k_ => P0_ k_)) hg q8_2 (fun k_ e_ => (dA.out.1 k_ e_))); clear dA HB HK; have dA := gA; have HB := hA; have HK := iA; clear gA hA iA; clear hg hw hp_; have p12 : 0 ≤ (aA : Int) := of_decide_eq_true q8_1; have q12 : (aA : Int) < ((cA.length : Int) : Int) := of_decide_eq_true q8_1; obtain ⟨ce12, hcl12, hM12, hcc12, hfr12⟩ := Kd.R_elem dA.out z75 (aA : Int) p12 q12; obtain rfl := k75_openM hM12; have mC : qA.cell? ⟨go5, (aA : Int).toNat * 10, none⟩ = some (.int .i64 ((rd_T75 y397 aA).f0)) := hcc12 0 _ rfl; have nC : qA.cell? ⟨go5, (aA : Int).toNat * 10 + 1, none⟩ = some (.int .i64 ((rd_T75 y397 aA).f1)) := hcc12 1 _ rfl; have oC : qA.cell? ⟨go5, (aA : Int).toNat * 10 + 2, none⟩ = some (.int .i64 ((rd_T75 y397 aA).f2)) := hcc12 2 _ rfl; have pC : qA.cell? ⟨go5, (aA : Int).toNat * 10 + 3, none⟩ = some (.int .i64 ((rd_T75 y397 aA).f3)) := hcc12 3 _ rfl; have qC : qA.cell? ⟨go5, (aA : Int).toNat * 10 + 4, none⟩ = some (.int .i64 ((rd_T75 y397 aA).f4)) := hcc12 4 _ rfl; have rC : qA.cell? ⟨go5, (aA : Int).toNat * 10 + 5, none⟩ = some (.int .i64 ((rd_T75 y397 aA).f5)) := hcc12 5 _ rfl; have sC : qA.cell? ⟨go5, (aA : Int).toNat * 10 + 6, none⟩ = some (.int .i64 ((rd_T75 y397 aA).f6)) := hcc12 6 _ rfl; have tC : qA.cell? ⟨go5, (aA : Int).toNat * 10 + 7, none⟩ = some (.int .i64 ((rd_T75 y397 aA).f7)) := hcc12 7 _ rfl; have uC : qA.cell? ⟨go5, (aA : Int).toNat * 10 + 8, none⟩ = some (.int .i64 ((rd_T75 y397 aA).f8)) := hcc12 8 _ rfl; have vC : qA.cell? ⟨go5, (aA : Int).toNat * 10 + 9, none⟩ = some (.bool ((rd_T75 y397 aA).f9)) := hcc12 9 _ rfl; have wC : qA.frozen? ⟨go5, (aA : Int).toNat * 10, none⟩ = false := hfr12 0; have xC : qA.frozen? ⟨go5, (aA : Int).toNat * 10 + 1, none⟩ = false := hfr12 1; have yC : qA.frozen? ⟨go5, (aA : Int).toNat * 10 + 2, none⟩ = false := hfr12 2; have zC : qA.frozen? ⟨go5, (aA : Int).toNat * 10 + 3, none⟩ = false := hfr12 3; have AC : qA.frozen? ⟨go5, (aA : Int).toNat * 10 + 4, none⟩ = false := hfr12 4; have BC : qA.frozen? ⟨go5, (aA : Int).toNat * 10 + 5, none⟩ = false := hfr12 5; have CC : qA.frozen? ⟨go5, (aA : Int).toNat * 10 + 6, none⟩ = false := hfr12 6; have DC : qA.frozen? ⟨go5, (aA : Int).toNat * 10 + 7, none⟩ = false := hfr12 7; have EC : qA.frozen? ⟨go5, (aA : Int).toNat * 10 + 8, none⟩ = false := hfr12 8; have FC : qA.frozen? ⟨go5, (aA : Int).toNat * 10 + 9, none⟩ = false := hfr12 9; clear hcl12 hcc12 hfr12 hM12; replace p12 := eq_true p12; replace q12 := eq_true q12; have HX30 := Aside0.mk (show Kd.R k75 75 qA w0.heap.size (fun k_ => (P0_ k_ ∨ w.heap.size ≤ k_)) (.slice (some ⟨go5, 0, none⟩) cA.length fA) y397 from q8_4); obtain ⟨ce30, hcl30, hM30, hcc30, hfr30⟩ := Kd.R_elem HX30.out z75 (aA : Int) (of_decide_eq_true q8_1) q8_0; obtain rfl := k75_openM hM30; have HP30 := Kd.R_seg HX30.out (aA : Int) (of_decide_eq_true q8_1) q8_0 (seg := [.int .i64 (wrap64 ((wrap64 ((wrap64 ((wrap64 ((wrap64 ((wrap64 ((wrap64 (bA + 1)) + 1)) + 1)) + 1)) + 1)) + 1)) + 1))]) (j := 7) hcl30 hcc30 (show 8 ≤ 10 from by decide) (x' := (⟨(rd_T75 y397 aA).f0, (rd_T75 y397 aA).f1, (rd_T75 y397 aA).f2, (rd_T75 y397 aA).f3, (rd_T75 y397 aA).f4, (rd_T75 y397 aA).f5, (rd_T75 y397 aA).f6, wrap64 ((wrap64 ((wrap64 ((wrap64 ((wrap64 ((wrap64 ((wrap64 (bA + 1)) + 1)) + 1)) + 1)) + 1)) + 1)) + 1), (rd_T75 y397 aA).f8, (rd_T75 y397 aA).f9⟩ : S75)) (k75_mkM _ _ _ (⟨(rd_T75 y397 aA).f0, (rd_T75 y397 aA).f1, (rd_T75 y397 aA).f2, (rd_T75 y397 aA).f3, (rd_T75 y397 aA).f4, (rd_T75 y397 aA).f5, (rd_T75 y397 aA).f6, wrap64 ((wrap64 ((wrap64 ((wrap64 ((wrap64 ((wrap64 ((wrap64 (bA + 1)) + 1)) + 1)) + 1)) + 1)) + 1)) + 1), (rd_T75 y397 aA).f8, (rd_T75 y397 aA).f9⟩ : S75) ) (fun _ hk => hk); have gB := hcc30 7 _ rfl; (try simp only [show (k75).sz = 10 from rfl, Nat.mul_one, Nat.add_zero] at gB); have iB := hfr30 7; (try simp only [show (k75).sz = 10 from rfl, Nat.mul_one, Nat.add_zero] at iB); clear hcl30 hcc30 hfr30 hM30) | ((with_reducible refine gate_store (t := 3) (p := 65) rfl ?_); refine store_event (t := 3) (p := 65) (v := ?vo_w31) (w1 := (qA.setCell ⟨go5, (aA : Int).toNat * 10 + 7, none⟩ (.int .i64 (wrap64 ((wrap64 ((wrap64 ((wrap64 ((wrap64 ((wrap64 ((wrap64 (bA + 1)) + 1)) + 1)) + 1)) + 1)) + 1)) + 1))))) ?hg ?ho ?hn ?hr ?_; (case ho => rfl); (case hg => rfl); (case hn => rfl); (case hr => first | (go_simp; done) | (go_simp; rfl)); intro rA hw; have hg : qA.grownBy rA (some go5) := (by rw [hw]; exact HP30.2); have hp_ : Kd.R k75 75 rA w0.heap.size (fun k_ => (P0_ k_ ∨ w.heap.size ≤ k_)) (.slice (some ⟨go5, 0, none⟩) cA.length fA) y398 := (by rw [hw, Ny398.out]; exact HP30.1); clear HP30; have gA := Aside0.mk (hp_); have hA := Aside0.mk ((q8_6 : Below w0.heap.size w0 rA)); have iA := Aside0.mk (Kept.of_grown (S := (fun k_ => P0_ k_)) hg q8_2 (fun k_ e_ => (dA.out.1 k_ e_))); clear dA HB HK; have dA := gA; have HB := hA; have HK := iA; clear gA hA iA; clear hg hw hp_; have p13 : 0 ≤ (aA : Int) := of_decide_eq_true q8_1; have q13 : (aA : Int) < ((cA.length : Int) : Int) := of_decide_eq_true q8_1; obtain ⟨ce13, hcl13, hM13, hcc13, hfr13⟩ := Kd.R_elem dA.out z75 (aA : Int) p13 q13; obtain rfl := k75_openM hM13; have GC : rA.cell? ⟨go5, (aA : Int).toNat * 10, none⟩ = some (.int .i64 ((rd_T75 y398 aA).f0)) := hcc13 0 _ rfl; have HC : rA.cell? ⟨go5, (aA : Int).toNat * 10 + 1, none⟩ = some (.int .i64 ((rd_T75 y398 aA).f1)) := hcc13 1 _ rfl; have IC : rA.cell? ⟨go5, (aA : Int).toNat * 10 + 2, none⟩ = some (.int .i64 ((rd_T75 y398 aA).f2)) := hcc13 2 _ rfl; have JC : rA.cell? ⟨go5, (aA : Int).toNat * 10 + 3, none⟩ = some (.int .i64 ((rd_T75 y398 aA).f3)) := hcc13 3 _ rfl; have KC : rA.cell? ⟨go5, (aA : Int).toNat * 10 + 4, none⟩ = some (.int .i64 ((rd_T75 y398 aA).f4)) := hcc13 4 _ rfl; have LC : rA.cell? ⟨go5, (aA : Int).toNat * 10 + 5, none⟩ = some (.int .i64 ((rd_T75 y398 aA).f5)) := hcc13 5 _ rfl; have MC : rA.cell? ⟨go5, (aA : Int).toNat * 10 + 6, none⟩ = some (.int .i64 ((rd_T75 y398 aA).f6)) := hcc13 6 _ rfl; have NC : rA.cell? ⟨go5, (aA : Int).toNat * 10 + 7, none⟩ = some (.int .i64 ((rd_T75 y398 aA).f7)) := hcc13 7 _ rfl; have OC : rA.cell? ⟨go5, (aA : Int).toNat * 10 + 8, none⟩ = some (.int .i64 ((rd_T75 y398 aA).f8)) := hcc13 8 _ rfl; have PC : rA.cell? ⟨go5, (aA : Int).toNat * 10 + 9, none⟩ = some (.bool ((rd_T75 y398 aA).f9)) := hcc13 9 _ rfl; have QC : rA.frozen? ⟨go5, (aA : Int).toNat * 10, none⟩ = false := hfr13 0; have RC : rA.frozen? ⟨go5, (aA : Int).toNat * 10 + 1, none⟩ = false := hfr13 1; have SC : rA.frozen? ⟨go5, (aA : Int).toNat * 10 + 2, none⟩ = false := hfr13 2; have TC : rA.frozen? ⟨go5, (aA : Int).toNat * 10 + 3, none⟩ = false := hfr13 3; have UC : rA.frozen? ⟨go5, (aA : Int).toNat * 10 + 4, none⟩ = false := hfr13 4; have VC : rA.frozen? ⟨go5, (aA : Int).toNat * 10 + 5, none⟩ = false := hfr13 5; have WC : rA.frozen? ⟨go5, (aA : Int).toNat * 10 + 6, none⟩ = false := hfr13 6; have XC : rA.frozen? ⟨go5, (aA : Int).toNat * 10 + 7, none⟩ = false := hfr13 7; have YC : rA.frozen? ⟨go5, (aA : Int).toNat * 10 + 8, none⟩ = false := hfr13 8; have ZC : rA.frozen? ⟨go5, (aA : Int).toNat * 10 + 9, none⟩ = false := hfr13 9; clear hcl13 hcc13 hfr13 hM13; replace p13 := eq_true p13; replace q13 := eq_true q13; have HX32 := Aside0.mk (show Kd.R k75 75 rA w0.heap.size (fun k_ => (P0_ k_ ∨ w.heap.size ≤ k_)) (.slice (some ⟨go5, 0, none⟩) cA.length fA) y398 from q8_4); obtain ⟨ce32, hcl32, hM32, hcc32, hfr32⟩ := Kd.R_elem HX32.out z75 (aA : Int) (of_decide_eq_true q8_1) q8_0; obtain rfl := k75_openM hM32; have HP32 := Kd.R_seg HX32.out (aA : Int) (of_decide_eq_true q8_1) q8_0 (seg := [.int .i64 (wrap64 ((wrap64 ((wrap64 ((wrap64 ((wrap64 ((wrap64 ((wrap64 ((wrap64 (bA + 1)) + 1)) + 1)) + 1)) + 1)) + 1)) + 1)) + 1))]) (j := 8) hcl32 hcc32 (show 9 ≤ 10 from by decide) (x' := (⟨(rd_T75 y398 aA).f0, (rd_T75 y398 aA).f1, (rd_T75 y398 aA).f2, (rd_T75 y398 aA).f3, (rd_T75 y398 aA).f4, (rd_T75 y398 aA).f5, (rd_T75 y398 aA).f6, (rd_T75 y398 aA).f7, wrap64 ((wrap64 ((wrap64 ((wrap64 ((wrap64 ((wrap64 ((wrap64 ((wrap64 (bA + 1)) + 1)) + 1)) + 1)) + 1)) + 1)) + 1)) + 1), (rd_T75 y398 aA).f9⟩ : S75)) (k75_mkM _ _ _ (⟨(rd_T75 y398 aA).f0, (rd_T75 y398 aA).f1, (rd_T75 y398 aA).f2, (rd_T75 y398 aA).f3, (rd_T75 y398 aA).f4, (rd_T75 y398 aA).f5, (rd_T75 y398 aA).f6, (rd_T75 y398 aA).f7, wrap64 ((wrap64 ((wrap64 ((wrap64 ((wrap64 ((wrap64 ((wrap64 ((wrap64 (bA + 1)) + 1)) + 1)) + 1)) + 1)) + 1)) + 1)) + 1), (rd_T75 y398 aA).f9⟩ : S75) ) (fun _ hk => hk); have jB := hcc32 8 _ rfl; (try simp only [show (k75).sz = 10 from rfl, Nat.mul_one, Nat.add_zero] at jB); have kB := hfr32 8; (try simp only [show (k75).sz = 10 from rfl, Nat.mul_one, Nat.add_zero] at kB); clear hcl32 hcc32 hfr32 hM32) | ((with_reducible refine gate_store (t := 3) (p := 72) rfl ?_); refine store_event (t := 3) (p := 72) (v := ?vo_w33) (w1 := (rA.setCell ⟨go5, (aA : Int).toNat * 10 + 8, none⟩ (.int .i64 (wrap64 ((wrap64 ((wrap64 ((wrap64 ((wrap64 ((wrap64 ((wrap64 ((wrap64 (bA + 1)) + 1)) + 1)) + 1)) + 1)) + 1)) + 1)) + 1))))) ?hg ?ho ?hn ?hr ?_; (case ho => rfl); (case hg => rfl); (case hn => rfl); (case hr => first | (go_simp; done) | (go_simp; rfl)); intro sA hw; have hg : rA.grownBy sA (some go5) := (by rw [hw]; exact HP32.2); have hp_ : Kd.R k75 75 sA w0.heap.size (fun k_ => (P0_ k_ ∨ w.heap.size ≤ k_)) (.slice (some ⟨go5, 0, none⟩) cA.length fA) y399 := (by rw [hw, Ny399.out]; exact HP32.1); clear HP32; have gA := Aside0.mk (hp_); have hA := Aside0.mk ((q8_6 : Below w0.heap.size w0 sA)); have iA := Aside0.mk (Kept.of_grown (S := (fun k_ => P0_ k_)) hg q8_2 (fun k_ e_ => (dA.out.1 k_ e_))); clear dA HB HK; have dA := gA; have HB := hA; have HK := iA; clear gA hA iA; clear hg hw hp_; have p14 : 0 ≤ (aA : Int) := of_decide_eq_true q8_1; have q14 : (aA : Int) < ((cA.length : Int) : Int) := of_decide_eq_true q8_1; obtain ⟨ce14, hcl14, hM14, hcc14, hfr14⟩ := Kd.R_elem dA.out z75 (aA : Int) p14 q14; obtain rfl := k75_openM hM14; have aD : sA.cell? ⟨go5, (aA : Int).toNat * 10, none⟩ = some (.int .i64 ((rd_T75 y399 aA).f0)) := hcc14 0 _ rfl; have bD : sA.cell? ⟨go5, (aA : Int).toNat * 10 + 1, none⟩ = some (.int .i64 ((rd_T75 y399 aA).f1)) := hcc14 1 _ rfl; have cD : sA.cell? ⟨go5, (aA : Int).toNat * 10 + 2, none⟩ = some (.int .i64 ((rd_T75 y399 aA).f2)) := hcc14 2 _ rfl; have dD : sA.cell? ⟨go5, (aA : Int).toNat * 10 + 3, none⟩ = some (.int .i64 ((rd_T75 y399 aA).f3)) := hcc14 3 _ rfl; have eD : sA.cell? ⟨go5, (aA : Int).toNat * 10 + 4, none⟩ = some (.int .i64 ((rd_T75 y399 aA).f4)) := hcc14 4 _ rfl; have fD : sA.cell? ⟨go5, (aA : Int).toNat * 10 + 5, none⟩ = some (.int .i64 ((rd_T75 y399 aA).f5)) := hcc14 5 _ rfl; have gD : sA.cell? ⟨go5, (aA : Int).toNat * 10 + 6, none⟩ = some (.int .i64 ((rd_T75 y399 aA).f6)) := hcc14 6 _ rfl; have hD : sA.cell? ⟨go5, (aA : Int).toNat * 10 + 7, none⟩ = some (.int .i64 ((rd_T75 y399 aA).f7)) := hcc14 7 _ rfl; have iD : sA.cell? ⟨go5, (aA : Int).toNat * 10 + 8, none⟩ = some (.int .i64 ((rd_T75 y399 aA).f8)) := hcc14 8 _ rfl; have jD : sA.cell? ⟨go5, (aA : Int).toNat * 10 + 9, none⟩ = some (.bool ((rd_T75 y399 aA).f9)) := hcc14 9 _ rfl; have kD : sA.frozen? ⟨go5, (aA : Int).toNat * 10, none⟩ = false := hfr14 0; have lD : sA.frozen? ⟨go5, (aA : Int).toNat * 10 + 1, none⟩ = false := hfr14 1; have mD : sA.frozen? ⟨go5, (aA : Int).toNat * 10 + 2, none⟩ = false := hfr14 2; have nD : sA.frozen? ⟨go5, (aA : Int).toNat * 10 + 3, none⟩ = false := hfr14 3; have oD : sA.frozen? ⟨go5, (aA : Int).toNat * 10 + 4, none⟩ = false := hfr14 4; have pD : sA.frozen? ⟨go5, (aA : Int).toNat * 10 + 5, none⟩ = false := hfr14 5; have qD : sA.frozen? ⟨go5, (aA : Int).toNat * 10 + 6, none⟩ = false := hfr14 6; have rD : sA.frozen? ⟨go5, (aA : Int).toNat * 10 + 7, none⟩ = false := hfr14 7; have sD : sA.frozen? ⟨go5, (aA : Int).toNat * 10 + 8, none⟩ = false := hfr14 8; have tD : sA.frozen? ⟨go5, (aA : Int).toNat * 10 + 9, none⟩ = false := hfr14 9; clear hcl14 hcc14 hfr14 hM14; replace p14 := eq_true p14; replace q14 := eq_true q14; have HX34 := Aside0.mk (show Kd.R k75 75 sA w0.heap.size (fun k_ => (P0_ k_ ∨ w.heap.size ≤ k_)) (.slice (some ⟨go5, 0, none⟩) cA.length fA) y399 from q8_4); obtain ⟨ce34, hcl34, hM34, hcc34, hfr34⟩ := Kd.R_elem HX34.out z75 (aA : Int) (of_decide_eq_true q8_1) q8_0; obtain rfl := k75_openM hM34; have HP34 := Kd.R_seg HX34.out (aA : Int) (of_decide_eq_true q8_1) q8_0 (seg := [.bool ((Int.tmod (wrap64 ((wrap64 ((wrap64 ((wrap64 ((wrap64 ((wrap64 ((wrap64 ((wrap64 ((wrap64 (bA + 1)) + 1)) + 1)) + 1)) + 1)) + 1)) + 1)) + 1)) + 1)) 3) == 0)]) (j := 9) hcl34 hcc34 (show 10 ≤ 10 from by decide) (x' := (⟨(rd_T75 y399 aA).f0, (rd_T75 y399 aA).f1, (rd_T75 y399 aA).f2, (rd_T75 y399 aA).f3, (rd_T75 y399 aA).f4, (rd_T75 y399 aA).f5, (rd_T75 y399 aA).f6, (rd_T75 y399 aA).f7, (rd_T75 y399 aA).f8, ((Int.tmod (wrap64 ((wrap64 ((wrap64 ((wrap64 ((wrap64 ((wrap64 ((wrap64 ((wrap64 ((wrap64 (bA + 1)) + 1)) + 1)) + 1)) + 1)) + 1)) + 1)) + 1)) + 1)) 3) == 0)⟩ : S75)) (k75_mkM _ _ _ (⟨(rd_T75 y399 aA).f0, (rd_T75 y399 aA).f1, (rd_T75 y399 aA).f2, (rd_T75 y399 aA).f3, (rd_T75 y399 aA).f4, (rd_T75 y399 aA).f5, (rd_T75 y399 aA).f6, (rd_T75 y399 aA).f7, (rd_T75 y399 aA).f8, ((Int.tmod (wrap64 ((wrap64 ((wrap64 ((wrap64 ((wrap64 ((wrap64 ((wrap64 ((wrap64 ((wrap64 (bA + 1)) + 1)) + 1)) + 1)) + 1)) + 1)) + 1)) + 1)) + 1)) 3) == 0)⟩ : S75) ) (fun _ hk => hk); have lB := hcc34 9 _ rfl; (try simp only [show (k75).sz = 10 from rfl, Nat.mul_one, Nat.add_zero] at lB); have mB := hfr34 9; (try simp only [show (k75).sz = 10 from rfl, Nat.mul_one, Nat.add_zero] at mB); clear hcl34 hcc34 hfr34 hM34) | ((with_reducible refine gate_store (t := 4) (p := 81) rfl ?_); refine store_event (t := 4) (p := 81) (v := ?vo_w35) (w1 := (sA.setCell ⟨go5, (aA : Int).toNat * 10 + 9, none⟩ (.bool ((Int.tmod (wrap64 ((wrap64 ((wrap64 ((wrap64 ((wrap64 ((wrap64 ((wrap64 ((wrap64 ((wrap64 (bA + 1)) + 1)) + 1)) + 1)) + 1)) + 1)) + 1)) + 1)) + 1)) 3) == 0)))) ?hg ?ho ?hn ?hr ?_; (case ho => rfl); (case hg => rfl); (case hn => rfl); (case hr => first | (go_simp; done) | (go_simp; rfl)); intro uD hw; have hg : sA.grownBy uD (some go5) := (by rw [hw]; exact HP34.2); have hp_ : Kd.R k75 75 uD w0.heap.size (fun k_ => (P0_ k_ ∨ w.heap.size ≤ k_)) (.slice (some ⟨go5, 0, none⟩) cA.length fA) y400 := (by rw [hw, Ny400.out]; exact HP34.1); clear HP34; have gA := Aside0.mk (hp_); have hA := Aside0.mk ((q8_6 : Below w0.heap.size w0 uD)); have iA := Aside0.mk (Kept.of_grown (S := (fun k_ => P0_ k_)) hg q8_2 (fun k_ e_ => (dA.out.1 k_ e_))); clear dA HB HK; have dA := gA; have HB := hA; have HK := iA; clear gA hA iA; clear hg hw hp_))
     go_roundg k1
     case measure => have := HK1.out; omega
     case rel => exact ⟨(y400), (wrap64 ((wrap64 ((wrap64 ((wrap64 ((wrap64 ((wrap64 ((wrap64 ((wrap64 ((wrap64 ((wrap64 (bA + 1)) + 1)) + 1)) + 1)) + 1)) + 1)) + 1)) + 1)) + 1)) + 1)), (wrap64 (aA + 1)), q8_5, q8_5, H', ⟨by have := HK1.out; omega⟩, ⟨q8_4⟩, ⟨q8_2⟩, ⟨q8_3⟩⟩
    ·rw [if_neg c4] at H
     exact absurd H (by simp)
   ·rw [if_neg c3] at H
    have QA : decide (aA < (cA.length : Int)) = false := decide_eq_false c3
    clear c3
    simp only [Option.some.injEq, Prod.mk.injEq] at H
    obtain ⟨rfl, rfl⟩ := H
    obtain ⟨HF, IF, vD⟩ := Kd.R_slice dA.out
    subst vD
    go_wp2
    go_ret
    exact ⟨q8_7, q8_4, q8_3, q8_2⟩

/-! ### laws_markThreadS: function 17 (walked by hand) -/
/-- n times one more. -/
def bump : Nat → Int → Int
 | 0, a => a
 | n + 1, a => bump n (wrap64 (a + 1))
/-- One block has been written, and keeps its size. -/
def RawPost (w0 w : World) (g t m : Nat) (w' : World) : Prop := Below w0.heap.size w0 w' ∧ Kept w w' (fun k => k = g) ∧ ∃ cs : Array Value, w'.heap[g]? = some (.cells cs t (0, 0)) ∧ cs.size = m
theorem RawPost.set {w0 w w' : World} {g t m : Nat} (h : RawPost w0 w g t m w') (hge : w0.heap.size ≤ g) (i : Nat) (u : Value) : RawPost w0 w g t m (w'.setCell ⟨g, i, none⟩ u) := by
 obtain ⟨h1, h2, cs, h3, h4⟩ := h
 exact ⟨below_set h1 hge, h2.setCell (.inl rfl) u, _, blk_set h3 i u, by simpa using h4⟩
theorem RawPost.cell {w0 w w' : World} {g t m : Nat} (h : RawPost w0 w g t m w') (i : Nat) (hi : i < m) : (∃ x, w'.cell? ⟨g, i, none⟩ = some x) ∧ w'.frozen? ⟨g, i, none⟩ = false := by
 obtain ⟨h1, h2, cs, h3, h4⟩ := h
 exact ⟨⟨cs[i]'(by omega), (blk_cell h3 i).trans (Array.getElem?_eq_getElem (by omega))⟩, blk_frozen h3 i⟩
set_option maxHeartbeats 1000000 in
theorem markInt_raw (g cap n : Nat) (a : Int) (w0 w : World) (cs : Array Value) (hB : Below w0.heap.size w0 w) (hge : w0.heap.size ≤ g) (hb : w.heap[g]? = some (.cells cs 3 (0, 0))) (hn : n ≤ cs.size) (hm : n ≤ maxLen) :
  Calls Try.prog 27 #[.slice (some ⟨g, 0, none⟩) n cap, .int .i64 a] w fun e w' => e = .returned (.int .i64 (bump n a)) ∧ RawPost w0 w g 3 cs.size w' := by
 have H0 := Aside0.mk (show RawPost w0 w g 3 cs.size w from ⟨hB, Kept.refl _ _, cs, hb, rfl⟩)
 have HE := Aside0.mk hge
 unfold maxLen at hm
 clear hB hge hb
 go_enter Try.func27, Try.ntmps27
 go_wp2
 go_loopw [1, 5] (fun v1 v5 w' => ∃ (b : Int) (j : Nat), v1 = .int .i64 b ∧ v5 = .int .i64 (j : Int) ∧ j ≤ n ∧ Aside0 (bump (n - j) b = bump n a) ∧ Aside0 (RawPost w0 w g 3 cs.size w')) (fun _ i _ => n - (intOf i).toNat)
 case atStart => exact ⟨a, 0, rfl, rfl, Nat.zero_le _, ⟨rfl⟩, H0⟩
 case round =>
  obtain ⟨b, j, rfl, rfl, hj, HN, HR⟩ := hrel
  by_cases hlt : j < n
  ·obtain ⟨⟨x, hx⟩, hf⟩ := HR.out.cell j (by omega)
   have hN : bump (n - (j + 1)) (wrap64 (b + 1)) = bump n a := by rw [← HN.out, show n - j = (n - (j + 1)) + 1 by omega]; rfl
   have HN2 := Aside0.mk hN
   have HR2 := Aside0.mk (HR.out.set HE.out j (.int .i64 b))
   clear hN HN
   go_wp2
   exact ⟨⟨_, j + 1, rfl, by go_num, by omega, HN2, HR2⟩, by simp [intOf]; omega⟩
  ·obtain rfl : j = n := by omega
   have HN2 := Aside0.mk (show b = bump j a by rw [← HN.out, Nat.sub_self]; rfl)
   clear HN
   go_wp2
   go_ret
   exact ⟨by rw [HN2.out]; rfl, HR.out⟩
/-- Each call takes ten numbers. -/
def bumpC : Nat → Int → Int
 | 0, a => a
 | n + 1, a => bumpC n (bump 10 a)
set_option maxRecDepth 100000 in
set_option maxHeartbeats 2000000 in
theorem markCall_raw (g cap n : Nat) (a : Int) (w0 w : World) (cs : Array Value) (hB : Below w0.heap.size w0 w) (hge : w0.heap.size ≤ g) (hb : w.heap[g]? = some (.cells cs 75 (0, 0))) (hn : n * 10 ≤ cs.size) (hm : n ≤ maxLen) :
  Calls Try.prog 53 #[.slice (some ⟨g, 0, none⟩) n cap, .int .i64 a] w fun e w' => e = .returned (.int .i64 (bumpC n a)) ∧ RawPost w0 w g 75 cs.size w' := by
 have H0 := Aside0.mk (show RawPost w0 w g 75 cs.size w from ⟨hB, Kept.refl _ _, cs, hb, rfl⟩)
 have HE := Aside0.mk hge
 unfold maxLen at hm
 clear hB hge hb
 go_enter Try.func53, Try.ntmps53
 go_wp2
 go_loopw [1, 5] (fun v1 v5 w' => ∃ (b : Int) (j : Nat), v1 = .int .i64 b ∧ v5 = .int .i64 (j : Int) ∧ j ≤ n ∧ Aside0 (bumpC (n - j) b = bumpC n a) ∧ Aside0 (RawPost w0 w g 75 cs.size w')) (fun _ i _ => n - (intOf i).toNat)
 case atStart => exact ⟨a, 0, rfl, rfl, Nat.zero_le _, ⟨rfl⟩, H0⟩
 case round =>
  obtain ⟨b, j, rfl, rfl, hj, HN, HR⟩ := hrel
  by_cases hlt : j < n
  ·obtain ⟨⟨x0, hx0⟩, MF⟩ := HR.out.cell (j * 10) (by omega)
   obtain ⟨⟨x1, hx1⟩, wD⟩ := HR.out.cell (j * 10 + 1) (by omega)
   obtain ⟨⟨x2, hx2⟩, NF⟩ := HR.out.cell (j * 10 + 2) (by omega)
   obtain ⟨⟨x3, hx3⟩, OF⟩ := HR.out.cell (j * 10 + 3) (by omega)
   obtain ⟨⟨x4, hx4⟩, PF⟩ := HR.out.cell (j * 10 + 4) (by omega)
   obtain ⟨⟨x5, hx5⟩, QF⟩ := HR.out.cell (j * 10 + 5) (by omega)
   obtain ⟨⟨x6, hx6⟩, RF⟩ := HR.out.cell (j * 10 + 6) (by omega)
   obtain ⟨⟨x7, hx7⟩, SF⟩ := HR.out.cell (j * 10 + 7) (by omega)
   obtain ⟨⟨x8, hx8⟩, TF⟩ := HR.out.cell (j * 10 + 8) (by omega)
   obtain ⟨⟨x9, hx9⟩, UF⟩ := HR.out.cell (j * 10 + 9) (by omega)
   have hN : bumpC (n - (j + 1)) (bump 10 b) = bumpC n a := by rw [← HN.out, show n - j = (n - (j + 1)) + 1 by omega]; rfl
   have HN2 := Aside0.mk hN
   clear hN HN
   go_wp2
   exact ⟨⟨_, j + 1, rfl, by go_num, by omega, HN2, ⟨by repeat (with_reducible first | refine RawPost.set ?_ HE.out _ _ | exact HR.out)⟩⟩, by simp [intOf]; omega⟩
  ·obtain rfl : j = n := by omega
   have HN2 := Aside0.mk (show b = bumpC j a by rw [← HN.out, Nat.sub_self]; rfl)
   clear HN
   go_wp2
   go_ret
   exact ⟨by rw [HN2.out]; rfl, HR.out⟩
/-- Blocks keep their sizes. -/
def Sh (w w' : World) : Prop := ∀ (b : Nat) (cs : Array Value) (t : TypeId), w.heap[b]? = some (.cells cs t (0, 0)) → ∃ cs' : Array Value, w'.heap[b]? = some (.cells cs' t (0, 0)) ∧ cs'.size = cs.size
theorem Sh.refl (w : World) : Sh w w := fun b cs t h => ⟨cs, h, rfl⟩
theorem Sh.trans {w w1 w2 : World} (h : Sh w w1) (k : Sh w1 w2) : Sh w w2 := fun b cs t hb => by
 obtain ⟨c1, h1, e1⟩ := h b cs t hb
 obtain ⟨c2, h2, e2⟩ := k b c1 t h1
 exact ⟨c2, h2, e2.trans e1⟩
theorem Sh.set (w : World) (g i : Nat) (u : Value) : Sh w (w.setCell ⟨g, i, none⟩ u) := fun b cs t hb => by
 by_cases e : b = g
 ·subst e; exact ⟨_, blk_set hb i u, by simp⟩
 ·exact ⟨cs, blk_far (p := ⟨g, i, none⟩) hb e u, rfl⟩
/-- What a call that marks rows of the type t leaves: other types' blocks stand as they were. -/
def MarkPost (w0 w : World) (P : Nat → Prop) (t : Nat) (w' : World) : Prop := Below w0.heap.size w0 w' ∧ Kept w w' P ∧ Sh w w' ∧ ∀ (g : Nat) (cs : Array Value) (t' : TypeId), t' ≠ t → w.heap[g]? = some (.cells cs t' (0, 0)) → w'.heap[g]? = some (.cells cs t' (0, 0))
theorem RawPost.mark {w0 w w' : World} {g t : Nat} {cs : Array Value} {P : Nat → Prop} (h : RawPost w0 w g t cs.size w') (hb : w.heap[g]? = some (.cells cs t (0, 0))) (hP : P g) : MarkPost w0 w P t w' := by
 obtain ⟨h1, h2, cs', h3, h4⟩ := h
 refine ⟨h1, h2.mono (fun k hk => by subst hk; exact hP), fun b c t1 hc => ?_, fun b c t1 ht hc => ?_⟩
 ·by_cases e : b = g
  ·subst e
   rw [hb] at hc
   injection hc with hc
   injection hc with hc1 hc2
   subst hc1 hc2
   exact ⟨cs', h3, h4⟩
  ·exact ⟨c, (h2.2 b (blk_lt hc) e).trans hc, rfl⟩
 ·refine (h2.2 b (blk_lt hc) ?_).trans hc
  rintro rfl
  rw [hb] at hc
  injection hc with hc
  injection hc with hc1 hc2
  exact ht hc2.symm
/-- A slice over a block of its own, or none: enough cells, whatever they hold. -/
def RawRow (w : World) (base : Nat) (P : Nat → Prop) (t sz : Nat) (v : Value) (n : Nat) : Prop := (v = .slice none 0 0 ∧ n = 0) ∨ ∃ (g cap : Nat) (cs : Array Value), v = .slice (some ⟨g, 0, none⟩) n cap ∧ base ≤ g ∧ P g ∧ w.heap[g]? = some (.cells cs t (0, 0)) ∧ n * sz ≤ cs.size ∧ n ≤ maxLen
theorem RawRow.of_R {α : Type} {d : Kd α} {e base : Nat} {w : World} {ok : Nat → Prop} {v : Value} {xs : List α} (h : Kd.R d e w base ok v xs) : RawRow w base ok e d.sz v xs.length := by
 obtain ⟨h0, inner, ⟨hl, ho⟩, -⟩ := h
 rcases ho with ⟨rfl, hn⟩ | ⟨g, cap, cur, rfl, hg, hh, hc, hm, hs, -⟩
 ·exact .inl ⟨rfl, hn⟩
 ·exact .inr ⟨g, cap, cur, rfl, hg, h0 g (by simp [Value.ownBlock]), hh, by rw [hs]; exact Nat.mul_le_mul_right _ hc, by omega⟩
theorem RawRow.sh {w w' : World} {base : Nat} {P : Nat → Prop} {t sz : Nat} {v : Value} {n : Nat} (h : RawRow w base P t sz v n) (hs : Sh w w') : RawRow w' base P t sz v n := by
 rcases h with h | ⟨g, cap, cs, h1, h2, h3, h4, h5, h6⟩
 ·exact .inl h
 ·obtain ⟨c, hc, he⟩ := hs g cs t h4
  exact .inr ⟨g, cap, c, h1, h2, h3, hc, by omega, h6⟩
theorem RawRow.mono {w : World} {base : Nat} {P P' : Nat → Prop} {t sz : Nat} {v : Value} {n : Nat} (h : RawRow w base P t sz v n) (hp : ∀ k, P k → P' k) : RawRow w base P' t sz v n := by
 rcases h with h | ⟨g, cap, cs, h1, h2, h3, h4⟩
 ·exact .inl h
 ·exact .inr ⟨g, cap, cs, h1, h2, hp g h3, h4⟩
theorem MarkPost.refl {w0 w : World} {P : Nat → Prop} {t : Nat} (hB : Below w0.heap.size w0 w) : MarkPost w0 w P t w := ⟨hB, Kept.refl _ _, Sh.refl _, fun _ _ _ _ h => h⟩
theorem markInt_nil (a : Int) (w : World) : Calls Try.prog 27 #[.slice none 0 0, .int .i64 a] w fun e w' => e = .returned (.int .i64 a) ∧ w = w' := by
 go_enter Try.func27, Try.ntmps27
 go_wp2
 refine wp_loop_rounds 1 ?_
 rw [rounds_succ]
 go_wp2
 go_ret
 exact ⟨rfl, rfl⟩
set_option maxRecDepth 100000 in
theorem markCall_nil (a : Int) (w : World) : Calls Try.prog 53 #[.slice none 0 0, .int .i64 a] w fun e w' => e = .returned (.int .i64 a) ∧ w = w' := by
 go_enter Try.func53, Try.ntmps53
 go_wp2
 refine wp_loop_rounds 1 ?_
 rw [rounds_succ]
 go_wp2
 go_ret
 exact ⟨rfl, rfl⟩
theorem markInt_row (w0 w : World) (P : Nat → Prop) (v : Value) (n : Nat) (a : Int) (hB : Below w0.heap.size w0 w) (h : RawRow w w0.heap.size P 3 1 v n) : Calls Try.prog 27 #[v, .int .i64 a] w fun e w' => e = .returned (.int .i64 (bump n a)) ∧ MarkPost w0 w P 3 w' := by
 rcases h with ⟨rfl, rfl⟩ | ⟨g, cap, cs, rfl, h2, h3, h4, h5, h6⟩
 ·exact (markInt_nil a w).mono fun e w' ⟨h1, h2⟩ => by subst h2; exact ⟨h1, MarkPost.refl hB⟩
 ·exact (markInt_raw g cap n a w0 w cs hB h2 h4 (by omega) h6).mono fun e w' ⟨h1, h2⟩ => ⟨h1, h2.mark h4 h3⟩
theorem markCall_row (w0 w : World) (P : Nat → Prop) (v : Value) (n : Nat) (a : Int) (hB : Below w0.heap.size w0 w) (h : RawRow w w0.heap.size P 75 10 v n) : Calls Try.prog 53 #[v, .int .i64 a] w fun e w' => e = .returned (.int .i64 (bumpC n a)) ∧ MarkPost w0 w P 75 w' := by
 rcases h with ⟨rfl, rfl⟩ | ⟨g, cap, cs, rfl, h2, h3, h4, h5, h6⟩
 ·exact (markCall_nil a w).mono fun e w' ⟨h1, h2⟩ => by subst h2; exact ⟨h1, MarkPost.refl hB⟩
 ·exact (markCall_raw g cap n a w0 w cs hB h2 h4 h5 h6).mono fun e w' ⟨h1, h2⟩ => ⟨h1, h2.mark h4 h3⟩
/-- What the threads' marks come to. -/
def bumpT : List S55 → Int → Int
 | [], a => a
 | t :: l, a => bumpT l (bump t.f3.length (bump t.f2.length (wrap64 (bumpC t.f0.length a + 1))))
/-- While threads are marked: the row's cells but the marks stand as they stood. -/
def Mid (w0 w : World) (P : Nat → Prop) (g : Nat) (cs : Array Value) (w' : World) : Prop := Below w0.heap.size w0 w' ∧ Kept w w' P ∧ Sh w w' ∧ ∃ cs' : Array Value, w'.heap[g]? = some (.cells cs' 55 (0, 0)) ∧ cs'.size = cs.size ∧ ∀ i, i % 4 ≠ 1 → cs'[i]? = cs[i]?
theorem Kept.trans_ {w w1 w2 : World} {S : Nat → Prop} (h : Kept w w1 S) (k : Kept w1 w2 S) : Kept w w2 S := ⟨Nat.le_trans h.1 k.1, fun i hi hn => (k.2 i (Nat.lt_of_lt_of_le hi h.1) hn).trans (h.2 i hi hn)⟩
theorem Mid.call {w0 w w1 w2 : World} {P : Nat → Prop} {g t : Nat} {cs : Array Value} (h : Mid w0 w P g cs w1) (k : MarkPost w0 w1 P t w2) (ht : t ≠ 55) : Mid w0 w P g cs w2 := by
 obtain ⟨h1, h2, h3, c, h4, h5, h6⟩ := h
 obtain ⟨k1, k2, k3, k4⟩ := k
 exact ⟨k1, Kept.trans_ h2 k2, h3.trans k3, c, k4 g c 55 (Ne.symm ht) h4, h5, h6⟩
theorem Mid.store {w0 w w1 : World} {P : Nat → Prop} {g : Nat} {cs : Array Value} (h : Mid w0 w P g cs w1) (hge : w0.heap.size ≤ g) (hP : P g) (j : Nat) (u : Value) : Mid w0 w P g cs (w1.setCell ⟨g, j * 4 + 1, none⟩ u) := by
 obtain ⟨h1, h2, h3, c, h4, h5, h6⟩ := h
 refine ⟨below_set h1 hge, h2.setCell (.inl hP) u, h3.trans (Sh.set _ _ _ _), _, blk_set h4 _ u, by simpa using h5, fun i hi => ?_⟩
 rw [Array.getElem?_setIfInBounds, if_neg (by omega)]
 exact h6 i hi
theorem Mid.cell {w0 w w1 : World} {P : Nat → Prop} {g : Nat} {cs : Array Value} (h : Mid w0 w P g cs w1) (i : Nat) (hi : i % 4 ≠ 1) {u : Value} (hu : cs[i]? = some u) : w1.cell? ⟨g, i, none⟩ = some u := by
 obtain ⟨h1, h2, h3, c, h4, h5, h6⟩ := h
 exact (blk_cell h4 i).trans ((h6 i hi).trans hu)
theorem Mid.at_ {w0 w w1 : World} {P : Nat → Prop} {g : Nat} {cs : Array Value} (h : Mid w0 w P g cs w1) (i : Nat) (hi : i < cs.size) : (∃ x, w1.cell? ⟨g, i, none⟩ = some x) ∧ ∀ j, w1.frozen? ⟨g, j, none⟩ = false := by
 obtain ⟨h1, h2, h3, c, h4, h5, h6⟩ := h
 exact ⟨⟨c[i]'(by omega), (blk_cell h4 i).trans (Array.getElem?_eq_getElem (by omega))⟩, fun j => blk_frozen h4 j⟩
theorem row_at {w : World} {base g n cap : Nat} {P : Nat → Prop} {l : List S55} (h : Kd.R k55 55 w base P (.slice (some ⟨g, 0, none⟩) n cap) l) (j : Nat) (hj : j < n) (cs : Array Value) (hb : w.heap[g]? = some (.cells cs 55 (0, 0))) :
  ∃ v0 v2 v3, cs[j * 4]? = some v0 ∧ cs[j * 4 + 2]? = some v2 ∧ cs[j * 4 + 3]? = some v3 ∧ RawRow w base P 75 10 v0 (l.getD j z55).f0.length ∧ RawRow w base P 3 1 v2 (l.getD j z55).f2.length ∧ RawRow w base P 3 1 v3 (l.getD j z55).f3.length := by
 obtain ⟨c, hcl, hM, hc, -⟩ := Kd.R_elem h z55 (j : Int) (by omega) (by omega)
 obtain ⟨v0, v2, v3, rfl, r0, r2, r3⟩ := k55_openM hM
 have hc' : ∀ i u, [v0, .int .i64 _, v2, v3][i]? = some u → cs[j * 4 + i]? = some u := fun i u hu => by
  have := hc i u hu
  rw [blk_cell hb] at this
  simpa [show k55.sz = 4 from rfl] using this
 exact ⟨v0, v2, v3, hc' 0 _ rfl, hc' 2 _ rfl, hc' 3 _ rfl, (RawRow.of_R r0).mono (fun k hk => hk.1), (RawRow.of_R r2).mono (fun k hk => hk.1), (RawRow.of_R r3).mono (fun k hk => hk.1)⟩
/-- Threads' rows as cells: whatever their numbers, their lengths are l's. -/
def RawThreads (w : World) (base : Nat) (P : Nat → Prop) (v : Value) (l : List S55) : Prop := (v = .slice none 0 0 ∧ l = []) ∨ ∃ (g cap : Nat) (cs : Array Value), v = .slice (some ⟨g, 0, none⟩) l.length cap ∧ base ≤ g ∧ P g ∧ w.heap[g]? = some (.cells cs 55 (0, 0)) ∧ l.length * 4 ≤ cs.size ∧ l.length ≤ maxLen ∧ ∀ j, j < l.length → ∃ v0 v2 v3, cs[j * 4]? = some v0 ∧ cs[j * 4 + 2]? = some v2 ∧ cs[j * 4 + 3]? = some v3 ∧ RawRow w base P 75 10 v0 (l.getD j z55).f0.length ∧ RawRow w base P 3 1 v2 (l.getD j z55).f2.length ∧ RawRow w base P 3 1 v3 (l.getD j z55).f3.length
theorem RawThreads.of_R {w : World} {base : Nat} {P : Nat → Prop} {v : Value} {l : List S55} (h : Kd.R k55 55 w base P v l) : RawThreads w base P v l := by
 rcases RawRow.of_R h with ⟨rfl, hn⟩ | ⟨g, cap, cs, rfl, h2, h3, h4, h5, h6⟩
 ·exact .inl ⟨rfl, List.length_eq_zero_iff.1 hn⟩
 ·exact .inr ⟨g, cap, cs, rfl, h2, h3, h4, h5, h6, fun j hj => row_at h j hj cs h4⟩
theorem RawThreads.mark {w0 w w' : World} {base t : Nat} {P Q : Nat → Prop} {v : Value} {l : List S55} (h : RawThreads w base P v l) (k : MarkPost w0 w Q t w') (ht : t ≠ 55) : RawThreads w' base P v l := by
 rcases h with h | ⟨g, cap, cs, h1, h2, h3, h4, h5, h6, h7⟩
 ·exact .inl h
 ·refine .inr ⟨g, cap, cs, h1, h2, h3, k.2.2.2 g cs 55 (Ne.symm ht) h4, h5, h6, fun j hj => ?_⟩
  obtain ⟨v0, v2, v3, e0, e2, e3, r0, r2, r3⟩ := h7 j hj
  exact ⟨v0, v2, v3, e0, e2, e3, r0.sh k.2.2.1, r2.sh k.2.2.1, r3.sh k.2.2.1⟩
theorem Sh.below {w w' : World} (hb : Below w.heap.size w w') : Sh w w' := fun b cs t h => ⟨cs, (hb.block b (blk_lt h)).trans h, rfl⟩
theorem MarkPost.behind {w0 w w1 w2 : World} {P : Nat → Prop} {t : Nat} (hb : Below w.heap.size w w1) (h : MarkPost w0 w1 P t w2) : MarkPost w0 w P t w2 := by
 obtain ⟨h1, h2, h3, h4⟩ := h
 exact ⟨h1, Kept.trans_ ⟨hb.size, fun i hi _ => hb.block i hi⟩ h2, (Sh.below hb).trans h3, fun g cs t' ht hc => h4 g cs t' ht ((hb.block g (blk_lt hc)).trans hc)⟩
theorem RawThreads.below {w w' : World} {base : Nat} {P : Nat → Prop} {v : Value} {l : List S55} (h : RawThreads w base P v l) (hb : Below w.heap.size w w') : RawThreads w' base P v l := by
 rcases h with h | ⟨g, cap, cs, h1, h2, h3, h4, h5, h6, h7⟩
 ·exact .inl h
 ·refine .inr ⟨g, cap, cs, h1, h2, h3, (hb.block g (blk_lt h4)).trans h4, h5, h6, fun j hj => ?_⟩
  obtain ⟨v0, v2, v3, e0, e2, e3, r0, r2, r3⟩ := h7 j hj
  exact ⟨v0, v2, v3, e0, e2, e3, r0.sh (Sh.below hb), r2.sh (Sh.below hb), r3.sh (Sh.below hb)⟩
theorem RawThreads.mono {w : World} {base : Nat} {P P' : Nat → Prop} {v : Value} {l : List S55} (h : RawThreads w base P v l) (hp : ∀ k, P k → P' k) : RawThreads w base P' v l := by
 rcases h with h | ⟨g, cap, cs, h1, h2, h3, h4, h5, h6, h7⟩
 ·exact .inl h
 ·refine .inr ⟨g, cap, cs, h1, h2, hp g h3, h4, h5, h6, fun j hj => ?_⟩
  obtain ⟨v0, v2, v3, e0, e2, e3, r0, r2, r3⟩ := h7 j hj
  exact ⟨v0, v2, v3, e0, e2, e3, r0.mono hp, r2.mono hp, r3.mono hp⟩
set_option maxRecDepth 100000 in
set_option maxHeartbeats 4000000 in
theorem markThreads (w0 w : World) (P : Nat → Prop) (v : Value) (l : List S55) (a : Int) (hB : Below w0.heap.size w0 w) (h : RawThreads w w0.heap.size P v l) : Calls Try.prog 17 #[v, .int .i64 a] w fun e w' => e = .returned (.int .i64 (bumpT l a)) ∧ Below w0.heap.size w0 w' ∧ Kept w w' P := by
 rcases h with ⟨rfl, rfl⟩ | ⟨g, cap, cs, rfl, h2, h3, h4, h5, h6, h⟩
 ·go_enter Try.func17, Try.ntmps17
  go_wp2
  refine wp_loop_rounds 1 ?_
  rw [rounds_succ]
  go_wp2
  go_ret
  exact ⟨rfl, hB, Kept.refl _ _⟩
 ·have H0 := Aside0.mk (show Mid w0 w P g cs w from ⟨hB, Kept.refl _ _, Sh.refl _, cs, h4, rfl, fun _ _ => rfl⟩)
  have HE := Aside0.mk h2
  have HP := Aside0.mk h3
  have HR := Aside0.mk h
  have H4 := Aside0.mk h4
  have H5 := Aside0.mk (show l.length * 4 ≤ cs.size from h5)
  unfold maxLen at h6
  clear hB h2 h3 h h4 h5
  go_enter Try.func17, Try.ntmps17
  go_wp2
  go_loopw [1, 5] (fun v1 v5 w' => ∃ (b : Int) (j : Nat), v1 = .int .i64 b ∧ v5 = .int .i64 (j : Int) ∧ j ≤ l.length ∧ Aside0 (bumpT (l.drop j) b = bumpT l a) ∧ Aside0 (Mid w0 w P g cs w')) (fun _ i _ => l.length - (intOf i).toNat)
  case atStart => exact ⟨a, 0, rfl, rfl, Nat.zero_le _, ⟨rfl⟩, H0⟩
  case round =>
   obtain ⟨b, j, rfl, rfl, hj, HN, HM⟩ := hrel
   by_cases hlt : j < l.length
   ·obtain ⟨v0, v2, v3, e0, e2, e3, r0, r2, r3⟩ := HR.out j hlt
    have R0 := Aside0.mk r0
    have R2 := Aside0.mk r2
    have R3 := Aside0.mk r3
    have E2 := Aside0.mk e2
    have E3 := Aside0.mk e3
    have hx0 := HM.out.cell (j * 4) (by omega) e0
    clear r0 r2 r3 e2 e3 e0
    have hN : bumpT (l.drop (j + 1)) (bump (l.getD j z55).f3.length (bump (l.getD j z55).f2.length (wrap64 (bumpC (l.getD j z55).f0.length b + 1)))) = bumpT l a := by
     rw [← HN.out, List.drop_eq_getElem_cons hlt]
     simp only [bumpT, List.getD_eq_getElem?_getD, List.getElem?_eq_getElem hlt, Option.getD_some]
    have HN2 := Aside0.mk hN
    clear hN HN
    generalize (l.getD j z55).f0.length = n0 at *
    generalize (l.getD j z55).f2.length = n2 at *
    generalize (l.getD j z55).f3.length = n3 at *
    go_wp2_with fail
    refine (markCall_row w0 wr P v0 n0 b HM.out.1 (R0.out.sh HM.out.2.2.1)).mono ?_
    rintro e w1 ⟨rfl, hm1⟩
    have tB := Aside0.mk (HM.out.call hm1 (by decide))
    clear hm1
    obtain ⟨⟨x1, hx1⟩, wD⟩ := tB.out.at_ (j * 4 + 1) (by have := H5.out; omega)
    have xD := wD (j * 4 + 1)
    clear wD
    have hx2 := tB.out.cell (j * 4 + 2) (by omega) E2.out
    have uB := Aside0.mk (tB.out.store HE.out HP.out j (.int .i64 (bumpC n0 b)))
    go_wp2_with fail
    refine (markInt_row w0 _ P v2 n2 _ uB.out.1 (R2.out.sh uB.out.2.2.1)).mono ?_
    rintro e w2 ⟨rfl, hm2⟩
    have vB := Aside0.mk (uB.out.call hm2 (by decide))
    clear hm2 uB tB xD hx1 hx2
    have hx3 := vB.out.cell (j * 4 + 3) (by omega) E3.out
    go_wp2_with fail
    refine (markInt_row w0 _ P v3 n3 _ vB.out.1 (R3.out.sh vB.out.2.2.1)).mono ?_
    rintro e w3 ⟨rfl, hm3⟩
    have JF := Aside0.mk (vB.out.call hm3 (by decide))
    clear hm3 hx3
    go_wp2
    exact ⟨⟨_, j + 1, rfl, by go_num, by omega, HN2, JF⟩, by simp [intOf]; omega⟩
   ·obtain rfl : j = l.length := by omega
    have HN2 := Aside0.mk (show b = bumpT l a by rw [← HN.out, List.drop_length]; rfl)
    clear HN
    go_wp2
    go_ret
    exact ⟨by rw [HN2.out]; rfl, HM.out.1, HM.out.2.1⟩
/-- 'markMem', over a row of whatever numbers. -/
theorem markMem_row (w0 w : World) (P : Nat → Prop) (v : Value) (n : Nat) (a : Int) (hB : Below w0.heap.size w0 w) (h : RawRow w w0.heap.size P 3 1 v n) : Calls Try.prog 54 #[.agg #[v], .int .i64 a] w fun e w' => e = .returned (.int .i64 (bump n a)) ∧ MarkPost w0 w P 3 w' := by
 have hu26 := Try.underlying26
 have HA := Aside0.mk h
 have HB := Aside0.mk hB
 clear h hB
 go_enter Try.func54, Try.ntmps54
 go_wp2_with fail
 have hb0 := below_alloc (Below.refl w.heap.size w) (.cells #[v] 26 (0, 0))
 refine (markInt_row w0 _ P v n a (below_alloc HB.out _) (HA.out.sh (Sh.below hb0))).mono ?_
 rintro e w1 ⟨rfl, hm⟩
 have HM := Aside0.mk (hm.behind hb0)
 clear hm hb0
 go_wp2
 go_ret
 exact ⟨rfl, HM.out⟩
def laws_markThreadS.f (l0 : List (S55)) (a1 : Int) : Option (Int) := some (bumpT l0 a1)
theorem laws_markThreadS.calls (P0_ : Nat → Prop) (u9000_ : Value) (l0 : List (S55)) (a1 : Int) (r1 : Int) (w0 w : World) (hB : Below w0.heap.size w0 w) (ho0 : Kd.R k55 55 w w0.heap.size P0_ u9000_ l0) (h : laws_markThreadS.f l0 a1 = some r1) :
  Calls Try.prog 17 #[u9000_, .int .i64 a1] w fun e w' => e = .returned (.int .i64 r1) ∧ Below w0.heap.size w0 w' ∧ Kept w w' (fun k_ => P0_ k_) := by
 obtain rfl : bumpT l0 a1 = r1 := by injection h
 exact markThreads w0 w P0_ u9000_ l0 a1 hB (RawThreads.of_R ho0)


/-! ### laws_markMem: function 54 -/
def laws_markMem.f (k : Nat) (eA : List Int) (a1 : Int) : Option (Int × List Int) := (laws_markIntS.f k eA a1).bind fun wA => (some (wA.1, wA.2))
theorem laws_markMem.mono : ∀ a0 a1 k, LeO (laws_markMem.f k a0 a1) (laws_markMem.f (k + 1) a0 a1) := by
 intro a0 a1 k
 unfold laws_markMem.f
 repeat' first
   | (with_reducible exact laws_markIntS.mono _ _ _)
   | (with_reducible exact LeO.refl _)
   | (with_reducible exact LeO.none _)
   | (with_reducible refine LeO.ite ?_ ?_)
   | (with_reducible refine LeO.bind ?_ (fun _ => ?_))
   | exact laws_markIntS.mono _ _ _
   | exact LeO.none _
   | refine LeO.ite ?_ ?_
   | refine LeO.bind ?_ (fun _ => ?_)
set_option maxHeartbeats 8000000 in
set_option maxRecDepth 100000 in
theorem laws_markMem.calls (k : Nat) (P0_0_ : Nat → Prop) (u9000_ : Value) (eA : List Int) (a1 : Int) (r1 : Int) (r2 : List Int) (w0 w : World) (hB : Below w0.heap.size w0 w) (ho0_0 : Kd.R (Kd.int .i64) 3 w w0.heap.size P0_0_ u9000_ eA) (h : laws_markMem.f k eA a1 = some (r1, r2)) :
  Calls Try.prog 54 #[.agg #[u9000_], .int .i64 a1] w fun e w' => e = .returned (.int .i64 r1) ∧ Kd.R (Kd.int .i64) 3 w' w0.heap.size (fun k_ => (P0_0_ k_ ∨ w.heap.size ≤ k_)) u9000_ r2 ∧ Below w0.heap.size w0 w' ∧ Kept w w' (fun k_ => P0_0_ k_) := by
 have hu26 := Try.underlying26
 have jA := Aside0.mk (show Kd.R (Kd.int .i64) 3 w w0.heap.size (fun k_ => (P0_0_ k_ ∨ w.heap.size ≤ k_)) u9000_ eA from Kd.R_mono ho0_0 (fun k_ hk => (.inl hk)))
 have HK := Aside0.mk (Kept.refl w (fun k_ => P0_0_ k_))
 have HW0 := Aside0.mk hB.size
 have HB := Aside0.mk hB
 clear hB
 have H : ((laws_markIntS.f k eA a1).bind fun wA => (some (wA.1, wA.2))) = some (r1, r2) := h
 clear h
 replace H := Option.bind_eq_some_iff.mp H
 obtain ⟨⟨yD, zD⟩, A30, H⟩ := H
 (try dsimp only at H)
 have A3 := Aside0.mk A30
 clear A30
 simp only [Option.some.injEq, Prod.mk.injEq] at H
 obtain ⟨rfl, rfl⟩ := H
 obtain ⟨qB, rB, KF⟩ := Kd.R_slice jA.out
 subst KF
 go_enter Try.func54, Try.ntmps54
 go_wp2_with (first | ((with_reducible refine gate_dst (N := 2) rfl ?_); refine box_event ?hg (N := 2) ?hd (cs := #[.slice qB eA.length rB]) (t := 26) ?hr ?_; (case hd => rfl); (case hg => rfl); (case hr => first | (go_simp; done) | (go_simp; rfl)); intro CA hg w5 hbox hb; have gA := Aside0.mk (Kd.R_below (by (with_reducible repeat (first | apply Kd.R_alloc | apply Kd.R_drewN | apply Kd.R_drew)); exact jA.out) hb); have hA := Aside0.mk (Kept.below (S := (fun k_ => P0_0_ k_)) q8_2 hb); have iA := Aside0.mk (below_step q8_3 hb); have DA := Aside0.mk (hbox); have DF := Aside0.mk ((by rw [hg]; exact (by first | exact HK.out.1 | exact (show Kept w _ (fun k_ => P0_0_ k_) from by repeat (first | (with_reducible first | exact HK.out | apply Kept.alloc | apply Kept.drewN | apply Kept.drew) | exact HK.out)).1) : w.heap.size ≤ CA)); have EF := Aside0.mk ((by rw [hg]; exact (below_size q8_3) : w0.heap.size ≤ CA)); clear jA HK HB; have jA := gA; have HK := hA; have HB := iA; have vA := DA; have KA := DF; have LA := EF; clear gA hA iA DA DF EF; clear hb hbox hg; have nB : w5.cell? ⟨CA, 0, none⟩ = some (.slice qB eA.length rB) := (blk_cell vA.out 0).trans rfl; have oB := blk_frozen vA.out 0) | ((with_reducible refine gate_callee (f := 27) rfl ?_); refine goesL_ (some 8) rfl rfl Try.func27 (by kernel_rfl) rfl #[.slice qB eA.length rB, .int .i64 a1] rfl q8_8 ?_; (with_reducible refine (laws_markIntS.calls k (fun k_ => some k_ = (.slice qB eA.length rB : Value).ownBlock) (.slice qB eA.length rB) eA a1 yD zD w0 _ ?side1 ?side2 A3.out).mono ?_); (case side1 => repeat (first | (with_reducible first | exact HB.out | apply below_alloc | apply pw_below_drewN | apply below_drew1 | refine below_set ?_ LA.out) | exact HB.out)); (case side2 => exact Kd.R_tight rfl jA.out); rintro e w7 ⟨rfl, hy0, hb, hkp⟩; refine ⟨_, rfl, ?_⟩; have gA := Aside0.mk (Kd.R_reok rfl hy0 (fun k_ e_ => jA.out.1 k_ e_)); have hA := Aside0.mk (blk_kept (by (with_reducible repeat (first | refine blk_drewN ?_ _ | refine blk_drew ?_ | refine blk_alloc ?_ _)); exact vA.out) hkp (fun hs_ => (fun e_ => (Kd.R_ne jA.out vA.out (by decide)) e_) hs_)); have iA := Aside0.mk (Kept.then_ (S := (fun k_ => P0_0_ k_)) (by repeat (first | (with_reducible first | exact HK.out | apply Kept.alloc | apply Kept.drewN | apply Kept.drew | refine Kept.setCell ?_ (.inr KA.out) _) | exact HK.out)) hkp (fun k_ hs_ => (fun e_ => (jA.out.1 k_ e_.symm)) hs_)); have DA := Aside0.mk (hb); clear jA vA HK HB; have jA := gA; have vA := hA; have HK := iA; have HB := DA; clear gA hA iA DA; (try clear hb); (try clear hkp); (try clear hy0)))
 go_ret
 exact ⟨q8_7, by (with_reducible repeat (first | apply Kd.R_alloc | apply Kd.R_drewN | apply Kd.R_drew)); exact jA.out, by repeat (first | (with_reducible first | exact HB.out | apply below_alloc | apply pw_below_drewN | apply below_drew1 | refine below_set ?_ LA.out) | exact HB.out), by repeat (first | (with_reducible first | exact HK.out | apply Kept.alloc | apply Kept.drewN | apply Kept.drew | refine Kept.setCell ?_ (.inr KA.out) _) | exact HK.out)⟩

/-! ### laws_markCrew: function 18 (walked by hand) -/
set_option maxRecDepth 100000 in
theorem markCrew_raw (a0 a1 a4 : Int) (w0 w : World) (P Q : Nat → Prop) (u v : Value) (n : Nat) (l : List S55) (a : Int) (hB : Below w0.heap.size w0 w) (h : RawRow w w0.heap.size P 3 1 u n) (h2 : RawThreads w w0.heap.size Q v l) :
  Calls Try.prog 18 #[.agg #[.int .i64 a0, .int .i64 a1, u, v, .int .i64 a4], .int .i64 a] w fun e w' => e = .returned (.int .i64 (bumpT l (bump n a))) ∧ Below w0.heap.size w0 w' ∧ Kept w w' (fun k_ => P k_ ∨ Q k_) := by
 have hu29 := Try.underlying29
 have HA := Aside0.mk h
 have HT := Aside0.mk h2
 have HB := Aside0.mk hB
 clear h h2 hB
 go_enter Try.func18, Try.ntmps18
 go_wp2_with fail
 have hb0 := below_alloc (Below.refl w.heap.size w) (.cells #[.int .i64 a0, .int .i64 a1, u, v, .int .i64 a4] 29 (0, 0))
 have HB0 := Aside0.mk hb0
 refine (markMem_row w0 _ P u n a (below_alloc HB.out _) (HA.out.sh (Sh.below hb0))).mono ?_
 rintro e w1 ⟨rfl, hm⟩
 have hc : w1.heap[w.heap.size]? = some (.cells #[.int .i64 a0, .int .i64 a1, u, v, .int .i64 a4] 29 (0, 0)) := hm.2.2.2 _ _ 29 (by decide) (by simpa using heap_alloc_new w _)
 have hc3 : w1.cell? ⟨w.heap.size, 3, none⟩ = some v := (blk_cell hc 3).trans rfl
 have HM := Aside0.mk hm
 have HT1 := Aside0.mk ((HT.out.below hb0).mark hm (by decide))
 clear hm hc hb0
 go_wp2_with fail
 refine (markThreads w0 w1 Q v l _ HM.out.1 HT1.out).mono ?_
 rintro e w2 ⟨rfl, hb2, hk2⟩
 have HK := Aside0.mk (show Kept w w2 (fun k_ => P k_ ∨ Q k_) from Kept.trans_ ((HM.out.behind HB0.out).2.1.mono (fun _ h => .inl h)) (hk2.mono (fun _ h => .inr h)))
 have HB2 := Aside0.mk hb2
 clear hb2 hk2
 go_wp2
 go_ret
 exact ⟨rfl, HB2.out, HK.out⟩
def laws_markCrew.f (FA : Int) (GA : Int) (AA : List Int) (BA : List (S55)) (IA : Int) (a1 : Int) : Option (Int) := some (bumpT BA (bump AA.length a1))
theorem laws_markCrew.calls (FA : Int) (GA : Int) (P0_2_ : Nat → Prop) (u9000_ : Value) (AA : List Int) (P0_3_ : Nat → Prop) (u9001_ : Value) (BA : List (S55)) (IA : Int) (a1 : Int) (r1 : Int) (w0 w : World) (hB : Below w0.heap.size w0 w) (ho0_2 : Kd.R (Kd.int .i64) 3 w w0.heap.size P0_2_ u9000_ AA) (ho0_3 : Kd.R k55 55 w w0.heap.size P0_3_ u9001_ BA) (h : laws_markCrew.f FA GA AA BA IA a1 = some r1) :
  Calls Try.prog 18 #[.agg #[.int .i64 FA, .int .i64 GA, u9000_, u9001_, .int .i64 IA], .int .i64 a1] w fun e w' => e = .returned (.int .i64 r1) ∧ Below w0.heap.size w0 w' ∧ Kept w w' (fun k_ => P0_2_ k_ ∨ P0_3_ k_) := by
 obtain rfl : bumpT BA (bump AA.length a1) = r1 := by injection h
 exact markCrew_raw FA GA IA w0 w P0_2_ P0_3_ u9000_ u9001_ AA.length BA a1 hB (RawRow.of_R ho0_2) (RawThreads.of_R ho0_3)


/-! ### laws_heldIntS: function 28 -/
def laws_heldIntS.l0 : Nat → List Int → Int → Int → Option (Int)
 | 0, _, _, _ => none
 | k + 1, x0, x1, x5 => if x5 < (x0.length : Int) then (if 0 ≤ x5 then (if (rd x0 x5) = x1 then (laws_heldIntS.l0 k x0 (wrap64 (x1 + 1)) (wrap64 (x5 + 1))) else (some (-1))) else (none)) else (some x1)
def laws_heldIntS.f (k : Nat) (l0 : List Int) (a1 : Int) : Option (Int) := laws_heldIntS.l0 k l0 a1 0
theorem laws_heldIntS.mono_l : ∀ k, (∀ y0 y1 y2, LeO (laws_heldIntS.l0 k y0 y1 y2) (laws_heldIntS.l0 (k + 1) y0 y1 y2))
 | 0 => fun _ _ _ r h => by simp [laws_heldIntS.l0] at h
 | k + 1 => by
  have ih0 := laws_heldIntS.mono_l k
  ·intro y0 y1 y2
   unfold laws_heldIntS.l0
   repeat' first
   | (with_reducible exact ih0 _ _ _)
   | (with_reducible exact LeO.refl _)
   | (with_reducible exact LeO.none _)
   | (with_reducible refine LeO.ite ?_ ?_)
   | (with_reducible refine LeO.bind ?_ (fun _ => ?_))
   | exact ih0 _ _ _
   | exact LeO.none _
   | refine LeO.ite ?_ ?_
   | refine LeO.bind ?_ (fun _ => ?_)
theorem laws_heldIntS.mono : ∀ a0 a1 k, LeO (laws_heldIntS.f k a0 a1) (laws_heldIntS.f (k + 1) a0 a1) := by
 intro a0 a1 k
 have ih0 := laws_heldIntS.mono_l k
 unfold laws_heldIntS.f
 repeat' first
   | (with_reducible exact ih0 _ _ _)
   | (with_reducible exact LeO.refl _)
   | (with_reducible exact LeO.none _)
   | (with_reducible refine LeO.ite ?_ ?_)
   | (with_reducible refine LeO.bind ?_ (fun _ => ?_))
   | exact ih0 _ _ _
   | exact LeO.none _
   | refine LeO.ite ?_ ?_
   | refine LeO.bind ?_ (fun _ => ?_)
set_option maxHeartbeats 8000000 in
set_option maxRecDepth 100000 in
theorem laws_heldIntS.calls (k : Nat) (A0 : Option Addr) (c0 : Nat) (l0 : List Int) (a1 : Int) (r : Int) (w : World) (hr0 : Kd.C (Kd.int .i64) w A0 l0.length l0) (hc0 : l0.length ≤ c0) (h : laws_heldIntS.f k l0 a1 = some r) :
  Calls Try.prog 28 #[.slice A0 l0.length c0, .int .i64 a1] w fun e w' => e = .returned (.int .i64 r) ∧ Drawn0 w w' := by
 have HR0 := Aside0.mk hr0
 clear hr0 hc0
 have H : (laws_heldIntS.l0 k l0 a1 0) = some r := h
 clear h
 have H' := Aside0.mk H
 clear H
 go_enter Try.func28, Try.ntmps28
 go_wp2
 go_loopg [1, 5] k (fun kq v1 v5 w' => ∃ (bA : Int) (aA : Int), v1 = .int .i64 bA ∧ v5 = .int .i64 aA ∧ Aside0 (laws_heldIntS.l0 kq l0 bA aA = some r) ∧ Aside0 (kq ≤ k) ∧ Drawn0 w w')
 case atStart => exact ⟨(a1), (0), q8_5, q8_5, H', ⟨Nat.le_refl _⟩, by repeat (first | exact Drawn0.refl _ | apply Drawn0.step)⟩
 case round =>
  clear H'
  (try clear c2); (try clear p2)
  obtain ⟨bA, aA, rfl, rfl, HA, HK1, ⟨m1, rfl⟩⟩ := hrel
  cases gk with
  | zero => exact absurd HA.out (by simp [laws_heldIntS.l0])
  | succ k1 =>
   have H := HA.out
   clear HA
   simp only [laws_heldIntS.l0] at H
   by_cases c3 : aA < (l0.length : Int)
   ·rw [if_pos c3] at H
    have QA : decide (aA < (l0.length : Int)) = true := decide_eq_true c3
    clear c3
    by_cases c4 : 0 ≤ aA
    ·rw [if_pos c4] at H
     have RA : decide (0 ≤ aA) = true := decide_eq_true c4
     clear c4
     by_cases c5 : (rd l0 aA) = bA
     ·rw [if_pos c5] at H
      have AD : ((rd l0 aA) == bA) = true := beq_iff_eq.mpr c5
      have BD : ((rd l0 aA) != bA) = false := bne_eq_false_iff_eq.mpr c5
      clear c5
      have H' := Aside0.mk H
      clear H
      have p404 : 0 ≤ (aA : Int) := of_decide_eq_true q8_1
      have q404 : aA < (l0.length : Int) := of_decide_eq_true q8_1
      obtain ⟨ad404, pB, JA⟩ := Kd.at_int HR0.out aA p404 q404
      cases pB
      replace p404 := eq_true p404
      replace q404 := eq_true q404
      go_wp2
      go_roundg k1
      case measure => have := HK1.out; omega
      case rel => exact ⟨(wrap64 (bA + 1)), (wrap64 (aA + 1)), q8_5, q8_5, H', ⟨by have := HK1.out; omega⟩, by repeat (first | exact Drawn0.refl _ | apply Drawn0.step)⟩
     ·rw [if_neg c5] at H
      have AD : ((rd l0 aA) == bA) = false := beq_eq_false_iff_ne.mpr c5
      have BD : ((rd l0 aA) != bA) = true := bne_iff_ne.mpr c5
      obtain rfl := Option.some.inj H
      have p404 : 0 ≤ (aA : Int) := of_decide_eq_true q8_1
      have q404 : aA < (l0.length : Int) := of_decide_eq_true q8_1
      obtain ⟨ad404, pB, JA⟩ := Kd.at_int HR0.out aA p404 q404
      cases pB
      replace p404 := eq_true p404
      replace q404 := eq_true q404
      go_wp2
      go_ret
      exact ⟨q8_5, by repeat (first | exact Drawn0.refl _ | apply Drawn0.step)⟩
    ·rw [if_neg c4] at H
     exact absurd H (by simp)
   ·rw [if_neg c3] at H
    have QA : decide (aA < (l0.length : Int)) = false := decide_eq_false c3
    clear c3
    obtain rfl := Option.some.inj H
    go_wp2
    go_ret
    exact ⟨q8_5, by repeat (first | exact Drawn0.refl _ | apply Drawn0.step)⟩

/-! ### laws_heldMem: function 55 -/
def laws_heldMem.f (k : Nat) (eA : List Int) (a1 : Int) : Option (Int) := (laws_heldIntS.f k eA a1).bind fun tA => (if tA < 0 then (some (-1)) else (some tA))
theorem laws_heldMem.mono : ∀ a0 a1 k, LeO (laws_heldMem.f k a0 a1) (laws_heldMem.f (k + 1) a0 a1) := by
 intro a0 a1 k
 unfold laws_heldMem.f
 repeat' first
   | (with_reducible exact laws_heldIntS.mono _ _ _)
   | (with_reducible exact LeO.refl _)
   | (with_reducible exact LeO.none _)
   | (with_reducible refine LeO.ite ?_ ?_)
   | (with_reducible refine LeO.bind ?_ (fun _ => ?_))
   | exact laws_heldIntS.mono _ _ _
   | exact LeO.none _
   | refine LeO.ite ?_ ?_
   | refine LeO.bind ?_ (fun _ => ?_)
set_option maxHeartbeats 8000000 in
set_option maxRecDepth 100000 in
theorem laws_heldMem.calls (k : Nat) (xA : Option Addr) (yA : Nat) (eA : List Int) (a1 : Int) (r : Int) (w : World) (MA : Kd.C (Kd.int .i64) w xA eA.length eA) (NA : eA.length ≤ yA) (h : laws_heldMem.f k eA a1 = some r) :
  Calls Try.prog 55 #[.agg #[.slice xA eA.length yA], .int .i64 a1] w fun e w' => e = .returned (.int .i64 r) ∧ Below w.heap.size w w' := by
 have hu26 := Try.underlying26
 have OA := Aside0.mk MA
 have PA := Aside0.mk NA
 clear MA NA
 have HB := Aside0.mk (Below.refl w.heap.size w)
 have H : ((laws_heldIntS.f k eA a1).bind fun tA => (if tA < 0 then (some (-1)) else (some tA))) = some r := h
 clear h
 replace H := Option.bind_eq_some_iff.mp H
 obtain ⟨tA, A30, H⟩ := H
 (try dsimp only at H)
 have A3 := Aside0.mk A30
 clear A30
 by_cases c4 : tA < 0
 ·rw [if_pos c4] at H
  have RA : decide (tA < 0) = true := decide_eq_true c4
  clear c4
  obtain rfl := Option.some.inj H
  go_enter Try.func55, Try.ntmps55
  go_wp2_with (first | ((with_reducible refine gate_dst (N := 2) rfl ?_); refine box_event ?hg (N := 2) ?hd (cs := #[.slice xA eA.length yA]) (t := 26) ?hr ?_; (case hd => rfl); (case hg => rfl); (case hr => first | (go_simp; done) | (go_simp; rfl)); intro uA hg w5 hbox hb; have gA := Aside0.mk (below_step q8_3 hb); have hA := Aside0.mk (hbox); have iA := Aside0.mk ((by rw [hg]; exact (below_size q8_3) : w.heap.size ≤ uA)); have DA := Aside0.mk ((by rw [hg]; exact (below_size q8_3) : w.heap.size ≤ uA)); clear HB; have HB := gA; have zA := hA; have sB := iA; have EA := DA; clear gA hA iA DA; clear hb hbox hg; have nB : w5.cell? ⟨uA, 0, none⟩ = some (.slice xA eA.length yA) := (blk_cell zA.out 0).trans rfl; have oB := blk_frozen zA.out 0) | ((with_reducible refine gate_callee (f := 28) rfl ?_); refine goesL_ (some 8) rfl rfl Try.func28 (by kernel_rfl) rfl #[.slice xA eA.length yA, .int .i64 a1] rfl q8_8 ?_; (with_reducible refine (laws_heldIntS.calls k _ _ eA a1 tA _ ?side1 ?side2 A3.out).mono ?_); (case side1 => repeat (first | exact (Kd.C_below OA.out HB.out) | (with_reducible refine Kd.C_alloc ?_ _) | (with_reducible refine Kd.C_drewN ?_ _) | (with_reducible refine Kd.C_drew ?_))); (case side2 => exact PA.out); rintro e w' ⟨rfl, ⟨nd, rfl⟩⟩; refine ⟨_, rfl, ?_⟩))
  go_ret
  exact ⟨q8_7, by repeat (first | (with_reducible first | exact HB.out | apply below_alloc | apply pw_below_drewN | apply below_drew1 | refine below_set ?_ EA.out) | exact HB.out)⟩
 ·rw [if_neg c4] at H
  have RA : decide (tA < 0) = false := decide_eq_false c4
  clear c4
  obtain rfl := Option.some.inj H
  go_enter Try.func55, Try.ntmps55
  go_wp2_with (first | ((with_reducible refine gate_dst (N := 2) rfl ?_); refine box_event ?hg (N := 2) ?hd (cs := #[.slice xA eA.length yA]) (t := 26) ?hr ?_; (case hd => rfl); (case hg => rfl); (case hr => first | (go_simp; done) | (go_simp; rfl)); intro uA hg w7 hbox hb; have gA := Aside0.mk (below_step q8_3 hb); have hA := Aside0.mk (hbox); have iA := Aside0.mk ((by rw [hg]; exact (below_size q8_3) : w.heap.size ≤ uA)); have DA := Aside0.mk ((by rw [hg]; exact (below_size q8_3) : w.heap.size ≤ uA)); clear HB; have HB := gA; have zA := hA; have sB := iA; have EA := DA; clear gA hA iA DA; clear hb hbox hg; have CD : w7.cell? ⟨uA, 0, none⟩ = some (.slice xA eA.length yA) := (blk_cell zA.out 0).trans rfl; have DD := blk_frozen zA.out 0) | ((with_reducible refine gate_callee (f := 28) rfl ?_); refine goesL_ (some 8) rfl rfl Try.func28 (by kernel_rfl) rfl #[.slice xA eA.length yA, .int .i64 a1] rfl q8_8 ?_; (with_reducible refine (laws_heldIntS.calls k _ _ eA a1 tA _ ?side1 ?side2 A3.out).mono ?_); (case side1 => repeat (first | exact (Kd.C_below OA.out HB.out) | (with_reducible refine Kd.C_alloc ?_ _) | (with_reducible refine Kd.C_drewN ?_ _) | (with_reducible refine Kd.C_drew ?_))); (case side2 => exact PA.out); rintro e w' ⟨rfl, ⟨nd, rfl⟩⟩; refine ⟨_, rfl, ?_⟩))
  go_ret
  exact ⟨q8_7, by repeat (first | (with_reducible first | exact HB.out | apply below_alloc | apply pw_below_drewN | apply below_drew1 | refine below_set ?_ EA.out) | exact HB.out)⟩

end Go.Proofs.Ytgghglocfdcegaa.PFnExactCrewNew
