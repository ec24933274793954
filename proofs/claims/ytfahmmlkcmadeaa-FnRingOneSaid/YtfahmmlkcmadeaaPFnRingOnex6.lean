-- Written by the session's own patched copy of the printer (wip/patch_print.py).
import Derived.Test.YtfahmmlkcmadeaaPFnRingOnex0
import Derived.Test.YtfahmmlkcmadeaaPFnRingOnex5
namespace Go.Proofs.Ytfahmmlkcmadeaa.PFnRingOne
open Go.RowKit Go.Proofs.YtfahmmlkcmadeaaW.PrintWords Go.Proofs.YtfahmmlkcmadeaaW.PrintLast Go.Proofs.YtfahmmlkcmadeaaW.PrintMore
attribute [local go_sem] max2_int min2_int max_two min_two max_three min_three max_four min_four   -- for this text's walks alone
set_option linter.unusedVariables false
set_option linter.unusedSimpArgs false

theorem q6_0 {p : Prop} (h : p := by repeat (first | (with_reducible first | exact HB.out | apply below_alloc | apply pw_below_drewN | apply below_drew1 | refine below_set ?_ (IsS81.ge fA.out)) | exact HB.out)) : p := h
theorem q6_1 {p : Prop} (h : p := by repeat (first | (with_reducible first | exact fA.out | apply IsS81.alloc | apply IsS81.drewN | apply IsS81.drew | apply IsS81.set_1 | apply IsS81.set_2) | exact fA.out)) : p := h
theorem q6_2 {p : Prop} (h : p := by repeat (first | (with_reducible first | exact HK.out | apply KeepBut.set_ | apply keep_drewN | apply keep_drew | apply keep_alloc) | exact HK.out)) : p := h
theorem q6_3 {p : Prop} (h : p := by (try simp only [List.map_toArray, List.map_cons, List.map_nil]); first | done | rfl | (simp only [List.length_drop, List.length_take]; rfl)) : p := h
theorem q6_4 {p : Prop} (h : p := by first | rfl | (simp [errW_none, errW_some] <;> rfl) | (simp [*, errW_none, errW_some] <;> rfl)) : p := h
theorem q6_5 {p : Prop} (h : p := by first | (with_reducible assumption) | assumption) : p := h
theorem q6_6 {p : Prop} (h : p := by repeat (first | (with_reducible first | exact HB.out | apply below_alloc | apply pw_below_drewN | apply below_drew1 | refine below_set ?_ (IsS81.ge rA.out)) | exact HB.out)) : p := h
theorem q6_7 {p : Prop} (h : p := by first | rfl | (simp; done) | (simp [*]; done)) : p := h
theorem q6_8 {p : Prop} (h : p := by repeat (first | exact Drawn0.refl _ | apply Drawn0.step)) : p := h
theorem q6_9 {p : Prop} (h : p := by (with_reducible repeat (first | apply Kd.R_alloc | apply Kd.R_drewN | apply Kd.R_drew)); exact uA.out) : p := h
/-! ### spec_l01Byte: function 90 -/
def spec_l01Byte.f (s0_0 : List Int) (s0_1 : Int) (s0_2 : Int) : Option (Int × Int × Int) := if s0_1 < (s0_0.length : Int) then (if 0 ≤ s0_1 then (some (Go.bits .and .i64 (wrap64 ((Go.bits .and .i64 (Go.bits .xor .i64 ((wrap64 ((wrap64 (s0_2 * 6364136223846793005)) + 1442695040888963407)) / 8589934592) ((wrap64 ((wrap64 (s0_2 * 6364136223846793005)) + 1442695040888963407)) / 35184372088832)) 255) + (wrap64 (rd s0_0 s0_1)))) 255, wrap64 (s0_1 + 1), wrap64 ((wrap64 (s0_2 * 6364136223846793005)) + 1442695040888963407))) else (none)) else (some (Go.bits .and .i64 (Go.bits .xor .i64 ((wrap64 ((wrap64 (s0_2 * 6364136223846793005)) + 1442695040888963407)) / 8589934592) ((wrap64 ((wrap64 (s0_2 * 6364136223846793005)) + 1442695040888963407)) / 35184372088832)) 255, s0_1, wrap64 ((wrap64 (s0_2 * 6364136223846793005)) + 1442695040888963407)))
set_option maxHeartbeats 8000000 in
set_option maxRecDepth 100000 in
theorem spec_l01Byte.calls (g : Nat) (s0_0 : List Int) (s0_1 : Int) (s0_2 : Int) (r1 : Int) (r2 : Int) (r3 : Int) (w0 w : World) (hI : IsS81 w0 w g s0_0 s0_1 s0_2) (hB : Below w0.heap.size w0 w) (h : spec_l01Byte.f s0_0 s0_1 s0_2 = some (r1, r2, r3)) :
  Calls Try.prog 90 #[.pointer (some ⟨g, 0, none⟩)] w fun e w' => e = .returned (.int .i64 r1) ∧ IsS81 w0 w' g s0_0 r2 r3 ∧ Below w0.heap.size w0 w' ∧ KeepBut w w' g none := by
 have fA := Aside0.mk hI
 have HK := Aside0.mk (KeepBut.refl w g none)
 have HL := Aside0.mk hB.size
 clear hI
 have HW0 := Aside0.mk hB.size
 have HB := Aside0.mk hB
 clear hB
 have H : (if s0_1 < (s0_0.length : Int) then (if 0 ≤ s0_1 then (some (Go.bits .and .i64 (wrap64 ((Go.bits .and .i64 (Go.bits .xor .i64 ((wrap64 ((wrap64 (s0_2 * 6364136223846793005)) + 1442695040888963407)) / 8589934592) ((wrap64 ((wrap64 (s0_2 * 6364136223846793005)) + 1442695040888963407)) / 35184372088832)) 255) + (wrap64 (rd s0_0 s0_1)))) 255, wrap64 (s0_1 + 1), wrap64 ((wrap64 (s0_2 * 6364136223846793005)) + 1442695040888963407))) else (none)) else (some (Go.bits .and .i64 (Go.bits .xor .i64 ((wrap64 ((wrap64 (s0_2 * 6364136223846793005)) + 1442695040888963407)) / 8589934592) ((wrap64 ((wrap64 (s0_2 * 6364136223846793005)) + 1442695040888963407)) / 35184372088832)) 255, s0_1, wrap64 ((wrap64 (s0_2 * 6364136223846793005)) + 1442695040888963407)))) = some (r1, r2, r3) := h
 clear h
 by_cases c2 : s0_1 < (s0_0.length : Int)
 ·rw [if_pos c2] at H
  have nB : decide (s0_1 < (s0_0.length : Int)) = true := decide_eq_true c2
  clear c2
  by_cases c3 : 0 ≤ s0_1
  ·rw [if_pos c3] at H
   have wA : decide (0 ≤ s0_1) = true := decide_eq_true c3
   clear c3
   simp only [Option.some.injEq, Prod.mk.injEq] at H
   obtain ⟨rfl, rfl, rfl⟩ := H
   obtain ⟨ASz4_0, cSz4_0, HGz4, hgz4, HSz4_0⟩ := fA.out
   have oB := cellS81_0 HGz4
   have pB := cellS81_1 HGz4
   have qB := cellS81_2 HGz4
   have rB := blk_frozen HGz4 1
   have sB := blk_frozen HGz4 2
   clear HGz4 hgz4
   have p203 : 0 ≤ (s0_1 : Int) := of_decide_eq_true q6_5
   have q203 : s0_1 < (s0_0.length : Int) := of_decide_eq_true q6_5
   obtain ⟨ad203, tB, eA⟩ := Kd.at_int HSz4_0 s0_1 p203 q203
   cases tB
   have hn203_0 : ad203.block ≠ g := Nat.ne_of_lt (Nat.lt_of_lt_of_le (by have := World.block_lt_of_cell? _ _ eA; first | rwa [add_block] at this | exact this) (IsS81.ge fA.out))
   replace eA := pw_cell_below HB.out eA
   replace eA := (cell_far (p := ⟨g, 2, none⟩) (by first | (rw [add_block]; exact hn203_0) | (show (Addr.add _ _).block ≠ _; rw [add_block]; exact hn203_0) | exact hn203_0) (.int .i64 (wrap64 ((wrap64 (s0_2 * 6364136223846793005)) + 1442695040888963407)))).trans eA
   (try have hy203_0 := fun (n_ : Nat) => (show (((w.drewN n_).setCell ⟨g, 2, none⟩ (.int .i64 (wrap64 ((wrap64 (s0_2 * 6364136223846793005)) + 1442695040888963407))))).cell? _ = some _ from eA))
   clear hn203_0
   replace p203 := eq_true p203
   replace q203 := eq_true q203
   go_enter Try.func90, Try.ntmps90
   go_wp2
   repeat (go_quiet (fail); try go_wp2)
   go_ret
   exact ⟨q6_4, q6_1, q6_0, q6_2⟩
  ·rw [if_neg c3] at H
   exact absurd H (by simp)
 ·rw [if_neg c2] at H
  have nB : decide (s0_1 < (s0_0.length : Int)) = false := decide_eq_false c2
  clear c2
  simp only [Option.some.injEq, Prod.mk.injEq] at H
  obtain ⟨rfl, rfl, rfl⟩ := H
  obtain ⟨ASz5_0, cSz5_0, HGz5, hgz5, HSz5_0⟩ := fA.out
  have uB := cellS81_0 HGz5
  have vB := cellS81_1 HGz5
  have wB := cellS81_2 HGz5
  have xB := blk_frozen HGz5 1
  have yB := blk_frozen HGz5 2
  clear HGz5 hgz5
  go_enter Try.func90, Try.ntmps90
  go_wp2
  repeat (go_quiet (fail); try go_wp2)
  go_ret
  exact ⟨q6_4, q6_1, q6_0, q6_2⟩

/-! ### spec_l01Below: function 82 -/
def spec_l01Below.f (s0_0 : List Int) (s0_1 : Int) (s0_2 : Int) (a1 : Int) : Option (Int × Int × Int) := if a1 ≤ 0 then (some (0, s0_1, s0_2)) else (if a1 ≤ 256 then ((spec_l01Byte.f s0_0 s0_1 s0_2).bind fun jA => (if a1 = 0 then (none) else (some (Int.tmod jA.1 a1, jA.2.1, jA.2.2)))) else ((spec_l01Byte.f s0_0 s0_1 s0_2).bind fun kA => ((spec_l01Byte.f s0_0 kA.2.1 kA.2.2).bind fun lA => ((spec_l01Byte.f s0_0 lA.2.1 lA.2.2).bind fun mA => ((spec_l01Byte.f s0_0 mA.2.1 mA.2.2).bind fun nA => (if a1 = 0 then (none) else (some (Int.tmod (wrap64 ((wrap64 ((wrap64 ((wrap64 (kA.1 * 16777216)) + (wrap64 (lA.1 * 65536)))) + (wrap64 (mA.1 * 256)))) + nA.1)) a1, nA.2.1, nA.2.2))))))))
set_option maxHeartbeats 8000000 in
set_option maxRecDepth 100000 in
theorem spec_l01Below.calls (g : Nat) (s0_0 : List Int) (s0_1 : Int) (s0_2 : Int) (a1 : Int) (r1 : Int) (r2 : Int) (r3 : Int) (w0 w : World) (hI : IsS81 w0 w g s0_0 s0_1 s0_2) (hB : Below w0.heap.size w0 w) (h : spec_l01Below.f s0_0 s0_1 s0_2 a1 = some (r1, r2, r3)) :
  Calls Try.prog 82 #[.pointer (some ⟨g, 0, none⟩), .int .i64 a1] w fun e w' => e = .returned (.int .i64 r1) ∧ IsS81 w0 w' g s0_0 r2 r3 ∧ Below w0.heap.size w0 w' ∧ KeepBut w w' g none := by
 have fA := Aside0.mk hI
 have HK := Aside0.mk (KeepBut.refl w g none)
 have HL := Aside0.mk hB.size
 clear hI
 have HW0 := Aside0.mk hB.size
 have HB := Aside0.mk hB
 clear hB
 have H : (if a1 ≤ 0 then (some (0, s0_1, s0_2)) else (if a1 ≤ 256 then ((spec_l01Byte.f s0_0 s0_1 s0_2).bind fun jA => (if a1 = 0 then (none) else (some (Int.tmod jA.1 a1, jA.2.1, jA.2.2)))) else ((spec_l01Byte.f s0_0 s0_1 s0_2).bind fun kA => ((spec_l01Byte.f s0_0 kA.2.1 kA.2.2).bind fun lA => ((spec_l01Byte.f s0_0 lA.2.1 lA.2.2).bind fun mA => ((spec_l01Byte.f s0_0 mA.2.1 mA.2.2).bind fun nA => (if a1 = 0 then (none) else (some (Int.tmod (wrap64 ((wrap64 ((wrap64 ((wrap64 (kA.1 * 16777216)) + (wrap64 (lA.1 * 65536)))) + (wrap64 (mA.1 * 256)))) + nA.1)) a1, nA.2.1, nA.2.2))))))))) = some (r1, r2, r3) := h
 clear h
 by_cases c3 : a1 ≤ 0
 ·rw [if_pos c3] at H
  have wA : decide (a1 ≤ 0) = true := decide_eq_true c3
  clear c3
  simp only [Option.some.injEq, Prod.mk.injEq] at H
  obtain ⟨rfl, rfl, rfl⟩ := H
  go_enter Try.func82, Try.ntmps82
  go_wp2
  go_ret
  exact ⟨q6_4, q6_1, q6_0, q6_2⟩
 ·rw [if_neg c3] at H
  have wA : decide (a1 ≤ 0) = false := decide_eq_false c3
  clear c3
  by_cases c4 : a1 ≤ 256
  ·rw [if_pos c4] at H
   have IA : decide (a1 ≤ 256) = true := decide_eq_true c4
   clear c4
   replace H := Option.bind_eq_some_iff.mp H
   obtain ⟨⟨zB, AB, BB⟩, A50, H⟩ := H
   (try dsimp only at H)
   have A5 := Aside0.mk A50
   clear A50
   by_cases c6 : a1 = 0
   ·rw [if_pos c6] at H
    exact absurd H (by simp)
   ·rw [if_neg c6] at H
    have CB : (a1 == 0) = false := beq_eq_false_iff_ne.mpr c6
    have UB : (a1 != 0) = true := bne_iff_ne.mpr c6
    simp only [Option.some.injEq, Prod.mk.injEq] at H
    obtain ⟨rfl, rfl, rfl⟩ := H
    go_enter Try.func82, Try.ntmps82
    go_wp2_with (first | ((with_reducible refine gate_callee (f := 90) rfl ?_); refine goesL_ (some 14) rfl rfl Try.func90 (by kernel_rfl) rfl #[.pointer (some ⟨g, 0, none⟩)] rfl q6_3 ?_; (with_reducible refine (spec_l01Byte.calls g s0_0 s0_1 s0_2 zB AB BB w0 _ ?side1 ?side2 A5.out).mono ?_); (case side1 => exact q6_1); (case side2 => exact q6_0); rintro e w7 ⟨rfl, hi, hb, hk⟩; refine ⟨_, rfl, ?_⟩; have bA := Aside0.mk (KeepBut.trans q6_2 hk (.inl rfl)); have cA := Aside0.mk (hb); have gA := Aside0.mk (hi); clear HK HB fA; have HK := bA; have HB := cA; have fA := gA; clear bA cA gA; (try clear hb); (try clear hb2); (try clear hk); (try clear hi)))
    go_ret
    exact ⟨q6_4, q6_1, q6_0, q6_2⟩
  ·rw [if_neg c4] at H
   have IA : decide (a1 ≤ 256) = false := decide_eq_false c4
   clear c4
   replace H := Option.bind_eq_some_iff.mp H
   obtain ⟨⟨DB, SA, TA⟩, A80, H⟩ := H
   (try dsimp only at H)
   have A8 := Aside0.mk A80
   clear A80
   replace H := Option.bind_eq_some_iff.mp H
   obtain ⟨⟨EB, UA, VA⟩, A90, H⟩ := H
   (try dsimp only at H)
   have A9 := Aside0.mk A90
   clear A90
   replace H := Option.bind_eq_some_iff.mp H
   obtain ⟨⟨FB, WA, XA⟩, A100, H⟩ := H
   (try dsimp only at H)
   have A10 := Aside0.mk A100
   clear A100
   replace H := Option.bind_eq_some_iff.mp H
   obtain ⟨⟨GB, IB, JB⟩, A110, H⟩ := H
   (try dsimp only at H)
   have A11 := Aside0.mk A110
   clear A110
   by_cases c12 : a1 = 0
   ·rw [if_pos c12] at H
    exact absurd H (by simp)
   ·rw [if_neg c12] at H
    have SB : (a1 == 0) = false := beq_eq_false_iff_ne.mpr c12
    have TB : (a1 != 0) = true := bne_iff_ne.mpr c12
    simp only [Option.some.injEq, Prod.mk.injEq] at H
    obtain ⟨rfl, rfl, rfl⟩ := H
    go_enter Try.func82, Try.ntmps82
    go_wp2_with (first | ((with_reducible refine gate_callee (f := 90) rfl ?_); refine goesL_ (some 18) rfl rfl Try.func90 (by kernel_rfl) rfl #[.pointer (some ⟨g, 0, none⟩)] rfl q6_3 ?_; (with_reducible refine (spec_l01Byte.calls g s0_0 s0_1 s0_2 DB SA TA w0 _ ?side1 ?side2 A8.out).mono ?_); (case side1 => exact q6_1); (case side2 => exact q6_0); rintro e ZB ⟨rfl, hi, hb, hk⟩; refine ⟨_, rfl, ?_⟩; have bA := Aside0.mk (KeepBut.trans q6_2 hk (.inl rfl)); have cA := Aside0.mk (hb); have gA := Aside0.mk (hi); clear HK HB fA; have HK := bA; have HB := cA; have fA := gA; clear bA cA gA; (try clear hb); (try clear hb2); (try clear hk); (try clear hi)) | ((with_reducible refine gate_callee (f := 90) rfl ?_); refine goesL_ (some 20) rfl rfl Try.func90 (by kernel_rfl) rfl #[.pointer (some ⟨g, 0, none⟩)] rfl q6_3 ?_; (with_reducible refine (spec_l01Byte.calls g s0_0 SA TA EB UA VA w0 _ ?side1 ?side2 A9.out).mono ?_); (case side1 => exact q6_1); (case side2 => exact q6_0); rintro e aC ⟨rfl, hi, hb, hk⟩; refine ⟨_, rfl, ?_⟩; have bA := Aside0.mk (KeepBut.trans q6_2 hk (.inl rfl)); have cA := Aside0.mk (hb); have gA := Aside0.mk (hi); clear HK HB fA; have HK := bA; have HB := cA; have fA := gA; clear bA cA gA; (try clear hb); (try clear hb2); (try clear hk); (try clear hi)) | ((with_reducible refine gate_callee (f := 90) rfl ?_); refine goesL_ (some 22) rfl rfl Try.func90 (by kernel_rfl) rfl #[.pointer (some ⟨g, 0, none⟩)] rfl q6_3 ?_; (with_reducible refine (spec_l01Byte.calls g s0_0 UA VA FB WA XA w0 _ ?side1 ?side2 A10.out).mono ?_); (case side1 => exact q6_1); (case side2 => exact q6_0); rintro e bC ⟨rfl, hi, hb, hk⟩; refine ⟨_, rfl, ?_⟩; have bA := Aside0.mk (KeepBut.trans q6_2 hk (.inl rfl)); have cA := Aside0.mk (hb); have gA := Aside0.mk (hi); clear HK HB fA; have HK := bA; have HB := cA; have fA := gA; clear bA cA gA; (try clear hb); (try clear hb2); (try clear hk); (try clear hi)) | ((with_reducible refine gate_callee (f := 90) rfl ?_); refine goesL_ (some 24) rfl rfl Try.func90 (by kernel_rfl) rfl #[.pointer (some ⟨g, 0, none⟩)] rfl q6_3 ?_; (with_reducible refine (spec_l01Byte.calls g s0_0 WA XA GB IB JB w0 _ ?side1 ?side2 A11.out).mono ?_); (case side1 => exact q6_1); (case side2 => exact q6_0); rintro e cC ⟨rfl, hi, hb, hk⟩; refine ⟨_, rfl, ?_⟩; have bA := Aside0.mk (KeepBut.trans q6_2 hk (.inl rfl)); have cA := Aside0.mk (hb); have gA := Aside0.mk (hi); clear HK HB fA; have HK := bA; have HB := cA; have fA := gA; clear bA cA gA; (try clear hb); (try clear hb2); (try clear hk); (try clear hi)))
    go_ret
    exact ⟨q6_4, q6_1, q6_0, q6_2⟩

/-! ### spec_MakeNum: function 46 -/
def spec_MakeNum.f (k : Nat) (l0 : List Int) (a1 : Int) : Option (Int) := (spec_l01New.f k l0).bind fun oA => ((spec_l01Below.f oA.1 oA.2.1 (wrap64 (oA.2.2 + 777)) a1).bind fun xA => (some xA.1))
theorem spec_MakeNum.mono : ∀ a0 a1 k, LeO (spec_MakeNum.f k a0 a1) (spec_MakeNum.f (k + 1) a0 a1) := by
 intro a0 a1 k
 unfold spec_MakeNum.f
 repeat' first
   | (with_reducible exact spec_l01New.mono _ _)
   | (with_reducible exact LeO.refl _)
   | (with_reducible exact LeO.none _)
   | (with_reducible refine LeO.ite ?_ ?_)
   | (with_reducible refine LeO.bind ?_ (fun _ => ?_))
   | exact spec_l01New.mono _ _
   | exact LeO.none _
   | refine LeO.ite ?_ ?_
   | refine LeO.bind ?_ (fun _ => ?_)
set_option maxHeartbeats 8000000 in
set_option maxRecDepth 100000 in
theorem spec_MakeNum.calls (k : Nat) (A0 : Option Addr) (c0 : Nat) (l0 : List Int) (a1 : Int) (r : Int) (w : World) (hr0 : Kd.C (Kd.int .u8) w A0 l0.length l0) (hc0 : l0.length ≤ c0) (h : spec_MakeNum.f k l0 a1 = some r) :
  Calls Try.prog 46 #[.slice A0 l0.length c0, .int .i64 a1] w fun e w' => e = .returned (.int .i64 r) ∧ Below w.heap.size w w' := by
 have HR0 := Aside0.mk hr0
 have HC0 := Aside0.mk hc0
 clear hr0 hc0
 have HB := Aside0.mk (Below.refl w.heap.size w)
 have H : ((spec_l01New.f k l0).bind fun oA => ((spec_l01Below.f oA.1 oA.2.1 (wrap64 (oA.2.2 + 777)) a1).bind fun xA => (some xA.1))) = some r := h
 clear h
 replace H := Option.bind_eq_some_iff.mp H
 obtain ⟨⟨YA, ZA, aB⟩, A30, H⟩ := H
 (try dsimp only at H)
 have A3 := Aside0.mk A30
 clear A30
 replace H := Option.bind_eq_some_iff.mp H
 obtain ⟨⟨KB, LB, MB⟩, A40, H⟩ := H
 (try dsimp only at H)
 have A4 := Aside0.mk A40
 clear A40
 obtain rfl := Option.some.inj H
 go_enter Try.func46, Try.ntmps46
 go_wp2_with (first | ((with_reducible refine gate_callee (f := 81) rfl ?_); refine goesL_ (some 7) rfl rfl Try.func81 (by kernel_rfl) rfl #[.slice A0 l0.length c0] rfl q6_3 ?_; (with_reducible refine (spec_l01New.calls k _ _ l0 YA ZA aB w _ ?side1 ?side2 ?side3 A3.out).mono ?_); (case side1 => repeat (first | (with_reducible first | exact HB.out | apply below_alloc | apply pw_below_drewN | apply below_drew1) | exact HB.out)); (case side2 => exact HR0.out); (case side3 => exact HC0.out); rintro e w5 ⟨g222, rfl, hi, hb, hb2⟩; refine ⟨_, rfl, ?_⟩; have bA := Aside0.mk (hb); have cA := Aside0.mk (hi); clear HB; have HB := bA; have pA := cA; clear bA cA; (try clear hb); (try clear hb2); (try clear hk); (try clear hi); obtain ⟨ASz6_0, cSz6_0, HGz6, hgz6, HSz6_0⟩ := pA.out; have JA := cellS81_0 HGz6; have KA := cellS81_1 HGz6; have LA := cellS81_2 HGz6; have MA := blk_frozen HGz6 1; have NA := blk_frozen HGz6 2; clear HGz6 hgz6) | ((with_reducible refine gate_callee (f := 82) rfl ?_); refine goesL_ (some 18) rfl rfl Try.func82 (by kernel_rfl) rfl #[.pointer (some ⟨g222, 0, none⟩), .int .i64 a1] rfl q6_3 ?_; (with_reducible refine (spec_l01Below.calls g222 YA ZA (wrap64 (aB + 777)) a1 KB LB MB w _ ?side1 ?side2 A4.out).mono ?_); (case side1 => repeat (first | (with_reducible first | exact pA.out | apply IsS81.alloc | apply IsS81.drewN | apply IsS81.drew | apply IsS81.set_1 | apply IsS81.set_2) | exact pA.out)); (case side2 => repeat (first | (with_reducible first | exact HB.out | apply below_alloc | apply pw_below_drewN | apply below_drew1 | refine below_set ?_ (IsS81.ge pA.out)) | exact HB.out)); rintro e w7 ⟨rfl, hi, hb, hk⟩; refine ⟨_, rfl, ?_⟩; have bA := Aside0.mk (hb); have cA := Aside0.mk (hi); clear HB pA; have HB := bA; have pA := cA; clear bA cA; (try clear hb); (try clear hb2); (try clear hk); (try clear hi)))
 go_ret
 exact ⟨q6_4, by repeat (first | (with_reducible first | exact HB.out | apply below_alloc | apply pw_below_drewN | apply below_drew1 | refine below_set ?_ (IsS81.ge pA.out)) | exact HB.out)⟩

/-! ### spec_l07Picks: function 83 -/
def spec_l07Picks.l0 : Nat → List Int → Int → List Int → Int → Int → Option (List Int × Int × Int)
 | 0, _, _, _, _, _ => none
 | k + 1, x5, x6, EA, FA, GA => if x6 > 0 then ((spec_l01Below.f EA FA GA 12).bind fun yA => (if x5.length < 17592186044416 then (spec_l07Picks.l0 k (x5 ++ [yA.1]) (wrap64 (x6 - 1)) EA yA.2.1 yA.2.2) else (none))) else (some (x5, FA, GA))
def spec_l07Picks.f (k : Nat) (s0_0 : List Int) (s0_1 : Int) (s0_2 : Int) (a1 : Int) : Option (List Int × Int × Int) := (spec_l01Below.f s0_0 s0_1 s0_2 (wrap64 (a1 + 1))).bind fun dA => (spec_l07Picks.l0 k (([] : List Int)) dA.1 s0_0 dA.2.1 dA.2.2)
theorem spec_l07Picks.mono_l : ∀ k, (∀ y0 y1 y2 y3 y4, LeO (spec_l07Picks.l0 k y0 y1 y2 y3 y4) (spec_l07Picks.l0 (k + 1) y0 y1 y2 y3 y4))
 | 0 => fun _ _ _ _ _ r h => by simp [spec_l07Picks.l0] at h
 | k + 1 => by
  have ih0 := spec_l07Picks.mono_l k
  ·intro y0 y1 y2 y3 y4
   unfold spec_l07Picks.l0
   repeat' first
   | (with_reducible exact ih0 _ _ _ _ _)
   | (with_reducible exact LeO.refl _)
   | (with_reducible exact LeO.none _)
   | (with_reducible refine LeO.ite ?_ ?_)
   | (with_reducible refine LeO.bind ?_ (fun _ => ?_))
   | exact ih0 _ _ _ _ _
   | exact LeO.none _
   | refine LeO.ite ?_ ?_
   | refine LeO.bind ?_ (fun _ => ?_)
theorem spec_l07Picks.mono : ∀ a0 a1 a2 a3 k, LeO (spec_l07Picks.f k a0 a1 a2 a3) (spec_l07Picks.f (k + 1) a0 a1 a2 a3) := by
 intro a0 a1 a2 a3 k
 have ih0 := spec_l07Picks.mono_l k
 unfold spec_l07Picks.f
 repeat' first
   | (with_reducible exact ih0 _ _ _ _ _)
   | (with_reducible exact LeO.refl _)
   | (with_reducible exact LeO.none _)
   | (with_reducible refine LeO.ite ?_ ?_)
   | (with_reducible refine LeO.bind ?_ (fun _ => ?_))
   | exact ih0 _ _ _ _ _
   | exact LeO.none _
   | refine LeO.ite ?_ ?_
   | refine LeO.bind ?_ (fun _ => ?_)
set_option maxHeartbeats 8000000 in
set_option maxRecDepth 100000 in
theorem spec_l07Picks.calls (k : Nat) (g : Nat) (s0_0 : List Int) (s0_1 : Int) (s0_2 : Int) (a1 : Int) (r1 : List Int) (r2 : Int) (r3 : Int) (w0 w : World) (hI : IsS81 w0 w g s0_0 s0_1 s0_2) (hB : Below w0.heap.size w0 w) (h : spec_l07Picks.f k s0_0 s0_1 s0_2 a1 = some (r1, r2, r3)) :
  Calls Try.prog 83 #[.pointer (some ⟨g, 0, none⟩), .int .i64 a1] w fun e w' => ∃ v0_ : Value, e = .returned (v0_) ∧ Kd.R (Kd.int .i64) 3 w' w.heap.size (fun _ => True) v0_ r1 ∧ IsS81 w0 w' g s0_0 r2 r3 ∧ Below w0.heap.size w0 w' ∧ KeepBut w w' g none := by
 have fA := Aside0.mk hI
 have HK := Aside0.mk (KeepBut.refl w g none)
 have HL := Aside0.mk hB.size
 clear hI
 have HW0 := Aside0.mk hB.size
 have HB := Aside0.mk hB
 clear hB
 have H : ((spec_l01Below.f s0_0 s0_1 s0_2 (wrap64 (a1 + 1))).bind fun dA => (spec_l07Picks.l0 k (([] : List Int)) dA.1 s0_0 dA.2.1 dA.2.2)) = some (r1, r2, r3) := h
 clear h
 obtain ⟨y226, hy226⟩ : ∃ y_ : List Int, y_ = (([] : List Int)) := ⟨_, rfl⟩
 replace H : ((spec_l01Below.f s0_0 s0_1 s0_2 (wrap64 (a1 + 1))).bind fun dA => (spec_l07Picks.l0 k y226 dA.1 s0_0 dA.2.1 dA.2.2)) = some (r1, r2, r3) := by first | (rw [hy226]; with_reducible exact H) | (have H2_ := (Option.bind_some _ _).symm.trans H; rw [hy226]; with_reducible exact H2_) | (have H2_ := (Option.bind_some _ _).symm.trans H; with_reducible exact H2_) | with_reducible exact H | (rw [hy226]; exact H) | exact H
 have Ny226 := Aside0.mk hy226
 clear hy226
 replace H := Option.bind_eq_some_iff.mp H
 obtain ⟨⟨bB, cB, dB⟩, A30, H⟩ := H
 (try dsimp only at H)
 have A3 := Aside0.mk A30
 clear A30
 have H' := Aside0.mk H
 clear H
 go_enter Try.func83, Try.ntmps83
 go_wp2_with (first | ((with_reducible refine gate_dst (N := 7) rfl ?_); refine Kd.R_lit (Kd.int .i64) _ 3 ?hg (N := 7) ?hd (xs := ([] : List Int)) (inner := []) (ok := fun _ => True) (okp := fun _ => True) ?hr ?hp (fun _ hk => hk) trivial (Below.refl _ _) (Nat.le_refl _) (by simp) ?_; (case hd => rfl); (case hg => rfl); (case hr => first | (go_simp; done) | (go_simp; rfl)); (case hp => exact (Reps.none _ _)); intro VB w4 ho5 hb hg_ hnew_; clear hg_ hnew_; (first | rw [← Ny226.out] at ho5 | (simp only [Int.reduceToNat] at ho5; rw [← Ny226.out] at ho5)); have bA := Aside0.mk (Kd.R_lower ho5 (keep_size (w := w) (g := g) (row := none) q6_2)); have cA := Aside0.mk (IsS81.below q6_1 hb); have gA := Aside0.mk (KeepBut.trans q6_2 (KeepBut.of_below hb g none) (.inl rfl)); have zA := Aside0.mk (below_step q6_0 hb); clear fA HK HB; have tA := bA; have fA := cA; have HK := gA; have HB := zA; clear bA cA gA zA; clear hb ho5) | ((with_reducible refine gate_callee (f := 82) rfl ?_); refine goesL_ (some 11) rfl rfl Try.func82 (by kernel_rfl) rfl #[.pointer (some ⟨g, 0, none⟩), .int .i64 (wrap64 (a1 + 1))] rfl q6_3 ?_; (with_reducible refine (spec_l01Below.calls g s0_0 s0_1 s0_2 (wrap64 (a1 + 1)) bB cB dB w0 _ ?side1 ?side2 A3.out).mono ?_); (case side1 => exact q6_1); (case side2 => exact q6_0); rintro e w6 ⟨rfl, hi, hb, hk⟩; refine ⟨_, rfl, ?_⟩; have bA := Aside0.mk (Kd.R_mono (Kd.R_keep (IsS81.apart (show IsS81 w0 _ g s0_0 s0_1 s0_2 from by repeat (first | (with_reducible first | exact fA.out | apply IsS81.alloc | apply IsS81.drewN | apply IsS81.drew | apply IsS81.set_1 | apply IsS81.set_2) | exact fA.out)) (by (with_reducible repeat (first | apply Kd.R_alloc | apply Kd.R_drewN | apply Kd.R_drew)); exact tA.out) (by decide)) hk (fun _ h => h.2)) (fun _ h => h.1)); have cA := Aside0.mk (KeepBut.trans q6_2 hk (.inl rfl)); have gA := Aside0.mk (hb); have zA := Aside0.mk (hi); clear tA HK HB fA; have tA := bA; have HK := cA; have HB := gA; have fA := zA; clear bA cA gA zA; (try clear hb); (try clear hb2); (try clear hk); (try clear hi)))
 go_loopg [5, 6] k (fun kq v5 v6 w' => ∃ (vA : List Int) (sA : Int) (hA : Int) (iA : Int), v6 = .int .i64 sA ∧ Aside0 (spec_l07Picks.l0 kq vA sA s0_0 hA iA = some (r1, r2, r3)) ∧ Aside0 (kq ≤ k) ∧ Aside0 (Kd.R (Kd.int .i64) 3 w' w.heap.size (fun _ => True) v5 vA) ∧ Aside0 (IsS81 w0 w' g s0_0 hA iA) ∧ Aside0 (KeepBut w w' g none) ∧ Aside0 (Below w0.heap.size w0 w'))
 case atStart => exact ⟨(y226), (bB), (cB), (dB), q6_7, H', ⟨Nat.le_refl _⟩, ⟨by (with_reducible repeat (first | apply Kd.R_alloc | apply Kd.R_drewN | apply Kd.R_drew)); exact tA.out⟩, ⟨q6_1⟩, ⟨q6_2⟩, ⟨q6_0⟩⟩
 case round =>
  clear H'
  (try clear p2); (try clear p6)
  obtain ⟨vA, sA, hA, iA, rfl, HA, HK1, uA, fA, HK, HB⟩ := hrel
  cases gk with
  | zero => exact absurd HA.out (by simp [spec_l07Picks.l0])
  | succ k1 =>
   have H := HA.out
   clear HA
   simp only [spec_l07Picks.l0] at H
   by_cases c7 : sA > 0
   ·rw [if_pos c7] at H
    have eB : decide (0 < sA) = true := decide_eq_true c7
    clear c7
    replace H := Option.bind_eq_some_iff.mp H
    obtain ⟨⟨BA, OA, PA⟩, A80, H⟩ := H
    (try dsimp only at H)
    have A8 := Aside0.mk A80
    clear A80
    by_cases c9 : vA.length < 17592186044416
    ·rw [if_pos c9] at H
     have LMc9 := Aside0.mk c9
     clear c9
     obtain ⟨y235, hy235⟩ : ∃ y_ : List Int, y_ = (vA ++ [BA]) := ⟨_, rfl⟩
     replace H : (spec_l07Picks.l0 k1 y235 (wrap64 (sA - 1)) s0_0 OA PA) = some (r1, r2, r3) := by first | (rw [hy235]; with_reducible exact H) | (have H2_ := (Option.bind_some _ _).symm.trans H; rw [hy235]; with_reducible exact H2_) | (have H2_ := (Option.bind_some _ _).symm.trans H; with_reducible exact H2_) | with_reducible exact H | (rw [hy235]; exact H) | exact H
     have Ny235 := Aside0.mk hy235
     clear hy235
     have H' := Aside0.mk H
     clear H
     go_wp2_with (first | ((with_reducible refine gate_callee (f := 82) rfl ?_); refine goesL_ (some 18) rfl rfl Try.func82 (by kernel_rfl) rfl #[.pointer (some ⟨g, 0, none⟩), .int .i64 12] rfl q6_3 ?_; (with_reducible refine (spec_l01Below.calls g s0_0 hA iA 12 BA OA PA w0 _ ?side1 ?side2 A8.out).mono ?_); (case side1 => exact q6_1); (case side2 => exact q6_0); rintro e dC ⟨rfl, hi, hb, hk⟩; refine ⟨_, rfl, ?_⟩; have bA := Aside0.mk (Kd.R_mono (Kd.R_keep (IsS81.apart (show IsS81 w0 _ g s0_0 hA iA from by repeat (first | (with_reducible first | exact fA.out | apply IsS81.alloc | apply IsS81.drewN | apply IsS81.drew | apply IsS81.set_1 | apply IsS81.set_2) | exact fA.out)) q6_9 (by decide)) hk (fun _ h => h.2)) (fun _ h => h.1)); have cA := Aside0.mk (KeepBut.trans q6_2 hk (.inl rfl)); have gA := Aside0.mk (hb); have zA := Aside0.mk (hi); clear uA HK HB fA; have uA := bA; have HK := cA; have HB := gA; have fA := zA; clear bA cA gA zA; (try clear hb); (try clear hb2); (try clear hk); (try clear hi)) | ((with_reducible refine gate_builtin (b := .append) (xs := #[.tmp 16, .tmp 19]) rfl ?_); at_builtin; refine Kd.R_append (Kd.int .i64) w.heap.size rfl (.tmp 16) (.tmp 19) 27 3 (.int .i64 0) 8 rfl Try.underlying27 info3 rfl (by decide) (by omega) u5 vA BA [.int .i64 BA] (fun _ => True) (fun _ => False) rfl rfl ?aP (fun _ hk => hk.elim) ?aF ?aO (Below.refl _ _) ?aS ?aL ?_; (case aP => exact rfl); (case aF => exact (fun _ _ => trivial)); (case aO => exact q6_9); (case aS => exact (keep_size (w := w) (g := g) (row := none) q6_2)); (case aL => have := LMc9.out; omega); intro WB eC ho hb hg hat; rw [← Ny235.out] at ho; have bA := Aside0.mk (IsS81.grown q6_1 hg (IsS81.own_ne fA.out uA.out (by decide))); have cA := Aside0.mk (below_weaken q6_0 HL.out hb); have gA := Aside0.mk (KeepBut.trans q6_2 (KeepBut.of_grown hg g) (Kd.R_base2 uA.out)); have zA := Aside0.mk (ho); clear fA HB HK uA; have fA := bA; have HB := cA; have HK := gA; have fB := zA; clear bA cA gA zA; clear ho hb hg hat))
     go_roundg k1
     case measure => have := HK1.out; omega
     case rel => exact ⟨(y235), (wrap64 (sA - 1)), (OA), (PA), q6_7, H', ⟨by have := HK1.out; omega⟩, ⟨by (with_reducible repeat (first | apply Kd.R_alloc | apply Kd.R_drewN | apply Kd.R_drew)); exact fB.out⟩, ⟨q6_1⟩, ⟨q6_2⟩, ⟨q6_0⟩⟩
    ·rw [if_neg c9] at H
     exact absurd H (by simp)
   ·rw [if_neg c7] at H
    have eB : decide (0 < sA) = false := decide_eq_false c7
    clear c7
    simp only [Option.some.injEq, Prod.mk.injEq] at H
    obtain ⟨rfl, rfl, rfl⟩ := H
    go_wp2
    go_ret
    exact ⟨_, q6_4, q6_9, q6_1, q6_0, q6_2⟩

/-! ### spec_MakePicks: function 47 -/
def spec_MakePicks.f (k : Nat) (l0 : List Int) (a1 : Int) : Option (List Int) := (spec_l01New.f k l0).bind fun qA => ((spec_l07Picks.f k qA.1 qA.2.1 (wrap64 (qA.2.2 + 222)) a1).bind fun AA => (some AA.1))
theorem spec_MakePicks.mono : ∀ a0 a1 k, LeO (spec_MakePicks.f k a0 a1) (spec_MakePicks.f (k + 1) a0 a1) := by
 intro a0 a1 k
 unfold spec_MakePicks.f
 repeat' first
   | (with_reducible exact spec_l01New.mono _ _)
   | (with_reducible exact spec_l07Picks.mono _ _ _ _ _)
   | (with_reducible exact LeO.refl _)
   | (with_reducible exact LeO.none _)
   | (with_reducible refine LeO.ite ?_ ?_)
   | (with_reducible refine LeO.bind ?_ (fun _ => ?_))
   | exact spec_l01New.mono _ _
   | exact spec_l07Picks.mono _ _ _ _ _
   | exact LeO.none _
   | refine LeO.ite ?_ ?_
   | refine LeO.bind ?_ (fun _ => ?_)
set_option maxHeartbeats 8000000 in
set_option maxRecDepth 100000 in
theorem spec_MakePicks.calls (k : Nat) (A0 : Option Addr) (c0 : Nat) (l0 : List Int) (a1 : Int) (r : List Int) (w : World) (hr0 : Kd.C (Kd.int .u8) w A0 l0.length l0) (hc0 : l0.length ≤ c0) (h : spec_MakePicks.f k l0 a1 = some r) :
  Calls Try.prog 47 #[.slice A0 l0.length c0, .int .i64 a1] w fun e w' => ∃ v0_ : Value, e = .returned (v0_) ∧ Kd.R (Kd.int .i64) 3 w' w.heap.size (fun _ => True) v0_ r ∧ Below w.heap.size w w' := by
 have HR0 := Aside0.mk hr0
 have HC0 := Aside0.mk hc0
 clear hr0 hc0
 have HB := Aside0.mk (Below.refl w.heap.size w)
 have H : ((spec_l01New.f k l0).bind fun qA => ((spec_l07Picks.f k qA.1 qA.2.1 (wrap64 (qA.2.2 + 222)) a1).bind fun AA => (some AA.1))) = some r := h
 clear h
 replace H := Option.bind_eq_some_iff.mp H
 obtain ⟨⟨gB, iB, jB⟩, A30, H⟩ := H
 (try dsimp only at H)
 have A3 := Aside0.mk A30
 clear A30
 replace H := Option.bind_eq_some_iff.mp H
 obtain ⟨⟨NB, OB, PB⟩, A40, H⟩ := H
 (try dsimp only at H)
 have A4 := Aside0.mk A40
 clear A40
 obtain rfl := Option.some.inj H
 go_enter Try.func47, Try.ntmps47
 go_wp2_with (first | ((with_reducible refine gate_callee (f := 81) rfl ?_); refine goesL_ (some 8) rfl rfl Try.func81 (by kernel_rfl) rfl #[.slice A0 l0.length c0] rfl q6_3 ?_; (with_reducible refine (spec_l01New.calls k _ _ l0 gB iB jB w _ ?side1 ?side2 ?side3 A3.out).mono ?_); (case side1 => repeat (first | (with_reducible first | exact HB.out | apply below_alloc | apply pw_below_drewN | apply below_drew1) | exact HB.out)); (case side2 => exact HR0.out); (case side3 => exact HC0.out); rintro e w5 ⟨g241, rfl, hi, hb, hb2⟩; refine ⟨_, rfl, ?_⟩; have bA := Aside0.mk (hb); have cA := Aside0.mk (hi); clear HB; have HB := bA; have rA := cA; clear bA cA; (try clear hb); (try clear hb2); (try clear hk); (try clear hi); obtain ⟨ASz6_0, cSz6_0, HGz6, hgz6, HSz6_0⟩ := rA.out; have JA := cellS81_0 HGz6; have KA := cellS81_1 HGz6; have LA := cellS81_2 HGz6; have MA := blk_frozen HGz6 1; have NA := blk_frozen HGz6 2; clear HGz6 hgz6) | ((with_reducible refine gate_callee (f := 83) rfl ?_); refine goesL_ (some 19) rfl rfl Try.func83 (by kernel_rfl) rfl #[.pointer (some ⟨g241, 0, none⟩), .int .i64 a1] rfl q6_3 ?_; (with_reducible refine (spec_l07Picks.calls k g241 gB iB (wrap64 (jB + 222)) a1 NB OB PB w _ ?side1 ?side2 A4.out).mono ?_); (case side1 => repeat (first | (with_reducible first | exact rA.out | apply IsS81.alloc | apply IsS81.drewN | apply IsS81.drew | apply IsS81.set_1 | apply IsS81.set_2) | exact rA.out)); (case side2 => exact q6_6); rintro e w7 ⟨XB, rfl, ho0, hi, hb, hk⟩; refine ⟨_, rfl, ?_⟩; have bA := Aside0.mk (Kd.R_lower ho0 (below_size q6_6)); have cA := Aside0.mk (hb); have gA := Aside0.mk (hi); clear HB rA; have kB := bA; have HB := cA; have rA := gA; clear bA cA gA; (try clear hb); (try clear hb2); (try clear hk); (try clear hi); (try clear ho0)))
 go_ret
 exact ⟨_, q6_4, by (with_reducible repeat (first | apply Kd.R_alloc | apply Kd.R_drewN | apply Kd.R_drew)); exact kB.out, q6_6⟩

/-! ### laws_sameInts: function 48 -/
def laws_sameInts.l0 : Nat → List Int → List Int → Int → Int → Option (Bool)
 | 0, _, _, _, _ => none
 | k + 1, x0, x1, x12, x13 => if x13 < x12 then (if 0 ≤ x13 then (if x13 < (x0.length : Int) then (if x13 < (x1.length : Int) then (if (rd x0 x13) = (rd x1 x13) then (laws_sameInts.l0 k x0 x1 x12 (wrap64 (x13 + 1))) else (some false)) else (none)) else (none)) else (none)) else (some true)
def laws_sameInts.f (k : Nat) (l0 : List Int) (l1 : List Int) : Option (Bool) := if (l0.length : Int) = (l1.length : Int) then (laws_sameInts.l0 k l0 l1 (l0.length : Int) 0) else (some false)
theorem laws_sameInts.mono_l : ∀ k, (∀ y0 y1 y2 y3, LeO (laws_sameInts.l0 k y0 y1 y2 y3) (laws_sameInts.l0 (k + 1) y0 y1 y2 y3))
 | 0 => fun _ _ _ _ r h => by simp [laws_sameInts.l0] at h
 | k + 1 => by
  have ih0 := laws_sameInts.mono_l k
  ·intro y0 y1 y2 y3
   unfold laws_sameInts.l0
   repeat' first
   | (with_reducible exact ih0 _ _ _ _)
   | (with_reducible exact LeO.refl _)
   | (with_reducible exact LeO.none _)
   | (with_reducible refine LeO.ite ?_ ?_)
   | (with_reducible refine LeO.bind ?_ (fun _ => ?_))
   | exact ih0 _ _ _ _
   | exact LeO.none _
   | refine LeO.ite ?_ ?_
   | refine LeO.bind ?_ (fun _ => ?_)
theorem laws_sameInts.mono : ∀ a0 a1 k, LeO (laws_sameInts.f k a0 a1) (laws_sameInts.f (k + 1) a0 a1) := by
 intro a0 a1 k
 have ih0 := laws_sameInts.mono_l k
 unfold laws_sameInts.f
 repeat' first
   | (with_reducible exact ih0 _ _ _ _)
   | (with_reducible exact LeO.refl _)
   | (with_reducible exact LeO.none _)
   | (with_reducible refine LeO.ite ?_ ?_)
   | (with_reducible refine LeO.bind ?_ (fun _ => ?_))
   | exact ih0 _ _ _ _
   | exact LeO.none _
   | refine LeO.ite ?_ ?_
   | refine LeO.bind ?_ (fun _ => ?_)
set_option maxHeartbeats 8000000 in
set_option maxRecDepth 100000 in
theorem laws_sameInts.calls (k : Nat) (A0 : Option Addr) (c0 : Nat) (l0 : List Int) (A1 : Option Addr) (c1 : Nat) (l1 : List Int) (r : Bool) (w : World) (hr0 : Kd.C (Kd.int .i64) w A0 l0.length l0) (hc0 : l0.length ≤ c0) (hr1 : Kd.C (Kd.int .i64) w A1 l1.length l1) (hc1 : l1.length ≤ c1) (h : laws_sameInts.f k l0 l1 = some r) :
  Calls Try.prog 48 #[.slice A0 l0.length c0, .slice A1 l1.length c1] w fun e w' => e = .returned (.bool r) ∧ Drawn0 w w' := by
 have HR0 := Aside0.mk hr0
 clear hr0 hc0
 have HR1 := Aside0.mk hr1
 clear hr1 hc1
 have H : (if (l0.length : Int) = (l1.length : Int) then (laws_sameInts.l0 k l0 l1 (l0.length : Int) 0) else (some false)) = some r := h
 clear h
 by_cases c3 : (l0.length : Int) = (l1.length : Int)
 ·rw [if_pos c3] at H
  have wA : ((l0.length : Int) == (l1.length : Int)) = true := beq_iff_eq.mpr c3
  have lB : ((l0.length : Int) != (l1.length : Int)) = false := bne_eq_false_iff_eq.mpr c3
  have mB : (l0.length == l1.length) = true := by first | simpa using c3 | (simp at c3 ⊢; omega)
  clear c3
  have H' := Aside0.mk H
  clear H
  go_enter Try.func48, Try.ntmps48
  go_wp2
  repeat (go_quiet (fail); try go_wp2)
  go_loopg [13] k (fun kq v13 w' => ∃ (aA : Int), v13 = .int .i64 aA ∧ Aside0 (laws_sameInts.l0 kq l0 l1 (l0.length : Int) aA = some r) ∧ Aside0 (kq ≤ k) ∧ Drawn0 w w')
  case atStart => exact ⟨(0), q6_7, H', ⟨Nat.le_refl _⟩, q6_8⟩
  case round =>
   clear H'
   (try clear c1); (try clear p2); (try clear c3); (try clear wA); (try clear lB); (try clear mB)
   obtain ⟨aA, rfl, HA, HK1, ⟨m1, rfl⟩⟩ := hrel
   cases gk with
   | zero => exact absurd HA.out (by simp [laws_sameInts.l0])
   | succ k1 =>
    have H := HA.out
    clear HA
    simp only [laws_sameInts.l0] at H
    by_cases c4 : aA < (l0.length : Int)
    ·rw [if_pos c4] at H
     have IA : decide (aA < (l0.length : Int)) = true := decide_eq_true c4
     clear c4
     by_cases c5 : 0 ≤ aA
     ·rw [if_pos c5] at H
      have YB : decide (0 ≤ aA) = true := decide_eq_true c5
      clear c5
      by_cases c6 : aA < (l0.length : Int)
      ·rw [if_pos c6] at H
       have CB : decide (aA < (l0.length : Int)) = true := decide_eq_true c6
       clear c6
       by_cases c7 : aA < (l1.length : Int)
       ·rw [if_pos c7] at H
        have eB : decide (aA < (l1.length : Int)) = true := decide_eq_true c7
        clear c7
        by_cases c8 : (rd l0 aA) = (rd l1 aA)
        ·rw [if_pos c8] at H
         have QB : ((rd l0 aA) == (rd l1 aA)) = true := beq_iff_eq.mpr c8
         have RB : ((rd l0 aA) != (rd l1 aA)) = false := bne_eq_false_iff_eq.mpr c8
         clear c8
         have H' := Aside0.mk H
         clear H
         have p247 : 0 ≤ (aA : Int) := of_decide_eq_true q6_5
         have q247 : aA < (l0.length : Int) := of_decide_eq_true q6_5
         obtain ⟨ad247, QA, CA⟩ := Kd.at_int HR0.out aA p247 q247
         cases QA
         replace p247 := eq_true p247
         replace q247 := eq_true q247
         have p248 : 0 ≤ (aA : Int) := of_decide_eq_true q6_5
         have q248 : aA < (l1.length : Int) := of_decide_eq_true q6_5
         obtain ⟨ad248, RA, DA⟩ := Kd.at_int HR1.out aA p248 q248
         cases RA
         replace p248 := eq_true p248
         replace q248 := eq_true q248
         go_wp2
         repeat (go_quiet (fail); try go_wp2)
         go_roundg k1
         case measure => have := HK1.out; omega
         case rel => exact ⟨(wrap64 (aA + 1)), q6_7, H', ⟨by have := HK1.out; omega⟩, q6_8⟩
        ·rw [if_neg c8] at H
         have QB : ((rd l0 aA) == (rd l1 aA)) = false := beq_eq_false_iff_ne.mpr c8
         have RB : ((rd l0 aA) != (rd l1 aA)) = true := bne_iff_ne.mpr c8
         obtain rfl := Option.some.inj H
         have p247 : 0 ≤ (aA : Int) := of_decide_eq_true q6_5
         have q247 : aA < (l0.length : Int) := of_decide_eq_true q6_5
         obtain ⟨ad247, QA, CA⟩ := Kd.at_int HR0.out aA p247 q247
         cases QA
         replace p247 := eq_true p247
         replace q247 := eq_true q247
         have p248 : 0 ≤ (aA : Int) := of_decide_eq_true q6_5
         have q248 : aA < (l1.length : Int) := of_decide_eq_true q6_5
         obtain ⟨ad248, RA, DA⟩ := Kd.at_int HR1.out aA p248 q248
         cases RA
         replace p248 := eq_true p248
         replace q248 := eq_true q248
         go_wp2
         repeat (go_quiet (fail); try go_wp2)
         go_ret
         exact ⟨q6_7, q6_8⟩
       ·rw [if_neg c7] at H
        exact absurd H (by simp)
      ·rw [if_neg c6] at H
       exact absurd H (by simp)
     ·rw [if_neg c5] at H
      exact absurd H (by simp)
    ·rw [if_neg c4] at H
     have IA : decide (aA < (l0.length : Int)) = false := decide_eq_false c4
     clear c4
     obtain rfl := Option.some.inj H
     go_wp2
     repeat (go_quiet (fail); try go_wp2)
     go_ret
     exact ⟨q6_7, q6_8⟩
 ·rw [if_neg c3] at H
  have wA : ((l0.length : Int) == (l1.length : Int)) = false := beq_eq_false_iff_ne.mpr c3
  have lB : ((l0.length : Int) != (l1.length : Int)) = true := bne_iff_ne.mpr c3
  have mB : (l0.length == l1.length) = false := by first | simpa using c3 | (simp at c3 ⊢; omega)
  obtain rfl := Option.some.inj H
  go_enter Try.func48, Try.ntmps48
  go_wp2
  repeat (go_quiet (fail); try go_wp2)
  go_ret
  exact ⟨q6_7, q6_8⟩

end Go.Proofs.Ytfahmmlkcmadeaa.PFnRingOne
