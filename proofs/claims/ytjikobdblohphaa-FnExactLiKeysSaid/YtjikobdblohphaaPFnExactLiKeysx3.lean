-- Written by the session's own patched copy of the printer (wip/patch_print.py).
import Derived.Test.YtjikobdblohphaaPFnExactLiKeysx0
import Derived.Test.YtjikobdblohphaaPFnExactLiKeysx1
import Derived.Test.YtjikobdblohphaaPFnExactLiKeysx2
namespace Go.Proofs.Ytjikobdblohphaa.PFnExactLiKeys
open Go.RowKit Go.Proofs.YtjikobdblohphaaW.PrintWords Go.Proofs.YtjikobdblohphaaW.PrintLast Go.Proofs.YtjikobdblohphaaW.PrintMore
attribute [local go_sem] max2_int min2_int max_two min_two max_three min_three max_four min_four   -- for this text's walks alone
set_option linter.unusedVariables false
set_option linter.unusedSimpArgs false

open Bool renaming true → T, false → F
theorem q3_0 {p : Prop} (h : p := by repeat (first | (with_reducible first | exact HB.out | apply below_alloc | apply pw_below_drewN | apply below_drew1 | refine below_set ?_ bB.out | refine below_set ?_ IB.out) | exact HB.out)) : p := h
theorem q3_1 {p : Prop} (h : p := by (try simp only [List.map_toArray, List.map_cons, List.map_nil]); first | done | rfl | (simp only [List.length_drop, List.length_take]; rfl)) : p := h
theorem q3_2 {p : Prop} (h : p := by repeat (first | (with_reducible first | exact HB.out | apply below_alloc | apply pw_below_drewN | apply below_drew1 | refine below_set ?_ bB.out) | exact HB.out)) : p := h
theorem q3_3 {p : Prop} (h : p := by (with_reducible repeat (first | refine blk_drewN ?_ _ | refine blk_drew ?_ | refine blk_alloc ?_ _)); exact aA.out) : p := h
theorem q3_4 {p : Prop} (h : p := by (with_reducible repeat (first | apply Kd.R_alloc | apply Kd.R_drewN | apply Kd.R_drew)); exact hA.out) : p := h
theorem q3_5 {p : Prop} (h : p := by (with_reducible repeat (first | refine blk_drewN ?_ _ | refine blk_drew ?_ | refine blk_alloc ?_ _)); exact cA.out) : p := h
theorem q3_6 {p : Prop} (h : p := by repeat (first | exact (Kd.C_below zB.out HB.out) | (with_reducible refine Kd.C_alloc ?_ _) | (with_reducible refine Kd.C_drewN ?_ _) | (with_reducible refine Kd.C_drew ?_))) : p := h
theorem q3_7 {p : Prop} (h : p := by repeat (first | (with_reducible first | exact HB.out | apply below_alloc | apply pw_below_drewN | apply below_drew1) | exact HB.out)) : p := h
theorem q3_8 {p : Prop} (h : p := by (with_reducible repeat (first | apply Kd.R_alloc | apply Kd.R_drewN | apply Kd.R_drew)); exact eA.out) : p := h
theorem q3_9 {p : Prop} (h : p := by (with_reducible repeat (first | apply Kd.R_alloc | apply Kd.R_drewN | apply Kd.R_drew)); exact (Kd.R_mono (Kd.R_far (p := ⟨rA, 0, none⟩) (Kd.R_types fA.out cA.out (by decide)) (fun _ hk => hk.2) (.slice qA gA.length oA)) (fun _ h_ => h_.1))) : p := h
theorem q3_10 {p : Prop} (h : p := by (with_reducible repeat (first | apply Kd.R_alloc | apply Kd.R_drewN | apply Kd.R_drew)); exact fA.out) : p := h
theorem q3_11 {p : Prop} (h : p := by (with_reducible repeat (first | apply Kd.R_alloc | apply Kd.R_drewN | apply Kd.R_drew)); exact iA.out) : p := h
theorem q3_12 {p : Prop} (h : p := by (with_reducible repeat (first | apply Kd.R_alloc | apply Kd.R_drewN | apply Kd.R_drew)); exact mA.out) : p := h
theorem q3_13 {p : Prop} (h : p := by (with_reducible repeat (first | apply Kd.R_alloc | apply Kd.R_drewN | apply Kd.R_drew)); exact LA.out) : p := h
theorem q3_14 {p : Prop} (h : p := by (with_reducible repeat (first | apply Kd.R_alloc | apply Kd.R_drewN | apply Kd.R_drew)); exact xA.out) : p := h
theorem q3_15 {p : Prop} (h : p := by first | rfl | (simp; done) | (simp [*]; done)) : p := h
theorem q3_16 {p : Prop} (h : p := by (with_reducible repeat (first | apply Kd.R_alloc | apply Kd.R_drewN | apply Kd.R_drew)); exact (Kd.R_mono (Kd.R_far (p := ⟨rA, 0, none⟩) (Kd.R_types hA.out cA.out (by decide)) (fun _ hk => hk.2) (.slice qA gA.length oA)) (fun _ h_ => h_.1))) : p := h
theorem q3_17 {p : Prop} (h : p := by (with_reducible repeat (first | apply Kd.R_alloc | apply Kd.R_drewN | apply Kd.R_drew)); exact (Kd.R_mono (Kd.R_far (p := ⟨rA, 0, none⟩) (Kd.R_types eA.out cA.out (by decide)) (fun _ hk => hk.2) (.slice qA gA.length oA)) (fun _ h_ => h_.1))) : p := h
theorem q3_18 {p : Prop} (h : p := by (try simp only [List.map_toArray, List.map_cons, List.map_nil]); first | done | (rw [show XA.length = jA.length from (Kd.R_reads' xA.out).1.symm] <;> rfl) | rfl | (simp only [List.length_drop, List.length_take]; rfl)) : p := h
theorem q3_19 {p : Prop} (h : p := by kernel_rfl) : p := h
/-! ### laws_heldIntS: function 31 -/
def laws_heldIntS.l0 : Nat → List Int → Int → Int → Option (Int)
 | 0, _, _, _ => none
 | k + 1, x0, x1, x5 => if x5 < (x0.length : Int) then (if 0 ≤ x5 then (if (rd x0 x5) = x1 then (laws_heldIntS.l0 k x0 (wrap64 (x1 + 1)) (wrap64 (x5 + 1))) else (some (-1))) else (none)) else (some x1)
def laws_heldIntS.f (k : Nat) (l0 : List Int) (a1 : Int) : Option (Int) := laws_heldIntS.l0 k l0 a1 0
theorem laws_heldIntS.mono_l : ∀ k, (∀ y0 y1 y2, LeO (laws_heldIntS.l0 k y0 y1 y2) (laws_heldIntS.l0 (k + 1) y0 y1 y2))
 | 0 => fun _ _ _ r h => by simp [laws_heldIntS.l0] at h
 | k + 1 => by
  have ih0 := laws_heldIntS.mono_l k
  ·intro y0 y1 y2
   unfold laws_heldIntS.l0
   repeat' first
   | (with_reducible exact ih0 _ _ _)
   | (with_reducible exact LeO.refl _)
   | (with_reducible exact LeO.none _)
   | (with_reducible refine LeO.ite ?_ ?_)
   | (with_reducible refine LeO.bind ?_ (fun _ => ?_))
   | exact ih0 _ _ _
   | exact LeO.none _
   | refine LeO.ite ?_ ?_
   | refine LeO.bind ?_ (fun _ => ?_)
theorem laws_heldIntS.mono : ∀ a0 a1 k, LeO (laws_heldIntS.f k a0 a1) (laws_heldIntS.f (k + 1) a0 a1) := by
 intro a0 a1 k
 have ih0 := laws_heldIntS.mono_l k
 unfold laws_heldIntS.f
 repeat' first
   | (with_reducible exact ih0 _ _ _)
   | (with_reducible exact LeO.refl _)
   | (with_reducible exact LeO.none _)
   | (with_reducible refine LeO.ite ?_ ?_)
   | (with_reducible refine LeO.bind ?_ (fun _ => ?_))
   | exact ih0 _ _ _
   | exact LeO.none _
   | refine LeO.ite ?_ ?_
   | refine LeO.bind ?_ (fun _ => ?_)
set_option maxHeartbeats 8000000 in
set_option maxRecDepth 100000 in
theorem laws_heldIntS.calls (k : Nat) (A0 : Option Addr) (c0 : Nat) (l0 : List Int) (a1 : Int) (r : Int) (w : World) (hr0 : Kd.C (Kd.int .i64) w A0 l0.length l0) (hc0 : l0.length ≤ c0) (h : laws_heldIntS.f k l0 a1 = some r) :
  Calls Try.prog 31 #[.slice A0 l0.length c0, .int .i64 a1] w fun e w' => e = .returned (.int .i64 r) ∧ Drawn0 w w' := by
 have HR0 := Aside0.mk hr0
 clear hr0 hc0
 have H : (laws_heldIntS.l0 k l0 a1 0) = some r := h
 clear h
 have H' := Aside0.mk H
 clear H
 go_enter Try.func31, Try.ntmps31
 go_wp2
 go_loopg [1, 5] k (fun kq v1 v5 w' => ∃ (SA : Int) (vA : Int), v1 = .int .i64 SA ∧ v5 = .int .i64 vA ∧ Aside0 (laws_heldIntS.l0 kq l0 SA vA = some r) ∧ Aside0 (kq ≤ k) ∧ Drawn0 w w')
 case atStart => exact ⟨(a1), (0), q3_15, q3_15, H', ⟨Nat.le_refl _⟩, by repeat (first | exact Drawn0.refl _ | apply Drawn0.step)⟩
 case round =>
  clear H'
  try clear p2
  obtain ⟨SA, vA, rfl, rfl, HA, HK1, ⟨m1, rfl⟩⟩ := hrel
  cases gk with
  | zero => exact absurd HA.out (by simp [laws_heldIntS.l0])
  | succ k1 =>
   have H := HA.out
   clear HA
   simp only [laws_heldIntS.l0] at H
   by_cases c3 : vA < (l0.length : Int)
   ·rw [if_pos c3] at H
    have TB : decide (vA < (l0.length : Int)) = true := decide_eq_true c3
    clear c3
    by_cases c4 : 0 ≤ vA
    ·rw [if_pos c4] at H
     have CB : decide (0 ≤ vA) = true := decide_eq_true c4
     clear c4
     by_cases c5 : (rd l0 vA) = SA
     ·rw [if_pos c5] at H
      have UB : ((rd l0 vA) == SA) = true := beq_iff_eq.mpr c5
      have VB : ((rd l0 vA) != SA) = false := bne_eq_false_iff_eq.mpr c5
      clear c5
      have H' := Aside0.mk H
      clear H
      have p147 : 0 ≤ (vA : Int) := of_decide_eq_true (by first | (with_reducible assumption) | assumption)
      have q147 : vA < (l0.length : Int) := of_decide_eq_true (by first | (with_reducible assumption) | assumption)
      obtain ⟨ad147, DB, kB⟩ := Kd.at_int HR0.out vA p147 q147
      cases DB
      replace p147 := eq_true p147
      replace q147 := eq_true q147
      go_wp2
      go_roundg k1
      case measure => have := HK1.out; omega
      case rel => exact ⟨(wrap64 (SA + 1)), (wrap64 (vA + 1)), q3_15, q3_15, H', ⟨by have := HK1.out; omega⟩, by repeat (first | exact Drawn0.refl _ | apply Drawn0.step)⟩
     ·rw [if_neg c5] at H
      have UB : ((rd l0 vA) == SA) = false := beq_eq_false_iff_ne.mpr c5
      have VB : ((rd l0 vA) != SA) = true := bne_iff_ne.mpr c5
      obtain rfl := Option.some.inj H
      have p147 : 0 ≤ (vA : Int) := of_decide_eq_true (by first | (with_reducible assumption) | assumption)
      have q147 : vA < (l0.length : Int) := of_decide_eq_true (by first | (with_reducible assumption) | assumption)
      obtain ⟨ad147, DB, kB⟩ := Kd.at_int HR0.out vA p147 q147
      cases DB
      replace p147 := eq_true p147
      replace q147 := eq_true q147
      go_wp2
      go_ret
      exact ⟨q3_15, by repeat (first | exact Drawn0.refl _ | apply Drawn0.step)⟩
    ·rw [if_neg c4] at H
     exact absurd H (by simp)
   ·rw [if_neg c3] at H
    have TB : decide (vA < (l0.length : Int)) = false := decide_eq_false c3
    clear c3
    obtain rfl := Option.some.inj H
    go_wp2
    go_ret
    exact ⟨q3_15, by repeat (first | exact Drawn0.refl _ | apply Drawn0.step)⟩

/-! ### laws_FnExactLiKeys: function 7 -/
def laws_FnExactLiKeys.j0 : Nat → Int → List Int → List Int → Bool → List Int → Option (Bool)
 | 0, _, _, _, _, _ => none
 | k + 1, x0, x6, x8, x46, lB => if x46 = true then (some false) else ((laws_markIntS.f k x8 1).bind fun YA => ((laws_heldIntS.f k YA.2 1).bind fun JA => (if JA < 0 then (some false) else (if JA = YA.1 then ((laws_toMem.f k lB).bind fun cB => ((impl_LiKeys.f x0 cB).bind fun dB => ((laws_eqIntS.f k dB x6).bind fun EB => (if EB = true then ((laws_heldIntS.f k YA.2 1).bind fun KA => (if KA < 0 then (some false) else (if KA = YA.1 then (some true) else (some false)))) else (some false))))) else (some false)))))
def laws_FnExactLiKeys.f (k : Nat) (a0 : Int) (bA : List Int) : Option (Bool) := (laws_szMem.f bA 1048576).bind fun TA => (if TA < 0 then (some true) else ((laws_toMem.f k bA).bind fun AA => ((spec_LiKeys.f k a0 AA).bind fun pA => ((laws_toMem.f k bA).bind fun gA => ((impl_LiKeys.f a0 gA).bind fun jA => ((laws_eqIntS.f k jA pA).bind fun eB => (if eB = true then ((laws_toMem.f k bA).bind fun OA => ((laws_eqMem.f k gA OA).bind fun fB => (if fB = true then ((laws_markMem.f k gA 1).bind fun gB => (if gB.1 < 0 then (laws_FnExactLiKeys.j0 k a0 pA jA true bA) else ((laws_eqIntS.f k jA pA).bind fun aB => (laws_FnExactLiKeys.j0 k a0 pA jA (!aB) bA)))) else (some false)))) else (some false))))))))
theorem laws_FnExactLiKeys.mono_l : ∀ k, (∀ y0 y1 y2 y3 y4, LeO (laws_FnExactLiKeys.j0 k y0 y1 y2 y3 y4) (laws_FnExactLiKeys.j0 (k + 1) y0 y1 y2 y3 y4))
 | 0 => fun _ _ _ _ _ r h => by simp [laws_FnExactLiKeys.j0] at h
 | k + 1 => by
  have ih0 := laws_FnExactLiKeys.mono_l k
  ·intro y0 y1 y2 y3 y4
   unfold laws_FnExactLiKeys.j0
   repeat' first
   | (with_reducible exact ih0 _ _ _ _ _)
   | (with_reducible exact laws_eqIntS.mono _ _ _)
   | (with_reducible exact laws_eqMem.mono _ _ _)
   | (with_reducible exact laws_heldIntS.mono _ _ _)
   | (with_reducible exact laws_markIntS.mono _ _ _)
   | (with_reducible exact laws_markMem.mono _ _ _)
   | (with_reducible exact laws_toMem.mono _ _)
   | (with_reducible exact spec_LiKeys.mono _ _ _)
   | (with_reducible exact LeO.refl _)
   | (with_reducible exact LeO.none _)
   | (with_reducible refine LeO.ite ?_ ?_)
   | (with_reducible refine LeO.bind ?_ (fun _ => ?_))
   | exact ih0 _ _ _ _ _
   | exact laws_eqIntS.mono _ _ _
   | exact laws_eqMem.mono _ _ _
   | exact laws_heldIntS.mono _ _ _
   | exact laws_markIntS.mono _ _ _
   | exact laws_markMem.mono _ _ _
   | exact laws_toMem.mono _ _
   | exact spec_LiKeys.mono _ _ _
   | exact LeO.none _
   | refine LeO.ite ?_ ?_
   | refine LeO.bind ?_ (fun _ => ?_)
theorem laws_FnExactLiKeys.mono : ∀ a0 a1 k, LeO (laws_FnExactLiKeys.f k a0 a1) (laws_FnExactLiKeys.f (k + 1) a0 a1) := by
 intro a0 a1 k
 have ih0 := laws_FnExactLiKeys.mono_l k
 unfold laws_FnExactLiKeys.f
 repeat' first
   | (with_reducible exact ih0 _ _ _ _ _)
   | (with_reducible exact laws_eqIntS.mono _ _ _)
   | (with_reducible exact laws_eqMem.mono _ _ _)
   | (with_reducible exact laws_heldIntS.mono _ _ _)
   | (with_reducible exact laws_markIntS.mono _ _ _)
   | (with_reducible exact laws_markMem.mono _ _ _)
   | (with_reducible exact laws_toMem.mono _ _)
   | (with_reducible exact spec_LiKeys.mono _ _ _)
   | (with_reducible exact LeO.refl _)
   | (with_reducible exact LeO.none _)
   | (with_reducible refine LeO.ite ?_ ?_)
   | (with_reducible refine LeO.bind ?_ (fun _ => ?_))
   | exact ih0 _ _ _ _ _
   | exact laws_eqIntS.mono _ _ _
   | exact laws_eqMem.mono _ _ _
   | exact laws_heldIntS.mono _ _ _
   | exact laws_markIntS.mono _ _ _
   | exact laws_markMem.mono _ _ _
   | exact laws_toMem.mono _ _
   | exact spec_LiKeys.mono _ _ _
   | exact LeO.none _
   | refine LeO.ite ?_ ?_
   | refine LeO.bind ?_ (fun _ => ?_)
set_option maxHeartbeats 8000000 in
set_option maxRecDepth 100000 in
theorem laws_FnExactLiKeys.calls (k : Nat) (a0 : Int) (kA : Option Addr) (lA : Nat) (bA : List Int) (r_ : Bool) (w : World) (AB : Kd.C (Kd.int .i64) w kA bA.length bA) (BB : bA.length ≤ lA) (h : laws_FnExactLiKeys.f k a0 bA = some true) :
  Calls Try.prog 7 #[.int .i64 a0, .agg #[.slice kA bA.length lA]] w fun e w' => e = .returned (.bool true) ∧ Below w.heap.size w w' := by
 have hu43 := Try.underlying43
 have hu29 := Try.underlying29
 have zB := Aside0.mk AB
 have PA := Aside0.mk BB
 clear AB BB
 have HB := Aside0.mk (Below.refl w.heap.size w)
 have H : ((laws_szMem.f bA 1048576).bind fun TA => (if TA < 0 then (some true) else ((laws_toMem.f k bA).bind fun AA => ((spec_LiKeys.f k a0 AA).bind fun pA => ((laws_toMem.f k bA).bind fun gA => ((impl_LiKeys.f a0 gA).bind fun jA => ((laws_eqIntS.f k jA pA).bind fun eB => (if eB = true then ((laws_toMem.f k bA).bind fun OA => ((laws_eqMem.f k gA OA).bind fun fB => (if fB = true then ((laws_markMem.f k gA 1).bind fun gB => (if gB.1 < 0 then (laws_FnExactLiKeys.j0 k a0 pA jA true bA) else ((laws_eqIntS.f k jA pA).bind fun aB => (laws_FnExactLiKeys.j0 k a0 pA jA (!aB) bA)))) else (some false)))) else (some false))))))))) = some true := h
 clear h
 replace H := Option.bind_eq_some_iff.mp H
 obtain ⟨TA, A30, H⟩ := H
 (try dsimp only at H)
 have A3 := Aside0.mk A30
 clear A30
 by_cases c4 : TA < 0
 ·rw [if_pos c4] at H
  have CB : decide (TA < 0) = true := decide_eq_true c4
  clear c4 H
  (try clear H)
  go_enter Try.func7, Try.ntmps7
  go_wp2_with (first | ((with_reducible refine gate_dst (N := 3) rfl ?_); refine box_event ?hg (N := 3) ?hd (cs := #[.slice kA bA.length lA]) (t := 43) ?hr ?_; (case hd => rfl); (case hg => rfl); (case hr => first | (go_simp; done) | (go_simp; rfl)); intro dA hg w5 hbox hb; have sA := Aside0.mk (below_step q3_7 hb); have tA := Aside0.mk (hbox); have uA := Aside0.mk ((by rw [hg]; exact (below_size q3_7) : w.heap.size ≤ dA)); have wA := Aside0.mk ((by rw [hg]; exact (below_size q3_7) : w.heap.size ≤ dA)); clear HB; have HB := sA; have aA := tA; have JB := uA; have bB := wA; clear sA tA uA wA; clear hb hbox hg; have FB : w5.cell? ⟨dA, 0, none⟩ = some (.slice kA bA.length lA) := (blk_cell aA.out 0).trans rfl; have GB := blk_frozen aA.out 0) | ((with_reducible refine gate_callee (f := 23) rfl ?_); refine goesL_ (some 15) rfl rfl Try.func23 q3_19 rfl #[.agg #[.slice kA bA.length lA], .int .i64 1048576] rfl q3_1 ?_; (with_reducible refine (laws_szMem.calls _ _ bA 1048576 TA _ ?side1 ?side2 A3.out).mono ?_); (case side1 => exact q3_6); (case side2 => exact PA.out); rintro e w7 ⟨rfl, hb⟩; refine ⟨_, rfl, ?_⟩; have sA := Aside0.mk (blk_below (g := dA) (o := .cells #[.slice kA bA.length lA] 43 (0, 0)) q3_3 hb); have tA := Aside0.mk (below_step q3_2 hb); clear aA HB; have aA := sA; have HB := tA; clear sA tA; (try clear hb); (try clear hb2); (try clear hk); (try clear hi)))
  go_ret
  exact ⟨by first | rfl | (simp [errW_none, errW_some] <;> rfl) | (simp [*, errW_none, errW_some] <;> rfl), q3_2⟩
 ·rw [if_neg c4] at H
  have CB : decide (TA < 0) = false := decide_eq_false c4
  clear c4
  replace H := Option.bind_eq_some_iff.mp H
  obtain ⟨AA, A80, H⟩ := H
  (try dsimp only at H)
  have A8 := Aside0.mk A80
  clear A80
  replace H := Option.bind_eq_some_iff.mp H
  obtain ⟨pA, A90, H⟩ := H
  (try dsimp only at H)
  have A9 := Aside0.mk A90
  clear A90
  replace H := Option.bind_eq_some_iff.mp H
  obtain ⟨gA, A100, H⟩ := H
  (try dsimp only at H)
  have A10 := Aside0.mk A100
  clear A100
  replace H := Option.bind_eq_some_iff.mp H
  obtain ⟨jA, A110, H⟩ := H
  (try dsimp only at H)
  have A11 := Aside0.mk A110
  clear A110
  replace H := Option.bind_eq_some_iff.mp H
  obtain ⟨eB, A120, H⟩ := H
  (try dsimp only at H)
  have A12 := Aside0.mk A120
  clear A120
  by_cases c13 : eB = true
  ·subst c13
   rw [if_pos rfl] at H
   replace H := Option.bind_eq_some_iff.mp H
   obtain ⟨OA, A140, H⟩ := H
   (try dsimp only at H)
   have A14 := Aside0.mk A140
   clear A140
   replace H := Option.bind_eq_some_iff.mp H
   obtain ⟨fB, A150, H⟩ := H
   (try dsimp only at H)
   have A15 := Aside0.mk A150
   clear A150
   by_cases c16 : fB = true
   ·subst c16
    rw [if_pos rfl] at H
    replace H := Option.bind_eq_some_iff.mp H
    obtain ⟨⟨mB, hB⟩, A170, H⟩ := H
    (try dsimp only at H)
    have A17 := Aside0.mk A170
    clear A170
    have HC18 := Aside0.mk H
    clear H
    go_enter Try.func7, Try.ntmps7
    try go_wp2_with (first | ((with_reducible refine gate_dst (N := 3) rfl ?_); refine box_event ?hg (N := 3) ?hd (cs := #[.slice kA bA.length lA]) (t := 43) ?hr ?_; (case hd => rfl); (case hg => rfl); (case hr => first | (go_simp; done) | (go_simp; rfl)); intro dA hg oC hbox hb; have sA := Aside0.mk (below_step q3_7 hb); have tA := Aside0.mk (hbox); have uA := Aside0.mk ((by rw [hg]; exact (below_size q3_7) : w.heap.size ≤ dA)); have wA := Aside0.mk ((by rw [hg]; exact (below_size q3_7) : w.heap.size ≤ dA)); clear HB; have HB := sA; have aA := tA; have JB := uA; have bB := wA; clear sA tA uA wA; clear hb hbox hg; have nB : oC.cell? ⟨dA, 0, none⟩ = some (.slice kA bA.length lA) := (blk_cell aA.out 0).trans rfl; have oB := blk_frozen aA.out 0) | ((with_reducible refine gate_callee (f := 23) rfl ?_); refine goesL_ (some 15) rfl rfl Try.func23 q3_19 rfl #[.agg #[.slice kA bA.length lA], .int .i64 1048576] rfl q3_1 ?_; (with_reducible refine (laws_szMem.calls _ _ bA 1048576 TA _ ?side1 ?side2 A3.out).mono ?_); (case side1 => exact q3_6); (case side2 => exact PA.out); rintro e pC ⟨rfl, hb⟩; refine ⟨_, rfl, ?_⟩; have sA := Aside0.mk (blk_below (g := dA) (o := .cells #[.slice kA bA.length lA] 43 (0, 0)) q3_3 hb); have tA := Aside0.mk (below_step q3_2 hb); clear aA HB; have aA := sA; have HB := tA; clear sA tA; (try clear hb); (try clear hb2); (try clear hk); (try clear hi); have pB : pC.cell? ⟨dA, 0, none⟩ = some (.slice kA bA.length lA) := (blk_cell aA.out 0).trans rfl; have qB := blk_frozen aA.out 0) | ((with_reducible refine gate_callee (f := 25) rfl ?_); refine goesL_ (some 20) rfl rfl Try.func25 q3_19 rfl #[.agg #[.slice kA bA.length lA]] rfl q3_1 ?_; (with_reducible refine (laws_toMem.calls k _ _ bA AA _ ?side1 ?side2 A8.out).mono ?_); (case side1 => exact q3_6); (case side2 => exact PA.out); rintro e AC ⟨qC, rfl, ho0, hb⟩; refine ⟨_, rfl, ?_⟩; have sA := Aside0.mk (Kd.R_lower ho0 (below_size q3_2)); have tA := Aside0.mk (blk_below (g := dA) (o := .cells #[.slice kA bA.length lA] 43 (0, 0)) q3_3 hb); have uA := Aside0.mk (below_step q3_2 hb); clear aA HB; have hA := sA; have aA := tA; have HB := uA; clear sA tA uA; (try clear hb); (try clear hb2); (try clear hk); (try clear hi); (try clear ho0); obtain ⟨UA, VA, WB⟩ := Kd.R_slice hA.out; subst WB) | ((with_reducible refine gate_callee (f := 27) rfl ?_); refine goesL_ (some 21) rfl rfl Try.func27 q3_19 rfl #[.int .i64 a0, .agg #[.slice UA AA.length VA]] rfl q3_1 ?_; (with_reducible refine (spec_LiKeys.calls k a0 _ _ AA pA _ ?side1 ?side2 A9.out).mono ?_); (case side1 => repeat (first | exact (Kd.R_reads' hA.out).2.2 | (with_reducible refine Kd.C_alloc ?_ _) | (with_reducible refine Kd.C_drewN ?_ _) | (with_reducible refine Kd.C_drew ?_))); (case side2 => exact (Kd.R_reads' hA.out).2.1); rintro e rC ⟨XB, rfl, ho0, hb⟩; refine ⟨_, rfl, ?_⟩; have sA := Aside0.mk (Kd.R_elder' q3_4 (Kd.R_base ho0) hb); have tA := Aside0.mk (Kd.R_lower (Kd.R_new' ho0 (Kd.R_lt q3_4)) (below_size q3_2)); have uA := Aside0.mk (blk_below (g := dA) (o := .cells #[.slice kA bA.length lA] 43 (0, 0)) q3_3 hb); have wA := Aside0.mk (below_step q3_2 hb); clear hA aA HB; have hA := sA; have eA := tA; have aA := uA; have HB := wA; clear sA tA uA wA; (try clear hb); (try clear hb2); (try clear hk); (try clear hi); (try clear ho0); have rB : rC.cell? ⟨dA, 0, none⟩ = some (.slice kA bA.length lA) := (blk_cell aA.out 0).trans rfl; have sB := blk_frozen aA.out 0) | ((with_reducible refine gate_callee (f := 25) rfl ?_); refine goesL_ (some 23) rfl rfl Try.func25 q3_19 rfl #[.agg #[.slice kA bA.length lA]] rfl q3_1 ?_; (with_reducible refine (laws_toMem.calls k _ _ bA gA _ ?side1 ?side2 A10.out).mono ?_); (case side1 => exact q3_6); (case side2 => exact PA.out); rintro e BC ⟨sC, rfl, ho0, hb⟩; refine ⟨_, rfl, ?_⟩; have sA := Aside0.mk (Kd.R_elder' q3_4 (Kd.R_base ho0) hb); have tA := Aside0.mk (Kd.R_elder' q3_8 (Kd.R_base ho0) hb); have uA := Aside0.mk (Kd.R_lower (Kd.R_new' (Kd.R_new' ho0 (Kd.R_lt q3_4)) (Kd.R_lt q3_8)) (below_size q3_2)); have wA := Aside0.mk (blk_below (g := dA) (o := .cells #[.slice kA bA.length lA] 43 (0, 0)) q3_3 hb); have BA := Aside0.mk (below_step q3_2 hb); clear hA eA aA HB; have hA := sA; have eA := tA; have fA := uA; have aA := wA; have HB := BA; clear sA tA uA wA BA; (try clear hb); (try clear hb2); (try clear hk); (try clear hi); (try clear ho0)) | ((with_reducible refine gate_dst (N := 7) rfl ?_); refine box_event ?hg (N := 7) ?hd (cs := #[.slice none 0 0]) (t := 29) ?hr ?_; (case hd => rfl); (case hg => rfl); (case hr => first | (go_simp; done) | (go_simp; rfl)); intro rA hg tC hbox hb; have sA := Aside0.mk (Kd.R_below q3_4 hb); have tA := Aside0.mk (Kd.R_below q3_8 hb); have uA := Aside0.mk (Kd.R_below q3_10 hb); have wA := Aside0.mk (blk_below (g := dA) (o := .cells #[.slice kA bA.length lA] 43 (0, 0)) q3_3 hb); have BA := Aside0.mk (below_step q3_2 hb); have CA := Aside0.mk (hbox); have IA := Aside0.mk ((by rw [hg]; exact (below_size q3_2) : w.heap.size ≤ rA)); have ZA := Aside0.mk ((by rw [hg]; exact (below_size q3_2) : w.heap.size ≤ rA)); have hC := Aside0.mk ((by rw [hg]; exact Nat.ne_of_lt (blk_lt (g := dA) (o := .cells #[.slice kA bA.length lA] 43 (0, 0)) q3_3) : dA ≠ rA)); have iC := Aside0.mk ((by rw [hg]; exact Nat.ne_of_gt (blk_lt (g := dA) (o := .cells #[.slice kA bA.length lA] 43 (0, 0)) q3_3) : rA ≠ dA)); clear hA eA fA aA HB; have hA := sA; have eA := tA; have fA := uA; have aA := wA; have HB := BA; have cA := CA; have jC := IA; have IB := ZA; have EA := hC; have QA := iC; clear sA tA uA wA BA CA IA ZA hC iC; clear hb hbox hg; obtain ⟨qA, oA, YB⟩ := Kd.R_slice fA.out; subst YB; have kC := QA.out; have lC := EA.out; have tB : tC.cell? ⟨rA, 0, none⟩ = some (.slice none 0 0) := (blk_cell cA.out 0).trans rfl; have uB := blk_frozen cA.out 0) | ((with_reducible refine gate_callee (f := 28) rfl ?_); refine goesL_ (some 26) rfl rfl Try.func28 q3_19 rfl #[.int .i64 a0, .agg #[.slice qA gA.length oA]] rfl q3_1 ?_; (with_reducible refine (impl_LiKeys.calls a0 _ _ gA jA _ ?side1 ?side2 A11.out).mono ?_); (case side1 => refine (Kd.R_reads' (e := 3) (base := w.heap.size) (ok := fun k_ => ((True ∧ some k_ ≠ (.slice UA AA.length VA : Value).ownBlock) ∧ some k_ ≠ (XB : Value).ownBlock)) (n := gA.length) (c := oA) ?_).2.2; exact q3_9); (case side2 => exact (Kd.R_reads' fA.out).2.1); rintro e iB ⟨uC, rfl, ho0, hb⟩; refine ⟨_, rfl, ?_⟩; have sA := Aside0.mk (Kd.R_elder' q3_16 (Kd.R_base ho0) hb); have tA := Aside0.mk (Kd.R_elder' q3_17 (Kd.R_base ho0) hb); have uA := Aside0.mk (Kd.R_elder' q3_9 (Kd.R_base ho0) hb); have wA := Aside0.mk (Kd.R_lower (Kd.R_new' (Kd.R_new' (Kd.R_new' ho0 (Kd.R_lt q3_16)) (Kd.R_lt q3_17)) (Kd.R_lt q3_9)) (below_size q3_0)); have BA := Aside0.mk (blk_below (g := dA) (o := .cells #[.slice kA bA.length lA] 43 (0, 0)) (by (with_reducible repeat (first | refine blk_drewN ?_ _ | refine blk_drew ?_ | refine blk_alloc ?_ _)); refine blk_far ?_ EA.out _; (with_reducible repeat (first | refine blk_drewN ?_ _ | refine blk_drew ?_ | refine blk_alloc ?_ _)); exact aA.out) hb); have CA := Aside0.mk (blk_below (g := rA) (o := .cells #[.slice qA gA.length oA] 29 (0, 0)) (by (with_reducible repeat (first | refine blk_drewN ?_ _ | refine blk_drew ?_ | refine blk_alloc ?_ _)); refine blk_put (cs := #[.slice none 0 0]) ?_ 0 _ rfl; (with_reducible repeat (first | refine blk_drewN ?_ _ | refine blk_drew ?_ | refine blk_alloc ?_ _)); exact cA.out) hb); have IA := Aside0.mk (below_step q3_0 hb); clear hA eA fA aA cA HB; have hA := sA; have eA := tA; have fA := uA; have mA := wA; have aA := BA; have cA := CA; have HB := IA; clear sA tA uA wA BA CA IA; (try clear hb); (try clear hb2); (try clear hk); (try clear hi); (try clear ho0); obtain ⟨yA, zA, ZB⟩ := Kd.R_slice mA.out; subst ZB; obtain ⟨FA, GA, aC⟩ := Kd.R_slice eA.out; subst aC) | ((with_reducible refine gate_callee (f := 29) rfl ?_); refine goesL_ (some 29) rfl rfl Try.func29 q3_19 rfl #[.slice yA jA.length zA, .slice FA pA.length GA] rfl q3_1 ?_; (with_reducible refine (laws_eqIntS.calls k _ _ jA _ _ pA true _ ?side1 ?side2 ?side3 ?side4 A12.out).mono ?_); (case side1 => repeat (first | exact (Kd.R_reads' mA.out).2.2 | (with_reducible refine Kd.C_alloc ?_ _) | (with_reducible refine Kd.C_drewN ?_ _) | (with_reducible refine Kd.C_drew ?_))); (case side2 => exact (Kd.R_reads' mA.out).2.1); (case side3 => repeat (first | exact (Kd.R_reads' eA.out).2.2 | (with_reducible refine Kd.C_alloc ?_ _) | (with_reducible refine Kd.C_drewN ?_ _) | (with_reducible refine Kd.C_drew ?_))); (case side4 => exact (Kd.R_reads' eA.out).2.1); rintro e w' ⟨rfl, ⟨nd, rfl⟩⟩; refine ⟨_, rfl, ?_⟩))
    (try (rw [drewN_self iB]; generalize hq_ : World.drewN iB _ = iB; have sA : Aside0 (Kd.R (Kd.int .i64) 3 iB w.heap.size (fun k_ => (((True ∧ some k_ ≠ (.slice FA pA.length GA : Value).ownBlock) ∧ some k_ ≠ (.slice qA gA.length oA : Value).ownBlock) ∧ some k_ ≠ (.slice yA jA.length zA : Value).ownBlock)) (.slice UA AA.length VA) AA) := ⟨by rw [← hq_]; exact q3_4⟩; have tA : Aside0 (Kd.R (Kd.int .i64) 3 iB w.heap.size (fun k_ => (((True ∧ some k_ ≠ (.slice UA AA.length VA : Value).ownBlock) ∧ some k_ ≠ (.slice qA gA.length oA : Value).ownBlock) ∧ some k_ ≠ (.slice yA jA.length zA : Value).ownBlock)) (.slice FA pA.length GA) pA) := ⟨by rw [← hq_]; exact q3_8⟩; have uA : Aside0 (Kd.R (Kd.int .i64) 3 iB w.heap.size (fun k_ => (((True ∧ some k_ ≠ (.slice UA AA.length VA : Value).ownBlock) ∧ some k_ ≠ (.slice FA pA.length GA : Value).ownBlock) ∧ some k_ ≠ (.slice yA jA.length zA : Value).ownBlock)) (.slice qA gA.length oA) gA) := ⟨by rw [← hq_]; exact q3_10⟩; have wA : Aside0 (Kd.R (Kd.int .i64) 3 iB w.heap.size (fun k_ => (((True ∧ some k_ ≠ (.slice UA AA.length VA : Value).ownBlock) ∧ some k_ ≠ (.slice FA pA.length GA : Value).ownBlock) ∧ some k_ ≠ (.slice qA gA.length oA : Value).ownBlock)) (.slice yA jA.length zA) jA) := ⟨by rw [← hq_]; exact q3_12⟩; have BA : Aside0 (iB.heap[dA]? = some (.cells #[.slice kA bA.length lA] 43 (0, 0))) := ⟨by rw [← hq_]; exact q3_3⟩; have CA : Aside0 (iB.heap[rA]? = some (.cells #[.slice qA gA.length oA] 29 (0, 0))) := ⟨by rw [← hq_]; exact q3_5⟩; have IA : Aside0 (Below w.heap.size w iB) := ⟨by rw [← hq_]; exact q3_0⟩; clear hA eA fA mA aA cA HB hq_; have hA := sA; have eA := tA; have fA := uA; have mA := wA; have aA := BA; have cA := CA; have HB := IA; clear sA tA uA wA BA CA IA))
    have sA := Aside0.mk (Kd.R_drew hA.out)
    have tA := Aside0.mk (Kd.R_drew eA.out)
    have uA := Aside0.mk (Kd.R_drew fA.out)
    have wA := Aside0.mk (Kd.R_drew mA.out)
    have BA := Aside0.mk (blk_drew aA.out)
    have CA := Aside0.mk (blk_drew cA.out)
    have IA := Aside0.mk (below_drew1 HB.out)
    clear hA eA fA mA aA cA HB
    have hA := sA
    have eA := tA
    have fA := uA
    have mA := wA
    have aA := BA
    have cA := CA
    have HB := IA
    clear sA tA uA wA BA CA IA
    refine start_ (n := 5) (S := fun w' => w'.cell? ⟨rA, 0, none⟩ = some (.slice qA gA.length oA) ∧ w'.cell? ⟨dA, 0, none⟩ = some (.slice kA bA.length lA)) (ds := []) #[F,F,F,F,F] q3_19 rfl rfl ⟨(blk_cell cA.out 0).trans rfl, (blk_cell aA.out 0).trans rfl⟩ (fun hHeld => ?_)
    generalize iB.drew = CC at hA eA fA mA aA cA HB hHeld ⊢
    refine take_ (i := 0) (N := some 31) (v := ?_) (a' := ?_) #[T,F,F,F,F] rfl rfl q3_19 (fun _ _ _ h => h) (Or.inl ⟨by rfl, ?_⟩) hHeld ?_ ?_
    rotate_left
    ·rintro w' ⟨s0, s1⟩
     go_simp
     with_reducible rfl
    rotate_left
    ·simp only [Act.put, List.setIfInBounds_toArray, List.set_cons_zero, List.set_cons_succ, i64_w, i32_w]
     rfl
    refine take_ (i := 1) (N := some 32) (v := ?_) (a' := ?_) #[T,T,F,F,F] rfl rfl q3_19 (fun _ _ _ h => h) (Or.inl ⟨by rfl, ?_⟩) hHeld ?_ ?_
    rotate_left
    ·rintro w' ⟨s0, s1⟩
     go_simp
     with_reducible rfl
    rotate_left
    ·simp only [Act.put, List.setIfInBounds_toArray, List.set_cons_zero, List.set_cons_succ, i64_w, i32_w]
     rfl
    refine one_ (i := 2) (N := some 33) #[T,T,T,F,F] rfl rfl q3_19 (by decide) (fun K hK => ?_)
    refine goes_ Try.func25 q3_19 rfl #[.agg #[.slice kA bA.length lA]] (by rfl) rfl rfl q3_1 ?_
    with_reducible refine (laws_toMem.calls k _ _ bA OA _ ?side1 ?side2 A14.out).mono ?_
    (case side1 => exact q3_6)
    (case side2 => exact PA.out)
    rintro e DC ⟨vC, rfl, ho0, hb⟩
    refine ⟨_, rfl, ?_⟩
    have sA := Aside0.mk (Kd.R_elder' q3_4 (Kd.R_base ho0) hb)
    have tA := Aside0.mk (Kd.R_elder' q3_8 (Kd.R_base ho0) hb)
    have uA := Aside0.mk (Kd.R_elder' q3_10 (Kd.R_base ho0) hb)
    have wA := Aside0.mk (Kd.R_elder' q3_12 (Kd.R_base ho0) hb)
    have BA := Aside0.mk (Kd.R_lower (Kd.R_new' (Kd.R_new' (Kd.R_new' (Kd.R_new' ho0 (Kd.R_lt q3_4)) (Kd.R_lt q3_8)) (Kd.R_lt q3_10)) (Kd.R_lt q3_12)) (below_size q3_0))
    have CA := Aside0.mk (blk_below (g := dA) (o := .cells #[.slice kA bA.length lA] 43 (0, 0)) q3_3 hb)
    have IA := Aside0.mk (blk_below (g := rA) (o := .cells #[.slice qA gA.length oA] 29 (0, 0)) q3_5 hb)
    have ZA := Aside0.mk (below_step q3_0 hb)
    clear hA eA fA mA aA cA HB
    have hA := sA
    have eA := tA
    have fA := uA
    have mA := wA
    have DA := BA
    have aA := CA
    have cA := IA
    have HB := ZA
    clear sA tA uA wA BA CA IA ZA
    (try clear hb)
    (try clear hb2)
    (try clear hk)
    (try clear hi)
    (try clear ho0)
    obtain ⟨vB, wB, KB⟩ := Kd.R_slice DA.out
    (first | subst KB | (injection KB with f1_ f2_ f3_; have f4_ := f1_.symm; have f5_ := f3_.symm; clear f1_ f2_ f3_; subst f4_; subst f5_))
    refine hK.out _ _ ⟨(blk_cell cA.out 0).trans rfl, (blk_cell aA.out 0).trans rfl⟩ (fun hHeld => ?_)
    clear hK K
    refine norm_ (a' := ?_) ?_ ?_
    rotate_left
    ·show Act.put _ (some 33) _ = _
     simp only [Act.put, List.setIfInBounds_toArray, List.set_cons_zero, List.set_cons_succ, i64_w, i32_w]
     rfl
    refine one_ (i := 3) (N := some 34) #[T,T,T,T,F] rfl rfl q3_19 (by decide) (fun K hK => ?_)
    refine goes_ Try.func16 q3_19 rfl #[.agg #[.slice qA gA.length oA], .agg #[.slice vB OA.length wB]] (by rfl) rfl rfl q3_1 ?_
    with_reducible refine (laws_eqMem.calls k _ _ gA _ _ OA true _ ?side1 ?side2 ?side3 ?side4 A15.out).mono ?_
    (case side1 => repeat (first | exact (Kd.R_reads' fA.out).2.2 | (with_reducible refine Kd.C_alloc ?_ _) | (with_reducible refine Kd.C_drewN ?_ _) | (with_reducible refine Kd.C_drew ?_)))
    (case side2 => exact (Kd.R_reads' fA.out).2.1)
    (case side3 => repeat (first | exact (Kd.R_reads' DA.out).2.2 | (with_reducible refine Kd.C_alloc ?_ _) | (with_reducible refine Kd.C_drewN ?_ _) | (with_reducible refine Kd.C_drew ?_)))
    (case side4 => exact (Kd.R_reads' DA.out).2.1)
    rintro e wC ⟨rfl, hb⟩
    refine ⟨_, rfl, ?_⟩
    have sA := Aside0.mk (Kd.R_below q3_4 hb)
    have tA := Aside0.mk (Kd.R_below q3_8 hb)
    have uA := Aside0.mk (Kd.R_below q3_10 hb)
    have wA := Aside0.mk (Kd.R_below q3_12 hb)
    have BA := Aside0.mk (Kd.R_below (by (with_reducible repeat (first | apply Kd.R_alloc | apply Kd.R_drewN | apply Kd.R_drew)); exact DA.out) hb)
    have CA := Aside0.mk (blk_below (g := dA) (o := .cells #[.slice kA bA.length lA] 43 (0, 0)) q3_3 hb)
    have IA := Aside0.mk (blk_below (g := rA) (o := .cells #[.slice qA gA.length oA] 29 (0, 0)) q3_5 hb)
    have ZA := Aside0.mk (below_step q3_0 hb)
    clear hA eA fA mA DA aA cA HB
    have hA := sA
    have eA := tA
    have fA := uA
    have mA := wA
    have DA := BA
    have aA := CA
    have cA := IA
    have HB := ZA
    clear sA tA uA wA BA CA IA ZA
    (try clear hb)
    (try clear hb2)
    (try clear hk)
    (try clear hi)
    refine hK.out _ _ ⟨(blk_cell cA.out 0).trans rfl, (blk_cell aA.out 0).trans rfl⟩ (fun hHeld => ?_)
    clear hK K
    refine norm_ (a' := ?_) ?_ ?_
    rotate_left
    ·show Act.put _ (some 34) _ = _
     simp only [Act.put, List.setIfInBounds_toArray, List.set_cons_zero, List.set_cons_succ, i64_w, i32_w]
     rfl
    refine pure_ (i := 4) (N := some 35) (v := ?_) (a' := ?_) #[T,T,T,T,T] rfl rfl q3_19 (fun _ _ _ h => h) (Or.inl ⟨by rfl, ?_⟩) ?_ ?_
    rotate_left
    ·intro w'
     go_simp
     with_reducible rfl
    rotate_left
    ·simp only [Act.put, List.setIfInBounds_toArray, List.set_cons_zero, List.set_cons_succ, i64_w, i32_w]
     rfl
    refine done_ q3_19 ?_
    have xB : wC.cell? ⟨rA, 0, none⟩ = some (.slice qA gA.length oA) := (blk_cell cA.out 0).trans rfl
    have yB := blk_frozen cA.out 0
    go_upto_region 14 with (first | ((with_reducible refine gate_callee (f := 17) rfl ?_); refine goesL_ (some 38) rfl rfl Try.func17 q3_19 rfl #[.agg #[.slice qA gA.length oA], .int .i64 1] rfl q3_1 ?_; (with_reducible refine (laws_markMem.calls k (fun k_ => some k_ = (.slice qA gA.length oA : Value).ownBlock) (.slice qA gA.length oA) gA 1 mB hB w _ ?side1 ?side2 A17.out).mono ?_); (case side1 => exact q3_0); (case side2 => exact Kd.R_tight rfl fA.out); rintro e EC ⟨rfl, hy0, hb, hkp⟩; refine ⟨_, rfl, ?_⟩; have sA := Aside0.mk (blk_kept q3_3 hkp (fun hs_ => (fun e_ => (Kd.R_ne fA.out aA.out (by decide)) e_) hs_)); have tA := Aside0.mk (Kd.R_mono (ok' := fun k_ => some k_ ≠ (.slice FA pA.length GA : Value).ownBlock ∧ some k_ ≠ (.slice qA gA.length oA : Value).ownBlock ∧ some k_ ≠ (.slice yA jA.length zA : Value).ownBlock ∧ some k_ ≠ (.slice vB OA.length wB : Value).ownBlock) (Kd.R_keptB (hA.out) hkp (fun k_ hk_ hs_ => (hk_.1.1.2) hs_)) (fun k_ hk_ => ⟨hk_.1.1.1.1.2, hk_.1.1.1.2, hk_.1.1.2, hk_.1.2⟩)); have uA := Aside0.mk (Kd.R_mono (ok' := fun k_ => some k_ ≠ (.slice UA AA.length VA : Value).ownBlock ∧ some k_ ≠ (.slice qA gA.length oA : Value).ownBlock ∧ some k_ ≠ (.slice yA jA.length zA : Value).ownBlock ∧ some k_ ≠ (.slice vB OA.length wB : Value).ownBlock) (Kd.R_keptB (eA.out) hkp (fun k_ hk_ hs_ => (hk_.1.1.2) hs_)) (fun k_ hk_ => ⟨hk_.1.1.1.1.2, hk_.1.1.1.2, hk_.1.1.2, hk_.1.2⟩)); have wA := Aside0.mk (Kd.R_reok rfl hy0 (fun k_ e_ => fA.out.1 k_ e_)); have BA := Aside0.mk (blk_kept q3_5 hkp (fun hs_ => (fun e_ => (Kd.R_ne fA.out cA.out (by decide)) e_) hs_)); have CA := Aside0.mk (Kd.R_mono (ok' := fun k_ => some k_ ≠ (.slice UA AA.length VA : Value).ownBlock ∧ some k_ ≠ (.slice FA pA.length GA : Value).ownBlock ∧ some k_ ≠ (.slice qA gA.length oA : Value).ownBlock ∧ some k_ ≠ (.slice vB OA.length wB : Value).ownBlock) (Kd.R_keptB (mA.out) hkp (fun k_ hk_ hs_ => (hk_.1.2) hs_)) (fun k_ hk_ => ⟨hk_.1.1.1.1.2, hk_.1.1.1.2, hk_.1.1.2, hk_.1.2⟩)); have IA := Aside0.mk (Kd.R_mono (ok' := fun k_ => some k_ ≠ (.slice UA AA.length VA : Value).ownBlock ∧ some k_ ≠ (.slice FA pA.length GA : Value).ownBlock ∧ some k_ ≠ (.slice qA gA.length oA : Value).ownBlock ∧ some k_ ≠ (.slice yA jA.length zA : Value).ownBlock) (Kd.R_keptB (DA.out) hkp (fun k_ hk_ hs_ => (hk_.1.2) hs_)) (fun k_ hk_ => ⟨hk_.1.1.1.1.2, hk_.1.1.1.2, hk_.1.1.2, hk_.1.2⟩)); have ZA := Aside0.mk (hb); clear aA hA eA fA cA mA DA HB; have aA := sA; have hA := tA; have eA := uA; have fA := wA; have cA := BA; have mA := CA; have DA := IA; have HB := ZA; clear sA tA uA wA BA CA IA ZA; (try clear hb); (try clear hkp); (try clear hy0)))
    (try simp only [Act.put, List.setIfInBounds_toArray, List.set_cons_zero, List.set_cons_succ])
    go_cut [46] (fun v46 wc => ∃ (kq : Nat) (WA : Bool), v46 = .bool WA ∧ Aside0 (laws_FnExactLiKeys.j0 kq a0 pA jA WA bA = some true) ∧ Aside0 (kq ≤ k) ∧ Aside0 (Kd.R (Kd.int .i64) 3 wc w.heap.size (fun k_ => some k_ ≠ ((.slice yA jA.length zA) : Value).ownBlock ∧ some k_ ≠ ((.slice qA gA.length oA) : Value).ownBlock) (.slice FA pA.length GA) pA) ∧ Aside0 (Kd.R (Kd.int .i64) 3 wc w.heap.size (fun k_ => some k_ ≠ ((.slice FA pA.length GA) : Value).ownBlock ∧ some k_ ≠ ((.slice qA gA.length oA) : Value).ownBlock) (.slice yA jA.length zA) jA) ∧ Aside0 (Kd.R (Kd.int .i64) 3 wc w.heap.size (fun k_ => some k_ ≠ ((.slice FA pA.length GA) : Value).ownBlock ∧ some k_ ≠ ((.slice yA jA.length zA) : Value).ownBlock) (.slice qA gA.length oA) hB) ∧ Aside0 (wc.heap[dA]? = some (.cells #[(.slice kA bA.length lA)] 43 (0, 0))) ∧ Aside0 (wc.heap[rA]? = some (.cells #[(.slice qA gA.length oA)] 29 (0, 0))) ∧ Aside0 (Below w.heap.size w wc))
    case first =>
     have H := HC18.out
     clear HC18
     by_cases c41 : mB < 0
     ·rw [if_pos c41] at H
      have RA : decide (mB < 0) = true := decide_eq_true c41
      clear c41
      (first | rw [RA] | (simp only [i64_w, i32_w]; rw [RA]) | skip)
      exact absurd H (by rcases k with _ | _ <;> simp [laws_FnExactLiKeys.j0])
     ·rw [if_neg c41] at H
      have RA : decide (mB < 0) = false := decide_eq_false c41
      clear c41
      (first | rw [RA] | (simp only [i64_w, i32_w]; rw [RA]) | skip)
      replace H := Option.bind_eq_some_iff.mp H
      obtain ⟨aB, A420, H⟩ := H
      (try dsimp only at H)
      have A42 := Aside0.mk A420
      clear A420
      have H' := Aside0.mk H
      clear H
      go_wp2_with (first | (go_at_call 29; (with_reducible refine (laws_eqIntS.calls k _ _ jA _ _ pA aB _ ?side1 ?side2 ?side3 ?side4 A42.out).mono ?_); (case side1 => repeat (first | exact (Kd.R_reads' mA.out).2.2 | (with_reducible refine Kd.C_alloc ?_ _) | (with_reducible refine Kd.C_drewN ?_ _) | (with_reducible refine Kd.C_drew ?_))); (case side2 => exact (Kd.R_reads' mA.out).2.1); (case side3 => repeat (first | exact (Kd.R_reads' eA.out).2.2 | (with_reducible refine Kd.C_alloc ?_ _) | (with_reducible refine Kd.C_drewN ?_ _) | (with_reducible refine Kd.C_drew ?_))); (case side4 => exact (Kd.R_reads' eA.out).2.1); rintro e w' ⟨rfl, ⟨nd, rfl⟩⟩))
      go_meet
      case rel => exact ⟨_, (!aB), q3_15, H', ⟨by first | omega | exact Nat.le_refl _⟩, ⟨by (with_reducible repeat (first | apply Kd.R_alloc | apply Kd.R_drewN | apply Kd.R_drew)); exact Kd.R_mono eA.out (fun _ hk => ⟨hk.2.2.1, hk.2.1⟩)⟩, ⟨by (with_reducible repeat (first | apply Kd.R_alloc | apply Kd.R_drewN | apply Kd.R_drew)); exact Kd.R_mono mA.out (fun _ hk => ⟨hk.2.1, hk.2.2.1⟩)⟩, ⟨by (with_reducible repeat (first | apply Kd.R_alloc | apply Kd.R_drewN | apply Kd.R_drew)); exact Kd.R_mono fA.out (fun _ hk => ⟨hk.1.1.2, hk.1.2⟩)⟩, ⟨q3_3⟩, ⟨q3_5⟩, ⟨q3_0⟩⟩
    case rest =>
     clear HC18
     (try clear c1); (try clear c2); (try clear p2); (try clear c3); (try clear c4); (try clear CB); (try clear c7); (try clear c13); (try clear c16); (try clear c17); (try clear c23); (try clear c25); (try clear c27); (try clear c28); (try clear c29); (try clear c30); (try clear c41); (try clear RA); (try clear nB); (try clear pB); (try clear rB); (try clear tB); (try clear xB); (try clear FB); (try clear oB); (try clear qB); (try clear sB); (try clear uB); (try clear yB); (try clear GB)
     obtain ⟨kq, WA, rfl, HA, HJ17, LA, xA, iA, aA, cA, HB⟩ := hcut
     have nA := (Kd.R_reads' iA.out).1
     rw [nA] at iA
     (try simp only [nA])
     (try simp only [nA] at aA)
     (try simp only [nA] at cA)
     (try simp only [nA] at LA)
     (try simp only [nA] at xA)
     cases kq with
     | zero => exact absurd HA.out (by simp [laws_FnExactLiKeys.j0])
     | succ kj17 =>
      have H := HA.out
      clear HA
      simp only [laws_FnExactLiKeys.j0] at H
      by_cases c43 : WA = true
      ·subst c43
       rw [if_pos rfl] at H
       exact absurd H (by simp)
      ·replace c43 := Bool.eq_false_iff.mpr c43
       subst c43
       rw [if_neg (show ¬ (false = true) by decide)] at H
       replace H := Option.bind_eq_some_iff.mp H
       obtain ⟨⟨MA, XA⟩, A440, H⟩ := H
       (try dsimp only at H)
       have A44 := Aside0.mk A440
       clear A440
       replace H := Option.bind_eq_some_iff.mp H
       obtain ⟨JA, A450, H⟩ := H
       (try dsimp only at H)
       have A45 := Aside0.mk A450
       clear A450
       by_cases c46 : JA < 0
       ·rw [if_pos c46] at H
        have LB : decide (JA < 0) = true := decide_eq_true c46
        clear c46
        exact absurd H (by simp)
       ·rw [if_neg c46] at H
        have LB : decide (JA < 0) = false := decide_eq_false c46
        clear c46
        by_cases c47 : JA = MA
        ·rw [if_pos c47] at H
         have MB : (JA == MA) = true := beq_iff_eq.mpr c47
         have NB : (JA != MA) = false := bne_eq_false_iff_eq.mpr c47
         clear c47
         replace H := Option.bind_eq_some_iff.mp H
         obtain ⟨cB, A480, H⟩ := H
         (try dsimp only at H)
         have A48 := Aside0.mk A480
         clear A480
         replace H := Option.bind_eq_some_iff.mp H
         obtain ⟨dB, A490, H⟩ := H
         (try dsimp only at H)
         have A49 := Aside0.mk A490
         clear A490
         replace H := Option.bind_eq_some_iff.mp H
         obtain ⟨EB, A500, H⟩ := H
         (try dsimp only at H)
         have A50 := Aside0.mk A500
         clear A500
         by_cases c51 : EB = true
         ·subst c51
          rw [if_pos rfl] at H
          replace H := Option.bind_eq_some_iff.mp H
          obtain ⟨KA, A520, H⟩ := H
          (try dsimp only at H)
          have A52 := Aside0.mk A520
          clear A520
          by_cases c53 : KA < 0
          ·rw [if_pos c53] at H
           have OB : decide (KA < 0) = true := decide_eq_true c53
           clear c53
           exact absurd H (by simp)
          ·rw [if_neg c53] at H
           have OB : decide (KA < 0) = false := decide_eq_false c53
           clear c53
           by_cases c54 : KA = MA
           ·rw [if_pos c54] at H
            have PB : (KA == MA) = true := beq_iff_eq.mpr c54
            have QB : (KA != MA) = false := bne_eq_false_iff_eq.mpr c54
            clear c54 H
            (try clear H)
            go_wp2_with (first | ((with_reducible refine gate_callee (f := 30) rfl ?_); refine goesL_ (some 49) rfl rfl Try.func30 q3_19 rfl #[.slice yA jA.length zA, .int .i64 1] rfl q3_1 ?_; (with_reducible refine (laws_markIntS.calls kj17 (fun k_ => some k_ = (.slice yA jA.length zA : Value).ownBlock) (.slice yA jA.length zA) jA 1 MA XA w _ ?side1 ?side2 A44.out).mono ?_); (case side1 => exact q3_0); (case side2 => exact Kd.R_tight rfl xA.out); rintro e xC ⟨rfl, hy0, hb, hkp⟩; refine ⟨_, rfl, ?_⟩; have sA := Aside0.mk (Kd.R_mono (ok' := fun k_ => some k_ ≠ (.slice yA jA.length zA : Value).ownBlock ∧ some k_ ≠ (.slice qA hB.length oA : Value).ownBlock) (Kd.R_keptB (LA.out) hkp (fun k_ hk_ hs_ => (hk_.1) hs_)) (fun k_ hk_ => ⟨hk_.1.1, hk_.1.2⟩)); have tA := Aside0.mk (Kd.R_reok rfl hy0 (fun k_ e_ => xA.out.1 k_ e_)); have uA := Aside0.mk (Kd.R_mono (ok' := fun k_ => some k_ ≠ (.slice FA pA.length GA : Value).ownBlock ∧ some k_ ≠ (.slice yA jA.length zA : Value).ownBlock) (Kd.R_keptB (iA.out) hkp (fun k_ hk_ hs_ => (hk_.2) hs_)) (fun k_ hk_ => ⟨hk_.1.1, hk_.1.2⟩)); have wA := Aside0.mk (blk_kept q3_3 hkp (fun hs_ => (fun e_ => (Kd.R_ne xA.out aA.out (by decide)) e_) hs_)); have BA := Aside0.mk (blk_kept q3_5 hkp (fun hs_ => (fun e_ => (Kd.R_ne xA.out cA.out (by decide)) e_) hs_)); have CA := Aside0.mk (hb); clear LA xA iA aA cA HB; have LA := sA; have xA := tA; have iA := uA; have aA := wA; have cA := BA; have HB := CA; clear sA tA uA wA BA CA; (try clear hb); (try clear hkp); (try clear hy0)) | ((with_reducible refine gate_callee (f := 31) rfl ?_); refine goesL_ (some 52) rfl rfl Try.func31 q3_19 rfl #[.slice yA XA.length zA, .int .i64 1] rfl q3_18 ?_; (with_reducible refine (laws_heldIntS.calls kj17 _ _ XA 1 JA _ ?side1 ?side2 A45.out).mono ?_); (case side1 => repeat (first | exact (Kd.R_reads' xA.out).2.2 | (with_reducible refine Kd.C_alloc ?_ _) | (with_reducible refine Kd.C_drewN ?_ _) | (with_reducible refine Kd.C_drew ?_))); (case side2 => rw [show XA.length = jA.length from (Kd.R_reads' xA.out).1.symm]; exact (Kd.R_reads' xA.out).2.1); rintro e w' ⟨rfl, ⟨nd, rfl⟩⟩; refine ⟨_, rfl, ?_⟩; have mC := EA.out; have nC := QA.out; have RB : xC.cell? ⟨dA, 0, none⟩ = some (.slice kA bA.length lA) := (blk_cell aA.out 0).trans rfl; have SB := blk_frozen aA.out 0) | ((with_reducible refine gate_callee (f := 25) rfl ?_); refine goesL_ (some 60) rfl rfl Try.func25 q3_19 rfl #[.agg #[.slice kA bA.length lA]] rfl q3_1 ?_; (with_reducible refine (laws_toMem.calls kj17 _ _ bA cB _ ?side1 ?side2 A48.out).mono ?_); (case side1 => repeat (first | exact (Kd.C_below zB.out q3_0) | (with_reducible refine Kd.C_alloc ?_ _) | (with_reducible refine Kd.C_drewN ?_ _) | (with_reducible refine Kd.C_drew ?_))); (case side2 => exact PA.out); rintro e FC ⟨yC, rfl, ho0, hb⟩; refine ⟨_, rfl, ?_⟩; have sA := Aside0.mk (Kd.R_elder' q3_13 (Kd.R_base ho0) hb); have tA := Aside0.mk (Kd.R_elder' q3_14 (Kd.R_base ho0) hb); have uA := Aside0.mk (Kd.R_elder' q3_11 (Kd.R_base ho0) hb); have wA := Aside0.mk (Kd.R_lower (Kd.R_new' (Kd.R_new' (Kd.R_new' ho0 (Kd.R_lt q3_13)) (Kd.R_lt q3_14)) (Kd.R_lt q3_11)) (below_size q3_0)); have BA := Aside0.mk (blk_below (g := dA) (o := .cells #[.slice kA bA.length lA] 43 (0, 0)) q3_3 hb); have CA := Aside0.mk (blk_below (g := rA) (o := .cells #[.slice qA hB.length oA] 29 (0, 0)) q3_5 hb); have IA := Aside0.mk (below_step q3_0 hb); clear LA xA iA aA cA HB; have LA := sA; have xA := tA; have iA := uA; have NA := wA; have aA := BA; have cA := CA; have HB := IA; clear sA tA uA wA BA CA IA; (try clear hb); (try clear hb2); (try clear hk); (try clear hi); (try clear ho0); obtain ⟨bC, cC, dC⟩ := Kd.R_slice NA.out; subst dC) | ((with_reducible refine gate_callee (f := 28) rfl ?_); refine goesL_ (some 61) rfl rfl Try.func28 q3_19 rfl #[.int .i64 a0, .agg #[.slice bC cB.length cC]] rfl q3_1 ?_; (with_reducible refine (impl_LiKeys.calls a0 _ _ cB dB _ ?side1 ?side2 A49.out).mono ?_); (case side1 => repeat (first | exact (Kd.R_reads' NA.out).2.2 | (with_reducible refine Kd.C_alloc ?_ _) | (with_reducible refine Kd.C_drewN ?_ _) | (with_reducible refine Kd.C_drew ?_))); (case side2 => exact (Kd.R_reads' NA.out).2.1); rintro e GC ⟨zC, rfl, ho0, hb⟩; refine ⟨_, rfl, ?_⟩; have sA := Aside0.mk (Kd.R_elder' q3_13 (Kd.R_base ho0) hb); have tA := Aside0.mk (Kd.R_elder' q3_14 (Kd.R_base ho0) hb); have uA := Aside0.mk (Kd.R_elder' q3_11 (Kd.R_base ho0) hb); have wA := Aside0.mk (Kd.R_elder' (by (with_reducible repeat (first | apply Kd.R_alloc | apply Kd.R_drewN | apply Kd.R_drew)); exact NA.out) (Kd.R_base ho0) hb); have BA := Aside0.mk (Kd.R_lower (Kd.R_new' (Kd.R_new' (Kd.R_new' (Kd.R_new' ho0 (Kd.R_lt q3_13)) (Kd.R_lt q3_14)) (Kd.R_lt q3_11)) (Kd.R_lt (by (with_reducible repeat (first | apply Kd.R_alloc | apply Kd.R_drewN | apply Kd.R_drew)); exact NA.out))) (below_size q3_0)); have CA := Aside0.mk (blk_below (g := dA) (o := .cells #[.slice kA bA.length lA] 43 (0, 0)) q3_3 hb); have IA := Aside0.mk (blk_below (g := rA) (o := .cells #[.slice qA hB.length oA] 29 (0, 0)) q3_5 hb); have ZA := Aside0.mk (below_step q3_0 hb); clear LA xA iA NA aA cA HB; have LA := sA; have xA := tA; have iA := uA; have NA := wA; have jB := BA; have aA := CA; have cA := IA; have HB := ZA; clear sA tA uA wA BA CA IA ZA; (try clear hb); (try clear hb2); (try clear hk); (try clear hi); (try clear ho0); obtain ⟨eC, fC, gC⟩ := Kd.R_slice jB.out; subst gC) | ((with_reducible refine gate_callee (f := 29) rfl ?_); refine goesL_ (some 64) rfl rfl Try.func29 q3_19 rfl #[.slice eC dB.length fC, .slice FA pA.length GA] rfl q3_1 ?_; (with_reducible refine (laws_eqIntS.calls kj17 _ _ dB _ _ pA true _ ?side1 ?side2 ?side3 ?side4 A50.out).mono ?_); (case side1 => repeat (first | exact (Kd.R_reads' jB.out).2.2 | (with_reducible refine Kd.C_alloc ?_ _) | (with_reducible refine Kd.C_drewN ?_ _) | (with_reducible refine Kd.C_drew ?_))); (case side2 => exact (Kd.R_reads' jB.out).2.1); (case side3 => repeat (first | exact (Kd.R_reads' LA.out).2.2 | (with_reducible refine Kd.C_alloc ?_ _) | (with_reducible refine Kd.C_drewN ?_ _) | (with_reducible refine Kd.C_drew ?_))); (case side4 => exact (Kd.R_reads' LA.out).2.1); rintro e w' ⟨rfl, ⟨nd, rfl⟩⟩; refine ⟨_, rfl, ?_⟩) | ((with_reducible refine gate_callee (f := 31) rfl ?_); refine goesL_ (some 68) rfl rfl Try.func31 q3_19 rfl #[.slice yA XA.length zA, .int .i64 1] rfl q3_18 ?_; (with_reducible refine (laws_heldIntS.calls kj17 _ _ XA 1 KA _ ?side1 ?side2 A52.out).mono ?_); (case side1 => repeat (first | exact (Kd.R_reads' xA.out).2.2 | (with_reducible refine Kd.C_alloc ?_ _) | (with_reducible refine Kd.C_drewN ?_ _) | (with_reducible refine Kd.C_drew ?_))); (case side2 => rw [show XA.length = jA.length from (Kd.R_reads' xA.out).1.symm]; exact (Kd.R_reads' xA.out).2.1); rintro e w' ⟨rfl, ⟨nd, rfl⟩⟩; refine ⟨_, rfl, ?_⟩))
            go_ret
            exact ⟨by first | rfl | (simp [errW_none, errW_some] <;> rfl) | (simp [*, errW_none, errW_some] <;> rfl), q3_0⟩
           ·rw [if_neg c54] at H
            have PB : (KA == MA) = false := beq_eq_false_iff_ne.mpr c54
            have QB : (KA != MA) = true := bne_iff_ne.mpr c54
            exact absurd H (by simp)
         ·replace c51 := Bool.eq_false_iff.mpr c51
          subst c51
          rw [if_neg (show ¬ (false = true) by decide)] at H
          exact absurd H (by simp)
        ·rw [if_neg c47] at H
         have MB : (JA == MA) = false := beq_eq_false_iff_ne.mpr c47
         have NB : (JA != MA) = true := bne_iff_ne.mpr c47
         exact absurd H (by simp)
   ·replace c16 := Bool.eq_false_iff.mpr c16
    subst c16
    rw [if_neg (show ¬ (false = true) by decide)] at H
    exact absurd H (by simp)
  ·replace c13 := Bool.eq_false_iff.mpr c13
   subst c13
   rw [if_neg (show ¬ (false = true) by decide)] at H
   exact absurd H (by simp)

/-! What the arguments hold: each number fits, each length is one. -/
/-- THE ONE PURE STATEMENT of laws_FnExactLiKeys. -/
def laws_FnExactLiKeys.Pure : Prop := ∀ (a0 : Int) (bA : List Int), (Lit.int .i64 a0).wf = true → ((bA.length ≤ maxLen ∧ ∀ y ∈ bA, (Lit.int .i64 y).wf = true)) → ∃ k, laws_FnExactLiKeys.f k a0 bA = some true

end Go.Proofs.Ytjikobdblohphaa.PFnExactLiKeys
