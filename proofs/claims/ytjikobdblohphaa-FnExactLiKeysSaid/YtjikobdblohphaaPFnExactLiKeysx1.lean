-- Written by the session's own patched copy of the printer (wip/patch_print.py).
import Derived.Test.YtjikobdblohphaaPFnExactLiKeysx0
namespace Go.Proofs.Ytjikobdblohphaa.PFnExactLiKeys
open Go.RowKit Go.Proofs.YtjikobdblohphaaW.PrintWords Go.Proofs.YtjikobdblohphaaW.PrintLast Go.Proofs.YtjikobdblohphaaW.PrintMore
attribute [local go_sem] max2_int min2_int max_two min_two max_three min_three max_four min_four   -- for this text's walks alone
set_option linter.unusedVariables false
set_option linter.unusedSimpArgs false

theorem q1_0 {p : Prop} (h : p := by repeat (first | (with_reducible first | exact HB.out | apply below_alloc | apply pw_below_drewN | apply below_drew1) | exact HB.out)) : p := h
theorem q1_1 {p : Prop} (h : p := by first | rfl | (simp; done) | (simp [*]; done)) : p := h
theorem q1_2 {p : Prop} (h : p := by (try simp only [List.map_toArray, List.map_cons, List.map_nil]); first | done | rfl | (simp only [List.length_drop, List.length_take]; rfl)) : p := h
theorem q1_3 {p : Prop} (h : p := by repeat (first | exact Drawn0.refl _ | apply Drawn0.step)) : p := h
theorem q1_4 {p : Prop} (h : p := by first | (with_reducible assumption) | assumption) : p := h
theorem q1_5 {p : Prop} (h : p := by repeat (first | (with_reducible first | exact HB.out | apply below_alloc | apply pw_below_drewN | apply below_drew1 | refine below_set ?_ TA.out) | exact HB.out)) : p := h
theorem q1_6 {p : Prop} (h : p := by (with_reducible repeat (first | refine blk_drewN ?_ _ | refine blk_drew ?_ | refine blk_alloc ?_ _)); exact rA.out) : p := h
theorem q1_7 {p : Prop} (h : p := by repeat (first | exact (Kd.C_below aB.out HB.out) | (with_reducible refine Kd.C_alloc ?_ _) | (with_reducible refine Kd.C_drewN ?_ _) | (with_reducible refine Kd.C_drew ?_))) : p := h
theorem q1_8 {p : Prop} (h : p := by first | rfl | (simp [errW_none, errW_some] <;> rfl) | (simp [*, errW_none, errW_some] <;> rfl)) : p := h
theorem q1_9 {p : Prop} (h : p := by (with_reducible repeat (first | refine blk_drewN ?_ _ | refine blk_drew ?_ | refine blk_alloc ?_ _)); exact qA.out) : p := h
theorem q1_10 {p : Prop} (h : p := by repeat (first | (with_reducible first | exact HK.out | apply Kept.alloc | apply Kept.drewN | apply Kept.drew) | exact HK.out)) : p := h
theorem q1_11 {p : Prop} (h : p := by repeat (first | (with_reducible first | exact HB.out | apply below_alloc | apply pw_below_drewN | apply below_drew1 | refine below_set ?_ bB.out | refine below_set ?_ tB.out | refine below_set ?_ LB.out) | exact HB.out)) : p := h
theorem q1_12 {p : Prop} (h : p := by repeat (first | (with_reducible first | exact HB.out | apply below_alloc | apply pw_below_drewN | apply below_drew1 | refine below_set ?_ bB.out | refine below_set ?_ tB.out) | exact HB.out)) : p := h
theorem q1_13 {p : Prop} (h : p := by (with_reducible repeat (first | refine blk_drewN ?_ _ | refine blk_drew ?_ | refine blk_alloc ?_ _)); exact sA.out) : p := h
theorem q1_14 {p : Prop} (h : p := by repeat (first | (with_reducible first | exact HB.out | apply below_alloc | apply pw_below_drewN | apply below_drew1 | refine below_set ?_ bB.out) | exact HB.out)) : p := h
theorem q1_15 {p : Prop} (h : p := by rw [hg]; exact (below_size q1_0)) : p := h
/-! ### laws_eqIntS: function 29 -/
def laws_eqIntS.l0 : Nat → List Int → List Int → Int → Option (Bool)
 | 0, _, _, _ => none
 | k + 1, x0, x1, x5 => if x5 < (x0.length : Int) then (if 0 ≤ x5 then (if x5 < (x1.length : Int) then (if (rd x0 x5) = (rd x1 x5) then (laws_eqIntS.l0 k x0 x1 (wrap64 (x5 + 1))) else (some false)) else (none)) else (none)) else (some true)
def laws_eqIntS.f (k : Nat) (l0 : List Int) (l1 : List Int) : Option (Bool) := if (l0.length : Int) = (l1.length : Int) then (laws_eqIntS.l0 k l0 l1 0) else (some false)
theorem laws_eqIntS.mono_l : ∀ k, (∀ y0 y1 y2, LeO (laws_eqIntS.l0 k y0 y1 y2) (laws_eqIntS.l0 (k + 1) y0 y1 y2))
 | 0 => fun _ _ _ r h => by simp [laws_eqIntS.l0] at h
 | k + 1 => by
  have ih0 := laws_eqIntS.mono_l k
  ·intro y0 y1 y2
   unfold laws_eqIntS.l0
   repeat' first
   | (with_reducible exact ih0 _ _ _)
   | (with_reducible exact LeO.refl _)
   | (with_reducible exact LeO.none _)
   | (with_reducible refine LeO.ite ?_ ?_)
   | (with_reducible refine LeO.bind ?_ (fun _ => ?_))
   | exact ih0 _ _ _
   | exact LeO.none _
   | refine LeO.ite ?_ ?_
   | refine LeO.bind ?_ (fun _ => ?_)
theorem laws_eqIntS.mono : ∀ a0 a1 k, LeO (laws_eqIntS.f k a0 a1) (laws_eqIntS.f (k + 1) a0 a1) := by
 intro a0 a1 k
 have ih0 := laws_eqIntS.mono_l k
 unfold laws_eqIntS.f
 repeat' first
   | (with_reducible exact ih0 _ _ _)
   | (with_reducible exact LeO.refl _)
   | (with_reducible exact LeO.none _)
   | (with_reducible refine LeO.ite ?_ ?_)
   | (with_reducible refine LeO.bind ?_ (fun _ => ?_))
   | exact ih0 _ _ _
   | exact LeO.none _
   | refine LeO.ite ?_ ?_
   | refine LeO.bind ?_ (fun _ => ?_)
set_option maxHeartbeats 8000000 in
set_option maxRecDepth 100000 in
theorem laws_eqIntS.calls (k : Nat) (A0 : Option Addr) (c0 : Nat) (l0 : List Int) (A1 : Option Addr) (c1 : Nat) (l1 : List Int) (r : Bool) (w : World) (hr0 : Kd.C (Kd.int .i64) w A0 l0.length l0) (hc0 : l0.length ≤ c0) (hr1 : Kd.C (Kd.int .i64) w A1 l1.length l1) (hc1 : l1.length ≤ c1) (h : laws_eqIntS.f k l0 l1 = some r) :
  Calls Try.prog 29 #[.slice A0 l0.length c0, .slice A1 l1.length c1] w fun e w' => e = .returned (.bool r) ∧ Drawn0 w w' := by
 have HR0 := Aside0.mk hr0
 clear hr0 hc0
 have HR1 := Aside0.mk hr1
 clear hr1 hc1
 have H : (if (l0.length : Int) = (l1.length : Int) then (laws_eqIntS.l0 k l0 l1 0) else (some false)) = some r := h
 clear h
 by_cases c3 : (l0.length : Int) = (l1.length : Int)
 ·rw [if_pos c3] at H
  have yA : ((l0.length : Int) == (l1.length : Int)) = true := beq_iff_eq.mpr c3
  have mB : ((l0.length : Int) != (l1.length : Int)) = false := bne_eq_false_iff_eq.mpr c3
  have MB : (l0.length == l1.length) = true := by first | simpa using c3 | (simp at c3 ⊢; omega)
  clear c3
  have H' := Aside0.mk H
  clear H
  go_enter Try.func29, Try.ntmps29
  go_wp2
  repeat (go_quiet (fail); try go_wp2)
  go_loopg [5] k (fun kq v5 w' => ∃ (bA : Int), v5 = .int .i64 bA ∧ Aside0 (laws_eqIntS.l0 kq l0 l1 bA = some r) ∧ Aside0 (kq ≤ k) ∧ Drawn0 w w')
  case atStart => exact ⟨(0), q1_1, H', ⟨Nat.le_refl _⟩, q1_3⟩
  case round =>
   clear H'
   (try clear c1); (try clear c2); (try clear p2); (try clear c3); (try clear yA); (try clear mB); (try clear MB)
   obtain ⟨bA, rfl, HA, HK1, ⟨m1, rfl⟩⟩ := hrel
   cases gk with
   | zero => exact absurd HA.out (by simp [laws_eqIntS.l0])
   | succ k1 =>
    have H := HA.out
    clear HA
    simp only [laws_eqIntS.l0] at H
    by_cases c4 : bA < (l0.length : Int)
    ·rw [if_pos c4] at H
     have cB : decide (bA < (l0.length : Int)) = true := decide_eq_true c4
     clear c4
     by_cases c5 : 0 ≤ bA
     ·rw [if_pos c5] at H
      have ZB : decide (0 ≤ bA) = true := decide_eq_true c5
      clear c5
      by_cases c6 : bA < (l1.length : Int)
      ·rw [if_pos c6] at H
       have nB : decide (bA < (l1.length : Int)) = true := decide_eq_true c6
       clear c6
       by_cases c7 : (rd l0 bA) = (rd l1 bA)
       ·rw [if_pos c7] at H
        have NB : ((rd l0 bA) == (rd l1 bA)) = true := beq_iff_eq.mpr c7
        have aC : ((rd l0 bA) != (rd l1 bA)) = false := bne_eq_false_iff_eq.mpr c7
        clear c7
        have H' := Aside0.mk H
        clear H
        have p101 : 0 ≤ (bA : Int) := of_decide_eq_true q1_4
        have q101 : bA < (l0.length : Int) := of_decide_eq_true q1_4
        obtain ⟨ad101, BB, oB⟩ := Kd.at_int HR0.out bA p101 q101
        cases BB
        replace p101 := eq_true p101
        replace q101 := eq_true q101
        have p102 : 0 ≤ (bA : Int) := of_decide_eq_true q1_4
        have q102 : bA < (l1.length : Int) := of_decide_eq_true q1_4
        obtain ⟨ad102, CB, pB⟩ := Kd.at_int HR1.out bA p102 q102
        cases CB
        replace p102 := eq_true p102
        replace q102 := eq_true q102
        go_wp2
        repeat (go_quiet (fail); try go_wp2)
        go_roundg k1
        case measure => have := HK1.out; omega
        case rel => exact ⟨(wrap64 (bA + 1)), q1_1, H', ⟨by have := HK1.out; omega⟩, q1_3⟩
       ·rw [if_neg c7] at H
        have NB : ((rd l0 bA) == (rd l1 bA)) = false := beq_eq_false_iff_ne.mpr c7
        have aC : ((rd l0 bA) != (rd l1 bA)) = true := bne_iff_ne.mpr c7
        obtain rfl := Option.some.inj H
        have p101 : 0 ≤ (bA : Int) := of_decide_eq_true q1_4
        have q101 : bA < (l0.length : Int) := of_decide_eq_true q1_4
        obtain ⟨ad101, BB, oB⟩ := Kd.at_int HR0.out bA p101 q101
        cases BB
        replace p101 := eq_true p101
        replace q101 := eq_true q101
        have p102 : 0 ≤ (bA : Int) := of_decide_eq_true q1_4
        have q102 : bA < (l1.length : Int) := of_decide_eq_true q1_4
        obtain ⟨ad102, CB, pB⟩ := Kd.at_int HR1.out bA p102 q102
        cases CB
        replace p102 := eq_true p102
        replace q102 := eq_true q102
        go_wp2
        repeat (go_quiet (fail); try go_wp2)
        go_ret
        exact ⟨q1_1, q1_3⟩
      ·rw [if_neg c6] at H
       exact absurd H (by simp)
     ·rw [if_neg c5] at H
      exact absurd H (by simp)
    ·rw [if_neg c4] at H
     have cB : decide (bA < (l0.length : Int)) = false := decide_eq_false c4
     clear c4
     obtain rfl := Option.some.inj H
     go_wp2
     repeat (go_quiet (fail); try go_wp2)
     go_ret
     exact ⟨q1_1, q1_3⟩
 ·rw [if_neg c3] at H
  have yA : ((l0.length : Int) == (l1.length : Int)) = false := beq_eq_false_iff_ne.mpr c3
  have mB : ((l0.length : Int) != (l1.length : Int)) = true := bne_iff_ne.mpr c3
  have MB : (l0.length == l1.length) = false := by first | simpa using c3 | (simp at c3 ⊢; omega)
  obtain rfl := Option.some.inj H
  go_enter Try.func29, Try.ntmps29
  go_wp2
  repeat (go_quiet (fail); try go_wp2)
  go_ret
  exact ⟨q1_1, q1_3⟩

/-! ### laws_eqMem: function 16 -/
def laws_eqMem.f (k : Nat) (aA : List Int) (pA : List Int) : Option (Bool) := (laws_eqIntS.f k aA pA).bind fun dB => (if dB = true then (some true) else (some false))
theorem laws_eqMem.mono : ∀ a0 a1 k, LeO (laws_eqMem.f k a0 a1) (laws_eqMem.f (k + 1) a0 a1) := by
 intro a0 a1 k
 unfold laws_eqMem.f
 repeat' first
   | (with_reducible exact laws_eqIntS.mono _ _ _)
   | (with_reducible exact LeO.refl _)
   | (with_reducible exact LeO.none _)
   | (with_reducible refine LeO.ite ?_ ?_)
   | (with_reducible refine LeO.bind ?_ (fun _ => ?_))
   | exact laws_eqIntS.mono _ _ _
   | exact LeO.none _
   | refine LeO.ite ?_ ?_
   | refine LeO.bind ?_ (fun _ => ?_)
set_option maxHeartbeats 8000000 in
set_option maxRecDepth 100000 in
theorem laws_eqMem.calls (k : Nat) (cA : Option Addr) (dA : Nat) (aA : List Int) (JA : Option Addr) (KA : Nat) (pA : List Int) (r : Bool) (w : World) (wA : Kd.C (Kd.int .i64) w cA aA.length aA) (xA : aA.length ≤ dA) (uB : Kd.C (Kd.int .i64) w JA pA.length pA) (vB : pA.length ≤ KA) (h : laws_eqMem.f k aA pA = some r) :
  Calls Try.prog 16 #[.agg #[.slice cA aA.length dA], .agg #[.slice JA pA.length KA]] w fun e w' => e = .returned (.bool r) ∧ Below w.heap.size w w' := by
 have hu29 := Try.underlying29
 have aB := Aside0.mk wA
 have zA := Aside0.mk xA
 clear wA xA
 have wB := Aside0.mk uB
 have xB := Aside0.mk vB
 clear uB vB
 have HB := Aside0.mk (Below.refl w.heap.size w)
 have H : ((laws_eqIntS.f k aA pA).bind fun dB => (if dB = true then (some true) else (some false))) = some r := h
 clear h
 replace H := Option.bind_eq_some_iff.mp H
 obtain ⟨dB, A30, H⟩ := H
 (try dsimp only at H)
 have A3 := Aside0.mk A30
 clear A30
 by_cases c4 : dB = true
 ·subst c4
  rw [if_pos rfl] at H
  obtain rfl := Option.some.inj H
  go_enter Try.func16, Try.ntmps16
  go_wp2_with (first | ((with_reducible refine gate_dst (N := 2) rfl ?_); refine box_event ?hg (N := 2) ?hd (cs := #[.slice cA aA.length dA]) (t := 29) ?hr ?_; (case hd => rfl); (case hg => rfl); (case hr => first | (go_simp; done) | (go_simp; rfl)); intro eA hg w5 hbox hb; have hA := Aside0.mk (below_step q1_0 hb); have iA := Aside0.mk (hbox); have lA := Aside0.mk ((q1_15 : w.heap.size ≤ eA)); have mA := Aside0.mk ((q1_15 : w.heap.size ≤ eA)); clear HB; have HB := hA; have qA := iA; have OB := lA; have TA := mA; clear hA iA lA mA; clear hb hbox hg) | ((with_reducible refine gate_dst (N := 3) rfl ?_); refine box_event ?hg (N := 3) ?hd (cs := #[.slice JA pA.length KA]) (t := 29) ?hr ?_; (case hd => rfl); (case hg => rfl); (case hr => first | (go_simp; done) | (go_simp; rfl)); intro nA hg w6 hbox hb; have hA := Aside0.mk (blk_below (g := eA) (o := .cells #[.slice cA aA.length dA] 29 (0, 0)) q1_9 hb); have iA := Aside0.mk (below_step q1_5 hb); have lA := Aside0.mk (hbox); have mA := Aside0.mk ((by rw [hg]; exact (below_size q1_5) : w.heap.size ≤ nA)); have LA := Aside0.mk ((by rw [hg]; exact (below_size q1_5) : w.heap.size ≤ nA)); have UA := Aside0.mk ((by rw [hg]; exact Nat.ne_of_lt (blk_lt (g := eA) (o := .cells #[.slice cA aA.length dA] 29 (0, 0)) q1_9) : eA ≠ nA)); have eB := Aside0.mk ((by rw [hg]; exact Nat.ne_of_gt (blk_lt (g := eA) (o := .cells #[.slice cA aA.length dA] 29 (0, 0)) q1_9) : nA ≠ eA)); clear qA HB; have qA := hA; have HB := iA; have MA := lA; have PB := mA; have fB := LA; have uA := UA; have vA := eB; clear hA iA lA mA LA UA eB; clear hb hbox hg; have bC := uA.out; have cC := vA.out; have gB : w6.cell? ⟨eA, 0, none⟩ = some (.slice cA aA.length dA) := (blk_cell qA.out 0).trans rfl; have iB := blk_frozen qA.out 0; have dC : w6.cell? ⟨nA, 0, none⟩ = some (.slice JA pA.length KA) := (blk_cell MA.out 0).trans rfl; have eC := blk_frozen MA.out 0) | ((with_reducible refine gate_callee (f := 29) rfl ?_); refine goesL_ (some 9) rfl rfl Try.func29 (by kernel_rfl) rfl #[.slice cA aA.length dA, .slice JA pA.length KA] rfl q1_2 ?_; (with_reducible refine (laws_eqIntS.calls k _ _ aA _ _ pA true _ ?side1 ?side2 ?side3 ?side4 A3.out).mono ?_); (case side1 => exact q1_7); (case side2 => exact zA.out); (case side3 => repeat (first | exact (Kd.C_below wB.out HB.out) | (with_reducible refine Kd.C_alloc ?_ _) | (with_reducible refine Kd.C_drewN ?_ _) | (with_reducible refine Kd.C_drew ?_))); (case side4 => exact xB.out); rintro e w' ⟨rfl, ⟨nd, rfl⟩⟩; refine ⟨_, rfl, ?_⟩))
  go_ret
  exact ⟨q1_8, by repeat (first | (with_reducible first | exact HB.out | apply below_alloc | apply pw_below_drewN | apply below_drew1 | refine below_set ?_ TA.out | refine below_set ?_ fB.out) | exact HB.out)⟩
 ·replace c4 := Bool.eq_false_iff.mpr c4
  subst c4
  rw [if_neg (show ¬ (false = true) by decide)] at H
  obtain rfl := Option.some.inj H
  go_enter Try.func16, Try.ntmps16
  go_wp2_with (first | ((with_reducible refine gate_dst (N := 2) rfl ?_); refine box_event ?hg (N := 2) ?hd (cs := #[.slice cA aA.length dA]) (t := 29) ?hr ?_; (case hd => rfl); (case hg => rfl); (case hr => first | (go_simp; done) | (go_simp; rfl)); intro eA hg MC hbox hb; have hA := Aside0.mk (below_step q1_0 hb); have iA := Aside0.mk (hbox); have lA := Aside0.mk ((q1_15 : w.heap.size ≤ eA)); have mA := Aside0.mk ((q1_15 : w.heap.size ≤ eA)); clear HB; have HB := hA; have qA := iA; have OB := lA; have TA := mA; clear hA iA lA mA; clear hb hbox hg) | ((with_reducible refine gate_dst (N := 3) rfl ?_); refine box_event ?hg (N := 3) ?hd (cs := #[.slice JA pA.length KA]) (t := 29) ?hr ?_; (case hd => rfl); (case hg => rfl); (case hr => first | (go_simp; done) | (go_simp; rfl)); intro nA hg KB hbox hb; have hA := Aside0.mk (blk_below (g := eA) (o := .cells #[.slice cA aA.length dA] 29 (0, 0)) q1_9 hb); have iA := Aside0.mk (below_step q1_5 hb); have lA := Aside0.mk (hbox); have mA := Aside0.mk ((by rw [hg]; exact (below_size q1_5) : w.heap.size ≤ nA)); have LA := Aside0.mk ((by rw [hg]; exact (below_size q1_5) : w.heap.size ≤ nA)); have UA := Aside0.mk ((by rw [hg]; exact Nat.ne_of_lt (blk_lt (g := eA) (o := .cells #[.slice cA aA.length dA] 29 (0, 0)) q1_9) : eA ≠ nA)); have eB := Aside0.mk ((by rw [hg]; exact Nat.ne_of_gt (blk_lt (g := eA) (o := .cells #[.slice cA aA.length dA] 29 (0, 0)) q1_9) : nA ≠ eA)); clear qA HB; have qA := hA; have HB := iA; have MA := lA; have PB := mA; have fB := LA; have uA := UA; have vA := eB; clear hA iA lA mA LA UA eB; clear hb hbox hg; have mC := uA.out; have nC := vA.out; have qB : KB.cell? ⟨eA, 0, none⟩ = some (.slice cA aA.length dA) := (blk_cell qA.out 0).trans rfl; have rB := blk_frozen qA.out 0; have UB : KB.cell? ⟨nA, 0, none⟩ = some (.slice JA pA.length KA) := (blk_cell MA.out 0).trans rfl; have VB := blk_frozen MA.out 0) | ((with_reducible refine gate_callee (f := 29) rfl ?_); refine goesL_ (some 9) rfl rfl Try.func29 (by kernel_rfl) rfl #[.slice cA aA.length dA, .slice JA pA.length KA] rfl q1_2 ?_; (with_reducible refine (laws_eqIntS.calls k _ _ aA _ _ pA false _ ?side1 ?side2 ?side3 ?side4 A3.out).mono ?_); (case side1 => exact q1_7); (case side2 => exact zA.out); (case side3 => repeat (first | exact (Kd.C_below wB.out HB.out) | (with_reducible refine Kd.C_alloc ?_ _) | (with_reducible refine Kd.C_drewN ?_ _) | (with_reducible refine Kd.C_drew ?_))); (case side4 => exact xB.out); rintro e w' ⟨rfl, ⟨nd, rfl⟩⟩; refine ⟨_, rfl, ?_⟩))
  go_ret
  exact ⟨q1_8, by repeat (first | (with_reducible first | exact HB.out | apply below_alloc | apply pw_below_drewN | apply below_drew1 | refine below_set ?_ TA.out | refine below_set ?_ fB.out) | exact HB.out)⟩

/-! ### laws_markIntS: function 30 -/
def laws_markIntS.l0 : Nat → List Int → Int → Int → Option (Int × List Int)
 | 0, _, _, _ => none
 | k + 1, x0, x1, x5 => if x5 < (x0.length : Int) then (if 0 ≤ x5 then (laws_markIntS.l0 k (x0.set (x5 : Int).toNat x1) (wrap64 (x1 + 1)) (wrap64 (x5 + 1))) else (none)) else (some (x1, x0))
def laws_markIntS.f (k : Nat) (l0 : List Int) (a1 : Int) : Option (Int × List Int) := laws_markIntS.l0 k l0 a1 0
theorem laws_markIntS.mono_l : ∀ k, (∀ y0 y1 y2, LeO (laws_markIntS.l0 k y0 y1 y2) (laws_markIntS.l0 (k + 1) y0 y1 y2))
 | 0 => fun _ _ _ r h => by simp [laws_markIntS.l0] at h
 | k + 1 => by
  have ih0 := laws_markIntS.mono_l k
  ·intro y0 y1 y2
   unfold laws_markIntS.l0
   repeat' first
   | (with_reducible exact ih0 _ _ _)
   | (with_reducible exact LeO.refl _)
   | (with_reducible exact LeO.none _)
   | (with_reducible refine LeO.ite ?_ ?_)
   | (with_reducible refine LeO.bind ?_ (fun _ => ?_))
   | exact ih0 _ _ _
   | exact LeO.none _
   | refine LeO.ite ?_ ?_
   | refine LeO.bind ?_ (fun _ => ?_)
theorem laws_markIntS.mono : ∀ a0 a1 k, LeO (laws_markIntS.f k a0 a1) (laws_markIntS.f (k + 1) a0 a1) := by
 intro a0 a1 k
 have ih0 := laws_markIntS.mono_l k
 unfold laws_markIntS.f
 repeat' first
   | (with_reducible exact ih0 _ _ _)
   | (with_reducible exact LeO.refl _)
   | (with_reducible exact LeO.none _)
   | (with_reducible refine LeO.ite ?_ ?_)
   | (with_reducible refine LeO.bind ?_ (fun _ => ?_))
   | exact ih0 _ _ _
   | exact LeO.none _
   | refine LeO.ite ?_ ?_
   | refine LeO.bind ?_ (fun _ => ?_)
set_option maxHeartbeats 8000000 in
set_option maxRecDepth 100000 in
theorem laws_markIntS.calls (k : Nat) (P0_ : Nat → Prop) (u9000_ : Value) (l0 : List Int) (a1 : Int) (r1 : Int) (r2 : List Int) (w0 w : World) (hB : Below w0.heap.size w0 w) (ho0 : Kd.R (Kd.int .i64) 3 w w0.heap.size P0_ u9000_ l0) (h : laws_markIntS.f k l0 a1 = some (r1, r2)) :
  Calls Try.prog 30 #[u9000_, .int .i64 a1] w fun e w' => e = .returned (.int .i64 r1) ∧ Kd.R (Kd.int .i64) 3 w' w0.heap.size (fun k_ => (P0_ k_ ∨ w.heap.size ≤ k_)) u9000_ r2 ∧ Below w0.heap.size w0 w' ∧ Kept w w' (fun k_ => P0_ k_) := by
 have EC := Aside0.mk (show Kd.R (Kd.int .i64) 3 w w0.heap.size (fun k_ => (P0_ k_ ∨ w.heap.size ≤ k_)) u9000_ l0 from Kd.R_mono ho0 (fun k_ hk => (.inl hk)))
 have HK := Aside0.mk (Kept.refl w (fun k_ => P0_ k_))
 have HW0 := Aside0.mk hB.size
 have HB := Aside0.mk hB
 clear hB
 have H : (laws_markIntS.l0 k l0 a1 0) = some (r1, r2) := h
 clear h
 have H' := Aside0.mk H
 clear H
 go_enter Try.func30, Try.ntmps30
 go_wp2
 go_loopg [1, 5] k (fun kq v1 v5 w' => ∃ (GA : List Int) (NA : Int) (bA : Int), v1 = .int .i64 NA ∧ v5 = .int .i64 bA ∧ Aside0 (laws_markIntS.l0 kq GA NA bA = some (r1, r2)) ∧ Aside0 (kq ≤ k) ∧ Aside0 (Kd.R (Kd.int .i64) 3 w' w0.heap.size (fun k_ => (P0_ k_ ∨ w.heap.size ≤ k_)) u9000_ GA) ∧ Aside0 (Kept w w' (fun k_ => P0_ k_)) ∧ Aside0 (Below w0.heap.size w0 w'))
 case atStart => exact ⟨(l0), (a1), (0), q1_1, q1_1, H', ⟨Nat.le_refl _⟩, ⟨by (with_reducible repeat (first | apply Kd.R_alloc | apply Kd.R_drewN | apply Kd.R_drew)); exact EC.out⟩, ⟨q1_10⟩, ⟨q1_0⟩⟩
 case round =>
  clear H'
  try clear p2
  obtain ⟨GA, NA, bA, rfl, rfl, HA, HK1, CA, HK, HB⟩ := hrel
  cases gk with
  | zero => exact absurd HA.out (by simp [laws_markIntS.l0])
  | succ k1 =>
   have H := HA.out
   clear HA
   simp only [laws_markIntS.l0] at H
   by_cases c3 : bA < (GA.length : Int)
   ·rw [if_pos c3] at H
    have yA : decide (bA < (GA.length : Int)) = true := decide_eq_true c3
    clear c3
    by_cases c4 : 0 ≤ bA
    ·rw [if_pos c4] at H
     have cB : decide (0 ≤ bA) = true := decide_eq_true c4
     clear c4
     obtain ⟨y106, hy106⟩ : ∃ y_ : List Int, y_ = (GA.set (bA : Int).toNat NA) := ⟨_, rfl⟩
     replace H : (laws_markIntS.l0 k1 y106 (wrap64 (NA + 1)) (wrap64 (bA + 1))) = some (r1, r2) := by first | (rw [hy106]; with_reducible exact H) | (have H2_ := (Option.bind_some _ _).symm.trans H; rw [hy106]; with_reducible exact H2_) | (have H2_ := (Option.bind_some _ _).symm.trans H; with_reducible exact H2_) | with_reducible exact H | (rw [hy106]; exact H) | exact H
     have Ny106 := Aside0.mk hy106
     clear hy106
     have H' := Aside0.mk H
     clear H
     obtain ⟨NC, FC, GC⟩ := Kd.R_slice CA.out
     subst GC
     have p5 : 0 ≤ (bA : Int) := of_decide_eq_true q1_4
     have q5 : (bA : Int) < ((GA.length : Int) : Int) := of_decide_eq_true q1_4
     obtain ⟨go5, OC, oC, pC, gl5, cl5, HG5⟩ := Kd.R_form CA.out (by omega)
     (first | cases oC | (injection oC with ea_ en_ ec_; (first | subst ea_ | (injection ea_ with ea_; subst ea_)); subst ec_; clear en_))
     have GB5 := Aside0.mk pC
     have GG5 := Aside0.mk HG5
     clear pC gl5 HG5
     obtain ⟨qC, rC⟩ := Kd.R_celln 0 CA.out (bA : Int) p5 q5
     replace p5 := eq_true p5
     replace q5 := eq_true q5
     have HP7 := Kd.R_putg CA.out (bA : Int) NA
     go_wp2_with (first | ((with_reducible refine gate_store (t := 3) (p := 15) rfl ?_); refine store_event (t := 3) (p := 15) (v := ?vo_w8) (w1 := (wr.setCell ⟨go5, (bA : Int).toNat, none⟩ (.int .i64 NA))) ?hg ?ho ?hn ?hr ?_; (case ho => rfl); (case hg => rfl); (case hn => rfl); (case hr => first | (go_simp; done) | (go_simp; rfl)); intro w8 hw; have hg : wr.grownBy w8 (some go5) := (by rw [hw]; exact HP7.2); have hp_ : Kd.R (Kd.int .i64) 3 w8 w0.heap.size (fun k_ => (P0_ k_ ∨ w.heap.size ≤ k_)) (.slice (some ⟨go5, 0, none⟩) GA.length FC) y106 := (by rw [hw, Ny106.out]; exact HP7.1); clear HP7; have hA := Aside0.mk (hp_); have iA := Aside0.mk ((by rw [hw]; exact below_set (HB.out) GB5.out : Below w0.heap.size w0 w8)); have lA := Aside0.mk (Kept.of_grown (S := (fun k_ => P0_ k_)) hg q1_10 (fun k_ e_ => (CA.out.1 k_ e_))); clear CA HB HK; have CA := hA; have HB := iA; have HK := lA; clear hA iA lA; clear hg hw hp_))
     go_roundg k1
     case measure => have := HK1.out; omega
     case rel => exact ⟨(y106), (wrap64 (NA + 1)), (wrap64 (bA + 1)), q1_1, q1_1, H', ⟨by have := HK1.out; omega⟩, ⟨by (with_reducible repeat (first | apply Kd.R_alloc | apply Kd.R_drewN | apply Kd.R_drew)); exact CA.out⟩, ⟨q1_10⟩, ⟨q1_0⟩⟩
    ·rw [if_neg c4] at H
     exact absurd H (by simp)
   ·rw [if_neg c3] at H
    have yA : decide (bA < (GA.length : Int)) = false := decide_eq_false c3
    clear c3
    simp only [Option.some.injEq, Prod.mk.injEq] at H
    obtain ⟨rfl, rfl⟩ := H
    obtain ⟨PC, sC, WB⟩ := Kd.R_slice CA.out
    subst WB
    go_wp2
    go_ret
    exact ⟨q1_8, by (with_reducible repeat (first | apply Kd.R_alloc | apply Kd.R_drewN | apply Kd.R_drew)); exact CA.out, q1_0, q1_10⟩

/-! ### laws_markMem: function 17 -/
def laws_markMem.f (k : Nat) (aA : List Int) (a1 : Int) : Option (Int × List Int) := (laws_markIntS.f k aA a1).bind fun OA => (some (OA.1, OA.2))
theorem laws_markMem.mono : ∀ a0 a1 k, LeO (laws_markMem.f k a0 a1) (laws_markMem.f (k + 1) a0 a1) := by
 intro a0 a1 k
 unfold laws_markMem.f
 repeat' first
   | (with_reducible exact laws_markIntS.mono _ _ _)
   | (with_reducible exact LeO.refl _)
   | (with_reducible exact LeO.none _)
   | (with_reducible refine LeO.ite ?_ ?_)
   | (with_reducible refine LeO.bind ?_ (fun _ => ?_))
   | exact laws_markIntS.mono _ _ _
   | exact LeO.none _
   | refine LeO.ite ?_ ?_
   | refine LeO.bind ?_ (fun _ => ?_)
set_option maxHeartbeats 8000000 in
set_option maxRecDepth 100000 in
theorem laws_markMem.calls (k : Nat) (P0_0_ : Nat → Prop) (u9000_ : Value) (aA : List Int) (a1 : Int) (r1 : Int) (r2 : List Int) (w0 w : World) (hB : Below w0.heap.size w0 w) (ho0_0 : Kd.R (Kd.int .i64) 3 w w0.heap.size P0_0_ u9000_ aA) (h : laws_markMem.f k aA a1 = some (r1, r2)) :
  Calls Try.prog 17 #[.agg #[u9000_], .int .i64 a1] w fun e w' => e = .returned (.int .i64 r1) ∧ Kd.R (Kd.int .i64) 3 w' w0.heap.size (fun k_ => (P0_0_ k_ ∨ w.heap.size ≤ k_)) u9000_ r2 ∧ Below w0.heap.size w0 w' ∧ Kept w w' (fun k_ => P0_0_ k_) := by
 have hu29 := Try.underlying29
 have oA := Aside0.mk (show Kd.R (Kd.int .i64) 3 w w0.heap.size (fun k_ => (P0_0_ k_ ∨ w.heap.size ≤ k_)) u9000_ aA from Kd.R_mono ho0_0 (fun k_ hk => (.inl hk)))
 have HK := Aside0.mk (Kept.refl w (fun k_ => P0_0_ k_))
 have HW0 := Aside0.mk hB.size
 have HB := Aside0.mk hB
 clear hB
 have H : ((laws_markIntS.f k aA a1).bind fun OA => (some (OA.1, OA.2))) = some (r1, r2) := h
 clear h
 replace H := Option.bind_eq_some_iff.mp H
 obtain ⟨⟨fC, gC⟩, A30, H⟩ := H
 (try dsimp only at H)
 have A3 := Aside0.mk A30
 clear A30
 simp only [Option.some.injEq, Prod.mk.injEq] at H
 obtain ⟨rfl, rfl⟩ := H
 obtain ⟨QB, RB, HC⟩ := Kd.R_slice oA.out
 subst HC
 go_enter Try.func17, Try.ntmps17
 go_wp2_with (first | ((with_reducible refine gate_dst (N := 2) rfl ?_); refine box_event ?hg (N := 2) ?hd (cs := #[.slice QB aA.length RB]) (t := 29) ?hr ?_; (case hd => rfl); (case hg => rfl); (case hr => first | (go_simp; done) | (go_simp; rfl)); intro jB hg w5 hbox hb; have hA := Aside0.mk (Kd.R_below (by (with_reducible repeat (first | apply Kd.R_alloc | apply Kd.R_drewN | apply Kd.R_drew)); exact oA.out) hb); have iA := Aside0.mk (Kept.below (S := (fun k_ => P0_0_ k_)) q1_10 hb); have lA := Aside0.mk (below_step q1_0 hb); have mA := Aside0.mk (hbox); have LA := Aside0.mk ((by rw [hg]; exact (by first | exact HK.out.1 | exact (show Kept w _ (fun k_ => P0_0_ k_) from by repeat (first | (with_reducible first | exact HK.out | apply Kept.alloc | apply Kept.drewN | apply Kept.drew) | exact HK.out)).1) : w.heap.size ≤ jB)); have UA := Aside0.mk ((q1_15 : w0.heap.size ≤ jB)); clear oA HK HB; have oA := hA; have HK := iA; have HB := lA; have DA := mA; have yB := LA; have zB := UA; clear hA iA lA mA LA UA; clear hb hbox hg; have DB : w5.cell? ⟨jB, 0, none⟩ = some (.slice QB aA.length RB) := (blk_cell DA.out 0).trans rfl; have EB := blk_frozen DA.out 0) | ((with_reducible refine gate_callee (f := 30) rfl ?_); refine goesL_ (some 8) rfl rfl Try.func30 (by kernel_rfl) rfl #[.slice QB aA.length RB, .int .i64 a1] rfl q1_2 ?_; (with_reducible refine (laws_markIntS.calls k (fun k_ => some k_ = (.slice QB aA.length RB : Value).ownBlock) (.slice QB aA.length RB) aA a1 fC gC w0 _ ?side1 ?side2 A3.out).mono ?_); (case side1 => repeat (first | (with_reducible first | exact HB.out | apply below_alloc | apply pw_below_drewN | apply below_drew1 | refine below_set ?_ zB.out) | exact HB.out)); (case side2 => exact Kd.R_tight rfl oA.out); rintro e w7 ⟨rfl, hy0, hb, hkp⟩; refine ⟨_, rfl, ?_⟩; have hA := Aside0.mk (Kd.R_reok rfl hy0 (fun k_ e_ => oA.out.1 k_ e_)); have iA := Aside0.mk (blk_kept (by (with_reducible repeat (first | refine blk_drewN ?_ _ | refine blk_drew ?_ | refine blk_alloc ?_ _)); exact DA.out) hkp (fun hs_ => (fun e_ => (Kd.R_ne oA.out DA.out (by decide)) e_) hs_)); have lA := Aside0.mk (Kept.then_ (S := (fun k_ => P0_0_ k_)) (by repeat (first | (with_reducible first | exact HK.out | apply Kept.alloc | apply Kept.drewN | apply Kept.drew | refine Kept.setCell ?_ (.inr yB.out) _) | exact HK.out)) hkp (fun k_ hs_ => (fun e_ => (oA.out.1 k_ e_.symm)) hs_)); have mA := Aside0.mk (hb); clear oA DA HK HB; have oA := hA; have DA := iA; have HK := lA; have HB := mA; clear hA iA lA mA; (try clear hb); (try clear hkp); (try clear hy0)))
 go_ret
 exact ⟨q1_8, by (with_reducible repeat (first | apply Kd.R_alloc | apply Kd.R_drewN | apply Kd.R_drew)); exact oA.out, by repeat (first | (with_reducible first | exact HB.out | apply below_alloc | apply pw_below_drewN | apply below_drew1 | refine below_set ?_ zB.out) | exact HB.out), by repeat (first | (with_reducible first | exact HK.out | apply Kept.alloc | apply Kept.drewN | apply Kept.drew | refine Kept.setCell ?_ (.inr yB.out) _) | exact HK.out)⟩

/-! ### laws_szIntS: function 54 -/
def laws_szIntS.f (l0 : List Int) (a1 : Int) : Option (Int) := if (wrap64 (a1 - (l0.length : Int))) < 0 then (some (-1)) else (some (wrap64 (a1 - (l0.length : Int))))
set_option maxHeartbeats 8000000 in
set_option maxRecDepth 100000 in
theorem laws_szIntS.calls (A0 : Option Addr) (c0 : Nat) (l0 : List Int) (a1 : Int) (r : Int) (w : World) (hr0 : Kd.C (Kd.int .i64) w A0 l0.length l0) (hc0 : l0.length ≤ c0) (h : laws_szIntS.f l0 a1 = some r) :
  Calls Try.prog 54 #[.slice A0 l0.length c0, .int .i64 a1] w fun e w' => e = .returned (.int .i64 r) ∧ Drawn0 w w' := by
 clear hr0 hc0
 have H : (if (wrap64 (a1 - (l0.length : Int))) < 0 then (some (-1)) else (some (wrap64 (a1 - (l0.length : Int))))) = some r := h
 clear h
 by_cases c3 : (wrap64 (a1 - (l0.length : Int))) < 0
 ·rw [if_pos c3] at H
  have yA : decide ((wrap64 (a1 - (l0.length : Int))) < 0) = true := decide_eq_true c3
  clear c3
  obtain rfl := Option.some.inj H
  go_enter Try.func54, Try.ntmps54
  go_wp2
  go_ret
  exact ⟨q1_1, q1_3⟩
 ·rw [if_neg c3] at H
  have yA : decide ((wrap64 (a1 - (l0.length : Int))) < 0) = false := decide_eq_false c3
  clear c3
  obtain rfl := Option.some.inj H
  go_enter Try.func54, Try.ntmps54
  go_wp2
  go_ret
  exact ⟨q1_1, q1_3⟩

/-! ### laws_szMem: function 23 -/
def laws_szMem.f (aA : List Int) (a1 : Int) : Option (Int) := (laws_szIntS.f aA a1).bind fun AA => (if AA < 0 then (some (-1)) else (some AA))
set_option maxHeartbeats 8000000 in
set_option maxRecDepth 100000 in
theorem laws_szMem.calls (cA : Option Addr) (dA : Nat) (aA : List Int) (a1 : Int) (r : Int) (w : World) (wA : Kd.C (Kd.int .i64) w cA aA.length aA) (xA : aA.length ≤ dA) (h : laws_szMem.f aA a1 = some r) :
  Calls Try.prog 23 #[.agg #[.slice cA aA.length dA], .int .i64 a1] w fun e w' => e = .returned (.int .i64 r) ∧ Below w.heap.size w w' := by
 have hu43 := Try.underlying43
 have aB := Aside0.mk wA
 have zA := Aside0.mk xA
 clear wA xA
 have HB := Aside0.mk (Below.refl w.heap.size w)
 have H : ((laws_szIntS.f aA a1).bind fun AA => (if AA < 0 then (some (-1)) else (some AA))) = some r := h
 clear h
 replace H := Option.bind_eq_some_iff.mp H
 obtain ⟨AA, A30, H⟩ := H
 (try dsimp only at H)
 have A3 := Aside0.mk A30
 clear A30
 by_cases c4 : AA < 0
 ·rw [if_pos c4] at H
  have cB : decide (AA < 0) = true := decide_eq_true c4
  clear c4
  obtain rfl := Option.some.inj H
  go_enter Try.func23, Try.ntmps23
  go_wp2_with (first | ((with_reducible refine gate_dst (N := 2) rfl ?_); refine box_event ?hg (N := 2) ?hd (cs := #[.slice cA aA.length dA]) (t := 43) ?hr ?_; (case hd => rfl); (case hg => rfl); (case hr => first | (go_simp; done) | (go_simp; rfl)); intro BA hg w5 hbox hb; have hA := Aside0.mk (below_step q1_0 hb); have iA := Aside0.mk (hbox); have lA := Aside0.mk ((q1_15 : w.heap.size ≤ BA)); have mA := Aside0.mk ((q1_15 : w.heap.size ≤ BA)); clear HB; have HB := hA; have PA := iA; have SB := lA; have kB := mA; clear hA iA lA mA; clear hb hbox hg; have DB : w5.cell? ⟨BA, 0, none⟩ = some (.slice cA aA.length dA) := (blk_cell PA.out 0).trans rfl; have EB := blk_frozen PA.out 0) | ((with_reducible refine gate_callee (f := 54) rfl ?_); refine goesL_ (some 8) rfl rfl Try.func54 (by kernel_rfl) rfl #[.slice cA aA.length dA, .int .i64 a1] rfl q1_2 ?_; (with_reducible refine (laws_szIntS.calls _ _ aA a1 AA _ ?side1 ?side2 A3.out).mono ?_); (case side1 => exact q1_7); (case side2 => exact zA.out); rintro e w' ⟨rfl, ⟨nd, rfl⟩⟩; refine ⟨_, rfl, ?_⟩))
  go_ret
  exact ⟨q1_8, by repeat (first | (with_reducible first | exact HB.out | apply below_alloc | apply pw_below_drewN | apply below_drew1 | refine below_set ?_ kB.out) | exact HB.out)⟩
 ·rw [if_neg c4] at H
  have cB : decide (AA < 0) = false := decide_eq_false c4
  clear c4
  obtain rfl := Option.some.inj H
  go_enter Try.func23, Try.ntmps23
  go_wp2_with (first | ((with_reducible refine gate_dst (N := 2) rfl ?_); refine box_event ?hg (N := 2) ?hd (cs := #[.slice cA aA.length dA]) (t := 43) ?hr ?_; (case hd => rfl); (case hg => rfl); (case hr => first | (go_simp; done) | (go_simp; rfl)); intro BA hg w7 hbox hb; have hA := Aside0.mk (below_step q1_0 hb); have iA := Aside0.mk (hbox); have lA := Aside0.mk ((q1_15 : w.heap.size ≤ BA)); have mA := Aside0.mk ((q1_15 : w.heap.size ≤ BA)); clear HB; have HB := hA; have PA := iA; have SB := lA; have kB := mA; clear hA iA lA mA; clear hb hbox hg; have gB : w7.cell? ⟨BA, 0, none⟩ = some (.slice cA aA.length dA) := (blk_cell PA.out 0).trans rfl; have iB := blk_frozen PA.out 0) | ((with_reducible refine gate_callee (f := 54) rfl ?_); refine goesL_ (some 8) rfl rfl Try.func54 (by kernel_rfl) rfl #[.slice cA aA.length dA, .int .i64 a1] rfl q1_2 ?_; (with_reducible refine (laws_szIntS.calls _ _ aA a1 AA _ ?side1 ?side2 A3.out).mono ?_); (case side1 => exact q1_7); (case side2 => exact zA.out); rintro e w' ⟨rfl, ⟨nd, rfl⟩⟩; refine ⟨_, rfl, ?_⟩))
  go_ret
  exact ⟨q1_8, by repeat (first | (with_reducible first | exact HB.out | apply below_alloc | apply pw_below_drewN | apply below_drew1 | refine below_set ?_ kB.out) | exact HB.out)⟩

/-! ### laws_toIntS: function 33 -/
def laws_toIntS.l0 : Nat → List Int → List Int → Int → Option (List Int)
 | 0, _, _, _ => none
 | k + 1, x0, x3, x4 => if x4 < (x0.length : Int) then (if 0 ≤ x4 then (if x4 < (x3.length : Int) then (laws_toIntS.l0 k x0 (x3.set (x4 : Int).toNat (rd x0 x4)) (wrap64 (x4 + 1))) else (none)) else (none)) else (some x3)
def laws_toIntS.f (k : Nat) (l0 : List Int) : Option (List Int) := if 0 ≤ (l0.length : Int) then (if ((l0.length : Int) : Int).toNat ≤ 35184372088832 then (laws_toIntS.l0 k l0 (List.replicate ((l0.length : Int) : Int).toNat 0) 0) else (none)) else (none)
theorem laws_toIntS.mono_l : ∀ k, (∀ y0 y1 y2, LeO (laws_toIntS.l0 k y0 y1 y2) (laws_toIntS.l0 (k + 1) y0 y1 y2))
 | 0 => fun _ _ _ r h => by simp [laws_toIntS.l0] at h
 | k + 1 => by
  have ih0 := laws_toIntS.mono_l k
  ·intro y0 y1 y2
   unfold laws_toIntS.l0
   repeat' first
   | (with_reducible exact ih0 _ _ _)
   | (with_reducible exact LeO.refl _)
   | (with_reducible exact LeO.none _)
   | (with_reducible refine LeO.ite ?_ ?_)
   | (with_reducible refine LeO.bind ?_ (fun _ => ?_))
   | exact ih0 _ _ _
   | exact LeO.none _
   | refine LeO.ite ?_ ?_
   | refine LeO.bind ?_ (fun _ => ?_)
theorem laws_toIntS.mono : ∀ a0 k, LeO (laws_toIntS.f k a0) (laws_toIntS.f (k + 1) a0) := by
 intro a0 k
 have ih0 := laws_toIntS.mono_l k
 unfold laws_toIntS.f
 repeat' first
   | (with_reducible exact ih0 _ _ _)
   | (with_reducible exact LeO.refl _)
   | (with_reducible exact LeO.none _)
   | (with_reducible refine LeO.ite ?_ ?_)
   | (with_reducible refine LeO.bind ?_ (fun _ => ?_))
   | exact ih0 _ _ _
   | exact LeO.none _
   | refine LeO.ite ?_ ?_
   | refine LeO.bind ?_ (fun _ => ?_)
set_option maxHeartbeats 8000000 in
set_option maxRecDepth 100000 in
theorem laws_toIntS.calls (k : Nat) (A0 : Option Addr) (c0 : Nat) (l0 : List Int) (r : List Int) (w : World) (hr0 : Kd.C (Kd.int .i64) w A0 l0.length l0) (hc0 : l0.length ≤ c0) (h : laws_toIntS.f k l0 = some r) :
  Calls Try.prog 33 #[.slice A0 l0.length c0] w fun e w' => ∃ v0_ : Value, e = .returned (v0_) ∧ Kd.R (Kd.int .i64) 3 w' w.heap.size (fun _ => True) v0_ r ∧ Below w.heap.size w w' := by
 have HR0 := Aside0.mk hr0
 clear hr0 hc0
 have HB := Aside0.mk (Below.refl w.heap.size w)
 have H : (if 0 ≤ (l0.length : Int) then (if ((l0.length : Int) : Int).toNat ≤ 35184372088832 then (laws_toIntS.l0 k l0 (List.replicate ((l0.length : Int) : Int).toNat 0) 0) else (none)) else (none)) = some r := h
 clear h
 by_cases c2 : 0 ≤ (l0.length : Int)
 ·rw [if_pos c2] at H
  have FB := eq_true c2
  have hC : decide (0 ≤ (l0.length : Int)) = true := decide_eq_true c2
  clear c2
  by_cases c3 : ((l0.length : Int) : Int).toNat ≤ 35184372088832
  ·rw [if_pos c3] at H
   have yA := eq_true c3
   have mB : decide (((l0.length : Int) : Int).toNat ≤ 35184372088832) = true := decide_eq_true c3
   clear c3
   obtain ⟨y112, hy112⟩ : ∃ y_ : List Int, y_ = (List.replicate ((l0.length : Int) : Int).toNat 0) := ⟨_, rfl⟩
   replace H : (laws_toIntS.l0 k l0 y112 0) = some r := by first | (rw [hy112]; with_reducible exact H) | (have H2_ := (Option.bind_some _ _).symm.trans H; rw [hy112]; with_reducible exact H2_) | (have H2_ := (Option.bind_some _ _).symm.trans H; with_reducible exact H2_) | with_reducible exact H | (rw [hy112]; exact H) | exact H
   have Ny112 := Aside0.mk hy112
   clear hy112
   have H' := Aside0.mk H
   clear H
   go_enter Try.func33, Try.ntmps33
   go_wp2_with (first | ((with_reducible refine gate_dst (N := 7) rfl ?_); refine Kd.R_make (Kd.int .i64) _ 3 rfl (N := 7) rfl 27 _ _ rfl (l0.length : Int) rfl rfl Try.underlying27 (.int .i64 0) 8 info3 rfl (by decide) (by omega) 0 (ok := fun _ => True) (okp := fun _ => True) rfl (fun _ hk => hk) trivial (of_decide_eq_true q1_4) (Nat.le_trans (Nat.mul_le_mul_right _ (of_decide_eq_true q1_4 : (l0.length : Int).toNat ≤ 35184372088832)) (by omega)) (Below.refl _ _) (Nat.le_refl _) ?_; intro iC w4 ho5 hb hg_ hnew_; clear hg_ hnew_; (first | rw [← Ny112.out] at ho5 | (simp only [Int.reduceToNat] at ho5; rw [← Ny112.out] at ho5)); have hA := Aside0.mk (Kd.R_lower ho5 (below_size q1_0)); have iA := Aside0.mk (below_step q1_0 hb); clear HB; have TB := hA; have HB := iA; clear hA iA; clear hb ho5))
   go_loopg [4] k (fun kq v4 w' => ∃ (QA : List Int) (fA : Int), v4 = .int .i64 fA ∧ Aside0 (laws_toIntS.l0 kq l0 QA fA = some r) ∧ Aside0 (kq ≤ k) ∧ Aside0 (Kd.R (Kd.int .i64) 3 w' w.heap.size (fun _ => True) iC QA) ∧ Aside0 (Below w.heap.size w w'))
   case atStart => exact ⟨(y112), (0), q1_1, H', ⟨Nat.le_refl _⟩, ⟨by (with_reducible repeat (first | apply Kd.R_alloc | apply Kd.R_drewN | apply Kd.R_drew)); exact TB.out⟩, ⟨q1_0⟩⟩
   case round =>
    clear H'
    (try clear c2); (try clear FB); (try clear hC); (try clear p2); (try clear c3); (try clear yA); (try clear mB)
    obtain ⟨QA, fA, rfl, HA, HK1, SA, HB⟩ := hrel
    cases gk with
    | zero => exact absurd HA.out (by simp [laws_toIntS.l0])
    | succ k1 =>
     have H := HA.out
     clear HA
     simp only [laws_toIntS.l0] at H
     by_cases c6 : fA < (l0.length : Int)
     ·rw [if_pos c6] at H
      have nB : decide (fA < (l0.length : Int)) = true := decide_eq_true c6
      clear c6
      by_cases c7 : 0 ≤ fA
      ·rw [if_pos c7] at H
       have NB : decide (0 ≤ fA) = true := decide_eq_true c7
       clear c7
       by_cases c8 : fA < (QA.length : Int)
       ·rw [if_pos c8] at H
        have IC : decide (fA < (QA.length : Int)) = true := decide_eq_true c8
        clear c8
        obtain ⟨y116, hy116⟩ : ∃ y_ : List Int, y_ = (QA.set (fA : Int).toNat (rd l0 fA)) := ⟨_, rfl⟩
        replace H : (laws_toIntS.l0 k1 l0 y116 (wrap64 (fA + 1))) = some r := by first | (rw [hy116]; with_reducible exact H) | (have H2_ := (Option.bind_some _ _).symm.trans H; rw [hy116]; with_reducible exact H2_) | (have H2_ := (Option.bind_some _ _).symm.trans H; with_reducible exact H2_) | with_reducible exact H | (rw [hy116]; exact H) | exact H
        have Ny116 := Aside0.mk hy116
        clear hy116
        have H' := Aside0.mk H
        clear H
        have p115 : 0 ≤ (fA : Int) := of_decide_eq_true q1_4
        have q115 : fA < (l0.length : Int) := of_decide_eq_true q1_4
        obtain ⟨ad115, jC, IA⟩ := Kd.at_int HR0.out fA p115 q115
        cases jC
        replace IA := (HB.out.cell (World.block_lt_of_cell? w _ IA)).trans IA
        replace p115 := eq_true p115
        replace q115 := eq_true q115
        have p9 : 0 ≤ (fA : Int) := of_decide_eq_true q1_4
        have q9 : (fA : Int) < ((QA.length : Int) : Int) := of_decide_eq_true q1_4
        obtain ⟨go9, sC, WB, tC, gl9, cl9, HG9⟩ := Kd.R_form SA.out (by omega)
        (first | cases WB | (injection WB with ea_ en_ ec_; (first | subst ea_ | (injection ea_ with ea_; subst ea_)); subst ec_; clear en_))
        have GB9 := Aside0.mk tC
        have GG9 := Aside0.mk HG9
        clear tC gl9 HG9
        obtain ⟨uC, vC⟩ := Kd.R_celln 0 SA.out (fA : Int) p9 q9
        replace p9 := eq_true p9
        replace q9 := eq_true q9
        have HP10 := Kd.R_putg SA.out (fA : Int) (rd l0 fA)
        go_wp2_with (first | ((with_reducible refine gate_store (t := 3) (p := 20) rfl ?_); refine store_event (t := 3) (p := 20) (v := ?vo_w11) (w1 := (wr.setCell ⟨go9, (fA : Int).toNat, none⟩ (.int .i64 (rd l0 fA)))) ?hg ?ho ?hn ?hr ?_; (case ho => rfl); (case hg => rfl); (case hn => rfl); (case hr => first | (go_simp; done) | (go_simp; rfl)); intro KB hw; have hg : wr.grownBy KB (some go9) := (by rw [hw]; exact HP10.2); have hp_ : Kd.R (Kd.int .i64) 3 KB w.heap.size (fun _ => True) (.slice (some ⟨go9, 0, none⟩) QA.length sC) y116 := (by rw [hw, Ny116.out]; exact HP10.1); clear HP10; have hA := Aside0.mk (hp_); have iA := Aside0.mk ((by rw [hw]; exact below_set (HB.out) GB9.out : Below w.heap.size w KB)); clear SA HB; have SA := hA; have HB := iA; clear hA iA; clear hg hw hp_))
        go_roundg k1
        case measure => have := HK1.out; omega
        case rel => exact ⟨(y116), (wrap64 (fA + 1)), q1_1, H', ⟨by have := HK1.out; omega⟩, ⟨by (with_reducible repeat (first | apply Kd.R_alloc | apply Kd.R_drewN | apply Kd.R_drew)); exact SA.out⟩, ⟨q1_0⟩⟩
       ·rw [if_neg c8] at H
        exact absurd H (by simp)
      ·rw [if_neg c7] at H
       exact absurd H (by simp)
     ·rw [if_neg c6] at H
      have nB : decide (fA < (l0.length : Int)) = false := decide_eq_false c6
      clear c6
      obtain rfl := Option.some.inj H
      go_wp2
      go_ret
      exact ⟨_, q1_8, by (with_reducible repeat (first | apply Kd.R_alloc | apply Kd.R_drewN | apply Kd.R_drew)); exact SA.out, q1_0⟩
  ·rw [if_neg c3] at H
   exact absurd H (by simp)
 ·rw [if_neg c2] at H
  exact absurd H (by simp)

/-! ### laws_toMem: function 25 -/
def laws_toMem.f (k : Nat) (aA : List Int) : Option (List Int) := (laws_toIntS.f k aA).bind fun RA => (some RA)
theorem laws_toMem.mono : ∀ a0 k, LeO (laws_toMem.f k a0) (laws_toMem.f (k + 1) a0) := by
 intro a0 k
 unfold laws_toMem.f
 repeat' first
   | (with_reducible exact laws_toIntS.mono _ _)
   | (with_reducible exact LeO.refl _)
   | (with_reducible exact LeO.none _)
   | (with_reducible refine LeO.ite ?_ ?_)
   | (with_reducible refine LeO.bind ?_ (fun _ => ?_))
   | exact laws_toIntS.mono _ _
   | exact LeO.none _
   | refine LeO.ite ?_ ?_
   | refine LeO.bind ?_ (fun _ => ?_)
set_option maxHeartbeats 8000000 in
set_option maxRecDepth 100000 in
theorem laws_toMem.calls (k : Nat) (cA : Option Addr) (dA : Nat) (aA : List Int) (r : List Int) (w : World) (wA : Kd.C (Kd.int .i64) w cA aA.length aA) (xA : aA.length ≤ dA) (h : laws_toMem.f k aA = some r) :
  Calls Try.prog 25 #[.agg #[.slice cA aA.length dA]] w fun e w' => ∃ v0_ : Value, e = .returned (.agg #[v0_]) ∧ Kd.R (Kd.int .i64) 3 w' w.heap.size (fun _ => True) v0_ r ∧ Below w.heap.size w w' := by
 have hu43 := Try.underlying43
 have hu29 := Try.underlying29
 have aB := Aside0.mk wA
 have zA := Aside0.mk xA
 clear wA xA
 have HB := Aside0.mk (Below.refl w.heap.size w)
 have H : ((laws_toIntS.f k aA).bind fun RA => (some RA)) = some r := h
 clear h
 replace H := Option.bind_eq_some_iff.mp H
 obtain ⟨RA, A20, H⟩ := H
 (try dsimp only at H)
 have A2 := Aside0.mk A20
 clear A20
 obtain rfl := Option.some.inj H
 go_enter Try.func25, Try.ntmps25
 go_wp2_with (first | ((with_reducible refine gate_dst (N := 1) rfl ?_); refine box_event ?hg (N := 1) ?hd (cs := #[.slice cA aA.length dA]) (t := 43) ?hr ?_; (case hd => rfl); (case hg => rfl); (case hr => first | (go_simp; done) | (go_simp; rfl)); intro jA hg w3 hbox hb; have hA := Aside0.mk (below_step q1_0 hb); have iA := Aside0.mk (hbox); have lA := Aside0.mk ((q1_15 : w.heap.size ≤ jA)); have mA := Aside0.mk ((q1_15 : w.heap.size ≤ jA)); clear HB; have HB := hA; have rA := iA; have wC := lA; have bB := mA; clear hA iA lA mA; clear hb hbox hg) | ((with_reducible refine gate_dst (N := 2) rfl ?_); refine box_event ?hg (N := 2) ?hd (cs := #[.slice none 0 0]) (t := 29) ?hr ?_; (case hd => rfl); (case hg => rfl); (case hr => first | (go_simp; done) | (go_simp; rfl)); intro kA hg w4 hbox hb; have hA := Aside0.mk (blk_below (g := jA) (o := .cells #[.slice cA aA.length dA] 43 (0, 0)) q1_6 hb); have iA := Aside0.mk (below_step q1_14 hb); have lA := Aside0.mk (hbox); have mA := Aside0.mk ((by rw [hg]; exact (below_size q1_14) : w.heap.size ≤ kA)); have LA := Aside0.mk ((by rw [hg]; exact (below_size q1_14) : w.heap.size ≤ kA)); have UA := Aside0.mk ((by rw [hg]; exact Nat.ne_of_lt (blk_lt (g := jA) (o := .cells #[.slice cA aA.length dA] 43 (0, 0)) q1_6) : jA ≠ kA)); have eB := Aside0.mk ((by rw [hg]; exact Nat.ne_of_gt (blk_lt (g := jA) (o := .cells #[.slice cA aA.length dA] 43 (0, 0)) q1_6) : kA ≠ jA)); clear rA HB; have rA := hA; have HB := iA; have sA := lA; have xC := mA; have tB := LA; have VA := UA; have WA := eB; clear hA iA lA mA LA UA eB; clear hb hbox hg) | ((with_reducible refine gate_dst (N := 3) rfl ?_); refine box_event ?hg (N := 3) ?hd (cs := #[.slice none 0 0]) (t := 29) ?hr ?_; (case hd => rfl); (case hg => rfl); (case hr => first | (go_simp; done) | (go_simp; rfl)); intro tA hg w5 hbox hb; have hA := Aside0.mk (blk_below (g := jA) (o := .cells #[.slice cA aA.length dA] 43 (0, 0)) q1_6 hb); have iA := Aside0.mk (blk_below (g := kA) (o := .cells #[.slice none 0 0] 29 (0, 0)) q1_13 hb); have lA := Aside0.mk (below_step q1_12 hb); have mA := Aside0.mk (hbox); have LA := Aside0.mk ((by rw [hg]; exact (below_size q1_12) : w.heap.size ≤ tA)); have UA := Aside0.mk ((by rw [hg]; exact (below_size q1_12) : w.heap.size ≤ tA)); have eB := Aside0.mk ((by rw [hg]; exact Nat.ne_of_lt (blk_lt (g := jA) (o := .cells #[.slice cA aA.length dA] 43 (0, 0)) q1_6) : jA ≠ tA)); have yC := Aside0.mk ((by rw [hg]; exact Nat.ne_of_gt (blk_lt (g := jA) (o := .cells #[.slice cA aA.length dA] 43 (0, 0)) q1_6) : tA ≠ jA)); have zC := Aside0.mk ((by rw [hg]; exact Nat.ne_of_lt (blk_lt (g := kA) (o := .cells #[.slice none 0 0] 29 (0, 0)) q1_13) : kA ≠ tA)); have AC := Aside0.mk ((by rw [hg]; exact Nat.ne_of_gt (blk_lt (g := kA) (o := .cells #[.slice none 0 0] 29 (0, 0)) q1_13) : tA ≠ kA)); clear rA sA HB; have rA := hA; have sA := iA; have HB := lA; have EA := mA; have BC := LA; have LB := UA; have XA := eB; have YA := yC; have FA := zC; have ZA := AC; clear hA iA lA mA LA UA eB yC zC AC; clear hb hbox hg; have JC := VA.out; have KC := WA.out; have bC := XA.out; have cC := YA.out; have gB : w5.cell? ⟨jA, 0, none⟩ = some (.slice cA aA.length dA) := (blk_cell rA.out 0).trans rfl; have iB := blk_frozen rA.out 0) | ((with_reducible refine gate_callee (f := 33) rfl ?_); refine goesL_ (some 6) rfl rfl Try.func33 (by kernel_rfl) rfl #[.slice cA aA.length dA] rfl q1_2 ?_; (with_reducible refine (laws_toIntS.calls k _ _ aA RA _ ?side1 ?side2 A2.out).mono ?_); (case side1 => exact q1_7); (case side2 => exact zA.out); rintro e w9 ⟨LC, rfl, ho0, hb⟩; refine ⟨_, rfl, ?_⟩; have hA := Aside0.mk (Kd.R_lower ho0 (below_size q1_11)); have iA := Aside0.mk (blk_below (g := jA) (o := .cells #[.slice cA aA.length dA] 43 (0, 0)) q1_6 hb); have lA := Aside0.mk (blk_below (g := kA) (o := .cells #[.slice none 0 0] 29 (0, 0)) q1_13 hb); have mA := Aside0.mk (blk_below (g := tA) (o := .cells #[.slice none 0 0] 29 (0, 0)) (by (with_reducible repeat (first | refine blk_drewN ?_ _ | refine blk_drew ?_ | refine blk_alloc ?_ _)); exact EA.out) hb); have LA := Aside0.mk (below_step q1_11 hb); clear rA sA EA HB; have AB := hA; have rA := iA; have sA := lA; have EA := mA; have HB := LA; clear hA iA lA mA LA; (try clear hb); (try clear hb2); (try clear hk); (try clear hi); (try clear ho0); obtain ⟨GB, IB, kC⟩ := Kd.R_slice AB.out; subst kC; have CC := ZA.out; have DC := FA.out; have XB : w9.cell? ⟨tA, 0, none⟩ = some (.slice none 0 0) := (blk_cell EA.out 0).trans rfl; have YB := blk_frozen EA.out 0; have qB : w9.cell? ⟨kA, 0, none⟩ = some (.slice none 0 0) := (blk_cell sA.out 0).trans rfl; have rB := blk_frozen sA.out 0))
 refine bodyPost_ret (results_cell_row rfl _ _ kA 29 #[.slice GB RA.length IB] (0, 0) _ rfl (by (with_reducible repeat (first | refine blk_drewN ?_ _ | refine blk_drew ?_ | refine blk_alloc ?_ _)); refine blk_put (cs := #[.slice none 0 0]) ?_ 0 _ rfl; (with_reducible repeat (first | refine blk_drewN ?_ _ | refine blk_drew ?_ | refine blk_alloc ?_ _)); refine blk_far ?_ FA.out _; (with_reducible repeat (first | refine blk_drewN ?_ _ | refine blk_drew ?_ | refine blk_alloc ?_ _)); exact sA.out) Try.underlying29 rfl (by kernel_rfl)) rfl ?_
 exact ⟨_, q1_8, by (with_reducible repeat (first | apply Kd.R_alloc | apply Kd.R_drewN | apply Kd.R_drew)); exact Kd.R_mono (Kd.R_far (p := ⟨kA, 0, none⟩) (Kd.R_far (p := ⟨tA, 0, none⟩) (Kd.R_types (Kd.R_types AB.out EA.out (by decide)) sA.out (by decide)) (fun _ hk => hk.1.2) (.slice GB RA.length IB)) (fun _ hk => hk.2) (.slice GB RA.length IB)) (fun _ hk => trivial), q1_11⟩

/-! ### spec_l03Size: function 41 -/
def spec_l03Size.f (a0 : Int) : Option (Bool) := if a0 ≥ 1 then (some (decide (a0 ≤ 16))) else (some false)
set_option maxHeartbeats 8000000 in
set_option maxRecDepth 100000 in
theorem spec_l03Size.calls (a0 : Int) (r : Bool) (w : World) (h : spec_l03Size.f a0 = some r) :
  Calls Try.prog 41 #[.int .i64 a0] w fun e w' => e = .returned (.bool r) ∧ Drawn0 w w' := by
 have H : (if a0 ≥ 1 then (some (decide (a0 ≤ 16))) else (some false)) = some r := h
 clear h
 by_cases c2 : a0 ≥ 1
 ·rw [if_pos c2] at H
  have FB : decide (1 ≤ a0) = true := decide_eq_true c2
  clear c2
  obtain rfl := Option.some.inj H
  go_enter Try.func41, Try.ntmps41
  go_wp2
  go_ret
  exact ⟨q1_1, q1_3⟩
 ·rw [if_neg c2] at H
  have FB : decide (1 ≤ a0) = false := decide_eq_false c2
  clear c2
  obtain rfl := Option.some.inj H
  go_enter Try.func41, Try.ntmps41
  go_wp2
  go_ret
  exact ⟨q1_1, q1_3⟩

/-! ### spec_l05Node: function 45 -/
def spec_l05Node.f (a0 : Int) : Option (Int) := some (wrap64 ((wrap64 (Int.tdiv a0 2)) - 1))
set_option maxHeartbeats 8000000 in
set_option maxRecDepth 100000 in
theorem spec_l05Node.calls (a0 : Int) (r : Int) (w : World) (h : spec_l05Node.f a0 = some r) :
  Calls Try.prog 45 #[.int .i64 a0] w fun e w' => e = .returned (.int .i64 r) ∧ Drawn0 w w' := by
 have H : (some (wrap64 ((wrap64 (Int.tdiv a0 2)) - 1))) = some r := h
 clear h
 obtain rfl := Option.some.inj H
 go_enter Try.func45, Try.ntmps45
 go_wp2
 go_ret
 exact ⟨q1_1, q1_3⟩

/-! ### spec_l05Link: function 56 -/
def spec_l05Link.f (a0 : Int) (a1 : Int) : Option (Bool) := if a1 ≥ 0 then (some (decide ((wrap64 (Int.tdiv a1 2)) ≤ a0))) else (some false)
set_option maxHeartbeats 8000000 in
set_option maxRecDepth 100000 in
theorem spec_l05Link.calls (a0 : Int) (a1 : Int) (r : Bool) (w : World) (h : spec_l05Link.f a0 a1 = some r) :
  Calls Try.prog 56 #[.int .i64 a0, .int .i64 a1] w fun e w' => e = .returned (.bool r) ∧ Drawn0 w w' := by
 have H : (if a1 ≥ 0 then (some (decide ((wrap64 (Int.tdiv a1 2)) ≤ a0))) else (some false)) = some r := h
 clear h
 by_cases c3 : a1 ≥ 0
 ·rw [if_pos c3] at H
  have yA : decide (0 ≤ a1) = true := decide_eq_true c3
  clear c3
  obtain rfl := Option.some.inj H
  go_enter Try.func56, Try.ntmps56
  go_wp2
  go_ret
  exact ⟨q1_1, q1_3⟩
 ·rw [if_neg c3] at H
  have yA : decide (0 ≤ a1) = false := decide_eq_false c3
  clear c3
  obtain rfl := Option.some.inj H
  go_enter Try.func56, Try.ntmps56
  go_wp2
  go_ret
  exact ⟨q1_1, q1_3⟩

/-! ### spec_l05There: function 65 -/
def spec_l05There.f (a0 : Int) (a1 : Int) : Option (Bool) := (spec_l05Link.f a0 a1).bind fun lB => (if lB = true then (some (decide ((wrap64 (Int.tdiv a1 2)) ≥ 1))) else (some false))
set_option maxHeartbeats 8000000 in
set_option maxRecDepth 100000 in
theorem spec_l05There.calls (a0 : Int) (a1 : Int) (r : Bool) (w : World) (h : spec_l05There.f a0 a1 = some r) :
  Calls Try.prog 65 #[.int .i64 a0, .int .i64 a1] w fun e w' => e = .returned (.bool r) ∧ Drawn0 w w' := by
 have H : ((spec_l05Link.f a0 a1).bind fun lB => (if lB = true then (some (decide ((wrap64 (Int.tdiv a1 2)) ≥ 1))) else (some false))) = some r := h
 clear h
 replace H := Option.bind_eq_some_iff.mp H
 obtain ⟨lB, A30, H⟩ := H
 (try dsimp only at H)
 have A3 := Aside0.mk A30
 clear A30
 by_cases c4 : lB = true
 ·subst c4
  rw [if_pos rfl] at H
  obtain rfl := Option.some.inj H
  go_enter Try.func65, Try.ntmps65
  go_wp2_with (first | ((with_reducible refine gate_callee (f := 56) rfl ?_); refine goesL_ (some 7) rfl rfl Try.func56 (by kernel_rfl) rfl #[.int .i64 a0, .int .i64 a1] rfl q1_2 ?_; (with_reducible refine (spec_l05Link.calls a0 a1 true _ A3.out).mono ?_); rintro e w' ⟨rfl, ⟨nd, rfl⟩⟩; refine ⟨_, rfl, ?_⟩))
  go_ret
  exact ⟨q1_1, q1_3⟩
 ·replace c4 := Bool.eq_false_iff.mpr c4
  subst c4
  rw [if_neg (show ¬ (false = true) by decide)] at H
  obtain rfl := Option.some.inj H
  go_enter Try.func65, Try.ntmps65
  go_wp2_with (first | ((with_reducible refine gate_callee (f := 56) rfl ?_); refine goesL_ (some 7) rfl rfl Try.func56 (by kernel_rfl) rfl #[.int .i64 a0, .int .i64 a1] rfl q1_2 ?_; (with_reducible refine (spec_l05Link.calls a0 a1 false _ A3.out).mono ?_); rintro e w' ⟨rfl, ⟨nd, rfl⟩⟩; refine ⟨_, rfl, ?_⟩))
  go_ret
  exact ⟨q1_1, q1_3⟩

/-! ### spec_l03Has: function 66 -/
def spec_l03Has.l0 : Nat → Int → List Int → Int → Int → Option (Bool)
 | 0, _, _, _, _ => none
 | k + 1, x1, x7, x8, x9 => if x9 < x8 then (if 0 ≤ x9 then (if x9 < (x7.length : Int) then (if (rd x7 x9) = x1 then (some true) else (spec_l03Has.l0 k x1 x7 x8 (wrap64 (x9 + 1)))) else (none)) else (none)) else (some false)
def spec_l03Has.f (k : Nat) (l0 : List Int) (a1 : Int) : Option (Bool) := spec_l03Has.l0 k a1 l0 (l0.length : Int) 0
theorem spec_l03Has.mono_l : ∀ k, (∀ y0 y1 y2 y3, LeO (spec_l03Has.l0 k y0 y1 y2 y3) (spec_l03Has.l0 (k + 1) y0 y1 y2 y3))
 | 0 => fun _ _ _ _ r h => by simp [spec_l03Has.l0] at h
 | k + 1 => by
  have ih0 := spec_l03Has.mono_l k
  ·intro y0 y1 y2 y3
   unfold spec_l03Has.l0
   repeat' first
   | (with_reducible exact ih0 _ _ _ _)
   | (with_reducible exact LeO.refl _)
   | (with_reducible exact LeO.none _)
   | (with_reducible refine LeO.ite ?_ ?_)
   | (with_reducible refine LeO.bind ?_ (fun _ => ?_))
   | exact ih0 _ _ _ _
   | exact LeO.none _
   | refine LeO.ite ?_ ?_
   | refine LeO.bind ?_ (fun _ => ?_)
theorem spec_l03Has.mono : ∀ a0 a1 k, LeO (spec_l03Has.f k a0 a1) (spec_l03Has.f (k + 1) a0 a1) := by
 intro a0 a1 k
 have ih0 := spec_l03Has.mono_l k
 unfold spec_l03Has.f
 repeat' first
   | (with_reducible exact ih0 _ _ _ _)
   | (with_reducible exact LeO.refl _)
   | (with_reducible exact LeO.none _)
   | (with_reducible refine LeO.ite ?_ ?_)
   | (with_reducible refine LeO.bind ?_ (fun _ => ?_))
   | exact ih0 _ _ _ _
   | exact LeO.none _
   | refine LeO.ite ?_ ?_
   | refine LeO.bind ?_ (fun _ => ?_)
set_option maxHeartbeats 8000000 in
set_option maxRecDepth 100000 in
theorem spec_l03Has.calls (k : Nat) (A0 : Option Addr) (c0 : Nat) (l0 : List Int) (a1 : Int) (r : Bool) (w : World) (hr0 : Kd.C (Kd.int .i64) w A0 l0.length l0) (hc0 : l0.length ≤ c0) (h : spec_l03Has.f k l0 a1 = some r) :
  Calls Try.prog 66 #[.slice A0 l0.length c0, .int .i64 a1] w fun e w' => e = .returned (.bool r) ∧ Drawn0 w w' := by
 have HR0 := Aside0.mk hr0
 clear hr0 hc0
 have H : (spec_l03Has.l0 k a1 l0 (l0.length : Int) 0) = some r := h
 clear h
 have H' := Aside0.mk H
 clear H
 go_enter Try.func66, Try.ntmps66
 go_wp2
 go_loopg [9] k (fun kq v9 w' => ∃ (gA : Int), v9 = .int .i64 gA ∧ Aside0 (spec_l03Has.l0 kq a1 l0 (l0.length : Int) gA = some r) ∧ Aside0 (kq ≤ k) ∧ Drawn0 w w')
 case atStart => exact ⟨(0), q1_1, H', ⟨Nat.le_refl _⟩, q1_3⟩
 case round =>
  clear H'
  try clear p2
  obtain ⟨gA, rfl, HA, HK1, ⟨m1, rfl⟩⟩ := hrel
  cases gk with
  | zero => exact absurd HA.out (by simp [spec_l03Has.l0])
  | succ k1 =>
   have H := HA.out
   clear HA
   simp only [spec_l03Has.l0] at H
   by_cases c3 : gA < (l0.length : Int)
   ·rw [if_pos c3] at H
    have yA : decide (gA < (l0.length : Int)) = true := decide_eq_true c3
    clear c3
    by_cases c4 : 0 ≤ gA
    ·rw [if_pos c4] at H
     have cB : decide (0 ≤ gA) = true := decide_eq_true c4
     clear c4
     by_cases c5 : gA < (l0.length : Int)
     ·rw [if_pos c5] at H
      have ZB : decide (gA < (l0.length : Int)) = true := decide_eq_true c5
      clear c5
      by_cases c6 : (rd l0 gA) = a1
      ·rw [if_pos c6] at H
       have nB : ((rd l0 gA) == a1) = true := beq_iff_eq.mpr c6
       have lC : ((rd l0 gA) != a1) = false := bne_eq_false_iff_eq.mpr c6
       clear c6
       obtain rfl := Option.some.inj H
       have p124 : 0 ≤ (gA : Int) := of_decide_eq_true q1_4
       have q124 : gA < (l0.length : Int) := of_decide_eq_true q1_4
       obtain ⟨ad124, JB, sB⟩ := Kd.at_int HR0.out gA p124 q124
       cases JB
       replace p124 := eq_true p124
       replace q124 := eq_true q124
       go_wp2
       go_ret
       exact ⟨q1_1, q1_3⟩
      ·rw [if_neg c6] at H
       have nB : ((rd l0 gA) == a1) = false := beq_eq_false_iff_ne.mpr c6
       have lC : ((rd l0 gA) != a1) = true := bne_iff_ne.mpr c6
       have H' := Aside0.mk H
       clear H
       have p124 : 0 ≤ (gA : Int) := of_decide_eq_true q1_4
       have q124 : gA < (l0.length : Int) := of_decide_eq_true q1_4
       obtain ⟨ad124, JB, sB⟩ := Kd.at_int HR0.out gA p124 q124
       cases JB
       replace p124 := eq_true p124
       replace q124 := eq_true q124
       go_wp2
       go_roundg k1
       case measure => have := HK1.out; omega
       case rel => exact ⟨(wrap64 (gA + 1)), q1_1, H', ⟨by have := HK1.out; omega⟩, q1_3⟩
     ·rw [if_neg c5] at H
      exact absurd H (by simp)
    ·rw [if_neg c4] at H
     exact absurd H (by simp)
   ·rw [if_neg c3] at H
    have yA : decide (gA < (l0.length : Int)) = false := decide_eq_false c3
    clear c3
    obtain rfl := Option.some.inj H
    go_wp2
    go_ret
    exact ⟨q1_1, q1_3⟩

end Go.Proofs.Ytjikobdblohphaa.PFnExactLiKeys
