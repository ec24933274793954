-- Written by the session's own patched copy of the printer (wip/patch_print.py).
import Derived.Test.YtjikobdblohphaaPFnExactLiApplyx0
namespace Go.Proofs.Ytjikobdblohphaa.PFnExactLiApply
open Go.RowKit Go.Proofs.YtjikobdblohphaaW.PrintWords Go.Proofs.YtjikobdblohphaaW.PrintLast Go.Proofs.YtjikobdblohphaaW.PrintMore
attribute [local go_sem] max2_int min2_int max_two min_two max_three min_three max_four min_four   -- for this text's walks alone
set_option linter.unusedVariables false
set_option linter.unusedSimpArgs false

theorem q1_0 {p : Prop} (h : p := by repeat (first | (with_reducible first | exact HB.out | apply below_alloc | apply pw_below_drewN | apply below_drew1) | exact HB.out)) : p := h
theorem q1_1 {p : Prop} (h : p := by first | (with_reducible assumption) | assumption) : p := h
theorem q1_2 {p : Prop} (h : p := by first | rfl | (simp; done) | (simp [*]; done)) : p := h
theorem q1_3 {p : Prop} (h : p := by repeat (first | exact Drawn0.refl _ | apply Drawn0.step)) : p := h
theorem q1_4 {p : Prop} (h : p := by (with_reducible repeat (first | refine blk_drewN ?_ _ | refine blk_drew ?_ | refine blk_alloc ?_ _)); exact cA.out) : p := h
theorem q1_5 {p : Prop} (h : p := by (with_reducible repeat (first | apply Kd.R_alloc | apply Kd.R_drewN | apply Kd.R_drew)); exact JA.out) : p := h
theorem q1_6 {p : Prop} (h : p := by repeat (first | (with_reducible first | exact HB.out | apply below_alloc | apply pw_below_drewN | apply below_drew1 | refine below_set ?_ KA.out | refine below_set ?_ WA.out) | exact HB.out)) : p := h
theorem q1_7 {p : Prop} (h : p := by first | rfl | (simp [errW_none, errW_some] <;> rfl) | (simp [*, errW_none, errW_some] <;> rfl)) : p := h
theorem q1_8 {p : Prop} (h : p := by repeat (first | (with_reducible first | exact HK.out | apply Kept.alloc | apply Kept.drewN | apply Kept.drew) | exact HK.out)) : p := h
theorem q1_9 {p : Prop} (h : p := by repeat (first | (with_reducible first | exact HB.out | apply below_alloc | apply pw_below_drewN | apply below_drew1 | refine below_set ?_ KA.out) | exact HB.out)) : p := h
theorem q1_10 {p : Prop} (h : p := by (with_reducible repeat (first | refine blk_drewN ?_ _ | refine blk_drew ?_ | refine blk_alloc ?_ _)); exact dA.out) : p := h
theorem q1_11 {p : Prop} (h : p := by rw [hg]; exact Nat.ne_of_lt (blk_lt (g := fA) (o := .cells #[.int .i64 lA, .int .i64 mA, .int .i64 oA, .int .i64 rA, .int .i64 sA, .int .i64 tA, .int .i64 uA, .int .i64 vA] 54 (0, 0)) q1_4)) : p := h
theorem q1_12 {p : Prop} (h : p := by rw [hg]; exact Nat.ne_of_gt (blk_lt (g := fA) (o := .cells #[.int .i64 lA, .int .i64 mA, .int .i64 oA, .int .i64 rA, .int .i64 sA, .int .i64 tA, .int .i64 uA, .int .i64 vA] 54 (0, 0)) q1_4)) : p := h
/-! ### laws_eqIntS: function 29 -/
def laws_eqIntS.l0 : Nat → List Int → List Int → Int → Option (Bool)
 | 0, _, _, _ => none
 | k + 1, x0, x1, x5 => if x5 < (x0.length : Int) then (if 0 ≤ x5 then (if x5 < (x1.length : Int) then (if (rd x0 x5) = (rd x1 x5) then (laws_eqIntS.l0 k x0 x1 (wrap64 (x5 + 1))) else (some false)) else (none)) else (none)) else (some true)
def laws_eqIntS.f (k : Nat) (l0 : List Int) (l1 : List Int) : Option (Bool) := if (l0.length : Int) = (l1.length : Int) then (laws_eqIntS.l0 k l0 l1 0) else (some false)
theorem laws_eqIntS.mono_l : ∀ k, (∀ y0 y1 y2, LeO (laws_eqIntS.l0 k y0 y1 y2) (laws_eqIntS.l0 (k + 1) y0 y1 y2))
 | 0 => fun _ _ _ r h => by simp [laws_eqIntS.l0] at h
 | k + 1 => by
  have ih0 := laws_eqIntS.mono_l k
  ·intro y0 y1 y2
   unfold laws_eqIntS.l0
   repeat' first
   | (with_reducible exact ih0 _ _ _)
   | (with_reducible exact LeO.refl _)
   | (with_reducible exact LeO.none _)
   | (with_reducible refine LeO.ite ?_ ?_)
   | (with_reducible refine LeO.bind ?_ (fun _ => ?_))
   | exact ih0 _ _ _
   | exact LeO.none _
   | refine LeO.ite ?_ ?_
   | refine LeO.bind ?_ (fun _ => ?_)
theorem laws_eqIntS.mono : ∀ a0 a1 k, LeO (laws_eqIntS.f k a0 a1) (laws_eqIntS.f (k + 1) a0 a1) := by
 intro a0 a1 k
 have ih0 := laws_eqIntS.mono_l k
 unfold laws_eqIntS.f
 repeat' first
   | (with_reducible exact ih0 _ _ _)
   | (with_reducible exact LeO.refl _)
   | (with_reducible exact LeO.none _)
   | (with_reducible refine LeO.ite ?_ ?_)
   | (with_reducible refine LeO.bind ?_ (fun _ => ?_))
   | exact ih0 _ _ _
   | exact LeO.none _
   | refine LeO.ite ?_ ?_
   | refine LeO.bind ?_ (fun _ => ?_)
set_option maxHeartbeats 8000000 in
set_option maxRecDepth 100000 in
theorem laws_eqIntS.calls (k : Nat) (A0 : Option Addr) (c0 : Nat) (l0 : List Int) (A1 : Option Addr) (c1 : Nat) (l1 : List Int) (r : Bool) (w : World) (hr0 : Kd.C (Kd.int .i64) w A0 l0.length l0) (hc0 : l0.length ≤ c0) (hr1 : Kd.C (Kd.int .i64) w A1 l1.length l1) (hc1 : l1.length ≤ c1) (h : laws_eqIntS.f k l0 l1 = some r) :
  Calls Try.prog 29 #[.slice A0 l0.length c0, .slice A1 l1.length c1] w fun e w' => e = .returned (.bool r) ∧ Drawn0 w w' := by
 have HR0 := Aside0.mk hr0
 clear hr0 hc0
 have HR1 := Aside0.mk hr1
 clear hr1 hc1
 have H : (if (l0.length : Int) = (l1.length : Int) then (laws_eqIntS.l0 k l0 l1 0) else (some false)) = some r := h
 clear h
 by_cases c3 : (l0.length : Int) = (l1.length : Int)
 ·rw [if_pos c3] at H
  have wA : ((l0.length : Int) == (l1.length : Int)) = true := beq_iff_eq.mpr c3
  have QA : ((l0.length : Int) != (l1.length : Int)) = false := bne_eq_false_iff_eq.mpr c3
  have fB : (l0.length == l1.length) = true := by first | simpa using c3 | (simp at c3 ⊢; omega)
  clear c3
  have H' := Aside0.mk H
  clear H
  go_enter Try.func29, Try.ntmps29
  go_wp2
  repeat (go_quiet (fail); try go_wp2)
  go_loopg [5] k (fun kq v5 w' => ∃ (aA : Int), v5 = .int .i64 aA ∧ Aside0 (laws_eqIntS.l0 kq l0 l1 aA = some r) ∧ Aside0 (kq ≤ k) ∧ Drawn0 w w')
  case atStart => exact ⟨(0), q1_2, H', ⟨Nat.le_refl _⟩, q1_3⟩
  case round =>
   clear H'
   (try clear c1); (try clear c2); (try clear p2); (try clear c3); (try clear wA); (try clear QA); (try clear fB)
   obtain ⟨aA, rfl, HA, HK1, ⟨m1, rfl⟩⟩ := hrel
   cases gk with
   | zero => exact absurd HA.out (by simp [laws_eqIntS.l0])
   | succ k1 =>
    have H := HA.out
    clear HA
    simp only [laws_eqIntS.l0] at H
    by_cases c4 : aA < (l0.length : Int)
    ·rw [if_pos c4] at H
     have RA : decide (aA < (l0.length : Int)) = true := decide_eq_true c4
     clear c4
     by_cases c5 : 0 ≤ aA
     ·rw [if_pos c5] at H
      have LA : decide (0 ≤ aA) = true := decide_eq_true c5
      clear c5
      by_cases c6 : aA < (l1.length : Int)
      ·rw [if_pos c6] at H
       have MA : decide (aA < (l1.length : Int)) = true := decide_eq_true c6
       clear c6
       by_cases c7 : (rd l0 aA) = (rd l1 aA)
       ·rw [if_pos c7] at H
        have ZA : ((rd l0 aA) == (rd l1 aA)) = true := beq_iff_eq.mpr c7
        have KB : ((rd l0 aA) != (rd l1 aA)) = false := bne_eq_false_iff_eq.mpr c7
        clear c7
        have H' := Aside0.mk H
        clear H
        have p101 : 0 ≤ (aA : Int) := of_decide_eq_true q1_1
        have q101 : aA < (l0.length : Int) := of_decide_eq_true q1_1
        obtain ⟨ad101, bB, SA⟩ := Kd.at_int HR0.out aA p101 q101
        cases bB
        replace p101 := eq_true p101
        replace q101 := eq_true q101
        have p102 : 0 ≤ (aA : Int) := of_decide_eq_true q1_1
        have q102 : aA < (l1.length : Int) := of_decide_eq_true q1_1
        obtain ⟨ad102, cB, TA⟩ := Kd.at_int HR1.out aA p102 q102
        cases cB
        replace p102 := eq_true p102
        replace q102 := eq_true q102
        go_wp2
        repeat (go_quiet (fail); try go_wp2)
        go_roundg k1
        case measure => have := HK1.out; omega
        case rel => exact ⟨(wrap64 (aA + 1)), q1_2, H', ⟨by have := HK1.out; omega⟩, q1_3⟩
       ·rw [if_neg c7] at H
        have ZA : ((rd l0 aA) == (rd l1 aA)) = false := beq_eq_false_iff_ne.mpr c7
        have KB : ((rd l0 aA) != (rd l1 aA)) = true := bne_iff_ne.mpr c7
        obtain rfl := Option.some.inj H
        have p101 : 0 ≤ (aA : Int) := of_decide_eq_true q1_1
        have q101 : aA < (l0.length : Int) := of_decide_eq_true q1_1
        obtain ⟨ad101, bB, SA⟩ := Kd.at_int HR0.out aA p101 q101
        cases bB
        replace p101 := eq_true p101
        replace q101 := eq_true q101
        have p102 : 0 ≤ (aA : Int) := of_decide_eq_true q1_1
        have q102 : aA < (l1.length : Int) := of_decide_eq_true q1_1
        obtain ⟨ad102, cB, TA⟩ := Kd.at_int HR1.out aA p102 q102
        cases cB
        replace p102 := eq_true p102
        replace q102 := eq_true q102
        go_wp2
        repeat (go_quiet (fail); try go_wp2)
        go_ret
        exact ⟨q1_2, q1_3⟩
      ·rw [if_neg c6] at H
       exact absurd H (by simp)
     ·rw [if_neg c5] at H
      exact absurd H (by simp)
    ·rw [if_neg c4] at H
     have RA : decide (aA < (l0.length : Int)) = false := decide_eq_false c4
     clear c4
     obtain rfl := Option.some.inj H
     go_wp2
     repeat (go_quiet (fail); try go_wp2)
     go_ret
     exact ⟨q1_2, q1_3⟩
 ·rw [if_neg c3] at H
  have wA : ((l0.length : Int) == (l1.length : Int)) = false := beq_eq_false_iff_ne.mpr c3
  have QA : ((l0.length : Int) != (l1.length : Int)) = true := bne_iff_ne.mpr c3
  have fB : (l0.length == l1.length) = false := by first | simpa using c3 | (simp at c3 ⊢; omega)
  obtain rfl := Option.some.inj H
  go_enter Try.func29, Try.ntmps29
  go_wp2
  repeat (go_quiet (fail); try go_wp2)
  go_ret
  exact ⟨q1_2, q1_3⟩

/-! ### laws_markIntS: function 30 -/
def laws_markIntS.l0 : Nat → List Int → Int → Int → Option (Int × List Int)
 | 0, _, _, _ => none
 | k + 1, x0, x1, x5 => if x5 < (x0.length : Int) then (if 0 ≤ x5 then (laws_markIntS.l0 k (x0.set (x5 : Int).toNat x1) (wrap64 (x1 + 1)) (wrap64 (x5 + 1))) else (none)) else (some (x1, x0))
def laws_markIntS.f (k : Nat) (l0 : List Int) (a1 : Int) : Option (Int × List Int) := laws_markIntS.l0 k l0 a1 0
theorem laws_markIntS.mono_l : ∀ k, (∀ y0 y1 y2, LeO (laws_markIntS.l0 k y0 y1 y2) (laws_markIntS.l0 (k + 1) y0 y1 y2))
 | 0 => fun _ _ _ r h => by simp [laws_markIntS.l0] at h
 | k + 1 => by
  have ih0 := laws_markIntS.mono_l k
  ·intro y0 y1 y2
   unfold laws_markIntS.l0
   repeat' first
   | (with_reducible exact ih0 _ _ _)
   | (with_reducible exact LeO.refl _)
   | (with_reducible exact LeO.none _)
   | (with_reducible refine LeO.ite ?_ ?_)
   | (with_reducible refine LeO.bind ?_ (fun _ => ?_))
   | exact ih0 _ _ _
   | exact LeO.none _
   | refine LeO.ite ?_ ?_
   | refine LeO.bind ?_ (fun _ => ?_)
theorem laws_markIntS.mono : ∀ a0 a1 k, LeO (laws_markIntS.f k a0 a1) (laws_markIntS.f (k + 1) a0 a1) := by
 intro a0 a1 k
 have ih0 := laws_markIntS.mono_l k
 unfold laws_markIntS.f
 repeat' first
   | (with_reducible exact ih0 _ _ _)
   | (with_reducible exact LeO.refl _)
   | (with_reducible exact LeO.none _)
   | (with_reducible refine LeO.ite ?_ ?_)
   | (with_reducible refine LeO.bind ?_ (fun _ => ?_))
   | exact ih0 _ _ _
   | exact LeO.none _
   | refine LeO.ite ?_ ?_
   | refine LeO.bind ?_ (fun _ => ?_)
set_option maxHeartbeats 8000000 in
set_option maxRecDepth 100000 in
theorem laws_markIntS.calls (k : Nat) (P0_ : Nat → Prop) (u9000_ : Value) (l0 : List Int) (a1 : Int) (r1 : Int) (r2 : List Int) (w0 w : World) (hB : Below w0.heap.size w0 w) (ho0 : Kd.R (Kd.int .i64) 3 w w0.heap.size P0_ u9000_ l0) (h : laws_markIntS.f k l0 a1 = some (r1, r2)) :
  Calls Try.prog 30 #[u9000_, .int .i64 a1] w fun e w' => e = .returned (.int .i64 r1) ∧ Kd.R (Kd.int .i64) 3 w' w0.heap.size (fun k_ => (P0_ k_ ∨ w.heap.size ≤ k_)) u9000_ r2 ∧ Below w0.heap.size w0 w' ∧ Kept w w' (fun k_ => P0_ k_) := by
 have NC := Aside0.mk (show Kd.R (Kd.int .i64) 3 w w0.heap.size (fun k_ => (P0_ k_ ∨ w.heap.size ≤ k_)) u9000_ l0 from Kd.R_mono ho0 (fun k_ hk => (.inl hk)))
 have HK := Aside0.mk (Kept.refl w (fun k_ => P0_ k_))
 have HW0 := Aside0.mk hB.size
 have HB := Aside0.mk hB
 clear hB
 have H : (laws_markIntS.l0 k l0 a1 0) = some (r1, r2) := h
 clear h
 have H' := Aside0.mk H
 clear H
 go_enter Try.func30, Try.ntmps30
 go_wp2
 go_loopg [1, 5] k (fun kq v1 v5 w' => ∃ (zA : List Int) (nA : Int) (aA : Int), v1 = .int .i64 nA ∧ v5 = .int .i64 aA ∧ Aside0 (laws_markIntS.l0 kq zA nA aA = some (r1, r2)) ∧ Aside0 (kq ≤ k) ∧ Aside0 (Kd.R (Kd.int .i64) 3 w' w0.heap.size (fun k_ => (P0_ k_ ∨ w.heap.size ≤ k_)) u9000_ zA) ∧ Aside0 (Kept w w' (fun k_ => P0_ k_)) ∧ Aside0 (Below w0.heap.size w0 w'))
 case atStart => exact ⟨(l0), (a1), (0), q1_2, q1_2, H', ⟨Nat.le_refl _⟩, ⟨by (with_reducible repeat (first | apply Kd.R_alloc | apply Kd.R_drewN | apply Kd.R_drew)); exact NC.out⟩, ⟨q1_8⟩, ⟨q1_0⟩⟩
 case round =>
  clear H'
  try clear p2
  obtain ⟨zA, nA, aA, rfl, rfl, HA, HK1, xA, HK, HB⟩ := hrel
  cases gk with
  | zero => exact absurd HA.out (by simp [laws_markIntS.l0])
  | succ k1 =>
   have H := HA.out
   clear HA
   simp only [laws_markIntS.l0] at H
   by_cases c3 : aA < (zA.length : Int)
   ·rw [if_pos c3] at H
    have wA : decide (aA < (zA.length : Int)) = true := decide_eq_true c3
    clear c3
    by_cases c4 : 0 ≤ aA
    ·rw [if_pos c4] at H
     have RA : decide (0 ≤ aA) = true := decide_eq_true c4
     clear c4
     obtain ⟨y103, hy103⟩ : ∃ y_ : List Int, y_ = (zA.set (aA : Int).toNat nA) := ⟨_, rfl⟩
     replace H : (laws_markIntS.l0 k1 y103 (wrap64 (nA + 1)) (wrap64 (aA + 1))) = some (r1, r2) := by first | (rw [hy103]; with_reducible exact H) | (have H2_ := (Option.bind_some _ _).symm.trans H; rw [hy103]; with_reducible exact H2_) | (have H2_ := (Option.bind_some _ _).symm.trans H; with_reducible exact H2_) | with_reducible exact H | (rw [hy103]; exact H) | exact H
     have Ny103 := Aside0.mk hy103
     clear hy103
     have H' := Aside0.mk H
     clear H
     obtain ⟨cD, OC, PC⟩ := Kd.R_slice xA.out
     subst PC
     have p5 : 0 ≤ (aA : Int) := of_decide_eq_true q1_1
     have q5 : (aA : Int) < ((zA.length : Int) : Int) := of_decide_eq_true q1_1
     obtain ⟨go5, dD, zC, AC, gl5, cl5, HG5⟩ := Kd.R_form xA.out (by omega)
     (first | cases zC | (injection zC with ea_ en_ ec_; (first | subst ea_ | (injection ea_ with ea_; subst ea_)); subst ec_; clear en_))
     have GB5 := Aside0.mk AC
     have GG5 := Aside0.mk HG5
     clear AC gl5 HG5
     obtain ⟨BC, CC⟩ := Kd.R_celln 0 xA.out (aA : Int) p5 q5
     replace p5 := eq_true p5
     replace q5 := eq_true q5
     have HP7 := Kd.R_putg xA.out (aA : Int) nA
     go_wp2_with (first | ((with_reducible refine gate_store (t := 3) (p := 15) rfl ?_); refine store_event (t := 3) (p := 15) (v := ?vo_w8) (w1 := (wr.setCell ⟨go5, (aA : Int).toNat, none⟩ (.int .i64 nA))) ?hg ?ho ?hn ?hr ?_; (case ho => rfl); (case hg => rfl); (case hn => rfl); (case hr => first | (go_simp; done) | (go_simp; rfl)); intro w8 hw; have hg : wr.grownBy w8 (some go5) := (by rw [hw]; exact HP7.2); have hp_ : Kd.R (Kd.int .i64) 3 w8 w0.heap.size (fun k_ => (P0_ k_ ∨ w.heap.size ≤ k_)) (.slice (some ⟨go5, 0, none⟩) zA.length OC) y103 := (by rw [hw, Ny103.out]; exact HP7.1); clear HP7; have pA := Aside0.mk (hp_); have qA := Aside0.mk ((by rw [hw]; exact below_set (HB.out) GB5.out : Below w0.heap.size w0 w8)); have NA := Aside0.mk (Kept.of_grown (S := (fun k_ => P0_ k_)) hg q1_8 (fun k_ e_ => (xA.out.1 k_ e_))); clear xA HB HK; have xA := pA; have HB := qA; have HK := NA; clear pA qA NA; clear hg hw hp_))
     go_roundg k1
     case measure => have := HK1.out; omega
     case rel => exact ⟨(y103), (wrap64 (nA + 1)), (wrap64 (aA + 1)), q1_2, q1_2, H', ⟨by have := HK1.out; omega⟩, ⟨by (with_reducible repeat (first | apply Kd.R_alloc | apply Kd.R_drewN | apply Kd.R_drew)); exact xA.out⟩, ⟨q1_8⟩, ⟨q1_0⟩⟩
    ·rw [if_neg c4] at H
     exact absurd H (by simp)
   ·rw [if_neg c3] at H
    have wA : decide (aA < (zA.length : Int)) = false := decide_eq_false c3
    clear c3
    simp only [Option.some.injEq, Prod.mk.injEq] at H
    obtain ⟨rfl, rfl⟩ := H
    obtain ⟨eD, DC, sB⟩ := Kd.R_slice xA.out
    subst sB
    go_wp2
    go_ret
    exact ⟨q1_7, by (with_reducible repeat (first | apply Kd.R_alloc | apply Kd.R_drewN | apply Kd.R_drew)); exact xA.out, q1_0, q1_8⟩

/-! ### laws_heldIntS: function 31 -/
def laws_heldIntS.l0 : Nat → List Int → Int → Int → Option (Int)
 | 0, _, _, _ => none
 | k + 1, x0, x1, x5 => if x5 < (x0.length : Int) then (if 0 ≤ x5 then (if (rd x0 x5) = x1 then (laws_heldIntS.l0 k x0 (wrap64 (x1 + 1)) (wrap64 (x5 + 1))) else (some (-1))) else (none)) else (some x1)
def laws_heldIntS.f (k : Nat) (l0 : List Int) (a1 : Int) : Option (Int) := laws_heldIntS.l0 k l0 a1 0
theorem laws_heldIntS.mono_l : ∀ k, (∀ y0 y1 y2, LeO (laws_heldIntS.l0 k y0 y1 y2) (laws_heldIntS.l0 (k + 1) y0 y1 y2))
 | 0 => fun _ _ _ r h => by simp [laws_heldIntS.l0] at h
 | k + 1 => by
  have ih0 := laws_heldIntS.mono_l k
  ·intro y0 y1 y2
   unfold laws_heldIntS.l0
   repeat' first
   | (with_reducible exact ih0 _ _ _)
   | (with_reducible exact LeO.refl _)
   | (with_reducible exact LeO.none _)
   | (with_reducible refine LeO.ite ?_ ?_)
   | (with_reducible refine LeO.bind ?_ (fun _ => ?_))
   | exact ih0 _ _ _
   | exact LeO.none _
   | refine LeO.ite ?_ ?_
   | refine LeO.bind ?_ (fun _ => ?_)
theorem laws_heldIntS.mono : ∀ a0 a1 k, LeO (laws_heldIntS.f k a0 a1) (laws_heldIntS.f (k + 1) a0 a1) := by
 intro a0 a1 k
 have ih0 := laws_heldIntS.mono_l k
 unfold laws_heldIntS.f
 repeat' first
   | (with_reducible exact ih0 _ _ _)
   | (with_reducible exact LeO.refl _)
   | (with_reducible exact LeO.none _)
   | (with_reducible refine LeO.ite ?_ ?_)
   | (with_reducible refine LeO.bind ?_ (fun _ => ?_))
   | exact ih0 _ _ _
   | exact LeO.none _
   | refine LeO.ite ?_ ?_
   | refine LeO.bind ?_ (fun _ => ?_)
set_option maxHeartbeats 8000000 in
set_option maxRecDepth 100000 in
theorem laws_heldIntS.calls (k : Nat) (A0 : Option Addr) (c0 : Nat) (l0 : List Int) (a1 : Int) (r : Int) (w : World) (hr0 : Kd.C (Kd.int .i64) w A0 l0.length l0) (hc0 : l0.length ≤ c0) (h : laws_heldIntS.f k l0 a1 = some r) :
  Calls Try.prog 31 #[.slice A0 l0.length c0, .int .i64 a1] w fun e w' => e = .returned (.int .i64 r) ∧ Drawn0 w w' := by
 have HR0 := Aside0.mk hr0
 clear hr0 hc0
 have H : (laws_heldIntS.l0 k l0 a1 0) = some r := h
 clear h
 have H' := Aside0.mk H
 clear H
 go_enter Try.func31, Try.ntmps31
 go_wp2
 go_loopg [1, 5] k (fun kq v1 v5 w' => ∃ (nA : Int) (aA : Int), v1 = .int .i64 nA ∧ v5 = .int .i64 aA ∧ Aside0 (laws_heldIntS.l0 kq l0 nA aA = some r) ∧ Aside0 (kq ≤ k) ∧ Drawn0 w w')
 case atStart => exact ⟨(a1), (0), q1_2, q1_2, H', ⟨Nat.le_refl _⟩, q1_3⟩
 case round =>
  clear H'
  try clear p2
  obtain ⟨nA, aA, rfl, rfl, HA, HK1, ⟨m1, rfl⟩⟩ := hrel
  cases gk with
  | zero => exact absurd HA.out (by simp [laws_heldIntS.l0])
  | succ k1 =>
   have H := HA.out
   clear HA
   simp only [laws_heldIntS.l0] at H
   by_cases c3 : aA < (l0.length : Int)
   ·rw [if_pos c3] at H
    have wA : decide (aA < (l0.length : Int)) = true := decide_eq_true c3
    clear c3
    by_cases c4 : 0 ≤ aA
    ·rw [if_pos c4] at H
     have RA : decide (0 ≤ aA) = true := decide_eq_true c4
     clear c4
     by_cases c5 : (rd l0 aA) = nA
     ·rw [if_pos c5] at H
      have LA : ((rd l0 aA) == nA) = true := beq_iff_eq.mpr c5
      have LB : ((rd l0 aA) != nA) = false := bne_eq_false_iff_eq.mpr c5
      clear c5
      have H' := Aside0.mk H
      clear H
      have p104 : 0 ≤ (aA : Int) := of_decide_eq_true q1_1
      have q104 : aA < (l0.length : Int) := of_decide_eq_true q1_1
      obtain ⟨ad104, dB, UA⟩ := Kd.at_int HR0.out aA p104 q104
      cases dB
      replace p104 := eq_true p104
      replace q104 := eq_true q104
      go_wp2
      go_roundg k1
      case measure => have := HK1.out; omega
      case rel => exact ⟨(wrap64 (nA + 1)), (wrap64 (aA + 1)), q1_2, q1_2, H', ⟨by have := HK1.out; omega⟩, q1_3⟩
     ·rw [if_neg c5] at H
      have LA : ((rd l0 aA) == nA) = false := beq_eq_false_iff_ne.mpr c5
      have LB : ((rd l0 aA) != nA) = true := bne_iff_ne.mpr c5
      obtain rfl := Option.some.inj H
      have p104 : 0 ≤ (aA : Int) := of_decide_eq_true q1_1
      have q104 : aA < (l0.length : Int) := of_decide_eq_true q1_1
      obtain ⟨ad104, dB, UA⟩ := Kd.at_int HR0.out aA p104 q104
      cases dB
      replace p104 := eq_true p104
      replace q104 := eq_true q104
      go_wp2
      go_ret
      exact ⟨q1_2, q1_3⟩
    ·rw [if_neg c4] at H
     exact absurd H (by simp)
   ·rw [if_neg c3] at H
    have wA : decide (aA < (l0.length : Int)) = false := decide_eq_false c3
    clear c3
    obtain rfl := Option.some.inj H
    go_wp2
    go_ret
    exact ⟨q1_2, q1_3⟩

/-! ### laws_toIntS: function 33 -/
def laws_toIntS.l0 : Nat → List Int → List Int → Int → Option (List Int)
 | 0, _, _, _ => none
 | k + 1, x0, x3, x4 => if x4 < (x0.length : Int) then (if 0 ≤ x4 then (if x4 < (x3.length : Int) then (laws_toIntS.l0 k x0 (x3.set (x4 : Int).toNat (rd x0 x4)) (wrap64 (x4 + 1))) else (none)) else (none)) else (some x3)
def laws_toIntS.f (k : Nat) (l0 : List Int) : Option (List Int) := if 0 ≤ (l0.length : Int) then (if ((l0.length : Int) : Int).toNat ≤ 35184372088832 then (laws_toIntS.l0 k l0 (List.replicate ((l0.length : Int) : Int).toNat 0) 0) else (none)) else (none)
theorem laws_toIntS.mono_l : ∀ k, (∀ y0 y1 y2, LeO (laws_toIntS.l0 k y0 y1 y2) (laws_toIntS.l0 (k + 1) y0 y1 y2))
 | 0 => fun _ _ _ r h => by simp [laws_toIntS.l0] at h
 | k + 1 => by
  have ih0 := laws_toIntS.mono_l k
  ·intro y0 y1 y2
   unfold laws_toIntS.l0
   repeat' first
   | (with_reducible exact ih0 _ _ _)
   | (with_reducible exact LeO.refl _)
   | (with_reducible exact LeO.none _)
   | (with_reducible refine LeO.ite ?_ ?_)
   | (with_reducible refine LeO.bind ?_ (fun _ => ?_))
   | exact ih0 _ _ _
   | exact LeO.none _
   | refine LeO.ite ?_ ?_
   | refine LeO.bind ?_ (fun _ => ?_)
theorem laws_toIntS.mono : ∀ a0 k, LeO (laws_toIntS.f k a0) (laws_toIntS.f (k + 1) a0) := by
 intro a0 k
 have ih0 := laws_toIntS.mono_l k
 unfold laws_toIntS.f
 repeat' first
   | (with_reducible exact ih0 _ _ _)
   | (with_reducible exact LeO.refl _)
   | (with_reducible exact LeO.none _)
   | (with_reducible refine LeO.ite ?_ ?_)
   | (with_reducible refine LeO.bind ?_ (fun _ => ?_))
   | exact ih0 _ _ _
   | exact LeO.none _
   | refine LeO.ite ?_ ?_
   | refine LeO.bind ?_ (fun _ => ?_)
set_option maxHeartbeats 8000000 in
set_option maxRecDepth 100000 in
theorem laws_toIntS.calls (k : Nat) (A0 : Option Addr) (c0 : Nat) (l0 : List Int) (r : List Int) (w : World) (hr0 : Kd.C (Kd.int .i64) w A0 l0.length l0) (hc0 : l0.length ≤ c0) (h : laws_toIntS.f k l0 = some r) :
  Calls Try.prog 33 #[.slice A0 l0.length c0] w fun e w' => ∃ v0_ : Value, e = .returned (v0_) ∧ Kd.R (Kd.int .i64) 3 w' w.heap.size (fun _ => True) v0_ r ∧ Below w.heap.size w w' := by
 have HR0 := Aside0.mk hr0
 clear hr0 hc0
 have HB := Aside0.mk (Below.refl w.heap.size w)
 have H : (if 0 ≤ (l0.length : Int) then (if ((l0.length : Int) : Int).toNat ≤ 35184372088832 then (laws_toIntS.l0 k l0 (List.replicate ((l0.length : Int) : Int).toNat 0) 0) else (none)) else (none)) = some r := h
 clear h
 by_cases c2 : 0 ≤ (l0.length : Int)
 ·rw [if_pos c2] at H
  have MB := eq_true c2
  have NB : decide (0 ≤ (l0.length : Int)) = true := decide_eq_true c2
  clear c2
  by_cases c3 : ((l0.length : Int) : Int).toNat ≤ 35184372088832
  ·rw [if_pos c3] at H
   have wA := eq_true c3
   have QA : decide (((l0.length : Int) : Int).toNat ≤ 35184372088832) = true := decide_eq_true c3
   clear c3
   obtain ⟨y105, hy105⟩ : ∃ y_ : List Int, y_ = (List.replicate ((l0.length : Int) : Int).toNat 0) := ⟨_, rfl⟩
   replace H : (laws_toIntS.l0 k l0 y105 0) = some r := by first | (rw [hy105]; with_reducible exact H) | (have H2_ := (Option.bind_some _ _).symm.trans H; rw [hy105]; with_reducible exact H2_) | (have H2_ := (Option.bind_some _ _).symm.trans H; with_reducible exact H2_) | with_reducible exact H | (rw [hy105]; exact H) | exact H
   have Ny105 := Aside0.mk hy105
   clear hy105
   have H' := Aside0.mk H
   clear H
   go_enter Try.func33, Try.ntmps33
   go_wp2_with (first | ((with_reducible refine gate_dst (N := 7) rfl ?_); refine Kd.R_make (Kd.int .i64) _ 3 rfl (N := 7) rfl 27 _ _ rfl (l0.length : Int) rfl rfl Try.underlying27 (.int .i64 0) 8 info3 rfl (by decide) (by omega) 0 (ok := fun _ => True) (okp := fun _ => True) rfl (fun _ hk => hk) trivial (of_decide_eq_true q1_1) (Nat.le_trans (Nat.mul_le_mul_right _ (of_decide_eq_true q1_1 : (l0.length : Int).toNat ≤ 35184372088832)) (by omega)) (Below.refl _ _) (Nat.le_refl _) ?_; intro OB w4 ho5 hb hg_ hnew_; clear hg_ hnew_; (first | rw [← Ny105.out] at ho5 | (simp only [Int.reduceToNat] at ho5; rw [← Ny105.out] at ho5)); have pA := Aside0.mk (Kd.R_lower ho5 (below_size q1_0)); have qA := Aside0.mk (below_step q1_0 hb); clear HB; have gB := pA; have HB := qA; clear pA qA; clear hb ho5))
   go_loopg [4] k (fun kq v4 w' => ∃ (BA : List Int) (iA : Int), v4 = .int .i64 iA ∧ Aside0 (laws_toIntS.l0 kq l0 BA iA = some r) ∧ Aside0 (kq ≤ k) ∧ Aside0 (Kd.R (Kd.int .i64) 3 w' w.heap.size (fun _ => True) OB BA) ∧ Aside0 (Below w.heap.size w w'))
   case atStart => exact ⟨(y105), (0), q1_2, H', ⟨Nat.le_refl _⟩, ⟨by (with_reducible repeat (first | apply Kd.R_alloc | apply Kd.R_drewN | apply Kd.R_drew)); exact gB.out⟩, ⟨q1_0⟩⟩
   case round =>
    clear H'
    (try clear c2); (try clear MB); (try clear NB); (try clear p2); (try clear c3); (try clear wA); (try clear QA)
    obtain ⟨BA, iA, rfl, HA, HK1, CA, HB⟩ := hrel
    cases gk with
    | zero => exact absurd HA.out (by simp [laws_toIntS.l0])
    | succ k1 =>
     have H := HA.out
     clear HA
     simp only [laws_toIntS.l0] at H
     by_cases c6 : iA < (l0.length : Int)
     ·rw [if_pos c6] at H
      have MA : decide (iA < (l0.length : Int)) = true := decide_eq_true c6
      clear c6
      by_cases c7 : 0 ≤ iA
      ·rw [if_pos c7] at H
       have ZA : decide (0 ≤ iA) = true := decide_eq_true c7
       clear c7
       by_cases c8 : iA < (BA.length : Int)
       ·rw [if_pos c8] at H
        have QC : decide (iA < (BA.length : Int)) = true := decide_eq_true c8
        clear c8
        obtain ⟨y109, hy109⟩ : ∃ y_ : List Int, y_ = (BA.set (iA : Int).toNat (rd l0 iA)) := ⟨_, rfl⟩
        replace H : (laws_toIntS.l0 k1 l0 y109 (wrap64 (iA + 1))) = some r := by first | (rw [hy109]; with_reducible exact H) | (have H2_ := (Option.bind_some _ _).symm.trans H; rw [hy109]; with_reducible exact H2_) | (have H2_ := (Option.bind_some _ _).symm.trans H; with_reducible exact H2_) | with_reducible exact H | (rw [hy109]; exact H) | exact H
        have Ny109 := Aside0.mk hy109
        clear hy109
        have H' := Aside0.mk H
        clear H
        have p108 : 0 ≤ (iA : Int) := of_decide_eq_true q1_1
        have q108 : iA < (l0.length : Int) := of_decide_eq_true q1_1
        obtain ⟨ad108, PB, AA⟩ := Kd.at_int HR0.out iA p108 q108
        cases PB
        replace AA := (HB.out.cell (World.block_lt_of_cell? w _ AA)).trans AA
        replace p108 := eq_true p108
        replace q108 := eq_true q108
        have p9 : 0 ≤ (iA : Int) := of_decide_eq_true q1_1
        have q9 : (iA : Int) < ((BA.length : Int) : Int) := of_decide_eq_true q1_1
        obtain ⟨go9, DC, sB, EC, gl9, cl9, HG9⟩ := Kd.R_form CA.out (by omega)
        (first | cases sB | (injection sB with ea_ en_ ec_; (first | subst ea_ | (injection ea_ with ea_; subst ea_)); subst ec_; clear en_))
        have GB9 := Aside0.mk EC
        have GG9 := Aside0.mk HG9
        clear EC gl9 HG9
        obtain ⟨FC, GC⟩ := Kd.R_celln 0 CA.out (iA : Int) p9 q9
        replace p9 := eq_true p9
        replace q9 := eq_true q9
        have HP10 := Kd.R_putg CA.out (iA : Int) (rd l0 iA)
        go_wp2_with (first | ((with_reducible refine gate_store (t := 3) (p := 20) rfl ?_); refine store_event (t := 3) (p := 20) (v := ?vo_w11) (w1 := (wr.setCell ⟨go9, (iA : Int).toNat, none⟩ (.int .i64 (rd l0 iA)))) ?hg ?ho ?hn ?hr ?_; (case ho => rfl); (case hg => rfl); (case hn => rfl); (case hr => first | (go_simp; done) | (go_simp; rfl)); intro QB hw; have hg : wr.grownBy QB (some go9) := (by rw [hw]; exact HP10.2); have hp_ : Kd.R (Kd.int .i64) 3 QB w.heap.size (fun _ => True) (.slice (some ⟨go9, 0, none⟩) BA.length DC) y109 := (by rw [hw, Ny109.out]; exact HP10.1); clear HP10; have pA := Aside0.mk (hp_); have qA := Aside0.mk ((by rw [hw]; exact below_set (HB.out) GB9.out : Below w.heap.size w QB)); clear CA HB; have CA := pA; have HB := qA; clear pA qA; clear hg hw hp_))
        go_roundg k1
        case measure => have := HK1.out; omega
        case rel => exact ⟨(y109), (wrap64 (iA + 1)), q1_2, H', ⟨by have := HK1.out; omega⟩, ⟨by (with_reducible repeat (first | apply Kd.R_alloc | apply Kd.R_drewN | apply Kd.R_drew)); exact CA.out⟩, ⟨q1_0⟩⟩
       ·rw [if_neg c8] at H
        exact absurd H (by simp)
      ·rw [if_neg c7] at H
       exact absurd H (by simp)
     ·rw [if_neg c6] at H
      have MA : decide (iA < (l0.length : Int)) = false := decide_eq_false c6
      clear c6
      obtain rfl := Option.some.inj H
      go_wp2
      go_ret
      exact ⟨_, q1_7, by (with_reducible repeat (first | apply Kd.R_alloc | apply Kd.R_drewN | apply Kd.R_drew)); exact CA.out, q1_0⟩
  ·rw [if_neg c3] at H
   exact absurd H (by simp)
 ·rw [if_neg c2] at H
  exact absurd H (by simp)

/-! ### laws_toFact: function 34 -/
def laws_toFact.f (lA : Int) (mA : Int) (oA : Int) (rA : Int) (sA : Int) (tA : Int) (uA : Int) (vA : Int) : Option (Int × Int × Int × Int × Int × Int × Int × Int) := some (lA, mA, oA, rA, sA, tA, uA, vA)
set_option maxHeartbeats 8000000 in
set_option maxRecDepth 100000 in
theorem laws_toFact.calls (lA : Int) (mA : Int) (oA : Int) (rA : Int) (sA : Int) (tA : Int) (uA : Int) (vA : Int) (r1 : Int) (r2 : Int) (r3 : Int) (r4 : Int) (r5 : Int) (r6 : Int) (r7 : Int) (r8 : Int) (w : World) (h : laws_toFact.f lA mA oA rA sA tA uA vA = some (r1, r2, r3, r4, r5, r6, r7, r8)) :
  Calls Try.prog 34 #[.agg #[.int .i64 lA, .int .i64 mA, .int .i64 oA, .int .i64 rA, .int .i64 sA, .int .i64 tA, .int .i64 uA, .int .i64 vA]] w fun e w' => e = .returned (.agg #[.int .i64 r1, .int .i64 r2, .int .i64 r3, .int .i64 r4, .int .i64 r5, .int .i64 r6, .int .i64 r7, .int .i64 r8]) ∧ Below w.heap.size w w' := by
 have hu54 := Try.underlying54
 have hu58 := Try.underlying58
 have HB := Aside0.mk (Below.refl w.heap.size w)
 have H : (some (lA, mA, oA, rA, sA, tA, uA, vA)) = some (r1, r2, r3, r4, r5, r6, r7, r8) := h
 clear h
 simp only [Option.some.injEq, Prod.mk.injEq] at H
 obtain ⟨rfl, rfl, rfl, rfl, rfl, rfl, rfl, rfl⟩ := H
 go_enter Try.func34, Try.ntmps34
 go_wp2_with (first | ((with_reducible refine gate_dst (N := 1) rfl ?_); refine box_event ?hg (N := 1) ?hd (cs := #[.int .i64 lA, .int .i64 mA, .int .i64 oA, .int .i64 rA, .int .i64 sA, .int .i64 tA, .int .i64 uA, .int .i64 vA]) (t := 54) ?hr ?_; (case hd => rfl); (case hg => rfl); (case hr => first | (go_simp; done) | (go_simp; rfl)); intro fA hg w2 hbox hb; have pA := Aside0.mk (below_step q1_0 hb); have qA := Aside0.mk (hbox); have NA := Aside0.mk ((by rw [hg]; exact (below_size q1_0) : w.heap.size ≤ fA)); have XA := Aside0.mk ((by rw [hg]; exact (below_size q1_0) : w.heap.size ≤ fA)); clear HB; have HB := pA; have cA := qA; have HC := NA; have KA := XA; clear pA qA NA XA; clear hb hbox hg) | ((with_reducible refine gate_dst (N := 2) rfl ?_); refine box_event ?hg (N := 2) ?hd (cs := #[.int .i64 0, .int .i64 0, .int .i64 0, .int .i64 0, .int .i64 0, .int .i64 0, .int .i64 0, .int .i64 0]) (t := 58) ?hr ?_; (case hd => rfl); (case hg => rfl); (case hr => first | (go_simp; done) | (go_simp; rfl)); intro gA hg w3 hbox hb; have pA := Aside0.mk (blk_below (g := fA) (o := .cells #[.int .i64 lA, .int .i64 mA, .int .i64 oA, .int .i64 rA, .int .i64 sA, .int .i64 tA, .int .i64 uA, .int .i64 vA] 54 (0, 0)) q1_4 hb); have qA := Aside0.mk (below_step q1_9 hb); have NA := Aside0.mk (hbox); have XA := Aside0.mk ((by rw [hg]; exact (below_size q1_9) : w.heap.size ≤ gA)); have iB := Aside0.mk ((by rw [hg]; exact (below_size q1_9) : w.heap.size ≤ gA)); have jB := Aside0.mk ((q1_11 : fA ≠ gA)); have kB := Aside0.mk ((q1_12 : gA ≠ fA)); clear cA HB; have cA := pA; have HB := qA; have dA := NA; have IC := XA; have WA := iB; have DA := jB; have EA := kB; clear pA qA NA XA iB jB kB; clear hb hbox hg) | ((with_reducible refine gate_dst (N := 3) rfl ?_); refine box_event ?hg (N := 3) ?hd (cs := #[.int .i64 0, .int .i64 0, .int .i64 0, .int .i64 0, .int .i64 0, .int .i64 0, .int .i64 0, .int .i64 0]) (t := 58) ?hr ?_; (case hd => rfl); (case hg => rfl); (case hr => first | (go_simp; done) | (go_simp; rfl)); intro kA hg w4 hbox hb; have pA := Aside0.mk (blk_below (g := fA) (o := .cells #[.int .i64 lA, .int .i64 mA, .int .i64 oA, .int .i64 rA, .int .i64 sA, .int .i64 tA, .int .i64 uA, .int .i64 vA] 54 (0, 0)) q1_4 hb); have qA := Aside0.mk (blk_below (g := gA) (o := .cells #[.int .i64 0, .int .i64 0, .int .i64 0, .int .i64 0, .int .i64 0, .int .i64 0, .int .i64 0, .int .i64 0] 58 (0, 0)) q1_10 hb); have NA := Aside0.mk (below_step q1_6 hb); have XA := Aside0.mk (hbox); have iB := Aside0.mk ((by rw [hg]; exact (below_size q1_6) : w.heap.size ≤ kA)); have jB := Aside0.mk ((by rw [hg]; exact (below_size q1_6) : w.heap.size ≤ kA)); have kB := Aside0.mk ((q1_11 : fA ≠ kA)); have JC := Aside0.mk ((q1_12 : kA ≠ fA)); have KC := Aside0.mk ((by rw [hg]; exact Nat.ne_of_lt (blk_lt (g := gA) (o := .cells #[.int .i64 0, .int .i64 0, .int .i64 0, .int .i64 0, .int .i64 0, .int .i64 0, .int .i64 0, .int .i64 0] 58 (0, 0)) q1_10) : gA ≠ kA)); have LC := Aside0.mk ((by rw [hg]; exact Nat.ne_of_gt (blk_lt (g := gA) (o := .cells #[.int .i64 0, .int .i64 0, .int .i64 0, .int .i64 0, .int .i64 0, .int .i64 0, .int .i64 0, .int .i64 0] 58 (0, 0)) q1_10) : kA ≠ gA)); clear cA dA HB; have cA := pA; have dA := qA; have HB := NA; have hA := XA; have MC := iB; have lB := jB; have FA := kB; have GA := JC; have yA := KC; have IA := LC; clear pA qA NA XA iB jB kB JC KC LC; clear hb hbox hg; have RC := DA.out; have SC := EA.out; have TC := FA.out; have UC := GA.out; have RB : w4.cell? ⟨fA, 0, none⟩ = some (.int .i64 lA) := (blk_cell cA.out 0).trans rfl; have SB : w4.cell? ⟨fA, 1, none⟩ = some (.int .i64 mA) := (blk_cell cA.out 1).trans rfl; have TB : w4.cell? ⟨fA, 2, none⟩ = some (.int .i64 oA) := (blk_cell cA.out 2).trans rfl; have UB : w4.cell? ⟨fA, 3, none⟩ = some (.int .i64 rA) := (blk_cell cA.out 3).trans rfl; have VB : w4.cell? ⟨fA, 4, none⟩ = some (.int .i64 sA) := (blk_cell cA.out 4).trans rfl; have WB : w4.cell? ⟨fA, 5, none⟩ = some (.int .i64 tA) := (blk_cell cA.out 5).trans rfl; have XB : w4.cell? ⟨fA, 6, none⟩ = some (.int .i64 uA) := (blk_cell cA.out 6).trans rfl; have YB : w4.cell? ⟨fA, 7, none⟩ = some (.int .i64 vA) := (blk_cell cA.out 7).trans rfl; have ZB := blk_frozen cA.out 0; have aC := blk_frozen cA.out 1; have bC := blk_frozen cA.out 2; have cC := blk_frozen cA.out 3; have dC := blk_frozen cA.out 4; have eC := blk_frozen cA.out 5; have fC := blk_frozen cA.out 6; have gC := blk_frozen cA.out 7; have VC := IA.out; have WC := yA.out; have hC : w4.cell? ⟨kA, 0, none⟩ = some (.int .i64 0) := (blk_cell hA.out 0).trans rfl; have iC : w4.cell? ⟨kA, 1, none⟩ = some (.int .i64 0) := (blk_cell hA.out 1).trans rfl; have jC : w4.cell? ⟨kA, 2, none⟩ = some (.int .i64 0) := (blk_cell hA.out 2).trans rfl; have kC : w4.cell? ⟨kA, 3, none⟩ = some (.int .i64 0) := (blk_cell hA.out 3).trans rfl; have lC : w4.cell? ⟨kA, 4, none⟩ = some (.int .i64 0) := (blk_cell hA.out 4).trans rfl; have mC : w4.cell? ⟨kA, 5, none⟩ = some (.int .i64 0) := (blk_cell hA.out 5).trans rfl; have nC : w4.cell? ⟨kA, 6, none⟩ = some (.int .i64 0) := (blk_cell hA.out 6).trans rfl; have oC : w4.cell? ⟨kA, 7, none⟩ = some (.int .i64 0) := (blk_cell hA.out 7).trans rfl; have pC := blk_frozen hA.out 0; have qC := blk_frozen hA.out 1; have rC := blk_frozen hA.out 2; have sC := blk_frozen hA.out 3; have tC := blk_frozen hA.out 4; have uC := blk_frozen hA.out 5; have vC := blk_frozen hA.out 6; have wC := blk_frozen hA.out 7; have tB : w4.cell? ⟨gA, 0, none⟩ = some (.int .i64 0) := (blk_cell dA.out 0).trans rfl; have uB : w4.cell? ⟨gA, 1, none⟩ = some (.int .i64 0) := (blk_cell dA.out 1).trans rfl; have vB : w4.cell? ⟨gA, 2, none⟩ = some (.int .i64 0) := (blk_cell dA.out 2).trans rfl; have wB : w4.cell? ⟨gA, 3, none⟩ = some (.int .i64 0) := (blk_cell dA.out 3).trans rfl; have xB : w4.cell? ⟨gA, 4, none⟩ = some (.int .i64 0) := (blk_cell dA.out 4).trans rfl; have yB : w4.cell? ⟨gA, 5, none⟩ = some (.int .i64 0) := (blk_cell dA.out 5).trans rfl; have zB : w4.cell? ⟨gA, 6, none⟩ = some (.int .i64 0) := (blk_cell dA.out 6).trans rfl; have AB : w4.cell? ⟨gA, 7, none⟩ = some (.int .i64 0) := (blk_cell dA.out 7).trans rfl; have BB := blk_frozen dA.out 0; have CB := blk_frozen dA.out 1; have DB := blk_frozen dA.out 2; have EB := blk_frozen dA.out 3; have FB := blk_frozen dA.out 4; have GB := blk_frozen dA.out 5; have IB := blk_frozen dA.out 6; have JB := blk_frozen dA.out 7))
 refine bodyPost_ret (results_cell_row rfl _ _ gA 58 #[.int .i64 lA, .int .i64 mA, .int .i64 oA, .int .i64 rA, .int .i64 sA, .int .i64 tA, .int .i64 uA, .int .i64 vA] (0, 0) _ rfl (by (with_reducible repeat (first | refine blk_drewN ?_ _ | refine blk_drew ?_ | refine blk_alloc ?_ _)); refine blk_put (cs := #[.int .i64 lA, .int .i64 mA, .int .i64 oA, .int .i64 rA, .int .i64 sA, .int .i64 tA, .int .i64 uA, .int .i64 0]) ?_ 7 _ rfl; (with_reducible repeat (first | refine blk_drewN ?_ _ | refine blk_drew ?_ | refine blk_alloc ?_ _)); refine blk_put (cs := #[.int .i64 lA, .int .i64 mA, .int .i64 oA, .int .i64 rA, .int .i64 sA, .int .i64 tA, .int .i64 0, .int .i64 0]) ?_ 6 _ rfl; (with_reducible repeat (first | refine blk_drewN ?_ _ | refine blk_drew ?_ | refine blk_alloc ?_ _)); refine blk_put (cs := #[.int .i64 lA, .int .i64 mA, .int .i64 oA, .int .i64 rA, .int .i64 sA, .int .i64 0, .int .i64 0, .int .i64 0]) ?_ 5 _ rfl; (with_reducible repeat (first | refine blk_drewN ?_ _ | refine blk_drew ?_ | refine blk_alloc ?_ _)); refine blk_put (cs := #[.int .i64 lA, .int .i64 mA, .int .i64 oA, .int .i64 rA, .int .i64 0, .int .i64 0, .int .i64 0, .int .i64 0]) ?_ 4 _ rfl; (with_reducible repeat (first | refine blk_drewN ?_ _ | refine blk_drew ?_ | refine blk_alloc ?_ _)); refine blk_put (cs := #[.int .i64 lA, .int .i64 mA, .int .i64 oA, .int .i64 0, .int .i64 0, .int .i64 0, .int .i64 0, .int .i64 0]) ?_ 3 _ rfl; (with_reducible repeat (first | refine blk_drewN ?_ _ | refine blk_drew ?_ | refine blk_alloc ?_ _)); refine blk_put (cs := #[.int .i64 lA, .int .i64 mA, .int .i64 0, .int .i64 0, .int .i64 0, .int .i64 0, .int .i64 0, .int .i64 0]) ?_ 2 _ rfl; (with_reducible repeat (first | refine blk_drewN ?_ _ | refine blk_drew ?_ | refine blk_alloc ?_ _)); refine blk_put (cs := #[.int .i64 lA, .int .i64 0, .int .i64 0, .int .i64 0, .int .i64 0, .int .i64 0, .int .i64 0, .int .i64 0]) ?_ 1 _ rfl; (with_reducible repeat (first | refine blk_drewN ?_ _ | refine blk_drew ?_ | refine blk_alloc ?_ _)); refine blk_put (cs := #[.int .i64 0, .int .i64 0, .int .i64 0, .int .i64 0, .int .i64 0, .int .i64 0, .int .i64 0, .int .i64 0]) ?_ 0 _ rfl; (iterate 8 ((with_reducible repeat (first | refine blk_drewN ?_ _ | refine blk_drew ?_ | refine blk_alloc ?_ _)); refine blk_far ?_ yA.out _)); (with_reducible repeat (first | refine blk_drewN ?_ _ | refine blk_drew ?_ | refine blk_alloc ?_ _)); exact dA.out) Try.underlying58 rfl (by kernel_rfl)) rfl ?_
 exact ⟨q1_7, by repeat (first | (with_reducible first | exact HB.out | apply below_alloc | apply pw_below_drewN | apply below_drew1 | refine below_set ?_ KA.out | refine below_set ?_ WA.out | refine below_set ?_ lB.out) | exact HB.out)⟩

/-! ### spec_l03Has: function 66 -/
def spec_l03Has.l0 : Nat → Int → List Int → Int → Int → Option (Bool)
 | 0, _, _, _, _ => none
 | k + 1, x1, x7, x8, x9 => if x9 < x8 then (if 0 ≤ x9 then (if x9 < (x7.length : Int) then (if (rd x7 x9) = x1 then (some true) else (spec_l03Has.l0 k x1 x7 x8 (wrap64 (x9 + 1)))) else (none)) else (none)) else (some false)
def spec_l03Has.f (k : Nat) (l0 : List Int) (a1 : Int) : Option (Bool) := spec_l03Has.l0 k a1 l0 (l0.length : Int) 0
theorem spec_l03Has.mono_l : ∀ k, (∀ y0 y1 y2 y3, LeO (spec_l03Has.l0 k y0 y1 y2 y3) (spec_l03Has.l0 (k + 1) y0 y1 y2 y3))
 | 0 => fun _ _ _ _ r h => by simp [spec_l03Has.l0] at h
 | k + 1 => by
  have ih0 := spec_l03Has.mono_l k
  ·intro y0 y1 y2 y3
   unfold spec_l03Has.l0
   repeat' first
   | (with_reducible exact ih0 _ _ _ _)
   | (with_reducible exact LeO.refl _)
   | (with_reducible exact LeO.none _)
   | (with_reducible refine LeO.ite ?_ ?_)
   | (with_reducible refine LeO.bind ?_ (fun _ => ?_))
   | exact ih0 _ _ _ _
   | exact LeO.none _
   | refine LeO.ite ?_ ?_
   | refine LeO.bind ?_ (fun _ => ?_)
theorem spec_l03Has.mono : ∀ a0 a1 k, LeO (spec_l03Has.f k a0 a1) (spec_l03Has.f (k + 1) a0 a1) := by
 intro a0 a1 k
 have ih0 := spec_l03Has.mono_l k
 unfold spec_l03Has.f
 repeat' first
   | (with_reducible exact ih0 _ _ _ _)
   | (with_reducible exact LeO.refl _)
   | (with_reducible exact LeO.none _)
   | (with_reducible refine LeO.ite ?_ ?_)
   | (with_reducible refine LeO.bind ?_ (fun _ => ?_))
   | exact ih0 _ _ _ _
   | exact LeO.none _
   | refine LeO.ite ?_ ?_
   | refine LeO.bind ?_ (fun _ => ?_)
set_option maxHeartbeats 8000000 in
set_option maxRecDepth 100000 in
theorem spec_l03Has.calls (k : Nat) (A0 : Option Addr) (c0 : Nat) (l0 : List Int) (a1 : Int) (r : Bool) (w : World) (hr0 : Kd.C (Kd.int .i64) w A0 l0.length l0) (hc0 : l0.length ≤ c0) (h : spec_l03Has.f k l0 a1 = some r) :
  Calls Try.prog 66 #[.slice A0 l0.length c0, .int .i64 a1] w fun e w' => e = .returned (.bool r) ∧ Drawn0 w w' := by
 have HR0 := Aside0.mk hr0
 clear hr0 hc0
 have H : (spec_l03Has.l0 k a1 l0 (l0.length : Int) 0) = some r := h
 clear h
 have H' := Aside0.mk H
 clear H
 go_enter Try.func66, Try.ntmps66
 go_wp2
 go_loopg [9] k (fun kq v9 w' => ∃ (jA : Int), v9 = .int .i64 jA ∧ Aside0 (spec_l03Has.l0 kq a1 l0 (l0.length : Int) jA = some r) ∧ Aside0 (kq ≤ k) ∧ Drawn0 w w')
 case atStart => exact ⟨(0), q1_2, H', ⟨Nat.le_refl _⟩, q1_3⟩
 case round =>
  clear H'
  try clear p2
  obtain ⟨jA, rfl, HA, HK1, ⟨m1, rfl⟩⟩ := hrel
  cases gk with
  | zero => exact absurd HA.out (by simp [spec_l03Has.l0])
  | succ k1 =>
   have H := HA.out
   clear HA
   simp only [spec_l03Has.l0] at H
   by_cases c3 : jA < (l0.length : Int)
   ·rw [if_pos c3] at H
    have wA : decide (jA < (l0.length : Int)) = true := decide_eq_true c3
    clear c3
    by_cases c4 : 0 ≤ jA
    ·rw [if_pos c4] at H
     have RA : decide (0 ≤ jA) = true := decide_eq_true c4
     clear c4
     by_cases c5 : jA < (l0.length : Int)
     ·rw [if_pos c5] at H
      have LA : decide (jA < (l0.length : Int)) = true := decide_eq_true c5
      clear c5
      by_cases c6 : (rd l0 jA) = a1
      ·rw [if_pos c6] at H
       have MA : ((rd l0 jA) == a1) = true := beq_iff_eq.mpr c6
       have xC : ((rd l0 jA) != a1) = false := bne_eq_false_iff_eq.mpr c6
       clear c6
       obtain rfl := Option.some.inj H
       have p113 : 0 ≤ (jA : Int) := of_decide_eq_true q1_1
       have q113 : jA < (l0.length : Int) := of_decide_eq_true q1_1
       obtain ⟨ad113, eB, VA⟩ := Kd.at_int HR0.out jA p113 q113
       cases eB
       replace p113 := eq_true p113
       replace q113 := eq_true q113
       go_wp2
       go_ret
       exact ⟨q1_2, q1_3⟩
      ·rw [if_neg c6] at H
       have MA : ((rd l0 jA) == a1) = false := beq_eq_false_iff_ne.mpr c6
       have xC : ((rd l0 jA) != a1) = true := bne_iff_ne.mpr c6
       have H' := Aside0.mk H
       clear H
       have p113 : 0 ≤ (jA : Int) := of_decide_eq_true q1_1
       have q113 : jA < (l0.length : Int) := of_decide_eq_true q1_1
       obtain ⟨ad113, eB, VA⟩ := Kd.at_int HR0.out jA p113 q113
       cases eB
       replace p113 := eq_true p113
       replace q113 := eq_true q113
       go_wp2
       go_roundg k1
       case measure => have := HK1.out; omega
       case rel => exact ⟨(wrap64 (jA + 1)), q1_2, H', ⟨by have := HK1.out; omega⟩, q1_3⟩
     ·rw [if_neg c5] at H
      exact absurd H (by simp)
    ·rw [if_neg c4] at H
     exact absurd H (by simp)
   ·rw [if_neg c3] at H
    have wA : decide (jA < (l0.length : Int)) = false := decide_eq_false c3
    clear c3
    obtain rfl := Option.some.inj H
    go_wp2
    go_ret
    exact ⟨q1_2, q1_3⟩

/-! ### spec_l08With: function 69 -/
def spec_l08With.l0 : Nat → Int → List Int → Bool → List Int → Int → Int → Option (List Int)
 | 0, _, _, _, _, _, _ => none
 | k + 1, x1, x5, x6, x10, x11, x12 => if x12 < x11 then (if 0 ≤ x12 then (if x12 < (x10.length : Int) then (if x6 = true then (if x5.length < 17592186044416 then (spec_l08With.l0 k x1 (x5 ++ [rd x10 x12]) x6 x10 x11 (wrap64 (x12 + 1))) else (none)) else (if x1 < (rd x10 x12) then (if x5.length < 17592186044416 then ((some (x5 ++ [x1] : List Int)).bind fun y121 => (if y121.length < 17592186044416 then (spec_l08With.l0 k x1 (y121 ++ [rd x10 x12]) true x10 x11 (wrap64 (x12 + 1))) else (none))) else (none)) else (if x5.length < 17592186044416 then (spec_l08With.l0 k x1 (x5 ++ [rd x10 x12]) x6 x10 x11 (wrap64 (x12 + 1))) else (none)))) else (none)) else (none)) else (if x6 = true then (some x5) else (if x5.length < 17592186044416 then (some (x5 ++ [x1])) else (none)))
def spec_l08With.f (k : Nat) (l0 : List Int) (a1 : Int) : Option (List Int) := spec_l08With.l0 k a1 (([] : List Int)) false l0 (l0.length : Int) 0
theorem spec_l08With.mono_l : ∀ k, (∀ y0 y1 y2 y3 y4 y5, LeO (spec_l08With.l0 k y0 y1 y2 y3 y4 y5) (spec_l08With.l0 (k + 1) y0 y1 y2 y3 y4 y5))
 | 0 => fun _ _ _ _ _ _ r h => by simp [spec_l08With.l0] at h
 | k + 1 => by
  have ih0 := spec_l08With.mono_l k
  ·intro y0 y1 y2 y3 y4 y5
   unfold spec_l08With.l0
   repeat' first
   | (with_reducible exact ih0 _ _ _ _ _ _)
   | (with_reducible exact LeO.refl _)
   | (with_reducible exact LeO.none _)
   | (with_reducible refine LeO.ite ?_ ?_)
   | (with_reducible refine LeO.bind ?_ (fun _ => ?_))
   | exact ih0 _ _ _ _ _ _
   | exact LeO.none _
   | refine LeO.ite ?_ ?_
   | refine LeO.bind ?_ (fun _ => ?_)
theorem spec_l08With.mono : ∀ a0 a1 k, LeO (spec_l08With.f k a0 a1) (spec_l08With.f (k + 1) a0 a1) := by
 intro a0 a1 k
 have ih0 := spec_l08With.mono_l k
 unfold spec_l08With.f
 repeat' first
   | (with_reducible exact ih0 _ _ _ _ _ _)
   | (with_reducible exact LeO.refl _)
   | (with_reducible exact LeO.none _)
   | (with_reducible refine LeO.ite ?_ ?_)
   | (with_reducible refine LeO.bind ?_ (fun _ => ?_))
   | exact ih0 _ _ _ _ _ _
   | exact LeO.none _
   | refine LeO.ite ?_ ?_
   | refine LeO.bind ?_ (fun _ => ?_)
set_option maxHeartbeats 8000000 in
set_option maxRecDepth 100000 in
theorem spec_l08With.calls (k : Nat) (A0 : Option Addr) (c0 : Nat) (l0 : List Int) (a1 : Int) (r : List Int) (w : World) (hr0 : Kd.C (Kd.int .i64) w A0 l0.length l0) (hc0 : l0.length ≤ c0) (h : spec_l08With.f k l0 a1 = some r) :
  Calls Try.prog 69 #[.slice A0 l0.length c0, .int .i64 a1] w fun e w' => ∃ v0_ : Value, e = .returned (v0_) ∧ Kd.R (Kd.int .i64) 3 w' w.heap.size (fun _ => True) v0_ r ∧ Below w.heap.size w w' := by
 have HR0 := Aside0.mk hr0
 clear hr0 hc0
 have HB := Aside0.mk (Below.refl w.heap.size w)
 have H : (spec_l08With.l0 k a1 (([] : List Int)) false l0 (l0.length : Int) 0) = some r := h
 clear h
 obtain ⟨y114, hy114⟩ : ∃ y_ : List Int, y_ = (([] : List Int)) := ⟨_, rfl⟩
 replace H : (spec_l08With.l0 k a1 y114 false l0 (l0.length : Int) 0) = some r := by first | (rw [hy114]; with_reducible exact H) | (have H2_ := (Option.bind_some _ _).symm.trans H; rw [hy114]; with_reducible exact H2_) | (have H2_ := (Option.bind_some _ _).symm.trans H; with_reducible exact H2_) | with_reducible exact H | (rw [hy114]; exact H) | exact H
 have Ny114 := Aside0.mk hy114
 clear hy114
 have H' := Aside0.mk H
 clear H
 go_enter Try.func69, Try.ntmps69
 go_wp2_with (first | ((with_reducible refine gate_dst (N := 9) rfl ?_); refine Kd.R_lit (Kd.int .i64) _ 3 ?hg (N := 9) ?hd (xs := ([] : List Int)) (inner := []) (ok := fun _ => True) (okp := fun _ => True) ?hr ?hp (fun _ hk => hk) trivial (Below.refl _ _) (Nat.le_refl _) (by simp) ?_; (case hd => rfl); (case hg => rfl); (case hr => first | (go_simp; done) | (go_simp; rfl)); (case hp => exact (Reps.none _ _)); intro XC w3 ho4 hb hg_ hnew_; clear hg_ hnew_; (first | rw [← Ny114.out] at ho4 | (simp only [Int.reduceToNat] at ho4; rw [← Ny114.out] at ho4)); have pA := Aside0.mk (Kd.R_lower ho4 (below_size q1_0)); have qA := Aside0.mk (below_step q1_0 hb); clear HB; have mB := pA; have HB := qA; clear pA qA; clear hb ho4))
 go_loopg [5, 6, 12] k (fun kq v5 v6 v12 w' => ∃ (aA : List Int) (OA : Bool) (bA : Int), v6 = .bool OA ∧ v12 = .int .i64 bA ∧ Aside0 (spec_l08With.l0 kq a1 aA OA l0 (l0.length : Int) bA = some r) ∧ Aside0 (kq ≤ k) ∧ Aside0 (Kd.R (Kd.int .i64) 3 w' w.heap.size (fun _ => True) v5 aA) ∧ Aside0 (Below w.heap.size w w'))
 case atStart => exact ⟨(y114), (false), (0), q1_2, q1_2, H', ⟨Nat.le_refl _⟩, ⟨by (with_reducible repeat (first | apply Kd.R_alloc | apply Kd.R_drewN | apply Kd.R_drew)); exact mB.out⟩, ⟨q1_0⟩⟩
 case round =>
  clear H'
  try clear p2
  obtain ⟨aA, OA, bA, rfl, rfl, HA, HK1, JA, HB⟩ := hrel
  cases gk with
  | zero => exact absurd HA.out (by simp [spec_l08With.l0])
  | succ k1 =>
   have H := HA.out
   clear HA
   simp only [spec_l08With.l0] at H
   by_cases c5 : bA < (l0.length : Int)
   ·rw [if_pos c5] at H
    have LA : decide (bA < (l0.length : Int)) = true := decide_eq_true c5
    clear c5
    by_cases c6 : 0 ≤ bA
    ·rw [if_pos c6] at H
     have MA : decide (0 ≤ bA) = true := decide_eq_true c6
     clear c6
     by_cases c7 : bA < (l0.length : Int)
     ·rw [if_pos c7] at H
      have ZA : decide (bA < (l0.length : Int)) = true := decide_eq_true c7
      clear c7
      by_cases c8 : OA = true
      ·subst c8
       rw [if_pos rfl] at H
       by_cases c9 : aA.length < 17592186044416
       ·rw [if_pos c9] at H
        have LMc9 := Aside0.mk c9
        clear c9
        obtain ⟨y118, hy118⟩ : ∃ y_ : List Int, y_ = (aA ++ [rd l0 bA]) := ⟨_, rfl⟩
        replace H : (spec_l08With.l0 k1 a1 y118 true l0 (l0.length : Int) (wrap64 (bA + 1))) = some r := by first | (rw [hy118]; with_reducible exact H) | (have H2_ := (Option.bind_some _ _).symm.trans H; rw [hy118]; with_reducible exact H2_) | (have H2_ := (Option.bind_some _ _).symm.trans H; with_reducible exact H2_) | with_reducible exact H | (rw [hy118]; exact H) | exact H
        have Ny118 := Aside0.mk hy118
        clear hy118
        have H' := Aside0.mk H
        clear H
        have p117 : 0 ≤ (bA : Int) := of_decide_eq_true q1_1
        have q117 : bA < (l0.length : Int) := of_decide_eq_true q1_1
        obtain ⟨ad117, PA, eA⟩ := Kd.at_int HR0.out bA p117 q117
        cases PA
        replace eA := (HB.out.cell (World.block_lt_of_cell? w _ eA)).trans eA
        replace p117 := eq_true p117
        replace q117 := eq_true q117
        go_wp2_with (first | ((with_reducible refine gate_builtin (b := .append) (xs := #[.tmp 27, .tmp 29]) rfl ?_); at_builtin; refine Kd.R_append (Kd.int .i64) (w0 := w) w.heap.size rfl (.tmp 27) (.tmp 29) 27 3 (.int .i64 0) 8 rfl Try.underlying27 info3 rfl (by decide) (by omega) u5 aA (rd l0 bA) [.int .i64 (rd l0 bA)] (fun _ => True) (fun _ => False) rfl rfl ?aP (fun _ hk => hk.elim) ?aF ?aO ?aB ?aS ?aL ?_; (case aP => exact rfl); (case aB => exact q1_0); (case aF => exact (fun _ _ => trivial)); (case aO => exact q1_5); (case aS => exact (below_size q1_0)); (case aL => have := LMc9.out; omega); intro YC fD ho hb hg hat; rw [← Ny118.out] at ho; have pA := Aside0.mk (hb); have qA := Aside0.mk (ho); clear HB JA; have HB := pA; have nB := qA; clear pA qA; clear ho hb hg hat))
        go_roundg k1
        case measure => have := HK1.out; omega
        case rel => exact ⟨(y118), (true), (wrap64 (bA + 1)), q1_2, q1_2, H', ⟨by have := HK1.out; omega⟩, ⟨by (with_reducible repeat (first | apply Kd.R_alloc | apply Kd.R_drewN | apply Kd.R_drew)); exact nB.out⟩, ⟨q1_0⟩⟩
       ·rw [if_neg c9] at H
        exact absurd H (by simp)
      ·replace c8 := Bool.eq_false_iff.mpr c8
       subst c8
       rw [if_neg (show ¬ (false = true) by decide)] at H
       by_cases c11 : a1 < (rd l0 bA)
       ·rw [if_pos c11] at H
        have oB : decide (a1 < (rd l0 bA)) = true := decide_eq_true c11
        clear c11
        by_cases c12 : aA.length < 17592186044416
        ·rw [if_pos c12] at H
         have LMc12 := Aside0.mk c12
         clear c12
         obtain ⟨y121, hy121⟩ : ∃ y_ : List Int, y_ = (aA ++ [a1]) := ⟨_, rfl⟩
         replace H : (if y121.length < 17592186044416 then (spec_l08With.l0 k1 a1 (y121 ++ [rd l0 bA]) true l0 (l0.length : Int) (wrap64 (bA + 1))) else (none)) = some r := by first | (rw [hy121]; with_reducible exact H) | (have H2_ := (Option.bind_some _ _).symm.trans H; rw [hy121]; with_reducible exact H2_) | (have H2_ := (Option.bind_some _ _).symm.trans H; with_reducible exact H2_) | with_reducible exact H | (rw [hy121]; exact H) | exact H
         have Ny121 := Aside0.mk hy121
         clear hy121
         by_cases c13 : y121.length < 17592186044416
         ·rw [if_pos c13] at H
          have LMc13 := Aside0.mk c13
          clear c13
          obtain ⟨y124, hy124⟩ : ∃ y_ : List Int, y_ = (y121 ++ [rd l0 bA]) := ⟨_, rfl⟩
          replace H : (spec_l08With.l0 k1 a1 y124 true l0 (l0.length : Int) (wrap64 (bA + 1))) = some r := by first | (rw [hy124]; with_reducible exact H) | (have H2_ := (Option.bind_some _ _).symm.trans H; rw [hy124]; with_reducible exact H2_) | (have H2_ := (Option.bind_some _ _).symm.trans H; with_reducible exact H2_) | with_reducible exact H | (rw [hy124]; exact H) | exact H
          have Ny124 := Aside0.mk hy124
          clear hy124
          have H' := Aside0.mk H
          clear H
          have p117 : 0 ≤ (bA : Int) := of_decide_eq_true q1_1
          have q117 : bA < (l0.length : Int) := of_decide_eq_true q1_1
          obtain ⟨ad117, PA, eA⟩ := Kd.at_int HR0.out bA p117 q117
          cases PA
          replace eA := (HB.out.cell (World.block_lt_of_cell? w _ eA)).trans eA
          replace p117 := eq_true p117
          replace q117 := eq_true q117
          go_wp2_with (first | ((with_reducible refine gate_builtin (b := .append) (xs := #[.tmp 23, .tmp 25]) rfl ?_); at_builtin; refine Kd.R_append (Kd.int .i64) (w0 := w) w.heap.size rfl (.tmp 23) (.tmp 25) 27 3 (.int .i64 0) 8 rfl Try.underlying27 info3 rfl (by decide) (by omega) u5 aA a1 [.int .i64 a1] (fun _ => True) (fun _ => False) rfl rfl ?aP (fun _ hk => hk.elim) ?aF ?aO ?aB ?aS ?aL ?_; (case aP => exact rfl); (case aB => exact q1_0); (case aF => exact (fun _ _ => trivial)); (case aO => exact q1_5); (case aS => exact (below_size q1_0)); (case aL => have := LMc12.out; omega); intro yC gD ho hb hg hat; rw [← Ny121.out] at ho; have pA := Aside0.mk (hb); have qA := Aside0.mk (ho); clear HB JA; have HB := pA; have YA := qA; clear pA qA; clear ho hb hg hat) | ((with_reducible refine gate_builtin (b := .append) (xs := #[.tmp 27, .tmp 29]) rfl ?_); at_builtin; refine Kd.R_append (Kd.int .i64) (w0 := w) w.heap.size rfl (.tmp 27) (.tmp 29) 27 3 (.int .i64 0) 8 rfl Try.underlying27 info3 rfl (by decide) (by omega) yC y121 (rd l0 bA) [.int .i64 (rd l0 bA)] (fun _ => True) (fun _ => False) rfl rfl ?aP (fun _ hk => hk.elim) ?aF ?aO ?aB ?aS ?aL ?_; (case aP => exact rfl); (case aB => exact q1_0); (case aF => exact (fun _ _ => trivial)); (case aO => exact (by (with_reducible repeat (first | apply Kd.R_alloc | apply Kd.R_drewN | apply Kd.R_drew)); exact YA.out)); (case aS => exact (below_size q1_0)); (case aL => have := LMc13.out; omega); intro ZC hD ho hb hg hat; rw [← Ny124.out] at ho; have pA := Aside0.mk (hb); have qA := Aside0.mk (ho); clear HB YA; have HB := pA; have pB := qA; clear pA qA; clear ho hb hg hat))
          go_roundg k1
          case measure => have := HK1.out; omega
          case rel => exact ⟨(y124), (true), (wrap64 (bA + 1)), q1_2, q1_2, H', ⟨by have := HK1.out; omega⟩, ⟨by (with_reducible repeat (first | apply Kd.R_alloc | apply Kd.R_drewN | apply Kd.R_drew)); exact pB.out⟩, ⟨q1_0⟩⟩
         ·rw [if_neg c13] at H
          exact absurd H (by simp)
        ·rw [if_neg c12] at H
         exact absurd H (by simp)
       ·rw [if_neg c11] at H
        have oB : decide (a1 < (rd l0 bA)) = false := decide_eq_false c11
        clear c11
        by_cases c16 : aA.length < 17592186044416
        ·rw [if_pos c16] at H
         have LMc16 := Aside0.mk c16
         clear c16
         obtain ⟨y127, hy127⟩ : ∃ y_ : List Int, y_ = (aA ++ [rd l0 bA]) := ⟨_, rfl⟩
         replace H : (spec_l08With.l0 k1 a1 y127 false l0 (l0.length : Int) (wrap64 (bA + 1))) = some r := by first | (rw [hy127]; with_reducible exact H) | (have H2_ := (Option.bind_some _ _).symm.trans H; rw [hy127]; with_reducible exact H2_) | (have H2_ := (Option.bind_some _ _).symm.trans H; with_reducible exact H2_) | with_reducible exact H | (rw [hy127]; exact H) | exact H
         have Ny127 := Aside0.mk hy127
         clear hy127
         have H' := Aside0.mk H
         clear H
         have p117 : 0 ≤ (bA : Int) := of_decide_eq_true q1_1
         have q117 : bA < (l0.length : Int) := of_decide_eq_true q1_1
         obtain ⟨ad117, PA, eA⟩ := Kd.at_int HR0.out bA p117 q117
         cases PA
         replace eA := (HB.out.cell (World.block_lt_of_cell? w _ eA)).trans eA
         replace p117 := eq_true p117
         replace q117 := eq_true q117
         go_wp2_with (first | ((with_reducible refine gate_builtin (b := .append) (xs := #[.tmp 27, .tmp 29]) rfl ?_); at_builtin; refine Kd.R_append (Kd.int .i64) (w0 := w) w.heap.size rfl (.tmp 27) (.tmp 29) 27 3 (.int .i64 0) 8 rfl Try.underlying27 info3 rfl (by decide) (by omega) u5 aA (rd l0 bA) [.int .i64 (rd l0 bA)] (fun _ => True) (fun _ => False) rfl rfl ?aP (fun _ hk => hk.elim) ?aF ?aO ?aB ?aS ?aL ?_; (case aP => exact rfl); (case aB => exact q1_0); (case aF => exact (fun _ _ => trivial)); (case aO => exact q1_5); (case aS => exact (below_size q1_0)); (case aL => have := LMc16.out; omega); intro aD iD ho hb hg hat; rw [← Ny127.out] at ho; have pA := Aside0.mk (hb); have qA := Aside0.mk (ho); clear HB JA; have HB := pA; have qB := qA; clear pA qA; clear ho hb hg hat))
         go_roundg k1
         case measure => have := HK1.out; omega
         case rel => exact ⟨(y127), (false), (wrap64 (bA + 1)), q1_2, q1_2, H', ⟨by have := HK1.out; omega⟩, ⟨by (with_reducible repeat (first | apply Kd.R_alloc | apply Kd.R_drewN | apply Kd.R_drew)); exact qB.out⟩, ⟨q1_0⟩⟩
        ·rw [if_neg c16] at H
         exact absurd H (by simp)
     ·rw [if_neg c7] at H
      exact absurd H (by simp)
    ·rw [if_neg c6] at H
     exact absurd H (by simp)
   ·rw [if_neg c5] at H
    have LA : decide (bA < (l0.length : Int)) = false := decide_eq_false c5
    clear c5
    by_cases c18 : OA = true
    ·subst c18
     rw [if_pos rfl] at H
     obtain rfl := Option.some.inj H
     go_wp2
     go_ret
     exact ⟨_, q1_7, q1_5, q1_0⟩
    ·replace c18 := Bool.eq_false_iff.mpr c18
     subst c18
     rw [if_neg (show ¬ (false = true) by decide)] at H
     by_cases c19 : aA.length < 17592186044416
     ·rw [if_pos c19] at H
      have LMc19 := Aside0.mk c19
      clear c19
      obtain ⟨y130, hy130⟩ : ∃ y_ : List Int, y_ = (aA ++ [a1]) := ⟨_, rfl⟩
      replace H : (some y130) = some r := by first | (rw [hy130]; with_reducible exact H) | (have H2_ := (Option.bind_some _ _).symm.trans H; rw [hy130]; with_reducible exact H2_) | (have H2_ := (Option.bind_some _ _).symm.trans H; with_reducible exact H2_) | with_reducible exact H | (rw [hy130]; exact H) | exact H
      have Ny130 := Aside0.mk hy130
      clear hy130
      obtain rfl := Option.some.inj H
      go_wp2_with (first | ((with_reducible refine gate_builtin (b := .append) (xs := #[.tmp 34, .tmp 36]) rfl ?_); at_builtin; refine Kd.R_append (Kd.int .i64) (w0 := w) w.heap.size rfl (.tmp 34) (.tmp 36) 27 3 (.int .i64 0) 8 rfl Try.underlying27 info3 rfl (by decide) (by omega) u5 aA a1 [.int .i64 a1] (fun _ => True) (fun _ => False) rfl rfl ?aP (fun _ hk => hk.elim) ?aF ?aO ?aB ?aS ?aL ?_; (case aP => exact rfl); (case aB => exact q1_0); (case aF => exact (fun _ _ => trivial)); (case aO => exact q1_5); (case aS => exact (below_size q1_0)); (case aL => have := LMc19.out; omega); intro bD jD ho hb hg hat; rw [← Ny130.out] at ho; have pA := Aside0.mk (hb); have qA := Aside0.mk (ho); clear HB JA; have HB := pA; have rB := qA; clear pA qA; clear ho hb hg hat))
      go_ret
      exact ⟨_, q1_7, by (with_reducible repeat (first | apply Kd.R_alloc | apply Kd.R_drewN | apply Kd.R_drew)); exact rB.out, q1_0⟩
     ·rw [if_neg c19] at H
      exact absurd H (by simp)

end Go.Proofs.Ytjikobdblohphaa.PFnExactLiApply
