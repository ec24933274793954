-- Written by the session's own patched copy of the printer (wip/patch_print.py).
import Derived.Test.YtndkfjecipjiaaaPFnExactCrewOkx0
namespace Go.Proofs.Ytndkfjecipjiaaa.PFnExactCrewOk
open Go.RowKit Go.Proofs.YtndkfjecipjiaaaW.PrintWords Go.Proofs.YtndkfjecipjiaaaW.PrintLast Go.Proofs.YtndkfjecipjiaaaW.PrintMore
attribute [local go_sem] max2_int min2_int max_two min_two max_three min_three max_four min_four   -- for this text's walks alone
set_option linter.unusedVariables false
set_option linter.unusedSimpArgs false

theorem q8_0 {p : Prop} (h : p := by repeat (first | (with_reducible first | exact HB.out | apply below_alloc | apply pw_below_drewN | apply below_drew1) | exact HB.out)) : p := h
theorem q8_1 {p : Prop} (h : p := by repeat (first | (with_reducible first | exact HB.out | apply below_alloc | apply pw_below_drewN | apply below_drew1 | refine below_set ?_ JC.out) | exact HB.out)) : p := h
theorem q8_2 {p : Prop} (h : p := by repeat (first | (with_reducible first | exact HB.out | apply below_alloc | apply pw_below_drewN | apply below_drew1 | refine below_set ?_ nD.out | refine below_set ?_ FE.out | refine below_set ?_ GF.out) | exact HB.out)) : p := h
theorem q8_3 {p : Prop} (h : p := by first | (with_reducible assumption) | assumption) : p := h
theorem q8_4 {p : Prop} (h : p := by (with_reducible repeat (first | refine blk_drewN ?_ _ | refine blk_drew ?_ | refine blk_alloc ?_ _)); exact mA.out) : p := h
theorem q8_5 {p : Prop} (h : p := by (try simp only [List.map_toArray, List.map_cons, List.map_nil]); first | done | rfl | (simp only [List.length_drop, List.length_take]; rfl)) : p := h
theorem q8_6 {p : Prop} (h : p := by repeat (first | (with_reducible first | exact HB.out | apply below_alloc | apply pw_below_drewN | apply below_drew1 | refine below_set ?_ oD.out | refine below_set ?_ GE.out | refine below_set ?_ HF.out) | exact HB.out)) : p := h
theorem q8_7 {p : Prop} (h : p := by (with_reducible repeat (first | refine blk_drewN ?_ _ | refine blk_drew ?_ | refine blk_alloc ?_ _)); exact fA.out) : p := h
theorem q8_8 {p : Prop} (h : p := by (with_reducible repeat (first | refine blk_drewN ?_ _ | refine blk_drew ?_ | refine blk_alloc ?_ _)); exact uB.out) : p := h
theorem q8_9 {p : Prop} (h : p := by first | rfl | (simp [errW_none, errW_some] <;> rfl) | (simp [*, errW_none, errW_some] <;> rfl)) : p := h
theorem q8_10 {p : Prop} (h : p := by repeat (first | (with_reducible first | exact HB.out | apply below_alloc | apply pw_below_drewN | apply below_drew1 | refine below_set ?_ JC.out | refine below_set ?_ HE.out) | exact HB.out)) : p := h
theorem q8_11 {p : Prop} (h : p := by (with_reducible repeat (first | refine blk_drewN ?_ _ | refine blk_drew ?_ | refine blk_alloc ?_ _)); exact zA.out) : p := h
theorem q8_12 {p : Prop} (h : p := by (with_reducible repeat (first | refine blk_drewN ?_ _ | refine blk_drew ?_ | refine blk_alloc ?_ _)); exact cA.out) : p := h
theorem q8_13 {p : Prop} (h : p := by (with_reducible repeat (first | apply Kd.R_alloc | apply Kd.R_drewN | apply Kd.R_drew)); exact DA.out) : p := h
theorem q8_14 {p : Prop} (h : p := by repeat (first | (with_reducible first | exact HB.out | apply below_alloc | apply pw_below_drewN | apply below_drew1 | refine below_set ?_ pD.out | refine below_set ?_ IE.out | refine below_set ?_ IF.out) | exact HB.out)) : p := h
theorem q8_15 {p : Prop} (h : p := by rw [hg]; exact (below_size q8_0)) : p := h
theorem q8_16 {p : Prop} (h : p := by first | rfl | (simp; done) | (simp [*]; done)) : p := h
theorem q8_17 {p : Prop} (h : p := by repeat (first | (with_reducible first | exact HB.out | apply below_alloc | apply pw_below_drewN | apply below_drew1 | refine below_set ?_ qD.out | refine below_set ?_ JE.out) | exact HB.out)) : p := h
theorem q8_18 {p : Prop} (h : p := by repeat (first | (with_reducible first | exact HB.out | apply below_alloc | apply pw_below_drewN | apply below_drew1 | refine below_set ?_ nD.out | refine below_set ?_ FE.out) | exact HB.out)) : p := h
theorem q8_19 {p : Prop} (h : p := by repeat (first | (with_reducible first | exact HB.out | apply below_alloc | apply pw_below_drewN | apply below_drew1 | refine below_set ?_ pD.out | refine below_set ?_ IE.out) | exact HB.out)) : p := h
theorem q8_20 {p : Prop} (h : p := by repeat (first | (with_reducible first | exact HB.out | apply below_alloc | apply pw_below_drewN | apply below_drew1 | refine below_set ?_ oD.out | refine below_set ?_ GE.out) | exact HB.out)) : p := h
theorem q8_21 {p : Prop} (h : p := by (with_reducible repeat (first | refine blk_drewN ?_ _ | refine blk_drew ?_ | refine blk_alloc ?_ _)); exact EA.out) : p := h
theorem q8_22 {p : Prop} (h : p := by (with_reducible repeat (first | refine blk_drewN ?_ _ | refine blk_drew ?_ | refine blk_alloc ?_ _)); exact vB.out) : p := h
theorem q8_23 {p : Prop} (h : p := by repeat (first | (with_reducible first | exact HB.out | apply below_alloc | apply pw_below_drewN | apply below_drew1 | refine below_set ?_ qD.out) | exact HB.out)) : p := h
theorem q8_24 {p : Prop} (h : p := by repeat (first | (with_reducible first | exact HB.out | apply below_alloc | apply pw_below_drewN | apply below_drew1 | refine below_set ?_ nD.out) | exact HB.out)) : p := h
theorem q8_25 {p : Prop} (h : p := by repeat (first | (with_reducible first | exact HB.out | apply below_alloc | apply pw_below_drewN | apply below_drew1 | refine below_set ?_ pD.out) | exact HB.out)) : p := h
theorem q8_26 {p : Prop} (h : p := by repeat (first | (with_reducible first | exact HB.out | apply below_alloc | apply pw_below_drewN | apply below_drew1 | refine below_set ?_ oD.out) | exact HB.out)) : p := h
theorem q8_27 {p : Prop} (h : p := by (with_reducible repeat (first | refine blk_drewN ?_ _ | refine blk_drew ?_ | refine blk_alloc ?_ _)); refine blk_put (cs := #[.slice none 0 0]) ?_ 0 _ rfl; (with_reducible repeat (first | refine blk_drewN ?_ _ | refine blk_drew ?_ | refine blk_alloc ?_ _)); exact mA.out) : p := h
theorem q8_28 {p : Prop} (h : p := by (with_reducible repeat (first | apply Kd.R_alloc | apply Kd.R_drewN | apply Kd.R_drew)); exact (Kd.R_mono (Kd.R_far (p := ⟨sA, 2, none⟩) (Kd.R_types bC.out dA.out (by decide)) (fun _ hk => hk.2) (.slice nB fB.length oB)) (fun _ h_ => h_.1))) : p := h
theorem q8_29 {p : Prop} (h : p := by (with_reducible repeat (first | apply Kd.R_alloc | apply Kd.R_drewN | apply Kd.R_drew)); exact (Kd.R_mono (Kd.R_far (p := ⟨tA, 2, none⟩) (Kd.R_types cC.out eA.out (by decide)) (fun _ hk => hk.2) (.slice dC sB.length eC)) (fun _ h_ => h_.1))) : p := h
theorem q8_30 {p : Prop} (h : p := by rw [hg]; exact Nat.ne_of_lt (blk_lt (g := MA) (o := .cells #[.int .i64 iA, .int .i64 bA, .int .i64 dB, .int .i64 gB, .int .i64 uA, .int .i64 pB, .int .i64 tB, .int .i64 wB, .int .i64 AB, .bool CB] 106 (0, 0)) q8_11)) : p := h
theorem q8_31 {p : Prop} (h : p := by rw [hg]; exact Nat.ne_of_gt (blk_lt (g := MA) (o := .cells #[.int .i64 iA, .int .i64 bA, .int .i64 dB, .int .i64 gB, .int .i64 uA, .int .i64 pB, .int .i64 tB, .int .i64 wB, .int .i64 AB, .bool CB] 106 (0, 0)) q8_11)) : p := h
theorem q8_32 {p : Prop} (h : p := by (with_reducible repeat (first | refine blk_drewN ?_ _ | refine blk_drew ?_ | refine blk_alloc ?_ _)); exact BA.out) : p := h
theorem q8_33 {p : Prop} (h : p := by (with_reducible repeat (first | refine blk_drewN ?_ _ | refine blk_drew ?_ | refine blk_alloc ?_ _)); exact FA.out) : p := h
theorem q8_34 {p : Prop} (h : p := by (with_reducible repeat (first | apply Kd.S_alloc | apply Kd.S_drewN | apply Kd.S_drew)); exact DA.out) : p := h
/-! ### laws_toIntS: function 46 -/
def laws_toIntS.l0 : Nat → List Int → List Int → Int → Option (List Int)
 | 0, _, _, _ => none
 | k + 1, x0, x3, x4 => if x4 < (x0.length : Int) then (if 0 ≤ x4 then (if x4 < (x3.length : Int) then (laws_toIntS.l0 k x0 (x3.set (x4 : Int).toNat (rd x0 x4)) (wrap64 (x4 + 1))) else (none)) else (none)) else (some x3)
def laws_toIntS.f (k : Nat) (l0 : List Int) : Option (List Int) := if 0 ≤ (l0.length : Int) then (if ((l0.length : Int) : Int).toNat ≤ 35184372088832 then (laws_toIntS.l0 k l0 (List.replicate ((l0.length : Int) : Int).toNat 0) 0) else (none)) else (none)
theorem laws_toIntS.mono_l : ∀ k, (∀ y0 y1 y2, LeO (laws_toIntS.l0 k y0 y1 y2) (laws_toIntS.l0 (k + 1) y0 y1 y2))
 | 0 => fun _ _ _ r h => by simp [laws_toIntS.l0] at h
 | k + 1 => by
  have ih0 := laws_toIntS.mono_l k
  ·intro y0 y1 y2
   unfold laws_toIntS.l0
   repeat' first
   | (with_reducible exact ih0 _ _ _)
   | (with_reducible exact LeO.refl _)
   | (with_reducible exact LeO.none _)
   | (with_reducible refine LeO.ite ?_ ?_)
   | (with_reducible refine LeO.bind ?_ (fun _ => ?_))
   | exact ih0 _ _ _
   | exact LeO.none _
   | refine LeO.ite ?_ ?_
   | refine LeO.bind ?_ (fun _ => ?_)
theorem laws_toIntS.mono : ∀ a0 k, LeO (laws_toIntS.f k a0) (laws_toIntS.f (k + 1) a0) := by
 intro a0 k
 have ih0 := laws_toIntS.mono_l k
 unfold laws_toIntS.f
 repeat' first
   | (with_reducible exact ih0 _ _ _)
   | (with_reducible exact LeO.refl _)
   | (with_reducible exact LeO.none _)
   | (with_reducible refine LeO.ite ?_ ?_)
   | (with_reducible refine LeO.bind ?_ (fun _ => ?_))
   | exact ih0 _ _ _
   | exact LeO.none _
   | refine LeO.ite ?_ ?_
   | refine LeO.bind ?_ (fun _ => ?_)
set_option maxHeartbeats 8000000 in
set_option maxRecDepth 100000 in
theorem laws_toIntS.calls (k : Nat) (A0 : Option Addr) (c0 : Nat) (l0 : List Int) (r : List Int) (w : World) (hr0 : Kd.C (Kd.int .i64) w A0 l0.length l0) (hc0 : l0.length ≤ c0) (h : laws_toIntS.f k l0 = some r) :
  Calls Try.prog 46 #[.slice A0 l0.length c0] w fun e w' => ∃ v0_ : Value, e = .returned (v0_) ∧ Kd.R (Kd.int .i64) 3 w' w.heap.size (fun _ => True) v0_ r ∧ Below w.heap.size w w' := by
 have HR0 := Aside0.mk hr0
 clear hr0 hc0
 have HB := Aside0.mk (Below.refl w.heap.size w)
 have H : (if 0 ≤ (l0.length : Int) then (if ((l0.length : Int) : Int).toNat ≤ 35184372088832 then (laws_toIntS.l0 k l0 (List.replicate ((l0.length : Int) : Int).toNat 0) 0) else (none)) else (none)) = some r := h
 clear h
 by_cases c2 : 0 ≤ (l0.length : Int)
 ·rw [if_pos c2] at H
  have rD := eq_true c2
  have sD : decide (0 ≤ (l0.length : Int)) = true := decide_eq_true c2
  clear c2
  by_cases c3 : ((l0.length : Int) : Int).toNat ≤ 35184372088832
  ·rw [if_pos c3] at H
   have tD := eq_true c3
   have uD : decide (((l0.length : Int) : Int).toNat ≤ 35184372088832) = true := decide_eq_true c3
   clear c3
   obtain ⟨y203, hy203⟩ : ∃ y_ : List Int, y_ = (List.replicate ((l0.length : Int) : Int).toNat 0) := ⟨_, rfl⟩
   replace H : (laws_toIntS.l0 k l0 y203 0) = some r := by first | (rw [hy203]; with_reducible exact H) | (have H2_ := (Option.bind_some _ _).symm.trans H; rw [hy203]; with_reducible exact H2_) | (have H2_ := (Option.bind_some _ _).symm.trans H; with_reducible exact H2_) | with_reducible exact H | (rw [hy203]; exact H) | exact H
   have Ny203 := Aside0.mk hy203
   clear hy203
   have H' := Aside0.mk H
   clear H
   go_enter Try.func46, Try.ntmps46
   go_wp2_with (first | ((with_reducible refine gate_dst (N := 7) rfl ?_); refine Kd.R_make (Kd.int .i64) _ 3 rfl (N := 7) rfl 24 _ _ rfl (l0.length : Int) rfl rfl Try.underlying24 (.int .i64 0) 8 info3 rfl (by decide) (by omega) 0 (ok := fun _ => True) (okp := fun _ => True) rfl (fun _ hk => hk) trivial (of_decide_eq_true q8_3) (Nat.le_trans (Nat.mul_le_mul_right _ (of_decide_eq_true q8_3 : (l0.length : Int).toNat ≤ 35184372088832)) (by omega)) (Below.refl _ _) (Nat.le_refl _) ?_; intro qH w4 ho5 hb hg_ hnew_; clear hg_ hnew_; (first | rw [← Ny203.out] at ho5 | (simp only [Int.reduceToNat] at ho5; rw [← Ny203.out] at ho5)); have gA := Aside0.mk (Kd.R_lower ho5 (below_size q8_0)); have hA := Aside0.mk (below_step q8_0 hb); clear HB; have JF := gA; have HB := hA; clear gA hA; clear hb ho5))
   go_loopg [4] k (fun kq v4 w' => ∃ (kA : List Int) (aA : Int), v4 = .int .i64 aA ∧ Aside0 (laws_toIntS.l0 kq l0 kA aA = some r) ∧ Aside0 (kq ≤ k) ∧ Aside0 (Kd.R (Kd.int .i64) 3 w' w.heap.size (fun _ => True) qH kA) ∧ Aside0 (Below w.heap.size w w'))
   case atStart => exact ⟨(y203), (0), q8_16, H', ⟨Nat.le_refl _⟩, ⟨by (with_reducible repeat (first | apply Kd.R_alloc | apply Kd.R_drewN | apply Kd.R_drew)); exact JF.out⟩, ⟨q8_0⟩⟩
   case round =>
    clear H'
    (try clear c2); (try clear rD); (try clear sD); (try clear p2); (try clear c3); (try clear tD); (try clear uD); (try clear c4)
    obtain ⟨kA, aA, rfl, HA, HK1, DA, HB⟩ := hrel
    cases gk with
    | zero => exact absurd HA.out (by simp [laws_toIntS.l0])
    | succ k1 =>
     have H := HA.out
     clear HA
     simp only [laws_toIntS.l0] at H
     by_cases c6 : aA < (l0.length : Int)
     ·rw [if_pos c6] at H
      have mC : decide (aA < (l0.length : Int)) = true := decide_eq_true c6
      clear c6
      by_cases c7 : 0 ≤ aA
      ·rw [if_pos c7] at H
       have ID : decide (0 ≤ aA) = true := decide_eq_true c7
       clear c7
       by_cases c8 : aA < (kA.length : Int)
       ·rw [if_pos c8] at H
        have lJ : decide (aA < (kA.length : Int)) = true := decide_eq_true c8
        clear c8
        obtain ⟨y207, hy207⟩ : ∃ y_ : List Int, y_ = (kA.set (aA : Int).toNat (rd l0 aA)) := ⟨_, rfl⟩
        replace H : (laws_toIntS.l0 k1 l0 y207 (wrap64 (aA + 1))) = some r := by first | (rw [hy207]; with_reducible exact H) | (have H2_ := (Option.bind_some _ _).symm.trans H; rw [hy207]; with_reducible exact H2_) | (have H2_ := (Option.bind_some _ _).symm.trans H; with_reducible exact H2_) | with_reducible exact H | (rw [hy207]; exact H) | exact H
        have Ny207 := Aside0.mk hy207
        clear hy207
        have H' := Aside0.mk H
        clear H
        have p206 : 0 ≤ (aA : Int) := of_decide_eq_true q8_3
        have q206 : aA < (l0.length : Int) := of_decide_eq_true q8_3
        obtain ⟨ad206, rH, GB⟩ := Kd.at_int HR0.out aA p206 q206
        cases rH
        replace GB := (HB.out.cell (World.block_lt_of_cell? w _ GB)).trans GB
        replace p206 := eq_true p206
        replace q206 := eq_true q206
        have p9 : 0 ≤ (aA : Int) := of_decide_eq_true q8_3
        have q9 : (aA : Int) < ((kA.length : Int) : Int) := of_decide_eq_true q8_3
        obtain ⟨go9, mJ, EI, FI, gl9, cl9, HG9⟩ := Kd.R_form DA.out (by omega)
        (first | cases EI | (injection EI with ea_ en_ ec_; (first | subst ea_ | (injection ea_ with ea_; subst ea_)); subst ec_; clear en_))
        have GB9 := Aside0.mk FI
        have GG9 := Aside0.mk HG9
        clear FI gl9 HG9
        obtain ⟨GI, HI⟩ := Kd.R_celln 0 DA.out (aA : Int) p9 q9
        replace p9 := eq_true p9
        replace q9 := eq_true q9
        have HP10 := Kd.R_putg DA.out (aA : Int) (rd l0 aA)
        go_wp2_with (first | ((with_reducible refine gate_store (t := 3) (p := 20) rfl ?_); refine store_event (t := 3) (p := 20) (v := ?vo_w11) (w1 := (wr.setCell ⟨go9, (aA : Int).toNat, none⟩ (.int .i64 (rd l0 aA)))) ?hg ?ho ?hn ?hr ?_; (case ho => rfl); (case hg => rfl); (case hn => rfl); (case hr => first | (go_simp; done) | (go_simp; rfl)); intro WA hw; have hg : wr.grownBy WA (some go9) := (by rw [hw]; exact HP10.2); have hp_ : Kd.R (Kd.int .i64) 3 WA w.heap.size (fun _ => True) (.slice (some ⟨go9, 0, none⟩) kA.length mJ) y207 := (by rw [hw, Ny207.out]; exact HP10.1); clear HP10; have gA := Aside0.mk (hp_); have hA := Aside0.mk ((by rw [hw]; exact below_set (HB.out) GB9.out : Below w.heap.size w WA)); clear DA; clear HB; have DA := gA; have HB := hA; clear gA hA; clear hg hw hp_))
        go_roundg k1
        case measure => have := HK1.out; omega
        case rel => exact ⟨(y207), (wrap64 (aA + 1)), q8_16, H', ⟨by have := HK1.out; omega⟩, ⟨q8_13⟩, ⟨q8_0⟩⟩
       ·rw [if_neg c8] at H
        exact absurd H (by simp)
      ·rw [if_neg c7] at H
       exact absurd H (by simp)
     ·rw [if_neg c6] at H
      have mC : decide (aA < (l0.length : Int)) = false := decide_eq_false c6
      clear c6
      obtain rfl := Option.some.inj H
      go_wp2
      go_ret
      exact ⟨_, q8_9, q8_13, q8_0⟩
  ·rw [if_neg c3] at H
   exact absurd H (by simp)
 ·rw [if_neg c2] at H
  exact absurd H (by simp)

/-! ### laws_toCall: function 91 -/
def laws_toCall.f (iA : Int) (bA : Int) (dB : Int) (gB : Int) (uA : Int) (pB : Int) (tB : Int) (wB : Int) (AB : Int) (CB : Bool) : Option (Int × Int × Int × Int × Int × Int × Int × Int × Int × Bool) := some (iA, bA, dB, gB, uA, pB, tB, wB, AB, CB)
set_option maxHeartbeats 8000000 in
set_option maxRecDepth 100000 in
theorem laws_toCall.calls (iA : Int) (bA : Int) (dB : Int) (gB : Int) (uA : Int) (pB : Int) (tB : Int) (wB : Int) (AB : Int) (CB : Bool) (r1 : Int) (r2 : Int) (r3 : Int) (r4 : Int) (r5 : Int) (r6 : Int) (r7 : Int) (r8 : Int) (r9 : Int) (r10 : Bool) (w : World) (h : laws_toCall.f iA bA dB gB uA pB tB wB AB CB = some (r1, r2, r3, r4, r5, r6, r7, r8, r9, r10)) :
  Calls Try.prog 91 #[.agg #[.int .i64 iA, .int .i64 bA, .int .i64 dB, .int .i64 gB, .int .i64 uA, .int .i64 pB, .int .i64 tB, .int .i64 wB, .int .i64 AB, .bool CB]] w fun e w' => e = .returned (.agg #[.int .i64 r1, .int .i64 r2, .int .i64 r3, .int .i64 r4, .int .i64 r5, .int .i64 r6, .int .i64 r7, .int .i64 r8, .int .i64 r9, .bool r10]) ∧ Below w.heap.size w w' := by
 have hu106 := Try.underlying106
 have hu75 := Try.underlying75
 have HB := Aside0.mk (Below.refl w.heap.size w)
 have H : (some (iA, bA, dB, gB, uA, pB, tB, wB, AB, CB)) = some (r1, r2, r3, r4, r5, r6, r7, r8, r9, r10) := h
 clear h
 simp only [Option.some.injEq, Prod.mk.injEq] at H
 obtain ⟨rfl, rfl, rfl, rfl, rfl, rfl, rfl, rfl, rfl, rfl⟩ := H
 go_enter Try.func91, Try.ntmps91
 go_wp2_with (first | ((with_reducible refine gate_dst (N := 1) rfl ?_); refine box_event ?hg (N := 1) ?hd (cs := #[.int .i64 iA, .int .i64 bA, .int .i64 dB, .int .i64 gB, .int .i64 uA, .int .i64 pB, .int .i64 tB, .int .i64 wB, .int .i64 AB, .bool CB]) (t := 106) ?hr ?_; (case hd => rfl); (case hg => rfl); (case hr => first | (go_simp; done) | (go_simp; rfl)); intro MA hg w2 hbox hb; have gA := Aside0.mk (below_step q8_0 hb); have hA := Aside0.mk (hbox); have yA := Aside0.mk ((q8_15 : w.heap.size ≤ MA)); have CA := Aside0.mk ((q8_15 : w.heap.size ≤ MA)); clear HB; have HB := gA; have zA := hA; have II := yA; have qD := CA; clear gA hA yA CA; clear hb hbox hg) | ((with_reducible refine gate_dst (N := 2) rfl ?_); refine box_event ?hg (N := 2) ?hd (cs := #[.int .i64 0, .int .i64 0, .int .i64 0, .int .i64 0, .int .i64 0, .int .i64 0, .int .i64 0, .int .i64 0, .int .i64 0, .bool false]) (t := 75) ?hr ?_; (case hd => rfl); (case hg => rfl); (case hr => first | (go_simp; done) | (go_simp; rfl)); intro NA hg w3 hbox hb; have gA := Aside0.mk (blk_below (g := MA) (o := .cells #[.int .i64 iA, .int .i64 bA, .int .i64 dB, .int .i64 gB, .int .i64 uA, .int .i64 pB, .int .i64 tB, .int .i64 wB, .int .i64 AB, .bool CB] 106 (0, 0)) q8_11 hb); have hA := Aside0.mk (below_step q8_23 hb); have yA := Aside0.mk (hbox); have CA := Aside0.mk ((by rw [hg]; exact (below_size q8_23) : w.heap.size ≤ NA)); have UA := Aside0.mk ((by rw [hg]; exact (below_size q8_23) : w.heap.size ≤ NA)); have eB := Aside0.mk ((q8_30 : MA ≠ NA)); have qB := Aside0.mk ((q8_31 : NA ≠ MA)); clear zA; clear HB; have zA := gA; have HB := hA; have BA := yA; have JI := CA; have JE := UA; have UC := eB; have VC := qB; clear gA hA yA CA UA eB qB; clear hb hbox hg) | ((with_reducible refine gate_dst (N := 3) rfl ?_); refine box_event ?hg (N := 3) ?hd (cs := #[.int .i64 0, .int .i64 0, .int .i64 0, .int .i64 0, .int .i64 0, .int .i64 0, .int .i64 0, .int .i64 0, .int .i64 0, .bool false]) (t := 75) ?hr ?_; (case hd => rfl); (case hg => rfl); (case hr => first | (go_simp; done) | (go_simp; rfl)); intro VA hg w4 hbox hb; have gA := Aside0.mk (blk_below (g := MA) (o := .cells #[.int .i64 iA, .int .i64 bA, .int .i64 dB, .int .i64 gB, .int .i64 uA, .int .i64 pB, .int .i64 tB, .int .i64 wB, .int .i64 AB, .bool CB] 106 (0, 0)) q8_11 hb); have hA := Aside0.mk (blk_below (g := NA) (o := .cells #[.int .i64 0, .int .i64 0, .int .i64 0, .int .i64 0, .int .i64 0, .int .i64 0, .int .i64 0, .int .i64 0, .int .i64 0, .bool false] 75 (0, 0)) q8_32 hb); have yA := Aside0.mk (below_step q8_17 hb); have CA := Aside0.mk (hbox); have UA := Aside0.mk ((by rw [hg]; exact (below_size q8_17) : w.heap.size ≤ VA)); have eB := Aside0.mk ((by rw [hg]; exact (below_size q8_17) : w.heap.size ≤ VA)); have qB := Aside0.mk ((q8_30 : MA ≠ VA)); have fC := Aside0.mk ((q8_31 : VA ≠ MA)); have vD := Aside0.mk ((by rw [hg]; exact Nat.ne_of_lt (blk_lt (g := NA) (o := .cells #[.int .i64 0, .int .i64 0, .int .i64 0, .int .i64 0, .int .i64 0, .int .i64 0, .int .i64 0, .int .i64 0, .int .i64 0, .bool false] 75 (0, 0)) q8_32) : NA ≠ VA)); have wD := Aside0.mk ((by rw [hg]; exact Nat.ne_of_gt (blk_lt (g := NA) (o := .cells #[.int .i64 0, .int .i64 0, .int .i64 0, .int .i64 0, .int .i64 0, .int .i64 0, .int .i64 0, .int .i64 0, .int .i64 0, .bool false] 75 (0, 0)) q8_32) : VA ≠ NA)); clear zA; clear BA; clear HB; have zA := gA; have BA := hA; have HB := yA; have OA := CA; have KI := UA; have KF := eB; have WC := qB; have XC := fC; have vA := vD; have YC := wD; clear gA hA yA CA UA eB qB fC vD wD; clear hb hbox hg; have nJ := UC.out; have oJ := VC.out; have sH := WC.out; have tH := XC.out; have uH : w4.cell? ⟨MA, 0, none⟩ = some (.int .i64 iA) := (blk_cell zA.out 0).trans rfl; have vH : w4.cell? ⟨MA, 1, none⟩ = some (.int .i64 bA) := (blk_cell zA.out 1).trans rfl; have wH : w4.cell? ⟨MA, 2, none⟩ = some (.int .i64 dB) := (blk_cell zA.out 2).trans rfl; have xH : w4.cell? ⟨MA, 3, none⟩ = some (.int .i64 gB) := (blk_cell zA.out 3).trans rfl; have yH : w4.cell? ⟨MA, 4, none⟩ = some (.int .i64 uA) := (blk_cell zA.out 4).trans rfl; have zH : w4.cell? ⟨MA, 5, none⟩ = some (.int .i64 pB) := (blk_cell zA.out 5).trans rfl; have AH : w4.cell? ⟨MA, 6, none⟩ = some (.int .i64 tB) := (blk_cell zA.out 6).trans rfl; have BH : w4.cell? ⟨MA, 7, none⟩ = some (.int .i64 wB) := (blk_cell zA.out 7).trans rfl; have CH : w4.cell? ⟨MA, 8, none⟩ = some (.int .i64 AB) := (blk_cell zA.out 8).trans rfl; have DH : w4.cell? ⟨MA, 9, none⟩ = some (.bool CB) := (blk_cell zA.out 9).trans rfl; have EH := blk_frozen zA.out 0; have FH := blk_frozen zA.out 1; have GH := blk_frozen zA.out 2; have HH := blk_frozen zA.out 3; have IH := blk_frozen zA.out 4; have JH := blk_frozen zA.out 5; have KH := blk_frozen zA.out 6; have LH := blk_frozen zA.out 7; have MH := blk_frozen zA.out 8; have NH := blk_frozen zA.out 9; have LF := YC.out; have MF := vA.out; have PE : w4.cell? ⟨VA, 0, none⟩ = some (.int .i64 0) := (blk_cell OA.out 0).trans rfl; have QE : w4.cell? ⟨VA, 1, none⟩ = some (.int .i64 0) := (blk_cell OA.out 1).trans rfl; have RE : w4.cell? ⟨VA, 2, none⟩ = some (.int .i64 0) := (blk_cell OA.out 2).trans rfl; have SE : w4.cell? ⟨VA, 3, none⟩ = some (.int .i64 0) := (blk_cell OA.out 3).trans rfl; have TE : w4.cell? ⟨VA, 4, none⟩ = some (.int .i64 0) := (blk_cell OA.out 4).trans rfl; have OH : w4.cell? ⟨VA, 5, none⟩ = some (.int .i64 0) := (blk_cell OA.out 5).trans rfl; have PH : w4.cell? ⟨VA, 6, none⟩ = some (.int .i64 0) := (blk_cell OA.out 6).trans rfl; have QH : w4.cell? ⟨VA, 7, none⟩ = some (.int .i64 0) := (blk_cell OA.out 7).trans rfl; have RH : w4.cell? ⟨VA, 8, none⟩ = some (.int .i64 0) := (blk_cell OA.out 8).trans rfl; have SH : w4.cell? ⟨VA, 9, none⟩ = some (.bool false) := (blk_cell OA.out 9).trans rfl; have UE := blk_frozen OA.out 0; have VE := blk_frozen OA.out 1; have WE := blk_frozen OA.out 2; have XE := blk_frozen OA.out 3; have YE := blk_frozen OA.out 4; have TH := blk_frozen OA.out 5; have UH := blk_frozen OA.out 6; have VH := blk_frozen OA.out 7; have WH := blk_frozen OA.out 8; have XH := blk_frozen OA.out 9; have JD : w4.cell? ⟨NA, 0, none⟩ = some (.int .i64 0) := (blk_cell BA.out 0).trans rfl; have KD : w4.cell? ⟨NA, 1, none⟩ = some (.int .i64 0) := (blk_cell BA.out 1).trans rfl; have LD : w4.cell? ⟨NA, 2, none⟩ = some (.int .i64 0) := (blk_cell BA.out 2).trans rfl; have MD : w4.cell? ⟨NA, 3, none⟩ = some (.int .i64 0) := (blk_cell BA.out 3).trans rfl; have WF : w4.cell? ⟨NA, 4, none⟩ = some (.int .i64 0) := (blk_cell BA.out 4).trans rfl; have XF : w4.cell? ⟨NA, 5, none⟩ = some (.int .i64 0) := (blk_cell BA.out 5).trans rfl; have YF : w4.cell? ⟨NA, 6, none⟩ = some (.int .i64 0) := (blk_cell BA.out 6).trans rfl; have ZF : w4.cell? ⟨NA, 7, none⟩ = some (.int .i64 0) := (blk_cell BA.out 7).trans rfl; have aG : w4.cell? ⟨NA, 8, none⟩ = some (.int .i64 0) := (blk_cell BA.out 8).trans rfl; have bG : w4.cell? ⟨NA, 9, none⟩ = some (.bool false) := (blk_cell BA.out 9).trans rfl; have ND := blk_frozen BA.out 0; have OD := blk_frozen BA.out 1; have PD := blk_frozen BA.out 2; have QD := blk_frozen BA.out 3; have cG := blk_frozen BA.out 4; have dG := blk_frozen BA.out 5; have eG := blk_frozen BA.out 6; have fG := blk_frozen BA.out 7; have gG := blk_frozen BA.out 8; have hG := blk_frozen BA.out 9))
 refine bodyPost_ret (results_cell_row rfl _ _ NA 75 #[.int .i64 iA, .int .i64 bA, .int .i64 dB, .int .i64 gB, .int .i64 uA, .int .i64 pB, .int .i64 tB, .int .i64 wB, .int .i64 AB, .bool CB] (0, 0) _ rfl (by (with_reducible repeat (first | refine blk_drewN ?_ _ | refine blk_drew ?_ | refine blk_alloc ?_ _)); refine blk_put (cs := #[.int .i64 iA, .int .i64 bA, .int .i64 dB, .int .i64 gB, .int .i64 uA, .int .i64 pB, .int .i64 tB, .int .i64 wB, .int .i64 AB, .bool false]) ?_ 9 _ rfl; (with_reducible repeat (first | refine blk_drewN ?_ _ | refine blk_drew ?_ | refine blk_alloc ?_ _)); refine blk_put (cs := #[.int .i64 iA, .int .i64 bA, .int .i64 dB, .int .i64 gB, .int .i64 uA, .int .i64 pB, .int .i64 tB, .int .i64 wB, .int .i64 0, .bool false]) ?_ 8 _ rfl; (with_reducible repeat (first | refine blk_drewN ?_ _ | refine blk_drew ?_ | refine blk_alloc ?_ _)); refine blk_put (cs := #[.int .i64 iA, .int .i64 bA, .int .i64 dB, .int .i64 gB, .int .i64 uA, .int .i64 pB, .int .i64 tB, .int .i64 0, .int .i64 0, .bool false]) ?_ 7 _ rfl; (with_reducible repeat (first | refine blk_drewN ?_ _ | refine blk_drew ?_ | refine blk_alloc ?_ _)); refine blk_put (cs := #[.int .i64 iA, .int .i64 bA, .int .i64 dB, .int .i64 gB, .int .i64 uA, .int .i64 pB, .int .i64 0, .int .i64 0, .int .i64 0, .bool false]) ?_ 6 _ rfl; (with_reducible repeat (first | refine blk_drewN ?_ _ | refine blk_drew ?_ | refine blk_alloc ?_ _)); refine blk_put (cs := #[.int .i64 iA, .int .i64 bA, .int .i64 dB, .int .i64 gB, .int .i64 uA, .int .i64 0, .int .i64 0, .int .i64 0, .int .i64 0, .bool false]) ?_ 5 _ rfl; (with_reducible repeat (first | refine blk_drewN ?_ _ | refine blk_drew ?_ | refine blk_alloc ?_ _)); refine blk_put (cs := #[.int .i64 iA, .int .i64 bA, .int .i64 dB, .int .i64 gB, .int .i64 0, .int .i64 0, .int .i64 0, .int .i64 0, .int .i64 0, .bool false]) ?_ 4 _ rfl; (with_reducible repeat (first | refine blk_drewN ?_ _ | refine blk_drew ?_ | refine blk_alloc ?_ _)); refine blk_put (cs := #[.int .i64 iA, .int .i64 bA, .int .i64 dB, .int .i64 0, .int .i64 0, .int .i64 0, .int .i64 0, .int .i64 0, .int .i64 0, .bool false]) ?_ 3 _ rfl; (with_reducible repeat (first | refine blk_drewN ?_ _ | refine blk_drew ?_ | refine blk_alloc ?_ _)); refine blk_put (cs := #[.int .i64 iA, .int .i64 bA, .int .i64 0, .int .i64 0, .int .i64 0, .int .i64 0, .int .i64 0, .int .i64 0, .int .i64 0, .bool false]) ?_ 2 _ rfl; (with_reducible repeat (first | refine blk_drewN ?_ _ | refine blk_drew ?_ | refine blk_alloc ?_ _)); refine blk_put (cs := #[.int .i64 iA, .int .i64 0, .int .i64 0, .int .i64 0, .int .i64 0, .int .i64 0, .int .i64 0, .int .i64 0, .int .i64 0, .bool false]) ?_ 1 _ rfl; (with_reducible repeat (first | refine blk_drewN ?_ _ | refine blk_drew ?_ | refine blk_alloc ?_ _)); refine blk_put (cs := #[.int .i64 0, .int .i64 0, .int .i64 0, .int .i64 0, .int .i64 0, .int .i64 0, .int .i64 0, .int .i64 0, .int .i64 0, .bool false]) ?_ 0 _ rfl; (with_reducible repeat (first | refine blk_drewN ?_ _ | refine blk_drew ?_ | refine blk_alloc ?_ _)); refine blk_far ?_ vA.out _; (with_reducible repeat (first | refine blk_drewN ?_ _ | refine blk_drew ?_ | refine blk_alloc ?_ _)); refine blk_far ?_ vA.out _; (with_reducible repeat (first | refine blk_drewN ?_ _ | refine blk_drew ?_ | refine blk_alloc ?_ _)); refine blk_far ?_ vA.out _; (with_reducible repeat (first | refine blk_drewN ?_ _ | refine blk_drew ?_ | refine blk_alloc ?_ _)); refine blk_far ?_ vA.out _; (with_reducible repeat (first | refine blk_drewN ?_ _ | refine blk_drew ?_ | refine blk_alloc ?_ _)); refine blk_far ?_ vA.out _; (with_reducible repeat (first | refine blk_drewN ?_ _ | refine blk_drew ?_ | refine blk_alloc ?_ _)); refine blk_far ?_ vA.out _; (with_reducible repeat (first | refine blk_drewN ?_ _ | refine blk_drew ?_ | refine blk_alloc ?_ _)); refine blk_far ?_ vA.out _; (with_reducible repeat (first | refine blk_drewN ?_ _ | refine blk_drew ?_ | refine blk_alloc ?_ _)); refine blk_far ?_ vA.out _; (with_reducible repeat (first | refine blk_drewN ?_ _ | refine blk_drew ?_ | refine blk_alloc ?_ _)); refine blk_far ?_ vA.out _; (with_reducible repeat (first | refine blk_drewN ?_ _ | refine blk_drew ?_ | refine blk_alloc ?_ _)); refine blk_far ?_ vA.out _; (with_reducible repeat (first | refine blk_drewN ?_ _ | refine blk_drew ?_ | refine blk_alloc ?_ _)); exact BA.out) Try.underlying75 rfl (by kernel_rfl)) rfl ?_
 exact ⟨q8_9, by repeat (first | (with_reducible first | exact HB.out | apply below_alloc | apply pw_below_drewN | apply below_drew1 | refine below_set ?_ qD.out | refine below_set ?_ JE.out | refine below_set ?_ KF.out) | exact HB.out)⟩

/-! ### laws_toCallS: function 66 -/
def laws_toCallS.l0 : Nat → List (S106) → List (S75) → Int → Option ((List (S75)))
 | 0, _, _, _ => none
 | k + 1, x0, x3, x4 => if x4 < (x0.length : Int) then (if 0 ≤ x4 then ((laws_toCall.f ((rd_T106 x0 x4).f0) ((rd_T106 x0 x4).f1) ((rd_T106 x0 x4).f2) ((rd_T106 x0 x4).f3) ((rd_T106 x0 x4).f4) ((rd_T106 x0 x4).f5) ((rd_T106 x0 x4).f6) ((rd_T106 x0 x4).f7) ((rd_T106 x0 x4).f8) ((rd_T106 x0 x4).f9)).bind fun rB => (if x4 < (x3.length : Int) then (laws_toCallS.l0 k x0 (x3.set (x4 : Int).toNat (⟨rB.1, rB.2.1, rB.2.2.1, rB.2.2.2.1, rB.2.2.2.2.1, rB.2.2.2.2.2.1, rB.2.2.2.2.2.2.1, rB.2.2.2.2.2.2.2.1, rB.2.2.2.2.2.2.2.2.1, rB.2.2.2.2.2.2.2.2.2⟩ : S75)) (wrap64 (x4 + 1))) else (none))) else (none)) else (some x3)
def laws_toCallS.f (k : Nat) (l0 : List (S106)) : Option ((List (S75))) := if 0 ≤ (l0.length : Int) then (if ((l0.length : Int) : Int).toNat ≤ 3518437208883 then (laws_toCallS.l0 k l0 (List.replicate ((l0.length : Int) : Int).toNat z75) 0) else (none)) else (none)
theorem laws_toCallS.mono_l : ∀ k, (∀ y0 y1 y2, LeO (laws_toCallS.l0 k y0 y1 y2) (laws_toCallS.l0 (k + 1) y0 y1 y2))
 | 0 => fun _ _ _ r h => by simp [laws_toCallS.l0] at h
 | k + 1 => by
  have ih0 := laws_toCallS.mono_l k
  ·intro y0 y1 y2
   unfold laws_toCallS.l0
   repeat' first
   | (with_reducible exact ih0 _ _ _)
   | (with_reducible exact LeO.refl _)
   | (with_reducible exact LeO.none _)
   | (with_reducible refine LeO.ite ?_ ?_)
   | (with_reducible refine LeO.bind ?_ (fun _ => ?_))
   | exact ih0 _ _ _
   | exact LeO.none _
   | refine LeO.ite ?_ ?_
   | refine LeO.bind ?_ (fun _ => ?_)
theorem laws_toCallS.mono : ∀ a0 k, LeO (laws_toCallS.f k a0) (laws_toCallS.f (k + 1) a0) := by
 intro a0 k
 have ih0 := laws_toCallS.mono_l k
 unfold laws_toCallS.f
 repeat' first
   | (with_reducible exact ih0 _ _ _)
   | (with_reducible exact LeO.refl _)
   | (with_reducible exact LeO.none _)
   | (with_reducible refine LeO.ite ?_ ?_)
   | (with_reducible refine LeO.bind ?_ (fun _ => ?_))
   | exact ih0 _ _ _
   | exact LeO.none _
   | refine LeO.ite ?_ ?_
   | refine LeO.bind ?_ (fun _ => ?_)
set_option maxHeartbeats 8000000 in
set_option maxRecDepth 100000 in
theorem laws_toCallS.calls (k : Nat) (A0 : Option Addr) (c0 : Nat) (l0 : List (S106)) (r : List (S75)) (w : World) (hr0 : Kd.C k106 w A0 l0.length l0) (hc0 : l0.length ≤ c0) (h : laws_toCallS.f k l0 = some r) :
  Calls Try.prog 66 #[.slice A0 l0.length c0] w fun e w' => ∃ v0_ : Value, e = .returned (v0_) ∧ Kd.R k75 75 w' w.heap.size (fun _ => True) v0_ r ∧ Below w.heap.size w w' := by
 have hu106 := Try.underlying106
 have hu75 := Try.underlying75
 have HR0 := Aside0.mk hr0
 clear hr0 hc0
 have HB := Aside0.mk (Below.refl w.heap.size w)
 have H : (if 0 ≤ (l0.length : Int) then (if ((l0.length : Int) : Int).toNat ≤ 3518437208883 then (laws_toCallS.l0 k l0 (List.replicate ((l0.length : Int) : Int).toNat z75) 0) else (none)) else (none)) = some r := h
 clear h
 by_cases c2 : 0 ≤ (l0.length : Int)
 ·rw [if_pos c2] at H
  have rD := eq_true c2
  have sD : decide (0 ≤ (l0.length : Int)) = true := decide_eq_true c2
  clear c2
  by_cases c3 : ((l0.length : Int) : Int).toNat ≤ 3518437208883
  ·rw [if_pos c3] at H
   have tD := eq_true c3
   have uD : decide (((l0.length : Int) : Int).toNat ≤ 3518437208883) = true := decide_eq_true c3
   clear c3
   obtain ⟨y211, hy211⟩ : ∃ y_ : List (S75), y_ = (List.replicate ((l0.length : Int) : Int).toNat z75) := ⟨_, rfl⟩
   replace H : (laws_toCallS.l0 k l0 y211 0) = some r := by first | (rw [hy211]; with_reducible exact H) | (have H2_ := (Option.bind_some _ _).symm.trans H; rw [hy211]; with_reducible exact H2_) | (have H2_ := (Option.bind_some _ _).symm.trans H; with_reducible exact H2_) | with_reducible exact H | (rw [hy211]; exact H) | exact H
   have Ny211 := Aside0.mk hy211
   clear hy211
   have H' := Aside0.mk H
   clear H
   go_enter Try.func66, Try.ntmps66
   go_wp2_with (first | ((with_reducible refine gate_dst (N := 7) rfl ?_); refine Kd.R_make k75 _ 75 rfl (N := 7) rfl 53 _ _ rfl (l0.length : Int) rfl rfl Try.underlying53 (.agg #[(.int .i64 0), (.int .i64 0), (.int .i64 0), (.int .i64 0), (.int .i64 0), (.int .i64 0), (.int .i64 0), (.int .i64 0), (.int .i64 0), (.bool false)]) 80 info75 rfl (by decide) (by omega) z75 (ok := fun _ => True) (okp := fun _ => True) (k75_mkM _ _ _ z75 ) (fun _ hk => hk) trivial (of_decide_eq_true q8_3) (Nat.le_trans (Nat.mul_le_mul_right _ (of_decide_eq_true q8_3 : (l0.length : Int).toNat ≤ 3518437208883)) (by omega)) (Below.refl _ _) (Nat.le_refl _) ?_; intro YH w4 ho5 hb hg_ hnew_; clear hg_ hnew_; (first | rw [← Ny211.out] at ho5 | (simp only [Int.reduceToNat] at ho5; rw [← Ny211.out] at ho5)); have gA := Aside0.mk (Kd.R_lower ho5 (below_size q8_0)); have hA := Aside0.mk (below_step q8_0 hb); clear HB; have NF := gA; have HB := hA; clear gA hA; clear hb ho5))
   go_loopg [4] k (fun kq v4 w' => ∃ (kA : List (S75)) (aA : Int), v4 = .int .i64 aA ∧ Aside0 (laws_toCallS.l0 kq l0 kA aA = some r) ∧ Aside0 (kq ≤ k) ∧ Aside0 (Kd.R k75 75 w' w.heap.size (fun _ => True) YH kA) ∧ Aside0 (Below w.heap.size w w'))
   case atStart => exact ⟨(y211), (0), q8_16, H', ⟨Nat.le_refl _⟩, ⟨by (with_reducible repeat (first | apply Kd.R_alloc | apply Kd.R_drewN | apply Kd.R_drew)); exact NF.out⟩, ⟨q8_0⟩⟩
   case round =>
    clear H'
    (try clear c2); (try clear rD); (try clear sD); (try clear p2); (try clear c3); (try clear tD); (try clear uD)
    obtain ⟨kA, aA, rfl, HA, HK1, DA, HB⟩ := hrel
    cases gk with
    | zero => exact absurd HA.out (by simp [laws_toCallS.l0])
    | succ k1 =>
     have H := HA.out
     clear HA
     simp only [laws_toCallS.l0] at H
     by_cases c6 : aA < (l0.length : Int)
     ·rw [if_pos c6] at H
      have mC : decide (aA < (l0.length : Int)) = true := decide_eq_true c6
      clear c6
      by_cases c7 : 0 ≤ aA
      ·rw [if_pos c7] at H
       have ID : decide (0 ≤ aA) = true := decide_eq_true c7
       clear c7
       replace H := Option.bind_eq_some_iff.mp H
       obtain ⟨⟨nC, oC, pC, qC, rC, sC, tC, uC, vC, wC⟩, A80, H⟩ := H
       replace H : (if aA < (kA.length : Int) then (laws_toCallS.l0 k1 l0 (kA.set (aA : Int).toNat (⟨nC, oC, pC, qC, rC, sC, tC, uC, vC, wC⟩ : S75)) (wrap64 (aA + 1))) else (none)) = some r := H
       have A8 := Aside0.mk A80
       clear A80
       by_cases c9 : aA < (kA.length : Int)
       ·rw [if_pos c9] at H
        have ZH : decide (aA < (kA.length : Int)) = true := decide_eq_true c9
        clear c9
        obtain ⟨y225, hy225⟩ : ∃ y_ : List (S75), y_ = (kA.set (aA : Int).toNat (⟨nC, oC, pC, qC, rC, sC, tC, uC, vC, wC⟩ : S75)) := ⟨_, rfl⟩
        replace H : (laws_toCallS.l0 k1 l0 y225 (wrap64 (aA + 1))) = some r := by first | (rw [hy225]; with_reducible exact H) | (have H2_ := (Option.bind_some _ _).symm.trans H; rw [hy225]; with_reducible exact H2_) | (have H2_ := (Option.bind_some _ _).symm.trans H; with_reducible exact H2_) | with_reducible exact H | (rw [hy225]; exact H) | exact H
        have Ny225 := Aside0.mk hy225
        clear hy225
        have H' := Aside0.mk H
        clear H
        have p214 : 0 ≤ (aA : Int) := of_decide_eq_true q8_3
        have q214 : aA < (l0.length : Int) := of_decide_eq_true q8_3
        obtain ⟨ad214, aI, IB, JB, KB, LB, MB, NB, OB, PB, QB, RB⟩ := at_T106 HR0.out aA p214 q214
        cases aI
        replace IB := (HB.out.cell (World.block_lt_of_cell? w _ IB)).trans IB
        replace JB := (HB.out.cell (World.block_lt_of_cell? w _ JB)).trans JB
        replace KB := (HB.out.cell (World.block_lt_of_cell? w _ KB)).trans KB
        replace LB := (HB.out.cell (World.block_lt_of_cell? w _ LB)).trans LB
        replace MB := (HB.out.cell (World.block_lt_of_cell? w _ MB)).trans MB
        replace NB := (HB.out.cell (World.block_lt_of_cell? w _ NB)).trans NB
        replace OB := (HB.out.cell (World.block_lt_of_cell? w _ OB)).trans OB
        replace PB := (HB.out.cell (World.block_lt_of_cell? w _ PB)).trans PB
        replace QB := (HB.out.cell (World.block_lt_of_cell? w _ QB)).trans QB
        replace RB := (HB.out.cell (World.block_lt_of_cell? w _ RB)).trans RB
        replace p214 := eq_true p214
        replace q214 := eq_true q214
        go_wp2_with (first | ((with_reducible refine gate_callee (f := 91) rfl ?_); refine goesL_ (some 20) rfl rfl Try.func91 (by kernel_rfl) rfl #[.agg #[.int .i64 ((rd_T106 l0 aA).f0), .int .i64 ((rd_T106 l0 aA).f1), .int .i64 ((rd_T106 l0 aA).f2), .int .i64 ((rd_T106 l0 aA).f3), .int .i64 ((rd_T106 l0 aA).f4), .int .i64 ((rd_T106 l0 aA).f5), .int .i64 ((rd_T106 l0 aA).f6), .int .i64 ((rd_T106 l0 aA).f7), .int .i64 ((rd_T106 l0 aA).f8), .bool ((rd_T106 l0 aA).f9)]] rfl q8_5 ?_; (with_reducible refine (laws_toCall.calls ((rd_T106 l0 aA).f0) ((rd_T106 l0 aA).f1) ((rd_T106 l0 aA).f2) ((rd_T106 l0 aA).f3) ((rd_T106 l0 aA).f4) ((rd_T106 l0 aA).f5) ((rd_T106 l0 aA).f6) ((rd_T106 l0 aA).f7) ((rd_T106 l0 aA).f8) ((rd_T106 l0 aA).f9) nC oC pC qC rC sC tC uC vC wC _ A8.out).mono ?_); rintro e WA ⟨rfl, hb⟩; refine ⟨_, rfl, ?_⟩; have gA := Aside0.mk (Kd.R_below q8_13 hb); have hA := Aside0.mk (below_step q8_0 hb); clear DA; clear HB; have DA := gA; have HB := hA; clear gA hA; (try clear hb); (try clear hb2); (try clear hk); (try clear hi); have p10 : 0 ≤ (aA : Int) := of_decide_eq_true q8_3; have q10 : (aA : Int) < ((kA.length : Int) : Int) := of_decide_eq_true q8_3; obtain ⟨go10, SB, xC, xD, gl10, cl10, HG10⟩ := Kd.R_form DA.out (by omega); (first | cases xC | (injection xC with ea_ en_ ec_; (first | subst ea_ | (injection ea_ with ea_; subst ea_)); subst ec_; clear en_)); have GB10 := Aside0.mk xD; have GG10 := Aside0.mk HG10; clear xD gl10 HG10; obtain ⟨ce10, hcl10, hM10, hcc10, hfr10⟩ := Kd.R_elem DA.out z75 (aA : Int) p10 q10; obtain rfl := k75_openM hM10; have ZE : WA.cell? ⟨go10, (aA : Int).toNat * 10, none⟩ = some (.int .i64 ((rd_T75 kA aA).f0)) := hcc10 0 _ rfl; have aF : WA.cell? ⟨go10, (aA : Int).toNat * 10 + 1, none⟩ = some (.int .i64 ((rd_T75 kA aA).f1)) := hcc10 1 _ rfl; have bF : WA.cell? ⟨go10, (aA : Int).toNat * 10 + 2, none⟩ = some (.int .i64 ((rd_T75 kA aA).f2)) := hcc10 2 _ rfl; have cF : WA.cell? ⟨go10, (aA : Int).toNat * 10 + 3, none⟩ = some (.int .i64 ((rd_T75 kA aA).f3)) := hcc10 3 _ rfl; have bI : WA.cell? ⟨go10, (aA : Int).toNat * 10 + 4, none⟩ = some (.int .i64 ((rd_T75 kA aA).f4)) := hcc10 4 _ rfl; have cI : WA.cell? ⟨go10, (aA : Int).toNat * 10 + 5, none⟩ = some (.int .i64 ((rd_T75 kA aA).f5)) := hcc10 5 _ rfl; have dI : WA.cell? ⟨go10, (aA : Int).toNat * 10 + 6, none⟩ = some (.int .i64 ((rd_T75 kA aA).f6)) := hcc10 6 _ rfl; have eI : WA.cell? ⟨go10, (aA : Int).toNat * 10 + 7, none⟩ = some (.int .i64 ((rd_T75 kA aA).f7)) := hcc10 7 _ rfl; have fI : WA.cell? ⟨go10, (aA : Int).toNat * 10 + 8, none⟩ = some (.int .i64 ((rd_T75 kA aA).f8)) := hcc10 8 _ rfl; have gI : WA.cell? ⟨go10, (aA : Int).toNat * 10 + 9, none⟩ = some (.bool ((rd_T75 kA aA).f9)) := hcc10 9 _ rfl; have dF : WA.frozen? ⟨go10, (aA : Int).toNat * 10, none⟩ = false := hfr10 0; have eF : WA.frozen? ⟨go10, (aA : Int).toNat * 10 + 1, none⟩ = false := hfr10 1; have fF : WA.frozen? ⟨go10, (aA : Int).toNat * 10 + 2, none⟩ = false := hfr10 2; have gF : WA.frozen? ⟨go10, (aA : Int).toNat * 10 + 3, none⟩ = false := hfr10 3; have hI : WA.frozen? ⟨go10, (aA : Int).toNat * 10 + 4, none⟩ = false := hfr10 4; have iI : WA.frozen? ⟨go10, (aA : Int).toNat * 10 + 5, none⟩ = false := hfr10 5; have jI : WA.frozen? ⟨go10, (aA : Int).toNat * 10 + 6, none⟩ = false := hfr10 6; have kI : WA.frozen? ⟨go10, (aA : Int).toNat * 10 + 7, none⟩ = false := hfr10 7; have lI : WA.frozen? ⟨go10, (aA : Int).toNat * 10 + 8, none⟩ = false := hfr10 8; have mI : WA.frozen? ⟨go10, (aA : Int).toNat * 10 + 9, none⟩ = false := hfr10 9; clear hcl10 hcc10 hfr10 hM10; replace p10 := eq_true p10; replace q10 := eq_true q10; have HX12 := Aside0.mk (show Kd.R k75 75 WA w.heap.size (fun _ => True) (.slice (some ⟨go10, 0, none⟩) kA.length SB) kA from q8_13); obtain ⟨ce12, hcl12, hM12, hcc12, hfr12⟩ := Kd.R_elem HX12.out z75 (aA : Int) (of_decide_eq_true q8_3) (by have h_ : (aA : Int) < ((kA.length : Int) : Int) := of_decide_eq_true q8_3; first | exact h_ | (have e_ := (Kd.R_reads' DA.out).1; omega) | simpa using h_); obtain rfl := k75_openM hM12; have HP12 := Kd.R_seg HX12.out (aA : Int) (of_decide_eq_true q8_3) (by have h_ : (aA : Int) < ((kA.length : Int) : Int) := of_decide_eq_true q8_3; first | exact h_ | (have e_ := (Kd.R_reads' DA.out).1; omega) | simpa using h_) (seg := [.int .i64 nC, .int .i64 oC, .int .i64 pC, .int .i64 qC, .int .i64 rC, .int .i64 sC, .int .i64 tC, .int .i64 uC, .int .i64 vC, .bool wC]) (j := 0) hcl12 hcc12 (show 10 ≤ 10 from by decide) (x' := (⟨nC, oC, pC, qC, rC, sC, tC, uC, vC, wC⟩ : S75)) (k75_mkM _ _ _ (⟨nC, oC, pC, qC, rC, sC, tC, uC, vC, wC⟩ : S75) ) (fun _ hk => hk); have yC := hcc12 0 _ rfl; (try simp only [show (k75).sz = 10 from rfl, Nat.mul_one, Nat.add_zero] at yC); have zC := hfr12 0; (try simp only [show (k75).sz = 10 from rfl, Nat.mul_one, Nat.add_zero] at zC); have AC := hcc12 1 _ rfl; (try simp only [show (k75).sz = 10 from rfl, Nat.mul_one, Nat.add_zero] at AC); have BC := hfr12 1; (try simp only [show (k75).sz = 10 from rfl, Nat.mul_one, Nat.add_zero] at BC); have CC := hcc12 2 _ rfl; (try simp only [show (k75).sz = 10 from rfl, Nat.mul_one, Nat.add_zero] at CC); have DC := hfr12 2; (try simp only [show (k75).sz = 10 from rfl, Nat.mul_one, Nat.add_zero] at DC); have EC := hcc12 3 _ rfl; (try simp only [show (k75).sz = 10 from rfl, Nat.mul_one, Nat.add_zero] at EC); have FC := hfr12 3; (try simp only [show (k75).sz = 10 from rfl, Nat.mul_one, Nat.add_zero] at FC); have hF := hcc12 4 _ rfl; (try simp only [show (k75).sz = 10 from rfl, Nat.mul_one, Nat.add_zero] at hF); have iF := hfr12 4; (try simp only [show (k75).sz = 10 from rfl, Nat.mul_one, Nat.add_zero] at iF); have jF := hcc12 5 _ rfl; (try simp only [show (k75).sz = 10 from rfl, Nat.mul_one, Nat.add_zero] at jF); have kF := hfr12 5; (try simp only [show (k75).sz = 10 from rfl, Nat.mul_one, Nat.add_zero] at kF); have lF := hcc12 6 _ rfl; (try simp only [show (k75).sz = 10 from rfl, Nat.mul_one, Nat.add_zero] at lF); have mF := hfr12 6; (try simp only [show (k75).sz = 10 from rfl, Nat.mul_one, Nat.add_zero] at mF); have nF := hcc12 7 _ rfl; (try simp only [show (k75).sz = 10 from rfl, Nat.mul_one, Nat.add_zero] at nF); have oF := hfr12 7; (try simp only [show (k75).sz = 10 from rfl, Nat.mul_one, Nat.add_zero] at oF); have pF := hcc12 8 _ rfl; (try simp only [show (k75).sz = 10 from rfl, Nat.mul_one, Nat.add_zero] at pF); have qF := hfr12 8; (try simp only [show (k75).sz = 10 from rfl, Nat.mul_one, Nat.add_zero] at qF); have rF := hcc12 9 _ rfl; (try simp only [show (k75).sz = 10 from rfl, Nat.mul_one, Nat.add_zero] at rF); have sF := hfr12 9; (try simp only [show (k75).sz = 10 from rfl, Nat.mul_one, Nat.add_zero] at sF); clear hcl12 hcc12 hfr12 hM12) | ((with_reducible refine gate_store (t := 75) (p := 21) rfl ?_); refine store_event (t := 75) (p := 21) (v := ?vo_w13) (w1 := ((((((((((WA.setCell ⟨go10, (aA : Int).toNat * 10, none⟩ (.int .i64 nC)).setCell ⟨go10, (aA : Int).toNat * 10 + 1, none⟩ (.int .i64 oC)).setCell ⟨go10, (aA : Int).toNat * 10 + 2, none⟩ (.int .i64 pC)).setCell ⟨go10, (aA : Int).toNat * 10 + 3, none⟩ (.int .i64 qC)).setCell ⟨go10, (aA : Int).toNat * 10 + 4, none⟩ (.int .i64 rC)).setCell ⟨go10, (aA : Int).toNat * 10 + 5, none⟩ (.int .i64 sC)).setCell ⟨go10, (aA : Int).toNat * 10 + 6, none⟩ (.int .i64 tC)).setCell ⟨go10, (aA : Int).toNat * 10 + 7, none⟩ (.int .i64 uC)).setCell ⟨go10, (aA : Int).toNat * 10 + 8, none⟩ (.int .i64 vC)).setCell ⟨go10, (aA : Int).toNat * 10 + 9, none⟩ (.bool wC))) ?hg ?ho ?hn ?hr ?_; (case ho => rfl); (case hg => rfl); (case hn => rfl); (case hr => first | (go_simp; done) | (go_simp; rfl)); intro RD hw; have hg : WA.grownBy RD (some go10) := (by rw [hw]; exact HP12.2); have hp_ : Kd.R k75 75 RD w.heap.size (fun _ => True) (.slice (some ⟨go10, 0, none⟩) kA.length SB) y225 := (by rw [hw, Ny225.out]; exact HP12.1); clear HP12; have gA := Aside0.mk (hp_); have hA := Aside0.mk ((by rw [hw]; exact below_set (below_set (below_set (below_set (below_set (below_set (below_set (below_set (below_set (below_set (HB.out) GB10.out) GB10.out) GB10.out) GB10.out) GB10.out) GB10.out) GB10.out) GB10.out) GB10.out) GB10.out : Below w.heap.size w RD)); clear DA; clear HB; have DA := gA; have HB := hA; clear gA hA; clear hg hw hp_))
        go_roundg k1
        case measure => have := HK1.out; omega
        case rel => exact ⟨(y225), (wrap64 (aA + 1)), q8_16, H', ⟨by have := HK1.out; omega⟩, ⟨q8_13⟩, ⟨q8_0⟩⟩
       ·rw [if_neg c9] at H
        exact absurd H (by simp)
      ·rw [if_neg c7] at H
       exact absurd H (by simp)
     ·rw [if_neg c6] at H
      have mC : decide (aA < (l0.length : Int)) = false := decide_eq_false c6
      clear c6
      obtain rfl := Option.some.inj H
      go_wp2
      go_ret
      exact ⟨_, q8_9, q8_13, q8_0⟩
  ·rw [if_neg c3] at H
   exact absurd H (by simp)
 ·rw [if_neg c2] at H
  exact absurd H (by simp)

/-! ### laws_toThread: function 31 -/
def laws_toThread.f (k : Nat) (rA : List (S106)) (bA : Int) (nA : List Int) (lA : List Int) : Option ((List (S75)) × Int × List Int × List Int) := (laws_toCallS.f k rA).bind fun YA => ((laws_toIntS.f k nA).bind fun fB => ((laws_toIntS.f k lA).bind fun hB => (some (YA, bA, fB, hB))))
theorem laws_toThread.mono : ∀ a0 a1 a2 a3 k, LeO (laws_toThread.f k a0 a1 a2 a3) (laws_toThread.f (k + 1) a0 a1 a2 a3) := by
 intro a0 a1 a2 a3 k
 unfold laws_toThread.f
 repeat' first
   | (with_reducible exact laws_toCallS.mono _ _)
   | (with_reducible exact laws_toIntS.mono _ _)
   | (with_reducible exact LeO.refl _)
   | (with_reducible exact LeO.none _)
   | (with_reducible refine LeO.ite ?_ ?_)
   | (with_reducible refine LeO.bind ?_ (fun _ => ?_))
   | exact laws_toCallS.mono _ _
   | exact laws_toIntS.mono _ _
   | exact LeO.none _
   | refine LeO.ite ?_ ?_
   | refine LeO.bind ?_ (fun _ => ?_)
set_option maxHeartbeats 8000000 in
set_option maxRecDepth 100000 in
theorem laws_toThread.calls (k : Nat) (PA : Option Addr) (QA : Nat) (rA : List (S106)) (bA : Int) (GA : Option Addr) (IA : Nat) (nA : List Int) (JA : Option Addr) (KA : Nat) (lA : List Int) (r1 : List (S75)) (r2 : Int) (r3 : List Int) (r4 : List Int) (w : World) (gC : Kd.C k106 w PA rA.length rA) (hC : rA.length ≤ QA) (iC : Kd.C (Kd.int .i64) w GA nA.length nA) (jC : nA.length ≤ IA) (kC : Kd.C (Kd.int .i64) w JA lA.length lA) (lC : lA.length ≤ KA) (h : laws_toThread.f k rA bA nA lA = some (r1, r2, r3, r4)) :
  Calls Try.prog 31 #[.agg #[.slice PA rA.length QA, .int .i64 bA, .slice GA nA.length IA, .slice JA lA.length KA]] w fun e w' => ∃ v0_ v2_ v3_ : Value, e = .returned (.agg #[v0_, .int .i64 r2, v2_, v3_]) ∧ Kd.R k75 75 w' w.heap.size (fun _ => True) v0_ r1 ∧ Kd.R (Kd.int .i64) 3 w' w.heap.size (fun k_ => some k_ ≠ (v3_ : Value).ownBlock) v2_ r3 ∧ Kd.R (Kd.int .i64) 3 w' w.heap.size (fun k_ => some k_ ≠ (v2_ : Value).ownBlock) v3_ r4 ∧ Below w.heap.size w w' := by
 have hu50 := Try.underlying50
 have hu55 := Try.underlying55
 have yD := Aside0.mk gC
 have zD := Aside0.mk hC
 clear gC hC
 have AD := Aside0.mk iC
 have BD := Aside0.mk jC
 clear iC jC
 have CD := Aside0.mk kC
 have DD := Aside0.mk lC
 clear kC lC
 have HB := Aside0.mk (Below.refl w.heap.size w)
 have H : ((laws_toCallS.f k rA).bind fun YA => ((laws_toIntS.f k nA).bind fun fB => ((laws_toIntS.f k lA).bind fun hB => (some (YA, bA, fB, hB))))) = some (r1, r2, r3, r4) := h
 clear h
 replace H := Option.bind_eq_some_iff.mp H
 obtain ⟨YA, A20, H⟩ := H
 replace H : ((laws_toIntS.f k nA).bind fun fB => ((laws_toIntS.f k lA).bind fun hB => (some (YA, bA, fB, hB)))) = some (r1, r2, r3, r4) := H
 have A2 := Aside0.mk A20
 clear A20
 replace H := Option.bind_eq_some_iff.mp H
 obtain ⟨fB, A30, H⟩ := H
 replace H : ((laws_toIntS.f k lA).bind fun hB => (some (YA, bA, fB, hB))) = some (r1, r2, r3, r4) := H
 have A3 := Aside0.mk A30
 clear A30
 replace H := Option.bind_eq_some_iff.mp H
 obtain ⟨hB, A40, H⟩ := H
 replace H : (some (YA, bA, fB, hB)) = some (r1, r2, r3, r4) := H
 have A4 := Aside0.mk A40
 clear A40
 simp only [Option.some.injEq, Prod.mk.injEq] at H
 obtain ⟨rfl, rfl, rfl, rfl⟩ := H
 go_enter Try.func31, Try.ntmps31
 go_wp2_with (first | ((with_reducible refine gate_dst (N := 1) rfl ?_); refine box_event ?hg (N := 1) ?hd (cs := #[.slice PA rA.length QA, .int .i64 bA, .slice GA nA.length IA, .slice JA lA.length KA]) (t := 50) ?hr ?_; (case hd => rfl); (case hg => rfl); (case hr => first | (go_simp; done) | (go_simp; rfl)); intro wA hg w5 hbox hb; have gA := Aside0.mk (below_step q8_0 hb); have hA := Aside0.mk (hbox); have yA := Aside0.mk ((q8_15 : w.heap.size ≤ wA)); have CA := Aside0.mk ((q8_15 : w.heap.size ≤ wA)); clear HB; have HB := gA; have fA := hA; have LI := yA; have nD := CA; clear gA hA yA CA; clear hb hbox hg) | ((with_reducible refine gate_dst (N := 2) rfl ?_); refine box_event ?hg (N := 2) ?hd (cs := #[.slice none 0 0, .int .i64 0, .slice none 0 0, .slice none 0 0]) (t := 55) ?hr ?_; (case hd => rfl); (case hg => rfl); (case hr => first | (go_simp; done) | (go_simp; rfl)); intro pA hg w6 hbox hb; have gA := Aside0.mk (blk_below (g := wA) (o := .cells #[.slice PA rA.length QA, .int .i64 bA, .slice GA nA.length IA, .slice JA lA.length KA] 50 (0, 0)) q8_7 hb); have hA := Aside0.mk (below_step q8_24 hb); have yA := Aside0.mk (hbox); have CA := Aside0.mk ((by rw [hg]; exact (below_size q8_24) : w.heap.size ≤ pA)); have UA := Aside0.mk ((by rw [hg]; exact (below_size q8_24) : w.heap.size ≤ pA)); have eB := Aside0.mk ((by rw [hg]; exact Nat.ne_of_lt (blk_lt (g := wA) (o := .cells #[.slice PA rA.length QA, .int .i64 bA, .slice GA nA.length IA, .slice JA lA.length KA] 50 (0, 0)) q8_7) : wA ≠ pA)); have qB := Aside0.mk ((by rw [hg]; exact Nat.ne_of_gt (blk_lt (g := wA) (o := .cells #[.slice PA rA.length QA, .int .i64 bA, .slice GA nA.length IA, .slice JA lA.length KA] 50 (0, 0)) q8_7) : pA ≠ wA)); clear fA; clear HB; have fA := gA; have HB := hA; have EA := yA; have MI := CA; have FE := UA; have ZC := eB; have aD := qB; clear gA hA yA CA UA eB qB; clear hb hbox hg) | ((with_reducible refine gate_dst (N := 3) rfl ?_); refine box_event ?hg (N := 3) ?hd (cs := #[.slice none 0 0, .int .i64 0, .slice none 0 0, .slice none 0 0]) (t := 55) ?hr ?_; (case hd => rfl); (case hg => rfl); (case hr => first | (go_simp; done) | (go_simp; rfl)); intro sA hg w7 hbox hb; have gA := Aside0.mk (blk_below (g := wA) (o := .cells #[.slice PA rA.length QA, .int .i64 bA, .slice GA nA.length IA, .slice JA lA.length KA] 50 (0, 0)) q8_7 hb); have hA := Aside0.mk (blk_below (g := pA) (o := .cells #[.slice none 0 0, .int .i64 0, .slice none 0 0, .slice none 0 0] 55 (0, 0)) q8_21 hb); have yA := Aside0.mk (below_step q8_18 hb); have CA := Aside0.mk (hbox); have UA := Aside0.mk ((by rw [hg]; exact (below_size q8_18) : w.heap.size ≤ sA)); have eB := Aside0.mk ((by rw [hg]; exact (below_size q8_18) : w.heap.size ≤ sA)); have qB := Aside0.mk ((by rw [hg]; exact Nat.ne_of_lt (blk_lt (g := wA) (o := .cells #[.slice PA rA.length QA, .int .i64 bA, .slice GA nA.length IA, .slice JA lA.length KA] 50 (0, 0)) q8_7) : wA ≠ sA)); have fC := Aside0.mk ((by rw [hg]; exact Nat.ne_of_gt (blk_lt (g := wA) (o := .cells #[.slice PA rA.length QA, .int .i64 bA, .slice GA nA.length IA, .slice JA lA.length KA] 50 (0, 0)) q8_7) : sA ≠ wA)); have vD := Aside0.mk ((by rw [hg]; exact Nat.ne_of_lt (blk_lt (g := pA) (o := .cells #[.slice none 0 0, .int .i64 0, .slice none 0 0, .slice none 0 0] 55 (0, 0)) q8_21) : pA ≠ sA)); have wD := Aside0.mk ((by rw [hg]; exact Nat.ne_of_gt (blk_lt (g := pA) (o := .cells #[.slice none 0 0, .int .i64 0, .slice none 0 0, .slice none 0 0] 55 (0, 0)) q8_21) : sA ≠ pA)); clear fA; clear EA; clear HB; have fA := gA; have EA := hA; have HB := yA; have dA := CA; have NI := UA; have GF := eB; have lB := qB; have bD := fC; have aB := vD; have cD := wD; clear gA hA yA CA UA eB qB fC vD wD; clear hb hbox hg; have LF := ZC.out; have MF := aD.out; have pJ := lB.out; have qJ := bD.out; have JD : w7.cell? ⟨wA, 0, none⟩ = some (.slice PA rA.length QA) := (blk_cell fA.out 0).trans rfl; have KD : w7.cell? ⟨wA, 1, none⟩ = some (.int .i64 bA) := (blk_cell fA.out 1).trans rfl; have LD : w7.cell? ⟨wA, 2, none⟩ = some (.slice GA nA.length IA) := (blk_cell fA.out 2).trans rfl; have MD : w7.cell? ⟨wA, 3, none⟩ = some (.slice JA lA.length KA) := (blk_cell fA.out 3).trans rfl; have ND := blk_frozen fA.out 0; have OD := blk_frozen fA.out 1; have PD := blk_frozen fA.out 2; have QD := blk_frozen fA.out 3) | ((with_reducible refine gate_callee (f := 66) rfl ?_); refine goesL_ (some 6) rfl rfl Try.func66 (by kernel_rfl) rfl #[.slice PA rA.length QA] rfl q8_5 ?_; (with_reducible refine (laws_toCallS.calls k _ _ rA YA _ ?side1 ?side2 A2.out).mono ?_); (case side1 => repeat (first | exact (Kd.C_below yD.out HB.out) | (with_reducible refine Kd.C_alloc ?_ _) | (with_reducible refine Kd.C_drewN ?_ _) | (with_reducible refine Kd.C_drew ?_))); (case side2 => exact zD.out); rintro e WA ⟨rJ, rfl, ho0, hb⟩; refine ⟨_, rfl, ?_⟩; have gA := Aside0.mk (Kd.R_lower ho0 (below_size q8_2)); have hA := Aside0.mk (blk_below (g := wA) (o := .cells #[.slice PA rA.length QA, .int .i64 bA, .slice GA nA.length IA, .slice JA lA.length KA] 50 (0, 0)) q8_7 hb); have yA := Aside0.mk (blk_below (g := pA) (o := .cells #[.slice none 0 0, .int .i64 0, .slice none 0 0, .slice none 0 0] 55 (0, 0)) q8_21 hb); have CA := Aside0.mk (blk_below (g := sA) (o := .cells #[.slice none 0 0, .int .i64 0, .slice none 0 0, .slice none 0 0] 55 (0, 0)) (by (with_reducible repeat (first | refine blk_drewN ?_ _ | refine blk_drew ?_ | refine blk_alloc ?_ _)); exact dA.out) hb); have UA := Aside0.mk (below_step q8_2 hb); clear fA; clear EA; clear dA; clear HB; have BB := gA; have fA := hA; have EA := yA; have dA := CA; have HB := UA; clear gA hA yA CA UA; (try clear hb); (try clear hb2); (try clear hk); (try clear hi); (try clear ho0); obtain ⟨iB, jB, tF⟩ := Kd.R_slice BB.out; subst tF; have OI := cD.out; have PI := aB.out; have SD : WA.cell? ⟨sA, 0, none⟩ = some (.slice none 0 0) := (blk_cell dA.out 0).trans rfl; have TD : WA.cell? ⟨sA, 1, none⟩ = some (.int .i64 0) := (blk_cell dA.out 1).trans rfl; have UD : WA.cell? ⟨sA, 2, none⟩ = some (.slice none 0 0) := (blk_cell dA.out 2).trans rfl; have VD : WA.cell? ⟨sA, 3, none⟩ = some (.slice none 0 0) := (blk_cell dA.out 3).trans rfl; have WD := blk_frozen dA.out 0; have XD := blk_frozen dA.out 1; have YD := blk_frozen dA.out 2; have ZD := blk_frozen dA.out 3; have TB : WA.cell? ⟨wA, 0, none⟩ = some (.slice PA rA.length QA) := (blk_cell fA.out 0).trans rfl; have aE : WA.cell? ⟨wA, 1, none⟩ = some (.int .i64 bA) := (blk_cell fA.out 1).trans rfl; have bE : WA.cell? ⟨wA, 2, none⟩ = some (.slice GA nA.length IA) := (blk_cell fA.out 2).trans rfl; have cE : WA.cell? ⟨wA, 3, none⟩ = some (.slice JA lA.length KA) := (blk_cell fA.out 3).trans rfl; have UB := blk_frozen fA.out 0; have dE := blk_frozen fA.out 1; have eE := blk_frozen fA.out 2; have fE := blk_frozen fA.out 3) | ((with_reducible refine gate_callee (f := 46) rfl ?_); refine goesL_ (some 13) rfl rfl Try.func46 (by kernel_rfl) rfl #[.slice GA nA.length IA] rfl q8_5 ?_; (with_reducible refine (laws_toIntS.calls k _ _ nA fB _ ?side1 ?side2 A3.out).mono ?_); (case side1 => exact Kd.C_below AD.out q8_2); (case side2 => exact BD.out); rintro e DB ⟨sJ, rfl, ho0, hb⟩; refine ⟨_, rfl, ?_⟩; have gA := Aside0.mk (Kd.R_below (by (with_reducible repeat (first | apply Kd.R_alloc | apply Kd.R_drewN | apply Kd.R_drew)); exact (Kd.R_mono (Kd.R_far (p := ⟨sA, 1, none⟩) (Kd.R_far (p := ⟨sA, 0, none⟩) (Kd.R_types BB.out dA.out (by decide)) (fun _ hk => hk.2) (.slice iB YA.length jB)) (fun _ hk => hk.2) (.int .i64 bA)) (fun _ h_ => h_.1))) hb); have hA := Aside0.mk (Kd.R_lower ho0 (below_size q8_2)); have yA := Aside0.mk (blk_below (g := wA) (o := .cells #[.slice PA rA.length QA, .int .i64 bA, .slice GA nA.length IA, .slice JA lA.length KA] 50 (0, 0)) (by (with_reducible repeat (first | refine blk_drewN ?_ _ | refine blk_drew ?_ | refine blk_alloc ?_ _)); refine blk_far ?_ lB.out _; (with_reducible repeat (first | refine blk_drewN ?_ _ | refine blk_drew ?_ | refine blk_alloc ?_ _)); refine blk_far ?_ lB.out _; (with_reducible repeat (first | refine blk_drewN ?_ _ | refine blk_drew ?_ | refine blk_alloc ?_ _)); exact fA.out) hb); have CA := Aside0.mk (blk_below (g := pA) (o := .cells #[.slice none 0 0, .int .i64 0, .slice none 0 0, .slice none 0 0] 55 (0, 0)) (by (with_reducible repeat (first | refine blk_drewN ?_ _ | refine blk_drew ?_ | refine blk_alloc ?_ _)); refine blk_far ?_ aB.out _; (with_reducible repeat (first | refine blk_drewN ?_ _ | refine blk_drew ?_ | refine blk_alloc ?_ _)); refine blk_far ?_ aB.out _; (with_reducible repeat (first | refine blk_drewN ?_ _ | refine blk_drew ?_ | refine blk_alloc ?_ _)); exact EA.out) hb); have UA := Aside0.mk (blk_below (g := sA) (o := .cells #[.slice iB YA.length jB, .int .i64 bA, .slice none 0 0, .slice none 0 0] 55 (0, 0)) (by (with_reducible repeat (first | refine blk_drewN ?_ _ | refine blk_drew ?_ | refine blk_alloc ?_ _)); refine blk_put (cs := #[.slice iB YA.length jB, .int .i64 0, .slice none 0 0, .slice none 0 0]) ?_ 1 _ rfl; (with_reducible repeat (first | refine blk_drewN ?_ _ | refine blk_drew ?_ | refine blk_alloc ?_ _)); refine blk_put (cs := #[.slice none 0 0, .int .i64 0, .slice none 0 0, .slice none 0 0]) ?_ 0 _ rfl; (with_reducible repeat (first | refine blk_drewN ?_ _ | refine blk_drew ?_ | refine blk_alloc ?_ _)); exact dA.out) hb); have eB := Aside0.mk (below_step q8_2 hb); clear BB; clear fA; clear EA; clear dA; clear HB; have BB := gA; have bC := hA; have fA := yA; have EA := CA; have dA := UA; have HB := eB; clear gA hA yA CA UA eB; (try clear hb); (try clear hb2); (try clear hk); (try clear hi); (try clear ho0); obtain ⟨nB, oB, uF⟩ := Kd.R_slice bC.out; subst uF; have gE : DB.cell? ⟨sA, 0, none⟩ = some (.slice iB YA.length jB) := (blk_cell dA.out 0).trans rfl; have hE : DB.cell? ⟨sA, 1, none⟩ = some (.int .i64 bA) := (blk_cell dA.out 1).trans rfl; have iE : DB.cell? ⟨sA, 2, none⟩ = some (.slice none 0 0) := (blk_cell dA.out 2).trans rfl; have jE : DB.cell? ⟨sA, 3, none⟩ = some (.slice none 0 0) := (blk_cell dA.out 3).trans rfl; have kE := blk_frozen dA.out 0; have lE := blk_frozen dA.out 1; have mE := blk_frozen dA.out 2; have nE := blk_frozen dA.out 3; have oE : DB.cell? ⟨wA, 0, none⟩ = some (.slice PA rA.length QA) := (blk_cell fA.out 0).trans rfl; have pE : DB.cell? ⟨wA, 1, none⟩ = some (.int .i64 bA) := (blk_cell fA.out 1).trans rfl; have qE : DB.cell? ⟨wA, 2, none⟩ = some (.slice GA nA.length IA) := (blk_cell fA.out 2).trans rfl; have rE : DB.cell? ⟨wA, 3, none⟩ = some (.slice JA lA.length KA) := (blk_cell fA.out 3).trans rfl; have sE := blk_frozen fA.out 0; have tE := blk_frozen fA.out 1; have uE := blk_frozen fA.out 2; have vE := blk_frozen fA.out 3) | ((with_reducible refine gate_callee (f := 46) rfl ?_); refine goesL_ (some 17) rfl rfl Try.func46 (by kernel_rfl) rfl #[.slice JA lA.length KA] rfl q8_5 ?_; (with_reducible refine (laws_toIntS.calls k _ _ lA hB _ ?side1 ?side2 A4.out).mono ?_); (case side1 => exact Kd.C_below CD.out q8_2); (case side2 => exact DD.out); rintro e KE ⟨tJ, rfl, ho0, hb⟩; refine ⟨_, rfl, ?_⟩; have gA := Aside0.mk (Kd.R_below (by (with_reducible repeat (first | apply Kd.R_alloc | apply Kd.R_drewN | apply Kd.R_drew)); exact (Kd.R_mono (Kd.R_far (p := ⟨sA, 2, none⟩) (Kd.R_types BB.out dA.out (by decide)) (fun _ hk => hk.2) (.slice nB fB.length oB)) (fun _ h_ => h_.1))) hb); have hA := Aside0.mk (Kd.R_elder' q8_28 (Kd.R_base ho0) hb); have yA := Aside0.mk (Kd.R_lower (Kd.R_new' ho0 (Kd.R_lt q8_28)) (below_size q8_2)); have CA := Aside0.mk (blk_below (g := wA) (o := .cells #[.slice PA rA.length QA, .int .i64 bA, .slice GA nA.length IA, .slice JA lA.length KA] 50 (0, 0)) (by (with_reducible repeat (first | refine blk_drewN ?_ _ | refine blk_drew ?_ | refine blk_alloc ?_ _)); refine blk_far ?_ lB.out _; (with_reducible repeat (first | refine blk_drewN ?_ _ | refine blk_drew ?_ | refine blk_alloc ?_ _)); exact fA.out) hb); have UA := Aside0.mk (blk_below (g := pA) (o := .cells #[.slice none 0 0, .int .i64 0, .slice none 0 0, .slice none 0 0] 55 (0, 0)) (by (with_reducible repeat (first | refine blk_drewN ?_ _ | refine blk_drew ?_ | refine blk_alloc ?_ _)); refine blk_far ?_ aB.out _; (with_reducible repeat (first | refine blk_drewN ?_ _ | refine blk_drew ?_ | refine blk_alloc ?_ _)); exact EA.out) hb); have eB := Aside0.mk (blk_below (g := sA) (o := .cells #[.slice iB YA.length jB, .int .i64 bA, .slice nB fB.length oB, .slice none 0 0] 55 (0, 0)) (by (with_reducible repeat (first | refine blk_drewN ?_ _ | refine blk_drew ?_ | refine blk_alloc ?_ _)); refine blk_put (cs := #[.slice iB YA.length jB, .int .i64 bA, .slice none 0 0, .slice none 0 0]) ?_ 2 _ rfl; (with_reducible repeat (first | refine blk_drewN ?_ _ | refine blk_drew ?_ | refine blk_alloc ?_ _)); exact dA.out) hb); have qB := Aside0.mk (below_step q8_2 hb); clear BB; clear bC; clear fA; clear EA; clear dA; clear HB; have BB := gA; have bC := hA; have LE := yA; have fA := CA; have EA := UA; have dA := eB; have HB := qB; clear gA hA yA CA UA eB qB; (try clear hb); (try clear hb2); (try clear hk); (try clear hi); (try clear ho0); obtain ⟨GC, HC, nI⟩ := Kd.R_slice LE.out; subst nI; have iG : KE.cell? ⟨sA, 0, none⟩ = some (.slice iB YA.length jB) := (blk_cell dA.out 0).trans rfl; have jG : KE.cell? ⟨sA, 1, none⟩ = some (.int .i64 bA) := (blk_cell dA.out 1).trans rfl; have kG : KE.cell? ⟨sA, 2, none⟩ = some (.slice nB fB.length oB) := (blk_cell dA.out 2).trans rfl; have lG : KE.cell? ⟨sA, 3, none⟩ = some (.slice none 0 0) := (blk_cell dA.out 3).trans rfl; have mG := blk_frozen dA.out 0; have nG := blk_frozen dA.out 1; have oG := blk_frozen dA.out 2; have pG := blk_frozen dA.out 3; have qG : KE.cell? ⟨pA, 0, none⟩ = some (.slice none 0 0) := (blk_cell EA.out 0).trans rfl; have rG : KE.cell? ⟨pA, 1, none⟩ = some (.int .i64 0) := (blk_cell EA.out 1).trans rfl; have sG : KE.cell? ⟨pA, 2, none⟩ = some (.slice none 0 0) := (blk_cell EA.out 2).trans rfl; have tG : KE.cell? ⟨pA, 3, none⟩ = some (.slice none 0 0) := (blk_cell EA.out 3).trans rfl; have uG := blk_frozen EA.out 0; have vG := blk_frozen EA.out 1; have wG := blk_frozen EA.out 2; have xG := blk_frozen EA.out 3))
 refine bodyPost_ret (results_cell_row rfl _ _ pA 55 #[.slice iB YA.length jB, .int .i64 bA, .slice nB fB.length oB, .slice GC hB.length HC] (0, 0) _ rfl (by (with_reducible repeat (first | refine blk_drewN ?_ _ | refine blk_drew ?_ | refine blk_alloc ?_ _)); refine blk_put (cs := #[.slice iB YA.length jB, .int .i64 bA, .slice nB fB.length oB, .slice none 0 0]) ?_ 3 _ rfl; (with_reducible repeat (first | refine blk_drewN ?_ _ | refine blk_drew ?_ | refine blk_alloc ?_ _)); refine blk_put (cs := #[.slice iB YA.length jB, .int .i64 bA, .slice none 0 0, .slice none 0 0]) ?_ 2 _ rfl; (with_reducible repeat (first | refine blk_drewN ?_ _ | refine blk_drew ?_ | refine blk_alloc ?_ _)); refine blk_put (cs := #[.slice iB YA.length jB, .int .i64 0, .slice none 0 0, .slice none 0 0]) ?_ 1 _ rfl; (with_reducible repeat (first | refine blk_drewN ?_ _ | refine blk_drew ?_ | refine blk_alloc ?_ _)); refine blk_put (cs := #[.slice none 0 0, .int .i64 0, .slice none 0 0, .slice none 0 0]) ?_ 0 _ rfl; (with_reducible repeat (first | refine blk_drewN ?_ _ | refine blk_drew ?_ | refine blk_alloc ?_ _)); refine blk_far ?_ aB.out _; (with_reducible repeat (first | refine blk_drewN ?_ _ | refine blk_drew ?_ | refine blk_alloc ?_ _)); exact EA.out) Try.underlying55 rfl (by kernel_rfl)) rfl ?_
 exact ⟨_, _, _, q8_9, by (with_reducible repeat (first | apply Kd.R_alloc | apply Kd.R_drewN | apply Kd.R_drew)); exact Kd.R_mono (Kd.R_far (p := ⟨pA, 3, none⟩) (Kd.R_far (p := ⟨pA, 2, none⟩) (Kd.R_far (p := ⟨pA, 1, none⟩) (Kd.R_far (p := ⟨pA, 0, none⟩) (Kd.R_far (p := ⟨sA, 3, none⟩) (Kd.R_types (Kd.R_types BB.out dA.out (by decide)) EA.out (by decide)) (fun _ hk => hk.1.2) (.slice GC hB.length HC)) (fun _ hk => hk.2) (.slice iB YA.length jB)) (fun _ hk => hk.2) (.int .i64 bA)) (fun _ hk => hk.2) (.slice nB fB.length oB)) (fun _ hk => hk.2) (.slice GC hB.length HC)) (fun _ hk => trivial), by (with_reducible repeat (first | apply Kd.R_alloc | apply Kd.R_drewN | apply Kd.R_drew)); exact Kd.R_mono (Kd.R_far (p := ⟨pA, 3, none⟩) (Kd.R_far (p := ⟨pA, 2, none⟩) (Kd.R_far (p := ⟨pA, 1, none⟩) (Kd.R_far (p := ⟨pA, 0, none⟩) (Kd.R_far (p := ⟨sA, 3, none⟩) (Kd.R_types (Kd.R_types bC.out dA.out (by decide)) EA.out (by decide)) (fun _ hk => hk.1.2) (.slice GC hB.length HC)) (fun _ hk => hk.2) (.slice iB YA.length jB)) (fun _ hk => hk.2) (.int .i64 bA)) (fun _ hk => hk.2) (.slice nB fB.length oB)) (fun _ hk => hk.2) (.slice GC hB.length HC)) (fun _ hk => hk.1.1.2), by (with_reducible repeat (first | apply Kd.R_alloc | apply Kd.R_drewN | apply Kd.R_drew)); exact Kd.R_mono (Kd.R_far (p := ⟨pA, 3, none⟩) (Kd.R_far (p := ⟨pA, 2, none⟩) (Kd.R_far (p := ⟨pA, 1, none⟩) (Kd.R_far (p := ⟨pA, 0, none⟩) (Kd.R_far (p := ⟨sA, 3, none⟩) (Kd.R_types (Kd.R_types LE.out dA.out (by decide)) EA.out (by decide)) (fun _ hk => hk.1.2) (.slice GC hB.length HC)) (fun _ hk => hk.2) (.slice iB YA.length jB)) (fun _ hk => hk.2) (.int .i64 bA)) (fun _ hk => hk.2) (.slice nB fB.length oB)) (fun _ hk => hk.2) (.slice GC hB.length HC)) (fun _ hk => hk.1.1.2), q8_2⟩

/-! ### laws_toThreadS: function 13 -/
def laws_toThreadS.l0 : Nat → List (S50) → List (S55) → Int → Option ((List (S55)))
 | 0, _, _, _ => none
 | k + 1, x0, x3, x4 => if x4 < (x0.length : Int) then (if 0 ≤ x4 then ((laws_toThread.f k ((rd_T50 x0 x4).f0) ((rd_T50 x0 x4).f1) ((rd_T50 x0 x4).f2) ((rd_T50 x0 x4).f3)).bind fun KC => (if x4 < (x3.length : Int) then (laws_toThreadS.l0 k x0 (x3.set (x4 : Int).toNat (⟨KC.1, KC.2.1, KC.2.2.1, KC.2.2.2⟩ : S55)) (wrap64 (x4 + 1))) else (none))) else (none)) else (some x3)
def laws_toThreadS.f (k : Nat) (l0 : List (S50)) : Option ((List (S55))) := if 0 ≤ (l0.length : Int) then (if ((l0.length : Int) : Int).toNat ≤ 3518437208883 then (laws_toThreadS.l0 k l0 (List.replicate ((l0.length : Int) : Int).toNat z55) 0) else (none)) else (none)
theorem laws_toThreadS.mono_l : ∀ k, (∀ y0 y1 y2, LeO (laws_toThreadS.l0 k y0 y1 y2) (laws_toThreadS.l0 (k + 1) y0 y1 y2))
 | 0 => fun _ _ _ r h => by simp [laws_toThreadS.l0] at h
 | k + 1 => by
  have ih0 := laws_toThreadS.mono_l k
  ·intro y0 y1 y2
   unfold laws_toThreadS.l0
   repeat' first
   | (with_reducible exact ih0 _ _ _)
   | (with_reducible exact laws_toThread.mono _ _ _ _ _)
   | (with_reducible exact LeO.refl _)
   | (with_reducible exact LeO.none _)
   | (with_reducible refine LeO.ite ?_ ?_)
   | (with_reducible refine LeO.bind ?_ (fun _ => ?_))
   | exact ih0 _ _ _
   | exact laws_toThread.mono _ _ _ _ _
   | exact LeO.none _
   | refine LeO.ite ?_ ?_
   | refine LeO.bind ?_ (fun _ => ?_)
theorem laws_toThreadS.mono : ∀ a0 k, LeO (laws_toThreadS.f k a0) (laws_toThreadS.f (k + 1) a0) := by
 intro a0 k
 have ih0 := laws_toThreadS.mono_l k
 unfold laws_toThreadS.f
 repeat' first
   | (with_reducible exact ih0 _ _ _)
   | (with_reducible exact laws_toThread.mono _ _ _ _ _)
   | (with_reducible exact LeO.refl _)
   | (with_reducible exact LeO.none _)
   | (with_reducible refine LeO.ite ?_ ?_)
   | (with_reducible refine LeO.bind ?_ (fun _ => ?_))
   | exact ih0 _ _ _
   | exact laws_toThread.mono _ _ _ _ _
   | exact LeO.none _
   | refine LeO.ite ?_ ?_
   | refine LeO.bind ?_ (fun _ => ?_)
set_option maxHeartbeats 8000000 in
set_option maxRecDepth 100000 in
theorem laws_toThreadS.calls (k : Nat) (A0 : Option Addr) (c0 : Nat) (l0 : List (S50)) (r : List (S55)) (w : World) (hr0 : Kd.C k50 w A0 l0.length l0) (hc0 : l0.length ≤ c0) (h : laws_toThreadS.f k l0 = some r) :
  Calls Try.prog 13 #[.slice A0 l0.length c0] w fun e w' => ∃ v0_ : Value, e = .returned (v0_) ∧ Kd.S k55 55 w' w.heap.size (fun _ => True) v0_ r ∧ Below w.heap.size w w' := by
 have hu50 := Try.underlying50
 have hu55 := Try.underlying55
 have HR0 := Aside0.mk hr0
 clear hr0 hc0
 have HB := Aside0.mk (Below.refl w.heap.size w)
 have H : (if 0 ≤ (l0.length : Int) then (if ((l0.length : Int) : Int).toNat ≤ 3518437208883 then (laws_toThreadS.l0 k l0 (List.replicate ((l0.length : Int) : Int).toNat z55) 0) else (none)) else (none)) = some r := h
 clear h
 by_cases c2 : 0 ≤ (l0.length : Int)
 ·rw [if_pos c2] at H
  have rD := eq_true c2
  have sD : decide (0 ≤ (l0.length : Int)) = true := decide_eq_true c2
  clear c2
  by_cases c3 : ((l0.length : Int) : Int).toNat ≤ 3518437208883
  ·rw [if_pos c3] at H
   have tD := eq_true c3
   have uD : decide (((l0.length : Int) : Int).toNat ≤ 3518437208883) = true := decide_eq_true c3
   clear c3
   obtain ⟨y238, hy238⟩ : ∃ y_ : List (S55), y_ = (List.replicate ((l0.length : Int) : Int).toNat z55) := ⟨_, rfl⟩
   replace H : (laws_toThreadS.l0 k l0 y238 0) = some r := by first | (rw [hy238]; with_reducible exact H) | (have H2_ := (Option.bind_some _ _).symm.trans H; rw [hy238]; with_reducible exact H2_) | (have H2_ := (Option.bind_some _ _).symm.trans H; with_reducible exact H2_) | with_reducible exact H | (rw [hy238]; exact H) | exact H
   have Ny238 := Aside0.mk hy238
   clear hy238
   have H' := Aside0.mk H
   clear H
   go_enter Try.func13, Try.ntmps13
   go_wp2_with (first | ((with_reducible refine gate_dst (N := 7) rfl ?_); refine Kd.S_make k55 _ 55 rfl (N := 7) rfl 27 _ _ rfl (l0.length : Int) rfl rfl Try.underlying27 (.agg #[(.slice none 0 0), (.int .i64 0), (.slice none 0 0), (.slice none 0 0)]) 80 info55 rfl (by decide) (by omega) z55 (ok := fun _ => True) (okp := fun _ => True) (k55_mkM _ _ _ z55 (Kd.R_nil _ _ _ _ _) (Kd.R_nil _ _ _ _ _) (Kd.R_nil _ _ _ _ _)) (fun _ hk => hk) trivial (of_decide_eq_true q8_3) (Nat.le_trans (Nat.mul_le_mul_right _ (of_decide_eq_true q8_3 : (l0.length : Int).toNat ≤ 3518437208883)) (by omega)) (Below.refl _ _) (Nat.le_refl _) ?_; intro oI w4 ho5 hb hg_ hnew_; clear hg_ hnew_; (first | rw [← Ny238.out] at ho5 | (simp only [Int.reduceToNat] at ho5; rw [← Ny238.out] at ho5)); have gA := Aside0.mk (Kd.S_lower ho5 (below_size q8_0)); have hA := Aside0.mk (below_step q8_0 hb); clear HB; have OF := gA; have HB := hA; clear gA hA; clear hb ho5))
   go_loopg [4] k (fun kq v4 w' => ∃ (kA : List (S55)) (aA : Int), v4 = .int .i64 aA ∧ Aside0 (laws_toThreadS.l0 kq l0 kA aA = some r) ∧ Aside0 (kq ≤ k) ∧ Aside0 (Kd.S k55 55 w' w.heap.size (fun _ => True) oI kA) ∧ Aside0 (Below w.heap.size w w'))
   case atStart => exact ⟨(y238), (0), q8_16, H', ⟨Nat.le_refl _⟩, ⟨by (with_reducible repeat (first | apply Kd.S_alloc | apply Kd.S_drewN | apply Kd.S_drew)); exact OF.out⟩, ⟨q8_0⟩⟩
   case round =>
    clear H'
    (try clear c1); (try clear c2); (try clear rD); (try clear sD); (try clear p2); (try clear c3); (try clear tD); (try clear uD)
    obtain ⟨kA, aA, rfl, HA, HK1, DA, HB⟩ := hrel
    cases gk with
    | zero => exact absurd HA.out (by simp [laws_toThreadS.l0])
    | succ k1 =>
     have H := HA.out
     clear HA
     simp only [laws_toThreadS.l0] at H
     by_cases c6 : aA < (l0.length : Int)
     ·rw [if_pos c6] at H
      have mC : decide (aA < (l0.length : Int)) = true := decide_eq_true c6
      clear c6
      by_cases c7 : 0 ≤ aA
      ·rw [if_pos c7] at H
       have ID : decide (0 ≤ aA) = true := decide_eq_true c7
       clear c7
       replace H := Option.bind_eq_some_iff.mp H
       obtain ⟨⟨ED, IC, FD, GD⟩, A80, H⟩ := H
       replace H : (if aA < (kA.length : Int) then (laws_toThreadS.l0 k1 l0 (kA.set (aA : Int).toNat (⟨ED, IC, FD, GD⟩ : S55)) (wrap64 (aA + 1))) else (none)) = some r := H
       have A8 := Aside0.mk A80
       clear A80
       by_cases c9 : aA < (kA.length : Int)
       ·rw [if_pos c9] at H
        have ZH : decide (aA < (kA.length : Int)) = true := decide_eq_true c9
        clear c9
        obtain ⟨y252, hy252⟩ : ∃ y_ : List (S55), y_ = (kA.set (aA : Int).toNat (⟨ED, IC, FD, GD⟩ : S55)) := ⟨_, rfl⟩
        replace H : (laws_toThreadS.l0 k1 l0 y252 (wrap64 (aA + 1))) = some r := by first | (rw [hy252]; with_reducible exact H) | (have H2_ := (Option.bind_some _ _).symm.trans H; rw [hy252]; with_reducible exact H2_) | (have H2_ := (Option.bind_some _ _).symm.trans H; with_reducible exact H2_) | with_reducible exact H | (rw [hy252]; exact H) | exact H
        have Ny252 := Aside0.mk hy252
        clear hy252
        have H' := Aside0.mk H
        clear H
        have p241 : 0 ≤ (aA : Int) := of_decide_eq_true q8_3
        have q241 : aA < (l0.length : Int) := of_decide_eq_true q8_3
        obtain ⟨ad241, vF, wF, xF, yF, zF, AF, pI, VB, WB, XB, YB, LC, MC, NC, OC, PC, QC⟩ := at_T50 HR0.out aA p241 q241
        cases pI
        replace VB := (HB.out.cell (World.block_lt_of_cell? w _ VB)).trans VB
        replace WB := (HB.out.cell (World.block_lt_of_cell? w _ WB)).trans WB
        replace XB := (HB.out.cell (World.block_lt_of_cell? w _ XB)).trans XB
        replace YB := (HB.out.cell (World.block_lt_of_cell? w _ YB)).trans YB
        have wE := Aside0.mk MC
        have xE := Aside0.mk LC
        clear MC LC
        have yE := Aside0.mk OC
        have zE := Aside0.mk NC
        clear OC NC
        have AE := Aside0.mk QC
        have BE := Aside0.mk PC
        clear QC PC
        replace p241 := eq_true p241
        replace q241 := eq_true q241
        go_wp2_with (first | ((with_reducible refine gate_callee (f := 31) rfl ?_); refine goesL_ (some 20) rfl rfl Try.func31 (by kernel_rfl) rfl #[.agg #[.slice vF ((rd_T50 l0 aA).f0).length wF, .int .i64 ((rd_T50 l0 aA).f1), .slice xF ((rd_T50 l0 aA).f2).length yF, .slice zF ((rd_T50 l0 aA).f3).length AF]] rfl q8_5 ?_; (with_reducible refine (laws_toThread.calls k1 _ _ ((rd_T50 l0 aA).f0) ((rd_T50 l0 aA).f1) _ _ ((rd_T50 l0 aA).f2) _ _ ((rd_T50 l0 aA).f3) ED IC FD GD _ ?side1 ?side2 ?side3 ?side4 ?side5 ?side6 A8.out).mono ?_); (case side1 => repeat (first | exact (Kd.C_below wE.out HB.out) | (with_reducible refine Kd.C_alloc ?_ _) | (with_reducible refine Kd.C_drewN ?_ _) | (with_reducible refine Kd.C_drew ?_))); (case side2 => exact xE.out); (case side3 => repeat (first | exact (Kd.C_below yE.out HB.out) | (with_reducible refine Kd.C_alloc ?_ _) | (with_reducible refine Kd.C_drewN ?_ _) | (with_reducible refine Kd.C_drew ?_))); (case side4 => exact zE.out); (case side5 => repeat (first | exact (Kd.C_below AE.out HB.out) | (with_reducible refine Kd.C_alloc ?_ _) | (with_reducible refine Kd.C_drewN ?_ _) | (with_reducible refine Kd.C_drew ?_))); (case side6 => exact BE.out); rintro e WA ⟨CE, DE, EE, rfl, ho0, ho1, ho2, hb⟩; refine ⟨_, rfl, ?_⟩; have gA := Aside0.mk (Kd.S_mono (Kd.S_told (Kd.S_told (Kd.S_told (Kd.S_old q8_34 hb) (Kd.R_base ho0)) (Kd.R_base ho1)) (Kd.R_base ho2)) (fun _ h_ => h_.1)); have hA := Aside0.mk (Kd.R_lower ho0 (below_size q8_0)); have yA := Aside0.mk (Kd.R_lower ho1 (below_size q8_0)); have CA := Aside0.mk (Kd.R_lower ho2 (below_size q8_0)); have UA := Aside0.mk (below_step q8_0 hb); clear DA; clear HB; have DA := gA; have RC := hA; have SC := yA; have TC := CA; have HB := UA; clear gA hA yA CA UA; (try clear hb); (try clear hb2); (try clear hk); (try clear hi); (try clear ho0); (try clear ho1); (try clear ho2); have p10 : 0 ≤ (aA : Int) := of_decide_eq_true q8_3; have q10 : (aA : Int) < ((kA.length : Int) : Int) := of_decide_eq_true q8_3; obtain ⟨go10, SB, xC, xD, gl10, cl10, HG10⟩ := Kd.S_form DA.out (by omega); (first | cases xC | (injection xC with ea_ en_ ec_; (first | subst ea_ | (injection ea_ with ea_; subst ea_)); subst ec_; clear en_)); have GB10 := Aside0.mk xD; have GG10 := Aside0.mk HG10; clear xD gl10 HG10; obtain ⟨_, ce10, hcl10, hM10, hcc10, hfr10, _, _⟩ := Kd.S_elem DA.out z55 (aA : Int) p10 q10; obtain ⟨ve10_0, ve10_2, ve10_3, rfl, ge10_0, ge10_2, ge10_3⟩ := k55_openM hM10; have ZE : WA.cell? ⟨go10, (aA : Int).toNat * 4, none⟩ = some (ve10_0) := hcc10 0 _ rfl; have aF : WA.cell? ⟨go10, (aA : Int).toNat * 4 + 1, none⟩ = some (.int .i64 ((rd_T55 kA aA).f1)) := hcc10 1 _ rfl; have bF : WA.cell? ⟨go10, (aA : Int).toNat * 4 + 2, none⟩ = some (ve10_2) := hcc10 2 _ rfl; have cF : WA.cell? ⟨go10, (aA : Int).toNat * 4 + 3, none⟩ = some (ve10_3) := hcc10 3 _ rfl; have dF : WA.frozen? ⟨go10, (aA : Int).toNat * 4, none⟩ = false := hfr10 0; have eF : WA.frozen? ⟨go10, (aA : Int).toNat * 4 + 1, none⟩ = false := hfr10 1; have fF : WA.frozen? ⟨go10, (aA : Int).toNat * 4 + 2, none⟩ = false := hfr10 2; have gF : WA.frozen? ⟨go10, (aA : Int).toNat * 4 + 3, none⟩ = false := hfr10 3; clear hcl10 hcc10 hfr10 hM10; replace p10 := eq_true p10; replace q10 := eq_true q10; have n_ := Aside0.mk (Kd.S_mono (ok' := (fun k_ => some k_ ≠ (CE : Value).ownBlock ∧ some k_ ≠ (DE : Value).ownBlock ∧ some k_ ≠ (EE : Value).ownBlock)) DA.out (fun k_ hk => ⟨hk.1.1.2, ⟨hk.1.2, hk.2⟩⟩)); clear DA; have DA := n_; clear n_; have HX12 := Aside0.mk (show Kd.S k55 55 WA w.heap.size (fun k_ => ((fun _ => True)) k_ ∧ ¬ ((fun k_ => some k_ = (CE : Value).ownBlock ∨ some k_ = (DE : Value).ownBlock ∨ some k_ = (EE : Value).ownBlock)) k_) (.slice (some ⟨go10, 0, none⟩) kA.length SB) kA from (by (with_reducible repeat (first | apply Kd.S_alloc | apply Kd.S_drewN | apply Kd.S_drew)); exact Kd.S_mono DA.out (fun k_ hk => ⟨trivial, fun e_ => e_.elim (fun h_ => hk.1 h_) (fun h_ => h_.elim (fun h_ => hk.2.1 h_) (fun h_ => hk.2.2 h_))⟩))); obtain ⟨oki12, ce12, hcl12, hM12, hcc12, hfr12, hoki12, hH12⟩ := Kd.S_elem HX12.out z55 (aA : Int) (of_decide_eq_true q8_3) (by have h_ : (aA : Int) < ((kA.length : Int) : Int) := of_decide_eq_true q8_3; first | exact h_ | (have e_ := (Kd.S_reads' DA.out).1; omega) | simpa using h_); obtain ⟨ve12_0, ve12_2, ve12_3, rfl, ge12_0, ge12_2, ge12_3⟩ := k55_openM hM12; have HP12 := Kd.S_seg hH12 (of_decide_eq_true q8_3) (by have h_ : (aA : Int) < ((kA.length : Int) : Int) := of_decide_eq_true q8_3; first | exact h_ | (have e_ := (Kd.S_reads' DA.out).1; omega) | simpa using h_) (seg := [CE, .int .i64 IC, DE, EE]) (j := 0) (show 4 ≤ 4 from by decide) (x' := (⟨ED, IC, FD, GD⟩ : S55)) (k55_mkM _ _ _ (⟨ED, IC, FD, GD⟩ : S55) (Kd.R_mono (Kd.R_tight rfl (Kd.R_mono (ok' := fun k_ => ((fun _ => True)) k_ ∧ k_ ≠ go10) (Kd.R_apart' (RC.out) (Kd.S_typed DA.out) (by decide)) (fun k_ hk => ⟨trivial, fun e_ => (hk.2) (by rw [e_]; rfl)⟩))) (fun _ h_ => Or.inr (Or.inl h_))) (Kd.R_mono (Kd.R_tight rfl (Kd.R_mono (ok' := fun k_ => ((fun _ => True)) k_ ∧ k_ ≠ go10) (Kd.R_apart' (SC.out) (Kd.S_typed DA.out) (by decide)) (fun k_ hk => ⟨trivial, fun e_ => (hk.2) (by rw [e_]; rfl)⟩))) (fun _ h_ => Or.inr (Or.inr (Or.inl h_)))) (Kd.R_mono (Kd.R_tight rfl (Kd.R_mono (ok' := fun k_ => ((fun _ => True)) k_ ∧ k_ ≠ go10) (Kd.R_apart' (TC.out) (Kd.S_typed DA.out) (by decide)) (fun k_ hk => ⟨trivial, fun e_ => (hk.2) (by rw [e_]; rfl)⟩))) (fun _ h_ => Or.inr (Or.inr (Or.inr (h_)))))) (fun _ hk => hk) (fun k_ hk_ => hk_.elim (fun h_ => ((Kd.R_mono (ok' := fun k_ => ((fun _ => True)) k_ ∧ k_ ≠ go10) (Kd.R_apart' (RC.out) (Kd.S_typed DA.out) (by decide)) (fun k_ hk => ⟨trivial, fun e_ => (hk.2) (by rw [e_]; rfl)⟩))).1 k_ h_.symm) (fun h_ => h_.elim (fun h_ => ((Kd.R_mono (ok' := fun k_ => ((fun _ => True)) k_ ∧ k_ ≠ go10) (Kd.R_apart' (SC.out) (Kd.S_typed DA.out) (by decide)) (fun k_ hk => ⟨trivial, fun e_ => (hk.2) (by rw [e_]; rfl)⟩))).1 k_ h_.symm) (fun h_ => ((Kd.R_mono (ok' := fun k_ => ((fun _ => True)) k_ ∧ k_ ≠ go10) (Kd.R_apart' (TC.out) (Kd.S_typed DA.out) (by decide)) (fun k_ hk => ⟨trivial, fun e_ => (hk.2) (by rw [e_]; rfl)⟩))).1 k_ h_.symm))); have yC := hcc12 0 _ rfl; (try simp only [show (k55).sz = 4 from rfl, Nat.mul_one, Nat.add_zero] at yC); have zC := hfr12 0; (try simp only [show (k55).sz = 4 from rfl, Nat.mul_one, Nat.add_zero] at zC); have AC := hcc12 1 _ rfl; (try simp only [show (k55).sz = 4 from rfl, Nat.mul_one, Nat.add_zero] at AC); have BC := hfr12 1; (try simp only [show (k55).sz = 4 from rfl, Nat.mul_one, Nat.add_zero] at BC); have CC := hcc12 2 _ rfl; (try simp only [show (k55).sz = 4 from rfl, Nat.mul_one, Nat.add_zero] at CC); have DC := hfr12 2; (try simp only [show (k55).sz = 4 from rfl, Nat.mul_one, Nat.add_zero] at DC); have EC := hcc12 3 _ rfl; (try simp only [show (k55).sz = 4 from rfl, Nat.mul_one, Nat.add_zero] at EC); have FC := hfr12 3; (try simp only [show (k55).sz = 4 from rfl, Nat.mul_one, Nat.add_zero] at FC); clear hcl12 hcc12 hfr12 hM12 hoki12 hH12) | ((with_reducible refine gate_store (t := 55) (p := 21) rfl ?_); obtain ⟨Aq0_, cq0_, eq0_⟩ := Kd.R_slice RC.out; obtain ⟨Aq1_, cq1_, eq1_⟩ := Kd.R_slice SC.out; obtain ⟨Aq2_, cq2_, eq2_⟩ := Kd.R_slice TC.out; refine store_event (t := 55) (p := 21) (v := ?vo_w13) (w1 := ((((WA.setCell ⟨go10, (aA : Int).toNat * 4, none⟩ (CE)).setCell ⟨go10, (aA : Int).toNat * 4 + 1, none⟩ (.int .i64 IC)).setCell ⟨go10, (aA : Int).toNat * 4 + 2, none⟩ (DE)).setCell ⟨go10, (aA : Int).toNat * 4 + 3, none⟩ (EE))) ?hg ?ho ?hn ?hr ?_; (case ho => rfl); (case hg => rfl); (case hn => rfl); (case hr => first | (go_simp; done) | (go_simp; rfl) | (simp only [eq0_, eq1_, eq2_]; go_simp; done) | (simp only [eq0_, eq1_, eq2_]; go_simp; rfl)); intro RD hw; have hg : WA.grownBy RD (some go10) := (by rw [hw]; exact HP12.2); have hp_ : Kd.S k55 55 RD w.heap.size (fun _ => True) (.slice (some ⟨go10, 0, none⟩) kA.length SB) y252 := (by rw [hw, Ny252.out]; exact HP12.1); clear HP12; have gA := Aside0.mk (hp_); have hA := Aside0.mk ((by rw [hw]; exact below_set (below_set (below_set (below_set (HB.out) GB10.out) GB10.out) GB10.out) GB10.out : Below w.heap.size w RD)); clear DA; clear HB; clear RC; clear SC; clear TC; have DA := gA; have HB := hA; clear gA hA; clear hg hw hp_))
        go_roundg k1
        case measure => have := HK1.out; omega
        case rel => exact ⟨(y252), (wrap64 (aA + 1)), q8_16, H', ⟨by have := HK1.out; omega⟩, ⟨q8_34⟩, ⟨q8_0⟩⟩
       ·rw [if_neg c9] at H
        exact absurd H (by simp)
      ·rw [if_neg c7] at H
       exact absurd H (by simp)
     ·rw [if_neg c6] at H
      have mC : decide (aA < (l0.length : Int)) = false := decide_eq_false c6
      clear c6
      obtain rfl := Option.some.inj H
      go_wp2
      go_ret
      exact ⟨_, q8_9, q8_34, q8_0⟩
  ·rw [if_neg c3] at H
   exact absurd H (by simp)
 ·rw [if_neg c2] at H
  exact absurd H (by simp)

/-! ### laws_toMem: function 62 -/
def laws_toMem.f (k : Nat) (rA : List Int) : Option (List Int) := (laws_toIntS.f k rA).bind fun ZB => (some ZB)
theorem laws_toMem.mono : ∀ a0 k, LeO (laws_toMem.f k a0) (laws_toMem.f (k + 1) a0) := by
 intro a0 k
 unfold laws_toMem.f
 repeat' first
   | (with_reducible exact laws_toIntS.mono _ _)
   | (with_reducible exact LeO.refl _)
   | (with_reducible exact LeO.none _)
   | (with_reducible refine LeO.ite ?_ ?_)
   | (with_reducible refine LeO.bind ?_ (fun _ => ?_))
   | exact laws_toIntS.mono _ _
   | exact LeO.none _
   | refine LeO.ite ?_ ?_
   | refine LeO.bind ?_ (fun _ => ?_)
set_option maxHeartbeats 8000000 in
set_option maxRecDepth 100000 in
theorem laws_toMem.calls (k : Nat) (PA : Option Addr) (QA : Nat) (rA : List Int) (r : List Int) (w : World) (gC : Kd.C (Kd.int .i64) w PA rA.length rA) (hC : rA.length ≤ QA) (h : laws_toMem.f k rA = some r) :
  Calls Try.prog 62 #[.agg #[.slice PA rA.length QA]] w fun e w' => ∃ v0_ : Value, e = .returned (.agg #[v0_]) ∧ Kd.R (Kd.int .i64) 3 w' w.heap.size (fun _ => True) v0_ r ∧ Below w.heap.size w w' := by
 have hu38 := Try.underlying38
 have hu26 := Try.underlying26
 have yD := Aside0.mk gC
 have zD := Aside0.mk hC
 clear gC hC
 have HB := Aside0.mk (Below.refl w.heap.size w)
 have H : ((laws_toIntS.f k rA).bind fun ZB => (some ZB)) = some r := h
 clear h
 replace H := Option.bind_eq_some_iff.mp H
 obtain ⟨ZB, A20, H⟩ := H
 replace H : (some ZB) = some r := H
 have A2 := Aside0.mk A20
 clear A20
 obtain rfl := Option.some.inj H
 go_enter Try.func62, Try.ntmps62
 go_wp2_with (first | ((with_reducible refine gate_dst (N := 1) rfl ?_); refine box_event ?hg (N := 1) ?hd (cs := #[.slice PA rA.length QA]) (t := 38) ?hr ?_; (case hd => rfl); (case hg => rfl); (case hr => first | (go_simp; done) | (go_simp; rfl)); intro ZA hg w3 hbox hb; have gA := Aside0.mk (below_step q8_0 hb); have hA := Aside0.mk (hbox); have yA := Aside0.mk ((q8_15 : w.heap.size ≤ ZA)); have CA := Aside0.mk ((q8_15 : w.heap.size ≤ ZA)); clear HB; have HB := gA; have uB := hA; have QI := yA; have pD := CA; clear gA hA yA CA; clear hb hbox hg) | ((with_reducible refine gate_dst (N := 2) rfl ?_); refine box_event ?hg (N := 2) ?hd (cs := #[.slice none 0 0]) (t := 26) ?hr ?_; (case hd => rfl); (case hg => rfl); (case hr => first | (go_simp; done) | (go_simp; rfl)); intro bB hg w4 hbox hb; have gA := Aside0.mk (blk_below (g := ZA) (o := .cells #[.slice PA rA.length QA] 38 (0, 0)) q8_8 hb); have hA := Aside0.mk (below_step q8_25 hb); have yA := Aside0.mk (hbox); have CA := Aside0.mk ((by rw [hg]; exact (below_size q8_25) : w.heap.size ≤ bB)); have UA := Aside0.mk ((by rw [hg]; exact (below_size q8_25) : w.heap.size ≤ bB)); have eB := Aside0.mk ((by rw [hg]; exact Nat.ne_of_lt (blk_lt (g := ZA) (o := .cells #[.slice PA rA.length QA] 38 (0, 0)) q8_8) : ZA ≠ bB)); have qB := Aside0.mk ((by rw [hg]; exact Nat.ne_of_gt (blk_lt (g := ZA) (o := .cells #[.slice PA rA.length QA] 38 (0, 0)) q8_8) : bB ≠ ZA)); clear uB; clear HB; have uB := gA; have HB := hA; have vB := yA; have RI := CA; have IE := UA; have dD := eB; have eD := qB; clear gA hA yA CA UA eB qB; clear hb hbox hg) | ((with_reducible refine gate_dst (N := 3) rfl ?_); refine box_event ?hg (N := 3) ?hd (cs := #[.slice none 0 0]) (t := 26) ?hr ?_; (case hd => rfl); (case hg => rfl); (case hr => first | (go_simp; done) | (go_simp; rfl)); intro xB hg w5 hbox hb; have gA := Aside0.mk (blk_below (g := ZA) (o := .cells #[.slice PA rA.length QA] 38 (0, 0)) q8_8 hb); have hA := Aside0.mk (blk_below (g := bB) (o := .cells #[.slice none 0 0] 26 (0, 0)) q8_22 hb); have yA := Aside0.mk (below_step q8_19 hb); have CA := Aside0.mk (hbox); have UA := Aside0.mk ((by rw [hg]; exact (below_size q8_19) : w.heap.size ≤ xB)); have eB := Aside0.mk ((by rw [hg]; exact (below_size q8_19) : w.heap.size ≤ xB)); have qB := Aside0.mk ((by rw [hg]; exact Nat.ne_of_lt (blk_lt (g := ZA) (o := .cells #[.slice PA rA.length QA] 38 (0, 0)) q8_8) : ZA ≠ xB)); have fC := Aside0.mk ((by rw [hg]; exact Nat.ne_of_gt (blk_lt (g := ZA) (o := .cells #[.slice PA rA.length QA] 38 (0, 0)) q8_8) : xB ≠ ZA)); have vD := Aside0.mk ((by rw [hg]; exact Nat.ne_of_lt (blk_lt (g := bB) (o := .cells #[.slice none 0 0] 26 (0, 0)) q8_22) : bB ≠ xB)); have wD := Aside0.mk ((by rw [hg]; exact Nat.ne_of_gt (blk_lt (g := bB) (o := .cells #[.slice none 0 0] 26 (0, 0)) q8_22) : xB ≠ bB)); clear uB; clear vB; clear HB; have uB := gA; have vB := hA; have HB := yA; have EB := CA; have SI := UA; have IF := eB; have fD := qB; have gD := fC; have FB := vD; have hD := wD; clear gA hA yA CA UA eB qB fC vD wD; clear hb hbox hg; have sH := dD.out; have tH := eD.out; have qI := fD.out; have rI := gD.out; have sI : w5.cell? ⟨ZA, 0, none⟩ = some (.slice PA rA.length QA) := (blk_cell uB.out 0).trans rfl; have tI := blk_frozen uB.out 0) | ((with_reducible refine gate_callee (f := 46) rfl ?_); refine goesL_ (some 6) rfl rfl Try.func46 (by kernel_rfl) rfl #[.slice PA rA.length QA] rfl q8_5 ?_; (with_reducible refine (laws_toIntS.calls k _ _ rA ZB _ ?side1 ?side2 A2.out).mono ?_); (case side1 => repeat (first | exact (Kd.C_below yD.out HB.out) | (with_reducible refine Kd.C_alloc ?_ _) | (with_reducible refine Kd.C_drewN ?_ _) | (with_reducible refine Kd.C_drew ?_))); (case side2 => exact zD.out); rintro e w9 ⟨uJ, rfl, ho0, hb⟩; refine ⟨_, rfl, ?_⟩; have gA := Aside0.mk (Kd.R_lower ho0 (below_size q8_14)); have hA := Aside0.mk (blk_below (g := ZA) (o := .cells #[.slice PA rA.length QA] 38 (0, 0)) q8_8 hb); have yA := Aside0.mk (blk_below (g := bB) (o := .cells #[.slice none 0 0] 26 (0, 0)) q8_22 hb); have CA := Aside0.mk (blk_below (g := xB) (o := .cells #[.slice none 0 0] 26 (0, 0)) (by (with_reducible repeat (first | refine blk_drewN ?_ _ | refine blk_drew ?_ | refine blk_alloc ?_ _)); exact EB.out) hb); have UA := Aside0.mk (below_step q8_14 hb); clear uB; clear vB; clear EB; clear HB; have ME := gA; have uB := hA; have vB := yA; have EB := CA; have HB := UA; clear gA hA yA CA UA; (try clear hb); (try clear hb2); (try clear hk); (try clear hi); (try clear ho0); obtain ⟨BF, SB, xC⟩ := Kd.R_slice ME.out; subst xC; have TI := hD.out; have UI := FB.out; have yG : w9.cell? ⟨xB, 0, none⟩ = some (.slice none 0 0) := (blk_cell EB.out 0).trans rfl; have zG := blk_frozen EB.out 0; have AG : w9.cell? ⟨bB, 0, none⟩ = some (.slice none 0 0) := (blk_cell vB.out 0).trans rfl; have BG := blk_frozen vB.out 0))
 refine bodyPost_ret (results_cell_row rfl _ _ bB 26 #[.slice BF ZB.length SB] (0, 0) _ rfl (by (with_reducible repeat (first | refine blk_drewN ?_ _ | refine blk_drew ?_ | refine blk_alloc ?_ _)); refine blk_put (cs := #[.slice none 0 0]) ?_ 0 _ rfl; (with_reducible repeat (first | refine blk_drewN ?_ _ | refine blk_drew ?_ | refine blk_alloc ?_ _)); refine blk_far ?_ FB.out _; (with_reducible repeat (first | refine blk_drewN ?_ _ | refine blk_drew ?_ | refine blk_alloc ?_ _)); exact vB.out) Try.underlying26 rfl (by kernel_rfl)) rfl ?_
 exact ⟨_, q8_9, by (with_reducible repeat (first | apply Kd.R_alloc | apply Kd.R_drewN | apply Kd.R_drew)); exact Kd.R_mono (Kd.R_far (p := ⟨bB, 0, none⟩) (Kd.R_far (p := ⟨xB, 0, none⟩) (Kd.R_types (Kd.R_types ME.out EB.out (by decide)) vB.out (by decide)) (fun _ hk => hk.1.2) (.slice BF ZB.length SB)) (fun _ hk => hk.2) (.slice BF ZB.length SB)) (fun _ hk => trivial), q8_14⟩

/-! ### laws_toCrew: function 22 -/
def laws_toCrew.f (k : Nat) (iA : Int) (bA : Int) (nA : List Int) (lA : List (S50)) (uA : Int) : Option (Int × Int × List Int × (List (S55)) × Int) := (laws_toMem.f k nA).bind fun sB => ((laws_toThreadS.f k lA).bind fun yB => (some (iA, bA, sB, yB, uA)))
theorem laws_toCrew.mono : ∀ a0 a1 a2 a3 a4 k, LeO (laws_toCrew.f k a0 a1 a2 a3 a4) (laws_toCrew.f (k + 1) a0 a1 a2 a3 a4) := by
 intro a0 a1 a2 a3 a4 k
 unfold laws_toCrew.f
 repeat' first
   | (with_reducible exact laws_toMem.mono _ _)
   | (with_reducible exact laws_toThreadS.mono _ _)
   | (with_reducible exact LeO.refl _)
   | (with_reducible exact LeO.none _)
   | (with_reducible refine LeO.ite ?_ ?_)
   | (with_reducible refine LeO.bind ?_ (fun _ => ?_))
   | exact laws_toMem.mono _ _
   | exact laws_toThreadS.mono _ _
   | exact LeO.none _
   | refine LeO.ite ?_ ?_
   | refine LeO.bind ?_ (fun _ => ?_)
set_option maxHeartbeats 8000000 in
set_option maxRecDepth 100000 in
theorem laws_toCrew.calls (k : Nat) (iA : Int) (bA : Int) (GA : Option Addr) (IA : Nat) (nA : List Int) (JA : Option Addr) (KA : Nat) (lA : List (S50)) (uA : Int) (r1 : Int) (r2 : Int) (r3 : List Int) (r4 : List (S55)) (r5 : Int) (w : World) (iC : Kd.C (Kd.int .i64) w GA nA.length nA) (jC : nA.length ≤ IA) (kC : Kd.C k50 w JA lA.length lA) (lC : lA.length ≤ KA) (h : laws_toCrew.f k iA bA nA lA uA = some (r1, r2, r3, r4, r5)) :
  Calls Try.prog 22 #[.agg #[.int .i64 iA, .int .i64 bA, .slice GA nA.length IA, .slice JA lA.length KA, .int .i64 uA]] w fun e w' => ∃ v2_ v3_ : Value, e = .returned (.agg #[.int .i64 r1, .int .i64 r2, v2_, v3_, .int .i64 r5]) ∧ Kd.R (Kd.int .i64) 3 w' w.heap.size (fun _ => True) v2_ r3 ∧ Kd.S k55 55 w' w.heap.size (fun k_ => some k_ ≠ (v2_ : Value).ownBlock) v3_ r4 ∧ Below w.heap.size w w' := by
 have hu40 := Try.underlying40
 have hu29 := Try.underlying29
 have hu38 := Try.underlying38
 have hu26 := Try.underlying26
 have AD := Aside0.mk iC
 have BD := Aside0.mk jC
 clear iC jC
 have CD := Aside0.mk kC
 have DD := Aside0.mk lC
 clear kC lC
 have HB := Aside0.mk (Below.refl w.heap.size w)
 have H : ((laws_toMem.f k nA).bind fun sB => ((laws_toThreadS.f k lA).bind fun yB => (some (iA, bA, sB, yB, uA)))) = some (r1, r2, r3, r4, r5) := h
 clear h
 replace H := Option.bind_eq_some_iff.mp H
 obtain ⟨sB, A20, H⟩ := H
 replace H : ((laws_toThreadS.f k lA).bind fun yB => (some (iA, bA, sB, yB, uA))) = some (r1, r2, r3, r4, r5) := H
 have A2 := Aside0.mk A20
 clear A20
 replace H := Option.bind_eq_some_iff.mp H
 obtain ⟨yB, A30, H⟩ := H
 replace H : (some (iA, bA, sB, yB, uA)) = some (r1, r2, r3, r4, r5) := H
 have A3 := Aside0.mk A30
 clear A30
 simp only [Option.some.injEq, Prod.mk.injEq] at H
 obtain ⟨rfl, rfl, rfl, rfl, rfl⟩ := H
 go_enter Try.func22, Try.ntmps22
 go_wp2_with (first | ((with_reducible refine gate_dst (N := 1) rfl ?_); refine box_event ?hg (N := 1) ?hd (cs := #[.int .i64 iA, .int .i64 bA, .slice GA nA.length IA, .slice JA lA.length KA, .int .i64 uA]) (t := 40) ?hr ?_; (case hd => rfl); (case hg => rfl); (case hr => first | (go_simp; done) | (go_simp; rfl)); intro qA hg w4 hbox hb; have gA := Aside0.mk (below_step q8_0 hb); have hA := Aside0.mk (hbox); have yA := Aside0.mk ((q8_15 : w.heap.size ≤ qA)); have CA := Aside0.mk ((q8_15 : w.heap.size ≤ qA)); clear HB; have HB := gA; have cA := hA; have VI := yA; have oD := CA; clear gA hA yA CA; clear hb hbox hg) | ((with_reducible refine gate_dst (N := 2) rfl ?_); refine box_event ?hg (N := 2) ?hd (cs := #[.int .i64 0, .int .i64 0, .slice none 0 0, .slice none 0 0, .int .i64 0]) (t := 29) ?hr ?_; (case hd => rfl); (case hg => rfl); (case hr => first | (go_simp; done) | (go_simp; rfl)); intro xA hg w5 hbox hb; have gA := Aside0.mk (blk_below (g := qA) (o := .cells #[.int .i64 iA, .int .i64 bA, .slice GA nA.length IA, .slice JA lA.length KA, .int .i64 uA] 40 (0, 0)) q8_12 hb); have hA := Aside0.mk (below_step q8_26 hb); have yA := Aside0.mk (hbox); have CA := Aside0.mk ((by rw [hg]; exact (below_size q8_26) : w.heap.size ≤ xA)); have UA := Aside0.mk ((by rw [hg]; exact (below_size q8_26) : w.heap.size ≤ xA)); have eB := Aside0.mk ((by rw [hg]; exact Nat.ne_of_lt (blk_lt (g := qA) (o := .cells #[.int .i64 iA, .int .i64 bA, .slice GA nA.length IA, .slice JA lA.length KA, .int .i64 uA] 40 (0, 0)) q8_12) : qA ≠ xA)); have qB := Aside0.mk ((by rw [hg]; exact Nat.ne_of_gt (blk_lt (g := qA) (o := .cells #[.int .i64 iA, .int .i64 bA, .slice GA nA.length IA, .slice JA lA.length KA, .int .i64 uA] 40 (0, 0)) q8_12) : xA ≠ qA)); clear cA; clear HB; have cA := gA; have HB := hA; have FA := yA; have WI := CA; have GE := UA; have iD := eB; have jD := qB; clear gA hA yA CA UA eB qB; clear hb hbox hg) | ((with_reducible refine gate_dst (N := 3) rfl ?_); refine box_event ?hg (N := 3) ?hd (cs := #[.int .i64 0, .int .i64 0, .slice none 0 0, .slice none 0 0, .int .i64 0]) (t := 29) ?hr ?_; (case hd => rfl); (case hg => rfl); (case hr => first | (go_simp; done) | (go_simp; rfl)); intro tA hg w6 hbox hb; have gA := Aside0.mk (blk_below (g := qA) (o := .cells #[.int .i64 iA, .int .i64 bA, .slice GA nA.length IA, .slice JA lA.length KA, .int .i64 uA] 40 (0, 0)) q8_12 hb); have hA := Aside0.mk (blk_below (g := xA) (o := .cells #[.int .i64 0, .int .i64 0, .slice none 0 0, .slice none 0 0, .int .i64 0] 29 (0, 0)) q8_33 hb); have yA := Aside0.mk (below_step q8_20 hb); have CA := Aside0.mk (hbox); have UA := Aside0.mk ((by rw [hg]; exact (below_size q8_20) : w.heap.size ≤ tA)); have eB := Aside0.mk ((by rw [hg]; exact (below_size q8_20) : w.heap.size ≤ tA)); have qB := Aside0.mk ((by rw [hg]; exact Nat.ne_of_lt (blk_lt (g := qA) (o := .cells #[.int .i64 iA, .int .i64 bA, .slice GA nA.length IA, .slice JA lA.length KA, .int .i64 uA] 40 (0, 0)) q8_12) : qA ≠ tA)); have fC := Aside0.mk ((by rw [hg]; exact Nat.ne_of_gt (blk_lt (g := qA) (o := .cells #[.int .i64 iA, .int .i64 bA, .slice GA nA.length IA, .slice JA lA.length KA, .int .i64 uA] 40 (0, 0)) q8_12) : tA ≠ qA)); have vD := Aside0.mk ((by rw [hg]; exact Nat.ne_of_lt (blk_lt (g := xA) (o := .cells #[.int .i64 0, .int .i64 0, .slice none 0 0, .slice none 0 0, .int .i64 0] 29 (0, 0)) q8_33) : xA ≠ tA)); have wD := Aside0.mk ((by rw [hg]; exact Nat.ne_of_gt (blk_lt (g := xA) (o := .cells #[.int .i64 0, .int .i64 0, .slice none 0 0, .slice none 0 0, .int .i64 0] 29 (0, 0)) q8_33) : tA ≠ xA)); clear cA; clear FA; clear HB; have cA := gA; have FA := hA; have HB := yA; have eA := CA; have XI := UA; have HF := eB; have mB := qB; have kD := fC; have XA := vD; have lD := wD; clear gA hA yA CA UA eB qB fC vD wD; clear hb hbox hg; have qI := iD.out; have rI := jD.out; have LF := mB.out; have MF := kD.out; have PE : w6.cell? ⟨qA, 0, none⟩ = some (.int .i64 iA) := (blk_cell cA.out 0).trans rfl; have QE : w6.cell? ⟨qA, 1, none⟩ = some (.int .i64 bA) := (blk_cell cA.out 1).trans rfl; have RE : w6.cell? ⟨qA, 2, none⟩ = some (.slice GA nA.length IA) := (blk_cell cA.out 2).trans rfl; have SE : w6.cell? ⟨qA, 3, none⟩ = some (.slice JA lA.length KA) := (blk_cell cA.out 3).trans rfl; have TE : w6.cell? ⟨qA, 4, none⟩ = some (.int .i64 uA) := (blk_cell cA.out 4).trans rfl; have UE := blk_frozen cA.out 0; have VE := blk_frozen cA.out 1; have WE := blk_frozen cA.out 2; have XE := blk_frozen cA.out 3; have YE := blk_frozen cA.out 4; have YI := lD.out; have ZI := XA.out; have CG : w6.cell? ⟨tA, 0, none⟩ = some (.int .i64 0) := (blk_cell eA.out 0).trans rfl; have DG : w6.cell? ⟨tA, 1, none⟩ = some (.int .i64 0) := (blk_cell eA.out 1).trans rfl; have EG : w6.cell? ⟨tA, 2, none⟩ = some (.slice none 0 0) := (blk_cell eA.out 2).trans rfl; have FG : w6.cell? ⟨tA, 3, none⟩ = some (.slice none 0 0) := (blk_cell eA.out 3).trans rfl; have GG : w6.cell? ⟨tA, 4, none⟩ = some (.int .i64 0) := (blk_cell eA.out 4).trans rfl; have HG := blk_frozen eA.out 0; have IG := blk_frozen eA.out 1; have JG := blk_frozen eA.out 2; have KG := blk_frozen eA.out 3; have LG := blk_frozen eA.out 4) | ((with_reducible refine gate_callee (f := 62) rfl ?_); refine goesL_ (some 12) rfl rfl Try.func62 (by kernel_rfl) rfl #[.agg #[.slice GA nA.length IA]] rfl q8_5 ?_; (with_reducible refine (laws_toMem.calls k _ _ nA sB _ ?side1 ?side2 A2.out).mono ?_); (case side1 => exact Kd.C_below AD.out q8_6); (case side2 => exact BD.out); rintro e HD ⟨vJ, rfl, ho0, hb⟩; refine ⟨_, rfl, ?_⟩; have gA := Aside0.mk (Kd.R_lower ho0 (below_size q8_6)); have hA := Aside0.mk (blk_below (g := qA) (o := .cells #[.int .i64 iA, .int .i64 bA, .slice GA nA.length IA, .slice JA lA.length KA, .int .i64 uA] 40 (0, 0)) (by (with_reducible repeat (first | refine blk_drewN ?_ _ | refine blk_drew ?_ | refine blk_alloc ?_ _)); refine blk_far ?_ mB.out _; (with_reducible repeat (first | refine blk_drewN ?_ _ | refine blk_drew ?_ | refine blk_alloc ?_ _)); refine blk_far ?_ mB.out _; (with_reducible repeat (first | refine blk_drewN ?_ _ | refine blk_drew ?_ | refine blk_alloc ?_ _)); exact cA.out) hb); have yA := Aside0.mk (blk_below (g := xA) (o := .cells #[.int .i64 0, .int .i64 0, .slice none 0 0, .slice none 0 0, .int .i64 0] 29 (0, 0)) (by (with_reducible repeat (first | refine blk_drewN ?_ _ | refine blk_drew ?_ | refine blk_alloc ?_ _)); refine blk_far ?_ XA.out _; (with_reducible repeat (first | refine blk_drewN ?_ _ | refine blk_drew ?_ | refine blk_alloc ?_ _)); refine blk_far ?_ XA.out _; (with_reducible repeat (first | refine blk_drewN ?_ _ | refine blk_drew ?_ | refine blk_alloc ?_ _)); exact FA.out) hb); have CA := Aside0.mk (blk_below (g := tA) (o := .cells #[.int .i64 iA, .int .i64 bA, .slice none 0 0, .slice none 0 0, .int .i64 0] 29 (0, 0)) (by (with_reducible repeat (first | refine blk_drewN ?_ _ | refine blk_drew ?_ | refine blk_alloc ?_ _)); refine blk_put (cs := #[.int .i64 iA, .int .i64 0, .slice none 0 0, .slice none 0 0, .int .i64 0]) ?_ 1 _ rfl; (with_reducible repeat (first | refine blk_drewN ?_ _ | refine blk_drew ?_ | refine blk_alloc ?_ _)); refine blk_put (cs := #[.int .i64 0, .int .i64 0, .slice none 0 0, .slice none 0 0, .int .i64 0]) ?_ 0 _ rfl; (with_reducible repeat (first | refine blk_drewN ?_ _ | refine blk_drew ?_ | refine blk_alloc ?_ _)); exact eA.out) hb); have UA := Aside0.mk (below_step q8_6 hb); clear cA; clear FA; clear eA; clear HB; have cC := gA; have cA := hA; have FA := yA; have eA := CA; have HB := UA; clear gA hA yA CA UA; (try clear hb); (try clear hb2); (try clear hk); (try clear hi); (try clear ho0); obtain ⟨dC, eC, uI⟩ := Kd.R_slice cC.out; subst uI; have SD : HD.cell? ⟨tA, 0, none⟩ = some (.int .i64 iA) := (blk_cell eA.out 0).trans rfl; have TD : HD.cell? ⟨tA, 1, none⟩ = some (.int .i64 bA) := (blk_cell eA.out 1).trans rfl; have UD : HD.cell? ⟨tA, 2, none⟩ = some (.slice none 0 0) := (blk_cell eA.out 2).trans rfl; have VD : HD.cell? ⟨tA, 3, none⟩ = some (.slice none 0 0) := (blk_cell eA.out 3).trans rfl; have MG : HD.cell? ⟨tA, 4, none⟩ = some (.int .i64 0) := (blk_cell eA.out 4).trans rfl; have WD := blk_frozen eA.out 0; have XD := blk_frozen eA.out 1; have YD := blk_frozen eA.out 2; have ZD := blk_frozen eA.out 3; have NG := blk_frozen eA.out 4; have TB : HD.cell? ⟨qA, 0, none⟩ = some (.int .i64 iA) := (blk_cell cA.out 0).trans rfl; have aE : HD.cell? ⟨qA, 1, none⟩ = some (.int .i64 bA) := (blk_cell cA.out 1).trans rfl; have bE : HD.cell? ⟨qA, 2, none⟩ = some (.slice GA nA.length IA) := (blk_cell cA.out 2).trans rfl; have cE : HD.cell? ⟨qA, 3, none⟩ = some (.slice JA lA.length KA) := (blk_cell cA.out 3).trans rfl; have OG : HD.cell? ⟨qA, 4, none⟩ = some (.int .i64 uA) := (blk_cell cA.out 4).trans rfl; have UB := blk_frozen cA.out 0; have dE := blk_frozen cA.out 1; have eE := blk_frozen cA.out 2; have fE := blk_frozen cA.out 3; have PG := blk_frozen cA.out 4) | ((with_reducible refine gate_callee (f := 13) rfl ?_); refine goesL_ (some 16) rfl rfl Try.func13 (by kernel_rfl) rfl #[.slice JA lA.length KA] rfl q8_5 ?_; (with_reducible refine (laws_toThreadS.calls k _ _ lA yB _ ?side1 ?side2 A3.out).mono ?_); (case side1 => exact Kd.C_below CD.out q8_6); (case side2 => exact DD.out); rintro e DB ⟨wJ, rfl, ho0, hb⟩; refine ⟨_, rfl, ?_⟩; have gA := Aside0.mk (Kd.R_below q8_29 hb); have hA := Aside0.mk (Kd.S_lower (Kd.S_new' ho0 (Kd.R_lt q8_29)) (below_size q8_6)); have yA := Aside0.mk (blk_below (g := qA) (o := .cells #[.int .i64 iA, .int .i64 bA, .slice GA nA.length IA, .slice JA lA.length KA, .int .i64 uA] 40 (0, 0)) (by (with_reducible repeat (first | refine blk_drewN ?_ _ | refine blk_drew ?_ | refine blk_alloc ?_ _)); refine blk_far ?_ mB.out _; (with_reducible repeat (first | refine blk_drewN ?_ _ | refine blk_drew ?_ | refine blk_alloc ?_ _)); exact cA.out) hb); have CA := Aside0.mk (blk_below (g := xA) (o := .cells #[.int .i64 0, .int .i64 0, .slice none 0 0, .slice none 0 0, .int .i64 0] 29 (0, 0)) (by (with_reducible repeat (first | refine blk_drewN ?_ _ | refine blk_drew ?_ | refine blk_alloc ?_ _)); refine blk_far ?_ XA.out _; (with_reducible repeat (first | refine blk_drewN ?_ _ | refine blk_drew ?_ | refine blk_alloc ?_ _)); exact FA.out) hb); have UA := Aside0.mk (blk_below (g := tA) (o := .cells #[.int .i64 iA, .int .i64 bA, .slice dC sB.length eC, .slice none 0 0, .int .i64 0] 29 (0, 0)) (by (with_reducible repeat (first | refine blk_drewN ?_ _ | refine blk_drew ?_ | refine blk_alloc ?_ _)); refine blk_put (cs := #[.int .i64 iA, .int .i64 bA, .slice none 0 0, .slice none 0 0, .int .i64 0]) ?_ 2 _ rfl; (with_reducible repeat (first | refine blk_drewN ?_ _ | refine blk_drew ?_ | refine blk_alloc ?_ _)); exact eA.out) hb); have eB := Aside0.mk (below_step q8_6 hb); clear cC; clear cA; clear FA; clear eA; clear HB; have cC := gA; have NE := hA; have cA := yA; have FA := CA; have eA := UA; have HB := eB; clear gA hA yA CA UA eB; (try clear hb); (try clear hb2); (try clear hk); (try clear hi); (try clear ho0); obtain ⟨nB, oB, uF⟩ := Kd.S_slice NE.out; subst uF; have gE : DB.cell? ⟨tA, 0, none⟩ = some (.int .i64 iA) := (blk_cell eA.out 0).trans rfl; have hE : DB.cell? ⟨tA, 1, none⟩ = some (.int .i64 bA) := (blk_cell eA.out 1).trans rfl; have iE : DB.cell? ⟨tA, 2, none⟩ = some (.slice dC sB.length eC) := (blk_cell eA.out 2).trans rfl; have jE : DB.cell? ⟨tA, 3, none⟩ = some (.slice none 0 0) := (blk_cell eA.out 3).trans rfl; have QG : DB.cell? ⟨tA, 4, none⟩ = some (.int .i64 0) := (blk_cell eA.out 4).trans rfl; have kE := blk_frozen eA.out 0; have lE := blk_frozen eA.out 1; have mE := blk_frozen eA.out 2; have nE := blk_frozen eA.out 3; have RG := blk_frozen eA.out 4; have oE : DB.cell? ⟨qA, 0, none⟩ = some (.int .i64 iA) := (blk_cell cA.out 0).trans rfl; have pE : DB.cell? ⟨qA, 1, none⟩ = some (.int .i64 bA) := (blk_cell cA.out 1).trans rfl; have qE : DB.cell? ⟨qA, 2, none⟩ = some (.slice GA nA.length IA) := (blk_cell cA.out 2).trans rfl; have rE : DB.cell? ⟨qA, 3, none⟩ = some (.slice JA lA.length KA) := (blk_cell cA.out 3).trans rfl; have SG : DB.cell? ⟨qA, 4, none⟩ = some (.int .i64 uA) := (blk_cell cA.out 4).trans rfl; have sE := blk_frozen cA.out 0; have tE := blk_frozen cA.out 1; have uE := blk_frozen cA.out 2; have vE := blk_frozen cA.out 3; have TG := blk_frozen cA.out 4; have UG : DB.cell? ⟨xA, 0, none⟩ = some (.int .i64 0) := (blk_cell FA.out 0).trans rfl; have VG : DB.cell? ⟨xA, 1, none⟩ = some (.int .i64 0) := (blk_cell FA.out 1).trans rfl; have WG : DB.cell? ⟨xA, 2, none⟩ = some (.slice none 0 0) := (blk_cell FA.out 2).trans rfl; have XG : DB.cell? ⟨xA, 3, none⟩ = some (.slice none 0 0) := (blk_cell FA.out 3).trans rfl; have YG : DB.cell? ⟨xA, 4, none⟩ = some (.int .i64 0) := (blk_cell FA.out 4).trans rfl; have ZG := blk_frozen FA.out 0; have aH := blk_frozen FA.out 1; have bH := blk_frozen FA.out 2; have cH := blk_frozen FA.out 3; have dH := blk_frozen FA.out 4))
 refine bodyPost_ret (results_cell_row rfl _ _ xA 29 #[.int .i64 iA, .int .i64 bA, .slice dC sB.length eC, .slice nB yB.length oB, .int .i64 uA] (0, 0) _ rfl (by (with_reducible repeat (first | refine blk_drewN ?_ _ | refine blk_drew ?_ | refine blk_alloc ?_ _)); refine blk_put (cs := #[.int .i64 iA, .int .i64 bA, .slice dC sB.length eC, .slice nB yB.length oB, .int .i64 0]) ?_ 4 _ rfl; (with_reducible repeat (first | refine blk_drewN ?_ _ | refine blk_drew ?_ | refine blk_alloc ?_ _)); refine blk_put (cs := #[.int .i64 iA, .int .i64 bA, .slice dC sB.length eC, .slice none 0 0, .int .i64 0]) ?_ 3 _ rfl; (with_reducible repeat (first | refine blk_drewN ?_ _ | refine blk_drew ?_ | refine blk_alloc ?_ _)); refine blk_put (cs := #[.int .i64 iA, .int .i64 bA, .slice none 0 0, .slice none 0 0, .int .i64 0]) ?_ 2 _ rfl; (with_reducible repeat (first | refine blk_drewN ?_ _ | refine blk_drew ?_ | refine blk_alloc ?_ _)); refine blk_put (cs := #[.int .i64 iA, .int .i64 0, .slice none 0 0, .slice none 0 0, .int .i64 0]) ?_ 1 _ rfl; (with_reducible repeat (first | refine blk_drewN ?_ _ | refine blk_drew ?_ | refine blk_alloc ?_ _)); refine blk_put (cs := #[.int .i64 0, .int .i64 0, .slice none 0 0, .slice none 0 0, .int .i64 0]) ?_ 0 _ rfl; (with_reducible repeat (first | refine blk_drewN ?_ _ | refine blk_drew ?_ | refine blk_alloc ?_ _)); refine blk_far ?_ XA.out _; (with_reducible repeat (first | refine blk_drewN ?_ _ | refine blk_drew ?_ | refine blk_alloc ?_ _)); refine blk_far ?_ XA.out _; (with_reducible repeat (first | refine blk_drewN ?_ _ | refine blk_drew ?_ | refine blk_alloc ?_ _)); exact FA.out) Try.underlying29 rfl (by kernel_rfl)) rfl ?_
 exact ⟨_, _, q8_9, by (with_reducible repeat (first | apply Kd.R_alloc | apply Kd.R_drewN | apply Kd.R_drew)); exact Kd.R_mono (Kd.R_far (p := ⟨xA, 4, none⟩) (Kd.R_far (p := ⟨xA, 3, none⟩) (Kd.R_far (p := ⟨xA, 2, none⟩) (Kd.R_far (p := ⟨xA, 1, none⟩) (Kd.R_far (p := ⟨xA, 0, none⟩) (Kd.R_far (p := ⟨tA, 4, none⟩) (Kd.R_far (p := ⟨tA, 3, none⟩) (Kd.R_types (Kd.R_types cC.out eA.out (by decide)) FA.out (by decide)) (fun _ hk => hk.1.2) (.slice nB yB.length oB)) (fun _ hk => hk.1.2) (.int .i64 uA)) (fun _ hk => hk.2) (.int .i64 iA)) (fun _ hk => hk.2) (.int .i64 bA)) (fun _ hk => hk.2) (.slice dC sB.length eC)) (fun _ hk => hk.2) (.slice nB yB.length oB)) (fun _ hk => hk.2) (.int .i64 uA)) (fun _ hk => trivial), by (with_reducible repeat (first | apply Kd.S_alloc | apply Kd.S_drewN | apply Kd.S_drew)); exact Kd.S_mono (Kd.S_far (p := ⟨xA, 4, none⟩) (Kd.S_far (p := ⟨xA, 3, none⟩) (Kd.S_far (p := ⟨xA, 2, none⟩) (Kd.S_far (p := ⟨xA, 1, none⟩) (Kd.S_far (p := ⟨xA, 0, none⟩) (Kd.S_far (p := ⟨tA, 4, none⟩) (Kd.S_far (p := ⟨tA, 3, none⟩) (Kd.S_types (Kd.S_types NE.out eA.out (by decide)) FA.out (by decide)) (fun _ hk => hk.1.2) (.slice nB yB.length oB)) (fun _ hk => hk.1.2) (.int .i64 uA)) (fun _ hk => hk.2) (.int .i64 iA)) (fun _ hk => hk.2) (.int .i64 bA)) (fun _ hk => hk.2) (.slice dC sB.length eC)) (fun _ hk => hk.2) (.slice nB yB.length oB)) (fun _ hk => hk.2) (.int .i64 uA)) (fun _ hk => hk.1.1.2), q8_6⟩

/-! ### impl_within: function 90 -/
def impl_within.f (a0 : Int) (a1 : Int) (a2 : Int) : Option (Bool) := if a0 ≥ a1 then (some (decide (a0 ≤ a2))) else (some false)
set_option maxHeartbeats 8000000 in
set_option maxRecDepth 100000 in
theorem impl_within.calls (a0 : Int) (a1 : Int) (a2 : Int) (r : Bool) (w : World) (h : impl_within.f a0 a1 a2 = some r) :
  Calls Try.prog 90 #[.int .i64 a0, .int .i64 a1, .int .i64 a2] w fun e w' => e = .returned (.bool r) ∧ Drawn0 w w' := by
 have H : (if a0 ≥ a1 then (some (decide (a0 ≤ a2))) else (some false)) = some r := h
 clear h
 by_cases c4 : a0 ≥ a1
 ·rw [if_pos c4] at H
  have vI : decide (a1 ≤ a0) = true := decide_eq_true c4
  clear c4
  obtain rfl := Option.some.inj H
  go_enter Try.func90, Try.ntmps90
  go_wp2
  go_ret
  exact ⟨q8_16, by repeat (first | exact Drawn0.refl _ | apply Drawn0.step)⟩
 ·rw [if_neg c4] at H
  have vI : decide (a1 ≤ a0) = false := decide_eq_false c4
  clear c4
  obtain rfl := Option.some.inj H
  go_enter Try.func90, Try.ntmps90
  go_wp2
  go_ret
  exact ⟨q8_16, by repeat (first | exact Drawn0.refl _ | apply Drawn0.step)⟩

/-! ### impl_StNew: function 82 -/
def impl_StNew.l0 : Nat → Int → Int → List Int → Option (List Int × Bool)
 | 0, _, _, _ => none
 | k + 1, x17, x18, aC => if x18 < x17 then (if 0 ≤ x18 then (if x18 < (aC.length : Int) then (impl_StNew.l0 k x17 (wrap64 (x18 + 1)) (aC.set (x18 : Int).toNat (wrap64 (x18 + 1)))) else (none)) else (none)) else (some (aC, true))
def impl_StNew.f (k : Nat) (a0 : Int) (a1 : Bool) : Option (List Int × Bool) := (impl_within.f a0 1 16).bind fun mD => (if mD = true then (if 0 ≤ (wrap64 (1 + a0)) then (if (wrap64 (1 + a0) : Int).toNat ≤ 35184372088832 then ((some (List.replicate (wrap64 (1 + a0) : Int).toNat 0 : List Int)).bind fun y270 => (if a1 = true then (impl_StNew.l0 k a0 0 y270) else (some (y270, true)))) else (none)) else (none)) else (some (([] : List Int), false)))
theorem impl_StNew.mono_l : ∀ k, (∀ y0 y1 y2, LeO (impl_StNew.l0 k y0 y1 y2) (impl_StNew.l0 (k + 1) y0 y1 y2))
 | 0 => fun _ _ _ r h => by simp [impl_StNew.l0] at h
 | k + 1 => by
  have ih0 := impl_StNew.mono_l k
  ·intro y0 y1 y2
   unfold impl_StNew.l0
   repeat' first
   | (with_reducible exact ih0 _ _ _)
   | (with_reducible exact LeO.refl _)
   | (with_reducible exact LeO.none _)
   | (with_reducible refine LeO.ite ?_ ?_)
   | (with_reducible refine LeO.bind ?_ (fun _ => ?_))
   | exact ih0 _ _ _
   | exact LeO.none _
   | refine LeO.ite ?_ ?_
   | refine LeO.bind ?_ (fun _ => ?_)
theorem impl_StNew.mono : ∀ a0 a1 k, LeO (impl_StNew.f k a0 a1) (impl_StNew.f (k + 1) a0 a1) := by
 intro a0 a1 k
 have ih0 := impl_StNew.mono_l k
 unfold impl_StNew.f
 repeat' first
   | (with_reducible exact ih0 _ _ _)
   | (with_reducible exact LeO.refl _)
   | (with_reducible exact LeO.none _)
   | (with_reducible refine LeO.ite ?_ ?_)
   | (with_reducible refine LeO.bind ?_ (fun _ => ?_))
   | exact ih0 _ _ _
   | exact LeO.none _
   | refine LeO.ite ?_ ?_
   | refine LeO.bind ?_ (fun _ => ?_)
set_option maxHeartbeats 8000000 in
set_option maxRecDepth 100000 in
theorem impl_StNew.calls (k : Nat) (a0 : Int) (a1 : Bool) (r1 : List Int) (r2 : Bool) (w : World) (h : impl_StNew.f k a0 a1 = some (r1, r2)) :
  Calls Try.prog 82 #[.int .i64 a0, .bool a1] w fun e w' => ∃ v0_ : Value, e = .returned (.tuple #[.agg #[v0_], .bool r2]) ∧ Kd.R (Kd.int .i64) 3 w' w.heap.size (fun _ => True) v0_ r1 ∧ Below w.heap.size w w' := by
 have hu26 := Try.underlying26
 have HB := Aside0.mk (Below.refl w.heap.size w)
 have H : ((impl_within.f a0 1 16).bind fun mD => (if mD = true then (if 0 ≤ (wrap64 (1 + a0)) then (if (wrap64 (1 + a0) : Int).toNat ≤ 35184372088832 then ((some (List.replicate (wrap64 (1 + a0) : Int).toNat 0 : List Int)).bind fun y270 => (if a1 = true then (impl_StNew.l0 k a0 0 y270) else (some (y270, true)))) else (none)) else (none)) else (some (([] : List Int), false)))) = some (r1, r2) := h
 clear h
 replace H := Option.bind_eq_some_iff.mp H
 obtain ⟨mD, A30, H⟩ := H
 replace H : (if mD = true then (if 0 ≤ (wrap64 (1 + a0)) then (if (wrap64 (1 + a0) : Int).toNat ≤ 35184372088832 then ((some (List.replicate (wrap64 (1 + a0) : Int).toNat 0 : List Int)).bind fun y270 => (if a1 = true then (impl_StNew.l0 k a0 0 y270) else (some (y270, true)))) else (none)) else (none)) else (some (([] : List Int), false))) = some (r1, r2) := H
 have A3 := Aside0.mk A30
 clear A30
 by_cases c4 : mD = true
 ·subst c4
  have H1 : (if 0 ≤ (wrap64 (1 + a0)) then (if (wrap64 (1 + a0) : Int).toNat ≤ 35184372088832 then ((some (List.replicate (wrap64 (1 + a0) : Int).toNat 0 : List Int)).bind fun y270 => (if a1 = true then (impl_StNew.l0 k a0 0 y270) else (some (y270, true)))) else (none)) else (none)) = some (r1, r2) := by rw [if_pos rfl] at H; exact H
  clear H
  have H := H1
  clear H1
  obtain ⟨ji5, hji5⟩ : ∃ j_ : Int, (wrap64 (1 + a0)) = j_ := ⟨_, rfl⟩
  replace H : (if 0 ≤ (ji5) then (if (ji5 : Int).toNat ≤ 35184372088832 then ((some (List.replicate (ji5 : Int).toNat 0 : List Int)).bind fun y270 => (if a1 = true then (impl_StNew.l0 k a0 0 y270) else (some (y270, true)))) else (none)) else (none)) = some (r1, r2) := by first | (rw [hji5] at H; exact H) | (simp only [hji5] at H ⊢; exact H)
  (try rw [hji5] at A3)
  have hji5w : (IntKind.i64.wrap (1 + a0)) = ji5 := (i64_w _).trans hji5
  by_cases c6 : 0 ≤ (ji5)
  ·rw [if_pos c6] at H
   have mC := eq_true c6
   have wI : decide (0 ≤ (ji5)) = true := decide_eq_true c6
   clear c6
   by_cases c7 : (ji5 : Int).toNat ≤ 35184372088832
   ·rw [if_pos c7] at H
    have ID := eq_true c7
    have xI : decide ((ji5 : Int).toNat ≤ 35184372088832) = true := decide_eq_true c7
    clear c7
    obtain ⟨y270, hy270⟩ : ∃ y_ : List Int, y_ = (List.replicate (ji5 : Int).toNat 0) := ⟨_, rfl⟩
    replace H : (if a1 = true then (impl_StNew.l0 k a0 0 y270) else (some (y270, true))) = some (r1, r2) := by first | (rw [hy270]; with_reducible exact H) | (have H2_ := (Option.bind_some _ _).symm.trans H; rw [hy270]; with_reducible exact H2_) | (have H2_ := (Option.bind_some _ _).symm.trans H; with_reducible exact H2_) | with_reducible exact H | (rw [hy270]; exact H) | exact H
    have Ny270 := Aside0.mk hy270
    clear hy270
    by_cases c8 : a1 = true
    ·subst c8
     have H1 : (impl_StNew.l0 k a0 0 y270) = some (r1, r2) := by rw [if_pos rfl] at H; exact H
     clear H
     have H := H1
     clear H1
     have H' := Aside0.mk H
     clear H
     go_enter Try.func82, Try.ntmps82
     go_wp2_with (first | ((with_reducible refine gate_dst (N := 4) rfl ?_); refine box_event ?hg (N := 4) ?hd (cs := #[.slice none 0 0]) (t := 26) ?hr ?_; (case hd => rfl); (case hg => rfl); (case hr => first | (go_simp; done) | (go_simp; rfl)); intro jA hg w9 hbox hb; have gA := Aside0.mk (below_step q8_0 hb); have hA := Aside0.mk (hbox); have yA := Aside0.mk ((q8_15 : w.heap.size ≤ jA)); have CA := Aside0.mk ((q8_15 : w.heap.size ≤ jA)); clear HB; have HB := gA; have mA := hA; have OE := yA; have JC := CA; clear gA hA yA CA; clear hb hbox hg) | ((with_reducible refine gate_callee (f := 90) rfl ?_); refine goesL_ (some 9) rfl rfl Try.func90 (by kernel_rfl) rfl #[.int .i64 a0, .int .i64 1, .int .i64 16] rfl q8_5 ?_; (with_reducible refine (impl_within.calls a0 1 16 true _ A3.out).mono ?_); rintro e w' ⟨rfl, ⟨nd, rfl⟩⟩; refine ⟨_, rfl, ?_⟩; (try (rw [drewN_self w9]; generalize hq_ : World.drewN w9 _ = w9; have gA : Aside0 (w9.heap[jA]? = some (.cells #[.slice none 0 0] 26 (0, 0))) := ⟨by rw [← hq_]; exact q8_4⟩; have hA : Aside0 (Below w.heap.size w w9) := ⟨by rw [← hq_]; exact q8_1⟩; clear mA HB hq_; have mA := gA; have HB := hA; clear gA hA))) | ((with_reducible refine gate_dst (N := 14) rfl ?_); refine Kd.R_make (Kd.int .i64) _ 3 rfl (N := 14) rfl 24 _ _ rfl ji5 rfl rfl Try.underlying24 (.int .i64 0) 8 info3 rfl (by decide) (by omega) 0 (ok := fun _ => True) (okp := fun _ => True) rfl (fun _ hk => hk) trivial (of_decide_eq_true q8_3) (Nat.le_trans (Nat.mul_le_mul_right _ (of_decide_eq_true q8_3 : ji5.toNat ≤ 35184372088832)) (by omega)) (Below.refl _ _) (Nat.le_refl _) ?_; intro yI xJ ho11 hb hg_ hnew_; clear hg_ hnew_; (first | rw [← Ny270.out] at ho11 | (simp only [Int.reduceToNat] at ho11; rw [← Ny270.out] at ho11)); have gA := Aside0.mk (Kd.R_lower ho11 (below_size q8_1)); have hA := Aside0.mk (blk_below (g := jA) (o := .cells #[.slice none 0 0] 26 (0, 0)) q8_4 hb); have yA := Aside0.mk (below_step q8_1 hb); clear mA; clear HB; have kB := gA; have mA := hA; have HB := yA; clear gA hA yA; clear hb ho11; obtain ⟨iB, jB, tF⟩ := Kd.R_slice kB.out; subst tF) | ((with_reducible refine gate_dst (N := 6) rfl ?_); refine box_event ?hg (N := 6) ?hd (cs := #[.slice none 0 0]) (t := 26) ?hr ?_; (case hd => rfl); (case hg => rfl); (case hr => first | (go_simp; done) | (go_simp; rfl)); intro TA hg RD hbox hb; have gA := Aside0.mk (Kd.R_below (by (with_reducible repeat (first | apply Kd.R_alloc | apply Kd.R_drewN | apply Kd.R_drew)); exact kB.out) hb); have hA := Aside0.mk (blk_below (g := jA) (o := .cells #[.slice none 0 0] 26 (0, 0)) q8_4 hb); have yA := Aside0.mk (below_step q8_1 hb); have CA := Aside0.mk (hbox); have UA := Aside0.mk ((by rw [hg]; exact (below_size q8_1) : w.heap.size ≤ TA)); have eB := Aside0.mk ((by rw [hg]; exact (below_size q8_1) : w.heap.size ≤ TA)); have qB := Aside0.mk ((by rw [hg]; exact Nat.ne_of_lt (blk_lt (g := jA) (o := .cells #[.slice none 0 0] 26 (0, 0)) q8_4) : jA ≠ TA)); have fC := Aside0.mk ((by rw [hg]; exact Nat.ne_of_gt (blk_lt (g := jA) (o := .cells #[.slice none 0 0] 26 (0, 0)) q8_4) : TA ≠ jA)); clear kB; clear mA; clear HB; have kB := gA; have mA := hA; have HB := yA; have RA := CA; have PF := UA; have HE := eB; have SA := qB; have cB := fC; clear gA hA yA CA UA eB qB fC; clear hb hbox hg; have aJ := cB.out; have bJ := SA.out; have TB : RD.cell? ⟨TA, 0, none⟩ = some (.slice none 0 0) := (blk_cell RA.out 0).trans rfl; have UB := blk_frozen RA.out 0))
     go_loopg [18] k (fun kq v18 w' => ∃ (LA : Int) (oA : List Int) (zB : Value), v18 = .int .i64 LA ∧ Aside0 (impl_StNew.l0 kq a0 LA oA = some (r1, r2)) ∧ Aside0 (kq ≤ k) ∧ Aside0 (Kd.R (Kd.int .i64) 3 w' w.heap.size (fun _ => True) zB oA) ∧ Aside0 (w'.heap[jA]? = some (.cells #[(.slice none 0 0)] 26 (0, 0))) ∧ Aside0 (w'.heap[TA]? = some (.cells #[zB] 26 (0, 0))) ∧ Aside0 (Below w.heap.size w w'))
     case atStart => exact ⟨(0), (y270), (.slice iB y270.length jB), q8_16, H', ⟨Nat.le_refl _⟩, ⟨by (with_reducible repeat (first | apply Kd.R_alloc | apply Kd.R_drewN | apply Kd.R_drew)); exact Kd.R_mono (Kd.R_far (p := ⟨TA, 0, none⟩) (Kd.R_types kB.out RA.out (by decide)) (fun _ hk => hk.2) (.slice iB y270.length jB)) (fun _ hk => trivial)⟩, ⟨by (with_reducible repeat (first | refine blk_drewN ?_ _ | refine blk_drew ?_ | refine blk_alloc ?_ _)); refine blk_far ?_ SA.out _; (with_reducible repeat (first | refine blk_drewN ?_ _ | refine blk_drew ?_ | refine blk_alloc ?_ _)); exact mA.out⟩, ⟨by (with_reducible repeat (first | refine blk_drewN ?_ _ | refine blk_drew ?_ | refine blk_alloc ?_ _)); refine blk_put (cs := #[.slice none 0 0]) ?_ 0 _ rfl; (with_reducible repeat (first | refine blk_drewN ?_ _ | refine blk_drew ?_ | refine blk_alloc ?_ _)); exact RA.out⟩, ⟨q8_10⟩⟩
     case round =>
      clear H'
      (try clear c1); (try clear p2); (try clear c4); (try clear c6); (try clear mC); (try clear wI); (try clear p6); (try clear c7); (try clear ID); (try clear xI); (try clear c8); (try clear c9); (try clear c14); (try clear TB); (try clear UB)
      obtain ⟨LA, oA, zB, rfl, HA, HK1, AA, mA, RA, HB⟩ := hrel
      cases gk with
      | zero => exact absurd HA.out (by simp [impl_StNew.l0])
      | succ k1 =>
       have H := HA.out
       clear HA
       simp only [impl_StNew.l0] at H
       by_cases c16 : LA < a0
       ·rw [if_pos c16] at H
        have QF : decide (LA < a0) = true := decide_eq_true c16
        clear c16
        by_cases c17 : 0 ≤ LA
        ·rw [if_pos c17] at H
         have cJ : decide (0 ≤ LA) = true := decide_eq_true c17
         clear c17
         by_cases c18 : LA < (oA.length : Int)
         ·rw [if_pos c18] at H
          have dJ : decide (LA < (oA.length : Int)) = true := decide_eq_true c18
          clear c18
          obtain ⟨y274, hy274⟩ : ∃ y_ : List Int, y_ = (oA.set (LA : Int).toNat (wrap64 (LA + 1))) := ⟨_, rfl⟩
          replace H : (impl_StNew.l0 k1 a0 (wrap64 (LA + 1)) y274) = some (r1, r2) := by first | (rw [hy274]; with_reducible exact H) | (have H2_ := (Option.bind_some _ _).symm.trans H; rw [hy274]; with_reducible exact H2_) | (have H2_ := (Option.bind_some _ _).symm.trans H; with_reducible exact H2_) | with_reducible exact H | (rw [hy274]; exact H) | exact H
          have Ny274 := Aside0.mk hy274
          clear hy274
          have H' := Aside0.mk H
          clear H
          have eJ := cB.out
          have fJ := SA.out
          have eH : wr.cell? ⟨TA, 0, none⟩ = some (zB) := (blk_cell RA.out 0).trans rfl
          have fH := blk_frozen RA.out 0
          have p19 : 0 ≤ (LA : Int) := of_decide_eq_true q8_3
          have q19 : (LA : Int) < ((oA.length : Int) : Int) := of_decide_eq_true q8_3
          obtain ⟨go19, CF, RF, SF, gl19, cl19, HG19⟩ := Kd.R_form AA.out (by omega)
          (first | cases RF | (injection RF with ea_ en_ ec_; (first | subst ea_ | (injection ea_ with ea_; subst ea_)); subst ec_; clear en_))
          have GB19 := Aside0.mk SF
          have GG19 := Aside0.mk HG19
          clear SF gl19 HG19
          obtain ⟨zI, AI⟩ := Kd.R_celln 0 AA.out (LA : Int) p19 q19
          replace p19 := eq_true p19
          replace q19 := eq_true q19
          have HP22 := Kd.R_putg AA.out (LA : Int) (wrap64 (LA + 1))
          go_wp2_with (first | ((with_reducible refine gate_store (t := 3) (p := 26) rfl ?_); refine store_event (t := 3) (p := 26) (v := ?vo_w23) (w1 := (wr.setCell ⟨go19, (LA : Int).toNat, none⟩ (.int .i64 (wrap64 (LA + 1))))) ?hg ?ho ?hn ?hr ?_; (case ho => rfl); (case hg => rfl); (case hn => rfl); (case hr => first | (go_simp; done) | (go_simp; rfl)); intro BI hw; have hg : wr.grownBy BI (some go19) := (by rw [hw]; exact HP22.2); have hp_ : Kd.R (Kd.int .i64) 3 BI w.heap.size (fun _ => True) (.slice (some ⟨go19, 0, none⟩) oA.length CF) y274 := (by rw [hw, Ny274.out]; exact HP22.1); clear HP22; have gA := Aside0.mk (hp_); have hA := Aside0.mk (blk_grown (g := jA) (o := .cells #[.slice none 0 0] 26 (0, 0)) q8_4 hg (Kd.R_ne AA.out mA.out (by decide))); have yA := Aside0.mk (blk_grown (g := TA) (o := .cells #[.slice (some ⟨go19, 0, none⟩) oA.length CF] 26 (0, 0)) (by (with_reducible repeat (first | refine blk_drewN ?_ _ | refine blk_drew ?_ | refine blk_alloc ?_ _)); exact RA.out) hg (Kd.R_ne AA.out RA.out (by decide))); have CA := Aside0.mk ((by rw [hw]; exact below_set (HB.out) GB19.out : Below w.heap.size w BI)); clear AA; clear mA; clear RA; clear HB; have AA := gA; have mA := hA; have RA := yA; have HB := CA; clear gA hA yA CA; clear hg hw hp_))
          go_roundg k1
          case measure => have := HK1.out; omega
          case rel => exact ⟨(wrap64 (LA + 1)), (y274), (.slice (some ⟨go19, 0, none⟩) oA.length CF), q8_16, H', ⟨by have := HK1.out; omega⟩, ⟨by (with_reducible repeat (first | apply Kd.R_alloc | apply Kd.R_drewN | apply Kd.R_drew)); exact AA.out⟩, ⟨q8_4⟩, ⟨by (with_reducible repeat (first | refine blk_drewN ?_ _ | refine blk_drew ?_ | refine blk_alloc ?_ _)); exact RA.out⟩, ⟨q8_10⟩⟩
         ·rw [if_neg c18] at H
          exact absurd H (by simp)
        ·rw [if_neg c17] at H
         exact absurd H (by simp)
       ·rw [if_neg c16] at H
        have QF : decide (LA < a0) = false := decide_eq_false c16
        clear c16
        simp only [Option.some.injEq, Prod.mk.injEq] at H
        obtain ⟨rfl, rfl⟩ := H
        have gJ := cB.out
        have hJ := SA.out
        have gH : wr.cell? ⟨TA, 0, none⟩ = some (zB) := (blk_cell RA.out 0).trans rfl
        have hH := blk_frozen RA.out 0
        obtain ⟨TF, UF, CI⟩ := Kd.R_slice AA.out
        subst CI
        have iH : wr.cell? ⟨jA, 0, none⟩ = some (.slice none 0 0) := (blk_cell mA.out 0).trans rfl
        have jH := blk_frozen mA.out 0
        go_wp2
        refine bodyPost_ret (results_ct rfl _ _ jA 26 #[.slice TF oA.length UF] (0, 0) _ rfl q8_27 Try.underlying26 rfl (by kernel_rfl)) rfl ?_
        exact ⟨_, by first | rfl | (simp [errW_none, errW_some] <;> rfl) | (simp only [← hji5]; first | rfl | (simp [errW_none, errW_some] <;> rfl)) | (simp [*, errW_none, errW_some] <;> rfl), by (with_reducible repeat (first | apply Kd.R_alloc | apply Kd.R_drewN | apply Kd.R_drew)); exact Kd.R_mono (Kd.R_far (p := ⟨jA, 0, none⟩) (Kd.R_types AA.out mA.out (by decide)) (fun _ hk => hk.2) (.slice TF oA.length UF)) (fun _ hk => trivial), q8_10⟩
    ·replace c8 := Bool.eq_false_iff.mpr c8
     subst c8
     have H1 : (some (y270, true)) = some (r1, r2) := by rw [if_neg (show ¬ (false = true) by decide)] at H; exact H
     clear H
     have H := H1
     clear H1
     simp only [Option.some.injEq, Prod.mk.injEq] at H
     obtain ⟨rfl, rfl⟩ := H
     go_enter Try.func82, Try.ntmps82
     go_wp2_with (first | ((with_reducible refine gate_dst (N := 4) rfl ?_); refine box_event ?hg (N := 4) ?hd (cs := #[.slice none 0 0]) (t := 26) ?hr ?_; (case hd => rfl); (case hg => rfl); (case hr => first | (go_simp; done) | (go_simp; rfl)); intro jA hg VF hbox hb; have gA := Aside0.mk (below_step q8_0 hb); have hA := Aside0.mk (hbox); have yA := Aside0.mk ((q8_15 : w.heap.size ≤ jA)); have CA := Aside0.mk ((q8_15 : w.heap.size ≤ jA)); clear HB; have HB := gA; have mA := hA; have OE := yA; have JC := CA; clear gA hA yA CA; clear hb hbox hg) | ((with_reducible refine gate_callee (f := 90) rfl ?_); refine goesL_ (some 9) rfl rfl Try.func90 (by kernel_rfl) rfl #[.int .i64 a0, .int .i64 1, .int .i64 16] rfl q8_5 ?_; (with_reducible refine (impl_within.calls a0 1 16 true _ A3.out).mono ?_); rintro e w' ⟨rfl, ⟨nd, rfl⟩⟩; refine ⟨_, rfl, ?_⟩; (try (rw [drewN_self VF]; generalize hq_ : World.drewN VF _ = VF; have gA : Aside0 (VF.heap[jA]? = some (.cells #[.slice none 0 0] 26 (0, 0))) := ⟨by rw [← hq_]; exact q8_4⟩; have hA : Aside0 (Below w.heap.size w VF) := ⟨by rw [← hq_]; exact q8_1⟩; clear mA HB hq_; have mA := gA; have HB := hA; clear gA hA))) | ((with_reducible refine gate_dst (N := 14) rfl ?_); refine Kd.R_make (Kd.int .i64) _ 3 rfl (N := 14) rfl 24 _ _ rfl ji5 rfl rfl Try.underlying24 (.int .i64 0) 8 info3 rfl (by decide) (by omega) 0 (ok := fun _ => True) (okp := fun _ => True) rfl (fun _ hk => hk) trivial (of_decide_eq_true q8_3) (Nat.le_trans (Nat.mul_le_mul_right _ (of_decide_eq_true q8_3 : ji5.toNat ≤ 35184372088832)) (by omega)) (Below.refl _ _) (Nat.le_refl _) ?_; intro yI yJ ho30 hb hg_ hnew_; clear hg_ hnew_; (first | rw [← Ny270.out] at ho30 | (simp only [Int.reduceToNat] at ho30; rw [← Ny270.out] at ho30)); have gA := Aside0.mk (Kd.R_lower ho30 (below_size q8_1)); have hA := Aside0.mk (blk_below (g := jA) (o := .cells #[.slice none 0 0] 26 (0, 0)) q8_4 hb); have yA := Aside0.mk (below_step q8_1 hb); clear mA; clear HB; have kB := gA; have mA := hA; have HB := yA; clear gA hA yA; clear hb ho30; obtain ⟨DF, EF, DI⟩ := Kd.R_slice kB.out; subst DI) | ((with_reducible refine gate_dst (N := 6) rfl ?_); refine box_event ?hg (N := 6) ?hd (cs := #[.slice none 0 0]) (t := 26) ?hr ?_; (case hd => rfl); (case hg => rfl); (case hr => first | (go_simp; done) | (go_simp; rfl)); intro TA hg iJ hbox hb; have gA := Aside0.mk (Kd.R_below (by (with_reducible repeat (first | apply Kd.R_alloc | apply Kd.R_drewN | apply Kd.R_drew)); exact kB.out) hb); have hA := Aside0.mk (blk_below (g := jA) (o := .cells #[.slice none 0 0] 26 (0, 0)) q8_4 hb); have yA := Aside0.mk (below_step q8_1 hb); have CA := Aside0.mk (hbox); have UA := Aside0.mk ((by rw [hg]; exact (below_size q8_1) : w.heap.size ≤ TA)); have eB := Aside0.mk ((by rw [hg]; exact (below_size q8_1) : w.heap.size ≤ TA)); have qB := Aside0.mk ((by rw [hg]; exact Nat.ne_of_lt (blk_lt (g := jA) (o := .cells #[.slice none 0 0] 26 (0, 0)) q8_4) : jA ≠ TA)); have fC := Aside0.mk ((by rw [hg]; exact Nat.ne_of_gt (blk_lt (g := jA) (o := .cells #[.slice none 0 0] 26 (0, 0)) q8_4) : TA ≠ jA)); clear kB; clear mA; clear HB; have kB := gA; have mA := hA; have HB := yA; have RA := CA; have PF := UA; have HE := eB; have SA := qB; have cB := fC; clear gA hA yA CA UA eB qB fC; clear hb hbox hg; have jJ := cB.out; have kJ := SA.out; have kH : iJ.cell? ⟨TA, 0, none⟩ = some (.slice none 0 0) := (blk_cell RA.out 0).trans rfl; have lH := blk_frozen RA.out 0; have mH : iJ.cell? ⟨jA, 0, none⟩ = some (.slice none 0 0) := (blk_cell mA.out 0).trans rfl; have nH := blk_frozen mA.out 0))
     refine bodyPost_ret (results_ct rfl _ _ jA 26 #[.slice DF y270.length EF] (0, 0) _ rfl (by (with_reducible repeat (first | refine blk_drewN ?_ _ | refine blk_drew ?_ | refine blk_alloc ?_ _)); refine blk_put (cs := #[.slice none 0 0]) ?_ 0 _ rfl; (with_reducible repeat (first | refine blk_drewN ?_ _ | refine blk_drew ?_ | refine blk_alloc ?_ _)); refine blk_far ?_ SA.out _; (with_reducible repeat (first | refine blk_drewN ?_ _ | refine blk_drew ?_ | refine blk_alloc ?_ _)); exact mA.out) Try.underlying26 rfl (by kernel_rfl)) rfl ?_
     exact ⟨_, by first | rfl | (simp [errW_none, errW_some] <;> rfl) | (simp only [← hji5]; first | rfl | (simp [errW_none, errW_some] <;> rfl)) | (simp [*, errW_none, errW_some] <;> rfl), by (with_reducible repeat (first | apply Kd.R_alloc | apply Kd.R_drewN | apply Kd.R_drew)); exact Kd.R_mono (Kd.R_far (p := ⟨jA, 0, none⟩) (Kd.R_far (p := ⟨TA, 0, none⟩) (Kd.R_types (Kd.R_types kB.out RA.out (by decide)) mA.out (by decide)) (fun _ hk => hk.1.2) (.slice DF y270.length EF)) (fun _ hk => hk.2) (.slice DF y270.length EF)) (fun _ hk => trivial), q8_10⟩
   ·rw [if_neg c7] at H
    exact absurd H (by simp)
  ·rw [if_neg c6] at H
   exact absurd H (by simp)
 ·replace c4 := Bool.eq_false_iff.mpr c4
  subst c4
  have H1 : (some (([] : List Int), false)) = some (r1, r2) := by rw [if_neg (show ¬ (false = true) by decide)] at H; exact H
  clear H
  have H := H1
  clear H1
  simp only [Option.some.injEq, Prod.mk.injEq] at H
  obtain ⟨rfl, rfl⟩ := H
  go_enter Try.func82, Try.ntmps82
  go_wp2_with (first | ((with_reducible refine gate_dst (N := 4) rfl ?_); refine box_event ?hg (N := 4) ?hd (cs := #[.slice none 0 0]) (t := 26) ?hr ?_; (case hd => rfl); (case hg => rfl); (case hr => first | (go_simp; done) | (go_simp; rfl)); intro jA hg FF hbox hb; have gA := Aside0.mk (below_step q8_0 hb); have hA := Aside0.mk (hbox); have yA := Aside0.mk ((q8_15 : w.heap.size ≤ jA)); have CA := Aside0.mk ((q8_15 : w.heap.size ≤ jA)); clear HB; have HB := gA; have mA := hA; have OE := yA; have JC := CA; clear gA hA yA CA; clear hb hbox hg) | ((with_reducible refine gate_callee (f := 90) rfl ?_); refine goesL_ (some 9) rfl rfl Try.func90 (by kernel_rfl) rfl #[.int .i64 a0, .int .i64 1, .int .i64 16] rfl q8_5 ?_; (with_reducible refine (impl_within.calls a0 1 16 false _ A3.out).mono ?_); rintro e w' ⟨rfl, ⟨nd, rfl⟩⟩; refine ⟨_, rfl, ?_⟩; (try (rw [drewN_self FF]; generalize hq_ : World.drewN FF _ = FF; have gA : Aside0 (FF.heap[jA]? = some (.cells #[.slice none 0 0] 26 (0, 0))) := ⟨by rw [← hq_]; exact q8_4⟩; have hA : Aside0 (Below w.heap.size w FF) := ⟨by rw [← hq_]; exact q8_1⟩; clear mA HB hq_; have mA := gA; have HB := hA; clear gA hA)); have oH : FF.cell? ⟨jA, 0, none⟩ = some (.slice none 0 0) := (blk_cell mA.out 0).trans rfl; have pH := blk_frozen mA.out 0))
  refine bodyPost_ret (results_ct rfl _ _ jA 26 #[.slice none 0 0] (0, 0) _ rfl q8_27 Try.underlying26 rfl (by kernel_rfl)) rfl ?_
  exact ⟨_, q8_9, by first | exact Kd.R_nil _ _ _ _ _ | exact Kd.N_nil _ _ _ _ _ | exact Kd.V_nil _ _ _ _ _ | exact Kd.Q_nil _ _ _ _ _ | exact Kd.S_nil _ _ _ _ _, q8_1⟩

end Go.Proofs.Ytndkfjecipjiaaa.PFnExactCrewOk
