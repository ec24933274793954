-- Written by the session's own patched copy of the printer (wip/patch_print.py).
import Derived.Test.YtgghglocfdcegaaPFnExactCrewNewx0
namespace Go.Proofs.Ytgghglocfdcegaa.PFnExactCrewNew
open Go.RowKit Go.Proofs.YtgghglocfdcegaaW.PrintWords Go.Proofs.YtgghglocfdcegaaW.PrintLast Go.Proofs.YtgghglocfdcegaaW.PrintMore
attribute [local go_sem] max2_int min2_int max_two min_two max_three min_three max_four min_four   -- for this text's walks alone
set_option linter.unusedVariables false
set_option linter.unusedSimpArgs false

theorem q3_0 {p : Prop} (h : p := by repeat (first | (with_reducible first | exact HB.out | apply below_alloc | apply pw_below_drewN | apply below_drew1) | exact HB.out)) : p := h
theorem q3_1 {p : Prop} (h : p := by repeat (first | (with_reducible first | exact HB.out | apply below_alloc | apply pw_below_drewN | apply below_drew1 | refine below_set ?_ gC.out) | exact HB.out)) : p := h
theorem q3_2 {p : Prop} (h : p := by repeat (first | (with_reducible first | exact HB.out | apply below_alloc | apply pw_below_drewN | apply below_drew1 | refine below_set ?_ NC.out | refine below_set ?_ vD.out | refine below_set ?_ rE.out) | exact HB.out)) : p := h
theorem q3_3 {p : Prop} (h : p := by first | (with_reducible assumption) | assumption) : p := h
theorem q3_4 {p : Prop} (h : p := by (with_reducible repeat (first | refine blk_drewN ?_ _ | refine blk_drew ?_ | refine blk_alloc ?_ _)); exact iA.out) : p := h
theorem q3_5 {p : Prop} (h : p := by (try simp only [List.map_toArray, List.map_cons, List.map_nil]); first | done | rfl | (simp only [List.length_drop, List.length_take]; rfl)) : p := h
theorem q3_6 {p : Prop} (h : p := by repeat (first | (with_reducible first | exact HB.out | apply below_alloc | apply pw_below_drewN | apply below_drew1 | refine below_set ?_ OC.out) | exact HB.out)) : p := h
theorem q3_7 {p : Prop} (h : p := by (with_reducible repeat (first | refine blk_drewN ?_ _ | refine blk_drew ?_ | refine blk_alloc ?_ _)); exact vA.out) : p := h
theorem q3_8 {p : Prop} (h : p := by (with_reducible repeat (first | refine blk_drewN ?_ _ | refine blk_drew ?_ | refine blk_alloc ?_ _)); exact cA.out) : p := h
theorem q3_9 {p : Prop} (h : p := by repeat (first | (with_reducible first | exact HB.out | apply below_alloc | apply pw_below_drewN | apply below_drew1 | refine below_set ?_ gC.out | refine below_set ?_ wD.out) | exact HB.out)) : p := h
theorem q3_10 {p : Prop} (h : p := by (with_reducible repeat (first | refine blk_drewN ?_ _ | refine blk_drew ?_ | refine blk_alloc ?_ _)); exact oA.out) : p := h
theorem q3_11 {p : Prop} (h : p := by first | rfl | (simp [errW_none, errW_some] <;> rfl) | (simp [*, errW_none, errW_some] <;> rfl)) : p := h
theorem q3_12 {p : Prop} (h : p := by (with_reducible repeat (first | apply Kd.R_alloc | apply Kd.R_drewN | apply Kd.R_drew)); exact sA.out) : p := h
theorem q3_13 {p : Prop} (h : p := by first | rfl | (simp; done) | (simp [*]; done)) : p := h
theorem q3_14 {p : Prop} (h : p := by rw [hg]; exact (below_size q3_0)) : p := h
theorem q3_15 {p : Prop} (h : p := by repeat (first | (with_reducible first | exact HB.out | apply below_alloc | apply pw_below_drewN | apply below_drew1 | refine below_set ?_ PC.out | refine below_set ?_ xD.out) | exact HB.out)) : p := h
theorem q3_16 {p : Prop} (h : p := by repeat (first | (with_reducible first | exact HB.out | apply below_alloc | apply pw_below_drewN | apply below_drew1 | refine below_set ?_ NC.out | refine below_set ?_ vD.out) | exact HB.out)) : p := h
theorem q3_17 {p : Prop} (h : p := by repeat (first | (with_reducible first | exact HB.out | apply below_alloc | apply pw_below_drewN | apply below_drew1 | refine below_set ?_ OC.out | refine below_set ?_ sE.out) | exact HB.out)) : p := h
theorem q3_18 {p : Prop} (h : p := by (with_reducible repeat (first | refine blk_drewN ?_ _ | refine blk_drew ?_ | refine blk_alloc ?_ _)); exact tA.out) : p := h
theorem q3_19 {p : Prop} (h : p := by repeat (first | (with_reducible first | exact HB.out | apply below_alloc | apply pw_below_drewN | apply below_drew1 | refine below_set ?_ PC.out) | exact HB.out)) : p := h
theorem q3_20 {p : Prop} (h : p := by repeat (first | (with_reducible first | exact HB.out | apply below_alloc | apply pw_below_drewN | apply below_drew1 | refine below_set ?_ NC.out) | exact HB.out)) : p := h
theorem q3_21 {p : Prop} (h : p := by (with_reducible repeat (first | refine blk_drewN ?_ _ | refine blk_drew ?_ | refine blk_alloc ?_ _)); refine blk_put (cs := #[.slice none 0 0]) ?_ 0 _ rfl; (with_reducible repeat (first | refine blk_drewN ?_ _ | refine blk_drew ?_ | refine blk_alloc ?_ _)); exact iA.out) : p := h
theorem q3_22 {p : Prop} (h : p := by (with_reducible repeat (first | refine blk_drewN ?_ _ | refine blk_drew ?_ | refine blk_alloc ?_ _)); refine blk_put (cs := #[.slice none 0 0]) ?_ 0 _ rfl; (with_reducible repeat (first | refine blk_drewN ?_ _ | refine blk_drew ?_ | refine blk_alloc ?_ _)); exact vA.out) : p := h
theorem q3_23 {p : Prop} (h : p := by (with_reducible repeat (first | apply Kd.R_alloc | apply Kd.R_drewN | apply Kd.R_drew)); exact (Kd.R_mono (Kd.R_far (p := ⟨mA, 2, none⟩) (Kd.R_types RB.out bA.out (by decide)) (fun _ hk => hk.2) (.slice wB jB.length xB)) (fun _ h_ => h_.1))) : p := h
theorem q3_24 {p : Prop} (h : p := by rw [hg]; exact Nat.ne_of_lt (blk_lt (g := xA) (o := .cells #[.int .i64 NA, .int .i64 gA, .int .i64 PA, .int .i64 RA, .int .i64 SA, .int .i64 YA, .int .i64 iB, .int .i64 kB, .int .i64 nB, .bool sB] 106 (0, 0)) q3_10)) : p := h
theorem q3_25 {p : Prop} (h : p := by rw [hg]; exact Nat.ne_of_gt (blk_lt (g := xA) (o := .cells #[.int .i64 NA, .int .i64 gA, .int .i64 PA, .int .i64 RA, .int .i64 SA, .int .i64 YA, .int .i64 iB, .int .i64 kB, .int .i64 nB, .bool sB] 106 (0, 0)) q3_10)) : p := h
theorem q3_26 {p : Prop} (h : p := by (with_reducible repeat (first | refine blk_drewN ?_ _ | refine blk_drew ?_ | refine blk_alloc ?_ _)); exact rA.out) : p := h
theorem q3_27 {p : Prop} (h : p := by (with_reducible repeat (first | apply Kd.S_alloc | apply Kd.S_drewN | apply Kd.S_drew)); exact sA.out) : p := h
/-! ### laws_toIntS: function 46 -/
def laws_toIntS.l0 : Nat → List Int → List Int → Int → Option (List Int)
 | 0, _, _, _ => none
 | k + 1, x0, x3, x4 => if x4 < (x0.length : Int) then (if 0 ≤ x4 then (if x4 < (x3.length : Int) then (laws_toIntS.l0 k x0 (x3.set (x4 : Int).toNat (rd x0 x4)) (wrap64 (x4 + 1))) else (none)) else (none)) else (some x3)
def laws_toIntS.f (k : Nat) (l0 : List Int) : Option (List Int) := if 0 ≤ (l0.length : Int) then (if ((l0.length : Int) : Int).toNat ≤ 35184372088832 then (laws_toIntS.l0 k l0 (List.replicate ((l0.length : Int) : Int).toNat 0) 0) else (none)) else (none)
theorem laws_toIntS.mono_l : ∀ k, (∀ y0 y1 y2, LeO (laws_toIntS.l0 k y0 y1 y2) (laws_toIntS.l0 (k + 1) y0 y1 y2))
 | 0 => fun _ _ _ r h => by simp [laws_toIntS.l0] at h
 | k + 1 => by
  have ih0 := laws_toIntS.mono_l k
  ·intro y0 y1 y2
   unfold laws_toIntS.l0
   repeat' first
   | (with_reducible exact ih0 _ _ _)
   | (with_reducible exact LeO.refl _)
   | (with_reducible exact LeO.none _)
   | (with_reducible refine LeO.ite ?_ ?_)
   | (with_reducible refine LeO.bind ?_ (fun _ => ?_))
   | exact ih0 _ _ _
   | exact LeO.none _
   | refine LeO.ite ?_ ?_
   | refine LeO.bind ?_ (fun _ => ?_)
theorem laws_toIntS.mono : ∀ a0 k, LeO (laws_toIntS.f k a0) (laws_toIntS.f (k + 1) a0) := by
 intro a0 k
 have ih0 := laws_toIntS.mono_l k
 unfold laws_toIntS.f
 repeat' first
   | (with_reducible exact ih0 _ _ _)
   | (with_reducible exact LeO.refl _)
   | (with_reducible exact LeO.none _)
   | (with_reducible refine LeO.ite ?_ ?_)
   | (with_reducible refine LeO.bind ?_ (fun _ => ?_))
   | exact ih0 _ _ _
   | exact LeO.none _
   | refine LeO.ite ?_ ?_
   | refine LeO.bind ?_ (fun _ => ?_)
set_option maxHeartbeats 8000000 in
set_option maxRecDepth 100000 in
theorem laws_toIntS.calls (k : Nat) (A0 : Option Addr) (c0 : Nat) (l0 : List Int) (r : List Int) (w : World) (hr0 : Kd.C (Kd.int .i64) w A0 l0.length l0) (hc0 : l0.length ≤ c0) (h : laws_toIntS.f k l0 = some r) :
  Calls Try.prog 46 #[.slice A0 l0.length c0] w fun e w' => ∃ v0_ : Value, e = .returned (v0_) ∧ Kd.R (Kd.int .i64) 3 w' w.heap.size (fun _ => True) v0_ r ∧ Below w.heap.size w w' := by
 have HR0 := Aside0.mk hr0
 clear hr0 hc0
 have HB := Aside0.mk (Below.refl w.heap.size w)
 have H : (if 0 ≤ (l0.length : Int) then (if ((l0.length : Int) : Int).toNat ≤ 35184372088832 then (laws_toIntS.l0 k l0 (List.replicate ((l0.length : Int) : Int).toNat 0) 0) else (none)) else (none)) = some r := h
 clear h
 by_cases c2 : 0 ≤ (l0.length : Int)
 ·rw [if_pos c2] at H
  have QC := eq_true c2
  have RC : decide (0 ≤ (l0.length : Int)) = true := decide_eq_true c2
  clear c2
  by_cases c3 : ((l0.length : Int) : Int).toNat ≤ 35184372088832
  ·rw [if_pos c3] at H
   have SC := eq_true c3
   have TC : decide (((l0.length : Int) : Int).toNat ≤ 35184372088832) = true := decide_eq_true c3
   clear c3
   obtain ⟨y216, hy216⟩ : ∃ y_ : List Int, y_ = (List.replicate ((l0.length : Int) : Int).toNat 0) := ⟨_, rfl⟩
   replace H : (laws_toIntS.l0 k l0 y216 0) = some r := by first | (rw [hy216]; with_reducible exact H) | (have H2_ := (Option.bind_some _ _).symm.trans H; rw [hy216]; with_reducible exact H2_) | (have H2_ := (Option.bind_some _ _).symm.trans H; with_reducible exact H2_) | with_reducible exact H | (rw [hy216]; exact H) | exact H
   have Ny216 := Aside0.mk hy216
   clear hy216
   have H' := Aside0.mk H
   clear H
   go_enter Try.func46, Try.ntmps46
   go_wp2_with (first | ((with_reducible refine gate_dst (N := 7) rfl ?_); refine Kd.R_make (Kd.int .i64) _ 3 rfl (N := 7) rfl 24 _ _ rfl (l0.length : Int) rfl rfl Try.underlying24 (.int .i64 0) 8 info3 rfl (by decide) (by omega) 0 (ok := fun _ => True) (okp := fun _ => True) rfl (fun _ hk => hk) trivial (of_decide_eq_true q3_3) (Nat.le_trans (Nat.mul_le_mul_right _ (of_decide_eq_true q3_3 : (l0.length : Int).toNat ≤ 35184372088832)) (by omega)) (Below.refl _ _) (Nat.le_refl _) ?_; intro tG w4 ho5 hb hg_ hnew_; clear hg_ hnew_; (first | rw [← Ny216.out] at ho5 | (simp only [Int.reduceToNat] at ho5; rw [← Ny216.out] at ho5)); have dA := Aside0.mk (Kd.R_lower ho5 (below_size q3_0)); have eA := Aside0.mk (below_step q3_0 hb); clear HB; have tE := dA; have HB := eA; clear dA eA; clear hb ho5))
   go_loopg [4] k (fun kq v4 w' => ∃ (jA : List Int) (aA : Int), v4 = .int .i64 aA ∧ Aside0 (laws_toIntS.l0 kq l0 jA aA = some r) ∧ Aside0 (kq ≤ k) ∧ Aside0 (Kd.R (Kd.int .i64) 3 w' w.heap.size (fun _ => True) tG jA) ∧ Aside0 (Below w.heap.size w w'))
   case atStart => exact ⟨(y216), (0), q3_13, H', ⟨Nat.le_refl _⟩, ⟨by (with_reducible repeat (first | apply Kd.R_alloc | apply Kd.R_drewN | apply Kd.R_drew)); exact tE.out⟩, ⟨q3_0⟩⟩
   case round =>
    clear H'
    (try clear c2); (try clear QC); (try clear RC); (try clear p2); (try clear c3); (try clear SC); (try clear TC); (try clear c4)
    obtain ⟨jA, aA, rfl, HA, HK1, sA, HB⟩ := hrel
    cases gk with
    | zero => exact absurd HA.out (by simp [laws_toIntS.l0])
    | succ k1 =>
     have H := HA.out
     clear HA
     simp only [laws_toIntS.l0] at H
     by_cases c6 : aA < (l0.length : Int)
     ·rw [if_pos c6] at H
      have yB : decide (aA < (l0.length : Int)) = true := decide_eq_true c6
      clear c6
      by_cases c7 : 0 ≤ aA
      ·rw [if_pos c7] at H
       have XC : decide (0 ≤ aA) = true := decide_eq_true c7
       clear c7
       by_cases c8 : aA < (jA.length : Int)
       ·rw [if_pos c8] at H
        have vI : decide (aA < (jA.length : Int)) = true := decide_eq_true c8
        clear c8
        obtain ⟨y220, hy220⟩ : ∃ y_ : List Int, y_ = (jA.set (aA : Int).toNat (rd l0 aA)) := ⟨_, rfl⟩
        replace H : (laws_toIntS.l0 k1 l0 y220 (wrap64 (aA + 1))) = some r := by first | (rw [hy220]; with_reducible exact H) | (have H2_ := (Option.bind_some _ _).symm.trans H; rw [hy220]; with_reducible exact H2_) | (have H2_ := (Option.bind_some _ _).symm.trans H; with_reducible exact H2_) | with_reducible exact H | (rw [hy220]; exact H) | exact H
        have Ny220 := Aside0.mk hy220
        clear hy220
        have H' := Aside0.mk H
        clear H
        have p219 : 0 ≤ (aA : Int) := of_decide_eq_true q3_3
        have q219 : aA < (l0.length : Int) := of_decide_eq_true q3_3
        obtain ⟨ad219, uG, zB⟩ := Kd.at_int HR0.out aA p219 q219
        cases uG
        replace zB := (HB.out.cell (World.block_lt_of_cell? w _ zB)).trans zB
        replace p219 := eq_true p219
        replace q219 := eq_true q219
        have p9 : 0 ≤ (aA : Int) := of_decide_eq_true q3_3
        have q9 : (aA : Int) < ((jA.length : Int) : Int) := of_decide_eq_true q3_3
        obtain ⟨go9, wI, SH, TH, gl9, cl9, HG9⟩ := Kd.R_form sA.out (by omega)
        (first | cases SH | (injection SH with ea_ en_ ec_; (first | subst ea_ | (injection ea_ with ea_; subst ea_)); subst ec_; clear en_))
        have GB9 := Aside0.mk TH
        have GG9 := Aside0.mk HG9
        clear TH gl9 HG9
        obtain ⟨UH, VH⟩ := Kd.R_celln 0 sA.out (aA : Int) p9 q9
        replace p9 := eq_true p9
        replace q9 := eq_true q9
        have HP10 := Kd.R_putg sA.out (aA : Int) (rd l0 aA)
        go_wp2_with (first | ((with_reducible refine gate_store (t := 3) (p := 20) rfl ?_); refine store_event (t := 3) (p := 20) (v := ?vo_w11) (w1 := (wr.setCell ⟨go9, (aA : Int).toNat, none⟩ (.int .i64 (rd l0 aA)))) ?hg ?ho ?hn ?hr ?_; (case ho => rfl); (case hg => rfl); (case hn => rfl); (case hr => first | (go_simp; done) | (go_simp; rfl)); intro FA hw; have hg : wr.grownBy FA (some go9) := (by rw [hw]; exact HP10.2); have hp_ : Kd.R (Kd.int .i64) 3 FA w.heap.size (fun _ => True) (.slice (some ⟨go9, 0, none⟩) jA.length wI) y220 := (by rw [hw, Ny220.out]; exact HP10.1); clear HP10; have dA := Aside0.mk (hp_); have eA := Aside0.mk ((by rw [hw]; exact below_set (HB.out) GB9.out : Below w.heap.size w FA)); clear sA HB; have sA := dA; have HB := eA; clear dA eA; clear hg hw hp_))
        go_roundg k1
        case measure => have := HK1.out; omega
        case rel => exact ⟨(y220), (wrap64 (aA + 1)), q3_13, H', ⟨by have := HK1.out; omega⟩, ⟨q3_12⟩, ⟨q3_0⟩⟩
       ·rw [if_neg c8] at H
        exact absurd H (by simp)
      ·rw [if_neg c7] at H
       exact absurd H (by simp)
     ·rw [if_neg c6] at H
      have yB : decide (aA < (l0.length : Int)) = false := decide_eq_false c6
      clear c6
      obtain rfl := Option.some.inj H
      go_wp2
      go_ret
      exact ⟨_, q3_11, q3_12, q3_0⟩
  ·rw [if_neg c3] at H
   exact absurd H (by simp)
 ·rw [if_neg c2] at H
  exact absurd H (by simp)

/-! ### laws_toCall: function 91 -/
def laws_toCall.f (NA : Int) (gA : Int) (PA : Int) (RA : Int) (SA : Int) (YA : Int) (iB : Int) (kB : Int) (nB : Int) (sB : Bool) : Option (Int × Int × Int × Int × Int × Int × Int × Int × Int × Bool) := some (NA, gA, PA, RA, SA, YA, iB, kB, nB, sB)
set_option maxHeartbeats 8000000 in
set_option maxRecDepth 100000 in
theorem laws_toCall.calls (NA : Int) (gA : Int) (PA : Int) (RA : Int) (SA : Int) (YA : Int) (iB : Int) (kB : Int) (nB : Int) (sB : Bool) (r1 : Int) (r2 : Int) (r3 : Int) (r4 : Int) (r5 : Int) (r6 : Int) (r7 : Int) (r8 : Int) (r9 : Int) (r10 : Bool) (w : World) (h : laws_toCall.f NA gA PA RA SA YA iB kB nB sB = some (r1, r2, r3, r4, r5, r6, r7, r8, r9, r10)) :
  Calls Try.prog 91 #[.agg #[.int .i64 NA, .int .i64 gA, .int .i64 PA, .int .i64 RA, .int .i64 SA, .int .i64 YA, .int .i64 iB, .int .i64 kB, .int .i64 nB, .bool sB]] w fun e w' => e = .returned (.agg #[.int .i64 r1, .int .i64 r2, .int .i64 r3, .int .i64 r4, .int .i64 r5, .int .i64 r6, .int .i64 r7, .int .i64 r8, .int .i64 r9, .bool r10]) ∧ Below w.heap.size w w' := by
 have hu106 := Try.underlying106
 have hu75 := Try.underlying75
 have HB := Aside0.mk (Below.refl w.heap.size w)
 have H : (some (NA, gA, PA, RA, SA, YA, iB, kB, nB, sB)) = some (r1, r2, r3, r4, r5, r6, r7, r8, r9, r10) := h
 clear h
 simp only [Option.some.injEq, Prod.mk.injEq] at H
 obtain ⟨rfl, rfl, rfl, rfl, rfl, rfl, rfl, rfl, rfl, rfl⟩ := H
 go_enter Try.func91, Try.ntmps91
 go_wp2_with (first | ((with_reducible refine gate_dst (N := 1) rfl ?_); refine box_event ?hg (N := 1) ?hd (cs := #[.int .i64 NA, .int .i64 gA, .int .i64 PA, .int .i64 RA, .int .i64 SA, .int .i64 YA, .int .i64 iB, .int .i64 kB, .int .i64 nB, .bool sB]) (t := 106) ?hr ?_; (case hd => rfl); (case hg => rfl); (case hr => first | (go_simp; done) | (go_simp; rfl)); intro xA hg w2 hbox hb; have dA := Aside0.mk (below_step q3_0 hb); have eA := Aside0.mk (hbox); have uA := Aside0.mk ((q3_14 : w.heap.size ≤ xA)); have BA := Aside0.mk ((q3_14 : w.heap.size ≤ xA)); clear HB; have HB := dA; have oA := eA; have WH := uA; have PC := BA; clear dA eA uA BA; clear hb hbox hg) | ((with_reducible refine gate_dst (N := 2) rfl ?_); refine box_event ?hg (N := 2) ?hd (cs := #[.int .i64 0, .int .i64 0, .int .i64 0, .int .i64 0, .int .i64 0, .int .i64 0, .int .i64 0, .int .i64 0, .int .i64 0, .bool false]) (t := 75) ?hr ?_; (case hd => rfl); (case hg => rfl); (case hr => first | (go_simp; done) | (go_simp; rfl)); intro yA hg w3 hbox hb; have dA := Aside0.mk (blk_below (g := xA) (o := .cells #[.int .i64 NA, .int .i64 gA, .int .i64 PA, .int .i64 RA, .int .i64 SA, .int .i64 YA, .int .i64 iB, .int .i64 kB, .int .i64 nB, .bool sB] 106 (0, 0)) q3_10 hb); have eA := Aside0.mk (below_step q3_19 hb); have uA := Aside0.mk (hbox); have BA := Aside0.mk ((by rw [hg]; exact (below_size q3_19) : w.heap.size ≤ yA)); have fB := Aside0.mk ((by rw [hg]; exact (below_size q3_19) : w.heap.size ≤ yA)); have qB := Aside0.mk ((q3_24 : xA ≠ yA)); have uB := Aside0.mk ((q3_25 : yA ≠ xA)); clear oA HB; have oA := dA; have HB := eA; have rA := uA; have XH := BA; have xD := fB; have tC := qB; have uC := uB; clear dA eA uA BA fB qB uB; clear hb hbox hg) | ((with_reducible refine gate_dst (N := 3) rfl ?_); refine box_event ?hg (N := 3) ?hd (cs := #[.int .i64 0, .int .i64 0, .int .i64 0, .int .i64 0, .int .i64 0, .int .i64 0, .int .i64 0, .int .i64 0, .int .i64 0, .bool false]) (t := 75) ?hr ?_; (case hd => rfl); (case hg => rfl); (case hr => first | (go_simp; done) | (go_simp; rfl)); intro GA hg w4 hbox hb; have dA := Aside0.mk (blk_below (g := xA) (o := .cells #[.int .i64 NA, .int .i64 gA, .int .i64 PA, .int .i64 RA, .int .i64 SA, .int .i64 YA, .int .i64 iB, .int .i64 kB, .int .i64 nB, .bool sB] 106 (0, 0)) q3_10 hb); have eA := Aside0.mk (blk_below (g := yA) (o := .cells #[.int .i64 0, .int .i64 0, .int .i64 0, .int .i64 0, .int .i64 0, .int .i64 0, .int .i64 0, .int .i64 0, .int .i64 0, .bool false] 75 (0, 0)) q3_26 hb); have uA := Aside0.mk (below_step q3_15 hb); have BA := Aside0.mk (hbox); have fB := Aside0.mk ((by rw [hg]; exact (below_size q3_15) : w.heap.size ≤ GA)); have qB := Aside0.mk ((by rw [hg]; exact (below_size q3_15) : w.heap.size ≤ GA)); have uB := Aside0.mk ((q3_24 : xA ≠ GA)); have hC := Aside0.mk ((q3_25 : GA ≠ xA)); have uE := Aside0.mk ((by rw [hg]; exact Nat.ne_of_lt (blk_lt (g := yA) (o := .cells #[.int .i64 0, .int .i64 0, .int .i64 0, .int .i64 0, .int .i64 0, .int .i64 0, .int .i64 0, .int .i64 0, .int .i64 0, .bool false] 75 (0, 0)) q3_26) : yA ≠ GA)); have vE := Aside0.mk ((by rw [hg]; exact Nat.ne_of_gt (blk_lt (g := yA) (o := .cells #[.int .i64 0, .int .i64 0, .int .i64 0, .int .i64 0, .int .i64 0, .int .i64 0, .int .i64 0, .int .i64 0, .int .i64 0, .bool false] 75 (0, 0)) q3_26) : GA ≠ yA)); clear oA rA HB; have oA := dA; have rA := eA; have HB := uA; have zA := BA; have YH := fB; have wE := qB; have vC := uB; have wC := hC; have vB := uE; have xC := vE; clear dA eA uA BA fB qB uB hC uE vE; clear hb hbox hg; have xI := tC.out; have yI := uC.out; have zI := vC.out; have AI := wC.out; have vG : w4.cell? ⟨xA, 0, none⟩ = some (.int .i64 NA) := (blk_cell oA.out 0).trans rfl; have wG : w4.cell? ⟨xA, 1, none⟩ = some (.int .i64 gA) := (blk_cell oA.out 1).trans rfl; have xG : w4.cell? ⟨xA, 2, none⟩ = some (.int .i64 PA) := (blk_cell oA.out 2).trans rfl; have yG : w4.cell? ⟨xA, 3, none⟩ = some (.int .i64 RA) := (blk_cell oA.out 3).trans rfl; have zG : w4.cell? ⟨xA, 4, none⟩ = some (.int .i64 SA) := (blk_cell oA.out 4).trans rfl; have AG : w4.cell? ⟨xA, 5, none⟩ = some (.int .i64 YA) := (blk_cell oA.out 5).trans rfl; have BG : w4.cell? ⟨xA, 6, none⟩ = some (.int .i64 iB) := (blk_cell oA.out 6).trans rfl; have CG : w4.cell? ⟨xA, 7, none⟩ = some (.int .i64 kB) := (blk_cell oA.out 7).trans rfl; have DG : w4.cell? ⟨xA, 8, none⟩ = some (.int .i64 nB) := (blk_cell oA.out 8).trans rfl; have EG : w4.cell? ⟨xA, 9, none⟩ = some (.bool sB) := (blk_cell oA.out 9).trans rfl; have FG := blk_frozen oA.out 0; have GG := blk_frozen oA.out 1; have HG := blk_frozen oA.out 2; have IG := blk_frozen oA.out 3; have JG := blk_frozen oA.out 4; have KG := blk_frozen oA.out 5; have LG := blk_frozen oA.out 6; have MG := blk_frozen oA.out 7; have NG := blk_frozen oA.out 8; have OG := blk_frozen oA.out 9; have PG := xC.out; have QG := vB.out; have RG : w4.cell? ⟨GA, 0, none⟩ = some (.int .i64 0) := (blk_cell zA.out 0).trans rfl; have SG : w4.cell? ⟨GA, 1, none⟩ = some (.int .i64 0) := (blk_cell zA.out 1).trans rfl; have TG : w4.cell? ⟨GA, 2, none⟩ = some (.int .i64 0) := (blk_cell zA.out 2).trans rfl; have UG : w4.cell? ⟨GA, 3, none⟩ = some (.int .i64 0) := (blk_cell zA.out 3).trans rfl; have VG : w4.cell? ⟨GA, 4, none⟩ = some (.int .i64 0) := (blk_cell zA.out 4).trans rfl; have WG : w4.cell? ⟨GA, 5, none⟩ = some (.int .i64 0) := (blk_cell zA.out 5).trans rfl; have XG : w4.cell? ⟨GA, 6, none⟩ = some (.int .i64 0) := (blk_cell zA.out 6).trans rfl; have YG : w4.cell? ⟨GA, 7, none⟩ = some (.int .i64 0) := (blk_cell zA.out 7).trans rfl; have ZG : w4.cell? ⟨GA, 8, none⟩ = some (.int .i64 0) := (blk_cell zA.out 8).trans rfl; have aH : w4.cell? ⟨GA, 9, none⟩ = some (.bool false) := (blk_cell zA.out 9).trans rfl; have bH := blk_frozen zA.out 0; have cH := blk_frozen zA.out 1; have dH := blk_frozen zA.out 2; have eH := blk_frozen zA.out 3; have fH := blk_frozen zA.out 4; have gH := blk_frozen zA.out 5; have hH := blk_frozen zA.out 6; have iH := blk_frozen zA.out 7; have jH := blk_frozen zA.out 8; have kH := blk_frozen zA.out 9; have YC : w4.cell? ⟨yA, 0, none⟩ = some (.int .i64 0) := (blk_cell rA.out 0).trans rfl; have ZC : w4.cell? ⟨yA, 1, none⟩ = some (.int .i64 0) := (blk_cell rA.out 1).trans rfl; have aD : w4.cell? ⟨yA, 2, none⟩ = some (.int .i64 0) := (blk_cell rA.out 2).trans rfl; have bD : w4.cell? ⟨yA, 3, none⟩ = some (.int .i64 0) := (blk_cell rA.out 3).trans rfl; have TE : w4.cell? ⟨yA, 4, none⟩ = some (.int .i64 0) := (blk_cell rA.out 4).trans rfl; have UE : w4.cell? ⟨yA, 5, none⟩ = some (.int .i64 0) := (blk_cell rA.out 5).trans rfl; have VE : w4.cell? ⟨yA, 6, none⟩ = some (.int .i64 0) := (blk_cell rA.out 6).trans rfl; have WE : w4.cell? ⟨yA, 7, none⟩ = some (.int .i64 0) := (blk_cell rA.out 7).trans rfl; have XE : w4.cell? ⟨yA, 8, none⟩ = some (.int .i64 0) := (blk_cell rA.out 8).trans rfl; have YE : w4.cell? ⟨yA, 9, none⟩ = some (.bool false) := (blk_cell rA.out 9).trans rfl; have cD := blk_frozen rA.out 0; have dD := blk_frozen rA.out 1; have eD := blk_frozen rA.out 2; have fD := blk_frozen rA.out 3; have ZE := blk_frozen rA.out 4; have aF := blk_frozen rA.out 5; have bF := blk_frozen rA.out 6; have cF := blk_frozen rA.out 7; have dF := blk_frozen rA.out 8; have eF := blk_frozen rA.out 9))
 refine bodyPost_ret (results_cell_row rfl _ _ yA 75 #[.int .i64 NA, .int .i64 gA, .int .i64 PA, .int .i64 RA, .int .i64 SA, .int .i64 YA, .int .i64 iB, .int .i64 kB, .int .i64 nB, .bool sB] (0, 0) _ rfl (by (with_reducible repeat (first | refine blk_drewN ?_ _ | refine blk_drew ?_ | refine blk_alloc ?_ _)); refine blk_put (cs := #[.int .i64 NA, .int .i64 gA, .int .i64 PA, .int .i64 RA, .int .i64 SA, .int .i64 YA, .int .i64 iB, .int .i64 kB, .int .i64 nB, .bool false]) ?_ 9 _ rfl; (with_reducible repeat (first | refine blk_drewN ?_ _ | refine blk_drew ?_ | refine blk_alloc ?_ _)); refine blk_put (cs := #[.int .i64 NA, .int .i64 gA, .int .i64 PA, .int .i64 RA, .int .i64 SA, .int .i64 YA, .int .i64 iB, .int .i64 kB, .int .i64 0, .bool false]) ?_ 8 _ rfl; (with_reducible repeat (first | refine blk_drewN ?_ _ | refine blk_drew ?_ | refine blk_alloc ?_ _)); refine blk_put (cs := #[.int .i64 NA, .int .i64 gA, .int .i64 PA, .int .i64 RA, .int .i64 SA, .int .i64 YA, .int .i64 iB, .int .i64 0, .int .i64 0, .bool false]) ?_ 7 _ rfl; (with_reducible repeat (first | refine blk_drewN ?_ _ | refine blk_drew ?_ | refine blk_alloc ?_ _)); refine blk_put (cs := #[.int .i64 NA, .int .i64 gA, .int .i64 PA, .int .i64 RA, .int .i64 SA, .int .i64 YA, .int .i64 0, .int .i64 0, .int .i64 0, .bool false]) ?_ 6 _ rfl; (with_reducible repeat (first | refine blk_drewN ?_ _ | refine blk_drew ?_ | refine blk_alloc ?_ _)); refine blk_put (cs := #[.int .i64 NA, .int .i64 gA, .int .i64 PA, .int .i64 RA, .int .i64 SA, .int .i64 0, .int .i64 0, .int .i64 0, .int .i64 0, .bool false]) ?_ 5 _ rfl; (with_reducible repeat (first | refine blk_drewN ?_ _ | refine blk_drew ?_ | refine blk_alloc ?_ _)); refine blk_put (cs := #[.int .i64 NA, .int .i64 gA, .int .i64 PA, .int .i64 RA, .int .i64 0, .int .i64 0, .int .i64 0, .int .i64 0, .int .i64 0, .bool false]) ?_ 4 _ rfl; (with_reducible repeat (first | refine blk_drewN ?_ _ | refine blk_drew ?_ | refine blk_alloc ?_ _)); refine blk_put (cs := #[.int .i64 NA, .int .i64 gA, .int .i64 PA, .int .i64 0, .int .i64 0, .int .i64 0, .int .i64 0, .int .i64 0, .int .i64 0, .bool false]) ?_ 3 _ rfl; (with_reducible repeat (first | refine blk_drewN ?_ _ | refine blk_drew ?_ | refine blk_alloc ?_ _)); refine blk_put (cs := #[.int .i64 NA, .int .i64 gA, .int .i64 0, .int .i64 0, .int .i64 0, .int .i64 0, .int .i64 0, .int .i64 0, .int .i64 0, .bool false]) ?_ 2 _ rfl; (with_reducible repeat (first | refine blk_drewN ?_ _ | refine blk_drew ?_ | refine blk_alloc ?_ _)); refine blk_put (cs := #[.int .i64 NA, .int .i64 0, .int .i64 0, .int .i64 0, .int .i64 0, .int .i64 0, .int .i64 0, .int .i64 0, .int .i64 0, .bool false]) ?_ 1 _ rfl; (with_reducible repeat (first | refine blk_drewN ?_ _ | refine blk_drew ?_ | refine blk_alloc ?_ _)); refine blk_put (cs := #[.int .i64 0, .int .i64 0, .int .i64 0, .int .i64 0, .int .i64 0, .int .i64 0, .int .i64 0, .int .i64 0, .int .i64 0, .bool false]) ?_ 0 _ rfl; (iterate 10 ((with_reducible repeat (first | refine blk_drewN ?_ _ | refine blk_drew ?_ | refine blk_alloc ?_ _)); refine blk_far ?_ vB.out _)); (with_reducible repeat (first | refine blk_drewN ?_ _ | refine blk_drew ?_ | refine blk_alloc ?_ _)); exact rA.out) Try.underlying75 rfl (by kernel_rfl)) rfl ?_
 exact ⟨q3_11, by repeat (first | (with_reducible first | exact HB.out | apply below_alloc | apply pw_below_drewN | apply below_drew1 | refine below_set ?_ PC.out | refine below_set ?_ xD.out | refine below_set ?_ wE.out) | exact HB.out)⟩

/-! ### laws_toCallS: function 66 -/
def laws_toCallS.l0 : Nat → List (S106) → List (S75) → Int → Option ((List (S75)))
 | 0, _, _, _ => none
 | k + 1, x0, x3, x4 => if x4 < (x0.length : Int) then (if 0 ≤ x4 then ((laws_toCall.f ((rd_T106 x0 x4).f0) ((rd_T106 x0 x4).f1) ((rd_T106 x0 x4).f2) ((rd_T106 x0 x4).f3) ((rd_T106 x0 x4).f4) ((rd_T106 x0 x4).f5) ((rd_T106 x0 x4).f6) ((rd_T106 x0 x4).f7) ((rd_T106 x0 x4).f8) ((rd_T106 x0 x4).f9)).bind fun gB => (if x4 < (x3.length : Int) then (laws_toCallS.l0 k x0 (x3.set (x4 : Int).toNat (⟨gB.1, gB.2.1, gB.2.2.1, gB.2.2.2.1, gB.2.2.2.2.1, gB.2.2.2.2.2.1, gB.2.2.2.2.2.2.1, gB.2.2.2.2.2.2.2.1, gB.2.2.2.2.2.2.2.2.1, gB.2.2.2.2.2.2.2.2.2⟩ : S75)) (wrap64 (x4 + 1))) else (none))) else (none)) else (some x3)
def laws_toCallS.f (k : Nat) (l0 : List (S106)) : Option ((List (S75))) := if 0 ≤ (l0.length : Int) then (if ((l0.length : Int) : Int).toNat ≤ 3518437208883 then (laws_toCallS.l0 k l0 (List.replicate ((l0.length : Int) : Int).toNat z75) 0) else (none)) else (none)
theorem laws_toCallS.mono_l : ∀ k, (∀ y0 y1 y2, LeO (laws_toCallS.l0 k y0 y1 y2) (laws_toCallS.l0 (k + 1) y0 y1 y2))
 | 0 => fun _ _ _ r h => by simp [laws_toCallS.l0] at h
 | k + 1 => by
  have ih0 := laws_toCallS.mono_l k
  ·intro y0 y1 y2
   unfold laws_toCallS.l0
   repeat' first
   | (with_reducible exact ih0 _ _ _)
   | (with_reducible exact LeO.refl _)
   | (with_reducible exact LeO.none _)
   | (with_reducible refine LeO.ite ?_ ?_)
   | (with_reducible refine LeO.bind ?_ (fun _ => ?_))
   | exact ih0 _ _ _
   | exact LeO.none _
   | refine LeO.ite ?_ ?_
   | refine LeO.bind ?_ (fun _ => ?_)
theorem laws_toCallS.mono : ∀ a0 k, LeO (laws_toCallS.f k a0) (laws_toCallS.f (k + 1) a0) := by
 intro a0 k
 have ih0 := laws_toCallS.mono_l k
 unfold laws_toCallS.f
 repeat' first
   | (with_reducible exact ih0 _ _ _)
   | (with_reducible exact LeO.refl _)
   | (with_reducible exact LeO.none _)
   | (with_reducible refine LeO.ite ?_ ?_)
   | (with_reducible refine LeO.bind ?_ (fun _ => ?_))
   | exact ih0 _ _ _
   | exact LeO.none _
   | refine LeO.ite ?_ ?_
   | refine LeO.bind ?_ (fun _ => ?_)
set_option maxHeartbeats 8000000 in
set_option maxRecDepth 100000 in
theorem laws_toCallS.calls (k : Nat) (A0 : Option Addr) (c0 : Nat) (l0 : List (S106)) (r : List (S75)) (w : World) (hr0 : Kd.C k106 w A0 l0.length l0) (hc0 : l0.length ≤ c0) (h : laws_toCallS.f k l0 = some r) :
  Calls Try.prog 66 #[.slice A0 l0.length c0] w fun e w' => ∃ v0_ : Value, e = .returned (v0_) ∧ Kd.R k75 75 w' w.heap.size (fun _ => True) v0_ r ∧ Below w.heap.size w w' := by
 have hu106 := Try.underlying106
 have hu75 := Try.underlying75
 have HR0 := Aside0.mk hr0
 clear hr0 hc0
 have HB := Aside0.mk (Below.refl w.heap.size w)
 have H : (if 0 ≤ (l0.length : Int) then (if ((l0.length : Int) : Int).toNat ≤ 3518437208883 then (laws_toCallS.l0 k l0 (List.replicate ((l0.length : Int) : Int).toNat z75) 0) else (none)) else (none)) = some r := h
 clear h
 by_cases c2 : 0 ≤ (l0.length : Int)
 ·rw [if_pos c2] at H
  have QC := eq_true c2
  have RC : decide (0 ≤ (l0.length : Int)) = true := decide_eq_true c2
  clear c2
  by_cases c3 : ((l0.length : Int) : Int).toNat ≤ 3518437208883
  ·rw [if_pos c3] at H
   have SC := eq_true c3
   have TC : decide (((l0.length : Int) : Int).toNat ≤ 3518437208883) = true := decide_eq_true c3
   clear c3
   obtain ⟨y224, hy224⟩ : ∃ y_ : List (S75), y_ = (List.replicate ((l0.length : Int) : Int).toNat z75) := ⟨_, rfl⟩
   replace H : (laws_toCallS.l0 k l0 y224 0) = some r := by first | (rw [hy224]; with_reducible exact H) | (have H2_ := (Option.bind_some _ _).symm.trans H; rw [hy224]; with_reducible exact H2_) | (have H2_ := (Option.bind_some _ _).symm.trans H; with_reducible exact H2_) | with_reducible exact H | (rw [hy224]; exact H) | exact H
   have Ny224 := Aside0.mk hy224
   clear hy224
   have H' := Aside0.mk H
   clear H
   go_enter Try.func66, Try.ntmps66
   go_wp2_with (first | ((with_reducible refine gate_dst (N := 7) rfl ?_); refine Kd.R_make k75 _ 75 rfl (N := 7) rfl 53 _ _ rfl (l0.length : Int) rfl rfl Try.underlying53 (.agg #[(.int .i64 0), (.int .i64 0), (.int .i64 0), (.int .i64 0), (.int .i64 0), (.int .i64 0), (.int .i64 0), (.int .i64 0), (.int .i64 0), (.bool false)]) 80 info75 rfl (by decide) (by omega) z75 (ok := fun _ => True) (okp := fun _ => True) (k75_mkM _ _ _ z75 ) (fun _ hk => hk) trivial (of_decide_eq_true q3_3) (Nat.le_trans (Nat.mul_le_mul_right _ (of_decide_eq_true q3_3 : (l0.length : Int).toNat ≤ 3518437208883)) (by omega)) (Below.refl _ _) (Nat.le_refl _) ?_; intro lH w4 ho5 hb hg_ hnew_; clear hg_ hnew_; (first | rw [← Ny224.out] at ho5 | (simp only [Int.reduceToNat] at ho5; rw [← Ny224.out] at ho5)); have dA := Aside0.mk (Kd.R_lower ho5 (below_size q3_0)); have eA := Aside0.mk (below_step q3_0 hb); clear HB; have xE := dA; have HB := eA; clear dA eA; clear hb ho5))
   go_loopg [4] k (fun kq v4 w' => ∃ (jA : List (S75)) (aA : Int), v4 = .int .i64 aA ∧ Aside0 (laws_toCallS.l0 kq l0 jA aA = some r) ∧ Aside0 (kq ≤ k) ∧ Aside0 (Kd.R k75 75 w' w.heap.size (fun _ => True) lH jA) ∧ Aside0 (Below w.heap.size w w'))
   case atStart => exact ⟨(y224), (0), q3_13, H', ⟨Nat.le_refl _⟩, ⟨by (with_reducible repeat (first | apply Kd.R_alloc | apply Kd.R_drewN | apply Kd.R_drew)); exact xE.out⟩, ⟨q3_0⟩⟩
   case round =>
    clear H'
    (try clear c2); (try clear QC); (try clear RC); (try clear p2); (try clear c3); (try clear SC); (try clear TC)
    obtain ⟨jA, aA, rfl, HA, HK1, sA, HB⟩ := hrel
    cases gk with
    | zero => exact absurd HA.out (by simp [laws_toCallS.l0])
    | succ k1 =>
     have H := HA.out
     clear HA
     simp only [laws_toCallS.l0] at H
     by_cases c6 : aA < (l0.length : Int)
     ·rw [if_pos c6] at H
      have yB : decide (aA < (l0.length : Int)) = true := decide_eq_true c6
      clear c6
      by_cases c7 : 0 ≤ aA
      ·rw [if_pos c7] at H
       have XC : decide (0 ≤ aA) = true := decide_eq_true c7
       clear c7
       replace H := Option.bind_eq_some_iff.mp H
       obtain ⟨⟨yC, zC, AC, BC, CC, DC, EC, FC, GC, HC⟩, A80, H⟩ := H
       (try dsimp only at H)
       have A8 := Aside0.mk A80
       clear A80
       by_cases c9 : aA < (jA.length : Int)
       ·rw [if_pos c9] at H
        have mH : decide (aA < (jA.length : Int)) = true := decide_eq_true c9
        clear c9
        obtain ⟨y238, hy238⟩ : ∃ y_ : List (S75), y_ = (jA.set (aA : Int).toNat (⟨yC, zC, AC, BC, CC, DC, EC, FC, GC, HC⟩ : S75)) := ⟨_, rfl⟩
        replace H : (laws_toCallS.l0 k1 l0 y238 (wrap64 (aA + 1))) = some r := by first | (rw [hy238]; with_reducible exact H) | (have H2_ := (Option.bind_some _ _).symm.trans H; rw [hy238]; with_reducible exact H2_) | (have H2_ := (Option.bind_some _ _).symm.trans H; with_reducible exact H2_) | with_reducible exact H | (rw [hy238]; exact H) | exact H
        have Ny238 := Aside0.mk hy238
        clear hy238
        have H' := Aside0.mk H
        clear H
        have p227 : 0 ≤ (aA : Int) := of_decide_eq_true q3_3
        have q227 : aA < (l0.length : Int) := of_decide_eq_true q3_3
        obtain ⟨ad227, nH, AB, BB, CB, DB, EB, FB, GB, IB, JB, KB⟩ := at_T106 HR0.out aA p227 q227
        cases nH
        replace AB := (HB.out.cell (World.block_lt_of_cell? w _ AB)).trans AB
        replace BB := (HB.out.cell (World.block_lt_of_cell? w _ BB)).trans BB
        replace CB := (HB.out.cell (World.block_lt_of_cell? w _ CB)).trans CB
        replace DB := (HB.out.cell (World.block_lt_of_cell? w _ DB)).trans DB
        replace EB := (HB.out.cell (World.block_lt_of_cell? w _ EB)).trans EB
        replace FB := (HB.out.cell (World.block_lt_of_cell? w _ FB)).trans FB
        replace GB := (HB.out.cell (World.block_lt_of_cell? w _ GB)).trans GB
        replace IB := (HB.out.cell (World.block_lt_of_cell? w _ IB)).trans IB
        replace JB := (HB.out.cell (World.block_lt_of_cell? w _ JB)).trans JB
        replace KB := (HB.out.cell (World.block_lt_of_cell? w _ KB)).trans KB
        replace p227 := eq_true p227
        replace q227 := eq_true q227
        go_wp2_with (first | ((with_reducible refine gate_callee (f := 91) rfl ?_); refine goesL_ (some 20) rfl rfl Try.func91 (by kernel_rfl) rfl #[.agg #[.int .i64 ((rd_T106 l0 aA).f0), .int .i64 ((rd_T106 l0 aA).f1), .int .i64 ((rd_T106 l0 aA).f2), .int .i64 ((rd_T106 l0 aA).f3), .int .i64 ((rd_T106 l0 aA).f4), .int .i64 ((rd_T106 l0 aA).f5), .int .i64 ((rd_T106 l0 aA).f6), .int .i64 ((rd_T106 l0 aA).f7), .int .i64 ((rd_T106 l0 aA).f8), .bool ((rd_T106 l0 aA).f9)]] rfl q3_5 ?_; (with_reducible refine (laws_toCall.calls ((rd_T106 l0 aA).f0) ((rd_T106 l0 aA).f1) ((rd_T106 l0 aA).f2) ((rd_T106 l0 aA).f3) ((rd_T106 l0 aA).f4) ((rd_T106 l0 aA).f5) ((rd_T106 l0 aA).f6) ((rd_T106 l0 aA).f7) ((rd_T106 l0 aA).f8) ((rd_T106 l0 aA).f9) yC zC AC BC CC DC EC FC GC HC _ A8.out).mono ?_); rintro e FA ⟨rfl, hb⟩; refine ⟨_, rfl, ?_⟩; have dA := Aside0.mk (Kd.R_below q3_12 hb); have eA := Aside0.mk (below_step q3_0 hb); clear sA HB; have sA := dA; have HB := eA; clear dA eA; (try clear hb); (try clear hb2); (try clear hk); (try clear hi); have p10 : 0 ≤ (aA : Int) := of_decide_eq_true q3_3; have q10 : (aA : Int) < ((jA.length : Int) : Int) := of_decide_eq_true q3_3; obtain ⟨go10, SB, VB, UC, gl10, cl10, HG10⟩ := Kd.R_form sA.out (by omega); (first | cases VB | (injection VB with ea_ en_ ec_; (first | subst ea_ | (injection ea_ with ea_; subst ea_)); subst ec_; clear en_)); have GB10 := Aside0.mk UC; have GG10 := Aside0.mk HG10; clear UC gl10 HG10; obtain ⟨ce10, hcl10, hM10, hcc10, hfr10⟩ := Kd.R_elem sA.out z75 (aA : Int) p10 q10; obtain rfl := k75_openM hM10; have JD : FA.cell? ⟨go10, (aA : Int).toNat * 10, none⟩ = some (.int .i64 ((rd_T75 jA aA).f0)) := hcc10 0 _ rfl; have KD : FA.cell? ⟨go10, (aA : Int).toNat * 10 + 1, none⟩ = some (.int .i64 ((rd_T75 jA aA).f1)) := hcc10 1 _ rfl; have LD : FA.cell? ⟨go10, (aA : Int).toNat * 10 + 2, none⟩ = some (.int .i64 ((rd_T75 jA aA).f2)) := hcc10 2 _ rfl; have MD : FA.cell? ⟨go10, (aA : Int).toNat * 10 + 3, none⟩ = some (.int .i64 ((rd_T75 jA aA).f3)) := hcc10 3 _ rfl; have oH : FA.cell? ⟨go10, (aA : Int).toNat * 10 + 4, none⟩ = some (.int .i64 ((rd_T75 jA aA).f4)) := hcc10 4 _ rfl; have pH : FA.cell? ⟨go10, (aA : Int).toNat * 10 + 5, none⟩ = some (.int .i64 ((rd_T75 jA aA).f5)) := hcc10 5 _ rfl; have qH : FA.cell? ⟨go10, (aA : Int).toNat * 10 + 6, none⟩ = some (.int .i64 ((rd_T75 jA aA).f6)) := hcc10 6 _ rfl; have rH : FA.cell? ⟨go10, (aA : Int).toNat * 10 + 7, none⟩ = some (.int .i64 ((rd_T75 jA aA).f7)) := hcc10 7 _ rfl; have sH : FA.cell? ⟨go10, (aA : Int).toNat * 10 + 8, none⟩ = some (.int .i64 ((rd_T75 jA aA).f8)) := hcc10 8 _ rfl; have tH : FA.cell? ⟨go10, (aA : Int).toNat * 10 + 9, none⟩ = some (.bool ((rd_T75 jA aA).f9)) := hcc10 9 _ rfl; have ND : FA.frozen? ⟨go10, (aA : Int).toNat * 10, none⟩ = false := hfr10 0; have OD : FA.frozen? ⟨go10, (aA : Int).toNat * 10 + 1, none⟩ = false := hfr10 1; have PD : FA.frozen? ⟨go10, (aA : Int).toNat * 10 + 2, none⟩ = false := hfr10 2; have QD : FA.frozen? ⟨go10, (aA : Int).toNat * 10 + 3, none⟩ = false := hfr10 3; have uH : FA.frozen? ⟨go10, (aA : Int).toNat * 10 + 4, none⟩ = false := hfr10 4; have vH : FA.frozen? ⟨go10, (aA : Int).toNat * 10 + 5, none⟩ = false := hfr10 5; have wH : FA.frozen? ⟨go10, (aA : Int).toNat * 10 + 6, none⟩ = false := hfr10 6; have xH : FA.frozen? ⟨go10, (aA : Int).toNat * 10 + 7, none⟩ = false := hfr10 7; have yH : FA.frozen? ⟨go10, (aA : Int).toNat * 10 + 8, none⟩ = false := hfr10 8; have zH : FA.frozen? ⟨go10, (aA : Int).toNat * 10 + 9, none⟩ = false := hfr10 9; clear hcl10 hcc10 hfr10 hM10; replace p10 := eq_true p10; replace q10 := eq_true q10; have HX12 := Aside0.mk (show Kd.R k75 75 FA w.heap.size (fun _ => True) (.slice (some ⟨go10, 0, none⟩) jA.length SB) jA from q3_12); obtain ⟨ce12, hcl12, hM12, hcc12, hfr12⟩ := Kd.R_elem HX12.out z75 (aA : Int) (of_decide_eq_true q3_3) (by have h_ : (aA : Int) < ((jA.length : Int) : Int) := of_decide_eq_true q3_3; first | exact h_ | (have e_ := (Kd.R_reads' sA.out).1; omega) | simpa using h_); obtain rfl := k75_openM hM12; have HP12 := Kd.R_seg HX12.out (aA : Int) (of_decide_eq_true q3_3) (by have h_ : (aA : Int) < ((jA.length : Int) : Int) := of_decide_eq_true q3_3; first | exact h_ | (have e_ := (Kd.R_reads' sA.out).1; omega) | simpa using h_) (seg := [.int .i64 yC, .int .i64 zC, .int .i64 AC, .int .i64 BC, .int .i64 CC, .int .i64 DC, .int .i64 EC, .int .i64 FC, .int .i64 GC, .bool HC]) (j := 0) hcl12 hcc12 (show 10 ≤ 10 from by decide) (x' := (⟨yC, zC, AC, BC, CC, DC, EC, FC, GC, HC⟩ : S75)) (k75_mkM _ _ _ (⟨yC, zC, AC, BC, CC, DC, EC, FC, GC, HC⟩ : S75) ) (fun _ hk => hk); have WB := hcc12 0 _ rfl; (try simp only [show (k75).sz = 10 from rfl, Nat.mul_one, Nat.add_zero] at WB); have XB := hfr12 0; (try simp only [show (k75).sz = 10 from rfl, Nat.mul_one, Nat.add_zero] at XB); have YB := hcc12 1 _ rfl; (try simp only [show (k75).sz = 10 from rfl, Nat.mul_one, Nat.add_zero] at YB); have ZB := hfr12 1; (try simp only [show (k75).sz = 10 from rfl, Nat.mul_one, Nat.add_zero] at ZB); have aC := hcc12 2 _ rfl; (try simp only [show (k75).sz = 10 from rfl, Nat.mul_one, Nat.add_zero] at aC); have bC := hfr12 2; (try simp only [show (k75).sz = 10 from rfl, Nat.mul_one, Nat.add_zero] at bC); have cC := hcc12 3 _ rfl; (try simp only [show (k75).sz = 10 from rfl, Nat.mul_one, Nat.add_zero] at cC); have dC := hfr12 3; (try simp only [show (k75).sz = 10 from rfl, Nat.mul_one, Nat.add_zero] at dC); have RD := hcc12 4 _ rfl; (try simp only [show (k75).sz = 10 from rfl, Nat.mul_one, Nat.add_zero] at RD); have SD := hfr12 4; (try simp only [show (k75).sz = 10 from rfl, Nat.mul_one, Nat.add_zero] at SD); have TD := hcc12 5 _ rfl; (try simp only [show (k75).sz = 10 from rfl, Nat.mul_one, Nat.add_zero] at TD); have UD := hfr12 5; (try simp only [show (k75).sz = 10 from rfl, Nat.mul_one, Nat.add_zero] at UD); have VD := hcc12 6 _ rfl; (try simp only [show (k75).sz = 10 from rfl, Nat.mul_one, Nat.add_zero] at VD); have WD := hfr12 6; (try simp only [show (k75).sz = 10 from rfl, Nat.mul_one, Nat.add_zero] at WD); have XD := hcc12 7 _ rfl; (try simp only [show (k75).sz = 10 from rfl, Nat.mul_one, Nat.add_zero] at XD); have YD := hfr12 7; (try simp only [show (k75).sz = 10 from rfl, Nat.mul_one, Nat.add_zero] at YD); have ZD := hcc12 8 _ rfl; (try simp only [show (k75).sz = 10 from rfl, Nat.mul_one, Nat.add_zero] at ZD); have aE := hfr12 8; (try simp only [show (k75).sz = 10 from rfl, Nat.mul_one, Nat.add_zero] at aE); have bE := hcc12 9 _ rfl; (try simp only [show (k75).sz = 10 from rfl, Nat.mul_one, Nat.add_zero] at bE); have cE := hfr12 9; (try simp only [show (k75).sz = 10 from rfl, Nat.mul_one, Nat.add_zero] at cE); clear hcl12 hcc12 hfr12 hM12) | ((with_reducible refine gate_store (t := 75) (p := 21) rfl ?_); refine store_event (t := 75) (p := 21) (v := ?vo_w13) (w1 := ((((((((((FA.setCell ⟨go10, (aA : Int).toNat * 10, none⟩ (.int .i64 yC)).setCell ⟨go10, (aA : Int).toNat * 10 + 1, none⟩ (.int .i64 zC)).setCell ⟨go10, (aA : Int).toNat * 10 + 2, none⟩ (.int .i64 AC)).setCell ⟨go10, (aA : Int).toNat * 10 + 3, none⟩ (.int .i64 BC)).setCell ⟨go10, (aA : Int).toNat * 10 + 4, none⟩ (.int .i64 CC)).setCell ⟨go10, (aA : Int).toNat * 10 + 5, none⟩ (.int .i64 DC)).setCell ⟨go10, (aA : Int).toNat * 10 + 6, none⟩ (.int .i64 EC)).setCell ⟨go10, (aA : Int).toNat * 10 + 7, none⟩ (.int .i64 FC)).setCell ⟨go10, (aA : Int).toNat * 10 + 8, none⟩ (.int .i64 GC)).setCell ⟨go10, (aA : Int).toNat * 10 + 9, none⟩ (.bool HC))) ?hg ?ho ?hn ?hr ?_; (case ho => rfl); (case hg => rfl); (case hn => rfl); (case hr => first | (go_simp; done) | (go_simp; rfl)); intro gD hw; have hg : FA.grownBy gD (some go10) := (by rw [hw]; exact HP12.2); have hp_ : Kd.R k75 75 gD w.heap.size (fun _ => True) (.slice (some ⟨go10, 0, none⟩) jA.length SB) y238 := (by rw [hw, Ny238.out]; exact HP12.1); clear HP12; have dA := Aside0.mk (hp_); have eA := Aside0.mk ((by rw [hw]; exact below_set (below_set (below_set (below_set (below_set (below_set (below_set (below_set (below_set (below_set (HB.out) GB10.out) GB10.out) GB10.out) GB10.out) GB10.out) GB10.out) GB10.out) GB10.out) GB10.out) GB10.out : Below w.heap.size w gD)); clear sA HB; have sA := dA; have HB := eA; clear dA eA; clear hg hw hp_))
        go_roundg k1
        case measure => have := HK1.out; omega
        case rel => exact ⟨(y238), (wrap64 (aA + 1)), q3_13, H', ⟨by have := HK1.out; omega⟩, ⟨q3_12⟩, ⟨q3_0⟩⟩
       ·rw [if_neg c9] at H
        exact absurd H (by simp)
      ·rw [if_neg c7] at H
       exact absurd H (by simp)
     ·rw [if_neg c6] at H
      have yB : decide (aA < (l0.length : Int)) = false := decide_eq_false c6
      clear c6
      obtain rfl := Option.some.inj H
      go_wp2
      go_ret
      exact ⟨_, q3_11, q3_12, q3_0⟩
  ·rw [if_neg c3] at H
   exact absurd H (by simp)
 ·rw [if_neg c2] at H
  exact absurd H (by simp)

/-! ### laws_toThread: function 31 -/
def laws_toThread.f (k : Nat) (IA : List (S106)) (gA : Int) (JA : List Int) (KA : List Int) : Option ((List (S75)) × Int × List Int × List Int) := (laws_toCallS.f k IA).bind fun QA => ((laws_toIntS.f k JA).bind fun jB => ((laws_toIntS.f k KA).bind fun tB => (some (QA, gA, jB, tB))))
theorem laws_toThread.mono : ∀ a0 a1 a2 a3 k, LeO (laws_toThread.f k a0 a1 a2 a3) (laws_toThread.f (k + 1) a0 a1 a2 a3) := by
 intro a0 a1 a2 a3 k
 unfold laws_toThread.f
 repeat' first
   | (with_reducible exact laws_toCallS.mono _ _)
   | (with_reducible exact laws_toIntS.mono _ _)
   | (with_reducible exact LeO.refl _)
   | (with_reducible exact LeO.none _)
   | (with_reducible refine LeO.ite ?_ ?_)
   | (with_reducible refine LeO.bind ?_ (fun _ => ?_))
   | exact laws_toCallS.mono _ _
   | exact laws_toIntS.mono _ _
   | exact LeO.none _
   | refine LeO.ite ?_ ?_
   | refine LeO.bind ?_ (fun _ => ?_)
set_option maxHeartbeats 8000000 in
set_option maxRecDepth 100000 in
theorem laws_toThread.calls (k : Nat) (ZA : Option Addr) (aB : Nat) (IA : List (S106)) (gA : Int) (bB : Option Addr) (cB : Nat) (JA : List Int) (dB : Option Addr) (eB : Nat) (KA : List Int) (r1 : List (S75)) (r2 : Int) (r3 : List Int) (r4 : List Int) (w : World) (yD : Kd.C k106 w ZA IA.length IA) (zD : IA.length ≤ aB) (AD : Kd.C (Kd.int .i64) w bB JA.length JA) (BD : JA.length ≤ cB) (CD : Kd.C (Kd.int .i64) w dB KA.length KA) (DD : KA.length ≤ eB) (h : laws_toThread.f k IA gA JA KA = some (r1, r2, r3, r4)) :
  Calls Try.prog 31 #[.agg #[.slice ZA IA.length aB, .int .i64 gA, .slice bB JA.length cB, .slice dB KA.length eB]] w fun e w' => ∃ v0_ v2_ v3_ : Value, e = .returned (.agg #[v0_, .int .i64 r2, v2_, v3_]) ∧ Kd.R k75 75 w' w.heap.size (fun _ => True) v0_ r1 ∧ Kd.R (Kd.int .i64) 3 w' w.heap.size (fun k_ => some k_ ≠ (v3_ : Value).ownBlock) v2_ r3 ∧ Kd.R (Kd.int .i64) 3 w' w.heap.size (fun k_ => some k_ ≠ (v2_ : Value).ownBlock) v3_ r4 ∧ Below w.heap.size w w' := by
 have hu50 := Try.underlying50
 have hu55 := Try.underlying55
 have yE := Aside0.mk yD
 have zE := Aside0.mk zD
 clear yD zD
 have AE := Aside0.mk AD
 have BE := Aside0.mk BD
 clear AD BD
 have CE := Aside0.mk CD
 have DE := Aside0.mk DD
 clear CD DD
 have HB := Aside0.mk (Below.refl w.heap.size w)
 have H : ((laws_toCallS.f k IA).bind fun QA => ((laws_toIntS.f k JA).bind fun jB => ((laws_toIntS.f k KA).bind fun tB => (some (QA, gA, jB, tB))))) = some (r1, r2, r3, r4) := h
 clear h
 replace H := Option.bind_eq_some_iff.mp H
 obtain ⟨QA, A20, H⟩ := H
 (try dsimp only at H)
 have A2 := Aside0.mk A20
 clear A20
 replace H := Option.bind_eq_some_iff.mp H
 obtain ⟨jB, A30, H⟩ := H
 (try dsimp only at H)
 have A3 := Aside0.mk A30
 clear A30
 replace H := Option.bind_eq_some_iff.mp H
 obtain ⟨tB, A40, H⟩ := H
 (try dsimp only at H)
 have A4 := Aside0.mk A40
 clear A40
 simp only [Option.some.injEq, Prod.mk.injEq] at H
 obtain ⟨rfl, rfl, rfl, rfl⟩ := H
 go_enter Try.func31, Try.ntmps31
 go_wp2_with (first | ((with_reducible refine gate_dst (N := 1) rfl ?_); refine box_event ?hg (N := 1) ?hd (cs := #[.slice ZA IA.length aB, .int .i64 gA, .slice bB JA.length cB, .slice dB KA.length eB]) (t := 50) ?hr ?_; (case hd => rfl); (case hg => rfl); (case hr => first | (go_simp; done) | (go_simp; rfl)); intro nA hg w5 hbox hb; have dA := Aside0.mk (below_step q3_0 hb); have eA := Aside0.mk (hbox); have uA := Aside0.mk ((q3_14 : w.heap.size ≤ nA)); have BA := Aside0.mk ((q3_14 : w.heap.size ≤ nA)); clear HB; have HB := dA; have cA := eA; have ZH := uA; have NC := BA; clear dA eA uA BA; clear hb hbox hg) | ((with_reducible refine gate_dst (N := 2) rfl ?_); refine box_event ?hg (N := 2) ?hd (cs := #[.slice none 0 0, .int .i64 0, .slice none 0 0, .slice none 0 0]) (t := 55) ?hr ?_; (case hd => rfl); (case hg => rfl); (case hr => first | (go_simp; done) | (go_simp; rfl)); intro lA hg w6 hbox hb; have dA := Aside0.mk (blk_below (g := nA) (o := .cells #[.slice ZA IA.length aB, .int .i64 gA, .slice bB JA.length cB, .slice dB KA.length eB] 50 (0, 0)) q3_8 hb); have eA := Aside0.mk (below_step q3_20 hb); have uA := Aside0.mk (hbox); have BA := Aside0.mk ((by rw [hg]; exact (below_size q3_20) : w.heap.size ≤ lA)); have fB := Aside0.mk ((by rw [hg]; exact (below_size q3_20) : w.heap.size ≤ lA)); have qB := Aside0.mk ((by rw [hg]; exact Nat.ne_of_lt (blk_lt (g := nA) (o := .cells #[.slice ZA IA.length aB, .int .i64 gA, .slice bB JA.length cB, .slice dB KA.length eB] 50 (0, 0)) q3_8) : nA ≠ lA)); have uB := Aside0.mk ((by rw [hg]; exact Nat.ne_of_gt (blk_lt (g := nA) (o := .cells #[.slice ZA IA.length aB, .int .i64 gA, .slice bB JA.length cB, .slice dB KA.length eB] 50 (0, 0)) q3_8) : lA ≠ nA)); clear cA HB; have cA := dA; have HB := eA; have tA := uA; have aI := BA; have vD := fB; have IC := qB; have JC := uB; clear dA eA uA BA fB qB uB; clear hb hbox hg) | ((with_reducible refine gate_dst (N := 3) rfl ?_); refine box_event ?hg (N := 3) ?hd (cs := #[.slice none 0 0, .int .i64 0, .slice none 0 0, .slice none 0 0]) (t := 55) ?hr ?_; (case hd => rfl); (case hg => rfl); (case hr => first | (go_simp; done) | (go_simp; rfl)); intro mA hg w7 hbox hb; have dA := Aside0.mk (blk_below (g := nA) (o := .cells #[.slice ZA IA.length aB, .int .i64 gA, .slice bB JA.length cB, .slice dB KA.length eB] 50 (0, 0)) q3_8 hb); have eA := Aside0.mk (blk_below (g := lA) (o := .cells #[.slice none 0 0, .int .i64 0, .slice none 0 0, .slice none 0 0] 55 (0, 0)) q3_18 hb); have uA := Aside0.mk (below_step q3_16 hb); have BA := Aside0.mk (hbox); have fB := Aside0.mk ((by rw [hg]; exact (below_size q3_16) : w.heap.size ≤ mA)); have qB := Aside0.mk ((by rw [hg]; exact (below_size q3_16) : w.heap.size ≤ mA)); have uB := Aside0.mk ((by rw [hg]; exact Nat.ne_of_lt (blk_lt (g := nA) (o := .cells #[.slice ZA IA.length aB, .int .i64 gA, .slice bB JA.length cB, .slice dB KA.length eB] 50 (0, 0)) q3_8) : nA ≠ mA)); have hC := Aside0.mk ((by rw [hg]; exact Nat.ne_of_gt (blk_lt (g := nA) (o := .cells #[.slice ZA IA.length aB, .int .i64 gA, .slice bB JA.length cB, .slice dB KA.length eB] 50 (0, 0)) q3_8) : mA ≠ nA)); have uE := Aside0.mk ((by rw [hg]; exact Nat.ne_of_lt (blk_lt (g := lA) (o := .cells #[.slice none 0 0, .int .i64 0, .slice none 0 0, .slice none 0 0] 55 (0, 0)) q3_18) : lA ≠ mA)); have vE := Aside0.mk ((by rw [hg]; exact Nat.ne_of_gt (blk_lt (g := lA) (o := .cells #[.slice none 0 0, .int .i64 0, .slice none 0 0, .slice none 0 0] 55 (0, 0)) q3_18) : mA ≠ lA)); clear cA tA HB; have cA := dA; have tA := eA; have HB := uA; have bA := BA; have bI := fB; have rE := qB; have oB := uB; have KC := hC; have WA := uE; have LC := vE; clear dA eA uA BA fB qB uB hC uE vE; clear hb hbox hg; have PG := IC.out; have QG := JC.out; have BI := oB.out; have CI := KC.out; have YC : w7.cell? ⟨nA, 0, none⟩ = some (.slice ZA IA.length aB) := (blk_cell cA.out 0).trans rfl; have ZC : w7.cell? ⟨nA, 1, none⟩ = some (.int .i64 gA) := (blk_cell cA.out 1).trans rfl; have aD : w7.cell? ⟨nA, 2, none⟩ = some (.slice bB JA.length cB) := (blk_cell cA.out 2).trans rfl; have bD : w7.cell? ⟨nA, 3, none⟩ = some (.slice dB KA.length eB) := (blk_cell cA.out 3).trans rfl; have cD := blk_frozen cA.out 0; have dD := blk_frozen cA.out 1; have eD := blk_frozen cA.out 2; have fD := blk_frozen cA.out 3) | ((with_reducible refine gate_callee (f := 66) rfl ?_); refine goesL_ (some 6) rfl rfl Try.func66 (by kernel_rfl) rfl #[.slice ZA IA.length aB] rfl q3_5 ?_; (with_reducible refine (laws_toCallS.calls k _ _ IA QA _ ?side1 ?side2 A2.out).mono ?_); (case side1 => repeat (first | exact (Kd.C_below yE.out HB.out) | (with_reducible refine Kd.C_alloc ?_ _) | (with_reducible refine Kd.C_drewN ?_ _) | (with_reducible refine Kd.C_drew ?_))); (case side2 => exact zE.out); rintro e FA ⟨DI, rfl, ho0, hb⟩; refine ⟨_, rfl, ?_⟩; have dA := Aside0.mk (Kd.R_lower ho0 (below_size q3_2)); have eA := Aside0.mk (blk_below (g := nA) (o := .cells #[.slice ZA IA.length aB, .int .i64 gA, .slice bB JA.length cB, .slice dB KA.length eB] 50 (0, 0)) q3_8 hb); have uA := Aside0.mk (blk_below (g := lA) (o := .cells #[.slice none 0 0, .int .i64 0, .slice none 0 0, .slice none 0 0] 55 (0, 0)) q3_18 hb); have BA := Aside0.mk (blk_below (g := mA) (o := .cells #[.slice none 0 0, .int .i64 0, .slice none 0 0, .slice none 0 0] 55 (0, 0)) (by (with_reducible repeat (first | refine blk_drewN ?_ _ | refine blk_drew ?_ | refine blk_alloc ?_ _)); exact bA.out) hb); have fB := Aside0.mk (below_step q3_2 hb); clear cA tA bA HB; have rB := dA; have cA := eA; have tA := uA; have bA := BA; have HB := fB; clear dA eA uA BA fB; (try clear hb); (try clear hb2); (try clear hk); (try clear hi); (try clear ho0); obtain ⟨TA, UA, dE⟩ := Kd.R_slice rB.out; subst dE; have cI := LC.out; have dI := WA.out; have fF : FA.cell? ⟨mA, 0, none⟩ = some (.slice none 0 0) := (blk_cell bA.out 0).trans rfl; have gF : FA.cell? ⟨mA, 1, none⟩ = some (.int .i64 0) := (blk_cell bA.out 1).trans rfl; have hF : FA.cell? ⟨mA, 2, none⟩ = some (.slice none 0 0) := (blk_cell bA.out 2).trans rfl; have iF : FA.cell? ⟨mA, 3, none⟩ = some (.slice none 0 0) := (blk_cell bA.out 3).trans rfl; have jF := blk_frozen bA.out 0; have kF := blk_frozen bA.out 1; have lF := blk_frozen bA.out 2; have mF := blk_frozen bA.out 3; have iC : FA.cell? ⟨nA, 0, none⟩ = some (.slice ZA IA.length aB) := (blk_cell cA.out 0).trans rfl; have nF : FA.cell? ⟨nA, 1, none⟩ = some (.int .i64 gA) := (blk_cell cA.out 1).trans rfl; have oF : FA.cell? ⟨nA, 2, none⟩ = some (.slice bB JA.length cB) := (blk_cell cA.out 2).trans rfl; have pF : FA.cell? ⟨nA, 3, none⟩ = some (.slice dB KA.length eB) := (blk_cell cA.out 3).trans rfl; have jC := blk_frozen cA.out 0; have qF := blk_frozen cA.out 1; have rF := blk_frozen cA.out 2; have sF := blk_frozen cA.out 3) | ((with_reducible refine gate_callee (f := 46) rfl ?_); refine goesL_ (some 13) rfl rfl Try.func46 (by kernel_rfl) rfl #[.slice bB JA.length cB] rfl q3_5 ?_; (with_reducible refine (laws_toIntS.calls k _ _ JA jB _ ?side1 ?side2 A3.out).mono ?_); (case side1 => exact Kd.C_below AE.out q3_2); (case side2 => exact BE.out); rintro e ED ⟨EI, rfl, ho0, hb⟩; refine ⟨_, rfl, ?_⟩; have dA := Aside0.mk (Kd.R_below (by (with_reducible repeat (first | apply Kd.R_alloc | apply Kd.R_drewN | apply Kd.R_drew)); exact (Kd.R_mono (Kd.R_far (p := ⟨mA, 1, none⟩) (Kd.R_far (p := ⟨mA, 0, none⟩) (Kd.R_types rB.out bA.out (by decide)) (fun _ hk => hk.2) (.slice TA QA.length UA)) (fun _ hk => hk.2) (.int .i64 gA)) (fun _ h_ => h_.1))) hb); have eA := Aside0.mk (Kd.R_lower ho0 (below_size q3_2)); have uA := Aside0.mk (blk_below (g := nA) (o := .cells #[.slice ZA IA.length aB, .int .i64 gA, .slice bB JA.length cB, .slice dB KA.length eB] 50 (0, 0)) (by (iterate 2 ((with_reducible repeat (first | refine blk_drewN ?_ _ | refine blk_drew ?_ | refine blk_alloc ?_ _)); refine blk_far ?_ oB.out _)); (with_reducible repeat (first | refine blk_drewN ?_ _ | refine blk_drew ?_ | refine blk_alloc ?_ _)); exact cA.out) hb); have BA := Aside0.mk (blk_below (g := lA) (o := .cells #[.slice none 0 0, .int .i64 0, .slice none 0 0, .slice none 0 0] 55 (0, 0)) (by (iterate 2 ((with_reducible repeat (first | refine blk_drewN ?_ _ | refine blk_drew ?_ | refine blk_alloc ?_ _)); refine blk_far ?_ WA.out _)); (with_reducible repeat (first | refine blk_drewN ?_ _ | refine blk_drew ?_ | refine blk_alloc ?_ _)); exact tA.out) hb); have fB := Aside0.mk (blk_below (g := mA) (o := .cells #[.slice TA QA.length UA, .int .i64 gA, .slice none 0 0, .slice none 0 0] 55 (0, 0)) (by (with_reducible repeat (first | refine blk_drewN ?_ _ | refine blk_drew ?_ | refine blk_alloc ?_ _)); refine blk_put (cs := #[.slice TA QA.length UA, .int .i64 0, .slice none 0 0, .slice none 0 0]) ?_ 1 _ rfl; (with_reducible repeat (first | refine blk_drewN ?_ _ | refine blk_drew ?_ | refine blk_alloc ?_ _)); refine blk_put (cs := #[.slice none 0 0, .int .i64 0, .slice none 0 0, .slice none 0 0]) ?_ 0 _ rfl; (with_reducible repeat (first | refine blk_drewN ?_ _ | refine blk_drew ?_ | refine blk_alloc ?_ _)); exact bA.out) hb); have qB := Aside0.mk (below_step q3_2 hb); clear rB cA tA bA HB; have rB := dA; have RB := eA; have cA := uA; have tA := BA; have bA := fB; have HB := qB; clear dA eA uA BA fB qB; (try clear hb); (try clear hb2); (try clear hk); (try clear hi); (try clear ho0); obtain ⟨wB, xB, AH⟩ := Kd.R_slice RB.out; subst AH; have tF : ED.cell? ⟨mA, 0, none⟩ = some (.slice TA QA.length UA) := (blk_cell bA.out 0).trans rfl; have uF : ED.cell? ⟨mA, 1, none⟩ = some (.int .i64 gA) := (blk_cell bA.out 1).trans rfl; have vF : ED.cell? ⟨mA, 2, none⟩ = some (.slice none 0 0) := (blk_cell bA.out 2).trans rfl; have wF : ED.cell? ⟨mA, 3, none⟩ = some (.slice none 0 0) := (blk_cell bA.out 3).trans rfl; have xF := blk_frozen bA.out 0; have yF := blk_frozen bA.out 1; have zF := blk_frozen bA.out 2; have AF := blk_frozen bA.out 3; have BF : ED.cell? ⟨nA, 0, none⟩ = some (.slice ZA IA.length aB) := (blk_cell cA.out 0).trans rfl; have CF : ED.cell? ⟨nA, 1, none⟩ = some (.int .i64 gA) := (blk_cell cA.out 1).trans rfl; have DF : ED.cell? ⟨nA, 2, none⟩ = some (.slice bB JA.length cB) := (blk_cell cA.out 2).trans rfl; have EF : ED.cell? ⟨nA, 3, none⟩ = some (.slice dB KA.length eB) := (blk_cell cA.out 3).trans rfl; have FF := blk_frozen cA.out 0; have GF := blk_frozen cA.out 1; have HF := blk_frozen cA.out 2; have IF := blk_frozen cA.out 3) | ((with_reducible refine gate_callee (f := 46) rfl ?_); refine goesL_ (some 17) rfl rfl Try.func46 (by kernel_rfl) rfl #[.slice dB KA.length eB] rfl q3_5 ?_; (with_reducible refine (laws_toIntS.calls k _ _ KA tB _ ?side1 ?side2 A4.out).mono ?_); (case side1 => exact Kd.C_below CE.out q3_2); (case side2 => exact DE.out); rintro e FD ⟨FI, rfl, ho0, hb⟩; refine ⟨_, rfl, ?_⟩; have dA := Aside0.mk (Kd.R_below (by (with_reducible repeat (first | apply Kd.R_alloc | apply Kd.R_drewN | apply Kd.R_drew)); exact (Kd.R_mono (Kd.R_far (p := ⟨mA, 2, none⟩) (Kd.R_types rB.out bA.out (by decide)) (fun _ hk => hk.2) (.slice wB jB.length xB)) (fun _ h_ => h_.1))) hb); have eA := Aside0.mk (Kd.R_elder' q3_23 (Kd.R_base ho0) hb); have uA := Aside0.mk (Kd.R_lower (Kd.R_new' ho0 (Kd.R_lt q3_23)) (below_size q3_2)); have BA := Aside0.mk (blk_below (g := nA) (o := .cells #[.slice ZA IA.length aB, .int .i64 gA, .slice bB JA.length cB, .slice dB KA.length eB] 50 (0, 0)) (by (with_reducible repeat (first | refine blk_drewN ?_ _ | refine blk_drew ?_ | refine blk_alloc ?_ _)); refine blk_far ?_ oB.out _; (with_reducible repeat (first | refine blk_drewN ?_ _ | refine blk_drew ?_ | refine blk_alloc ?_ _)); exact cA.out) hb); have fB := Aside0.mk (blk_below (g := lA) (o := .cells #[.slice none 0 0, .int .i64 0, .slice none 0 0, .slice none 0 0] 55 (0, 0)) (by (with_reducible repeat (first | refine blk_drewN ?_ _ | refine blk_drew ?_ | refine blk_alloc ?_ _)); refine blk_far ?_ WA.out _; (with_reducible repeat (first | refine blk_drewN ?_ _ | refine blk_drew ?_ | refine blk_alloc ?_ _)); exact tA.out) hb); have qB := Aside0.mk (blk_below (g := mA) (o := .cells #[.slice TA QA.length UA, .int .i64 gA, .slice wB jB.length xB, .slice none 0 0] 55 (0, 0)) (by (with_reducible repeat (first | refine blk_drewN ?_ _ | refine blk_drew ?_ | refine blk_alloc ?_ _)); refine blk_put (cs := #[.slice TA QA.length UA, .int .i64 gA, .slice none 0 0, .slice none 0 0]) ?_ 2 _ rfl; (with_reducible repeat (first | refine blk_drewN ?_ _ | refine blk_drew ?_ | refine blk_alloc ?_ _)); exact bA.out) hb); have uB := Aside0.mk (below_step q3_2 hb); clear rB RB cA tA bA HB; have rB := dA; have RB := eA; have GD := uA; have cA := BA; have tA := fB; have bA := qB; have HB := uB; clear dA eA uA BA fB qB uB; (try clear hb); (try clear hb2); (try clear hk); (try clear hi); (try clear ho0); obtain ⟨eC, fC, BH⟩ := Kd.R_slice GD.out; subst BH; have JF : FD.cell? ⟨mA, 0, none⟩ = some (.slice TA QA.length UA) := (blk_cell bA.out 0).trans rfl; have KF : FD.cell? ⟨mA, 1, none⟩ = some (.int .i64 gA) := (blk_cell bA.out 1).trans rfl; have LF : FD.cell? ⟨mA, 2, none⟩ = some (.slice wB jB.length xB) := (blk_cell bA.out 2).trans rfl; have MF : FD.cell? ⟨mA, 3, none⟩ = some (.slice none 0 0) := (blk_cell bA.out 3).trans rfl; have NF := blk_frozen bA.out 0; have OF := blk_frozen bA.out 1; have PF := blk_frozen bA.out 2; have QF := blk_frozen bA.out 3; have RF : FD.cell? ⟨lA, 0, none⟩ = some (.slice none 0 0) := (blk_cell tA.out 0).trans rfl; have SF : FD.cell? ⟨lA, 1, none⟩ = some (.int .i64 0) := (blk_cell tA.out 1).trans rfl; have TF : FD.cell? ⟨lA, 2, none⟩ = some (.slice none 0 0) := (blk_cell tA.out 2).trans rfl; have UF : FD.cell? ⟨lA, 3, none⟩ = some (.slice none 0 0) := (blk_cell tA.out 3).trans rfl; have VF := blk_frozen tA.out 0; have WF := blk_frozen tA.out 1; have XF := blk_frozen tA.out 2; have YF := blk_frozen tA.out 3))
 refine bodyPost_ret (results_cell_row rfl _ _ lA 55 #[.slice TA QA.length UA, .int .i64 gA, .slice wB jB.length xB, .slice eC tB.length fC] (0, 0) _ rfl (by (with_reducible repeat (first | refine blk_drewN ?_ _ | refine blk_drew ?_ | refine blk_alloc ?_ _)); refine blk_put (cs := #[.slice TA QA.length UA, .int .i64 gA, .slice wB jB.length xB, .slice none 0 0]) ?_ 3 _ rfl; (with_reducible repeat (first | refine blk_drewN ?_ _ | refine blk_drew ?_ | refine blk_alloc ?_ _)); refine blk_put (cs := #[.slice TA QA.length UA, .int .i64 gA, .slice none 0 0, .slice none 0 0]) ?_ 2 _ rfl; (with_reducible repeat (first | refine blk_drewN ?_ _ | refine blk_drew ?_ | refine blk_alloc ?_ _)); refine blk_put (cs := #[.slice TA QA.length UA, .int .i64 0, .slice none 0 0, .slice none 0 0]) ?_ 1 _ rfl; (with_reducible repeat (first | refine blk_drewN ?_ _ | refine blk_drew ?_ | refine blk_alloc ?_ _)); refine blk_put (cs := #[.slice none 0 0, .int .i64 0, .slice none 0 0, .slice none 0 0]) ?_ 0 _ rfl; (with_reducible repeat (first | refine blk_drewN ?_ _ | refine blk_drew ?_ | refine blk_alloc ?_ _)); refine blk_far ?_ WA.out _; (with_reducible repeat (first | refine blk_drewN ?_ _ | refine blk_drew ?_ | refine blk_alloc ?_ _)); exact tA.out) Try.underlying55 rfl (by kernel_rfl)) rfl ?_
 exact ⟨_, _, _, q3_11, by (with_reducible repeat (first | apply Kd.R_alloc | apply Kd.R_drewN | apply Kd.R_drew)); exact Kd.R_mono (Kd.R_far (p := ⟨lA, 3, none⟩) (Kd.R_far (p := ⟨lA, 2, none⟩) (Kd.R_far (p := ⟨lA, 1, none⟩) (Kd.R_far (p := ⟨lA, 0, none⟩) (Kd.R_far (p := ⟨mA, 3, none⟩) (Kd.R_types (Kd.R_types rB.out bA.out (by decide)) tA.out (by decide)) (fun _ hk => hk.1.2) (.slice eC tB.length fC)) (fun _ hk => hk.2) (.slice TA QA.length UA)) (fun _ hk => hk.2) (.int .i64 gA)) (fun _ hk => hk.2) (.slice wB jB.length xB)) (fun _ hk => hk.2) (.slice eC tB.length fC)) (fun _ hk => trivial), by (with_reducible repeat (first | apply Kd.R_alloc | apply Kd.R_drewN | apply Kd.R_drew)); exact Kd.R_mono (Kd.R_far (p := ⟨lA, 3, none⟩) (Kd.R_far (p := ⟨lA, 2, none⟩) (Kd.R_far (p := ⟨lA, 1, none⟩) (Kd.R_far (p := ⟨lA, 0, none⟩) (Kd.R_far (p := ⟨mA, 3, none⟩) (Kd.R_types (Kd.R_types RB.out bA.out (by decide)) tA.out (by decide)) (fun _ hk => hk.1.2) (.slice eC tB.length fC)) (fun _ hk => hk.2) (.slice TA QA.length UA)) (fun _ hk => hk.2) (.int .i64 gA)) (fun _ hk => hk.2) (.slice wB jB.length xB)) (fun _ hk => hk.2) (.slice eC tB.length fC)) (fun _ hk => hk.1.1.2), by (with_reducible repeat (first | apply Kd.R_alloc | apply Kd.R_drewN | apply Kd.R_drew)); exact Kd.R_mono (Kd.R_far (p := ⟨lA, 3, none⟩) (Kd.R_far (p := ⟨lA, 2, none⟩) (Kd.R_far (p := ⟨lA, 1, none⟩) (Kd.R_far (p := ⟨lA, 0, none⟩) (Kd.R_far (p := ⟨mA, 3, none⟩) (Kd.R_types (Kd.R_types GD.out bA.out (by decide)) tA.out (by decide)) (fun _ hk => hk.1.2) (.slice eC tB.length fC)) (fun _ hk => hk.2) (.slice TA QA.length UA)) (fun _ hk => hk.2) (.int .i64 gA)) (fun _ hk => hk.2) (.slice wB jB.length xB)) (fun _ hk => hk.2) (.slice eC tB.length fC)) (fun _ hk => hk.1.1.2), q3_2⟩

/-! ### laws_toThreadS: function 13 -/
def laws_toThreadS.l0 : Nat → List (S50) → List (S55) → Int → Option ((List (S55)))
 | 0, _, _, _ => none
 | k + 1, x0, x3, x4 => if x4 < (x0.length : Int) then (if 0 ≤ x4 then ((laws_toThread.f k ((rd_T50 x0 x4).f0) ((rd_T50 x0 x4).f1) ((rd_T50 x0 x4).f2) ((rd_T50 x0 x4).f3)).bind fun kC => (if x4 < (x3.length : Int) then (laws_toThreadS.l0 k x0 (x3.set (x4 : Int).toNat (⟨kC.1, kC.2.1, kC.2.2.1, kC.2.2.2⟩ : S55)) (wrap64 (x4 + 1))) else (none))) else (none)) else (some x3)
def laws_toThreadS.f (k : Nat) (l0 : List (S50)) : Option ((List (S55))) := if 0 ≤ (l0.length : Int) then (if ((l0.length : Int) : Int).toNat ≤ 3518437208883 then (laws_toThreadS.l0 k l0 (List.replicate ((l0.length : Int) : Int).toNat z55) 0) else (none)) else (none)
theorem laws_toThreadS.mono_l : ∀ k, (∀ y0 y1 y2, LeO (laws_toThreadS.l0 k y0 y1 y2) (laws_toThreadS.l0 (k + 1) y0 y1 y2))
 | 0 => fun _ _ _ r h => by simp [laws_toThreadS.l0] at h
 | k + 1 => by
  have ih0 := laws_toThreadS.mono_l k
  ·intro y0 y1 y2
   unfold laws_toThreadS.l0
   repeat' first
   | (with_reducible exact ih0 _ _ _)
   | (with_reducible exact laws_toThread.mono _ _ _ _ _)
   | (with_reducible exact LeO.refl _)
   | (with_reducible exact LeO.none _)
   | (with_reducible refine LeO.ite ?_ ?_)
   | (with_reducible refine LeO.bind ?_ (fun _ => ?_))
   | exact ih0 _ _ _
   | exact laws_toThread.mono _ _ _ _ _
   | exact LeO.none _
   | refine LeO.ite ?_ ?_
   | refine LeO.bind ?_ (fun _ => ?_)
theorem laws_toThreadS.mono : ∀ a0 k, LeO (laws_toThreadS.f k a0) (laws_toThreadS.f (k + 1) a0) := by
 intro a0 k
 have ih0 := laws_toThreadS.mono_l k
 unfold laws_toThreadS.f
 repeat' first
   | (with_reducible exact ih0 _ _ _)
   | (with_reducible exact laws_toThread.mono _ _ _ _ _)
   | (with_reducible exact LeO.refl _)
   | (with_reducible exact LeO.none _)
   | (with_reducible refine LeO.ite ?_ ?_)
   | (with_reducible refine LeO.bind ?_ (fun _ => ?_))
   | exact ih0 _ _ _
   | exact laws_toThread.mono _ _ _ _ _
   | exact LeO.none _
   | refine LeO.ite ?_ ?_
   | refine LeO.bind ?_ (fun _ => ?_)
set_option maxHeartbeats 8000000 in
set_option maxRecDepth 100000 in
theorem laws_toThreadS.calls (k : Nat) (A0 : Option Addr) (c0 : Nat) (l0 : List (S50)) (r : List (S55)) (w : World) (hr0 : Kd.C k50 w A0 l0.length l0) (hc0 : l0.length ≤ c0) (h : laws_toThreadS.f k l0 = some r) :
  Calls Try.prog 13 #[.slice A0 l0.length c0] w fun e w' => ∃ v0_ : Value, e = .returned (v0_) ∧ Kd.S k55 55 w' w.heap.size (fun _ => True) v0_ r ∧ Below w.heap.size w w' := by
 have hu50 := Try.underlying50
 have hu55 := Try.underlying55
 have HR0 := Aside0.mk hr0
 clear hr0 hc0
 have HB := Aside0.mk (Below.refl w.heap.size w)
 have H : (if 0 ≤ (l0.length : Int) then (if ((l0.length : Int) : Int).toNat ≤ 3518437208883 then (laws_toThreadS.l0 k l0 (List.replicate ((l0.length : Int) : Int).toNat z55) 0) else (none)) else (none)) = some r := h
 clear h
 by_cases c2 : 0 ≤ (l0.length : Int)
 ·rw [if_pos c2] at H
  have QC := eq_true c2
  have RC : decide (0 ≤ (l0.length : Int)) = true := decide_eq_true c2
  clear c2
  by_cases c3 : ((l0.length : Int) : Int).toNat ≤ 3518437208883
  ·rw [if_pos c3] at H
   have SC := eq_true c3
   have TC : decide (((l0.length : Int) : Int).toNat ≤ 3518437208883) = true := decide_eq_true c3
   clear c3
   obtain ⟨y251, hy251⟩ : ∃ y_ : List (S55), y_ = (List.replicate ((l0.length : Int) : Int).toNat z55) := ⟨_, rfl⟩
   replace H : (laws_toThreadS.l0 k l0 y251 0) = some r := by first | (rw [hy251]; with_reducible exact H) | (have H2_ := (Option.bind_some _ _).symm.trans H; rw [hy251]; with_reducible exact H2_) | (have H2_ := (Option.bind_some _ _).symm.trans H; with_reducible exact H2_) | with_reducible exact H | (rw [hy251]; exact H) | exact H
   have Ny251 := Aside0.mk hy251
   clear hy251
   have H' := Aside0.mk H
   clear H
   go_enter Try.func13, Try.ntmps13
   go_wp2_with (first | ((with_reducible refine gate_dst (N := 7) rfl ?_); refine Kd.S_make k55 _ 55 rfl (N := 7) rfl 27 _ _ rfl (l0.length : Int) rfl rfl Try.underlying27 (.agg #[(.slice none 0 0), (.int .i64 0), (.slice none 0 0), (.slice none 0 0)]) 80 info55 rfl (by decide) (by omega) z55 (ok := fun _ => True) (okp := fun _ => True) (k55_mkM _ _ _ z55 (Kd.R_nil _ _ _ _ _) (Kd.R_nil _ _ _ _ _) (Kd.R_nil _ _ _ _ _) (fun k_ hk_ => by simp [Value.ownBlock] at hk_)) (fun _ hk => hk) trivial (of_decide_eq_true q3_3) (Nat.le_trans (Nat.mul_le_mul_right _ (of_decide_eq_true q3_3 : (l0.length : Int).toNat ≤ 3518437208883)) (by omega)) (Below.refl _ _) (Nat.le_refl _) ?_; intro CH w4 ho5 hb hg_ hnew_; clear hg_ hnew_; (first | rw [← Ny251.out] at ho5 | (simp only [Int.reduceToNat] at ho5; rw [← Ny251.out] at ho5)); have dA := Aside0.mk (Kd.S_lower ho5 (below_size q3_0)); have eA := Aside0.mk (below_step q3_0 hb); clear HB; have EE := dA; have HB := eA; clear dA eA; clear hb ho5))
   go_loopg [4] k (fun kq v4 w' => ∃ (jA : List (S55)) (aA : Int), v4 = .int .i64 aA ∧ Aside0 (laws_toThreadS.l0 kq l0 jA aA = some r) ∧ Aside0 (kq ≤ k) ∧ Aside0 (Kd.S k55 55 w' w.heap.size (fun _ => True) CH jA) ∧ Aside0 (Below w.heap.size w w'))
   case atStart => exact ⟨(y251), (0), q3_13, H', ⟨Nat.le_refl _⟩, ⟨by (with_reducible repeat (first | apply Kd.S_alloc | apply Kd.S_drewN | apply Kd.S_drew)); exact EE.out⟩, ⟨q3_0⟩⟩
   case round =>
    clear H'
    (try clear c1); (try clear c2); (try clear QC); (try clear RC); (try clear p2); (try clear c3); (try clear SC); (try clear TC)
    obtain ⟨jA, aA, rfl, HA, HK1, sA, HB⟩ := hrel
    cases gk with
    | zero => exact absurd HA.out (by simp [laws_toThreadS.l0])
    | succ k1 =>
     have H := HA.out
     clear HA
     simp only [laws_toThreadS.l0] at H
     by_cases c6 : aA < (l0.length : Int)
     ·rw [if_pos c6] at H
      have yB : decide (aA < (l0.length : Int)) = true := decide_eq_true c6
      clear c6
      by_cases c7 : 0 ≤ aA
      ·rw [if_pos c7] at H
       have XC : decide (0 ≤ aA) = true := decide_eq_true c7
       clear c7
       replace H := Option.bind_eq_some_iff.mp H
       obtain ⟨⟨hD, MC, iD, jD⟩, A80, H⟩ := H
       (try dsimp only at H)
       have A8 := Aside0.mk A80
       clear A80
       by_cases c9 : aA < (jA.length : Int)
       ·rw [if_pos c9] at H
        have mH : decide (aA < (jA.length : Int)) = true := decide_eq_true c9
        clear c9
        obtain ⟨y265, hy265⟩ : ∃ y_ : List (S55), y_ = (jA.set (aA : Int).toNat (⟨hD, MC, iD, jD⟩ : S55)) := ⟨_, rfl⟩
        replace H : (laws_toThreadS.l0 k1 l0 y265 (wrap64 (aA + 1))) = some r := by first | (rw [hy265]; with_reducible exact H) | (have H2_ := (Option.bind_some _ _).symm.trans H; rw [hy265]; with_reducible exact H2_) | (have H2_ := (Option.bind_some _ _).symm.trans H; with_reducible exact H2_) | with_reducible exact H | (rw [hy265]; exact H) | exact H
        have Ny265 := Aside0.mk hy265
        clear hy265
        have H' := Aside0.mk H
        clear H
        have p254 : 0 ≤ (aA : Int) := of_decide_eq_true q3_3
        have q254 : aA < (l0.length : Int) := of_decide_eq_true q3_3
        obtain ⟨ad254, eE, fE, gE, hE, iE, jE, DH, LB, MB, NB, OB, lC, mC, nC, oC, pC, qC⟩ := at_T50 HR0.out aA p254 q254
        cases DH
        replace LB := (HB.out.cell (World.block_lt_of_cell? w _ LB)).trans LB
        replace MB := (HB.out.cell (World.block_lt_of_cell? w _ MB)).trans MB
        replace NB := (HB.out.cell (World.block_lt_of_cell? w _ NB)).trans NB
        replace OB := (HB.out.cell (World.block_lt_of_cell? w _ OB)).trans OB
        have kD := Aside0.mk mC
        have lD := Aside0.mk lC
        clear mC lC
        have mD := Aside0.mk oC
        have nD := Aside0.mk nC
        clear oC nC
        have oD := Aside0.mk qC
        have pD := Aside0.mk pC
        clear qC pC
        replace p254 := eq_true p254
        replace q254 := eq_true q254
        go_wp2_with (first | ((with_reducible refine gate_callee (f := 31) rfl ?_); refine goesL_ (some 20) rfl rfl Try.func31 (by kernel_rfl) rfl #[.agg #[.slice eE ((rd_T50 l0 aA).f0).length fE, .int .i64 ((rd_T50 l0 aA).f1), .slice gE ((rd_T50 l0 aA).f2).length hE, .slice iE ((rd_T50 l0 aA).f3).length jE]] rfl q3_5 ?_; (with_reducible refine (laws_toThread.calls k1 _ _ ((rd_T50 l0 aA).f0) ((rd_T50 l0 aA).f1) _ _ ((rd_T50 l0 aA).f2) _ _ ((rd_T50 l0 aA).f3) hD MC iD jD _ ?side1 ?side2 ?side3 ?side4 ?side5 ?side6 A8.out).mono ?_); (case side1 => repeat (first | exact (Kd.C_below kD.out HB.out) | (with_reducible refine Kd.C_alloc ?_ _) | (with_reducible refine Kd.C_drewN ?_ _) | (with_reducible refine Kd.C_drew ?_))); (case side2 => exact lD.out); (case side3 => repeat (first | exact (Kd.C_below mD.out HB.out) | (with_reducible refine Kd.C_alloc ?_ _) | (with_reducible refine Kd.C_drewN ?_ _) | (with_reducible refine Kd.C_drew ?_))); (case side4 => exact nD.out); (case side5 => repeat (first | exact (Kd.C_below oD.out HB.out) | (with_reducible refine Kd.C_alloc ?_ _) | (with_reducible refine Kd.C_drewN ?_ _) | (with_reducible refine Kd.C_drew ?_))); (case side6 => exact pD.out); rintro e FA ⟨qD, rD, sD, rfl, ho0, ho1, ho2, hb⟩; refine ⟨_, rfl, ?_⟩; have dA := Aside0.mk (Kd.S_mono (Kd.S_told (Kd.S_told (Kd.S_told (Kd.S_old q3_27 hb) (Kd.R_base ho0)) (Kd.R_base ho1)) (Kd.R_base ho2)) (fun _ h_ => h_.1)); have eA := Aside0.mk (Kd.R_lower ho0 (below_size q3_0)); have uA := Aside0.mk (Kd.R_lower ho1 (below_size q3_0)); have BA := Aside0.mk (Kd.R_lower ho2 (below_size q3_0)); have fB := Aside0.mk (below_step q3_0 hb); clear sA HB; have sA := dA; have rC := eA; have sC := uA; have TB := BA; have HB := fB; clear dA eA uA BA fB; (try clear hb); (try clear hb2); (try clear hk); (try clear hi); (try clear ho0); (try clear ho1); (try clear ho2); have p10 : 0 ≤ (aA : Int) := of_decide_eq_true q3_3; have q10 : (aA : Int) < ((jA.length : Int) : Int) := of_decide_eq_true q3_3; obtain ⟨go10, SB, VB, UC, gl10, cl10, HG10⟩ := Kd.S_form sA.out (by omega); (first | cases VB | (injection VB with ea_ en_ ec_; (first | subst ea_ | (injection ea_ with ea_; subst ea_)); subst ec_; clear en_)); have GB10 := Aside0.mk UC; have GG10 := Aside0.mk HG10; clear UC gl10 HG10; obtain ⟨_, ce10, hcl10, hM10, hcc10, hfr10, _, _⟩ := Kd.S_elem sA.out z55 (aA : Int) p10 q10; obtain ⟨ve10_0, ve10_2, ve10_3, rfl, ge10_0, ge10_2, ge10_3⟩ := k55_openM hM10; have JD : FA.cell? ⟨go10, (aA : Int).toNat * 4, none⟩ = some (ve10_0) := hcc10 0 _ rfl; have KD : FA.cell? ⟨go10, (aA : Int).toNat * 4 + 1, none⟩ = some (.int .i64 ((rd_T55 jA aA).f1)) := hcc10 1 _ rfl; have LD : FA.cell? ⟨go10, (aA : Int).toNat * 4 + 2, none⟩ = some (ve10_2) := hcc10 2 _ rfl; have MD : FA.cell? ⟨go10, (aA : Int).toNat * 4 + 3, none⟩ = some (ve10_3) := hcc10 3 _ rfl; have ND : FA.frozen? ⟨go10, (aA : Int).toNat * 4, none⟩ = false := hfr10 0; have OD : FA.frozen? ⟨go10, (aA : Int).toNat * 4 + 1, none⟩ = false := hfr10 1; have PD : FA.frozen? ⟨go10, (aA : Int).toNat * 4 + 2, none⟩ = false := hfr10 2; have QD : FA.frozen? ⟨go10, (aA : Int).toNat * 4 + 3, none⟩ = false := hfr10 3; clear hcl10 hcc10 hfr10 hM10; replace p10 := eq_true p10; replace q10 := eq_true q10; have n_ := Aside0.mk (Kd.S_mono (ok' := (fun k_ => some k_ ≠ (qD : Value).ownBlock ∧ some k_ ≠ (rD : Value).ownBlock ∧ some k_ ≠ (sD : Value).ownBlock)) sA.out (fun k_ hk => ⟨hk.1.1.2, ⟨hk.1.2, hk.2⟩⟩)); clear sA; have sA := n_; clear n_; have HX12 := Aside0.mk (show Kd.S k55 55 FA w.heap.size (fun k_ => ((fun _ => True)) k_ ∧ ¬ ((fun k_ => some k_ = (qD : Value).ownBlock ∨ some k_ = (rD : Value).ownBlock ∨ some k_ = (sD : Value).ownBlock)) k_) (.slice (some ⟨go10, 0, none⟩) jA.length SB) jA from (by (with_reducible repeat (first | apply Kd.S_alloc | apply Kd.S_drewN | apply Kd.S_drew)); exact Kd.S_mono sA.out (fun k_ hk => ⟨trivial, fun e_ => e_.elim (fun h_ => hk.1 h_) (fun h_ => h_.elim (fun h_ => hk.2.1 h_) (fun h_ => hk.2.2 h_))⟩))); obtain ⟨oki12, ce12, hcl12, hM12, hcc12, hfr12, hoki12, hH12⟩ := Kd.S_elem HX12.out z55 (aA : Int) (of_decide_eq_true q3_3) (by have h_ : (aA : Int) < ((jA.length : Int) : Int) := of_decide_eq_true q3_3; first | exact h_ | (have e_ := (Kd.S_reads' sA.out).1; omega) | simpa using h_); obtain ⟨ve12_0, ve12_2, ve12_3, rfl, ge12_0, ge12_2, ge12_3⟩ := k55_openM hM12; have HP12 := Kd.S_seg hH12 (of_decide_eq_true q3_3) (by have h_ : (aA : Int) < ((jA.length : Int) : Int) := of_decide_eq_true q3_3; first | exact h_ | (have e_ := (Kd.S_reads' sA.out).1; omega) | simpa using h_) (seg := [qD, .int .i64 MC, rD, sD]) (j := 0) (show 4 ≤ 4 from by decide) (x' := (⟨hD, MC, iD, jD⟩ : S55)) (k55_mkM _ _ _ (⟨hD, MC, iD, jD⟩ : S55) (Kd.R_mono (Kd.R_tight rfl (Kd.R_mono (ok' := fun k_ => ((fun _ => True)) k_ ∧ k_ ≠ go10) (Kd.R_apart' (rC.out) (Kd.S_typed sA.out) (by decide)) (fun k_ hk => ⟨trivial, fun e_ => (hk.2) (by rw [e_]; rfl)⟩))) (fun _ h_ => Or.inr (Or.inl h_))) (Kd.R_mono (Kd.R_tight rfl (Kd.R_mono (ok' := fun k_ => ((fun _ => True)) k_ ∧ k_ ≠ go10) (Kd.R_apart' (sC.out) (Kd.S_typed sA.out) (by decide)) (fun k_ hk => ⟨trivial, fun e_ => (hk.2) (by rw [e_]; rfl)⟩))) (fun _ h_ => Or.inr (Or.inr (Or.inl h_)))) (Kd.R_mono (Kd.R_tight rfl (Kd.R_mono (ok' := fun k_ => ((fun _ => True)) k_ ∧ k_ ≠ go10) (Kd.R_apart' (TB.out) (Kd.S_typed sA.out) (by decide)) (fun k_ hk => ⟨trivial, fun e_ => (hk.2) (by rw [e_]; rfl)⟩))) (fun _ h_ => Or.inr (Or.inr (Or.inr (h_))))) (fun k_ hk_ he_ => TB.out.1 k_ he_ hk_.symm)) (fun _ hk => hk) (fun k_ hk_ => hk_.elim (fun h_ => ((Kd.R_mono (ok' := fun k_ => ((fun _ => True)) k_ ∧ k_ ≠ go10) (Kd.R_apart' (rC.out) (Kd.S_typed sA.out) (by decide)) (fun k_ hk => ⟨trivial, fun e_ => (hk.2) (by rw [e_]; rfl)⟩))).1 k_ h_.symm) (fun h_ => h_.elim (fun h_ => ((Kd.R_mono (ok' := fun k_ => ((fun _ => True)) k_ ∧ k_ ≠ go10) (Kd.R_apart' (sC.out) (Kd.S_typed sA.out) (by decide)) (fun k_ hk => ⟨trivial, fun e_ => (hk.2) (by rw [e_]; rfl)⟩))).1 k_ h_.symm) (fun h_ => ((Kd.R_mono (ok' := fun k_ => ((fun _ => True)) k_ ∧ k_ ≠ go10) (Kd.R_apart' (TB.out) (Kd.S_typed sA.out) (by decide)) (fun k_ hk => ⟨trivial, fun e_ => (hk.2) (by rw [e_]; rfl)⟩))).1 k_ h_.symm))); have WB := hcc12 0 _ rfl; (try simp only [show (k55).sz = 4 from rfl, Nat.mul_one, Nat.add_zero] at WB); have XB := hfr12 0; (try simp only [show (k55).sz = 4 from rfl, Nat.mul_one, Nat.add_zero] at XB); have YB := hcc12 1 _ rfl; (try simp only [show (k55).sz = 4 from rfl, Nat.mul_one, Nat.add_zero] at YB); have ZB := hfr12 1; (try simp only [show (k55).sz = 4 from rfl, Nat.mul_one, Nat.add_zero] at ZB); have aC := hcc12 2 _ rfl; (try simp only [show (k55).sz = 4 from rfl, Nat.mul_one, Nat.add_zero] at aC); have bC := hfr12 2; (try simp only [show (k55).sz = 4 from rfl, Nat.mul_one, Nat.add_zero] at bC); have cC := hcc12 3 _ rfl; (try simp only [show (k55).sz = 4 from rfl, Nat.mul_one, Nat.add_zero] at cC); have dC := hfr12 3; (try simp only [show (k55).sz = 4 from rfl, Nat.mul_one, Nat.add_zero] at dC); clear hcl12 hcc12 hfr12 hM12 hoki12 hH12) | ((with_reducible refine gate_store (t := 55) (p := 21) rfl ?_); obtain ⟨Aq0_, cq0_, eq0_⟩ := Kd.R_slice rC.out; obtain ⟨Aq1_, cq1_, eq1_⟩ := Kd.R_slice sC.out; obtain ⟨Aq2_, cq2_, eq2_⟩ := Kd.R_slice TB.out; refine store_event (t := 55) (p := 21) (v := ?vo_w13) (w1 := ((((FA.setCell ⟨go10, (aA : Int).toNat * 4, none⟩ (qD)).setCell ⟨go10, (aA : Int).toNat * 4 + 1, none⟩ (.int .i64 MC)).setCell ⟨go10, (aA : Int).toNat * 4 + 2, none⟩ (rD)).setCell ⟨go10, (aA : Int).toNat * 4 + 3, none⟩ (sD))) ?hg ?ho ?hn ?hr ?_; (case ho => rfl); (case hg => rfl); (case hn => rfl); (case hr => first | (go_simp; done) | (go_simp; rfl) | (simp only [eq0_, eq1_, eq2_]; go_simp; done) | (simp only [eq0_, eq1_, eq2_]; go_simp; rfl)); intro gD hw; have hg : FA.grownBy gD (some go10) := (by rw [hw]; exact HP12.2); have hp_ : Kd.S k55 55 gD w.heap.size (fun _ => True) (.slice (some ⟨go10, 0, none⟩) jA.length SB) y265 := (by rw [hw, Ny265.out]; exact HP12.1); clear HP12; have dA := Aside0.mk (hp_); have eA := Aside0.mk ((by rw [hw]; exact below_set (below_set (below_set (below_set (HB.out) GB10.out) GB10.out) GB10.out) GB10.out : Below w.heap.size w gD)); clear sA HB rC sC TB; have sA := dA; have HB := eA; clear dA eA; clear hg hw hp_))
        go_roundg k1
        case measure => have := HK1.out; omega
        case rel => exact ⟨(y265), (wrap64 (aA + 1)), q3_13, H', ⟨by have := HK1.out; omega⟩, ⟨q3_27⟩, ⟨q3_0⟩⟩
       ·rw [if_neg c9] at H
        exact absurd H (by simp)
      ·rw [if_neg c7] at H
       exact absurd H (by simp)
     ·rw [if_neg c6] at H
      have yB : decide (aA < (l0.length : Int)) = false := decide_eq_false c6
      clear c6
      obtain rfl := Option.some.inj H
      go_wp2
      go_ret
      exact ⟨_, q3_11, q3_27, q3_0⟩
  ·rw [if_neg c3] at H
   exact absurd H (by simp)
 ·rw [if_neg c2] at H
  exact absurd H (by simp)

/-! ### impl_within: function 90 -/
def impl_within.f (a0 : Int) (a1 : Int) (a2 : Int) : Option (Bool) := if a0 ≥ a1 then (some (decide (a0 ≤ a2))) else (some false)
set_option maxHeartbeats 8000000 in
set_option maxRecDepth 100000 in
theorem impl_within.calls (a0 : Int) (a1 : Int) (a2 : Int) (r : Bool) (w : World) (h : impl_within.f a0 a1 a2 = some r) :
  Calls Try.prog 90 #[.int .i64 a0, .int .i64 a1, .int .i64 a2] w fun e w' => e = .returned (.bool r) ∧ Drawn0 w w' := by
 have H : (if a0 ≥ a1 then (some (decide (a0 ≤ a2))) else (some false)) = some r := h
 clear h
 by_cases c4 : a0 ≥ a1
 ·rw [if_pos c4] at H
  have EH : decide (a1 ≤ a0) = true := decide_eq_true c4
  clear c4
  obtain rfl := Option.some.inj H
  go_enter Try.func90, Try.ntmps90
  go_wp2
  go_ret
  exact ⟨q3_13, by repeat (first | exact Drawn0.refl _ | apply Drawn0.step)⟩
 ·rw [if_neg c4] at H
  have EH : decide (a1 ≤ a0) = false := decide_eq_false c4
  clear c4
  obtain rfl := Option.some.inj H
  go_enter Try.func90, Try.ntmps90
  go_wp2
  go_ret
  exact ⟨q3_13, by repeat (first | exact Drawn0.refl _ | apply Drawn0.step)⟩

/-! ### impl_StNew: function 82 -/
def impl_StNew.l0 : Nat → Int → Int → List Int → Option (List Int × Bool)
 | 0, _, _, _ => none
 | k + 1, x17, x18, PB => if x18 < x17 then (if 0 ≤ x18 then (if x18 < (PB.length : Int) then (impl_StNew.l0 k x17 (wrap64 (x18 + 1)) (PB.set (x18 : Int).toNat (wrap64 (x18 + 1)))) else (none)) else (none)) else (some (PB, true))
def impl_StNew.f (k : Nat) (a0 : Int) (a1 : Bool) : Option (List Int × Bool) := (impl_within.f a0 1 16).bind fun VC => (if VC = true then (if 0 ≤ (wrap64 (1 + a0)) then (if (wrap64 (1 + a0) : Int).toNat ≤ 35184372088832 then ((some (List.replicate (wrap64 (1 + a0) : Int).toNat 0 : List Int)).bind fun y268 => (if a1 = true then (impl_StNew.l0 k a0 0 y268) else (some (y268, true)))) else (none)) else (none)) else (some (([] : List Int), false)))
theorem impl_StNew.mono_l : ∀ k, (∀ y0 y1 y2, LeO (impl_StNew.l0 k y0 y1 y2) (impl_StNew.l0 (k + 1) y0 y1 y2))
 | 0 => fun _ _ _ r h => by simp [impl_StNew.l0] at h
 | k + 1 => by
  have ih0 := impl_StNew.mono_l k
  ·intro y0 y1 y2
   unfold impl_StNew.l0
   repeat' first
   | (with_reducible exact ih0 _ _ _)
   | (with_reducible exact LeO.refl _)
   | (with_reducible exact LeO.none _)
   | (with_reducible refine LeO.ite ?_ ?_)
   | (with_reducible refine LeO.bind ?_ (fun _ => ?_))
   | exact ih0 _ _ _
   | exact LeO.none _
   | refine LeO.ite ?_ ?_
   | refine LeO.bind ?_ (fun _ => ?_)
theorem impl_StNew.mono : ∀ a0 a1 k, LeO (impl_StNew.f k a0 a1) (impl_StNew.f (k + 1) a0 a1) := by
 intro a0 a1 k
 have ih0 := impl_StNew.mono_l k
 unfold impl_StNew.f
 repeat' first
   | (with_reducible exact ih0 _ _ _)
   | (with_reducible exact LeO.refl _)
   | (with_reducible exact LeO.none _)
   | (with_reducible refine LeO.ite ?_ ?_)
   | (with_reducible refine LeO.bind ?_ (fun _ => ?_))
   | exact ih0 _ _ _
   | exact LeO.none _
   | refine LeO.ite ?_ ?_
   | refine LeO.bind ?_ (fun _ => ?_)
set_option maxHeartbeats 8000000 in
set_option maxRecDepth 100000 in
theorem impl_StNew.calls (k : Nat) (a0 : Int) (a1 : Bool) (r1 : List Int) (r2 : Bool) (w : World) (h : impl_StNew.f k a0 a1 = some (r1, r2)) :
  Calls Try.prog 82 #[.int .i64 a0, .bool a1] w fun e w' => ∃ v0_ : Value, e = .returned (.tuple #[.agg #[v0_], .bool r2]) ∧ Kd.R (Kd.int .i64) 3 w' w.heap.size (fun _ => True) v0_ r1 ∧ Below w.heap.size w w' := by
 have hu26 := Try.underlying26
 have HB := Aside0.mk (Below.refl w.heap.size w)
 have H : ((impl_within.f a0 1 16).bind fun VC => (if VC = true then (if 0 ≤ (wrap64 (1 + a0)) then (if (wrap64 (1 + a0) : Int).toNat ≤ 35184372088832 then ((some (List.replicate (wrap64 (1 + a0) : Int).toNat 0 : List Int)).bind fun y268 => (if a1 = true then (impl_StNew.l0 k a0 0 y268) else (some (y268, true)))) else (none)) else (none)) else (some (([] : List Int), false)))) = some (r1, r2) := h
 clear h
 replace H := Option.bind_eq_some_iff.mp H
 obtain ⟨VC, A30, H⟩ := H
 (try dsimp only at H)
 have A3 := Aside0.mk A30
 clear A30
 by_cases c4 : VC = true
 ·subst c4
  rw [if_pos rfl] at H
  obtain ⟨ji5, hji5⟩ : ∃ j_ : Int, (wrap64 (1 + a0)) = j_ := ⟨_, rfl⟩
  replace H : (if 0 ≤ (ji5) then (if (ji5 : Int).toNat ≤ 35184372088832 then ((some (List.replicate (ji5 : Int).toNat 0 : List Int)).bind fun y268 => (if a1 = true then (impl_StNew.l0 k a0 0 y268) else (some (y268, true)))) else (none)) else (none)) = some (r1, r2) := by first | (rw [hji5] at H; exact H) | (simp only [hji5] at H ⊢; exact H)
  (try rw [hji5] at A3)
  have hji5w : (IntKind.i64.wrap (1 + a0)) = ji5 := (i64_w _).trans hji5
  by_cases c6 : 0 ≤ (ji5)
  ·rw [if_pos c6] at H
   have yB := eq_true c6
   have kE : decide (0 ≤ (ji5)) = true := decide_eq_true c6
   clear c6
   by_cases c7 : (ji5 : Int).toNat ≤ 35184372088832
   ·rw [if_pos c7] at H
    have XC := eq_true c7
    have FH : decide ((ji5 : Int).toNat ≤ 35184372088832) = true := decide_eq_true c7
    clear c7
    obtain ⟨y268, hy268⟩ : ∃ y_ : List Int, y_ = (List.replicate (ji5 : Int).toNat 0) := ⟨_, rfl⟩
    replace H : (if a1 = true then (impl_StNew.l0 k a0 0 y268) else (some (y268, true))) = some (r1, r2) := by first | (rw [hy268]; with_reducible exact H) | (have H2_ := (Option.bind_some _ _).symm.trans H; rw [hy268]; with_reducible exact H2_) | (have H2_ := (Option.bind_some _ _).symm.trans H; with_reducible exact H2_) | with_reducible exact H | (rw [hy268]; exact H) | exact H
    have Ny268 := Aside0.mk hy268
    clear hy268
    by_cases c8 : a1 = true
    ·subst c8
     rw [if_pos rfl] at H
     have H' := Aside0.mk H
     clear H
     go_enter Try.func82, Try.ntmps82
     go_wp2_with (first | ((with_reducible refine gate_dst (N := 4) rfl ?_); refine box_event ?hg (N := 4) ?hd (cs := #[.slice none 0 0]) (t := 26) ?hr ?_; (case hd => rfl); (case hg => rfl); (case hr => first | (go_simp; done) | (go_simp; rfl)); intro hA hg w9 hbox hb; have dA := Aside0.mk (below_step q3_0 hb); have eA := Aside0.mk (hbox); have uA := Aside0.mk ((q3_14 : w.heap.size ≤ hA)); have BA := Aside0.mk ((q3_14 : w.heap.size ≤ hA)); clear HB; have HB := dA; have iA := eA; have HD := uA; have gC := BA; clear dA eA uA BA; clear hb hbox hg) | ((with_reducible refine gate_callee (f := 90) rfl ?_); refine goesL_ (some 9) rfl rfl Try.func90 (by kernel_rfl) rfl #[.int .i64 a0, .int .i64 1, .int .i64 16] rfl q3_5 ?_; (with_reducible refine (impl_within.calls a0 1 16 true _ A3.out).mono ?_); rintro e w' ⟨rfl, ⟨nd, rfl⟩⟩; refine ⟨_, rfl, ?_⟩; (try (rw [drewN_self w9]; generalize hq_ : World.drewN w9 _ = w9; have dA : Aside0 (w9.heap[hA]? = some (.cells #[.slice none 0 0] 26 (0, 0))) := ⟨by rw [← hq_]; exact q3_4⟩; have eA : Aside0 (Below w.heap.size w w9) := ⟨by rw [← hq_]; exact q3_1⟩; clear iA HB hq_; have iA := dA; have HB := eA; clear dA eA))) | ((with_reducible refine gate_dst (N := 14) rfl ?_); refine Kd.R_make (Kd.int .i64) _ 3 rfl (N := 14) rfl 24 _ _ rfl ji5 rfl rfl Try.underlying24 (.int .i64 0) 8 info3 rfl (by decide) (by omega) 0 (ok := fun _ => True) (okp := fun _ => True) rfl (fun _ hk => hk) trivial (of_decide_eq_true q3_3) (Nat.le_trans (Nat.mul_le_mul_right _ (of_decide_eq_true q3_3 : ji5.toNat ≤ 35184372088832)) (by omega)) (Below.refl _ _) (Nat.le_refl _) ?_; intro GH HI ho11 hb hg_ hnew_; clear hg_ hnew_; (first | rw [← Ny268.out] at ho11 | (simp only [Int.reduceToNat] at ho11; rw [← Ny268.out] at ho11)); have dA := Aside0.mk (Kd.R_lower ho11 (below_size q3_1)); have eA := Aside0.mk (blk_below (g := hA) (o := .cells #[.slice none 0 0] 26 (0, 0)) q3_4 hb); have uA := Aside0.mk (below_step q3_1 hb); clear iA HB; have VA := dA; have iA := eA; have HB := uA; clear dA eA uA; clear hb ho11; obtain ⟨TA, UA, dE⟩ := Kd.R_slice VA.out; subst dE) | ((with_reducible refine gate_dst (N := 6) rfl ?_); refine box_event ?hg (N := 6) ?hd (cs := #[.slice none 0 0]) (t := 26) ?hr ?_; (case hd => rfl); (case hg => rfl); (case hr => first | (go_simp; done) | (go_simp; rfl)); intro EA hg gD hbox hb; have dA := Aside0.mk (Kd.R_below (by (with_reducible repeat (first | apply Kd.R_alloc | apply Kd.R_drewN | apply Kd.R_drew)); exact VA.out) hb); have eA := Aside0.mk (blk_below (g := hA) (o := .cells #[.slice none 0 0] 26 (0, 0)) q3_4 hb); have uA := Aside0.mk (below_step q3_1 hb); have BA := Aside0.mk (hbox); have fB := Aside0.mk ((by rw [hg]; exact (below_size q3_1) : w.heap.size ≤ EA)); have qB := Aside0.mk ((by rw [hg]; exact (below_size q3_1) : w.heap.size ≤ EA)); have uB := Aside0.mk ((by rw [hg]; exact Nat.ne_of_lt (blk_lt (g := hA) (o := .cells #[.slice none 0 0] 26 (0, 0)) q3_4) : hA ≠ EA)); have hC := Aside0.mk ((by rw [hg]; exact Nat.ne_of_gt (blk_lt (g := hA) (o := .cells #[.slice none 0 0] 26 (0, 0)) q3_4) : EA ≠ hA)); clear VA iA HB; have VA := dA; have iA := eA; have HB := uA; have CA := BA; have FE := fB; have wD := qB; have DA := uB; have OA := hC; clear dA eA uA BA fB qB uB hC; clear hb hbox hg; have eI := OA.out; have fI := DA.out; have iC : gD.cell? ⟨EA, 0, none⟩ = some (.slice none 0 0) := (blk_cell CA.out 0).trans rfl; have jC := blk_frozen CA.out 0))
     go_loopg [18] k (fun kq v18 w' => ∃ (wA : Int) (kA : List Int) (lB : Value), v18 = .int .i64 wA ∧ Aside0 (impl_StNew.l0 kq a0 wA kA = some (r1, r2)) ∧ Aside0 (kq ≤ k) ∧ Aside0 (Kd.R (Kd.int .i64) 3 w' w.heap.size (fun _ => True) lB kA) ∧ Aside0 (w'.heap[hA]? = some (.cells #[(.slice none 0 0)] 26 (0, 0))) ∧ Aside0 (w'.heap[EA]? = some (.cells #[lB] 26 (0, 0))) ∧ Aside0 (Below w.heap.size w w'))
     case atStart => exact ⟨(0), (y268), (.slice TA y268.length UA), q3_13, H', ⟨Nat.le_refl _⟩, ⟨by (with_reducible repeat (first | apply Kd.R_alloc | apply Kd.R_drewN | apply Kd.R_drew)); exact Kd.R_mono (Kd.R_far (p := ⟨EA, 0, none⟩) (Kd.R_types VA.out CA.out (by decide)) (fun _ hk => hk.2) (.slice TA y268.length UA)) (fun _ hk => trivial)⟩, ⟨by (with_reducible repeat (first | refine blk_drewN ?_ _ | refine blk_drew ?_ | refine blk_alloc ?_ _)); refine blk_far ?_ DA.out _; (with_reducible repeat (first | refine blk_drewN ?_ _ | refine blk_drew ?_ | refine blk_alloc ?_ _)); exact iA.out⟩, ⟨by (with_reducible repeat (first | refine blk_drewN ?_ _ | refine blk_drew ?_ | refine blk_alloc ?_ _)); refine blk_put (cs := #[.slice none 0 0]) ?_ 0 _ rfl; (with_reducible repeat (first | refine blk_drewN ?_ _ | refine blk_drew ?_ | refine blk_alloc ?_ _)); exact CA.out⟩, ⟨q3_9⟩⟩
     case round =>
      clear H'
      (try clear c1); (try clear p2); (try clear c4); (try clear c6); (try clear yB); (try clear kE); (try clear p6); (try clear c7); (try clear XC); (try clear FH); (try clear c8); (try clear c9); (try clear c14); (try clear iC); (try clear jC)
      obtain ⟨wA, kA, lB, rfl, HA, HK1, pA, iA, CA, HB⟩ := hrel
      cases gk with
      | zero => exact absurd HA.out (by simp [impl_StNew.l0])
      | succ k1 =>
       have H := HA.out
       clear HA
       simp only [impl_StNew.l0] at H
       by_cases c16 : wA < a0
       ·rw [if_pos c16] at H
        have ID : decide (wA < a0) = true := decide_eq_true c16
        clear c16
        by_cases c17 : 0 ≤ wA
        ·rw [if_pos c17] at H
         have GE : decide (0 ≤ wA) = true := decide_eq_true c17
         clear c17
         by_cases c18 : wA < (kA.length : Int)
         ·rw [if_pos c18] at H
          have gI : decide (wA < (kA.length : Int)) = true := decide_eq_true c18
          clear c18
          obtain ⟨y272, hy272⟩ : ∃ y_ : List Int, y_ = (kA.set (wA : Int).toNat (wrap64 (wA + 1))) := ⟨_, rfl⟩
          replace H : (impl_StNew.l0 k1 a0 (wrap64 (wA + 1)) y272) = some (r1, r2) := by first | (rw [hy272]; with_reducible exact H) | (have H2_ := (Option.bind_some _ _).symm.trans H; rw [hy272]; with_reducible exact H2_) | (have H2_ := (Option.bind_some _ _).symm.trans H; with_reducible exact H2_) | with_reducible exact H | (rw [hy272]; exact H) | exact H
          have Ny272 := Aside0.mk hy272
          clear hy272
          have H' := Aside0.mk H
          clear H
          have hI := OA.out
          have iI := DA.out
          have ZF : wr.cell? ⟨EA, 0, none⟩ = some (lB) := (blk_cell CA.out 0).trans rfl
          have aG := blk_frozen CA.out 0
          have p19 : 0 ≤ (wA : Int) := of_decide_eq_true q3_3
          have q19 : (wA : Int) < ((kA.length : Int) : Int) := of_decide_eq_true q3_3
          obtain ⟨go19, lE, HE, IE, gl19, cl19, HG19⟩ := Kd.R_form pA.out (by omega)
          (first | cases HE | (injection HE with ea_ en_ ec_; (first | subst ea_ | (injection ea_ with ea_; subst ea_)); subst ec_; clear en_))
          have GB19 := Aside0.mk IE
          have GG19 := Aside0.mk HG19
          clear IE gl19 HG19
          obtain ⟨HH, IH⟩ := Kd.R_celln 0 pA.out (wA : Int) p19 q19
          replace p19 := eq_true p19
          replace q19 := eq_true q19
          have HP22 := Kd.R_putg pA.out (wA : Int) (wrap64 (wA + 1))
          go_wp2_with (first | ((with_reducible refine gate_store (t := 3) (p := 26) rfl ?_); refine store_event (t := 3) (p := 26) (v := ?vo_w23) (w1 := (wr.setCell ⟨go19, (wA : Int).toNat, none⟩ (.int .i64 (wrap64 (wA + 1))))) ?hg ?ho ?hn ?hr ?_; (case ho => rfl); (case hg => rfl); (case hn => rfl); (case hr => first | (go_simp; done) | (go_simp; rfl)); intro JH hw; have hg : wr.grownBy JH (some go19) := (by rw [hw]; exact HP22.2); have hp_ : Kd.R (Kd.int .i64) 3 JH w.heap.size (fun _ => True) (.slice (some ⟨go19, 0, none⟩) kA.length lE) y272 := (by rw [hw, Ny272.out]; exact HP22.1); clear HP22; have dA := Aside0.mk (hp_); have eA := Aside0.mk (blk_grown (g := hA) (o := .cells #[.slice none 0 0] 26 (0, 0)) q3_4 hg (Kd.R_ne pA.out iA.out (by decide))); have uA := Aside0.mk (blk_grown (g := EA) (o := .cells #[.slice (some ⟨go19, 0, none⟩) kA.length lE] 26 (0, 0)) (by (with_reducible repeat (first | refine blk_drewN ?_ _ | refine blk_drew ?_ | refine blk_alloc ?_ _)); exact CA.out) hg (Kd.R_ne pA.out CA.out (by decide))); have BA := Aside0.mk ((by rw [hw]; exact below_set (HB.out) GB19.out : Below w.heap.size w JH)); clear pA iA CA HB; have pA := dA; have iA := eA; have CA := uA; have HB := BA; clear dA eA uA BA; clear hg hw hp_))
          go_roundg k1
          case measure => have := HK1.out; omega
          case rel => exact ⟨(wrap64 (wA + 1)), (y272), (.slice (some ⟨go19, 0, none⟩) kA.length lE), q3_13, H', ⟨by have := HK1.out; omega⟩, ⟨by (with_reducible repeat (first | apply Kd.R_alloc | apply Kd.R_drewN | apply Kd.R_drew)); exact pA.out⟩, ⟨q3_4⟩, ⟨by (with_reducible repeat (first | refine blk_drewN ?_ _ | refine blk_drew ?_ | refine blk_alloc ?_ _)); exact CA.out⟩, ⟨q3_9⟩⟩
         ·rw [if_neg c18] at H
          exact absurd H (by simp)
        ·rw [if_neg c17] at H
         exact absurd H (by simp)
       ·rw [if_neg c16] at H
        have ID : decide (wA < a0) = false := decide_eq_false c16
        clear c16
        simp only [Option.some.injEq, Prod.mk.injEq] at H
        obtain ⟨rfl, rfl⟩ := H
        have jI := OA.out
        have kI := DA.out
        have bG : wr.cell? ⟨EA, 0, none⟩ = some (lB) := (blk_cell CA.out 0).trans rfl
        have cG := blk_frozen CA.out 0
        obtain ⟨JE, KE, KH⟩ := Kd.R_slice pA.out
        subst KH
        have dG : wr.cell? ⟨hA, 0, none⟩ = some (.slice none 0 0) := (blk_cell iA.out 0).trans rfl
        have eG := blk_frozen iA.out 0
        go_wp2
        refine bodyPost_ret (results_ct rfl _ _ hA 26 #[.slice JE kA.length KE] (0, 0) _ rfl q3_21 Try.underlying26 rfl (by kernel_rfl)) rfl ?_
        exact ⟨_, by first | rfl | (simp [errW_none, errW_some] <;> rfl) | (simp only [← hji5]; first | rfl | (simp [errW_none, errW_some] <;> rfl)) | (simp [*, errW_none, errW_some] <;> rfl), by (with_reducible repeat (first | apply Kd.R_alloc | apply Kd.R_drewN | apply Kd.R_drew)); exact Kd.R_mono (Kd.R_far (p := ⟨hA, 0, none⟩) (Kd.R_types pA.out iA.out (by decide)) (fun _ hk => hk.2) (.slice JE kA.length KE)) (fun _ hk => trivial), q3_9⟩
    ·replace c8 := Bool.eq_false_iff.mpr c8
     subst c8
     rw [if_neg (show ¬ (false = true) by decide)] at H
     simp only [Option.some.injEq, Prod.mk.injEq] at H
     obtain ⟨rfl, rfl⟩ := H
     go_enter Try.func82, Try.ntmps82
     go_wp2_with (first | ((with_reducible refine gate_dst (N := 4) rfl ?_); refine box_event ?hg (N := 4) ?hd (cs := #[.slice none 0 0]) (t := 26) ?hr ?_; (case hd => rfl); (case hg => rfl); (case hr => first | (go_simp; done) | (go_simp; rfl)); intro hA hg LE hbox hb; have dA := Aside0.mk (below_step q3_0 hb); have eA := Aside0.mk (hbox); have uA := Aside0.mk ((q3_14 : w.heap.size ≤ hA)); have BA := Aside0.mk ((q3_14 : w.heap.size ≤ hA)); clear HB; have HB := dA; have iA := eA; have HD := uA; have gC := BA; clear dA eA uA BA; clear hb hbox hg) | ((with_reducible refine gate_callee (f := 90) rfl ?_); refine goesL_ (some 9) rfl rfl Try.func90 (by kernel_rfl) rfl #[.int .i64 a0, .int .i64 1, .int .i64 16] rfl q3_5 ?_; (with_reducible refine (impl_within.calls a0 1 16 true _ A3.out).mono ?_); rintro e w' ⟨rfl, ⟨nd, rfl⟩⟩; refine ⟨_, rfl, ?_⟩; (try (rw [drewN_self LE]; generalize hq_ : World.drewN LE _ = LE; have dA : Aside0 (LE.heap[hA]? = some (.cells #[.slice none 0 0] 26 (0, 0))) := ⟨by rw [← hq_]; exact q3_4⟩; have eA : Aside0 (Below w.heap.size w LE) := ⟨by rw [← hq_]; exact q3_1⟩; clear iA HB hq_; have iA := dA; have HB := eA; clear dA eA))) | ((with_reducible refine gate_dst (N := 14) rfl ?_); refine Kd.R_make (Kd.int .i64) _ 3 rfl (N := 14) rfl 24 _ _ rfl ji5 rfl rfl Try.underlying24 (.int .i64 0) 8 info3 rfl (by decide) (by omega) 0 (ok := fun _ => True) (okp := fun _ => True) rfl (fun _ hk => hk) trivial (of_decide_eq_true q3_3) (Nat.le_trans (Nat.mul_le_mul_right _ (of_decide_eq_true q3_3 : ji5.toNat ≤ 35184372088832)) (by omega)) (Below.refl _ _) (Nat.le_refl _) ?_; intro GH II ho30 hb hg_ hnew_; clear hg_ hnew_; (first | rw [← Ny268.out] at ho30 | (simp only [Int.reduceToNat] at ho30; rw [← Ny268.out] at ho30)); have dA := Aside0.mk (Kd.R_lower ho30 (below_size q3_1)); have eA := Aside0.mk (blk_below (g := hA) (o := .cells #[.slice none 0 0] 26 (0, 0)) q3_4 hb); have uA := Aside0.mk (below_step q3_1 hb); clear iA HB; have VA := dA; have iA := eA; have HB := uA; clear dA eA uA; clear hb ho30; obtain ⟨mE, nE, LH⟩ := Kd.R_slice VA.out; subst LH) | ((with_reducible refine gate_dst (N := 6) rfl ?_); refine box_event ?hg (N := 6) ?hd (cs := #[.slice none 0 0]) (t := 26) ?hr ?_; (case hd => rfl); (case hg => rfl); (case hr => first | (go_simp; done) | (go_simp; rfl)); intro EA hg lI hbox hb; have dA := Aside0.mk (Kd.R_below (by (with_reducible repeat (first | apply Kd.R_alloc | apply Kd.R_drewN | apply Kd.R_drew)); exact VA.out) hb); have eA := Aside0.mk (blk_below (g := hA) (o := .cells #[.slice none 0 0] 26 (0, 0)) q3_4 hb); have uA := Aside0.mk (below_step q3_1 hb); have BA := Aside0.mk (hbox); have fB := Aside0.mk ((by rw [hg]; exact (below_size q3_1) : w.heap.size ≤ EA)); have qB := Aside0.mk ((by rw [hg]; exact (below_size q3_1) : w.heap.size ≤ EA)); have uB := Aside0.mk ((by rw [hg]; exact Nat.ne_of_lt (blk_lt (g := hA) (o := .cells #[.slice none 0 0] 26 (0, 0)) q3_4) : hA ≠ EA)); have hC := Aside0.mk ((by rw [hg]; exact Nat.ne_of_gt (blk_lt (g := hA) (o := .cells #[.slice none 0 0] 26 (0, 0)) q3_4) : EA ≠ hA)); clear VA iA HB; have VA := dA; have iA := eA; have HB := uA; have CA := BA; have FE := fB; have wD := qB; have DA := uB; have OA := hC; clear dA eA uA BA fB qB uB hC; clear hb hbox hg; have mI := OA.out; have nI := DA.out; have fG : lI.cell? ⟨EA, 0, none⟩ = some (.slice none 0 0) := (blk_cell CA.out 0).trans rfl; have gG := blk_frozen CA.out 0; have hG : lI.cell? ⟨hA, 0, none⟩ = some (.slice none 0 0) := (blk_cell iA.out 0).trans rfl; have iG := blk_frozen iA.out 0))
     refine bodyPost_ret (results_ct rfl _ _ hA 26 #[.slice mE y268.length nE] (0, 0) _ rfl (by (with_reducible repeat (first | refine blk_drewN ?_ _ | refine blk_drew ?_ | refine blk_alloc ?_ _)); refine blk_put (cs := #[.slice none 0 0]) ?_ 0 _ rfl; (with_reducible repeat (first | refine blk_drewN ?_ _ | refine blk_drew ?_ | refine blk_alloc ?_ _)); refine blk_far ?_ DA.out _; (with_reducible repeat (first | refine blk_drewN ?_ _ | refine blk_drew ?_ | refine blk_alloc ?_ _)); exact iA.out) Try.underlying26 rfl (by kernel_rfl)) rfl ?_
     exact ⟨_, by first | rfl | (simp [errW_none, errW_some] <;> rfl) | (simp only [← hji5]; first | rfl | (simp [errW_none, errW_some] <;> rfl)) | (simp [*, errW_none, errW_some] <;> rfl), by (with_reducible repeat (first | apply Kd.R_alloc | apply Kd.R_drewN | apply Kd.R_drew)); exact Kd.R_mono (Kd.R_far (p := ⟨hA, 0, none⟩) (Kd.R_far (p := ⟨EA, 0, none⟩) (Kd.R_types (Kd.R_types VA.out CA.out (by decide)) iA.out (by decide)) (fun _ hk => hk.1.2) (.slice mE y268.length nE)) (fun _ hk => hk.2) (.slice mE y268.length nE)) (fun _ hk => trivial), q3_9⟩
   ·rw [if_neg c7] at H
    exact absurd H (by simp)
  ·rw [if_neg c6] at H
   exact absurd H (by simp)
 ·replace c4 := Bool.eq_false_iff.mpr c4
  subst c4
  rw [if_neg (show ¬ (false = true) by decide)] at H
  simp only [Option.some.injEq, Prod.mk.injEq] at H
  obtain ⟨rfl, rfl⟩ := H
  go_enter Try.func82, Try.ntmps82
  go_wp2_with (first | ((with_reducible refine gate_dst (N := 4) rfl ?_); refine box_event ?hg (N := 4) ?hd (cs := #[.slice none 0 0]) (t := 26) ?hr ?_; (case hd => rfl); (case hg => rfl); (case hr => first | (go_simp; done) | (go_simp; rfl)); intro hA hg pE hbox hb; have dA := Aside0.mk (below_step q3_0 hb); have eA := Aside0.mk (hbox); have uA := Aside0.mk ((q3_14 : w.heap.size ≤ hA)); have BA := Aside0.mk ((q3_14 : w.heap.size ≤ hA)); clear HB; have HB := dA; have iA := eA; have HD := uA; have gC := BA; clear dA eA uA BA; clear hb hbox hg) | ((with_reducible refine gate_callee (f := 90) rfl ?_); refine goesL_ (some 9) rfl rfl Try.func90 (by kernel_rfl) rfl #[.int .i64 a0, .int .i64 1, .int .i64 16] rfl q3_5 ?_; (with_reducible refine (impl_within.calls a0 1 16 false _ A3.out).mono ?_); rintro e w' ⟨rfl, ⟨nd, rfl⟩⟩; refine ⟨_, rfl, ?_⟩; (try (rw [drewN_self pE]; generalize hq_ : World.drewN pE _ = pE; have dA : Aside0 (pE.heap[hA]? = some (.cells #[.slice none 0 0] 26 (0, 0))) := ⟨by rw [← hq_]; exact q3_4⟩; have eA : Aside0 (Below w.heap.size w pE) := ⟨by rw [← hq_]; exact q3_1⟩; clear iA HB hq_; have iA := dA; have HB := eA; clear dA eA)); have jG : pE.cell? ⟨hA, 0, none⟩ = some (.slice none 0 0) := (blk_cell iA.out 0).trans rfl; have kG := blk_frozen iA.out 0))
  refine bodyPost_ret (results_ct rfl _ _ hA 26 #[.slice none 0 0] (0, 0) _ rfl q3_21 Try.underlying26 rfl (by kernel_rfl)) rfl ?_
  exact ⟨_, q3_11, by first | exact Kd.R_nil _ _ _ _ _ | exact Kd.N_nil _ _ _ _ _ | exact Kd.V_nil _ _ _ _ _ | exact Kd.Q_nil _ _ _ _ _ | exact Kd.S_nil _ _ _ _ _, q3_1⟩

/-! ### impl_RiNew: function 83 -/
def impl_RiNew.l0 : Nat → Int → Int → List Int → Option (List Int × Bool)
 | 0, _, _, _ => none
 | k + 1, x15, x16, QB => if x16 < x15 then (if 0 ≤ (wrap64 (2 + (wrap64 (2 * x16)))) then (if (wrap64 (2 + (wrap64 (2 * x16)))) < (QB.length : Int) then (impl_RiNew.l0 k x15 (wrap64 (x16 + 1)) (QB.set ((wrap64 (2 + (wrap64 (2 * x16)))) : Int).toNat x16)) else (none)) else (none)) else (some (QB, true))
def impl_RiNew.f (k : Nat) (a0 : Int) : Option (List Int × Bool) := (impl_within.f a0 2 16).bind fun WC => (if WC = true then (if 0 ≤ (wrap64 (2 + (wrap64 (2 * a0)))) then (if (wrap64 (2 + (wrap64 (2 * a0))) : Int).toNat ≤ 35184372088832 then (impl_RiNew.l0 k a0 0 (List.replicate (wrap64 (2 + (wrap64 (2 * a0))) : Int).toNat 0)) else (none)) else (none)) else (some (([] : List Int), false)))
theorem impl_RiNew.mono_l : ∀ k, (∀ y0 y1 y2, LeO (impl_RiNew.l0 k y0 y1 y2) (impl_RiNew.l0 (k + 1) y0 y1 y2))
 | 0 => fun _ _ _ r h => by simp [impl_RiNew.l0] at h
 | k + 1 => by
  have ih0 := impl_RiNew.mono_l k
  ·intro y0 y1 y2
   unfold impl_RiNew.l0
   repeat' first
   | (with_reducible exact ih0 _ _ _)
   | (with_reducible exact LeO.refl _)
   | (with_reducible exact LeO.none _)
   | (with_reducible refine LeO.ite ?_ ?_)
   | (with_reducible refine LeO.bind ?_ (fun _ => ?_))
   | exact ih0 _ _ _
   | exact LeO.none _
   | refine LeO.ite ?_ ?_
   | refine LeO.bind ?_ (fun _ => ?_)
theorem impl_RiNew.mono : ∀ a0 k, LeO (impl_RiNew.f k a0) (impl_RiNew.f (k + 1) a0) := by
 intro a0 k
 have ih0 := impl_RiNew.mono_l k
 unfold impl_RiNew.f
 repeat' first
   | (with_reducible exact ih0 _ _ _)
   | (with_reducible exact LeO.refl _)
   | (with_reducible exact LeO.none _)
   | (with_reducible refine LeO.ite ?_ ?_)
   | (with_reducible refine LeO.bind ?_ (fun _ => ?_))
   | exact ih0 _ _ _
   | exact LeO.none _
   | refine LeO.ite ?_ ?_
   | refine LeO.bind ?_ (fun _ => ?_)
set_option maxHeartbeats 8000000 in
set_option maxRecDepth 100000 in
theorem impl_RiNew.calls (k : Nat) (a0 : Int) (r1 : List Int) (r2 : Bool) (w : World) (h : impl_RiNew.f k a0 = some (r1, r2)) :
  Calls Try.prog 83 #[.int .i64 a0] w fun e w' => ∃ v0_ : Value, e = .returned (.tuple #[.agg #[v0_], .bool r2]) ∧ Kd.R (Kd.int .i64) 3 w' w.heap.size (fun _ => True) v0_ r1 ∧ Below w.heap.size w w' := by
 have hu26 := Try.underlying26
 have HB := Aside0.mk (Below.refl w.heap.size w)
 have H : ((impl_within.f a0 2 16).bind fun WC => (if WC = true then (if 0 ≤ (wrap64 (2 + (wrap64 (2 * a0)))) then (if (wrap64 (2 + (wrap64 (2 * a0))) : Int).toNat ≤ 35184372088832 then (impl_RiNew.l0 k a0 0 (List.replicate (wrap64 (2 + (wrap64 (2 * a0))) : Int).toNat 0)) else (none)) else (none)) else (some (([] : List Int), false)))) = some (r1, r2) := h
 clear h
 replace H := Option.bind_eq_some_iff.mp H
 obtain ⟨WC, A20, H⟩ := H
 (try dsimp only at H)
 have A2 := Aside0.mk A20
 clear A20
 by_cases c3 : WC = true
 ·subst c3
  rw [if_pos rfl] at H
  obtain ⟨ji4, hji4⟩ : ∃ j_ : Int, (wrap64 (2 + (wrap64 (2 * a0)))) = j_ := ⟨_, rfl⟩
  replace H : (if 0 ≤ (ji4) then (if (ji4 : Int).toNat ≤ 35184372088832 then (impl_RiNew.l0 k a0 0 (List.replicate (ji4 : Int).toNat 0)) else (none)) else (none)) = some (r1, r2) := by first | (rw [hji4] at H; exact H) | (simp only [hji4] at H ⊢; exact H)
  (try rw [hji4] at A2)
  have hji4w : (IntKind.i64.wrap (2 + (wrap64 (2 * a0)))) = ji4 := (i64_w _).trans hji4
  by_cases c5 : 0 ≤ (ji4)
  ·rw [if_pos c5] at H
   have MH := eq_true c5
   have NH : decide (0 ≤ (ji4)) = true := decide_eq_true c5
   clear c5
   by_cases c6 : (ji4 : Int).toNat ≤ 35184372088832
   ·rw [if_pos c6] at H
    have yB := eq_true c6
    have kE : decide ((ji4 : Int).toNat ≤ 35184372088832) = true := decide_eq_true c6
    clear c6
    obtain ⟨y275, hy275⟩ : ∃ y_ : List Int, y_ = (List.replicate (ji4 : Int).toNat 0) := ⟨_, rfl⟩
    replace H : (impl_RiNew.l0 k a0 0 y275) = some (r1, r2) := by first | (rw [hy275]; with_reducible exact H) | (have H2_ := (Option.bind_some _ _).symm.trans H; rw [hy275]; with_reducible exact H2_) | (have H2_ := (Option.bind_some _ _).symm.trans H; with_reducible exact H2_) | with_reducible exact H | (rw [hy275]; exact H) | exact H
    have Ny275 := Aside0.mk hy275
    clear hy275
    have H' := Aside0.mk H
    clear H
    go_enter Try.func83, Try.ntmps83
    go_wp2_with (first | ((with_reducible refine gate_dst (N := 2) rfl ?_); refine box_event ?hg (N := 2) ?hd (cs := #[.slice none 0 0]) (t := 26) ?hr ?_; (case hd => rfl); (case hg => rfl); (case hr => first | (go_simp; done) | (go_simp; rfl)); intro AA hg w7 hbox hb; have dA := Aside0.mk (below_step q3_0 hb); have eA := Aside0.mk (hbox); have uA := Aside0.mk ((q3_14 : w.heap.size ≤ AA)); have BA := Aside0.mk ((q3_14 : w.heap.size ≤ AA)); clear HB; have HB := dA; have vA := eA; have ME := uA; have OC := BA; clear dA eA uA BA; clear hb hbox hg) | ((with_reducible refine gate_callee (f := 90) rfl ?_); refine goesL_ (some 7) rfl rfl Try.func90 (by kernel_rfl) rfl #[.int .i64 a0, .int .i64 2, .int .i64 16] rfl q3_5 ?_; (with_reducible refine (impl_within.calls a0 2 16 true _ A2.out).mono ?_); rintro e w' ⟨rfl, ⟨nd, rfl⟩⟩; refine ⟨_, rfl, ?_⟩; (try (rw [drewN_self w7]; generalize hq_ : World.drewN w7 _ = w7; have dA : Aside0 (w7.heap[AA]? = some (.cells #[.slice none 0 0] 26 (0, 0))) := ⟨by rw [← hq_]; exact q3_7⟩; have eA : Aside0 (Below w.heap.size w w7) := ⟨by rw [← hq_]; exact q3_6⟩; clear vA HB hq_; have vA := dA; have HB := eA; clear dA eA))) | ((with_reducible refine gate_dst (N := 13) rfl ?_); refine Kd.R_make (Kd.int .i64) _ 3 rfl (N := 13) rfl 24 _ _ rfl ji4 rfl rfl Try.underlying24 (.int .i64 0) 8 info3 rfl (by decide) (by omega) 0 (ok := fun _ => True) (okp := fun _ => True) rfl (fun _ hk => hk) trivial (of_decide_eq_true q3_3) (Nat.le_trans (Nat.mul_le_mul_right _ (of_decide_eq_true q3_3 : ji4.toNat ≤ 35184372088832)) (by omega)) (Below.refl _ _) (Nat.le_refl _) ?_; intro GI w8 ho9 hb hg_ hnew_; clear hg_ hnew_; (first | rw [← Ny275.out] at ho9 | (simp only [Int.reduceToNat] at ho9; rw [← Ny275.out] at ho9)); have dA := Aside0.mk (Kd.R_lower ho9 (below_size q3_6)); have eA := Aside0.mk (blk_below (g := AA) (o := .cells #[.slice none 0 0] 26 (0, 0)) q3_7 hb); have uA := Aside0.mk (below_step q3_6 hb); clear vA HB; have UB := dA; have vA := eA; have HB := uA; clear dA eA uA; clear hb ho9; obtain ⟨NE, SB, VB⟩ := Kd.R_slice UB.out; subst VB) | ((with_reducible refine gate_dst (N := 4) rfl ?_); refine box_event ?hg (N := 4) ?hd (cs := #[.slice none 0 0]) (t := 26) ?hr ?_; (case hd => rfl); (case hg => rfl); (case hr => first | (go_simp; done) | (go_simp; rfl)); intro hB hg FA hbox hb; have dA := Aside0.mk (Kd.R_below (by (with_reducible repeat (first | apply Kd.R_alloc | apply Kd.R_drewN | apply Kd.R_drew)); exact UB.out) hb); have eA := Aside0.mk (blk_below (g := AA) (o := .cells #[.slice none 0 0] 26 (0, 0)) q3_7 hb); have uA := Aside0.mk (below_step q3_6 hb); have BA := Aside0.mk (hbox); have fB := Aside0.mk ((by rw [hg]; exact (below_size q3_6) : w.heap.size ≤ hB)); have qB := Aside0.mk ((by rw [hg]; exact (below_size q3_6) : w.heap.size ≤ hB)); have uB := Aside0.mk ((by rw [hg]; exact Nat.ne_of_lt (blk_lt (g := AA) (o := .cells #[.slice none 0 0] 26 (0, 0)) q3_7) : AA ≠ hB)); have hC := Aside0.mk ((by rw [hg]; exact Nat.ne_of_gt (blk_lt (g := AA) (o := .cells #[.slice none 0 0] 26 (0, 0)) q3_7) : hB ≠ AA)); clear UB vA HB; have UB := dA; have vA := eA; have HB := uA; have MA := BA; have oI := fB; have sE := qB; have XA := uB; have pB := hC; clear dA eA uA BA fB qB uB hC; clear hb hbox hg; have pI := pB.out; have qI := XA.out; have tD : FA.cell? ⟨hB, 0, none⟩ = some (.slice none 0 0) := (blk_cell MA.out 0).trans rfl; have uD := blk_frozen MA.out 0))
    go_loopg [16] k (fun kq v16 w' => ∃ (LA : Int) (fA : List Int) (mB : Value), v16 = .int .i64 LA ∧ Aside0 (impl_RiNew.l0 kq a0 LA fA = some (r1, r2)) ∧ Aside0 (kq ≤ k) ∧ Aside0 (Kd.R (Kd.int .i64) 3 w' w.heap.size (fun _ => True) mB fA) ∧ Aside0 (w'.heap[AA]? = some (.cells #[(.slice none 0 0)] 26 (0, 0))) ∧ Aside0 (w'.heap[hB]? = some (.cells #[mB] 26 (0, 0))) ∧ Aside0 (Below w.heap.size w w'))
    case atStart => exact ⟨(0), (y275), (.slice NE y275.length SB), q3_13, H', ⟨Nat.le_refl _⟩, ⟨by (with_reducible repeat (first | apply Kd.R_alloc | apply Kd.R_drewN | apply Kd.R_drew)); exact Kd.R_mono (Kd.R_far (p := ⟨hB, 0, none⟩) (Kd.R_types UB.out MA.out (by decide)) (fun _ hk => hk.2) (.slice NE y275.length SB)) (fun _ hk => trivial)⟩, ⟨by (with_reducible repeat (first | refine blk_drewN ?_ _ | refine blk_drew ?_ | refine blk_alloc ?_ _)); refine blk_far ?_ XA.out _; (with_reducible repeat (first | refine blk_drewN ?_ _ | refine blk_drew ?_ | refine blk_alloc ?_ _)); exact vA.out⟩, ⟨by (with_reducible repeat (first | refine blk_drewN ?_ _ | refine blk_drew ?_ | refine blk_alloc ?_ _)); refine blk_put (cs := #[.slice none 0 0]) ?_ 0 _ rfl; (with_reducible repeat (first | refine blk_drewN ?_ _ | refine blk_drew ?_ | refine blk_alloc ?_ _)); exact MA.out⟩, ⟨q3_17⟩⟩
    case round =>
     clear H'
     (try clear c1); (try clear p2); (try clear c3); (try clear c5); (try clear MH); (try clear NH); (try clear c6); (try clear yB); (try clear kE); (try clear p6); (try clear c8); (try clear c9); (try clear c12); (try clear tD); (try clear uD)
     obtain ⟨LA, fA, mB, rfl, HA, HK1, qA, vA, MA, HB⟩ := hrel
     cases gk with
     | zero => exact absurd HA.out (by simp [impl_RiNew.l0])
     | succ k1 =>
      have H := HA.out
      clear HA
      simp only [impl_RiNew.l0] at H
      by_cases c14 : LA < a0
      ·rw [if_pos c14] at H
       have OE : decide (LA < a0) = true := decide_eq_true c14
       clear c14
       obtain ⟨ji15, hji15⟩ : ∃ j_ : Int, (wrap64 (2 + (wrap64 (2 * LA)))) = j_ := ⟨_, rfl⟩
       replace H : (if 0 ≤ (ji15) then (if (ji15) < (fA.length : Int) then (impl_RiNew.l0 k1 a0 (wrap64 (LA + 1)) (fA.set ((ji15) : Int).toNat LA)) else (none)) else (none)) = some (r1, r2) := by first | (rw [hji15] at H; exact H) | (simp only [hji15] at H ⊢; exact H)
       have hji15w : (IntKind.i64.wrap (2 + (wrap64 (2 * LA)))) = ji15 := (i64_w _).trans hji15
       by_cases c16 : 0 ≤ (ji15)
       ·rw [if_pos c16] at H
        have ID : decide (0 ≤ (ji15)) = true := decide_eq_true c16
        clear c16
        by_cases c17 : (ji15) < (fA.length : Int)
        ·rw [if_pos c17] at H
         have GE : decide ((ji15) < (fA.length : Int)) = true := decide_eq_true c17
         clear c17
         obtain ⟨y279, hy279⟩ : ∃ y_ : List Int, y_ = (fA.set ((ji15) : Int).toNat LA) := ⟨_, rfl⟩
         replace H : (impl_RiNew.l0 k1 a0 (wrap64 (LA + 1)) y279) = some (r1, r2) := by first | (rw [hy279]; with_reducible exact H) | (have H2_ := (Option.bind_some _ _).symm.trans H; rw [hy279]; with_reducible exact H2_) | (have H2_ := (Option.bind_some _ _).symm.trans H; with_reducible exact H2_) | with_reducible exact H | (rw [hy279]; exact H) | exact H
         have Ny279 := Aside0.mk hy279
         clear hy279
         have H' := Aside0.mk H
         clear H
         have rI := pB.out
         have sI := XA.out
         have lG : wr.cell? ⟨hB, 0, none⟩ = some (mB) := (blk_cell MA.out 0).trans rfl
         have mG := blk_frozen MA.out 0
         have p18 : 0 ≤ ((ji15) : Int) := of_decide_eq_true q3_3
         have q18 : ((ji15) : Int) < ((fA.length : Int) : Int) := of_decide_eq_true q3_3
         obtain ⟨go18, oE, PE, QE, gl18, cl18, HG18⟩ := Kd.R_form qA.out (by omega)
         (first | cases PE | (injection PE with ea_ en_ ec_; (first | subst ea_ | (injection ea_ with ea_; subst ea_)); subst ec_; clear en_))
         have GB18 := Aside0.mk QE
         have GG18 := Aside0.mk HG18
         clear QE gl18 HG18
         obtain ⟨OH, PH⟩ := Kd.R_celln 0 qA.out ((ji15) : Int) p18 q18
         replace p18 := eq_true p18
         replace q18 := eq_true q18
         have HP21 := Kd.R_putg qA.out ((ji15) : Int) LA
         go_wp2_with (first | ((with_reducible refine gate_store (t := 3) (p := 25) rfl ?_); refine store_event (t := 3) (p := 25) (v := ?vo_w22) (w1 := (wr.setCell ⟨go18, ((ji15) : Int).toNat, none⟩ (.int .i64 LA))) ?hg ?ho ?hn ?hr ?_; (case ho => rfl); (case hg => rfl); (case hn => rfl); (case hr => first | (go_simp; done) | (go_simp; rfl)); intro QH hw; have hg : wr.grownBy QH (some go18) := (by rw [hw]; exact HP21.2); have hp_ : Kd.R (Kd.int .i64) 3 QH w.heap.size (fun _ => True) (.slice (some ⟨go18, 0, none⟩) fA.length oE) y279 := (by rw [hw, Ny279.out]; exact HP21.1); clear HP21; have dA := Aside0.mk (hp_); have eA := Aside0.mk (blk_grown (g := AA) (o := .cells #[.slice none 0 0] 26 (0, 0)) q3_7 hg (Kd.R_ne qA.out vA.out (by decide))); have uA := Aside0.mk (blk_grown (g := hB) (o := .cells #[.slice (some ⟨go18, 0, none⟩) fA.length oE] 26 (0, 0)) (by (with_reducible repeat (first | refine blk_drewN ?_ _ | refine blk_drew ?_ | refine blk_alloc ?_ _)); exact MA.out) hg (Kd.R_ne qA.out MA.out (by decide))); have BA := Aside0.mk ((by rw [hw]; exact below_set (HB.out) GB18.out : Below w.heap.size w QH)); clear qA vA MA HB; have qA := dA; have vA := eA; have MA := uA; have HB := BA; clear dA eA uA BA; clear hg hw hp_))
         go_roundg k1
         case measure => have := HK1.out; omega
         case rel => exact ⟨(wrap64 (LA + 1)), (y279), (.slice (some ⟨go18, 0, none⟩) fA.length oE), q3_13, H', ⟨by have := HK1.out; omega⟩, ⟨by (with_reducible repeat (first | apply Kd.R_alloc | apply Kd.R_drewN | apply Kd.R_drew)); exact qA.out⟩, ⟨q3_7⟩, ⟨by (with_reducible repeat (first | refine blk_drewN ?_ _ | refine blk_drew ?_ | refine blk_alloc ?_ _)); exact MA.out⟩, ⟨q3_17⟩⟩
        ·rw [if_neg c17] at H
         exact absurd H (by simp)
       ·rw [if_neg c16] at H
        exact absurd H (by simp)
      ·rw [if_neg c14] at H
       have OE : decide (LA < a0) = false := decide_eq_false c14
       clear c14
       simp only [Option.some.injEq, Prod.mk.injEq] at H
       obtain ⟨rfl, rfl⟩ := H
       have tI := pB.out
       have uI := XA.out
       have nG : wr.cell? ⟨hB, 0, none⟩ = some (mB) := (blk_cell MA.out 0).trans rfl
       have oG := blk_frozen MA.out 0
       obtain ⟨RE, SE, RH⟩ := Kd.R_slice qA.out
       subst RH
       have pG : wr.cell? ⟨AA, 0, none⟩ = some (.slice none 0 0) := (blk_cell vA.out 0).trans rfl
       have qG := blk_frozen vA.out 0
       go_wp2
       refine bodyPost_ret (results_ct rfl _ _ AA 26 #[.slice RE fA.length SE] (0, 0) _ rfl q3_22 Try.underlying26 rfl (by kernel_rfl)) rfl ?_
       exact ⟨_, by first | rfl | (simp [errW_none, errW_some] <;> rfl) | (simp only [← hji4]; first | rfl | (simp [errW_none, errW_some] <;> rfl)) | (simp [*, errW_none, errW_some] <;> rfl), by (with_reducible repeat (first | apply Kd.R_alloc | apply Kd.R_drewN | apply Kd.R_drew)); exact Kd.R_mono (Kd.R_far (p := ⟨AA, 0, none⟩) (Kd.R_types qA.out vA.out (by decide)) (fun _ hk => hk.2) (.slice RE fA.length SE)) (fun _ hk => trivial), q3_17⟩
   ·rw [if_neg c6] at H
    exact absurd H (by simp)
  ·rw [if_neg c5] at H
   exact absurd H (by simp)
 ·replace c3 := Bool.eq_false_iff.mpr c3
  subst c3
  rw [if_neg (show ¬ (false = true) by decide)] at H
  simp only [Option.some.injEq, Prod.mk.injEq] at H
  obtain ⟨rfl, rfl⟩ := H
  go_enter Try.func83, Try.ntmps83
  go_wp2_with (first | ((with_reducible refine gate_dst (N := 2) rfl ?_); refine box_event ?hg (N := 2) ?hd (cs := #[.slice none 0 0]) (t := 26) ?hr ?_; (case hd => rfl); (case hg => rfl); (case hr => first | (go_simp; done) | (go_simp; rfl)); intro AA hg qE hbox hb; have dA := Aside0.mk (below_step q3_0 hb); have eA := Aside0.mk (hbox); have uA := Aside0.mk ((q3_14 : w.heap.size ≤ AA)); have BA := Aside0.mk ((q3_14 : w.heap.size ≤ AA)); clear HB; have HB := dA; have vA := eA; have ME := uA; have OC := BA; clear dA eA uA BA; clear hb hbox hg) | ((with_reducible refine gate_callee (f := 90) rfl ?_); refine goesL_ (some 7) rfl rfl Try.func90 (by kernel_rfl) rfl #[.int .i64 a0, .int .i64 2, .int .i64 16] rfl q3_5 ?_; (with_reducible refine (impl_within.calls a0 2 16 false _ A2.out).mono ?_); rintro e w' ⟨rfl, ⟨nd, rfl⟩⟩; refine ⟨_, rfl, ?_⟩; (try (rw [drewN_self qE]; generalize hq_ : World.drewN qE _ = qE; have dA : Aside0 (qE.heap[AA]? = some (.cells #[.slice none 0 0] 26 (0, 0))) := ⟨by rw [← hq_]; exact q3_7⟩; have eA : Aside0 (Below w.heap.size w qE) := ⟨by rw [← hq_]; exact q3_6⟩; clear vA HB hq_; have vA := dA; have HB := eA; clear dA eA)); have rG : qE.cell? ⟨AA, 0, none⟩ = some (.slice none 0 0) := (blk_cell vA.out 0).trans rfl; have sG := blk_frozen vA.out 0))
  refine bodyPost_ret (results_ct rfl _ _ AA 26 #[.slice none 0 0] (0, 0) _ rfl q3_22 Try.underlying26 rfl (by kernel_rfl)) rfl ?_
  exact ⟨_, q3_11, by first | exact Kd.R_nil _ _ _ _ _ | exact Kd.N_nil _ _ _ _ _ | exact Kd.V_nil _ _ _ _ _ | exact Kd.Q_nil _ _ _ _ _ | exact Kd.S_nil _ _ _ _ _, q3_6⟩

end Go.Proofs.Ytgghglocfdcegaa.PFnExactCrewNew
