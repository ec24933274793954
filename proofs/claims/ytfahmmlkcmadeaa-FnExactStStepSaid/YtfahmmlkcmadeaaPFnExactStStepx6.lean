-- Written by the session's own patched copy of the printer (wip/patch_print.py).
import Derived.Test.YtfahmmlkcmadeaaPFnExactStStepx0
namespace Go.Proofs.Ytfahmmlkcmadeaa.PFnExactStStep
open Go.RowKit Go.Proofs.YtfahmmlkcmadeaaW.PrintWords Go.Proofs.YtfahmmlkcmadeaaW.PrintLast Go.Proofs.YtfahmmlkcmadeaaW.PrintMore
attribute [local go_sem] max2_int min2_int max_two min_two max_three min_three max_four min_four   -- for this text's walks alone
set_option linter.unusedVariables false
set_option linter.unusedSimpArgs false

theorem q6_0 {p : Prop} (h : p := by repeat (first | (with_reducible first | exact HB.out | apply below_alloc | apply pw_below_drewN | apply below_drew1) | exact HB.out)) : p := h
theorem q6_1 {p : Prop} (h : p := by (try simp only [List.map_toArray, List.map_cons, List.map_nil]); first | done | rfl | (simp only [List.length_drop, List.length_take]; rfl)) : p := h
theorem q6_2 {p : Prop} (h : p := by (with_reducible repeat (first | refine blk_drewN ?_ _ | refine blk_drew ?_ | refine blk_alloc ?_ _)); exact eA.out) : p := h
theorem q6_3 {p : Prop} (h : p := by repeat (first | exact Drawn0.refl _ | apply Drawn0.step)) : p := h
theorem q6_4 {p : Prop} (h : p := by first | rfl | (simp; done) | (simp [*]; done)) : p := h
theorem q6_5 {p : Prop} (h : p := by repeat (first | (with_reducible first | exact HB.out | apply below_alloc | apply pw_below_drewN | apply below_drew1 | refine below_set ?_ xA.out | refine below_set ?_ DA.out | refine below_set ?_ NA.out) | exact HB.out)) : p := h
theorem q6_6 {p : Prop} (h : p := by repeat (first | (with_reducible first | exact HB.out | apply below_alloc | apply pw_below_drewN | apply below_drew1 | refine below_set ?_ xA.out | refine below_set ?_ DA.out) | exact HB.out)) : p := h
theorem q6_7 {p : Prop} (h : p := by (with_reducible repeat (first | refine blk_drewN ?_ _ | refine blk_drew ?_ | refine blk_alloc ?_ _)); exact fA.out) : p := h
theorem q6_8 {p : Prop} (h : p := by repeat (first | (with_reducible first | exact HB.out | apply below_alloc | apply pw_below_drewN | apply below_drew1 | refine below_set ?_ xA.out) | exact HB.out)) : p := h
theorem q6_9 {p : Prop} (h : p := by first | (with_reducible assumption) | assumption) : p := h
/-! ### laws_toIntS: function 67 -/
def laws_toIntS.l0 : Nat → List Int → List Int → Int → Option (List Int)
 | 0, _, _, _ => none
 | k + 1, x0, x3, x4 => if x4 < (x0.length : Int) then (if 0 ≤ x4 then (if x4 < (x3.length : Int) then (laws_toIntS.l0 k x0 (x3.set (x4 : Int).toNat (rd x0 x4)) (wrap64 (x4 + 1))) else (none)) else (none)) else (some x3)
def laws_toIntS.f (k : Nat) (l0 : List Int) : Option (List Int) := if 0 ≤ (l0.length : Int) then (if ((l0.length : Int) : Int).toNat ≤ 35184372088832 then (laws_toIntS.l0 k l0 (List.replicate ((l0.length : Int) : Int).toNat 0) 0) else (none)) else (none)
theorem laws_toIntS.mono_l : ∀ k, (∀ y0 y1 y2, LeO (laws_toIntS.l0 k y0 y1 y2) (laws_toIntS.l0 (k + 1) y0 y1 y2))
 | 0 => fun _ _ _ r h => by simp [laws_toIntS.l0] at h
 | k + 1 => by
  have ih0 := laws_toIntS.mono_l k
  ·intro y0 y1 y2
   unfold laws_toIntS.l0
   repeat' first
   | (with_reducible exact ih0 _ _ _)
   | (with_reducible exact LeO.refl _)
   | (with_reducible exact LeO.none _)
   | (with_reducible refine LeO.ite ?_ ?_)
   | (with_reducible refine LeO.bind ?_ (fun _ => ?_))
   | exact ih0 _ _ _
   | exact LeO.none _
   | refine LeO.ite ?_ ?_
   | refine LeO.bind ?_ (fun _ => ?_)
theorem laws_toIntS.mono : ∀ a0 k, LeO (laws_toIntS.f k a0) (laws_toIntS.f (k + 1) a0) := by
 intro a0 k
 have ih0 := laws_toIntS.mono_l k
 unfold laws_toIntS.f
 repeat' first
   | (with_reducible exact ih0 _ _ _)
   | (with_reducible exact LeO.refl _)
   | (with_reducible exact LeO.none _)
   | (with_reducible refine LeO.ite ?_ ?_)
   | (with_reducible refine LeO.bind ?_ (fun _ => ?_))
   | exact ih0 _ _ _
   | exact LeO.none _
   | refine LeO.ite ?_ ?_
   | refine LeO.bind ?_ (fun _ => ?_)
set_option maxHeartbeats 8000000 in
set_option maxRecDepth 100000 in
theorem laws_toIntS.calls (k : Nat) (A0 : Option Addr) (c0 : Nat) (l0 : List Int) (r : List Int) (w : World) (hr0 : Kd.C (Kd.int .i64) w A0 l0.length l0) (hc0 : l0.length ≤ c0) (h : laws_toIntS.f k l0 = some r) :
  Calls Try.prog 67 #[.slice A0 l0.length c0] w fun e w' => ∃ v0_ : Value, e = .returned (v0_) ∧ Kd.R (Kd.int .i64) 3 w' w.heap.size (fun _ => True) v0_ r ∧ Below w.heap.size w w' := by
 have HR0 := Aside0.mk hr0
 clear hr0 hc0
 have HB := Aside0.mk (Below.refl w.heap.size w)
 have H : (if 0 ≤ (l0.length : Int) then (if ((l0.length : Int) : Int).toNat ≤ 35184372088832 then (laws_toIntS.l0 k l0 (List.replicate ((l0.length : Int) : Int).toNat 0) 0) else (none)) else (none)) = some r := h
 clear h
 by_cases c2 : 0 ≤ (l0.length : Int)
 ·rw [if_pos c2] at H
  have JA := eq_true c2
  have XA : decide (0 ≤ (l0.length : Int)) = true := decide_eq_true c2
  clear c2
  by_cases c3 : ((l0.length : Int) : Int).toNat ≤ 35184372088832
  ·rw [if_pos c3] at H
   have KA := eq_true c3
   have YA : decide (((l0.length : Int) : Int).toNat ≤ 35184372088832) = true := decide_eq_true c3
   clear c3
   obtain ⟨y235, hy235⟩ : ∃ y_ : List Int, y_ = (List.replicate ((l0.length : Int) : Int).toNat 0) := ⟨_, rfl⟩
   replace H : (laws_toIntS.l0 k l0 y235 0) = some r := by first | (rw [hy235]; with_reducible exact H) | (have H2_ := (Option.bind_some _ _).symm.trans H; rw [hy235]; with_reducible exact H2_) | (have H2_ := (Option.bind_some _ _).symm.trans H; with_reducible exact H2_) | with_reducible exact H | (rw [hy235]; exact H) | exact H
   have Ny235 := Aside0.mk hy235
   clear hy235
   have H' := Aside0.mk H
   clear H
   go_enter Try.func67, Try.ntmps67
   go_wp2_with (first | ((with_reducible refine gate_dst (N := 7) rfl ?_); refine Kd.R_make (Kd.int .i64) _ 3 rfl (N := 7) rfl 27 _ _ rfl (l0.length : Int) rfl rfl Try.underlying27 (.int .i64 0) 8 info3 rfl (by decide) (by omega) 0 (ok := fun _ => True) (okp := fun _ => True) rfl (fun _ hk => hk) trivial (of_decide_eq_true q6_9) (Nat.le_trans (Nat.mul_le_mul_right _ (of_decide_eq_true q6_9 : (l0.length : Int).toNat ≤ 35184372088832)) (by omega)) (Below.refl _ _) (Nat.le_refl _) ?_; intro ZA w4 ho5 hb hg_ hnew_; clear hg_ hnew_; (first | rw [← Ny235.out] at ho5 | (simp only [Int.reduceToNat] at ho5; rw [← Ny235.out] at ho5)); have mA := Aside0.mk (Kd.R_lower ho5 (below_size q6_0)); have nA := Aside0.mk (below_step q6_0 hb); clear HB; have OA := mA; have HB := nA; clear mA nA; clear hb ho5))
   go_loopg [4] k (fun kq v4 w' => ∃ (oA : List Int) (aA : Int), v4 = .int .i64 aA ∧ Aside0 (laws_toIntS.l0 kq l0 oA aA = some r) ∧ Aside0 (kq ≤ k) ∧ Aside0 (Kd.R (Kd.int .i64) 3 w' w.heap.size (fun _ => True) ZA oA) ∧ Aside0 (Below w.heap.size w w'))
   case atStart => exact ⟨(y235), (0), q6_4, H', ⟨Nat.le_refl _⟩, ⟨by (with_reducible repeat (first | apply Kd.R_alloc | apply Kd.R_drewN | apply Kd.R_drew)); exact OA.out⟩, ⟨q6_0⟩⟩
   case round =>
    clear H'
    (try clear c2); (try clear JA); (try clear XA); (try clear p2); (try clear c3); (try clear KA); (try clear YA)
    obtain ⟨oA, aA, rfl, HA, HK1, rA, HB⟩ := hrel
    cases gk with
    | zero => exact absurd HA.out (by simp [laws_toIntS.l0])
    | succ k1 =>
     have H := HA.out
     clear HA
     simp only [laws_toIntS.l0] at H
     by_cases c6 : aA < (l0.length : Int)
     ·rw [if_pos c6] at H
      have aB : decide (aA < (l0.length : Int)) = true := decide_eq_true c6
      clear c6
      by_cases c7 : 0 ≤ aA
      ·rw [if_pos c7] at H
       have wB : decide (0 ≤ aA) = true := decide_eq_true c7
       clear c7
       by_cases c8 : aA < (oA.length : Int)
       ·rw [if_pos c8] at H
        have xB : decide (aA < (oA.length : Int)) = true := decide_eq_true c8
        clear c8
        obtain ⟨y239, hy239⟩ : ∃ y_ : List Int, y_ = (oA.set (aA : Int).toNat (rd l0 aA)) := ⟨_, rfl⟩
        replace H : (laws_toIntS.l0 k1 l0 y239 (wrap64 (aA + 1))) = some r := by first | (rw [hy239]; with_reducible exact H) | (have H2_ := (Option.bind_some _ _).symm.trans H; rw [hy239]; with_reducible exact H2_) | (have H2_ := (Option.bind_some _ _).symm.trans H; with_reducible exact H2_) | with_reducible exact H | (rw [hy239]; exact H) | exact H
        have Ny239 := Aside0.mk hy239
        clear hy239
        have H' := Aside0.mk H
        clear H
        have p238 : 0 ≤ (aA : Int) := of_decide_eq_true q6_9
        have q238 : aA < (l0.length : Int) := of_decide_eq_true q6_9
        obtain ⟨ad238, bB, lA⟩ := Kd.at_int HR0.out aA p238 q238
        cases bB
        replace lA := (HB.out.cell (World.block_lt_of_cell? w _ lA)).trans lA
        replace p238 := eq_true p238
        replace q238 := eq_true q238
        have p9 : 0 ≤ (aA : Int) := of_decide_eq_true q6_9
        have q9 : (aA : Int) < ((oA.length : Int) : Int) := of_decide_eq_true q6_9
        obtain ⟨go9, yB, kB, lB, gl9, cl9, HG9⟩ := Kd.R_form rA.out (by omega)
        (first | cases kB | (injection kB with ea_ en_ ec_; (first | subst ea_ | (injection ea_ with ea_; subst ea_)); subst ec_; clear en_))
        have GB9 := Aside0.mk lB
        have GG9 := Aside0.mk HG9
        clear lB gl9 HG9
        obtain ⟨mB, nB⟩ := Kd.R_celln 0 rA.out (aA : Int) p9 q9
        replace p9 := eq_true p9
        replace q9 := eq_true q9
        have HP10 := Kd.R_putg rA.out (aA : Int) (rd l0 aA)
        go_wp2_with (first | ((with_reducible refine gate_store (t := 3) (p := 20) rfl ?_); refine store_event (t := 3) (p := 20) (v := ?vo_w11) (w1 := (wr.setCell ⟨go9, (aA : Int).toNat, none⟩ (.int .i64 (rd l0 aA)))) ?hg ?ho ?hn ?hr ?_; (case ho => rfl); (case hg => rfl); (case hn => rfl); (case hr => first | (go_simp; done) | (go_simp; rfl)); intro cB hw; have hg : wr.grownBy cB (some go9) := (by rw [hw]; exact HP10.2); have hp_ : Kd.R (Kd.int .i64) 3 cB w.heap.size (fun _ => True) (.slice (some ⟨go9, 0, none⟩) oA.length yB) y239 := (by rw [hw, Ny239.out]; exact HP10.1); clear HP10; have mA := Aside0.mk (hp_); have nA := Aside0.mk ((by rw [hw]; exact below_set (HB.out) GB9.out : Below w.heap.size w cB)); clear rA HB; have rA := mA; have HB := nA; clear mA nA; clear hg hw hp_))
        go_roundg k1
        case measure => have := HK1.out; omega
        case rel => exact ⟨(y239), (wrap64 (aA + 1)), q6_4, H', ⟨by have := HK1.out; omega⟩, ⟨by (with_reducible repeat (first | apply Kd.R_alloc | apply Kd.R_drewN | apply Kd.R_drew)); exact rA.out⟩, ⟨q6_0⟩⟩
       ·rw [if_neg c8] at H
        exact absurd H (by simp)
      ·rw [if_neg c7] at H
       exact absurd H (by simp)
     ·rw [if_neg c6] at H
      have aB : decide (aA < (l0.length : Int)) = false := decide_eq_false c6
      clear c6
      obtain rfl := Option.some.inj H
      go_wp2
      go_ret
      exact ⟨_, by first | rfl | (simp [errW_none, errW_some] <;> rfl) | (simp [*, errW_none, errW_some] <;> rfl), by (with_reducible repeat (first | apply Kd.R_alloc | apply Kd.R_drewN | apply Kd.R_drew)); exact rA.out, q6_0⟩
  ·rw [if_neg c3] at H
   exact absurd H (by simp)
 ·rw [if_neg c2] at H
  exact absurd H (by simp)

/-! ### laws_toMem: function 29 -/
def laws_toMem.f (k : Nat) (dA : List Int) : Option (List Int) := (laws_toIntS.f k dA).bind fun pA => (some pA)
theorem laws_toMem.mono : ∀ a0 k, LeO (laws_toMem.f k a0) (laws_toMem.f (k + 1) a0) := by
 intro a0 k
 unfold laws_toMem.f
 repeat' first
   | (with_reducible exact laws_toIntS.mono _ _)
   | (with_reducible exact LeO.refl _)
   | (with_reducible exact LeO.none _)
   | (with_reducible refine LeO.ite ?_ ?_)
   | (with_reducible refine LeO.bind ?_ (fun _ => ?_))
   | exact laws_toIntS.mono _ _
   | exact LeO.none _
   | refine LeO.ite ?_ ?_
   | refine LeO.bind ?_ (fun _ => ?_)
set_option maxHeartbeats 8000000 in
set_option maxRecDepth 100000 in
theorem laws_toMem.calls (k : Nat) (hA : Option Addr) (iA : Nat) (dA : List Int) (r : List Int) (w : World) (EA : Kd.C (Kd.int .i64) w hA dA.length dA) (FA : dA.length ≤ iA) (h : laws_toMem.f k dA = some r) :
  Calls Try.prog 29 #[.agg #[.slice hA dA.length iA]] w fun e w' => ∃ v0_ : Value, e = .returned (.agg #[v0_]) ∧ Kd.R (Kd.int .i64) 3 w' w.heap.size (fun _ => True) v0_ r ∧ Below w.heap.size w w' := by
 have hu43 := Try.underlying43
 have hu29 := Try.underlying29
 have PA := Aside0.mk EA
 have QA := Aside0.mk FA
 clear EA FA
 have HB := Aside0.mk (Below.refl w.heap.size w)
 have H : ((laws_toIntS.f k dA).bind fun pA => (some pA)) = some r := h
 clear h
 replace H := Option.bind_eq_some_iff.mp H
 obtain ⟨pA, A20, H⟩ := H
 (try dsimp only at H)
 have A2 := Aside0.mk A20
 clear A20
 obtain rfl := Option.some.inj H
 go_enter Try.func29, Try.ntmps29
 go_wp2_with (first | ((with_reducible refine gate_dst (N := 1) rfl ?_); refine box_event ?hg (N := 1) ?hd (cs := #[.slice hA dA.length iA]) (t := 43) ?hr ?_; (case hd => rfl); (case hg => rfl); (case hr => first | (go_simp; done) | (go_simp; rfl)); intro bA hg w3 hbox hb; have mA := Aside0.mk (below_step q6_0 hb); have nA := Aside0.mk (hbox); have yA := Aside0.mk ((by rw [hg]; exact (below_size q6_0) : w.heap.size ≤ bA)); have zA := Aside0.mk ((by rw [hg]; exact (below_size q6_0) : w.heap.size ≤ bA)); clear HB; have HB := mA; have eA := nA; have oB := yA; have xA := zA; clear mA nA yA zA; clear hb hbox hg) | ((with_reducible refine gate_dst (N := 2) rfl ?_); refine box_event ?hg (N := 2) ?hd (cs := #[.slice none 0 0]) (t := 29) ?hr ?_; (case hd => rfl); (case hg => rfl); (case hr => first | (go_simp; done) | (go_simp; rfl)); intro cA hg w4 hbox hb; have mA := Aside0.mk (blk_below (g := bA) (o := .cells #[.slice hA dA.length iA] 43 (0, 0)) q6_2 hb); have nA := Aside0.mk (below_step q6_8 hb); have yA := Aside0.mk (hbox); have zA := Aside0.mk ((by rw [hg]; exact (below_size q6_8) : w.heap.size ≤ cA)); have GA := Aside0.mk ((by rw [hg]; exact (below_size q6_8) : w.heap.size ≤ cA)); have RA := Aside0.mk ((by rw [hg]; exact Nat.ne_of_lt (blk_lt (g := bA) (o := .cells #[.slice hA dA.length iA] 43 (0, 0)) q6_2) : bA ≠ cA)); have SA := Aside0.mk ((by rw [hg]; exact Nat.ne_of_gt (blk_lt (g := bA) (o := .cells #[.slice hA dA.length iA] 43 (0, 0)) q6_2) : cA ≠ bA)); clear eA HB; have eA := mA; have HB := nA; have fA := yA; have pB := zA; have DA := GA; have sA := RA; have tA := SA; clear mA nA yA zA GA RA SA; clear hb hbox hg) | ((with_reducible refine gate_dst (N := 3) rfl ?_); refine box_event ?hg (N := 3) ?hd (cs := #[.slice none 0 0]) (t := 29) ?hr ?_; (case hd => rfl); (case hg => rfl); (case hr => first | (go_simp; done) | (go_simp; rfl)); intro gA hg w5 hbox hb; have mA := Aside0.mk (blk_below (g := bA) (o := .cells #[.slice hA dA.length iA] 43 (0, 0)) q6_2 hb); have nA := Aside0.mk (blk_below (g := cA) (o := .cells #[.slice none 0 0] 29 (0, 0)) q6_7 hb); have yA := Aside0.mk (below_step q6_6 hb); have zA := Aside0.mk (hbox); have GA := Aside0.mk ((by rw [hg]; exact (below_size q6_6) : w.heap.size ≤ gA)); have RA := Aside0.mk ((by rw [hg]; exact (below_size q6_6) : w.heap.size ≤ gA)); have SA := Aside0.mk ((by rw [hg]; exact Nat.ne_of_lt (blk_lt (g := bA) (o := .cells #[.slice hA dA.length iA] 43 (0, 0)) q6_2) : bA ≠ gA)); have qB := Aside0.mk ((by rw [hg]; exact Nat.ne_of_gt (blk_lt (g := bA) (o := .cells #[.slice hA dA.length iA] 43 (0, 0)) q6_2) : gA ≠ bA)); have rB := Aside0.mk ((by rw [hg]; exact Nat.ne_of_lt (blk_lt (g := cA) (o := .cells #[.slice none 0 0] 29 (0, 0)) q6_7) : cA ≠ gA)); have sB := Aside0.mk ((by rw [hg]; exact Nat.ne_of_gt (blk_lt (g := cA) (o := .cells #[.slice none 0 0] 29 (0, 0)) q6_7) : gA ≠ cA)); clear eA fA HB; have eA := mA; have fA := nA; have HB := yA; have jA := zA; have tB := GA; have NA := RA; have uA := SA; have vA := qB; have kA := rB; have wA := sB; clear mA nA yA zA GA RA SA qB rB sB; clear hb hbox hg; have zB := sA.out; have AB := tA.out; have BB := uA.out; have CB := vA.out; have dB : w5.cell? ⟨bA, 0, none⟩ = some (.slice hA dA.length iA) := (blk_cell eA.out 0).trans rfl; have eB := blk_frozen eA.out 0) | ((with_reducible refine gate_callee (f := 67) rfl ?_); refine goesL_ (some 6) rfl rfl Try.func67 (by kernel_rfl) rfl #[.slice hA dA.length iA] rfl q6_1 ?_; (with_reducible refine (laws_toIntS.calls k _ _ dA pA _ ?side1 ?side2 A2.out).mono ?_); (case side1 => repeat (first | exact (Kd.C_below PA.out HB.out) | (with_reducible refine Kd.C_alloc ?_ _) | (with_reducible refine Kd.C_drewN ?_ _) | (with_reducible refine Kd.C_drew ?_))); (case side2 => exact QA.out); rintro e w9 ⟨DB, rfl, ho0, hb⟩; refine ⟨_, rfl, ?_⟩; have mA := Aside0.mk (Kd.R_lower ho0 (below_size q6_5)); have nA := Aside0.mk (blk_below (g := bA) (o := .cells #[.slice hA dA.length iA] 43 (0, 0)) q6_2 hb); have yA := Aside0.mk (blk_below (g := cA) (o := .cells #[.slice none 0 0] 29 (0, 0)) q6_7 hb); have zA := Aside0.mk (blk_below (g := gA) (o := .cells #[.slice none 0 0] 29 (0, 0)) (by (with_reducible repeat (first | refine blk_drewN ?_ _ | refine blk_drew ?_ | refine blk_alloc ?_ _)); exact jA.out) hb); have GA := Aside0.mk (below_step q6_5 hb); clear eA fA jA HB; have IA := mA; have eA := nA; have fA := yA; have jA := zA; have HB := GA; clear mA nA yA zA GA; (try clear hb); (try clear hb2); (try clear hk); (try clear hi); (try clear ho0); obtain ⟨LA, MA, fB⟩ := Kd.R_slice IA.out; subst fB; have uB := wA.out; have vB := kA.out; have TA : w9.cell? ⟨gA, 0, none⟩ = some (.slice none 0 0) := (blk_cell jA.out 0).trans rfl; have UA := blk_frozen jA.out 0; have VA : w9.cell? ⟨cA, 0, none⟩ = some (.slice none 0 0) := (blk_cell fA.out 0).trans rfl; have WA := blk_frozen fA.out 0))
 refine bodyPost_ret (results_cell_row rfl _ _ cA 29 #[.slice LA pA.length MA] (0, 0) _ rfl (by (with_reducible repeat (first | refine blk_drewN ?_ _ | refine blk_drew ?_ | refine blk_alloc ?_ _)); refine blk_put (cs := #[.slice none 0 0]) ?_ 0 _ rfl; (with_reducible repeat (first | refine blk_drewN ?_ _ | refine blk_drew ?_ | refine blk_alloc ?_ _)); refine blk_far ?_ kA.out _; (with_reducible repeat (first | refine blk_drewN ?_ _ | refine blk_drew ?_ | refine blk_alloc ?_ _)); exact fA.out) Try.underlying29 rfl (by kernel_rfl)) rfl ?_
 exact ⟨_, by first | rfl | (simp [errW_none, errW_some] <;> rfl) | (simp [*, errW_none, errW_some] <;> rfl), by (with_reducible repeat (first | apply Kd.R_alloc | apply Kd.R_drewN | apply Kd.R_drew)); exact Kd.R_mono (Kd.R_far (p := ⟨cA, 0, none⟩) (Kd.R_far (p := ⟨gA, 0, none⟩) (Kd.R_types (Kd.R_types IA.out jA.out (by decide)) fA.out (by decide)) (fun _ hk => hk.1.2) (.slice LA pA.length MA)) (fun _ hk => hk.2) (.slice LA pA.length MA)) (fun _ hk => trivial), q6_5⟩

/-! ### impl_within: function 51 -/
def impl_within.f (a0 : Int) (a1 : Int) (a2 : Int) : Option (Bool) := if a0 ≥ a1 then (some (decide (a0 ≤ a2))) else (some false)
set_option maxHeartbeats 8000000 in
set_option maxRecDepth 100000 in
theorem impl_within.calls (a0 : Int) (a1 : Int) (a2 : Int) (r : Bool) (w : World) (h : impl_within.f a0 a1 a2 = some r) :
  Calls Try.prog 51 #[.int .i64 a0, .int .i64 a1, .int .i64 a2] w fun e w' => e = .returned (.bool r) ∧ Drawn0 w w' := by
 have H : (if a0 ≥ a1 then (some (decide (a0 ≤ a2))) else (some false)) = some r := h
 clear h
 by_cases c4 : a0 ≥ a1
 ·rw [if_pos c4] at H
  have gB : decide (a1 ≤ a0) = true := decide_eq_true c4
  clear c4
  obtain rfl := Option.some.inj H
  go_enter Try.func51, Try.ntmps51
  go_wp2
  go_ret
  exact ⟨q6_4, q6_3⟩
 ·rw [if_neg c4] at H
  have gB : decide (a1 ≤ a0) = false := decide_eq_false c4
  clear c4
  obtain rfl := Option.some.inj H
  go_enter Try.func51, Try.ntmps51
  go_wp2
  go_ret
  exact ⟨q6_4, q6_3⟩

/-! ### impl_Unpack: function 73 -/
def impl_Unpack.f (a0 : Int) : Option (Int × Int × Bool) := if a0 < 0 then (some (0, 0, false)) else (if (wrap64 (Int.tdiv a0 1048576)) > 1073741823 then (some (0, 0, false)) else (some (wrap64 (Int.tdiv a0 1048576), Int.tmod a0 1048576, true)))
set_option maxHeartbeats 8000000 in
set_option maxRecDepth 100000 in
theorem impl_Unpack.calls (a0 : Int) (r1 : Int) (r2 : Int) (r3 : Bool) (w : World) (h : impl_Unpack.f a0 = some (r1, r2, r3)) :
  Calls Try.prog 73 #[.int .i64 a0] w fun e w' => e = .returned (.tuple #[.int .i64 r1, .int .i64 r2, .bool r3]) ∧ Drawn0 w w' := by
 have H : (if a0 < 0 then (some (0, 0, false)) else (if (wrap64 (Int.tdiv a0 1048576)) > 1073741823 then (some (0, 0, false)) else (some (wrap64 (Int.tdiv a0 1048576), Int.tmod a0 1048576, true)))) = some (r1, r2, r3) := h
 clear h
 by_cases c2 : a0 < 0
 ·rw [if_pos c2] at H
  have JA : decide (a0 < 0) = true := decide_eq_true c2
  clear c2
  simp only [Option.some.injEq, Prod.mk.injEq] at H
  obtain ⟨rfl, rfl, rfl⟩ := H
  go_enter Try.func73, Try.ntmps73
  go_wp2
  go_ret3
  exact ⟨q6_4, q6_3⟩
 ·rw [if_neg c2] at H
  have JA : decide (a0 < 0) = false := decide_eq_false c2
  clear c2
  by_cases c3 : (wrap64 (Int.tdiv a0 1048576)) > 1073741823
  ·rw [if_pos c3] at H
   have KA : decide (1073741823 < (wrap64 (Int.tdiv a0 1048576))) = true := decide_eq_true c3
   clear c3
   simp only [Option.some.injEq, Prod.mk.injEq] at H
   obtain ⟨rfl, rfl, rfl⟩ := H
   go_enter Try.func73, Try.ntmps73
   go_wp2
   go_ret3
   exact ⟨q6_4, q6_3⟩
  ·rw [if_neg c3] at H
   have KA : decide (1073741823 < (wrap64 (Int.tdiv a0 1048576))) = false := decide_eq_false c3
   clear c3
   simp only [Option.some.injEq, Prod.mk.injEq] at H
   obtain ⟨rfl, rfl, rfl⟩ := H
   go_enter Try.func73, Try.ntmps73
   go_wp2
   go_ret3
   exact ⟨q6_4, q6_3⟩

/-! ### impl_top: function 60 -/
def impl_top.f (a0 : Int) : Option (Int × Int) := (impl_Unpack.f a0).bind fun qA => (some (wrap64 (qA.2.1 - 1), qA.1))
set_option maxHeartbeats 8000000 in
set_option maxRecDepth 100000 in
theorem impl_top.calls (a0 : Int) (r1 : Int) (r2 : Int) (w : World) (h : impl_top.f a0 = some (r1, r2)) :
  Calls Try.prog 60 #[.int .i64 a0] w fun e w' => e = .returned (.tuple #[.int .i64 r1, .int .i64 r2]) ∧ Drawn0 w w' := by
 have H : ((impl_Unpack.f a0).bind fun qA => (some (wrap64 (qA.2.1 - 1), qA.1))) = some (r1, r2) := h
 clear h
 replace H := Option.bind_eq_some_iff.mp H
 obtain ⟨⟨hB, iB, jB⟩, A20, H⟩ := H
 (try dsimp only at H)
 have A2 := Aside0.mk A20
 clear A20
 simp only [Option.some.injEq, Prod.mk.injEq] at H
 obtain ⟨rfl, rfl⟩ := H
 go_enter Try.func60, Try.ntmps60
 go_wp2_with (first | ((with_reducible refine gate_callee (f := 73) rfl ?_); refine goesL_ (some 9) rfl rfl Try.func73 (by kernel_rfl) rfl #[.int .i64 a0] rfl q6_1 ?_; (with_reducible refine (impl_Unpack.calls a0 hB iB jB _ A2.out).mono ?_); rintro e w' ⟨rfl, ⟨nd, rfl⟩⟩; refine ⟨_, rfl, ?_⟩))
 go_ret2
 exact ⟨q6_4, q6_3⟩

/-! ### impl_Pack: function 61 -/
def impl_Pack.f (a0 : Int) (a1 : Int) : Option (Int × Bool) := (impl_within.f a0 0 1073741823).bind fun AA => (if AA = true then ((impl_within.f a1 0 1048575).bind fun BA => (if BA = true then (some (wrap64 ((wrap64 (a0 * 1048576)) + a1), true)) else (some (0, false)))) else (some (0, false)))
set_option maxHeartbeats 8000000 in
set_option maxRecDepth 100000 in
theorem impl_Pack.calls (a0 : Int) (a1 : Int) (r1 : Int) (r2 : Bool) (w : World) (h : impl_Pack.f a0 a1 = some (r1, r2)) :
  Calls Try.prog 61 #[.int .i64 a0, .int .i64 a1] w fun e w' => e = .returned (.tuple #[.int .i64 r1, .bool r2]) ∧ Drawn0 w w' := by
 have H : ((impl_within.f a0 0 1073741823).bind fun AA => (if AA = true then ((impl_within.f a1 0 1048575).bind fun BA => (if BA = true then (some (wrap64 ((wrap64 (a0 * 1048576)) + a1), true)) else (some (0, false)))) else (some (0, false)))) = some (r1, r2) := h
 clear h
 replace H := Option.bind_eq_some_iff.mp H
 obtain ⟨AA, A30, H⟩ := H
 (try dsimp only at H)
 have A3 := Aside0.mk A30
 clear A30
 by_cases c4 : AA = true
 ·subst c4
  rw [if_pos rfl] at H
  replace H := Option.bind_eq_some_iff.mp H
  obtain ⟨BA, A50, H⟩ := H
  (try dsimp only at H)
  have A5 := Aside0.mk A50
  clear A50
  by_cases c6 : BA = true
  ·subst c6
   rw [if_pos rfl] at H
   simp only [Option.some.injEq, Prod.mk.injEq] at H
   obtain ⟨rfl, rfl⟩ := H
   go_enter Try.func61, Try.ntmps61
   go_wp2_with (first | ((with_reducible refine gate_callee (f := 51) rfl ?_); refine goesL_ (some 7) rfl rfl Try.func51 (by kernel_rfl) rfl #[.int .i64 a0, .int .i64 0, .int .i64 1073741823] rfl q6_1 ?_; (with_reducible refine (impl_within.calls a0 0 1073741823 true _ A3.out).mono ?_); rintro e w' ⟨rfl, ⟨nd, rfl⟩⟩; refine ⟨_, rfl, ?_⟩) | (go_at_call 51; (with_reducible refine (impl_within.calls a1 0 1048575 true _ A5.out).mono ?_); rintro e w' ⟨rfl, ⟨nd, rfl⟩⟩))
   go_ret2
   exact ⟨q6_4, q6_3⟩
  ·replace c6 := Bool.eq_false_iff.mpr c6
   subst c6
   rw [if_neg (show ¬ (false = true) by decide)] at H
   simp only [Option.some.injEq, Prod.mk.injEq] at H
   obtain ⟨rfl, rfl⟩ := H
   go_enter Try.func61, Try.ntmps61
   go_wp2_with (first | ((with_reducible refine gate_callee (f := 51) rfl ?_); refine goesL_ (some 7) rfl rfl Try.func51 (by kernel_rfl) rfl #[.int .i64 a0, .int .i64 0, .int .i64 1073741823] rfl q6_1 ?_; (with_reducible refine (impl_within.calls a0 0 1073741823 true _ A3.out).mono ?_); rintro e w' ⟨rfl, ⟨nd, rfl⟩⟩; refine ⟨_, rfl, ?_⟩) | (go_at_call 51; (with_reducible refine (impl_within.calls a1 0 1048575 false _ A5.out).mono ?_); rintro e w' ⟨rfl, ⟨nd, rfl⟩⟩))
   go_ret2
   exact ⟨q6_4, q6_3⟩
 ·replace c4 := Bool.eq_false_iff.mpr c4
  subst c4
  rw [if_neg (show ¬ (false = true) by decide)] at H
  simp only [Option.some.injEq, Prod.mk.injEq] at H
  obtain ⟨rfl, rfl⟩ := H
  go_enter Try.func61, Try.ntmps61
  go_wp2_with (first | ((with_reducible refine gate_callee (f := 51) rfl ?_); refine goesL_ (some 7) rfl rfl Try.func51 (by kernel_rfl) rfl #[.int .i64 a0, .int .i64 0, .int .i64 1073741823] rfl q6_1 ?_; (with_reducible refine (impl_within.calls a0 0 1073741823 false _ A3.out).mono ?_); rintro e w' ⟨rfl, ⟨nd, rfl⟩⟩; refine ⟨_, rfl, ?_⟩))
  go_ret2
  exact ⟨q6_4, q6_3⟩

/-! ### impl_NextTag: function 62 -/
def impl_NextTag.f (a0 : Int) : Option (Int) := (impl_within.f a0 0 1073741822).bind fun CA => (if CA = true then (some (wrap64 (a0 + 1))) else (some 0))
set_option maxHeartbeats 8000000 in
set_option maxRecDepth 100000 in
theorem impl_NextTag.calls (a0 : Int) (r : Int) (w : World) (h : impl_NextTag.f a0 = some r) :
  Calls Try.prog 62 #[.int .i64 a0] w fun e w' => e = .returned (.int .i64 r) ∧ Drawn0 w w' := by
 have H : ((impl_within.f a0 0 1073741822).bind fun CA => (if CA = true then (some (wrap64 (a0 + 1))) else (some 0))) = some r := h
 clear h
 replace H := Option.bind_eq_some_iff.mp H
 obtain ⟨CA, A20, H⟩ := H
 (try dsimp only at H)
 have A2 := Aside0.mk A20
 clear A20
 by_cases c3 : CA = true
 ·subst c3
  rw [if_pos rfl] at H
  obtain rfl := Option.some.inj H
  go_enter Try.func62, Try.ntmps62
  go_wp2_with (first | ((with_reducible refine gate_callee (f := 51) rfl ?_); refine goesL_ (some 4) rfl rfl Try.func51 (by kernel_rfl) rfl #[.int .i64 a0, .int .i64 0, .int .i64 1073741822] rfl q6_1 ?_; (with_reducible refine (impl_within.calls a0 0 1073741822 true _ A2.out).mono ?_); rintro e w' ⟨rfl, ⟨nd, rfl⟩⟩; refine ⟨_, rfl, ?_⟩))
  go_ret
  exact ⟨q6_4, q6_3⟩
 ·replace c3 := Bool.eq_false_iff.mpr c3
  subst c3
  rw [if_neg (show ¬ (false = true) by decide)] at H
  obtain rfl := Option.some.inj H
  go_enter Try.func62, Try.ntmps62
  go_wp2_with (first | ((with_reducible refine gate_callee (f := 51) rfl ?_); refine goesL_ (some 4) rfl rfl Try.func51 (by kernel_rfl) rfl #[.int .i64 a0, .int .i64 0, .int .i64 1073741822] rfl q6_1 ?_; (with_reducible refine (impl_within.calls a0 0 1073741822 false _ A2.out).mono ?_); rintro e w' ⟨rfl, ⟨nd, rfl⟩⟩; refine ⟨_, rfl, ?_⟩))
  go_ret
  exact ⟨q6_4, q6_3⟩

end Go.Proofs.Ytfahmmlkcmadeaa.PFnExactStStep
