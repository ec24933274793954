-- Written by the session's own patched copy of the printer (wip/patch_print.py).
import Derived.Test.YtjikobdblohphaaPFnExactLiStepx0
namespace Go.Proofs.Ytjikobdblohphaa.PFnExactLiStep
open Go.RowKit Go.Proofs.YtjikobdblohphaaW.PrintWords Go.Proofs.YtjikobdblohphaaW.PrintLast Go.Proofs.YtjikobdblohphaaW.PrintMore
attribute [local go_sem] max2_int min2_int max_two min_two max_three min_three max_four min_four   -- for this text's walks alone
set_option linter.unusedVariables false
set_option linter.unusedSimpArgs false

theorem Z7k {w : World} {g : Nat} {t : TypeId} {cs : Array Value} (h : w.heap[g]? = some (.cells cs t (0, 0))) (i : Nat) (v : Value) (e : cs[i]? = some v := by rfl) : w.cell? ⟨g, i, none⟩ = some v := (blk_cell h i).trans e
theorem Z7a {p : Prop} (h : p) : Aside0 p := ⟨h⟩
theorem Z7j {w : World} {g : Nat} {t : TypeId} {cs : Array Value} (h : w.heap[g]? = some (.cells cs t (0, 0))) (i : Nat) : w.frozen? ⟨g, i, none⟩ = false := blk_frozen h i
theorem Z7d {p : Prop} (h : p := by repeat (first | (with_reducible first | exact HB.out | apply below_alloc | apply pw_below_drewN | apply below_drew1) | exact HB.out)) : p := h
theorem Z7e {p : Prop} (h : p := by (with_reducible repeat (first | refine blk_drewN ?_ _ | refine blk_drew ?_ | refine blk_alloc ?_ _)); exact eA.out) : p := h
theorem Z7c {p : Prop} (h : p := by repeat (first | exact Drawn0.refl _ | apply Drawn0.step)) : p := h
theorem Z7b {p : Prop} (h : p := by first | rfl | (simp; done) | (simp [*]; done)) : p := h
theorem Z7g {p : Prop} (h : p := by (try simp only [List.map_toArray, List.map_cons, List.map_nil]); first | done | rfl | (simp only [List.length_drop, List.length_take]; rfl)) : p := h
theorem Z7m {p : Prop} (h : p := by repeat (first | (with_reducible first | exact HB.out | apply below_alloc | apply pw_below_drewN | apply below_drew1 | refine below_set ?_ wA.out | refine below_set ?_ EA.out | refine below_set ?_ NA.out) | exact HB.out)) : p := h
theorem Z7l {p : Prop} (h : p := by repeat (first | (with_reducible first | exact HB.out | apply below_alloc | apply pw_below_drewN | apply below_drew1 | refine below_set ?_ wA.out | refine below_set ?_ EA.out) | exact HB.out)) : p := h
theorem Z7h {p : Prop} (h : p := by (with_reducible repeat (first | refine blk_drewN ?_ _ | refine blk_drew ?_ | refine blk_alloc ?_ _)); exact fA.out) : p := h
theorem Z7i {p : Prop} (h : p := by repeat (first | (with_reducible first | exact HB.out | apply below_alloc | apply pw_below_drewN | apply below_drew1 | refine below_set ?_ wA.out) | exact HB.out)) : p := h
theorem Z7f {p : Prop} (h : p := by first | (with_reducible assumption) | assumption) : p := h
/-! ### laws_toIntS: function 33 -/
def laws_toIntS.l0 : Nat → List Int → List Int → Int → Option (List Int)
 | 0, _, _, _ => none
 | k + 1, x0, x3, x4 => if x4 < (x0.length : Int) then (if 0 ≤ x4 then (if x4 < (x3.length : Int) then (laws_toIntS.l0 k x0 (x3.set (x4 : Int).toNat (rd x0 x4)) (wrap64 (x4 + 1))) else (none)) else (none)) else (some x3)
def laws_toIntS.f (k : Nat) (l0 : List Int) : Option (List Int) := if 0 ≤ (l0.length : Int) then (if ((l0.length : Int) : Int).toNat ≤ 35184372088832 then (laws_toIntS.l0 k l0 (List.replicate ((l0.length : Int) : Int).toNat 0) 0) else (none)) else (none)
theorem laws_toIntS.mono_l : ∀ k, (∀ y0 y1 y2, LeO (laws_toIntS.l0 k y0 y1 y2) (laws_toIntS.l0 (k + 1) y0 y1 y2))
 | 0 => fun _ _ _ r h => by simp [laws_toIntS.l0] at h
 | k + 1 => by
  have ih0 := laws_toIntS.mono_l k
  ·intro y0 y1 y2
   unfold laws_toIntS.l0
   repeat' first
   | (with_reducible exact ih0 _ _ _)
   | (with_reducible exact LeO.refl _)
   | (with_reducible exact LeO.none _)
   | (with_reducible refine LeO.ite ?_ ?_)
   | (with_reducible refine LeO.bind ?_ (fun _ => ?_))
   | exact ih0 _ _ _
   | exact LeO.none _
   | refine LeO.ite ?_ ?_
   | refine LeO.bind ?_ (fun _ => ?_)
theorem laws_toIntS.mono : ∀ a0 k, LeO (laws_toIntS.f k a0) (laws_toIntS.f (k + 1) a0) := by
 intro a0 k
 have ih0 := laws_toIntS.mono_l k
 unfold laws_toIntS.f
 repeat' first
   | (with_reducible exact ih0 _ _ _)
   | (with_reducible exact LeO.refl _)
   | (with_reducible exact LeO.none _)
   | (with_reducible refine LeO.ite ?_ ?_)
   | (with_reducible refine LeO.bind ?_ (fun _ => ?_))
   | exact ih0 _ _ _
   | exact LeO.none _
   | refine LeO.ite ?_ ?_
   | refine LeO.bind ?_ (fun _ => ?_)
set_option maxHeartbeats 8000000 in
set_option maxRecDepth 100000 in
theorem laws_toIntS.calls (k : Nat) (A0 : Option Addr) (c0 : Nat) (l0 : List Int) (r : List Int) (w : World) (hr0 : Kd.C (Kd.int .i64) w A0 l0.length l0) (hc0 : l0.length ≤ c0) (h : laws_toIntS.f k l0 = some r) :
  Calls Try.prog 33 #[.slice A0 l0.length c0] w fun e w' => ∃ v0_ : Value, e = .returned (v0_) ∧ Kd.R (Kd.int .i64) 3 w' w.heap.size (fun _ => True) v0_ r ∧ Below w.heap.size w w' := by
 have HR0 := Z7a hr0
 clear hr0 hc0
 have HB := Z7a (Below.refl w.heap.size w)
 have H : (if 0 ≤ (l0.length : Int) then (if ((l0.length : Int) : Int).toNat ≤ 35184372088832 then (laws_toIntS.l0 k l0 (List.replicate ((l0.length : Int) : Int).toNat 0) 0) else (none)) else (none)) = some r := h
 clear h
 by_cases c2 : 0 ≤ (l0.length : Int)
 ·rw [if_pos c2] at H
  have YA := eq_true c2
  have ZA : decide (0 ≤ (l0.length : Int)) = true := decide_eq_true c2
  clear c2
  by_cases c3 : ((l0.length : Int) : Int).toNat ≤ 35184372088832
  ·rw [if_pos c3] at H
   have xA := eq_true c3
   have KA : decide (((l0.length : Int) : Int).toNat ≤ 35184372088832) = true := decide_eq_true c3
   clear c3
   obtain ⟨y339, hy339⟩ : ∃ y_ : List Int, y_ = (List.replicate ((l0.length : Int) : Int).toNat 0) := ⟨_, rfl⟩
   replace H : (laws_toIntS.l0 k l0 y339 0) = some r := by first | (rw [hy339]; with_reducible exact H) | (have H2_ := (Option.bind_some _ _).symm.trans H; rw [hy339]; with_reducible exact H2_) | (have H2_ := (Option.bind_some _ _).symm.trans H; with_reducible exact H2_) | with_reducible exact H | (rw [hy339]; exact H) | exact H
   have Ny339 := Z7a hy339
   clear hy339
   have H' := Z7a H
   clear H
   go_enter Try.func33, Try.ntmps33
   go_wp2_with (first | ((with_reducible refine gate_dst (N := 7) rfl ?_); refine Kd.R_make (Kd.int .i64) _ 3 rfl (N := 7) rfl 27 _ _ rfl (l0.length : Int) rfl rfl Try.underlying27 (.int .i64 0) 8 info3 rfl (by decide) (by omega) 0 (ok := fun _ => True) (okp := fun _ => True) rfl (fun _ hk => hk) trivial (of_decide_eq_true Z7f) (Nat.le_trans (Nat.mul_le_mul_right _ (of_decide_eq_true Z7f : (l0.length : Int).toNat ≤ 35184372088832)) (by omega)) (Below.refl _ _) (Nat.le_refl _) ?_; intro aB w4 ho5 hb hg_ hnew_; clear hg_ hnew_; (first | rw [← Ny339.out] at ho5 | (simp only [Int.reduceToNat] at ho5; rw [← Ny339.out] at ho5)); have mA := Z7a (Kd.R_lower ho5 (below_size Z7d)); have nA := Z7a (below_step Z7d hb); clear HB; have OA := mA; have HB := nA; clear mA nA; clear hb ho5))
   go_loopg [4] k (fun kq v4 w' => ∃ (oA : List Int) (aA : Int), v4 = .int .i64 aA ∧ Aside0 (laws_toIntS.l0 kq l0 oA aA = some r) ∧ Aside0 (kq ≤ k) ∧ Aside0 (Kd.R (Kd.int .i64) 3 w' w.heap.size (fun _ => True) aB oA) ∧ Aside0 (Below w.heap.size w w'))
   case atStart => exact ⟨(y339), (0), Z7b, H', ⟨Nat.le_refl _⟩, ⟨by (with_reducible repeat (first | apply Kd.R_alloc | apply Kd.R_drewN | apply Kd.R_drew)); exact OA.out⟩, ⟨Z7d⟩⟩
   case round =>
    clear H'
    (try clear c2); (try clear YA); (try clear ZA); (try clear p2); (try clear c3); (try clear xA); (try clear KA)
    obtain ⟨oA, aA, rfl, HA, HK1, qA, HB⟩ := hrel
    cases gk with
    | zero => exact absurd HA.out (by simp [laws_toIntS.l0])
    | succ k1 =>
     have H := HA.out
     clear HA
     simp only [laws_toIntS.l0] at H
     by_cases c6 : aA < (l0.length : Int)
     ·rw [if_pos c6] at H
      have bB : decide (aA < (l0.length : Int)) = true := decide_eq_true c6
      clear c6
      by_cases c7 : 0 ≤ aA
      ·rw [if_pos c7] at H
       have xB : decide (0 ≤ aA) = true := decide_eq_true c7
       clear c7
       by_cases c8 : aA < (oA.length : Int)
       ·rw [if_pos c8] at H
        have PA : decide (aA < (oA.length : Int)) = true := decide_eq_true c8
        clear c8
        obtain ⟨y343, hy343⟩ : ∃ y_ : List Int, y_ = (oA.set (aA : Int).toNat (rd l0 aA)) := ⟨_, rfl⟩
        replace H : (laws_toIntS.l0 k1 l0 y343 (wrap64 (aA + 1))) = some r := by first | (rw [hy343]; with_reducible exact H) | (have H2_ := (Option.bind_some _ _).symm.trans H; rw [hy343]; with_reducible exact H2_) | (have H2_ := (Option.bind_some _ _).symm.trans H; with_reducible exact H2_) | with_reducible exact H | (rw [hy343]; exact H) | exact H
        have Ny343 := Z7a hy343
        clear hy343
        have H' := Z7a H
        clear H
        have p342 : 0 ≤ (aA : Int) := of_decide_eq_true Z7f
        have q342 : aA < (l0.length : Int) := of_decide_eq_true Z7f
        obtain ⟨ad342, cB, lA⟩ := Kd.at_int HR0.out aA p342 q342
        cases cB
        replace lA := (HB.out.cell (World.block_lt_of_cell? w _ lA)).trans lA
        replace p342 := eq_true p342
        replace q342 := eq_true q342
        have p9 : 0 ≤ (aA : Int) := of_decide_eq_true Z7f
        have q9 : (aA : Int) < ((oA.length : Int) : Int) := of_decide_eq_true Z7f
        obtain ⟨go9, yB, lB, mB, gl9, cl9, HG9⟩ := Kd.R_form qA.out (by omega)
        (first | cases lB | (injection lB with ea_ en_ ec_; (first | subst ea_ | (injection ea_ with ea_; subst ea_)); subst ec_; clear en_))
        have GB9 := Z7a mB
        have GG9 := Z7a HG9
        clear mB gl9 HG9
        obtain ⟨nB, oB⟩ := Kd.R_celln 0 qA.out (aA : Int) p9 q9
        replace p9 := eq_true p9
        replace q9 := eq_true q9
        have HP10 := Kd.R_putg qA.out (aA : Int) (rd l0 aA)
        go_wp2_with (first | ((with_reducible refine gate_store (t := 3) (p := 20) rfl ?_); refine store_event (t := 3) (p := 20) (v := ?vo_w11) (w1 := (wr.setCell ⟨go9, (aA : Int).toNat, none⟩ (.int .i64 (rd l0 aA)))) ?hg ?ho ?hn ?hr ?_; (case ho => rfl); (case hg => rfl); (case hn => rfl); (case hr => first | (go_simp; done) | (go_simp; rfl)); intro dB hw; have hg : wr.grownBy dB (some go9) := (by rw [hw]; exact HP10.2); have hp_ : Kd.R (Kd.int .i64) 3 dB w.heap.size (fun _ => True) (.slice (some ⟨go9, 0, none⟩) oA.length yB) y343 := (by rw [hw, Ny343.out]; exact HP10.1); clear HP10; have mA := Z7a (hp_); have nA := Z7a ((by rw [hw]; exact below_set (HB.out) GB9.out : Below w.heap.size w dB)); clear qA HB; have qA := mA; have HB := nA; clear mA nA; clear hg hw hp_))
        go_roundg k1
        case measure => have := HK1.out; omega
        case rel => exact ⟨(y343), (wrap64 (aA + 1)), Z7b, H', ⟨by have := HK1.out; omega⟩, ⟨by (with_reducible repeat (first | apply Kd.R_alloc | apply Kd.R_drewN | apply Kd.R_drew)); exact qA.out⟩, ⟨Z7d⟩⟩
       ·rw [if_neg c8] at H
        exact absurd H (by simp)
      ·rw [if_neg c7] at H
       exact absurd H (by simp)
     ·rw [if_neg c6] at H
      have bB : decide (aA < (l0.length : Int)) = false := decide_eq_false c6
      clear c6
      obtain rfl := Option.some.inj H
      go_wp2
      go_ret
      exact ⟨_, by first | rfl | (simp [errW_none, errW_some] <;> rfl) | (simp [*, errW_none, errW_some] <;> rfl), by (with_reducible repeat (first | apply Kd.R_alloc | apply Kd.R_drewN | apply Kd.R_drew)); exact qA.out, Z7d⟩
  ·rw [if_neg c3] at H
   exact absurd H (by simp)
 ·rw [if_neg c2] at H
  exact absurd H (by simp)

/-! ### laws_toMem: function 25 -/
def laws_toMem.f (k : Nat) (cA : List Int) : Option (List Int) := (laws_toIntS.f k cA).bind fun pA => (some pA)
theorem laws_toMem.mono : ∀ a0 k, LeO (laws_toMem.f k a0) (laws_toMem.f (k + 1) a0) := by
 intro a0 k
 unfold laws_toMem.f
 repeat' first
   | (with_reducible exact laws_toIntS.mono _ _)
   | (with_reducible exact LeO.refl _)
   | (with_reducible exact LeO.none _)
   | (with_reducible refine LeO.ite ?_ ?_)
   | (with_reducible refine LeO.bind ?_ (fun _ => ?_))
   | exact laws_toIntS.mono _ _
   | exact LeO.none _
   | refine LeO.ite ?_ ?_
   | refine LeO.bind ?_ (fun _ => ?_)
set_option maxHeartbeats 8000000 in
set_option maxRecDepth 100000 in
theorem laws_toMem.calls (k : Nat) (hA : Option Addr) (iA : Nat) (cA : List Int) (r : List Int) (w : World) (FA : Kd.C (Kd.int .i64) w hA cA.length cA) (GA : cA.length ≤ iA) (h : laws_toMem.f k cA = some r) :
  Calls Try.prog 25 #[.agg #[.slice hA cA.length iA]] w fun e w' => ∃ v0_ : Value, e = .returned (.agg #[v0_]) ∧ Kd.R (Kd.int .i64) 3 w' w.heap.size (fun _ => True) v0_ r ∧ Below w.heap.size w w' := by
 have hu43 := Try.underlying43
 have hu29 := Try.underlying29
 have QA := Z7a FA
 have RA := Z7a GA
 clear FA GA
 have HB := Z7a (Below.refl w.heap.size w)
 have H : ((laws_toIntS.f k cA).bind fun pA => (some pA)) = some r := h
 clear h
 replace H := Option.bind_eq_some_iff.mp H
 obtain ⟨pA, A20, H⟩ := H
 (try dsimp only at H)
 have A2 := Z7a A20
 clear A20
 obtain rfl := Option.some.inj H
 go_enter Try.func25, Try.ntmps25
 go_wp2_with (first | ((with_reducible refine gate_dst (N := 1) rfl ?_); refine box_event ?hg (N := 1) ?hd (cs := #[.slice hA cA.length iA]) (t := 43) ?hr ?_; (case hd => rfl); (case hg => rfl); (case hr => first | (go_simp; done) | (go_simp; rfl)); intro bA hg w3 hbox hb; have mA := Z7a (below_step Z7d hb); have nA := Z7a (hbox); have yA := Z7a ((by rw [hg]; exact (below_size Z7d) : w.heap.size ≤ bA)); have zA := Z7a ((by rw [hg]; exact (below_size Z7d) : w.heap.size ≤ bA)); clear HB; have HB := mA; have eA := nA; have pB := yA; have wA := zA; clear mA nA yA zA; clear hb hbox hg) | ((with_reducible refine gate_dst (N := 2) rfl ?_); refine box_event ?hg (N := 2) ?hd (cs := #[.slice none 0 0]) (t := 29) ?hr ?_; (case hd => rfl); (case hg => rfl); (case hr => first | (go_simp; done) | (go_simp; rfl)); intro dA hg w4 hbox hb; have mA := Z7a (blk_below (g := bA) (o := .cells #[.slice hA cA.length iA] 43 (0, 0)) Z7e hb); have nA := Z7a (below_step Z7i hb); have yA := Z7a (hbox); have zA := Z7a ((by rw [hg]; exact (below_size Z7i) : w.heap.size ≤ dA)); have IA := Z7a ((by rw [hg]; exact (below_size Z7i) : w.heap.size ≤ dA)); have SA := Z7a ((by rw [hg]; exact Nat.ne_of_lt (blk_lt (g := bA) (o := .cells #[.slice hA cA.length iA] 43 (0, 0)) Z7e) : bA ≠ dA)); have TA := Z7a ((by rw [hg]; exact Nat.ne_of_gt (blk_lt (g := bA) (o := .cells #[.slice hA cA.length iA] 43 (0, 0)) Z7e) : dA ≠ bA)); clear eA HB; have eA := mA; have HB := nA; have fA := yA; have qB := zA; have EA := IA; have rA := SA; have sA := TA; clear mA nA yA zA IA SA TA; clear hb hbox hg) | ((with_reducible refine gate_dst (N := 3) rfl ?_); refine box_event ?hg (N := 3) ?hd (cs := #[.slice none 0 0]) (t := 29) ?hr ?_; (case hd => rfl); (case hg => rfl); (case hr => first | (go_simp; done) | (go_simp; rfl)); intro gA hg w5 hbox hb; have mA := Z7a (blk_below (g := bA) (o := .cells #[.slice hA cA.length iA] 43 (0, 0)) Z7e hb); have nA := Z7a (blk_below (g := dA) (o := .cells #[.slice none 0 0] 29 (0, 0)) Z7h hb); have yA := Z7a (below_step Z7l hb); have zA := Z7a (hbox); have IA := Z7a ((by rw [hg]; exact (below_size Z7l) : w.heap.size ≤ gA)); have SA := Z7a ((by rw [hg]; exact (below_size Z7l) : w.heap.size ≤ gA)); have TA := Z7a ((by rw [hg]; exact Nat.ne_of_lt (blk_lt (g := bA) (o := .cells #[.slice hA cA.length iA] 43 (0, 0)) Z7e) : bA ≠ gA)); have rB := Z7a ((by rw [hg]; exact Nat.ne_of_gt (blk_lt (g := bA) (o := .cells #[.slice hA cA.length iA] 43 (0, 0)) Z7e) : gA ≠ bA)); have sB := Z7a ((by rw [hg]; exact Nat.ne_of_lt (blk_lt (g := dA) (o := .cells #[.slice none 0 0] 29 (0, 0)) Z7h) : dA ≠ gA)); have tB := Z7a ((by rw [hg]; exact Nat.ne_of_gt (blk_lt (g := dA) (o := .cells #[.slice none 0 0] 29 (0, 0)) Z7h) : gA ≠ dA)); clear eA fA HB; have eA := mA; have fA := nA; have HB := yA; have jA := zA; have uB := IA; have NA := SA; have tA := TA; have uA := rB; have kA := sB; have vA := tB; clear mA nA yA zA IA SA TA rB sB tB; clear hb hbox hg; have zB := rA.out; have AB := sA.out; have BB := tA.out; have CB := uA.out; have eB := Z7k eA.out 0 (.slice hA cA.length iA); have fB := Z7j eA.out 0) | ((with_reducible refine gate_callee (f := 33) rfl ?_); refine goesL_ (some 6) rfl rfl Try.func33 (by kernel_rfl) rfl #[.slice hA cA.length iA] rfl Z7g ?_; (with_reducible refine (laws_toIntS.calls k _ _ cA pA _ ?side1 ?side2 A2.out).mono ?_); (case side1 => repeat (first | exact (Kd.C_below QA.out HB.out) | (with_reducible refine Kd.C_alloc ?_ _) | (with_reducible refine Kd.C_drewN ?_ _) | (with_reducible refine Kd.C_drew ?_))); (case side2 => exact RA.out); rintro e w9 ⟨DB, rfl, ho0, hb⟩; refine ⟨_, rfl, ?_⟩; have mA := Z7a (Kd.R_lower ho0 (below_size Z7m)); have nA := Z7a (blk_below (g := bA) (o := .cells #[.slice hA cA.length iA] 43 (0, 0)) Z7e hb); have yA := Z7a (blk_below (g := dA) (o := .cells #[.slice none 0 0] 29 (0, 0)) Z7h hb); have zA := Z7a (blk_below (g := gA) (o := .cells #[.slice none 0 0] 29 (0, 0)) (by (with_reducible repeat (first | refine blk_drewN ?_ _ | refine blk_drew ?_ | refine blk_alloc ?_ _)); exact jA.out) hb); have IA := Z7a (below_step Z7m hb); clear eA fA jA HB; have JA := mA; have eA := nA; have fA := yA; have jA := zA; have HB := IA; clear mA nA yA zA IA; (try clear hb); (try clear hb2); (try clear hk); (try clear hi); (try clear ho0); obtain ⟨LA, MA, gB⟩ := Kd.R_slice JA.out; subst gB; have vB := vA.out; have wB := kA.out; have UA := Z7k jA.out 0 (.slice none 0 0); have VA := Z7j jA.out 0; have WA := Z7k fA.out 0 (.slice none 0 0); have XA := Z7j fA.out 0))
 refine bodyPost_ret (results_cell_row rfl _ _ dA 29 #[.slice LA pA.length MA] (0, 0) _ rfl (by (with_reducible repeat (first | refine blk_drewN ?_ _ | refine blk_drew ?_ | refine blk_alloc ?_ _)); refine blk_put (cs := #[.slice none 0 0]) ?_ 0 _ rfl; (with_reducible repeat (first | refine blk_drewN ?_ _ | refine blk_drew ?_ | refine blk_alloc ?_ _)); refine blk_far ?_ kA.out _; (with_reducible repeat (first | refine blk_drewN ?_ _ | refine blk_drew ?_ | refine blk_alloc ?_ _)); exact fA.out) Try.underlying29 rfl (by kernel_rfl)) rfl ?_
 exact ⟨_, by first | rfl | (simp [errW_none, errW_some] <;> rfl) | (simp [*, errW_none, errW_some] <;> rfl), by (with_reducible repeat (first | apply Kd.R_alloc | apply Kd.R_drewN | apply Kd.R_drew)); exact Kd.R_mono (Kd.R_far (p := ⟨dA, 0, none⟩) (Kd.R_far (p := ⟨gA, 0, none⟩) (Kd.R_types (Kd.R_types JA.out jA.out (by decide)) fA.out (by decide)) (fun _ hk => hk.1.2) (.slice LA pA.length MA)) (fun _ hk => hk.2) (.slice LA pA.length MA)) (fun _ hk => trivial), Z7m⟩

/-! ### impl_within: function 43 -/
def impl_within.f (a0 : Int) (a1 : Int) (a2 : Int) : Option (Bool) := if a0 ≥ a1 then (some (decide (a0 ≤ a2))) else (some false)
set_option maxHeartbeats 8000000 in
set_option maxRecDepth 100000 in
theorem impl_within.calls (a0 : Int) (a1 : Int) (a2 : Int) (r : Bool) (w : World) (h : impl_within.f a0 a1 a2 = some r) :
  Calls Try.prog 43 #[.int .i64 a0, .int .i64 a1, .int .i64 a2] w fun e w' => e = .returned (.bool r) ∧ Drawn0 w w' := by
 have H : (if a0 ≥ a1 then (some (decide (a0 ≤ a2))) else (some false)) = some r := h
 clear h
 by_cases c4 : a0 ≥ a1
 ·rw [if_pos c4] at H
  have hB : decide (a1 ≤ a0) = true := decide_eq_true c4
  clear c4
  obtain rfl := Option.some.inj H
  go_enter Try.func43, Try.ntmps43
  go_wp2
  go_ret
  exact ⟨Z7b, Z7c⟩
 ·rw [if_neg c4] at H
  have hB : decide (a1 ≤ a0) = false := decide_eq_false c4
  clear c4
  obtain rfl := Option.some.inj H
  go_enter Try.func43, Try.ntmps43
  go_wp2
  go_ret
  exact ⟨Z7b, Z7c⟩

/-! ### impl_isLiStep: function 49 -/
def impl_isLiStep.f (a0 : Int) (a1 : Int) : Option (Bool) := if a0 = 1 then ((impl_within.f a1 0 6).bind fun AA => (some AA)) else (if a0 = 2 then ((impl_within.f a1 0 3).bind fun BA => (if BA = true then (some true) else (some (a1 == 7)))) else (if a0 = 3 then ((impl_within.f a1 0 2).bind fun CA => (some CA)) else (some false)))
set_option maxHeartbeats 8000000 in
set_option maxRecDepth 100000 in
theorem impl_isLiStep.calls (a0 : Int) (a1 : Int) (r : Bool) (w : World) (h : impl_isLiStep.f a0 a1 = some r) :
  Calls Try.prog 49 #[.int .i64 a0, .int .i64 a1] w fun e w' => e = .returned (.bool r) ∧ Drawn0 w w' := by
 have H : (if a0 = 1 then ((impl_within.f a1 0 6).bind fun AA => (some AA)) else (if a0 = 2 then ((impl_within.f a1 0 3).bind fun BA => (if BA = true then (some true) else (some (a1 == 7)))) else (if a0 = 3 then ((impl_within.f a1 0 2).bind fun CA => (some CA)) else (some false)))) = some r := h
 clear h
 by_cases c3 : a0 = 1
 ·rw [if_pos c3] at H
  have xA : (a0 == 1) = true := beq_iff_eq.mpr c3
  have KA : (a0 != 1) = false := bne_eq_false_iff_eq.mpr c3
  clear c3
  replace H := Option.bind_eq_some_iff.mp H
  obtain ⟨AA, A40, H⟩ := H
  (try dsimp only at H)
  have A4 := Z7a A40
  clear A40
  obtain rfl := Option.some.inj H
  go_enter Try.func49, Try.ntmps49
  go_wp2_with (first | ((with_reducible refine gate_callee (f := 43) rfl ?_); refine goesL_ (some 9) rfl rfl Try.func43 (by kernel_rfl) rfl #[.int .i64 a1, .int .i64 0, .int .i64 6] rfl Z7g ?_; (with_reducible refine (impl_within.calls a1 0 6 AA _ A4.out).mono ?_); rintro e w' ⟨rfl, ⟨nd, rfl⟩⟩; refine ⟨_, rfl, ?_⟩))
  go_ret
  exact ⟨Z7b, Z7c⟩
 ·rw [if_neg c3] at H
  have xA : (a0 == 1) = false := beq_eq_false_iff_ne.mpr c3
  have KA : (a0 != 1) = true := bne_iff_ne.mpr c3
  by_cases c5 : a0 = 2
  ·rw [if_pos c5] at H
   have iB : (a0 == 2) = true := beq_iff_eq.mpr c5
   have jB : (a0 != 2) = false := bne_eq_false_iff_eq.mpr c5
   clear c5
   replace H := Option.bind_eq_some_iff.mp H
   obtain ⟨BA, A60, H⟩ := H
   (try dsimp only at H)
   have A6 := Z7a A60
   clear A60
   by_cases c7 : BA = true
   ·subst c7
    rw [if_pos rfl] at H
    obtain rfl := Option.some.inj H
    go_enter Try.func49, Try.ntmps49
    go_wp2_with (first | ((with_reducible refine gate_callee (f := 43) rfl ?_); refine goesL_ (some 13) rfl rfl Try.func43 (by kernel_rfl) rfl #[.int .i64 a1, .int .i64 0, .int .i64 3] rfl Z7g ?_; (with_reducible refine (impl_within.calls a1 0 3 true _ A6.out).mono ?_); rintro e w' ⟨rfl, ⟨nd, rfl⟩⟩; refine ⟨_, rfl, ?_⟩))
    go_ret
    exact ⟨Z7b, Z7c⟩
   ·replace c7 := Bool.eq_false_iff.mpr c7
    subst c7
    rw [if_neg (show ¬ (false = true) by decide)] at H
    obtain rfl := Option.some.inj H
    go_enter Try.func49, Try.ntmps49
    go_wp2_with (first | ((with_reducible refine gate_callee (f := 43) rfl ?_); refine goesL_ (some 13) rfl rfl Try.func43 (by kernel_rfl) rfl #[.int .i64 a1, .int .i64 0, .int .i64 3] rfl Z7g ?_; (with_reducible refine (impl_within.calls a1 0 3 false _ A6.out).mono ?_); rintro e w' ⟨rfl, ⟨nd, rfl⟩⟩; refine ⟨_, rfl, ?_⟩))
    go_ret
    exact ⟨Z7b, Z7c⟩
  ·rw [if_neg c5] at H
   have iB : (a0 == 2) = false := beq_eq_false_iff_ne.mpr c5
   have jB : (a0 != 2) = true := bne_iff_ne.mpr c5
   by_cases c8 : a0 = 3
   ·rw [if_pos c8] at H
    have PA : (a0 == 3) = true := beq_iff_eq.mpr c8
    have kB : (a0 != 3) = false := bne_eq_false_iff_eq.mpr c8
    clear c8
    replace H := Option.bind_eq_some_iff.mp H
    obtain ⟨CA, A90, H⟩ := H
    (try dsimp only at H)
    have A9 := Z7a A90
    clear A90
    obtain rfl := Option.some.inj H
    go_enter Try.func49, Try.ntmps49
    go_wp2_with (first | ((with_reducible refine gate_callee (f := 43) rfl ?_); refine goesL_ (some 21) rfl rfl Try.func43 (by kernel_rfl) rfl #[.int .i64 a1, .int .i64 0, .int .i64 2] rfl Z7g ?_; (with_reducible refine (impl_within.calls a1 0 2 CA _ A9.out).mono ?_); rintro e w' ⟨rfl, ⟨nd, rfl⟩⟩; refine ⟨_, rfl, ?_⟩))
    go_ret
    exact ⟨Z7b, Z7c⟩
   ·rw [if_neg c8] at H
    have PA : (a0 == 3) = false := beq_eq_false_iff_ne.mpr c8
    have kB : (a0 != 3) = true := bne_iff_ne.mpr c8
    obtain rfl := Option.some.inj H
    go_enter Try.func49, Try.ntmps49
    go_wp2
    go_ret
    exact ⟨Z7b, Z7c⟩

/-! ### impl_linkCell: function 50 -/
def impl_linkCell.f (a0 : Int) : Option (Int) := some (wrap64 (2 + (wrap64 (2 * a0))))
set_option maxHeartbeats 8000000 in
set_option maxRecDepth 100000 in
theorem impl_linkCell.calls (a0 : Int) (r : Int) (w : World) (h : impl_linkCell.f a0 = some r) :
  Calls Try.prog 50 #[.int .i64 a0] w fun e w' => e = .returned (.int .i64 r) ∧ Drawn0 w w' := by
 have H : (some (wrap64 (2 + (wrap64 (2 * a0))))) = some r := h
 clear h
 obtain rfl := Option.some.inj H
 go_enter Try.func50, Try.ntmps50
 go_wp2
 go_ret
 exact ⟨Z7b, Z7c⟩

/-! ### impl_nodeOf: function 52 -/
def impl_nodeOf.f (a0 : Int) : Option (Int) := some (wrap64 ((wrap64 (Int.tdiv a0 2)) - 1))
set_option maxHeartbeats 8000000 in
set_option maxRecDepth 100000 in
theorem impl_nodeOf.calls (a0 : Int) (r : Int) (w : World) (h : impl_nodeOf.f a0 = some r) :
  Calls Try.prog 52 #[.int .i64 a0] w fun e w' => e = .returned (.int .i64 r) ∧ Drawn0 w w' := by
 have H : (some (wrap64 ((wrap64 (Int.tdiv a0 2)) - 1))) = some r := h
 clear h
 obtain rfl := Option.some.inj H
 go_enter Try.func52, Try.ntmps52
 go_wp2
 go_ret
 exact ⟨Z7b, Z7c⟩

/-! ### impl_isLink: function 51 -/
def impl_isLink.f (a0 : Int) (a1 : Int) : Option (Bool) := if a0 ≥ 0 then ((impl_nodeOf.f a0).bind fun DA => (some (decide (DA < a1)))) else (some false)
set_option maxHeartbeats 8000000 in
set_option maxRecDepth 100000 in
theorem impl_isLink.calls (a0 : Int) (a1 : Int) (r : Bool) (w : World) (h : impl_isLink.f a0 a1 = some r) :
  Calls Try.prog 51 #[.int .i64 a0, .int .i64 a1] w fun e w' => e = .returned (.bool r) ∧ Drawn0 w w' := by
 have H : (if a0 ≥ 0 then ((impl_nodeOf.f a0).bind fun DA => (some (decide (DA < a1)))) else (some false)) = some r := h
 clear h
 by_cases c3 : a0 ≥ 0
 ·rw [if_pos c3] at H
  have xA : decide (0 ≤ a0) = true := decide_eq_true c3
  clear c3
  replace H := Option.bind_eq_some_iff.mp H
  obtain ⟨DA, A40, H⟩ := H
  (try dsimp only at H)
  have A4 := Z7a A40
  clear A40
  obtain rfl := Option.some.inj H
  go_enter Try.func51, Try.ntmps51
  go_wp2_with (first | (go_at_call 52; (with_reducible refine (impl_nodeOf.calls a0 DA _ A4.out).mono ?_); rintro e w' ⟨rfl, ⟨nd, rfl⟩⟩))
  go_ret
  exact ⟨Z7b, Z7c⟩
 ·rw [if_neg c3] at H
  have xA : decide (0 ≤ a0) = false := decide_eq_false c3
  clear c3
  obtain rfl := Option.some.inj H
  go_enter Try.func51, Try.ntmps51
  go_wp2
  go_ret
  exact ⟨Z7b, Z7c⟩

/-! ### impl_keyCell: function 53 -/
def impl_keyCell.f (a0 : Int) : Option (Int) := some (wrap64 (1 + (wrap64 (2 * a0))))
set_option maxHeartbeats 8000000 in
set_option maxRecDepth 100000 in
theorem impl_keyCell.calls (a0 : Int) (r : Int) (w : World) (h : impl_keyCell.f a0 = some r) :
  Calls Try.prog 53 #[.int .i64 a0] w fun e w' => e = .returned (.int .i64 r) ∧ Drawn0 w w' := by
 have H : (some (wrap64 (1 + (wrap64 (2 * a0))))) = some r := h
 clear h
 obtain rfl := Option.some.inj H
 go_enter Try.func53, Try.ntmps53
 go_wp2
 go_ret
 exact ⟨Z7b, Z7c⟩

end Go.Proofs.Ytjikobdblohphaa.PFnExactLiStep
