-- Written by the session's own patched copy of the printer (wip/patch_print.py).
import Derived.Test.YtgghglocfdcegaaStabC
import Derived.Lib.RowBridge
import Derived.Test.YtgghglocfdcegaaPFnExactRingGoodx0
namespace Go.Proofs.Ytgghglocfdcegaa.PFnExactRingGood
open Go.RowKit Go.Proofs.YtgghglocfdcegaaW.PrintWords Go.Proofs.YtgghglocfdcegaaW.PrintLast Go.Proofs.YtgghglocfdcegaaW.PrintMore
attribute [local go_sem] max2_int min2_int max_two min_two max_three min_three max_four min_four   -- for this text's walks alone
set_option linter.unusedVariables false
set_option linter.unusedSimpArgs false

theorem q3_0 {p : Prop} (h : p := by repeat (first | (with_reducible first | exact HB.out | apply below_alloc | apply pw_below_drewN | apply below_drew1) | exact HB.out)) : p := h
theorem q3_1 {p : Prop} (h : p := by (with_reducible repeat (first | refine blk_drewN ?_ _ | refine blk_drew ?_ | refine blk_alloc ?_ _)); refine blk_put (cs := #[.int .i64 ((rd_T89 l0 aA).f0), .int .i64 ((rd_T89 l0 aA).f1), .int .i64 ((rd_T89 l0 aA).f2), .int .i64 ((rd_T89 l0 aA).f3), .int .i64 ((rd_T89 l0 aA).f4), .int .i64 ((rd_T89 l0 aA).f5), .int .i64 ((rd_T89 l0 aA).f6), .int .i64 0]) ?_ 7 _ rfl; (with_reducible repeat (first | refine blk_drewN ?_ _ | refine blk_drew ?_ | refine blk_alloc ?_ _)); refine blk_put (cs := #[.int .i64 ((rd_T89 l0 aA).f0), .int .i64 ((rd_T89 l0 aA).f1), .int .i64 ((rd_T89 l0 aA).f2), .int .i64 ((rd_T89 l0 aA).f3), .int .i64 ((rd_T89 l0 aA).f4), .int .i64 ((rd_T89 l0 aA).f5), .int .i64 0, .int .i64 0]) ?_ 6 _ rfl; (with_reducible repeat (first | refine blk_drewN ?_ _ | refine blk_drew ?_ | refine blk_alloc ?_ _)); refine blk_put (cs := #[.int .i64 ((rd_T89 l0 aA).f0), .int .i64 ((rd_T89 l0 aA).f1), .int .i64 ((rd_T89 l0 aA).f2), .int .i64 ((rd_T89 l0 aA).f3), .int .i64 ((rd_T89 l0 aA).f4), .int .i64 0, .int .i64 0, .int .i64 0]) ?_ 5 _ rfl; (with_reducible repeat (first | refine blk_drewN ?_ _ | refine blk_drew ?_ | refine blk_alloc ?_ _)); refine blk_put (cs := #[.int .i64 ((rd_T89 l0 aA).f0), .int .i64 ((rd_T89 l0 aA).f1), .int .i64 ((rd_T89 l0 aA).f2), .int .i64 ((rd_T89 l0 aA).f3), .int .i64 0, .int .i64 0, .int .i64 0, .int .i64 0]) ?_ 4 _ rfl; (with_reducible repeat (first | refine blk_drewN ?_ _ | refine blk_drew ?_ | refine blk_alloc ?_ _)); refine blk_put (cs := #[.int .i64 ((rd_T89 l0 aA).f0), .int .i64 ((rd_T89 l0 aA).f1), .int .i64 ((rd_T89 l0 aA).f2), .int .i64 0, .int .i64 0, .int .i64 0, .int .i64 0, .int .i64 0]) ?_ 3 _ rfl; (with_reducible repeat (first | refine blk_drewN ?_ _ | refine blk_drew ?_ | refine blk_alloc ?_ _)); refine blk_put (cs := #[.int .i64 ((rd_T89 l0 aA).f0), .int .i64 ((rd_T89 l0 aA).f1), .int .i64 0, .int .i64 0, .int .i64 0, .int .i64 0, .int .i64 0, .int .i64 0]) ?_ 2 _ rfl; (with_reducible repeat (first | refine blk_drewN ?_ _ | refine blk_drew ?_ | refine blk_alloc ?_ _)); refine blk_put (cs := #[.int .i64 ((rd_T89 l0 aA).f0), .int .i64 0, .int .i64 0, .int .i64 0, .int .i64 0, .int .i64 0, .int .i64 0, .int .i64 0]) ?_ 1 _ rfl; (with_reducible repeat (first | refine blk_drewN ?_ _ | refine blk_drew ?_ | refine blk_alloc ?_ _)); refine blk_put (cs := #[.int .i64 0, .int .i64 0, .int .i64 0, .int .i64 0, .int .i64 0, .int .i64 0, .int .i64 0, .int .i64 0]) ?_ 0 _ rfl; (with_reducible repeat (first | refine blk_drewN ?_ _ | refine blk_drew ?_ | refine blk_alloc ?_ _)); exact cA.out) : p := h
theorem q3_2 {p : Prop} (h : p := by first | (with_reducible assumption) | assumption) : p := h
theorem q3_3 {p : Prop} (h : p := by (with_reducible repeat (first | apply Kd.R_alloc | apply Kd.R_drewN | apply Kd.R_drew)); exact Kd.R_mono (Kd.R_far (p := ⟨bA, 7, none⟩) (Kd.R_far (p := ⟨bA, 6, none⟩) (Kd.R_far (p := ⟨bA, 5, none⟩) (Kd.R_far (p := ⟨bA, 4, none⟩) (Kd.R_far (p := ⟨bA, 3, none⟩) (Kd.R_far (p := ⟨bA, 2, none⟩) (Kd.R_far (p := ⟨bA, 1, none⟩) (Kd.R_far (p := ⟨bA, 0, none⟩) (Kd.R_mono qA.out (fun k_ hk => (⟨hk, hk.2⟩ : _ ∧ k_ ≠ bA))) (fun _ hk => hk.2) (.int .i64 ((rd_T89 l0 aA).f0))) (fun _ hk => hk.2) (.int .i64 ((rd_T89 l0 aA).f1))) (fun _ hk => hk.2) (.int .i64 ((rd_T89 l0 aA).f2))) (fun _ hk => hk.2) (.int .i64 ((rd_T89 l0 aA).f3))) (fun _ hk => hk.2) (.int .i64 ((rd_T89 l0 aA).f4))) (fun _ hk => hk.2) (.int .i64 ((rd_T89 l0 aA).f5))) (fun _ hk => hk.2) (.int .i64 ((rd_T89 l0 aA).f6))) (fun _ hk => hk.2) (.int .i64 ((rd_T89 l0 aA).f7))) (fun _ hk => trivial)) : p := h
theorem q3_4 {p : Prop} (h : p := by (with_reducible repeat (first | apply Kd.R_alloc | apply Kd.R_drewN | apply Kd.R_drew)); exact qA.out) : p := h
theorem q3_5 {p : Prop} (h : p := by repeat (first | (with_reducible first | exact HB.out | apply below_alloc | apply pw_below_drewN | apply below_drew1 | refine below_set ?_ CA.out) | exact HB.out)) : p := h
theorem q3_6 {p : Prop} (h : p := by first | rfl | (simp; done) | (simp [*]; done)) : p := h
theorem q3_7 {p : Prop} (h : p := by rw [hg]; exact (below_size q3_0)) : p := h
theorem q3_8 {p : Prop} (h : p := by repeat (first | exact Drawn0.refl _ | apply Drawn0.step)) : p := h
/-! ### laws_toIntS: function 46 -/
def laws_toIntS.l0 : Nat → List Int → List Int → Int → Option (List Int)
 | 0, _, _, _ => none
 | k + 1, x0, x3, x4 => if x4 < (x0.length : Int) then (if 0 ≤ x4 then (if x4 < (x3.length : Int) then (laws_toIntS.l0 k x0 (x3.set (x4 : Int).toNat (rd x0 x4)) (wrap64 (x4 + 1))) else (none)) else (none)) else (some x3)
def laws_toIntS.f (k : Nat) (l0 : List Int) : Option (List Int) := if 0 ≤ (l0.length : Int) then (if ((l0.length : Int) : Int).toNat ≤ 35184372088832 then (laws_toIntS.l0 k l0 (List.replicate ((l0.length : Int) : Int).toNat 0) 0) else (none)) else (none)
theorem laws_toIntS.mono_l : ∀ k, (∀ y0 y1 y2, LeO (laws_toIntS.l0 k y0 y1 y2) (laws_toIntS.l0 (k + 1) y0 y1 y2))
 | 0 => fun _ _ _ r h => by simp [laws_toIntS.l0] at h
 | k + 1 => by
  have ih0 := laws_toIntS.mono_l k
  ·intro y0 y1 y2
   unfold laws_toIntS.l0
   repeat' first
   | (with_reducible exact ih0 _ _ _)
   | (with_reducible exact LeO.refl _)
   | (with_reducible exact LeO.none _)
   | (with_reducible refine LeO.ite ?_ ?_)
   | (with_reducible refine LeO.bind ?_ (fun _ => ?_))
   | exact ih0 _ _ _
   | exact LeO.none _
   | refine LeO.ite ?_ ?_
   | refine LeO.bind ?_ (fun _ => ?_)
theorem laws_toIntS.mono : ∀ a0 k, LeO (laws_toIntS.f k a0) (laws_toIntS.f (k + 1) a0) := by
 intro a0 k
 have ih0 := laws_toIntS.mono_l k
 unfold laws_toIntS.f
 repeat' first
   | (with_reducible exact ih0 _ _ _)
   | (with_reducible exact LeO.refl _)
   | (with_reducible exact LeO.none _)
   | (with_reducible refine LeO.ite ?_ ?_)
   | (with_reducible refine LeO.bind ?_ (fun _ => ?_))
   | exact ih0 _ _ _
   | exact LeO.none _
   | refine LeO.ite ?_ ?_
   | refine LeO.bind ?_ (fun _ => ?_)
set_option maxHeartbeats 8000000 in
set_option maxRecDepth 100000 in
theorem laws_toIntS.calls (k : Nat) (A0 : Option Addr) (c0 : Nat) (l0 : List Int) (r : List Int) (w : World) (hr0 : Kd.C (Kd.int .i64) w A0 l0.length l0) (hc0 : l0.length ≤ c0) (h : laws_toIntS.f k l0 = some r) :
  Calls Try.prog 46 #[.slice A0 l0.length c0] w fun e w' => ∃ v0_ : Value, e = .returned (v0_) ∧ Kd.R (Kd.int .i64) 3 w' w.heap.size (fun _ => True) v0_ r ∧ Below w.heap.size w w' := by
 have HR0 := Aside0.mk hr0
 clear hr0 hc0
 have HB := Aside0.mk (Below.refl w.heap.size w)
 have H : (if 0 ≤ (l0.length : Int) then (if ((l0.length : Int) : Int).toNat ≤ 35184372088832 then (laws_toIntS.l0 k l0 (List.replicate ((l0.length : Int) : Int).toNat 0) 0) else (none)) else (none)) = some r := h
 clear h
 by_cases c2 : 0 ≤ (l0.length : Int)
 ·rw [if_pos c2] at H
  have WC := eq_true c2
  have XC : decide (0 ≤ (l0.length : Int)) = true := decide_eq_true c2
  clear c2
  by_cases c3 : ((l0.length : Int) : Int).toNat ≤ 35184372088832
  ·rw [if_pos c3] at H
   have GA := eq_true c3
   have IA : decide (((l0.length : Int) : Int).toNat ≤ 35184372088832) = true := decide_eq_true c3
   clear c3
   obtain ⟨y163, hy163⟩ : ∃ y_ : List Int, y_ = (List.replicate ((l0.length : Int) : Int).toNat 0) := ⟨_, rfl⟩
   replace H : (laws_toIntS.l0 k l0 y163 0) = some r := by first | (rw [hy163]; with_reducible exact H) | (have H2_ := (Option.bind_some _ _).symm.trans H; rw [hy163]; with_reducible exact H2_) | (have H2_ := (Option.bind_some _ _).symm.trans H; with_reducible exact H2_) | with_reducible exact H | (rw [hy163]; exact H) | exact H
   have Ny163 := Aside0.mk hy163
   clear hy163
   have H' := Aside0.mk H
   clear H
   go_enter Try.func46, Try.ntmps46
   go_wp2_with (first | ((with_reducible refine gate_dst (N := 7) rfl ?_); refine Kd.R_make (Kd.int .i64) _ 3 rfl (N := 7) rfl 24 _ _ rfl (l0.length : Int) rfl rfl Try.underlying24 (.int .i64 0) 8 info3 rfl (by decide) (by omega) 0 (ok := fun _ => True) (okp := fun _ => True) rfl (fun _ hk => hk) trivial (of_decide_eq_true q3_2) (Nat.le_trans (Nat.mul_le_mul_right _ (of_decide_eq_true q3_2 : (l0.length : Int).toNat ≤ 35184372088832)) (by omega)) (Below.refl _ _) (Nat.le_refl _) ?_; intro YC w4 ho5 hb hg_ hnew_; clear hg_ hnew_; (first | rw [← Ny163.out] at ho5 | (simp only [Int.reduceToNat] at ho5; rw [← Ny163.out] at ho5)); have tA := Aside0.mk (Kd.R_lower ho5 (below_size q3_0)); have uA := Aside0.mk (below_step q3_0 hb); clear HB; have fC := tA; have HB := uA; clear tA uA; clear hb ho5))
   go_loopg [4] k (fun kq v4 w' => ∃ (wA : List Int) (pA : Int), v4 = .int .i64 pA ∧ Aside0 (laws_toIntS.l0 kq l0 wA pA = some r) ∧ Aside0 (kq ≤ k) ∧ Aside0 (Kd.R (Kd.int .i64) 3 w' w.heap.size (fun _ => True) YC wA) ∧ Aside0 (Below w.heap.size w w'))
   case atStart => exact ⟨(y163), (0), q3_6, H', ⟨Nat.le_refl _⟩, ⟨by (with_reducible repeat (first | apply Kd.R_alloc | apply Kd.R_drewN | apply Kd.R_drew)); exact fC.out⟩, ⟨q3_0⟩⟩
   case round =>
    clear H'
    (try clear c2); (try clear WC); (try clear XC); (try clear p2); (try clear c3); (try clear GA); (try clear IA); (try clear c4)
    obtain ⟨wA, pA, rfl, HA, HK1, yA, HB⟩ := hrel
    cases gk with
    | zero => exact absurd HA.out (by simp [laws_toIntS.l0])
    | succ k1 =>
     have H := HA.out
     clear HA
     simp only [laws_toIntS.l0] at H
     by_cases c6 : pA < (l0.length : Int)
     ·rw [if_pos c6] at H
      have JA : decide (pA < (l0.length : Int)) = true := decide_eq_true c6
      clear c6
      by_cases c7 : 0 ≤ pA
      ·rw [if_pos c7] at H
       have YB : decide (0 ≤ pA) = true := decide_eq_true c7
       clear c7
       by_cases c8 : pA < (wA.length : Int)
       ·rw [if_pos c8] at H
        have DA : decide (pA < (wA.length : Int)) = true := decide_eq_true c8
        clear c8
        obtain ⟨y167, hy167⟩ : ∃ y_ : List Int, y_ = (wA.set (pA : Int).toNat (rd l0 pA)) := ⟨_, rfl⟩
        replace H : (laws_toIntS.l0 k1 l0 y167 (wrap64 (pA + 1))) = some r := by first | (rw [hy167]; with_reducible exact H) | (have H2_ := (Option.bind_some _ _).symm.trans H; rw [hy167]; with_reducible exact H2_) | (have H2_ := (Option.bind_some _ _).symm.trans H; with_reducible exact H2_) | with_reducible exact H | (rw [hy167]; exact H) | exact H
        have Ny167 := Aside0.mk hy167
        clear hy167
        have H' := Aside0.mk H
        clear H
        have p166 : 0 ≤ (pA : Int) := of_decide_eq_true q3_2
        have q166 : pA < (l0.length : Int) := of_decide_eq_true q3_2
        obtain ⟨ad166, ZC, vA⟩ := Kd.at_int HR0.out pA p166 q166
        cases ZC
        replace vA := (HB.out.cell (World.block_lt_of_cell? w _ vA)).trans vA
        replace p166 := eq_true p166
        replace q166 := eq_true q166
        have p9 : 0 ≤ (pA : Int) := of_decide_eq_true q3_2
        have q9 : (pA : Int) < ((wA.length : Int) : Int) := of_decide_eq_true q3_2
        obtain ⟨go9, iD, cD, dD, gl9, cl9, HG9⟩ := Kd.R_form yA.out (by omega)
        (first | cases cD | (injection cD with ea_ en_ ec_; (first | subst ea_ | (injection ea_ with ea_; subst ea_)); subst ec_; clear en_))
        have GB9 := Aside0.mk dD
        have GG9 := Aside0.mk HG9
        clear dD gl9 HG9
        obtain ⟨eD, fD⟩ := Kd.R_celln 0 yA.out (pA : Int) p9 q9
        replace p9 := eq_true p9
        replace q9 := eq_true q9
        have HP10 := Kd.R_putg yA.out (pA : Int) (rd l0 pA)
        go_wp2_with (first | ((with_reducible refine gate_store (t := 3) (p := 20) rfl ?_); refine store_event (t := 3) (p := 20) (v := ?vo_w11) (w1 := (wr.setCell ⟨go9, (pA : Int).toNat, none⟩ (.int .i64 (rd l0 pA)))) ?hg ?ho ?hn ?hr ?_; (case ho => rfl); (case hg => rfl); (case hn => rfl); (case hr => first | (go_simp; done) | (go_simp; rfl)); intro BA hw; have hg : wr.grownBy BA (some go9) := (by rw [hw]; exact HP10.2); have hp_ : Kd.R (Kd.int .i64) 3 BA w.heap.size (fun _ => True) (.slice (some ⟨go9, 0, none⟩) wA.length iD) y167 := (by rw [hw, Ny167.out]; exact HP10.1); clear HP10; have tA := Aside0.mk (hp_); have uA := Aside0.mk ((by rw [hw]; exact below_set (HB.out) GB9.out : Below w.heap.size w BA)); clear yA HB; have yA := tA; have HB := uA; clear tA uA; clear hg hw hp_))
        go_roundg k1
        case measure => have := HK1.out; omega
        case rel => exact ⟨(y167), (wrap64 (pA + 1)), q3_6, H', ⟨by have := HK1.out; omega⟩, ⟨by (with_reducible repeat (first | apply Kd.R_alloc | apply Kd.R_drewN | apply Kd.R_drew)); exact yA.out⟩, ⟨q3_0⟩⟩
       ·rw [if_neg c8] at H
        exact absurd H (by simp)
      ·rw [if_neg c7] at H
       exact absurd H (by simp)
     ·rw [if_neg c6] at H
      have JA : decide (pA < (l0.length : Int)) = false := decide_eq_false c6
      clear c6
      obtain rfl := Option.some.inj H
      go_wp2
      go_ret
      exact ⟨_, by first | rfl | (simp [errW_none, errW_some] <;> rfl) | (simp [*, errW_none, errW_some] <;> rfl), by (with_reducible repeat (first | apply Kd.R_alloc | apply Kd.R_drewN | apply Kd.R_drew)); exact yA.out, q3_0⟩
  ·rw [if_neg c3] at H
   exact absurd H (by simp)
 ·rw [if_neg c2] at H
  exact absurd H (by simp)

-- NOT PRINTED: function 98 (impl_Fact_98)

-- NOT PRINTED: function 101 (impl_Fact_101)

-- NOT PRINTED: function 100 (impl_Fact_100)

-- NOT PRINTED: function 99 (impl_Fact_99)

-- NOT PRINTED: function 93 (impl_Fact_93)

-- NOT PRINTED: function 70 (impl_Fact_70)

/-! ### impl_turns: function 74 (walked by hand) -/
instance : Inhabited S89 := ⟨z89⟩
def enc89 (x : S89) : List Value := [.int .i64 x.f0, .int .i64 x.f1, .int .i64 x.f2, .int .i64 x.f3, .int .i64 x.f4, .int .i64 x.f5, .int .i64 x.f6, .int .i64 x.f7]
theorem enc89_len (x : S89) : (enc89 x).length = 8 := rfl
theorem enc89_one (x : S89) : ∀ v ∈ enc89 x, v.oneCell' = true := by
 intro v hv
 simp only [enc89, List.mem_cons, List.not_mem_nil, or_false] at hv
 rcases hv with rfl | rfl | rfl | rfl | rfl | rfl | rfl | rfl <;> rfl
theorem sort_heap_lt {w : World} {g : Nat} {o : Obj} (h : w.heap[g]? = some o) : g < w.heap.size := by
 rcases Nat.lt_or_ge g w.heap.size with h_ | h_
 ·exact h_
 ·rw [Array.getElem?_eq_none h_] at h
  cases h
theorem below_cellsS {w0 w : World} {g : Nat} (vs : List Value) (o : Nat) (hb : Below w0.heap.size w0 w) (hg : w0.heap.size ≤ g) : Below w0.heap.size w0 (w.setCells g o vs) := by
 induction vs generalizing o w with
 | nil => exact hb
 | cons v r ih => exact ih (o + 1) (below_set hb hg)
theorem below_growS {w0 w : World} (os : Array Obj) (hb : Below w0.heap.size w0 w) (hs : w0.heap.size ≤ w.heap.size) : Below w0.heap.size w0 (Sort.grow w os) :=
 ⟨hb.os, hb.tape, hb.output, by rw [Sort.size_grow]; omega, fun j hj => (Sort.heap_grow_old w os (by omega)).trans (hb.block j hj)⟩
theorem flat_get (d : Array S89) (t : Nat) (h : t < d.size * 8) : (Sort.flatK enc89 8 d).toList[t]? = some ((enc89 d[t / 8]!)[t % 8]!) := by
 have h1 : t < (Sort.flatK enc89 8 d).size := by rw [Sort.size_flatK]; exact h
 have h2 := Sort.get_flatK enc89 8 d t h
 rw [getElem!_pos _ t h1] at h2
 rw [Array.getElem?_toList, Array.getElem?_eq_getElem h1, h2]
theorem flat_seg (d : Array S89) (j : Nat) (h : j < d.size) : ((Sort.flatK enc89 8 d).toList.drop (j * 8)).take 8 = enc89 d[j]! := by
 apply List.ext_getElem?
 intro t
 rw [List.getElem?_take, List.getElem?_drop]
 by_cases ht : t < 8
 ·rw [if_pos ht, flat_get d _ (by omega), show (j * 8 + t) / 8 = j by omega, show (j * 8 + t) % 8 = t by omega, List.getElem?_eq_getElem (by rw [enc89_len]; exact ht), getElem!_pos (enc89 d[j]!) t (by rw [enc89_len]; exact ht)]
 ·rw [if_neg ht, List.getElem?_eq_none (by rw [enc89_len]; omega)]
theorem sort_R (w0 w : World) (v : Value) (xs : List S89) (g : Nat) (cb : Array Value) (cf : S89 → S89 → Int) (HB : Below w0.heap.size w0 w) (HO : Kd.R k89 89 w w0.heap.size (fun _ => True) v xs) (hsz : xs.length < 1152921504606846976)
  (eg : ∀ args w, (callFunc g args).run Try.prog w = .ok (.enter g args) w)
  (hgv : ∀ (W : World) (x y : S89), Calls Try.prog g (#[.agg (enc89 x).toArray, .agg (enc89 y).toArray] ++ cb) W fun e w' => e = .returned (.int .i64 (cf x y)) ∧ ∃ q os', w' = Sort.grow (W.drewN q) os') :
  Calls Try.prog 70 #[v, .func (.func g) #[] cb] w fun e w' => e = .returned (.tuple #[]) ∧ Kd.R k89 89 w' w0.heap.size (fun _ => True) v (Stab.stab (ltOf cf) xs.toArray).toList ∧ Below w0.heap.size w0 w' := by
 obtain ⟨hok, inner, ⟨hl, hcase⟩, hr⟩ := HO
 rcases hcase with ⟨rfl, h0⟩ | ⟨b, cap, cur, rfl, hb, hh, hnc, hcm, hcs, ht⟩
 ·obtain rfl : xs = [] := List.length_eq_zero_iff.1 h0
  have hi : ∀ W, Calls Try.prog 98 #[.slice none 0 0, .int .i64 0, .int .i64 0, .func (.func g) #[] cb] W fun e w' => e = .returned (.tuple #[]) ∧ w' = W := fun W => by
   go_enter Try.func98, Try.ntmps98
   go_wp2
   refine wp_loop_rounds 1 ?_
   rw [rounds_succ]
   go_wp2
   go_end0
   exact ⟨rfl, rfl⟩
  have hs : ∀ W, Calls Try.prog 93 #[.slice none 0 0, .int .i64 0, .func (.func g) #[] cb] W fun e w' => e = .returned (.tuple #[]) ∧ w' = W := fun W => by
   go_enter Try.func93, Try.ntmps93
   go_wp2
   refine wp_loop_rounds 1 ?_
   rw [rounds_succ]
   go_wp2_with fail
   refine (hi _).mono ?_
   rintro e w' ⟨rfl, rfl⟩
   go_wp2
   refine wp_loop_rounds 1 ?_
   rw [rounds_succ]
   go_wp2
   go_end0
   exact ⟨rfl, rfl⟩
  show Calls Try.prog 70 #[.slice none 0 0, .func (.func g) #[] cb] w _
  go_enter Try.func70, Try.ntmps70
  go_wp2_with fail
  refine (hs _).mono ?_
  rintro e w' ⟨rfl, rfl⟩
  go_wp2
  go_end0
  have hz : (Stab.stab (ltOf cf) ([] : List S89).toArray).toList = [] := List.length_eq_zero_iff.1 (by unfold Stab.stab; rw [Array.length_toList, Stab.size_mrg, Stab.size_insB]; rfl)
  rw [hz]
  exact ⟨rfl, Kd.R_nil _ _ _ _ _, HB⟩
 ·have hbl := sort_heap_lt hh
  have hin : inner.length = xs.length * 8 := hl
  have hF : Sort.flatK enc89 8 xs.toArray = inner.toArray := by
   apply Array.ext'
   apply List.ext_getElem?
   intro t
   by_cases htl : t < xs.length * 8
   ·rw [flat_get _ t (by simpa using htl), List.toList_toArray]
    have hj : t / 8 < xs.length := by omega
    have h1 := k89_openM (hr.2 (t / 8) _ (List.getElem?_eq_getElem hj))
    have h2 : ((inner.drop (t / 8 * 8)).take 8)[t % 8]? = inner[t]? := by
     rw [List.getElem?_take, if_pos (by omega), List.getElem?_drop, show t / 8 * 8 + t % 8 = t by omega]
    rw [show (k89.sz) = 8 from rfl] at h1
    rw [← h2, h1, show xs.toArray[t / 8]! = xs[t / 8] by simp [hj], List.getElem?_eq_getElem (by show t % 8 < 8; omega), getElem!_pos (enc89 xs[t / 8]) (t % 8) (by show t % 8 < 8; omega)]
    rfl
   ·rw [List.getElem?_eq_none (by rw [Array.length_toList, Sort.size_flatK, List.size_toArray]; omega), List.getElem?_eq_none (by rw [List.toList_toArray]; omega)]
  have hH : Sort.HoldsK enc89 8 w b 0 xs.toArray := by
   intro j hj
   rw [Sort.size_flatK, List.size_toArray] at hj
   refine ⟨?_, blk_frozen hh _⟩
   have h2 : inner[j]? = some ((Sort.flatK enc89 8 xs.toArray)[j]!) := by
    rw [hF, getElem!_pos _ j (by simpa [hin] using hj), List.getElem_toArray, List.getElem?_eq_getElem]
   rw [← ht, show k89.sz = 8 from rfl, List.getElem?_take, if_pos (by omega), Array.getElem?_toList] at h2
   rw [Nat.zero_add, blk_cell hh, h2]
   rfl
  have hcmp : CmpLays Try.prog g cb enc89 8 cf b 0 xs.toArray.size w := fun m os dk _ x y => hgv _ x y
  have hc := Stab.sortStable_calls Stab.layTry Stab.insLays enc89 w b 0 cap xs.toArray g cb cf enc89_len enc89_one eg hcmp hH hbl (by simpa using hsz)
  rw [List.size_toArray] at hc
  refine Calls.mono hc ?_
  rintro e w' ⟨rfl, n1, os1, rfl⟩
  have hsz2 : (Stab.stab (ltOf cf) xs.toArray).size = xs.length := by
   unfold Stab.stab
   rw [Stab.size_mrg, Stab.size_insB, List.size_toArray]
  generalize Stab.stab (ltOf cf) xs.toArray = d at hsz2 ⊢
  have hput : Sort.putRowK enc89 8 (Sort.ahead w n1) b 0 d = (w.drewN n1).setCells b 0 (Sort.flatK enc89 8 d).toList := by
   have h := Lib.putRow_eq_setCells id w b 0 (Sort.flatK enc89 8 xs.toArray) (Sort.flatK enc89 8 d).toList n1 hH (by rw [Array.length_toList, Sort.size_flatK, Sort.size_flatK, hsz2]; rfl)
   rw [Array.toArray_toList, List.map_id] at h
   exact h
  obtain ⟨cur2, k4, k5, k6⟩ := setCells_row (Sort.flatK enc89 8 d).toList 0 (w.drewN n1) cur hh (by rw [Array.length_toList, Sort.size_flatK, hsz2, hcs, Nat.zero_add]; exact Nat.mul_le_mul_right 8 hnc)
  have hB2 : Below w0.heap.size w0 (Sort.putRowK enc89 8 (Sort.ahead w n1) b 0 d) := by
   rw [hput]
   exact below_cellsS _ _ (pw_below_drewN HB n1) hb
  have hsm : w0.heap.size ≤ (Sort.putRowK enc89 8 (Sort.ahead w n1) b 0 d).heap.size := hB2.size
  have hbig : b < (Sort.putRowK enc89 8 (Sort.ahead w n1) b 0 d).heap.size := by
   rw [hput]
   exact sort_heap_lt k4
  have hrow : (sortWorldK enc89 8 w b 0 n1 d os1).heap[b]? = some (.cells cur2 89 (0, 0)) := by
   show (Sort.grow (Sort.putRowK enc89 8 (Sort.ahead w n1) b 0 d) os1).heap[b]? = _
   rw [Sort.heap_grow_old _ _ hbig, hput]
   exact k4
  refine ⟨rfl, ?_, below_growS os1 hB2 hsm⟩
  refine ⟨fun _ _ => trivial, (Sort.flatK enc89 8 d).toList, ⟨by rw [Array.length_toList, Array.length_toList, Sort.size_flatK]; rfl, .inr ⟨b, cap, cur2, by rw [show d.toList.length = xs.length from (Array.length_toList ..).trans hsz2], hb, hrow, by rw [Array.length_toList, hsz2]; exact hnc, hcm, by rw [k5, hcs], ?_⟩⟩, ?_⟩
  ·rw [k6, List.take_zero, List.nil_append, List.take_append_of_le_length (by rw [Array.length_toList, Array.length_toList, Sort.size_flatK]; exact Nat.le_refl _), List.take_of_length_le (by rw [Array.length_toList, Array.length_toList, Sort.size_flatK]; exact Nat.le_refl _)]
  ·refine ⟨by rw [Array.length_toList, Array.length_toList, Sort.size_flatK]; rfl, fun j p hj => ?_⟩
   have hjl : j < d.size := by
    have := (List.getElem?_eq_some_iff.1 hj).1
    rwa [Array.length_toList] at this
   have hp : d[j]! = p := by
    rw [Array.getElem?_toList, Array.getElem?_eq_getElem hjl] at hj
    rw [getElem!_pos d j hjl]
    injection hj
   rw [show k89.sz = 8 from rfl, flat_seg d j hjl, hp]
   exact k89_mkM _ _ _ p
def cmpTurn (x y : S89) : Int := if x.f5 < y.f5 then -1 else if y.f5 < x.f5 then 1 else 0
theorem gives94 (W : World) (x y : S89) : Calls Try.prog 94 (#[.agg (enc89 x).toArray, .agg (enc89 y).toArray] ++ #[]) W fun e w' => e = .returned (.int .i64 (cmpTurn x y)) ∧ ∃ q os', w' = Sort.grow (W.drewN q) os' := by
 have hu89 := Try.underlying89
 show Calls Try.prog 94 #[.agg #[.int .i64 x.f0, .int .i64 x.f1, .int .i64 x.f2, .int .i64 x.f3, .int .i64 x.f4, .int .i64 x.f5, .int .i64 x.f6, .int .i64 x.f7], .agg #[.int .i64 y.f0, .int .i64 y.f1, .int .i64 y.f2, .int .i64 y.f3, .int .i64 y.f4, .int .i64 y.f5, .int .i64 y.f6, .int .i64 y.f7]] W _
 unfold cmpTurn
 obtain ⟨x0, x1, x2, x3, x4, x5, x6, x7⟩ := x
 obtain ⟨y0, y1, y2, y3, y4, y5, y6, y7⟩ := y
 simp only
 by_cases h1 : x5 < y5
 ·rw [if_pos h1]
  go_enter Try.func94, Try.ntmps94
  go_wp2
  go_ret
  exact ⟨rfl, 0, _, by rw [Sort.alloc_eq_grow, Sort.alloc_eq_grow, Sort.grow_grow]; rfl⟩
 ·rw [if_neg h1]
  by_cases h2 : y5 < x5
  ·rw [if_pos h2]
   go_enter Try.func94, Try.ntmps94
   go_wp2
   go_ret
   exact ⟨rfl, 0, _, by rw [Sort.alloc_eq_grow, Sort.alloc_eq_grow, Sort.grow_grow]; rfl⟩
  ·rw [if_neg h2]
   go_enter Try.func94, Try.ntmps94
   go_wp2
   go_ret
   exact ⟨rfl, 0, _, by rw [Sort.alloc_eq_grow, Sort.alloc_eq_grow, Sort.grow_grow]; rfl⟩
def srtT (l : List (S89)) : List (S89) := (Stab.stab (ltOf cmpTurn) l.toArray).toList
theorem srtT_len (l : List (S89)) : (srtT l).length = l.length := by
 unfold srtT Stab.stab
 rw [Array.length_toList, Stab.size_mrg, Stab.size_insB, List.size_toArray]
mutual
def impl_turns.l0 : Nat → Int → List (S89) → List (S89) → Int → Int → Option ((List (S89)) × Bool)
 | 0, _, _, _, _, _ => none
 | k + 1, x1, x6, x12, x13, x14 => if x14 < x13 then (if 0 ≤ x14 then (if x14 < (x12.length : Int) then (if ((rd_T89 x12 x14).f1) = x1 then (if ((rd_T89 x12 x14).f3) = 1 then (if x6.length < 2199023255552 then (impl_turns.l0 k x1 (x6 ++ [(⟨(rd_T89 x12 x14).f0, (rd_T89 x12 x14).f1, (rd_T89 x12 x14).f2, (rd_T89 x12 x14).f3, (rd_T89 x12 x14).f4, (rd_T89 x12 x14).f5, (rd_T89 x12 x14).f6, (rd_T89 x12 x14).f7⟩ : S89)]) x12 x13 (wrap64 (x14 + 1))) else (none)) else (impl_turns.l0 k x1 x6 x12 x13 (wrap64 (x14 + 1)))) else (impl_turns.l0 k x1 x6 x12 x13 (wrap64 (x14 + 1)))) else (none)) else (none)) else (if x6.length < 1152921504606846976 then (impl_turns.l1 k (srtT x6) (srtT x6) ((srtT x6).length : Int) 0) else (none))
def impl_turns.l1 : Nat → List (S89) → List (S89) → Int → Int → Option ((List (S89)) × Bool)
 | 0, _, _, _, _ => none
 | k + 1, x6, x34, x35, x36 => if x36 < x35 then (if 0 ≤ x36 then (if x36 < (x34.length : Int) then (if ((rd_T89 x34 x36).f5) = x36 then (impl_turns.l1 k x6 x34 x35 (wrap64 (x36 + 1))) else (some (([] : List (S89)), false))) else (none)) else (none)) else (some (x6, true))
end
def impl_turns.f (k : Nat) (l0 : List (S89)) (a1 : Int) : Option ((List (S89)) × Bool) := impl_turns.l0 k a1 (([] : List (S89))) l0 (l0.length : Int) 0
theorem impl_turns.mono_l : ∀ k, (∀ y0 y1 y2 y3 y4, LeO (impl_turns.l0 k y0 y1 y2 y3 y4) (impl_turns.l0 (k + 1) y0 y1 y2 y3 y4)) ∧ (∀ y0 y1 y2 y3, LeO (impl_turns.l1 k y0 y1 y2 y3) (impl_turns.l1 (k + 1) y0 y1 y2 y3))
 | 0 => ⟨fun _ _ _ _ _ r h => by simp [impl_turns.l0] at h, fun _ _ _ _ r h => by simp [impl_turns.l1] at h⟩
 | k + 1 => by
  obtain ⟨ih0, ih1⟩ := impl_turns.mono_l k
  refine ⟨?_, ?_⟩
  ·intro y0 y1 y2 y3 y4
   unfold impl_turns.l0
   repeat' first
   | (with_reducible exact ih0 _ _ _ _ _)
   | (with_reducible exact ih1 _ _ _ _)
   | (with_reducible exact LeO.refl _)
   | (with_reducible exact LeO.none _)
   | (with_reducible refine LeO.ite ?_ ?_)
   | (with_reducible refine LeO.bind ?_ (fun _ => ?_))
   | exact ih0 _ _ _ _ _
   | exact ih1 _ _ _ _
   | exact LeO.none _
   | refine LeO.ite ?_ ?_
   | refine LeO.bind ?_ (fun _ => ?_)
  ·intro y0 y1 y2 y3
   unfold impl_turns.l1
   repeat' first
   | (with_reducible exact ih0 _ _ _ _ _)
   | (with_reducible exact ih1 _ _ _ _)
   | (with_reducible exact LeO.refl _)
   | (with_reducible exact LeO.none _)
   | (with_reducible refine LeO.ite ?_ ?_)
   | (with_reducible refine LeO.bind ?_ (fun _ => ?_))
   | exact ih0 _ _ _ _ _
   | exact ih1 _ _ _ _
   | exact LeO.none _
   | refine LeO.ite ?_ ?_
   | refine LeO.bind ?_ (fun _ => ?_)
theorem impl_turns.mono : ∀ a0 a1 k, LeO (impl_turns.f k a0 a1) (impl_turns.f (k + 1) a0 a1) := by
 intro a0 a1 k
 obtain ⟨ih0, ih1⟩ := impl_turns.mono_l k
 unfold impl_turns.f
 repeat' first
   | (with_reducible exact ih0 _ _ _ _ _)
   | (with_reducible exact ih1 _ _ _ _)
   | (with_reducible exact LeO.refl _)
   | (with_reducible exact LeO.none _)
   | (with_reducible refine LeO.ite ?_ ?_)
   | (with_reducible refine LeO.bind ?_ (fun _ => ?_))
   | exact ih0 _ _ _ _ _
   | exact ih1 _ _ _ _
   | exact LeO.none _
   | refine LeO.ite ?_ ?_
   | refine LeO.bind ?_ (fun _ => ?_)
set_option maxHeartbeats 8000000 in
set_option maxRecDepth 100000 in
theorem impl_turns.calls (k : Nat) (A0 : Option Addr) (c0 : Nat) (l0 : List (S89)) (a1 : Int) (r1 : List (S89)) (r2 : Bool) (w : World) (hr0 : Kd.C k89 w A0 l0.length l0) (hc0 : l0.length ≤ c0) (h : impl_turns.f k l0 a1 = some (r1, r2)) :
  Calls Try.prog 74 #[.slice A0 l0.length c0, .int .i64 a1] w fun e w' => ∃ v0_ : Value, e = .returned (.tuple #[v0_, .bool r2]) ∧ Kd.R k89 89 w' w.heap.size (fun _ => True) v0_ r1 ∧ Below w.heap.size w w' := by
 have hu89 := Try.underlying89
 have HR0 := Aside0.mk hr0
 clear hr0 hc0
 have HB := Aside0.mk (Below.refl w.heap.size w)
 have H : (impl_turns.l0 k a1 (([] : List (S89))) l0 (l0.length : Int) 0) = some (r1, r2) := h
 clear h
 obtain ⟨y168, hy168⟩ : ∃ y_ : List (S89), y_ = (([] : List (S89))) := ⟨_, rfl⟩
 replace H : (impl_turns.l0 k a1 y168 l0 (l0.length : Int) 0) = some (r1, r2) := by first | (rw [hy168]; with_reducible exact H) | (have H2_ := (Option.bind_some _ _).symm.trans H; rw [hy168]; with_reducible exact H2_) | (have H2_ := (Option.bind_some _ _).symm.trans H; with_reducible exact H2_) | with_reducible exact H | (rw [hy168]; exact H) | exact H
 have Ny168 := Aside0.mk hy168
 clear hy168
 have H' := Aside0.mk H
 clear H
 go_enter Try.func74, Try.ntmps74
 go_wp2_with (first | ((with_reducible refine gate_dst (N := 11) rfl ?_); refine Kd.R_lit k89 _ 89 ?hg (N := 11) ?hd (xs := ([] : List (S89))) (inner := []) (ok := fun _ => True) (okp := fun _ => True) ?hr ?hp (fun _ hk => hk) trivial (Below.refl _ _) (Nat.le_refl _) (by simp) ?_; (case hd => rfl); (case hg => rfl); (case hr => first | (go_simp; done) | (go_simp; rfl)); (case hp => exact (Reps.none _ _)); intro jD w3 ho4 hb hg_ hnew_; clear hg_ hnew_; (first | rw [← Ny168.out] at ho4 | (simp only [Int.reduceToNat] at ho4; rw [← Ny168.out] at ho4)); have tA := Aside0.mk (Kd.R_lower ho4 (below_size q3_0)); have uA := Aside0.mk (below_step q3_0 hb); clear HB; have gC := tA; have HB := uA; clear tA uA; clear hb ho4))
 go_loopg [6, 14] k (fun kq v6 v14 w' => ∃ (rA : List (S89)) (aA : Int), v14 = .int .i64 aA ∧ Aside0 (impl_turns.l0 kq a1 rA l0 (l0.length : Int) aA = some (r1, r2)) ∧ Aside0 (kq ≤ k) ∧ Aside0 (Kd.R k89 89 w' w.heap.size (fun _ => True) v6 rA) ∧ Aside0 (Below w.heap.size w w'))
 case atStart => exact ⟨(y168), (0), q3_6, H', ⟨Nat.le_refl _⟩, ⟨by (with_reducible repeat (first | apply Kd.R_alloc | apply Kd.R_drewN | apply Kd.R_drew)); exact gC.out⟩, ⟨q3_0⟩⟩
 case round =>
  clear H'
  try clear p2
  obtain ⟨rA, aA, rfl, HA, HK1, qA, HB⟩ := hrel
  cases gk with
  | zero => exact absurd HA.out (by simp [impl_turns.l0])
  | succ k1 =>
   have H := HA.out
   clear HA
   simp only [impl_turns.l0] at H
   by_cases c5 : aA < (l0.length : Int)
   ·rw [if_pos c5] at H
    have ZB : decide (aA < (l0.length : Int)) = true := decide_eq_true c5
    clear c5
    by_cases c6 : 0 ≤ aA
    ·rw [if_pos c6] at H
     have JA : decide (0 ≤ aA) = true := decide_eq_true c6
     clear c6
     by_cases c7 : aA < (l0.length : Int)
     ·rw [if_pos c7] at H
      have YB : decide (aA < (l0.length : Int)) = true := decide_eq_true c7
      clear c7
      by_cases c8 : ((rd_T89 l0 aA).f1) = a1
      ·rw [if_pos c8] at H
       have DA : (((rd_T89 l0 aA).f1) == a1) = true := beq_iff_eq.mpr c8
       have KA : (((rd_T89 l0 aA).f1) != a1) = false := bne_eq_false_iff_eq.mpr c8
       clear c8
       by_cases c9 : ((rd_T89 l0 aA).f3) = 1
       ·rw [if_pos c9] at H
        have hC : (((rd_T89 l0 aA).f3) == 1) = true := beq_iff_eq.mpr c9
        have iC : (((rd_T89 l0 aA).f3) != 1) = false := bne_eq_false_iff_eq.mpr c9
        clear c9
        by_cases c10 : rA.length < 2199023255552
        ·rw [if_pos c10] at H
         have LMc10 := Aside0.mk c10
         clear c10
         obtain ⟨y173, hy173⟩ : ∃ y_ : List (S89), y_ = (rA ++ [(⟨(rd_T89 l0 aA).f0, (rd_T89 l0 aA).f1, (rd_T89 l0 aA).f2, (rd_T89 l0 aA).f3, (rd_T89 l0 aA).f4, (rd_T89 l0 aA).f5, (rd_T89 l0 aA).f6, (rd_T89 l0 aA).f7⟩ : S89)]) := ⟨_, rfl⟩
         replace H : (impl_turns.l0 k1 a1 y173 l0 (l0.length : Int) (wrap64 (aA + 1))) = some (r1, r2) := by first | (rw [hy173]; with_reducible exact H) | (have H2_ := (Option.bind_some _ _).symm.trans H; rw [hy173]; with_reducible exact H2_) | (have H2_ := (Option.bind_some _ _).symm.trans H; with_reducible exact H2_) | with_reducible exact H | (rw [hy173]; exact H) | exact H
         have Ny173 := Aside0.mk hy173
         clear hy173
         have H' := Aside0.mk H
         clear H
         have p171 : 0 ≤ (aA : Int) := of_decide_eq_true q3_2
         have q171 : aA < (l0.length : Int) := of_decide_eq_true q3_2
         obtain ⟨ad171, EA, hA, iA, jA, kA, lA, mA, nA, oA⟩ := at_T89 HR0.out aA p171 q171
         cases EA
         replace hA := (HB.out.cell (World.block_lt_of_cell? w _ hA)).trans hA
         replace iA := (HB.out.cell (World.block_lt_of_cell? w _ iA)).trans iA
         replace jA := (HB.out.cell (World.block_lt_of_cell? w _ jA)).trans jA
         replace kA := (HB.out.cell (World.block_lt_of_cell? w _ kA)).trans kA
         replace lA := (HB.out.cell (World.block_lt_of_cell? w _ lA)).trans lA
         replace mA := (HB.out.cell (World.block_lt_of_cell? w _ mA)).trans mA
         replace nA := (HB.out.cell (World.block_lt_of_cell? w _ nA)).trans nA
         replace oA := (HB.out.cell (World.block_lt_of_cell? w _ oA)).trans oA
         replace p171 := eq_true p171
         replace q171 := eq_true q171
         go_wp2_with (first | ((with_reducible refine gate_dst (N := 8) rfl ?_); refine box_event ?hg (N := 8) ?hd (cs := #[.int .i64 0, .int .i64 0, .int .i64 0, .int .i64 0, .int .i64 0, .int .i64 0, .int .i64 0, .int .i64 0]) (t := 89) ?hr ?_; (case hd => rfl); (case hg => rfl); (case hr => first | (go_simp; done) | (go_simp; rfl)); intro bA hg BA hbox hb; have tA := Aside0.mk (Kd.R_below (Kd.R_elderB q3_4 bA (Nat.le_of_eq hg.symm)) hb); have uA := Aside0.mk (below_step q3_0 hb); have xA := Aside0.mk (hbox); have zA := Aside0.mk ((q3_7 : w.heap.size ≤ bA)); have AA := Aside0.mk ((q3_7 : w.heap.size ≤ bA)); clear qA HB; have qA := tA; have HB := uA; have cA := xA; have TB := zA; have CA := AA; clear tA uA xA zA AA; clear hb hbox hg; have LA : BA.cell? ⟨bA, 0, none⟩ = some (.int .i64 0) := (blk_cell cA.out 0).trans rfl; have MA : BA.cell? ⟨bA, 1, none⟩ = some (.int .i64 0) := (blk_cell cA.out 1).trans rfl; have NA : BA.cell? ⟨bA, 2, none⟩ = some (.int .i64 0) := (blk_cell cA.out 2).trans rfl; have OA : BA.cell? ⟨bA, 3, none⟩ = some (.int .i64 0) := (blk_cell cA.out 3).trans rfl; have PA : BA.cell? ⟨bA, 4, none⟩ = some (.int .i64 0) := (blk_cell cA.out 4).trans rfl; have QA : BA.cell? ⟨bA, 5, none⟩ = some (.int .i64 0) := (blk_cell cA.out 5).trans rfl; have RA : BA.cell? ⟨bA, 6, none⟩ = some (.int .i64 0) := (blk_cell cA.out 6).trans rfl; have SA : BA.cell? ⟨bA, 7, none⟩ = some (.int .i64 0) := (blk_cell cA.out 7).trans rfl; have TA := blk_frozen cA.out 0; have UA := blk_frozen cA.out 1; have VA := blk_frozen cA.out 2; have WA := blk_frozen cA.out 3; have XA := blk_frozen cA.out 4; have YA := blk_frozen cA.out 5; have ZA := blk_frozen cA.out 6; have bB := blk_frozen cA.out 7) | ((with_reducible refine gate_builtin (b := .append) (xs := #[.tmp 27, .tmp 29]) rfl ?_); at_builtin; refine Kd.R_append k89 (w0 := w) w.heap.size rfl (.tmp 27) (.tmp 29) 60 89 (.agg #[(.int .i64 0), (.int .i64 0), (.int .i64 0), (.int .i64 0), (.int .i64 0), (.int .i64 0), (.int .i64 0), (.int .i64 0)]) 64 rfl Try.underlying60 info89 rfl (by decide) (by omega) u6 rA (⟨(rd_T89 l0 aA).f0, (rd_T89 l0 aA).f1, (rd_T89 l0 aA).f2, (rd_T89 l0 aA).f3, (rd_T89 l0 aA).f4, (rd_T89 l0 aA).f5, (rd_T89 l0 aA).f6, (rd_T89 l0 aA).f7⟩ : S89) [.int .i64 ((rd_T89 l0 aA).f0), .int .i64 ((rd_T89 l0 aA).f1), .int .i64 ((rd_T89 l0 aA).f2), .int .i64 ((rd_T89 l0 aA).f3), .int .i64 ((rd_T89 l0 aA).f4), .int .i64 ((rd_T89 l0 aA).f5), .int .i64 ((rd_T89 l0 aA).f6), .int .i64 ((rd_T89 l0 aA).f7)] (fun k_ => k_ ≠ bA) (fun _ => False) rfl (by first | (go_simp; done) | (go_simp; rfl)) ?aP (fun _ hk => hk.elim) ?aF ?aO ?aB ?aS ?aL ?_; (case aP => exact k89_mkM _ _ _ (⟨(rd_T89 l0 aA).f0, (rd_T89 l0 aA).f1, (rd_T89 l0 aA).f2, (rd_T89 l0 aA).f3, (rd_T89 l0 aA).f4, (rd_T89 l0 aA).f5, (rd_T89 l0 aA).f6, (rd_T89 l0 aA).f7⟩ : S89)); (case aB => exact q3_5); (case aF => exact (fun k_ hk => Kd.freshB (g := bA) (o := .cells #[.int .i64 ((rd_T89 l0 aA).f0), .int .i64 ((rd_T89 l0 aA).f1), .int .i64 ((rd_T89 l0 aA).f2), .int .i64 ((rd_T89 l0 aA).f3), .int .i64 ((rd_T89 l0 aA).f4), .int .i64 ((rd_T89 l0 aA).f5), .int .i64 ((rd_T89 l0 aA).f6), .int .i64 ((rd_T89 l0 aA).f7)] 89 (0, 0)) q3_1 k_ hk)); (case aO => exact (by (with_reducible repeat (first | apply Kd.R_alloc | apply Kd.R_drewN | apply Kd.R_drew)); exact Kd.R_mono (Kd.R_far (p := ⟨bA, 7, none⟩) (Kd.R_far (p := ⟨bA, 6, none⟩) (Kd.R_far (p := ⟨bA, 5, none⟩) (Kd.R_far (p := ⟨bA, 4, none⟩) (Kd.R_far (p := ⟨bA, 3, none⟩) (Kd.R_far (p := ⟨bA, 2, none⟩) (Kd.R_far (p := ⟨bA, 1, none⟩) (Kd.R_far (p := ⟨bA, 0, none⟩) (Kd.R_mono qA.out (fun k_ hk => (⟨hk, hk.2⟩ : _ ∧ k_ ≠ bA))) (fun _ hk => hk.2) (.int .i64 ((rd_T89 l0 aA).f0))) (fun _ hk => hk.2) (.int .i64 ((rd_T89 l0 aA).f1))) (fun _ hk => hk.2) (.int .i64 ((rd_T89 l0 aA).f2))) (fun _ hk => hk.2) (.int .i64 ((rd_T89 l0 aA).f3))) (fun _ hk => hk.2) (.int .i64 ((rd_T89 l0 aA).f4))) (fun _ hk => hk.2) (.int .i64 ((rd_T89 l0 aA).f5))) (fun _ hk => hk.2) (.int .i64 ((rd_T89 l0 aA).f6))) (fun _ hk => hk.2) (.int .i64 ((rd_T89 l0 aA).f7))) (fun _ hk => hk.1.2))); (case aS => exact (below_size q3_5)); (case aL => have := LMc10.out; omega); intro kD lD ho hb hg hat; rw [← Ny173.out] at ho; have tA := Aside0.mk (blk_grown (g := bA) (o := .cells #[.int .i64 ((rd_T89 l0 aA).f0), .int .i64 ((rd_T89 l0 aA).f1), .int .i64 ((rd_T89 l0 aA).f2), .int .i64 ((rd_T89 l0 aA).f3), .int .i64 ((rd_T89 l0 aA).f4), .int .i64 ((rd_T89 l0 aA).f5), .int .i64 ((rd_T89 l0 aA).f6), .int .i64 ((rd_T89 l0 aA).f7)] 89 (0, 0)) q3_1 hg (Kd.R_away qA.out (fun _ hk => hk.2))); have uA := Aside0.mk (hb); have xA := Aside0.mk (ho); clear cA HB qA; have cA := tA; have HB := uA; have jC := xA; clear tA uA xA; clear ho hb hg hat))
         go_roundg k1
         case measure => have := HK1.out; omega
         case rel => exact ⟨(y173), (wrap64 (aA + 1)), q3_6, H', ⟨by have := HK1.out; omega⟩, ⟨by (with_reducible repeat (first | apply Kd.R_alloc | apply Kd.R_drewN | apply Kd.R_drew)); exact Kd.R_mono jC.out (fun _ hk => trivial)⟩, ⟨q3_5⟩⟩
        ·rw [if_neg c10] at H
         exact absurd H (by simp)
       ·rw [if_neg c9] at H
        have hC : (((rd_T89 l0 aA).f3) == 1) = false := beq_eq_false_iff_ne.mpr c9
        have iC : (((rd_T89 l0 aA).f3) != 1) = true := bne_iff_ne.mpr c9
        have H' := Aside0.mk H
        clear H
        have p171 : 0 ≤ (aA : Int) := of_decide_eq_true q3_2
        have q171 : aA < (l0.length : Int) := of_decide_eq_true q3_2
        obtain ⟨ad171, EA, hA, iA, jA, kA, lA, mA, nA, oA⟩ := at_T89 HR0.out aA p171 q171
        cases EA
        replace hA := (HB.out.cell (World.block_lt_of_cell? w _ hA)).trans hA
        replace iA := (HB.out.cell (World.block_lt_of_cell? w _ iA)).trans iA
        replace jA := (HB.out.cell (World.block_lt_of_cell? w _ jA)).trans jA
        replace kA := (HB.out.cell (World.block_lt_of_cell? w _ kA)).trans kA
        replace lA := (HB.out.cell (World.block_lt_of_cell? w _ lA)).trans lA
        replace mA := (HB.out.cell (World.block_lt_of_cell? w _ mA)).trans mA
        replace nA := (HB.out.cell (World.block_lt_of_cell? w _ nA)).trans nA
        replace oA := (HB.out.cell (World.block_lt_of_cell? w _ oA)).trans oA
        replace p171 := eq_true p171
        replace q171 := eq_true q171
        go_wp2_with (first | ((with_reducible refine gate_dst (N := 8) rfl ?_); refine box_event ?hg (N := 8) ?hd (cs := #[.int .i64 0, .int .i64 0, .int .i64 0, .int .i64 0, .int .i64 0, .int .i64 0, .int .i64 0, .int .i64 0]) (t := 89) ?hr ?_; (case hd => rfl); (case hg => rfl); (case hr => first | (go_simp; done) | (go_simp; rfl)); intro bA hg UB hbox hb; have tA := Aside0.mk (Kd.R_below (Kd.R_elderB q3_4 bA (Nat.le_of_eq hg.symm)) hb); have uA := Aside0.mk (below_step q3_0 hb); have xA := Aside0.mk (hbox); have zA := Aside0.mk ((q3_7 : w.heap.size ≤ bA)); have AA := Aside0.mk ((q3_7 : w.heap.size ≤ bA)); clear qA HB; have qA := tA; have HB := uA; have cA := xA; have TB := zA; have CA := AA; clear tA uA xA zA AA; clear hb hbox hg; have cB : UB.cell? ⟨bA, 0, none⟩ = some (.int .i64 0) := (blk_cell cA.out 0).trans rfl; have dB : UB.cell? ⟨bA, 1, none⟩ = some (.int .i64 0) := (blk_cell cA.out 1).trans rfl; have eB : UB.cell? ⟨bA, 2, none⟩ = some (.int .i64 0) := (blk_cell cA.out 2).trans rfl; have fB : UB.cell? ⟨bA, 3, none⟩ = some (.int .i64 0) := (blk_cell cA.out 3).trans rfl; have gB : UB.cell? ⟨bA, 4, none⟩ = some (.int .i64 0) := (blk_cell cA.out 4).trans rfl; have hB : UB.cell? ⟨bA, 5, none⟩ = some (.int .i64 0) := (blk_cell cA.out 5).trans rfl; have iB : UB.cell? ⟨bA, 6, none⟩ = some (.int .i64 0) := (blk_cell cA.out 6).trans rfl; have jB : UB.cell? ⟨bA, 7, none⟩ = some (.int .i64 0) := (blk_cell cA.out 7).trans rfl; have kB := blk_frozen cA.out 0; have lB := blk_frozen cA.out 1; have mB := blk_frozen cA.out 2; have nB := blk_frozen cA.out 3; have oB := blk_frozen cA.out 4; have pB := blk_frozen cA.out 5; have qB := blk_frozen cA.out 6; have rB := blk_frozen cA.out 7))
        go_roundg k1
        case measure => have := HK1.out; omega
        case rel => exact ⟨(rA), (wrap64 (aA + 1)), q3_6, H', ⟨by have := HK1.out; omega⟩, ⟨q3_3⟩, ⟨q3_5⟩⟩
      ·rw [if_neg c8] at H
       have DA : (((rd_T89 l0 aA).f1) == a1) = false := beq_eq_false_iff_ne.mpr c8
       have KA : (((rd_T89 l0 aA).f1) != a1) = true := bne_iff_ne.mpr c8
       have H' := Aside0.mk H
       clear H
       have p171 : 0 ≤ (aA : Int) := of_decide_eq_true q3_2
       have q171 : aA < (l0.length : Int) := of_decide_eq_true q3_2
       obtain ⟨ad171, EA, hA, iA, jA, kA, lA, mA, nA, oA⟩ := at_T89 HR0.out aA p171 q171
       cases EA
       replace hA := (HB.out.cell (World.block_lt_of_cell? w _ hA)).trans hA
       replace iA := (HB.out.cell (World.block_lt_of_cell? w _ iA)).trans iA
       replace jA := (HB.out.cell (World.block_lt_of_cell? w _ jA)).trans jA
       replace kA := (HB.out.cell (World.block_lt_of_cell? w _ kA)).trans kA
       replace lA := (HB.out.cell (World.block_lt_of_cell? w _ lA)).trans lA
       replace mA := (HB.out.cell (World.block_lt_of_cell? w _ mA)).trans mA
       replace nA := (HB.out.cell (World.block_lt_of_cell? w _ nA)).trans nA
       replace oA := (HB.out.cell (World.block_lt_of_cell? w _ oA)).trans oA
       replace p171 := eq_true p171
       replace q171 := eq_true q171
       go_wp2_with (first | ((with_reducible refine gate_dst (N := 8) rfl ?_); refine box_event ?hg (N := 8) ?hd (cs := #[.int .i64 0, .int .i64 0, .int .i64 0, .int .i64 0, .int .i64 0, .int .i64 0, .int .i64 0, .int .i64 0]) (t := 89) ?hr ?_; (case hd => rfl); (case hg => rfl); (case hr => first | (go_simp; done) | (go_simp; rfl)); intro bA hg VB hbox hb; have tA := Aside0.mk (Kd.R_below (Kd.R_elderB q3_4 bA (Nat.le_of_eq hg.symm)) hb); have uA := Aside0.mk (below_step q3_0 hb); have xA := Aside0.mk (hbox); have zA := Aside0.mk ((q3_7 : w.heap.size ≤ bA)); have AA := Aside0.mk ((q3_7 : w.heap.size ≤ bA)); clear qA HB; have qA := tA; have HB := uA; have cA := xA; have TB := zA; have CA := AA; clear tA uA xA zA AA; clear hb hbox hg; have sB : VB.cell? ⟨bA, 0, none⟩ = some (.int .i64 0) := (blk_cell cA.out 0).trans rfl; have tB : VB.cell? ⟨bA, 1, none⟩ = some (.int .i64 0) := (blk_cell cA.out 1).trans rfl; have uB : VB.cell? ⟨bA, 2, none⟩ = some (.int .i64 0) := (blk_cell cA.out 2).trans rfl; have vB : VB.cell? ⟨bA, 3, none⟩ = some (.int .i64 0) := (blk_cell cA.out 3).trans rfl; have wB : VB.cell? ⟨bA, 4, none⟩ = some (.int .i64 0) := (blk_cell cA.out 4).trans rfl; have xB : VB.cell? ⟨bA, 5, none⟩ = some (.int .i64 0) := (blk_cell cA.out 5).trans rfl; have yB : VB.cell? ⟨bA, 6, none⟩ = some (.int .i64 0) := (blk_cell cA.out 6).trans rfl; have zB : VB.cell? ⟨bA, 7, none⟩ = some (.int .i64 0) := (blk_cell cA.out 7).trans rfl; have AB := blk_frozen cA.out 0; have BB := blk_frozen cA.out 1; have CB := blk_frozen cA.out 2; have DB := blk_frozen cA.out 3; have EB := blk_frozen cA.out 4; have FB := blk_frozen cA.out 5; have GB := blk_frozen cA.out 6; have IB := blk_frozen cA.out 7))
       go_roundg k1
       case measure => have := HK1.out; omega
       case rel => exact ⟨(rA), (wrap64 (aA + 1)), q3_6, H', ⟨by have := HK1.out; omega⟩, ⟨q3_3⟩, ⟨q3_5⟩⟩
     ·rw [if_neg c7] at H
      exact absurd H (by simp)
    ·rw [if_neg c6] at H
     exact absurd H (by simp)
   ·rw [if_neg c5] at H
    have ZB : decide (aA < (l0.length : Int)) = false := decide_eq_false c5
    clear c5
    by_cases cs_ : rA.length < 1152921504606846976
    ·rw [if_pos cs_] at H
     have LMcs := Aside0.mk cs_
     clear cs_
     have H' := Aside0.mk H
     clear H
     obtain ⟨aC, bC, aD⟩ := Kd.R_slice qA.out
     subst aD
     go_wp2_with fail
     refine (sort_R w _ _ rA 94 #[] cmpTurn q3_0 q3_4 LMcs.out (enters_of Try.func94 (by kernel_rfl) rfl) gives94).mono ?_
     rintro e w5_ ⟨rfl, ho_, hb_⟩
     clear qA HB
     have qA := Aside0.mk ho_
     have HB := Aside0.mk hb_
     clear ho_ hb_
     have hlen := srtT_len rA
     change Aside0 (Kd.R k89 89 w5_ w.heap.size (fun _ => True) (.slice aC rA.length bC) (srtT rA)) at qA
     generalize srtT rA = y6_1 at hlen H' qA
     rw [← hlen] at qA ⊢
     clear hlen
     go_wp2
     go_loopg [36] k1 (fun kq v36 w' => ∃ (dA : Int), v36 = .int .i64 dA ∧ Aside0 (impl_turns.l1 kq y6_1 y6_1 (y6_1.length : Int) dA = some (r1, r2)) ∧ Aside0 (kq ≤ k1) ∧ Aside0 (Kd.R k89 89 w' w.heap.size (fun _ => True) (.slice aC y6_1.length bC) y6_1) ∧ Aside0 (Kd.R k89 89 w' w.heap.size (fun _ => True) (.slice aC y6_1.length bC) y6_1) ∧ Aside0 (Below w.heap.size w w'))
     case atStart => exact ⟨(0), q3_6, H', ⟨Nat.le_refl _⟩, ⟨q3_4⟩, ⟨q3_4⟩, ⟨q3_0⟩⟩
     case round =>
      clear H'
      (try clear c1); (try clear p1); (try clear q1); (try clear hx1); (try clear p2); (try clear c5); (try clear ZB); (try clear c6); (try clear JA); (try clear p6); (try clear c7); (try clear YB); (try clear c8); (try clear DA); (try clear KA); (try clear c9); (try clear hC); (try clear iC); (try clear c10); (try clear p17); (try clear q17); (try clear hx17); (try clear LA); (try clear MA); (try clear NA); (try clear OA); (try clear PA); (try clear QA); (try clear RA); (try clear SA); (try clear cB); (try clear dB); (try clear eB); (try clear fB); (try clear gB); (try clear hB); (try clear iB); (try clear jB); (try clear sB); (try clear tB); (try clear uB); (try clear vB); (try clear wB); (try clear xB); (try clear yB); (try clear zB); (try clear TA); (try clear UA); (try clear VA); (try clear WA); (try clear XA); (try clear YA); (try clear ZA); (try clear bB); (try clear kB); (try clear lB); (try clear mB); (try clear nB); (try clear oB); (try clear pB); (try clear qB); (try clear rB); (try clear AB); (try clear BB); (try clear CB); (try clear DB); (try clear EB); (try clear FB); (try clear GB); (try clear IB); (try clear hA); (try clear iA); (try clear jA); (try clear kA); (try clear lA); (try clear mA); (try clear nA); (try clear oA); (try clear p171); (try clear p2); (try clear q171)
      obtain ⟨dA, rfl, HA, HK2, qA, sA, HB⟩ := hrel
      cases gk with
      | zero => exact absurd HA.out (by simp [impl_turns.l1])
      | succ k2 =>
       have H := HA.out
       clear HA
       simp only [impl_turns.l1] at H
       by_cases c19 : dA < (y6_1.length : Int)
       ·rw [if_pos c19] at H
        have kC : decide (dA < (y6_1.length : Int)) = true := decide_eq_true c19
        clear c19
        by_cases c20 : 0 ≤ dA
        ·rw [if_pos c20] at H
         have gD : decide (0 ≤ dA) = true := decide_eq_true c20
         clear c20
         by_cases c21 : dA < (y6_1.length : Int)
         ·rw [if_pos c21] at H
          have hD : decide (dA < (y6_1.length : Int)) = true := decide_eq_true c21
          clear c21
          by_cases c22 : ((rd_T89 y6_1 dA).f5) = dA
          ·rw [if_pos c22] at H
           have lC : (((rd_T89 y6_1 dA).f5) == dA) = true := beq_iff_eq.mpr c22
           have mC : (((rd_T89 y6_1 dA).f5) != dA) = false := bne_eq_false_iff_eq.mpr c22
           clear c22
           have H' := Aside0.mk H
           clear H
           have p176 : 0 ≤ (dA : Int) := of_decide_eq_true q3_2
           have q176 : dA < (y6_1.length : Int) := of_decide_eq_true q3_2
           obtain ⟨ad176, cC, JB, KB, LB, MB, NB, OB, PB, QB⟩ := at_T89 (Kd.R_reads' sA.out).2.2 dA p176 q176
           cases cC
           replace p176 := eq_true p176
           replace q176 := eq_true q176
           go_wp2_with (first | ((with_reducible refine gate_dst (N := 10) rfl ?_); refine box_event ?hg (N := 10) ?hd (cs := #[.int .i64 0, .int .i64 0, .int .i64 0, .int .i64 0, .int .i64 0, .int .i64 0, .int .i64 0, .int .i64 0]) (t := 89) ?hr ?_; (case hd => rfl); (case hg => rfl); (case hr => first | (go_simp; done) | (go_simp; rfl)); intro eA hg WB hbox hb; have tA := Aside0.mk (Kd.R_below (Kd.R_elderB q3_4 eA (Nat.le_of_eq hg.symm)) hb); have uA := Aside0.mk (Kd.R_below (Kd.R_elderB (by (with_reducible repeat (first | apply Kd.R_alloc | apply Kd.R_drewN | apply Kd.R_drew)); exact sA.out) eA (Nat.le_of_eq hg.symm)) hb); have xA := Aside0.mk (below_step q3_0 hb); have zA := Aside0.mk (hbox); have AA := Aside0.mk ((q3_7 : w.heap.size ≤ eA)); have nC := Aside0.mk ((q3_7 : w.heap.size ≤ eA)); clear qA sA HB; have qA := tA; have sA := uA; have HB := xA; have gA := zA; have oC := AA; have FA := nC; clear tA uA xA zA AA nC; clear hb hbox hg; have qC : WB.cell? ⟨eA, 0, none⟩ = some (.int .i64 0) := (blk_cell gA.out 0).trans rfl; have rC : WB.cell? ⟨eA, 1, none⟩ = some (.int .i64 0) := (blk_cell gA.out 1).trans rfl; have sC : WB.cell? ⟨eA, 2, none⟩ = some (.int .i64 0) := (blk_cell gA.out 2).trans rfl; have tC : WB.cell? ⟨eA, 3, none⟩ = some (.int .i64 0) := (blk_cell gA.out 3).trans rfl; have uC : WB.cell? ⟨eA, 4, none⟩ = some (.int .i64 0) := (blk_cell gA.out 4).trans rfl; have vC : WB.cell? ⟨eA, 5, none⟩ = some (.int .i64 0) := (blk_cell gA.out 5).trans rfl; have wC : WB.cell? ⟨eA, 6, none⟩ = some (.int .i64 0) := (blk_cell gA.out 6).trans rfl; have xC : WB.cell? ⟨eA, 7, none⟩ = some (.int .i64 0) := (blk_cell gA.out 7).trans rfl; have yC := blk_frozen gA.out 0; have zC := blk_frozen gA.out 1; have AC := blk_frozen gA.out 2; have BC := blk_frozen gA.out 3; have CC := blk_frozen gA.out 4; have DC := blk_frozen gA.out 5; have EC := blk_frozen gA.out 6; have FC := blk_frozen gA.out 7))
           go_roundg k2
           case measure => have := HK1.out; have := HK2.out; omega
           case rel => exact ⟨(wrap64 (dA + 1)), q3_6, H', ⟨by have := HK1.out; have := HK2.out; omega⟩, ⟨by (with_reducible repeat (first | apply Kd.R_alloc | apply Kd.R_drewN | apply Kd.R_drew)); exact Kd.R_mono (Kd.R_far (p := ⟨eA, 7, none⟩) (Kd.R_far (p := ⟨eA, 6, none⟩) (Kd.R_far (p := ⟨eA, 5, none⟩) (Kd.R_far (p := ⟨eA, 4, none⟩) (Kd.R_far (p := ⟨eA, 3, none⟩) (Kd.R_far (p := ⟨eA, 2, none⟩) (Kd.R_far (p := ⟨eA, 1, none⟩) (Kd.R_far (p := ⟨eA, 0, none⟩) (Kd.R_mono qA.out (fun k_ hk => (⟨hk, hk.2⟩ : _ ∧ k_ ≠ eA))) (fun _ hk => hk.2) (.int .i64 ((rd_T89 y6_1 dA).f0))) (fun _ hk => hk.2) (.int .i64 ((rd_T89 y6_1 dA).f1))) (fun _ hk => hk.2) (.int .i64 ((rd_T89 y6_1 dA).f2))) (fun _ hk => hk.2) (.int .i64 ((rd_T89 y6_1 dA).f3))) (fun _ hk => hk.2) (.int .i64 ((rd_T89 y6_1 dA).f4))) (fun _ hk => hk.2) (.int .i64 ((rd_T89 y6_1 dA).f5))) (fun _ hk => hk.2) (.int .i64 ((rd_T89 y6_1 dA).f6))) (fun _ hk => hk.2) (.int .i64 ((rd_T89 y6_1 dA).f7))) (fun _ hk => trivial)⟩, ⟨by (with_reducible repeat (first | apply Kd.R_alloc | apply Kd.R_drewN | apply Kd.R_drew)); exact Kd.R_mono (Kd.R_far (p := ⟨eA, 7, none⟩) (Kd.R_far (p := ⟨eA, 6, none⟩) (Kd.R_far (p := ⟨eA, 5, none⟩) (Kd.R_far (p := ⟨eA, 4, none⟩) (Kd.R_far (p := ⟨eA, 3, none⟩) (Kd.R_far (p := ⟨eA, 2, none⟩) (Kd.R_far (p := ⟨eA, 1, none⟩) (Kd.R_far (p := ⟨eA, 0, none⟩) (Kd.R_mono sA.out (fun k_ hk => (⟨hk, hk.2⟩ : _ ∧ k_ ≠ eA))) (fun _ hk => hk.2) (.int .i64 ((rd_T89 y6_1 dA).f0))) (fun _ hk => hk.2) (.int .i64 ((rd_T89 y6_1 dA).f1))) (fun _ hk => hk.2) (.int .i64 ((rd_T89 y6_1 dA).f2))) (fun _ hk => hk.2) (.int .i64 ((rd_T89 y6_1 dA).f3))) (fun _ hk => hk.2) (.int .i64 ((rd_T89 y6_1 dA).f4))) (fun _ hk => hk.2) (.int .i64 ((rd_T89 y6_1 dA).f5))) (fun _ hk => hk.2) (.int .i64 ((rd_T89 y6_1 dA).f6))) (fun _ hk => hk.2) (.int .i64 ((rd_T89 y6_1 dA).f7))) (fun _ hk => trivial)⟩, ⟨by repeat (first | (with_reducible first | exact HB.out | apply below_alloc | apply pw_below_drewN | apply below_drew1 | refine below_set ?_ FA.out) | exact HB.out)⟩⟩
          ·rw [if_neg c22] at H
           have lC : (((rd_T89 y6_1 dA).f5) == dA) = false := beq_eq_false_iff_ne.mpr c22
           have mC : (((rd_T89 y6_1 dA).f5) != dA) = true := bne_iff_ne.mpr c22
           simp only [Option.some.injEq, Prod.mk.injEq] at H
           obtain ⟨rfl, rfl⟩ := H
           have p176 : 0 ≤ (dA : Int) := of_decide_eq_true q3_2
           have q176 : dA < (y6_1.length : Int) := of_decide_eq_true q3_2
           obtain ⟨ad176, cC, JB, KB, LB, MB, NB, OB, PB, QB⟩ := at_T89 (Kd.R_reads' sA.out).2.2 dA p176 q176
           cases cC
           replace p176 := eq_true p176
           replace q176 := eq_true q176
           go_wp2_with (first | ((with_reducible refine gate_dst (N := 10) rfl ?_); refine box_event ?hg (N := 10) ?hd (cs := #[.int .i64 0, .int .i64 0, .int .i64 0, .int .i64 0, .int .i64 0, .int .i64 0, .int .i64 0, .int .i64 0]) (t := 89) ?hr ?_; (case hd => rfl); (case hg => rfl); (case hr => first | (go_simp; done) | (go_simp; rfl)); intro eA hg XB hbox hb; have tA := Aside0.mk (Kd.R_below (Kd.R_elderB q3_4 eA (Nat.le_of_eq hg.symm)) hb); have uA := Aside0.mk (Kd.R_below (Kd.R_elderB (by (with_reducible repeat (first | apply Kd.R_alloc | apply Kd.R_drewN | apply Kd.R_drew)); exact sA.out) eA (Nat.le_of_eq hg.symm)) hb); have xA := Aside0.mk (below_step q3_0 hb); have zA := Aside0.mk (hbox); have AA := Aside0.mk ((q3_7 : w.heap.size ≤ eA)); have nC := Aside0.mk ((q3_7 : w.heap.size ≤ eA)); clear qA sA HB; have qA := tA; have sA := uA; have HB := xA; have gA := zA; have oC := AA; have FA := nC; clear tA uA xA zA AA nC; clear hb hbox hg; have GC : XB.cell? ⟨eA, 0, none⟩ = some (.int .i64 0) := (blk_cell gA.out 0).trans rfl; have HC : XB.cell? ⟨eA, 1, none⟩ = some (.int .i64 0) := (blk_cell gA.out 1).trans rfl; have IC : XB.cell? ⟨eA, 2, none⟩ = some (.int .i64 0) := (blk_cell gA.out 2).trans rfl; have JC : XB.cell? ⟨eA, 3, none⟩ = some (.int .i64 0) := (blk_cell gA.out 3).trans rfl; have KC : XB.cell? ⟨eA, 4, none⟩ = some (.int .i64 0) := (blk_cell gA.out 4).trans rfl; have LC : XB.cell? ⟨eA, 5, none⟩ = some (.int .i64 0) := (blk_cell gA.out 5).trans rfl; have MC : XB.cell? ⟨eA, 6, none⟩ = some (.int .i64 0) := (blk_cell gA.out 6).trans rfl; have NC : XB.cell? ⟨eA, 7, none⟩ = some (.int .i64 0) := (blk_cell gA.out 7).trans rfl; have OC := blk_frozen gA.out 0; have PC := blk_frozen gA.out 1; have QC := blk_frozen gA.out 2; have RC := blk_frozen gA.out 3; have SC := blk_frozen gA.out 4; have TC := blk_frozen gA.out 5; have UC := blk_frozen gA.out 6; have VC := blk_frozen gA.out 7))
           go_ret2
           exact ⟨_, by first | rfl | (simp [errW_none, errW_some] <;> rfl) | (simp [*, errW_none, errW_some] <;> rfl), by first | exact Kd.R_nil _ _ _ _ _ | exact Kd.N_nil _ _ _ _ _ | exact Kd.V_nil _ _ _ _ _ | exact Kd.Q_nil _ _ _ _ _ | exact Kd.S_nil _ _ _ _ _, by repeat (first | (with_reducible first | exact HB.out | apply below_alloc | apply pw_below_drewN | apply below_drew1 | refine below_set ?_ FA.out) | exact HB.out)⟩
         ·rw [if_neg c21] at H
          exact absurd H (by simp)
        ·rw [if_neg c20] at H
         exact absurd H (by simp)
       ·rw [if_neg c19] at H
        have kC : decide (dA < (y6_1.length : Int)) = false := decide_eq_false c19
        clear c19
        simp only [Option.some.injEq, Prod.mk.injEq] at H
        obtain ⟨rfl, rfl⟩ := H
        go_wp2
        go_ret2
        exact ⟨_, by first | rfl | (simp [errW_none, errW_some] <;> rfl) | (simp [*, errW_none, errW_some] <;> rfl), q3_4, q3_0⟩
    ·rw [if_neg cs_] at H
     cases H


/-! ### slices_Equal_int_int: function 75 -/
def slices_Equal_int_int.l0 : Nat → List Int → List Int → Int → Int → Option (Bool)
 | 0, _, _, _, _ => none
 | k + 1, x0, x1, x12, x13 => if x13 < x12 then (if 0 ≤ x13 then (if x13 < (x0.length : Int) then (if x13 < (x1.length : Int) then (if (rd x0 x13) = (rd x1 x13) then (slices_Equal_int_int.l0 k x0 x1 x12 (wrap64 (x13 + 1))) else (some false)) else (none)) else (none)) else (none)) else (some true)
def slices_Equal_int_int.f (k : Nat) (l0 : List Int) (l1 : List Int) : Option (Bool) := if (l0.length : Int) = (l1.length : Int) then (slices_Equal_int_int.l0 k l0 l1 (l0.length : Int) 0) else (some false)
theorem slices_Equal_int_int.mono_l : ∀ k, (∀ y0 y1 y2 y3, LeO (slices_Equal_int_int.l0 k y0 y1 y2 y3) (slices_Equal_int_int.l0 (k + 1) y0 y1 y2 y3))
 | 0 => fun _ _ _ _ r h => by simp [slices_Equal_int_int.l0] at h
 | k + 1 => by
  have ih0 := slices_Equal_int_int.mono_l k
  ·intro y0 y1 y2 y3
   unfold slices_Equal_int_int.l0
   repeat' first
   | (with_reducible exact ih0 _ _ _ _)
   | (with_reducible exact LeO.refl _)
   | (with_reducible exact LeO.none _)
   | (with_reducible refine LeO.ite ?_ ?_)
   | (with_reducible refine LeO.bind ?_ (fun _ => ?_))
   | exact ih0 _ _ _ _
   | exact LeO.none _
   | refine LeO.ite ?_ ?_
   | refine LeO.bind ?_ (fun _ => ?_)
theorem slices_Equal_int_int.mono : ∀ a0 a1 k, LeO (slices_Equal_int_int.f k a0 a1) (slices_Equal_int_int.f (k + 1) a0 a1) := by
 intro a0 a1 k
 have ih0 := slices_Equal_int_int.mono_l k
 unfold slices_Equal_int_int.f
 repeat' first
   | (with_reducible exact ih0 _ _ _ _)
   | (with_reducible exact LeO.refl _)
   | (with_reducible exact LeO.none _)
   | (with_reducible refine LeO.ite ?_ ?_)
   | (with_reducible refine LeO.bind ?_ (fun _ => ?_))
   | exact ih0 _ _ _ _
   | exact LeO.none _
   | refine LeO.ite ?_ ?_
   | refine LeO.bind ?_ (fun _ => ?_)
set_option maxHeartbeats 8000000 in
set_option maxRecDepth 100000 in
theorem slices_Equal_int_int.calls (k : Nat) (A0 : Option Addr) (c0 : Nat) (l0 : List Int) (A1 : Option Addr) (c1 : Nat) (l1 : List Int) (r : Bool) (w : World) (hr0 : Kd.C (Kd.int .i64) w A0 l0.length l0) (hc0 : l0.length ≤ c0) (hr1 : Kd.C (Kd.int .i64) w A1 l1.length l1) (hc1 : l1.length ≤ c1) (h : slices_Equal_int_int.f k l0 l1 = some r) :
  Calls Try.prog 75 #[.slice A0 l0.length c0, .slice A1 l1.length c1] w fun e w' => e = .returned (.bool r) ∧ Drawn0 w w' := by
 have HR0 := Aside0.mk hr0
 clear hr0 hc0
 have HR1 := Aside0.mk hr1
 clear hr1 hc1
 have H : (if (l0.length : Int) = (l1.length : Int) then (slices_Equal_int_int.l0 k l0 l1 (l0.length : Int) 0) else (some false)) = some r := h
 clear h
 by_cases c3 : (l0.length : Int) = (l1.length : Int)
 ·rw [if_pos c3] at H
  have GA : ((l0.length : Int) == (l1.length : Int)) = true := beq_iff_eq.mpr c3
  have IA : ((l0.length : Int) != (l1.length : Int)) = false := bne_eq_false_iff_eq.mpr c3
  have pC : (l0.length == l1.length) = true := by first | simpa using c3 | (simp at c3 ⊢; omega)
  clear c3
  have H' := Aside0.mk H
  clear H
  go_enter Try.func75, Try.ntmps75
  go_wp2
  repeat (go_quiet (fail); try go_wp2)
  go_loopg [13] k (fun kq v13 w' => ∃ (fA : Int), v13 = .int .i64 fA ∧ Aside0 (slices_Equal_int_int.l0 kq l0 l1 (l0.length : Int) fA = some r) ∧ Aside0 (kq ≤ k) ∧ Drawn0 w w')
  case atStart => exact ⟨(0), q3_6, H', ⟨Nat.le_refl _⟩, q3_8⟩
  case round =>
   clear H'
   (try clear c1); (try clear p2); (try clear c3); (try clear GA); (try clear IA); (try clear pC)
   obtain ⟨fA, rfl, HA, HK1, ⟨m1, rfl⟩⟩ := hrel
   cases gk with
   | zero => exact absurd HA.out (by simp [slices_Equal_int_int.l0])
   | succ k1 =>
    have H := HA.out
    clear HA
    simp only [slices_Equal_int_int.l0] at H
    by_cases c4 : fA < (l0.length : Int)
    ·rw [if_pos c4] at H
     have bD : decide (fA < (l0.length : Int)) = true := decide_eq_true c4
     clear c4
     by_cases c5 : 0 ≤ fA
     ·rw [if_pos c5] at H
      have ZB : decide (0 ≤ fA) = true := decide_eq_true c5
      clear c5
      by_cases c6 : fA < (l0.length : Int)
      ·rw [if_pos c6] at H
       have JA : decide (fA < (l0.length : Int)) = true := decide_eq_true c6
       clear c6
       by_cases c7 : fA < (l1.length : Int)
       ·rw [if_pos c7] at H
        have YB : decide (fA < (l1.length : Int)) = true := decide_eq_true c7
        clear c7
        by_cases c8 : (rd l0 fA) = (rd l1 fA)
        ·rw [if_pos c8] at H
         have DA : ((rd l0 fA) == (rd l1 fA)) = true := beq_iff_eq.mpr c8
         have KA : ((rd l0 fA) != (rd l1 fA)) = false := bne_eq_false_iff_eq.mpr c8
         clear c8
         have H' := Aside0.mk H
         clear H
         have p168 : 0 ≤ (fA : Int) := of_decide_eq_true q3_2
         have q168 : fA < (l0.length : Int) := of_decide_eq_true q3_2
         obtain ⟨ad168, dC, RB⟩ := Kd.at_int HR0.out fA p168 q168
         cases dC
         replace p168 := eq_true p168
         replace q168 := eq_true q168
         have p169 : 0 ≤ (fA : Int) := of_decide_eq_true q3_2
         have q169 : fA < (l1.length : Int) := of_decide_eq_true q3_2
         obtain ⟨ad169, eC, SB⟩ := Kd.at_int HR1.out fA p169 q169
         cases eC
         replace p169 := eq_true p169
         replace q169 := eq_true q169
         go_wp2
         repeat (go_quiet (fail); try go_wp2)
         go_roundg k1
         case measure => have := HK1.out; omega
         case rel => exact ⟨(wrap64 (fA + 1)), q3_6, H', ⟨by have := HK1.out; omega⟩, q3_8⟩
        ·rw [if_neg c8] at H
         have DA : ((rd l0 fA) == (rd l1 fA)) = false := beq_eq_false_iff_ne.mpr c8
         have KA : ((rd l0 fA) != (rd l1 fA)) = true := bne_iff_ne.mpr c8
         obtain rfl := Option.some.inj H
         have p168 : 0 ≤ (fA : Int) := of_decide_eq_true q3_2
         have q168 : fA < (l0.length : Int) := of_decide_eq_true q3_2
         obtain ⟨ad168, dC, RB⟩ := Kd.at_int HR0.out fA p168 q168
         cases dC
         replace p168 := eq_true p168
         replace q168 := eq_true q168
         have p169 : 0 ≤ (fA : Int) := of_decide_eq_true q3_2
         have q169 : fA < (l1.length : Int) := of_decide_eq_true q3_2
         obtain ⟨ad169, eC, SB⟩ := Kd.at_int HR1.out fA p169 q169
         cases eC
         replace p169 := eq_true p169
         replace q169 := eq_true q169
         go_wp2
         repeat (go_quiet (fail); try go_wp2)
         go_ret
         exact ⟨q3_6, q3_8⟩
       ·rw [if_neg c7] at H
        exact absurd H (by simp)
      ·rw [if_neg c6] at H
       exact absurd H (by simp)
     ·rw [if_neg c5] at H
      exact absurd H (by simp)
    ·rw [if_neg c4] at H
     have bD : decide (fA < (l0.length : Int)) = false := decide_eq_false c4
     clear c4
     obtain rfl := Option.some.inj H
     go_wp2
     repeat (go_quiet (fail); try go_wp2)
     go_ret
     exact ⟨q3_6, q3_8⟩
 ·rw [if_neg c3] at H
  have GA : ((l0.length : Int) == (l1.length : Int)) = false := beq_eq_false_iff_ne.mpr c3
  have IA : ((l0.length : Int) != (l1.length : Int)) = true := bne_iff_ne.mpr c3
  have pC : (l0.length == l1.length) = false := by first | simpa using c3 | (simp at c3 ⊢; omega)
  obtain rfl := Option.some.inj H
  go_enter Try.func75, Try.ntmps75
  go_wp2
  repeat (go_quiet (fail); try go_wp2)
  go_ret
  exact ⟨q3_6, q3_8⟩

end Go.Proofs.Ytgghglocfdcegaa.PFnExactRingGood
