-- Written by the session's own patched copy of the printer (wip/patch_print.py).
import Derived.Test.YtgghglocfdcegaaPFnExactRingGoodx0
import Derived.Test.YtgghglocfdcegaaPFnExactRingGoodx1
import Derived.Test.YtgghglocfdcegaaPFnExactRingGoodx2
import Derived.Test.YtgghglocfdcegaaPFnExactRingGoodx3
namespace Go.Proofs.Ytgghglocfdcegaa.PFnExactRingGood
open Go.RowKit Go.Proofs.YtgghglocfdcegaaW.PrintWords Go.Proofs.YtgghglocfdcegaaW.PrintLast Go.Proofs.YtgghglocfdcegaaW.PrintMore
attribute [local go_sem] max2_int min2_int max_two min_two max_three min_three max_four min_four   -- for this text's walks alone
set_option linter.unusedVariables false
set_option linter.unusedSimpArgs false

theorem q4_0 {p : Prop} (h : p := by repeat (first | (with_reducible first | exact HB.out | apply below_alloc | apply pw_below_drewN | apply below_drew1) | exact HB.out)) : p := h
theorem q4_1 {p : Prop} (h : p := by (try simp only [List.map_toArray, List.map_cons, List.map_nil]); first | done | rfl | (simp only [List.length_drop, List.length_take]; rfl)) : p := h
theorem q4_2 {p : Prop} (h : p := by (with_reducible repeat (first | apply Kd.R_alloc | apply Kd.R_drewN | apply Kd.R_drew)); exact bA.out) : p := h
theorem q4_3 {p : Prop} (h : p := by (with_reducible repeat (first | apply Kd.R_alloc | apply Kd.R_drewN | apply Kd.R_drew)); exact cA.out) : p := h
theorem q4_4 {p : Prop} (h : p := by (with_reducible repeat (first | apply Kd.R_alloc | apply Kd.R_drewN | apply Kd.R_drew)); exact dA.out) : p := h
theorem q4_5 {p : Prop} (h : p := by (with_reducible repeat (first | apply Kd.R_alloc | apply Kd.R_drewN | apply Kd.R_drew)); exact eA.out) : p := h
theorem q4_6 {p : Prop} (h : p := by repeat (first | exact (Kd.C_below HR1.out HB.out) | (with_reducible refine Kd.C_alloc ?_ _) | (with_reducible refine Kd.C_drewN ?_ _) | (with_reducible refine Kd.C_drew ?_))) : p := h
theorem q4_7 {p : Prop} (h : p := by repeat (first | exact HR0.out | (with_reducible refine Kd.C_alloc ?_ _) | (with_reducible refine Kd.C_drewN ?_ _) | (with_reducible refine Kd.C_drew ?_))) : p := h
/-! ### impl_RingGood: function 47 -/
mutual
def impl_RingGood.j0 : Nat → List Int → List (S89) → List (S89) → Bool → Option (Bool)
 | 0, _, _, _, _ => none
 | k + 1, x1, x5, x7, x36 => if x36 = true then (some false) else (impl_RingGood.l0 k x1 x5 x7 x7 (x7.length : Int) 0)
def impl_RingGood.l0 : Nat → List Int → List (S89) → List (S89) → List (S89) → Int → Int → Option (Bool)
 | 0, _, _, _, _, _, _ => none
 | k + 1, x1, x5, x7, x37, x38, x39 => if x39 < x38 then (if 0 ≤ x39 then (if x39 < (x37.length : Int) then (if x39 < (x5.length : Int) then (if ((rd_T89 x37 x39).f4) = ((rd_T89 x5 x39).f2) then (impl_RingGood.l0 k x1 x5 x7 x37 x38 (wrap64 (x39 + 1))) else (some false)) else (none)) else (none)) else (none)) else (if 0 ≤ (x7.length : Int) then (if (x7.length : Int) ≤ (x5.length : Int) then ((some (x5.drop ((x7.length : Int) : Int).toNat : List (S89))).bind fun y184 => (impl_RingGood.l1 k x1 (([] : List Int)) y184 (y184.length : Int) 0)) else (none)) else (none))
def impl_RingGood.l1 : Nat → List Int → List Int → List (S89) → Int → Int → Option (Bool)
 | 0, _, _, _, _, _ => none
 | k + 1, x1, x11, x57, x58, x59 => if x59 < x58 then (if 0 ≤ x59 then (if x59 < (x57.length : Int) then (if x11.length < 17592186044416 then (impl_RingGood.l1 k x1 (x11 ++ [(rd_T89 x57 x59).f2]) x57 x58 (wrap64 (x59 + 1))) else (none)) else (none)) else (none)) else ((slices_Equal_int_int.f k x11 x1).bind fun BA => (some BA))
end
def impl_RingGood.f (k : Nat) (l0 : List (S89)) (l1 : List Int) : Option (Bool) := (impl_turns.f k l0 1).bind fun fA => ((impl_turns.f k l0 2).bind fun gA => (if fA.2 = true then (if gA.2 = true then (impl_RingGood.j0 k l1 fA.1 gA.1 (decide ((gA.1.length : Int) > (fA.1.length : Int)))) else (impl_RingGood.j0 k l1 fA.1 gA.1 true)) else (impl_RingGood.j0 k l1 fA.1 gA.1 true)))
theorem impl_RingGood.mono_l : ∀ k, (∀ y0 y1 y2 y3, LeO (impl_RingGood.j0 k y0 y1 y2 y3) (impl_RingGood.j0 (k + 1) y0 y1 y2 y3)) ∧ (∀ y0 y1 y2 y3 y4 y5, LeO (impl_RingGood.l0 k y0 y1 y2 y3 y4 y5) (impl_RingGood.l0 (k + 1) y0 y1 y2 y3 y4 y5)) ∧ (∀ y0 y1 y2 y3 y4, LeO (impl_RingGood.l1 k y0 y1 y2 y3 y4) (impl_RingGood.l1 (k + 1) y0 y1 y2 y3 y4))
 | 0 => ⟨fun _ _ _ _ r h => by simp [impl_RingGood.j0] at h, fun _ _ _ _ _ _ r h => by simp [impl_RingGood.l0] at h, fun _ _ _ _ _ r h => by simp [impl_RingGood.l1] at h⟩
 | k + 1 => by
  obtain ⟨ih0, ih1, ih2⟩ := impl_RingGood.mono_l k
  refine ⟨?_, ?_, ?_⟩
  ·intro y0 y1 y2 y3
   unfold impl_RingGood.j0
   repeat' first
   | (with_reducible exact ih0 _ _ _ _)
   | (with_reducible exact ih1 _ _ _ _ _ _)
   | (with_reducible exact ih2 _ _ _ _ _)
   | (with_reducible exact impl_turns.mono _ _ _)
   | (with_reducible exact slices_Equal_int_int.mono _ _ _)
   | (with_reducible exact LeO.refl _)
   | (with_reducible exact LeO.none _)
   | (with_reducible refine LeO.ite ?_ ?_)
   | (with_reducible refine LeO.bind ?_ (fun _ => ?_))
   | exact ih0 _ _ _ _
   | exact ih1 _ _ _ _ _ _
   | exact ih2 _ _ _ _ _
   | exact impl_turns.mono _ _ _
   | exact slices_Equal_int_int.mono _ _ _
   | exact LeO.none _
   | refine LeO.ite ?_ ?_
   | refine LeO.bind ?_ (fun _ => ?_)
  ·intro y0 y1 y2 y3 y4 y5
   unfold impl_RingGood.l0
   repeat' first
   | (with_reducible exact ih0 _ _ _ _)
   | (with_reducible exact ih1 _ _ _ _ _ _)
   | (with_reducible exact ih2 _ _ _ _ _)
   | (with_reducible exact impl_turns.mono _ _ _)
   | (with_reducible exact slices_Equal_int_int.mono _ _ _)
   | (with_reducible exact LeO.refl _)
   | (with_reducible exact LeO.none _)
   | (with_reducible refine LeO.ite ?_ ?_)
   | (with_reducible refine LeO.bind ?_ (fun _ => ?_))
   | exact ih0 _ _ _ _
   | exact ih1 _ _ _ _ _ _
   | exact ih2 _ _ _ _ _
   | exact impl_turns.mono _ _ _
   | exact slices_Equal_int_int.mono _ _ _
   | exact LeO.none _
   | refine LeO.ite ?_ ?_
   | refine LeO.bind ?_ (fun _ => ?_)
  ·intro y0 y1 y2 y3 y4
   unfold impl_RingGood.l1
   repeat' first
   | (with_reducible exact ih0 _ _ _ _)
   | (with_reducible exact ih1 _ _ _ _ _ _)
   | (with_reducible exact ih2 _ _ _ _ _)
   | (with_reducible exact impl_turns.mono _ _ _)
   | (with_reducible exact slices_Equal_int_int.mono _ _ _)
   | (with_reducible exact LeO.refl _)
   | (with_reducible exact LeO.none _)
   | (with_reducible refine LeO.ite ?_ ?_)
   | (with_reducible refine LeO.bind ?_ (fun _ => ?_))
   | exact ih0 _ _ _ _
   | exact ih1 _ _ _ _ _ _
   | exact ih2 _ _ _ _ _
   | exact impl_turns.mono _ _ _
   | exact slices_Equal_int_int.mono _ _ _
   | exact LeO.none _
   | refine LeO.ite ?_ ?_
   | refine LeO.bind ?_ (fun _ => ?_)
theorem impl_RingGood.mono : ∀ a0 a1 k, LeO (impl_RingGood.f k a0 a1) (impl_RingGood.f (k + 1) a0 a1) := by
 intro a0 a1 k
 obtain ⟨ih0, ih1, ih2⟩ := impl_RingGood.mono_l k
 unfold impl_RingGood.f
 repeat' first
   | (with_reducible exact ih0 _ _ _ _)
   | (with_reducible exact ih1 _ _ _ _ _ _)
   | (with_reducible exact ih2 _ _ _ _ _)
   | (with_reducible exact impl_turns.mono _ _ _)
   | (with_reducible exact slices_Equal_int_int.mono _ _ _)
   | (with_reducible exact LeO.refl _)
   | (with_reducible exact LeO.none _)
   | (with_reducible refine LeO.ite ?_ ?_)
   | (with_reducible refine LeO.bind ?_ (fun _ => ?_))
   | exact ih0 _ _ _ _
   | exact ih1 _ _ _ _ _ _
   | exact ih2 _ _ _ _ _
   | exact impl_turns.mono _ _ _
   | exact slices_Equal_int_int.mono _ _ _
   | exact LeO.none _
   | refine LeO.ite ?_ ?_
   | refine LeO.bind ?_ (fun _ => ?_)
set_option maxHeartbeats 8000000 in
set_option maxRecDepth 100000 in
theorem impl_RingGood.calls (k : Nat) (A0 : Option Addr) (c0 : Nat) (l0 : List (S89)) (A1 : Option Addr) (c1 : Nat) (l1 : List Int) (r : Bool) (w : World) (hr0 : Kd.C k89 w A0 l0.length l0) (hc0 : l0.length ≤ c0) (hr1 : Kd.C (Kd.int .i64) w A1 l1.length l1) (hc1 : l1.length ≤ c1) (h : impl_RingGood.f k l0 l1 = some r) :
  Calls Try.prog 47 #[.slice A0 l0.length c0, .slice A1 l1.length c1] w fun e w' => e = .returned (.bool r) ∧ Below w.heap.size w w' := by
 have hu89 := Try.underlying89
 have HR0 := Aside0.mk hr0
 have HC0 := Aside0.mk hc0
 clear hr0 hc0
 have HR1 := Aside0.mk hr1
 have HC1 := Aside0.mk hc1
 clear hr1 hc1
 have HB := Aside0.mk (Below.refl w.heap.size w)
 have H : ((impl_turns.f k l0 1).bind fun fA => ((impl_turns.f k l0 2).bind fun gA => (if fA.2 = true then (if gA.2 = true then (impl_RingGood.j0 k l1 fA.1 gA.1 (decide ((gA.1.length : Int) > (fA.1.length : Int)))) else (impl_RingGood.j0 k l1 fA.1 gA.1 true)) else (impl_RingGood.j0 k l1 fA.1 gA.1 true)))) = some r := h
 clear h
 replace H := Option.bind_eq_some_iff.mp H
 obtain ⟨⟨hA, CA⟩, A30, H⟩ := H
 (try dsimp only at H)
 have A3 := Aside0.mk A30
 clear A30
 replace H := Option.bind_eq_some_iff.mp H
 obtain ⟨⟨aA, DA⟩, A40, H⟩ := H
 (try dsimp only at H)
 have A4 := Aside0.mk A40
 clear A40
 have HC5 := Aside0.mk H
 clear H
 go_enter Try.func47, Try.ntmps47
 go_wp2_with fail
 refine (impl_turns.calls k A0 c0 l0 1 hA CA w HR0.out HC0.out A3.out).mono ?_
 rintro e w1 ⟨v1, rfl, ho1, hb1⟩
 go_wp2_with fail
 refine (impl_turns.calls k A0 c0 l0 2 aA DA w1 (Kd.C_below HR0.out hb1) HC0.out A4.out).mono ?_
 rintro e w2 ⟨v2, rfl, ho2, hb2⟩
 have hp_ := Kd.R_below ho1 hb2
 obtain ⟨AP, cp, rfl, hlp, hCP⟩ := Kd.R_reads hp_
 obtain ⟨AG, cg, rfl, hlg, hCG⟩ := Kd.R_reads ho2
 have HCP := Aside0.mk hCP
 have HCG := Aside0.mk hCG
 have HLP := Aside0.mk hlp
 have HLG := Aside0.mk hlg
 have HB2 := Aside0.mk (below_step hb1 hb2)
 have HR12 := Aside0.mk (Kd.C_below HR1.out HB2.out)
 clear hp_ hCP hCG hlp hlg ho1 ho2 hb1 hb2 HB A3 A4
 have H := HC5.out
 clear HC5
 cases CA with
 | false =>
  rw [if_neg (by decide)] at H
  cases k with
  | zero => simp [impl_RingGood.j0] at H
  | succ k =>
   simp only [impl_RingGood.j0, if_true] at H
   obtain rfl := Option.some.inj H
   clear H
   go_wp2
   go_ret
   exact ⟨rfl, HB2.out⟩
 | true =>
  rw [if_pos rfl] at H
  cases DA with
  | false =>
   rw [if_neg (by decide)] at H
   cases k with
   | zero => simp [impl_RingGood.j0] at H
   | succ k =>
    simp only [impl_RingGood.j0, if_true] at H
    obtain rfl := Option.some.inj H
    clear H
    go_wp2
    go_ret
    exact ⟨rfl, HB2.out⟩
  | true =>
   rw [if_pos rfl] at H
   cases k with
   | zero => simp [impl_RingGood.j0] at H
   | succ k =>
    by_cases hgt : (aA.length : Int) > (hA.length : Int)
    ·have hgd : decide (hA.length < aA.length) = true := decide_eq_true (by omega)
     rw [show decide ((aA.length : Int) > (hA.length : Int)) = true from decide_eq_true hgt] at H
     simp only [impl_RingGood.j0, if_true] at H
     obtain rfl := Option.some.inj H
     clear H
     go_wp2
     go_ret
     exact ⟨rfl, HB2.out⟩
    ·have hgd : decide (hA.length < aA.length) = false := decide_eq_false (by omega)
     rw [show decide ((aA.length : Int) > (hA.length : Int)) = false from decide_eq_false hgt] at H
     simp only [impl_RingGood.j0, Bool.false_eq_true, if_false] at H
     have H' := Aside0.mk H
     clear H
     have HNG := Aside0.mk hgt
     clear hgt
     go_wp2_with fail
     go_loopg [39] k (fun kq v39 w' => ∃ (x39 : Int), v39 = .int .i64 x39 ∧ Aside0 (impl_RingGood.l0 kq l1 hA aA aA (aA.length : Int) x39 = some r) ∧ Aside0 (kq ≤ k) ∧ Aside0 (Below w2.heap.size w2 w'))
     case atStart => exact ⟨0, rfl, H', ⟨Nat.le_refl _⟩, ⟨Below.refl _ _⟩⟩
     case round =>
      clear H'
      obtain ⟨x39, rfl, HA, HK, HB⟩ := hrel
      cases gk with
      | zero => exact absurd HA.out (by simp [impl_RingGood.l0])
      | succ k1 =>
       have H := HA.out
       clear HA
       simp only [impl_RingGood.l0] at H
       by_cases c5 : x39 < (aA.length : Int)
       ·rw [if_pos c5] at H
        by_cases c6 : 0 ≤ x39
        ·rw [if_pos c6, if_pos c5] at H
         by_cases c7 : x39 < (hA.length : Int)
         ·rw [if_pos c7] at H
          have H' := Aside0.mk H
          clear H
          obtain ⟨ag, rfl, hg0, hg1, hg2, hg3, hg4, hg5, hg6, hg7⟩ := at_T89 HCG.out x39 c6 c5
          obtain ⟨ap, rfl, hp0, hp1, hp2, hp3, hp4, hp5, hp6, hp7⟩ := at_T89 HCP.out x39 c6 c7
          clear hp0 hp1 hp3 hp4 hp5 hp6 hp7
          replace hg0 := (HB.out.cell (World.block_lt_of_cell? w2 _ hg0)).trans hg0
          replace hg1 := (HB.out.cell (World.block_lt_of_cell? w2 _ hg1)).trans hg1
          replace hg2 := (HB.out.cell (World.block_lt_of_cell? w2 _ hg2)).trans hg2
          replace hg3 := (HB.out.cell (World.block_lt_of_cell? w2 _ hg3)).trans hg3
          replace hg4 := (HB.out.cell (World.block_lt_of_cell? w2 _ hg4)).trans hg4
          replace hg5 := (HB.out.cell (World.block_lt_of_cell? w2 _ hg5)).trans hg5
          replace hg6 := (HB.out.cell (World.block_lt_of_cell? w2 _ hg6)).trans hg6
          replace hg7 := (HB.out.cell (World.block_lt_of_cell? w2 _ hg7)).trans hg7
          replace hp2 := (HB.out.cell (World.block_lt_of_cell? w2 _ hp2)).trans hp2
          have b6 := eq_true c6
          have b5 := eq_true c5
          have b7 := eq_true c7
          clear c5 c6 c7
          go_wp2_with fail
          have hb4 := (blk_cell (heap_alloc_new wr (Obj.cells #[.int .i64 (rd_T89 aA x39).f0, .int .i64 (rd_T89 aA x39).f1, .int .i64 (rd_T89 aA x39).f2, .int .i64 (rd_T89 aA x39).f3, .int .i64 (rd_T89 aA x39).f4, .int .i64 (rd_T89 aA x39).f5, .int .i64 (rd_T89 aA x39).f6, .int .i64 (rd_T89 aA x39).f7] 89)) 4).trans (show _ = some (Value.int .i64 (rd_T89 aA x39).f4) from rfl)
          replace hp2 := ((below_alloc (Below.refl wr.heap.size wr) (Obj.cells #[.int .i64 (rd_T89 aA x39).f0, .int .i64 (rd_T89 aA x39).f1, .int .i64 (rd_T89 aA x39).f2, .int .i64 (rd_T89 aA x39).f3, .int .i64 (rd_T89 aA x39).f4, .int .i64 (rd_T89 aA x39).f5, .int .i64 (rd_T89 aA x39).f6, .int .i64 (rd_T89 aA x39).f7] 89)).cell (World.block_lt_of_cell? wr _ hp2)).trans hp2
          have HBa := Aside0.mk (below_alloc HB.out (Obj.cells #[.int .i64 (rd_T89 aA x39).f0, .int .i64 (rd_T89 aA x39).f1, .int .i64 (rd_T89 aA x39).f2, .int .i64 (rd_T89 aA x39).f3, .int .i64 (rd_T89 aA x39).f4, .int .i64 (rd_T89 aA x39).f5, .int .i64 (rd_T89 aA x39).f6, .int .i64 (rd_T89 aA x39).f7] 89))
          clear hg0 hg1 hg2 hg3 hg4 hg5 hg6 hg7
          by_cases c8 : (rd_T89 aA x39).f4 = (rd_T89 hA x39).f2
          ·have HE := H'.out
           rw [if_pos c8] at HE
           have H' := Aside0.mk HE
           clear HE
           have c8b : (((rd_T89 aA x39).f4) == ((rd_T89 hA x39).f2)) = true := beq_iff_eq.mpr c8
           have c8c : (((rd_T89 aA x39).f4) != ((rd_T89 hA x39).f2)) = false := bne_eq_false_iff_eq.mpr c8
           clear c8
           go_region
           go_wp2
           go_roundg k1
           case measure => have := HK.out; omega
           case rel => exact ⟨wrap64 (x39 + 1), rfl, H', ⟨by have := HK.out; omega⟩, ⟨below_drew1 HBa.out⟩⟩
          ·have HE := H'.out
           rw [if_neg c8] at HE
           obtain rfl := Option.some.inj HE
           clear HE H'
           have c8c : (((rd_T89 aA x39).f4) != ((rd_T89 hA x39).f2)) = true := bne_iff_ne.mpr c8
           clear c8
           go_region
           go_wp2
           go_ret
           exact ⟨rfl, below_step HB2.out (below_drew1 HBa.out)⟩
         ·rw [if_neg c7] at H
          cases H
        ·rw [if_neg c6] at H
         cases H
       ·rw [if_neg c5] at H
        have b5 : decide (x39 < (aA.length : Int)) = false := decide_eq_false c5
        clear c5
        have hle : aA.length ≤ hA.length := by have := HNG.out; omega
        rw [if_pos (by omega), if_pos (by omega)] at H
        obtain ⟨y184, hy184⟩ : ∃ y_ : List (S89), y_ = (hA.drop ((aA.length : Int) : Int).toNat) := ⟨_, rfl⟩
        replace H : (impl_RingGood.l1 k1 l1 [] y184 (y184.length : Int) 0) = some r := by rw [hy184]; exact H
        have H' := Aside0.mk H
        clear H
        have q0 : (0 : Int) ≤ (aA.length : Int) := by omega
        have q1 : (aA.length : Int) ≤ (hA.length : Int) := by omega
        obtain ⟨i029, hi029, _, hsz29, _⟩ := info_parts info89
        have hcut29 := cut_from (P := Try.prog) 60 89 .i64 Try.underlying60 hi029 8 hsz29 AP hA.length cp (aA.length : Int) q0 q1
        have hr29 := Kd.C_drop (m := ((aA.length : Int) : Int).toNat) (c := cp) HCP.out (by omega) HLP.out
        obtain ⟨A29, hA29⟩ : ∃ A1, A1 = (if cp = ((aA.length : Int) : Int).toNat then AP else (AP : Option Addr).map (·.add (((aA.length : Int) : Int).toNat * 8))) := ⟨_, rfl⟩
        obtain ⟨c29, hc29⟩ : ∃ c1, c1 = cp - ((aA.length : Int) : Int).toNat := ⟨_, rfl⟩
        have hy29 : y184.length = hA.length - ((aA.length : Int) : Int).toNat := by rw [hy184, List.length_drop]
        rw [← hy184] at hr29
        replace hr29 : Kd.C k89 w2 A29 y184.length y184 := by rw [hA29]; exact hr29
        rw [← hy29, ← hA29, ← hc29] at hcut29
        have HR187 := Aside0.mk hr29
        clear hr29 hA29 hc29 hy29 hi029 hsz29 HNG hle HCP HCG hy184
        replace q0 := eq_true q0
        replace q1 := eq_true q1
        go_wp2_with (first | ((with_reducible refine gate_dst (N := 53) rfl ?_); (try (refine gate_guard (by rfl) ?_; dsimp only)); refine Kd.R_lit (Kd.int .i64) _ 3 ?hg (N := 53) ?hd (xs := ([] : List Int)) (inner := []) (ok := fun _ => True) (okp := fun _ => True) ?hr ?hp (fun _ hk => hk) trivial (Below.refl _ _) (Nat.le_refl _) (by simp) ?_; (case hd => rfl); (case hg => rfl); (case hr => first | (go_simp; done) | (go_simp; rfl)); (case hp => exact (Reps.none _ _)); intro hB rB ho28 hb hg_ hnew_; clear hg_ hnew_; have HO := Aside0.mk (Kd.R_lower ho28 HB.out.size); have HBx := Aside0.mk (below_step HB.out hb); clear ho28 hb HB))
        go_loopg [11, 59] k1 (fun kq v11 v59 w' => ∃ (x11 : List Int) (x59 : Int), v59 = .int .i64 x59 ∧ Aside0 (impl_RingGood.l1 kq l1 x11 y184 (y184.length : Int) x59 = some r) ∧ Aside0 (Kd.R (Kd.int .i64) 3 w' w2.heap.size (fun _ => True) v11 x11) ∧ Aside0 (Below w2.heap.size w2 w'))
        case atStart => exact ⟨[], 0, rfl, H', HO, HBx⟩
        case round =>
         clear H' HO HBx
         obtain ⟨x11, x59, rfl, HA, HO, HB⟩ := hrel
         cases gk with
         | zero => exact absurd HA.out (by simp [impl_RingGood.l1])
         | succ k2 =>
          have H := HA.out
          clear HA
          simp only [impl_RingGood.l1] at H
          by_cases c5 : x59 < (y184.length : Int)
          ·rw [if_pos c5] at H
           by_cases c6 : 0 ≤ x59
           ·rw [if_pos c6, if_pos c5] at H
            by_cases c7 : x11.length < 17592186044416
            ·rw [if_pos c7] at H
             have H' := Aside0.mk H
             clear H
             have LM := Aside0.mk c7
             clear c7
             obtain ⟨ag, rfl, hg0, hg1, hg2, hg3, hg4, hg5, hg6, hg7⟩ := at_T89 HR187.out x59 c6 c5
             replace hg0 := (HB.out.cell (World.block_lt_of_cell? w2 _ hg0)).trans hg0
             replace hg1 := (HB.out.cell (World.block_lt_of_cell? w2 _ hg1)).trans hg1
             replace hg2 := (HB.out.cell (World.block_lt_of_cell? w2 _ hg2)).trans hg2
             replace hg3 := (HB.out.cell (World.block_lt_of_cell? w2 _ hg3)).trans hg3
             replace hg4 := (HB.out.cell (World.block_lt_of_cell? w2 _ hg4)).trans hg4
             replace hg5 := (HB.out.cell (World.block_lt_of_cell? w2 _ hg5)).trans hg5
             replace hg6 := (HB.out.cell (World.block_lt_of_cell? w2 _ hg6)).trans hg6
             replace hg7 := (HB.out.cell (World.block_lt_of_cell? w2 _ hg7)).trans hg7
             have b6 := eq_true c6
             have b5 := eq_true c5
             clear c5 c6
             go_wp2_with (first | ((with_reducible refine gate_builtin (b := .append) (xs := #[.tmp 63, .tmp 66]) rfl ?_); (try (refine gate_guard (by rfl) ?_; dsimp only)); at_builtin; refine Kd.R_append (Kd.int .i64) (w0 := w2) w2.heap.size rfl (.tmp 63) (.tmp 66) 24 3 (.int .i64 0) 8 rfl Try.underlying24 info3 rfl (by decide) (by omega) u11 x11 ((rd_T89 y184 x59).f2) [.int .i64 ((rd_T89 y184 x59).f2)] (fun _ => True) (fun _ => False) rfl (by first | (go_simp; done) | (go_simp; rfl)) ?aP (fun _ hk => hk.elim) ?aF ?aO ?aB ?aS ?aL ?_; (case aP => exact rfl); (case aB => exact q4_0); (case aF => exact (fun _ _ => trivial)); (case aO => exact (by (with_reducible repeat (first | apply Kd.R_alloc | apply Kd.R_drewN | apply Kd.R_drew)); exact HO.out)); (case aS => exact (below_size q4_0)); (case aL => have := LM.out; omega); intro iB sB ho hb hg hat; have HO := Aside0.mk ho; have HB := Aside0.mk hb; clear ho hb hg hat))
             go_roundg k2
             case measure => omega
             case rel => exact ⟨_, _, rfl, H', HO, HB⟩
            ·rw [if_neg c7] at H
             cases H
           ·rw [if_neg c6] at H
            cases H
          ·rw [if_neg c5] at H
           have b5 : decide (x59 < (y184.length : Int)) = false := decide_eq_false c5
           clear c5
           replace H := Option.bind_eq_some_iff.mp H
           obtain ⟨BA, A380, H⟩ := H
           obtain rfl := Option.some.inj H
           have A38 := Aside0.mk A380
           clear A380 H
           obtain ⟨jB, kB, MA⟩ := Kd.R_slice HO.out
           subst MA
           go_wp2_with (first | (go_at_call 75; (with_reducible refine (slices_Equal_int_int.calls k2 _ _ x11 _ _ l1 BA _ ?side1 ?side2 ?side3 ?side4 A38.out).mono ?_); (case side1 => repeat (first | exact (Kd.R_reads' HO.out).2.2 | (with_reducible refine Kd.C_alloc ?_ _) | (with_reducible refine Kd.C_drewN ?_ _) | (with_reducible refine Kd.C_drew ?_))); (case side2 => exact (Kd.R_reads' HO.out).2.1); (case side3 => repeat (first | exact (Kd.C_below HR12.out HB.out) | (with_reducible refine Kd.C_alloc ?_ _) | (with_reducible refine Kd.C_drewN ?_ _) | (with_reducible refine Kd.C_drew ?_))); (case side4 => exact HC1.out); rintro e w' ⟨rfl, ⟨nd, rfl⟩⟩; (try first | exact ⟨rfl, _, World.drewN_drewN _ _ _⟩ | exact ⟨rfl, _, Eq.trans (World.drewN_drewN _ _ _) (congrArg (World.drewN _) (Nat.add_assoc _ _ _))⟩)))
           go_ret
           exact ⟨rfl, by repeat (first | (with_reducible first | exact (below_step HB2.out HB.out) | apply below_alloc | apply pw_below_drewN | apply below_drew1) | exact (below_step HB2.out HB.out))⟩

/-! ### laws_FnExactRingGood: function 10 -/
def laws_FnExactRingGood.f (k : Nat) (l0 : List (S92)) (l1 : List Int) : Option (Bool) := if (l1.length : Int) > 1048576 then (some true) else ((laws_szFactS.f l0 1048576).bind fun qA => (if qA < 0 then (some true) else ((laws_toFactS.f k l0).bind fun sA => ((laws_toIntS.f k l1).bind fun tA => ((spec_RingGood.f k sA tA).bind fun jA => ((laws_toFactS.f k l0).bind fun nA => ((laws_toIntS.f k l1).bind fun oA => ((impl_RingGood.f k nA oA).bind fun kA => (if (kA != jA) = true then (some false) else ((laws_toFactS.f k l0).bind fun uA => ((laws_eqFactS.f k nA uA).bind fun xA => (if xA = true then ((laws_toIntS.f k l1).bind fun vA => ((laws_eqIntS.f k oA vA).bind fun yA => (if yA = true then (some true) else (some false)))) else (some false)))))))))))))
theorem laws_FnExactRingGood.mono : ∀ a0 a1 k, LeO (laws_FnExactRingGood.f k a0 a1) (laws_FnExactRingGood.f (k + 1) a0 a1) := by
 intro a0 a1 k
 unfold laws_FnExactRingGood.f
 repeat' first
   | (with_reducible exact impl_RingGood.mono _ _ _)
   | (with_reducible exact laws_eqFactS.mono _ _ _)
   | (with_reducible exact laws_eqIntS.mono _ _ _)
   | (with_reducible exact laws_toFactS.mono _ _)
   | (with_reducible exact laws_toIntS.mono _ _)
   | (with_reducible exact spec_RingGood.mono _ _ _)
   | (with_reducible exact LeO.refl _)
   | (with_reducible exact LeO.none _)
   | (with_reducible refine LeO.ite ?_ ?_)
   | (with_reducible refine LeO.bind ?_ (fun _ => ?_))
   | exact impl_RingGood.mono _ _ _
   | exact laws_eqFactS.mono _ _ _
   | exact laws_eqIntS.mono _ _ _
   | exact laws_toFactS.mono _ _
   | exact laws_toIntS.mono _ _
   | exact spec_RingGood.mono _ _ _
   | exact LeO.none _
   | refine LeO.ite ?_ ?_
   | refine LeO.bind ?_ (fun _ => ?_)
set_option maxHeartbeats 8000000 in
set_option maxRecDepth 100000 in
theorem laws_FnExactRingGood.calls (k : Nat) (A0 : Option Addr) (c0 : Nat) (l0 : List (S92)) (A1 : Option Addr) (c1 : Nat) (l1 : List Int) (r_ : Bool) (w : World) (hr0 : Kd.C k92 w A0 l0.length l0) (hc0 : l0.length ≤ c0) (hr1 : Kd.C (Kd.int .i64) w A1 l1.length l1) (hc1 : l1.length ≤ c1) (h : laws_FnExactRingGood.f k l0 l1 = some true) :
  Calls Try.prog 10 #[.slice A0 l0.length c0, .slice A1 l1.length c1] w fun e w' => e = .returned (.bool true) ∧ Below w.heap.size w w' := by
 have HR0 := Aside0.mk hr0
 have HC0 := Aside0.mk hc0
 clear hr0 hc0
 have HR1 := Aside0.mk hr1
 have HC1 := Aside0.mk hc1
 clear hr1 hc1
 have HB := Aside0.mk (Below.refl w.heap.size w)
 have H : (if (l1.length : Int) > 1048576 then (some true) else ((laws_szFactS.f l0 1048576).bind fun qA => (if qA < 0 then (some true) else ((laws_toFactS.f k l0).bind fun sA => ((laws_toIntS.f k l1).bind fun tA => ((spec_RingGood.f k sA tA).bind fun jA => ((laws_toFactS.f k l0).bind fun nA => ((laws_toIntS.f k l1).bind fun oA => ((impl_RingGood.f k nA oA).bind fun kA => (if (kA != jA) = true then (some false) else ((laws_toFactS.f k l0).bind fun uA => ((laws_eqFactS.f k nA uA).bind fun xA => (if xA = true then ((laws_toIntS.f k l1).bind fun vA => ((laws_eqIntS.f k oA vA).bind fun yA => (if yA = true then (some true) else (some false)))) else (some false)))))))))))))) = some true := h
 clear h
 by_cases c3 : (l1.length : Int) > 1048576
 ·rw [if_pos c3] at H
  have NA : decide (1048576 < (l1.length : Int)) = true := decide_eq_true c3
  have OA : decide (1048576 < l1.length) = true := decide_eq_true (by omega)
  clear c3 H
  (try clear H)
  go_enter Try.func10, Try.ntmps10
  go_wp2
  go_ret
  exact ⟨by first | rfl | (simp [errW_none, errW_some] <;> rfl) | (simp [*, errW_none, errW_some] <;> rfl), q4_0⟩
 ·rw [if_neg c3] at H
  have NA : decide (1048576 < (l1.length : Int)) = false := decide_eq_false c3
  have OA : decide (1048576 < l1.length) = false := decide_eq_false (by omega)
  clear c3
  replace H := Option.bind_eq_some_iff.mp H
  obtain ⟨qA, A40, H⟩ := H
  (try dsimp only at H)
  have A4 := Aside0.mk A40
  clear A40
  by_cases c5 : qA < 0
  ·rw [if_pos c5] at H
   have PA : decide (qA < 0) = true := decide_eq_true c5
   clear c5 H
   (try clear H)
   go_enter Try.func10, Try.ntmps10
   go_wp2_with (first | ((with_reducible refine gate_callee (f := 41) rfl ?_); refine goesL_ (some 15) rfl rfl Try.func41 (by kernel_rfl) rfl #[.slice A0 l0.length c0, .int .i64 1048576] rfl q4_1 ?_; (with_reducible refine (laws_szFactS.calls _ _ l0 1048576 qA _ ?side1 ?side2 A4.out).mono ?_); (case side1 => exact q4_7); (case side2 => exact HC0.out); rintro e w' ⟨rfl, ⟨nd, rfl⟩⟩; refine ⟨_, rfl, ?_⟩))
   go_ret
   exact ⟨by first | rfl | (simp [errW_none, errW_some] <;> rfl) | (simp [*, errW_none, errW_some] <;> rfl), q4_0⟩
  ·rw [if_neg c5] at H
   have PA : decide (qA < 0) = false := decide_eq_false c5
   clear c5
   replace H := Option.bind_eq_some_iff.mp H
   obtain ⟨sA, A60, H⟩ := H
   (try dsimp only at H)
   have A6 := Aside0.mk A60
   clear A60
   replace H := Option.bind_eq_some_iff.mp H
   obtain ⟨tA, A70, H⟩ := H
   (try dsimp only at H)
   have A7 := Aside0.mk A70
   clear A70
   replace H := Option.bind_eq_some_iff.mp H
   obtain ⟨jA, A80, H⟩ := H
   (try dsimp only at H)
   have A8 := Aside0.mk A80
   clear A80
   replace H := Option.bind_eq_some_iff.mp H
   obtain ⟨nA, A90, H⟩ := H
   (try dsimp only at H)
   have A9 := Aside0.mk A90
   clear A90
   replace H := Option.bind_eq_some_iff.mp H
   obtain ⟨oA, A100, H⟩ := H
   (try dsimp only at H)
   have A10 := Aside0.mk A100
   clear A100
   replace H := Option.bind_eq_some_iff.mp H
   obtain ⟨kA, A110, H⟩ := H
   (try dsimp only at H)
   have A11 := Aside0.mk A110
   clear A110
   by_cases c12 : (kA != jA) = true
   ·rw [if_pos c12] at H
    have EA : (kA != jA) = true := c12
    (try (have FA : decide (kA = jA) = false := by simpa using c12))
    (try (have GA : (kA == jA) = false := by simpa using c12))
    (try (have fB : ¬ (kA = jA) := by simpa using c12))
    clear c12
    exact absurd H (by simp)
   ·rw [if_neg c12] at H
    have EA : (kA != jA) = false := by simpa using c12
    (try (have FA : decide (kA = jA) = true := by simpa using c12))
    (try (have GA : (kA == jA) = true := by simpa using c12))
    clear c12
    replace H := Option.bind_eq_some_iff.mp H
    obtain ⟨uA, A130, H⟩ := H
    (try dsimp only at H)
    have A13 := Aside0.mk A130
    clear A130
    replace H := Option.bind_eq_some_iff.mp H
    obtain ⟨xA, A140, H⟩ := H
    (try dsimp only at H)
    have A14 := Aside0.mk A140
    clear A140
    by_cases c15 : xA = true
    ·subst c15
     rw [if_pos rfl] at H
     replace H := Option.bind_eq_some_iff.mp H
     obtain ⟨vA, A160, H⟩ := H
     (try dsimp only at H)
     have A16 := Aside0.mk A160
     clear A160
     replace H := Option.bind_eq_some_iff.mp H
     obtain ⟨yA, A170, H⟩ := H
     (try dsimp only at H)
     have A17 := Aside0.mk A170
     clear A170
     by_cases c18 : yA = true
     ·subst c18
      rw [if_pos rfl] at H
      clear H
      (try clear H)
      go_enter Try.func10, Try.ntmps10
      go_wp2_with (first | ((with_reducible refine gate_callee (f := 41) rfl ?_); refine goesL_ (some 15) rfl rfl Try.func41 (by kernel_rfl) rfl #[.slice A0 l0.length c0, .int .i64 1048576] rfl q4_1 ?_; (with_reducible refine (laws_szFactS.calls _ _ l0 1048576 qA _ ?side1 ?side2 A4.out).mono ?_); (case side1 => exact q4_7); (case side2 => exact HC0.out); rintro e w' ⟨rfl, ⟨nd, rfl⟩⟩; refine ⟨_, rfl, ?_⟩) | ((with_reducible refine gate_callee (f := 43) rfl ?_); refine goesL_ (some 19) rfl rfl Try.func43 (by kernel_rfl) rfl #[.slice A0 l0.length c0] rfl q4_1 ?_; (with_reducible refine (laws_toFactS.calls k _ _ l0 sA _ ?side1 ?side2 A6.out).mono ?_); (case side1 => exact q4_7); (case side2 => exact HC0.out); rintro e tB ⟨lB, rfl, ho0, hb⟩; refine ⟨_, rfl, ?_⟩; have lA := Aside0.mk (Kd.R_lower ho0 (below_size q4_0)); have mA := Aside0.mk (below_step q4_0 hb); clear HB; have bA := lA; have HB := mA; clear lA mA; (try clear hb); (try clear hb2); (try clear hk); (try clear hi); (try clear ho0)) | ((with_reducible refine gate_callee (f := 46) rfl ?_); refine goesL_ (some 21) rfl rfl Try.func46 (by kernel_rfl) rfl #[.slice A1 l1.length c1] rfl q4_1 ?_; (with_reducible refine (laws_toIntS.calls k _ _ l1 tA _ ?side1 ?side2 A7.out).mono ?_); (case side1 => exact q4_6); (case side2 => exact HC1.out); rintro e uB ⟨mB, rfl, ho0, hb⟩; refine ⟨_, rfl, ?_⟩; have lA := Aside0.mk (Kd.R_below q4_2 hb); have mA := Aside0.mk (Kd.R_lower ho0 (below_size q4_0)); have pA := Aside0.mk (below_step q4_0 hb); clear bA HB; have bA := lA; have cA := mA; have HB := pA; clear lA mA pA; (try clear hb); (try clear hb2); (try clear hk); (try clear hi); (try clear ho0); obtain ⟨QA, RA, SA⟩ := Kd.R_slice bA.out; subst SA; obtain ⟨TA, UA, VA⟩ := Kd.R_slice cA.out; subst VA) | ((with_reducible refine gate_callee (f := 45) rfl ?_); refine goesL_ (some 22) rfl rfl Try.func45 (by kernel_rfl) rfl #[.slice QA sA.length RA, .slice TA tA.length UA] rfl q4_1 ?_; (with_reducible refine (spec_RingGood.calls k _ _ sA _ _ tA jA _ ?side1 ?side2 ?side3 ?side4 A8.out).mono ?_); (case side1 => repeat (first | exact (Kd.R_reads' bA.out).2.2 | (with_reducible refine Kd.C_alloc ?_ _) | (with_reducible refine Kd.C_drewN ?_ _) | (with_reducible refine Kd.C_drew ?_))); (case side2 => exact (Kd.R_reads' bA.out).2.1); (case side3 => repeat (first | exact (Kd.R_reads' cA.out).2.2 | (with_reducible refine Kd.C_alloc ?_ _) | (with_reducible refine Kd.C_drewN ?_ _) | (with_reducible refine Kd.C_drew ?_))); (case side4 => exact (Kd.R_reads' cA.out).2.1); rintro e vB ⟨rfl, hb⟩; refine ⟨_, rfl, ?_⟩; have lA := Aside0.mk (Kd.R_below q4_2 hb); have mA := Aside0.mk (Kd.R_below q4_3 hb); have pA := Aside0.mk (below_step q4_0 hb); clear bA cA HB; have bA := lA; have cA := mA; have HB := pA; clear lA mA pA; (try clear hb); (try clear hb2); (try clear hk); (try clear hi)) | ((with_reducible refine gate_callee (f := 43) rfl ?_); refine goesL_ (some 24) rfl rfl Try.func43 (by kernel_rfl) rfl #[.slice A0 l0.length c0] rfl q4_1 ?_; (with_reducible refine (laws_toFactS.calls k _ _ l0 nA _ ?side1 ?side2 A9.out).mono ?_); (case side1 => repeat (first | exact (Kd.C_below HR0.out HB.out) | (with_reducible refine Kd.C_alloc ?_ _) | (with_reducible refine Kd.C_drewN ?_ _) | (with_reducible refine Kd.C_drew ?_))); (case side2 => exact HC0.out); rintro e wB ⟨nB, rfl, ho0, hb⟩; refine ⟨_, rfl, ?_⟩; have lA := Aside0.mk (Kd.R_elder' q4_2 (Kd.R_base ho0) hb); have mA := Aside0.mk (Kd.R_below q4_3 hb); have pA := Aside0.mk (Kd.R_lower (Kd.R_new' ho0 (Kd.R_lt q4_2)) (below_size q4_0)); have rA := Aside0.mk (below_step q4_0 hb); clear bA cA HB; have bA := lA; have cA := mA; have dA := pA; have HB := rA; clear lA mA pA rA; (try clear hb); (try clear hb2); (try clear hk); (try clear hi); (try clear ho0)) | ((with_reducible refine gate_callee (f := 46) rfl ?_); refine goesL_ (some 26) rfl rfl Try.func46 (by kernel_rfl) rfl #[.slice A1 l1.length c1] rfl q4_1 ?_; (with_reducible refine (laws_toIntS.calls k _ _ l1 oA _ ?side1 ?side2 A10.out).mono ?_); (case side1 => exact q4_6); (case side2 => exact HC1.out); rintro e xB ⟨oB, rfl, ho0, hb⟩; refine ⟨_, rfl, ?_⟩; have lA := Aside0.mk (Kd.R_below q4_2 hb); have mA := Aside0.mk (Kd.R_elder' q4_3 (Kd.R_base ho0) hb); have pA := Aside0.mk (Kd.R_below q4_4 hb); have rA := Aside0.mk (Kd.R_lower (Kd.R_new' ho0 (Kd.R_lt q4_3)) (below_size q4_0)); have wA := Aside0.mk (below_step q4_0 hb); clear bA cA dA HB; have bA := lA; have cA := mA; have dA := pA; have eA := rA; have HB := wA; clear lA mA pA rA wA; (try clear hb); (try clear hb2); (try clear hk); (try clear hi); (try clear ho0); obtain ⟨IA, JA, WA⟩ := Kd.R_slice dA.out; subst WA; obtain ⟨KA, LA, XA⟩ := Kd.R_slice eA.out; subst XA) | ((with_reducible refine gate_callee (f := 47) rfl ?_); refine goesL_ (some 29) rfl rfl Try.func47 (by kernel_rfl) rfl #[.slice IA nA.length JA, .slice KA oA.length LA] rfl q4_1 ?_; (with_reducible refine (impl_RingGood.calls k _ _ nA _ _ oA kA _ ?side1 ?side2 ?side3 ?side4 A11.out).mono ?_); (case side1 => repeat (first | exact (Kd.R_reads' dA.out).2.2 | (with_reducible refine Kd.C_alloc ?_ _) | (with_reducible refine Kd.C_drewN ?_ _) | (with_reducible refine Kd.C_drew ?_))); (case side2 => exact (Kd.R_reads' dA.out).2.1); (case side3 => repeat (first | exact (Kd.R_reads' eA.out).2.2 | (with_reducible refine Kd.C_alloc ?_ _) | (with_reducible refine Kd.C_drewN ?_ _) | (with_reducible refine Kd.C_drew ?_))); (case side4 => exact (Kd.R_reads' eA.out).2.1); rintro e yB ⟨rfl, hb⟩; refine ⟨_, rfl, ?_⟩; have lA := Aside0.mk (Kd.R_below q4_2 hb); have mA := Aside0.mk (Kd.R_below q4_3 hb); have pA := Aside0.mk (Kd.R_below q4_4 hb); have rA := Aside0.mk (Kd.R_below q4_5 hb); have wA := Aside0.mk (below_step q4_0 hb); clear bA cA dA eA HB; have bA := lA; have cA := mA; have dA := pA; have eA := rA; have HB := wA; clear lA mA pA rA wA; (try clear hb); (try clear hb2); (try clear hk); (try clear hi)) | ((with_reducible refine gate_callee (f := 43) rfl ?_); refine goesL_ (some 35) rfl rfl Try.func43 (by kernel_rfl) rfl #[.slice A0 l0.length c0] rfl q4_1 ?_; (with_reducible refine (laws_toFactS.calls k _ _ l0 uA _ ?side1 ?side2 A13.out).mono ?_); (case side1 => repeat (first | exact (Kd.C_below HR0.out HB.out) | (with_reducible refine Kd.C_alloc ?_ _) | (with_reducible refine Kd.C_drewN ?_ _) | (with_reducible refine Kd.C_drew ?_))); (case side2 => exact HC0.out); rintro e zB ⟨pB, rfl, ho0, hb⟩; refine ⟨_, rfl, ?_⟩; have lA := Aside0.mk (Kd.R_elder' q4_2 (Kd.R_base ho0) hb); have mA := Aside0.mk (Kd.R_below q4_3 hb); have pA := Aside0.mk (Kd.R_elder' q4_4 (Kd.R_base ho0) hb); have rA := Aside0.mk (Kd.R_below q4_5 hb); have wA := Aside0.mk (Kd.R_lower (Kd.R_new' (Kd.R_new' ho0 (Kd.R_lt q4_2)) (Kd.R_lt q4_4)) (below_size q4_0)); have AA := Aside0.mk (below_step q4_0 hb); clear bA cA dA eA HB; have bA := lA; have cA := mA; have dA := pA; have eA := rA; have iA := wA; have HB := AA; clear lA mA pA rA wA AA; (try clear hb); (try clear hb2); (try clear hk); (try clear hi); (try clear ho0); obtain ⟨YA, ZA, bB⟩ := Kd.R_slice iA.out; subst bB) | ((with_reducible refine gate_callee (f := 38) rfl ?_); refine goesL_ (some 36) rfl rfl Try.func38 (by kernel_rfl) rfl #[.slice IA nA.length JA, .slice YA uA.length ZA] rfl q4_1 ?_; (with_reducible refine (laws_eqFactS.calls k _ _ nA _ _ uA true _ ?side1 ?side2 ?side3 ?side4 A14.out).mono ?_); (case side1 => repeat (first | exact (Kd.R_reads' dA.out).2.2 | (with_reducible refine Kd.C_alloc ?_ _) | (with_reducible refine Kd.C_drewN ?_ _) | (with_reducible refine Kd.C_drew ?_))); (case side2 => exact (Kd.R_reads' dA.out).2.1); (case side3 => repeat (first | exact (Kd.R_reads' iA.out).2.2 | (with_reducible refine Kd.C_alloc ?_ _) | (with_reducible refine Kd.C_drewN ?_ _) | (with_reducible refine Kd.C_drew ?_))); (case side4 => exact (Kd.R_reads' iA.out).2.1); rintro e AB ⟨rfl, hb⟩; refine ⟨_, rfl, ?_⟩; have lA := Aside0.mk (Kd.R_below q4_2 hb); have mA := Aside0.mk (Kd.R_below q4_3 hb); have pA := Aside0.mk (Kd.R_below q4_4 hb); have rA := Aside0.mk (Kd.R_below q4_5 hb); have wA := Aside0.mk (Kd.R_below (by (with_reducible repeat (first | apply Kd.R_alloc | apply Kd.R_drewN | apply Kd.R_drew)); exact iA.out) hb); have AA := Aside0.mk (below_step q4_0 hb); clear bA cA dA eA iA HB; have bA := lA; have cA := mA; have dA := pA; have eA := rA; have iA := wA; have HB := AA; clear lA mA pA rA wA AA; (try clear hb); (try clear hb2); (try clear hk); (try clear hi)) | ((with_reducible refine gate_callee (f := 46) rfl ?_); refine goesL_ (some 40) rfl rfl Try.func46 (by kernel_rfl) rfl #[.slice A1 l1.length c1] rfl q4_1 ?_; (with_reducible refine (laws_toIntS.calls k _ _ l1 vA _ ?side1 ?side2 A16.out).mono ?_); (case side1 => exact q4_6); (case side2 => exact HC1.out); rintro e BB ⟨qB, rfl, ho0, hb⟩; refine ⟨_, rfl, ?_⟩; have lA := Aside0.mk (Kd.R_below q4_2 hb); have mA := Aside0.mk (Kd.R_elder' q4_3 (Kd.R_base ho0) hb); have pA := Aside0.mk (Kd.R_below q4_4 hb); have rA := Aside0.mk (Kd.R_elder' q4_5 (Kd.R_base ho0) hb); have wA := Aside0.mk (Kd.R_below (by (with_reducible repeat (first | apply Kd.R_alloc | apply Kd.R_drewN | apply Kd.R_drew)); exact iA.out) hb); have AA := Aside0.mk (Kd.R_lower (Kd.R_new' (Kd.R_new' ho0 (Kd.R_lt q4_3)) (Kd.R_lt q4_5)) (below_size q4_0)); have gB := Aside0.mk (below_step q4_0 hb); clear bA cA dA eA iA HB; have bA := lA; have cA := mA; have dA := pA; have eA := rA; have iA := wA; have zA := AA; have HB := gB; clear lA mA pA rA wA AA gB; (try clear hb); (try clear hb2); (try clear hk); (try clear hi); (try clear ho0); obtain ⟨cB, dB, eB⟩ := Kd.R_slice zA.out; subst eB) | ((with_reducible refine gate_callee (f := 26) rfl ?_); refine goesL_ (some 41) rfl rfl Try.func26 (by kernel_rfl) rfl #[.slice KA oA.length LA, .slice cB vA.length dB] rfl q4_1 ?_; (with_reducible refine (laws_eqIntS.calls k _ _ oA _ _ vA true _ ?side1 ?side2 ?side3 ?side4 A17.out).mono ?_); (case side1 => repeat (first | exact (Kd.R_reads' eA.out).2.2 | (with_reducible refine Kd.C_alloc ?_ _) | (with_reducible refine Kd.C_drewN ?_ _) | (with_reducible refine Kd.C_drew ?_))); (case side2 => exact (Kd.R_reads' eA.out).2.1); (case side3 => repeat (first | exact (Kd.R_reads' zA.out).2.2 | (with_reducible refine Kd.C_alloc ?_ _) | (with_reducible refine Kd.C_drewN ?_ _) | (with_reducible refine Kd.C_drew ?_))); (case side4 => exact (Kd.R_reads' zA.out).2.1); rintro e w' ⟨rfl, ⟨nd, rfl⟩⟩; refine ⟨_, rfl, ?_⟩))
      go_ret
      exact ⟨by first | rfl | (simp [errW_none, errW_some] <;> rfl) | (simp [*, errW_none, errW_some] <;> rfl), q4_0⟩
     ·replace c18 := Bool.eq_false_iff.mpr c18
      subst c18
      rw [if_neg (show ¬ (false = true) by decide)] at H
      exact absurd H (by simp)
    ·replace c15 := Bool.eq_false_iff.mpr c15
     subst c15
     rw [if_neg (show ¬ (false = true) by decide)] at H
     exact absurd H (by simp)

/-! What the arguments hold: each number fits, each length is one. -/
def wfT92 (x : S92) : Prop := (Lit.int .i64 x.f0).wf = true ∧ (Lit.int .i64 x.f1).wf = true ∧ (Lit.int .i64 x.f2).wf = true ∧ (Lit.int .i64 x.f3).wf = true ∧ (Lit.int .i64 x.f4).wf = true ∧ (Lit.int .i64 x.f5).wf = true ∧ (Lit.int .i64 x.f6).wf = true ∧ (Lit.int .i64 x.f7).wf = true
/-- THE ONE PURE STATEMENT of laws_FnExactRingGood. -/
def laws_FnExactRingGood.Pure : Prop := ∀ (l0 : List (S92)) (l1 : List Int), (l0.length ≤ maxLen ∧ ∀ y ∈ l0, wfT92 y) → (l1.length ≤ maxLen ∧ ∀ y ∈ l1, (Lit.int .i64 y).wf = true) → ∃ k, laws_FnExactRingGood.f k l0 l1 = some true

end Go.Proofs.Ytgghglocfdcegaa.PFnExactRingGood
