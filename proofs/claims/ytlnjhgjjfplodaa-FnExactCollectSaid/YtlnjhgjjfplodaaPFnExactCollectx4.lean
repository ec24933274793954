-- Written by the session's own patched copy of the printer (wip/patch_print.py).
import Derived.Test.YtlnjhgjjfplodaaPFnExactCollectx0
import Derived.Test.YtlnjhgjjfplodaaPFnExactCollectx3
namespace Go.Proofs.Ytlnjhgjjfplodaa.PFnExactCollect
open Go.RowKit Go.Proofs.YtlnjhgjjfplodaaW.PrintWords Go.Proofs.YtlnjhgjjfplodaaW.PrintLast Go.Proofs.YtlnjhgjjfplodaaW.PrintMore
attribute [local go_sem] max2_int min2_int max_two min_two max_three min_three max_four min_four   -- for this text's walks alone
set_option linter.unusedVariables false
set_option linter.unusedSimpArgs false

theorem q4_p {P : Program} {ops : Array Oper} {Q : Exit → Act → World → Prop} {md : Region.Mode} {S : World → Prop} {ds : List Nat} (i n : Nat) {oi : Oper} {v : Value} {fuel : Nat} {l : Array Bool} {a : Act} {w : World} (l' : Array Bool) {a' : Act} (h : wpAnyLast P md ops Q S ds fuel l' a' w) (hi : ops[i]? = some oi := by rfl) (hN : oi.dst = some n := by rfl) (hc : anyB md ops l l' i = true := by exact any_of HT_.out (by kernel_rfl)) (hQ : ∀ c a w, Q (.panic c) (a.put oi.dst v) w → Q (.panic c) a w := by exact fun _ _ _ h => h) (hy : Yields P ops oi v a := by refine Or.inl ⟨by rfl, ?_⟩; intro w'; go_simp; with_reducible rfl) (ha : a.put (some n) v = a' := by simp only [Act.put, List.setIfInBounds_toArray, List.set_cons_zero, List.set_cons_succ, i64_w, i32_w]; rfl) : wpAnyLast P md ops Q S ds (fuel + 1) l a w := pure_ (N := some n) l' hi hN hc hQ hy ha h
theorem q4_u {P : Program} {ops : Array Oper} {Q : Exit → Act → World → Prop} {md : Region.Mode} {S : World → Prop} {ds : List Nat} (i n : Nat) {oi : Oper} {fuel : Nat} {l : Array Bool} {a : Act} {w : World} (l' : Array Bool) {a' : Act} (h : wpAnyLast P md ops Q S ds fuel l' a' w) (hi : ops[i]? = some oi := by rfl) (hN : oi.dst = some n := by rfl) (hc : anyB md ops l l' i = true := by exact any_of HT_.out (by kernel_rfl)) (hQ : ∀ c a w, Q (.panic c) (a.put oi.dst undef) w → Q (.panic c) a w := by exact fun _ _ _ h => h) (hy : Yields P ops oi undef a := by exact Or.inr ⟨by rfl, rfl⟩) (ha : a.put (some n) undef = a' := by simp only [Act.put, List.setIfInBounds_toArray, List.set_cons_zero, List.set_cons_succ, i64_w, i32_w]; rfl) : wpAnyLast P md ops Q S ds (fuel + 1) l a w := pure_ (N := some n) l' hi hN hc hQ hy ha h
open Bool renaming true → T, false → F
theorem q4_0 {p : Prop} (h : p := by repeat (first | (with_reducible first | exact HB.out | apply below_alloc | apply pw_below_drewN | apply below_drew1 | refine below_set ?_ GE155.out) | exact HB.out)) : p := h
theorem q4_1 {p : Prop} (h : p := by (with_reducible repeat (first | refine blk_drewN ?_ _ | refine blk_drew ?_ | refine blk_alloc ?_ _)); exact BK155.out) : p := h
theorem q4_2 {p : Prop} (h : p := by repeat (first | (with_reducible first | exact HB.out | apply below_alloc | apply pw_below_drewN | apply below_drew1 | refine below_set ?_ GE155.out | refine below_set ?_ GE159.out) | exact HB.out)) : p := h
theorem q4_3 {p : Prop} (h : p := by (with_reducible repeat (first | refine blk_drewN ?_ _ | refine blk_drew ?_ | refine blk_alloc ?_ _)); refine blk_put (cs := #[.int .i64 ((rd_T48 l0_2 x59_3).f0), .int .i64 0]) ?_ 1 _ rfl; (with_reducible repeat (first | refine blk_drewN ?_ _ | refine blk_drew ?_ | refine blk_alloc ?_ _)); refine blk_put (cs := #[.int .i64 0, .int .i64 0]) ?_ 0 _ rfl; (with_reducible repeat (first | refine blk_drewN ?_ _ | refine blk_drew ?_ | refine blk_alloc ?_ _)); exact BK159.out) : p := h
theorem q4_4 {p : Prop} (h : p := by (with_reducible repeat (first | refine blk_drewN ?_ _ | refine blk_drew ?_ | refine blk_alloc ?_ _)); refine blk_far ?_ NB155_159.out _; (with_reducible repeat (first | refine blk_drewN ?_ _ | refine blk_drew ?_ | refine blk_alloc ?_ _)); refine blk_far ?_ NB155_159.out _; (with_reducible repeat (first | refine blk_drewN ?_ _ | refine blk_drew ?_ | refine blk_alloc ?_ _)); exact BK155.out) : p := h
theorem q4_5 {p : Prop} (h : p := by first | (with_reducible assumption) | assumption) : p := h
theorem q4_6 {p : Prop} (h : p := by rw [hg]; exact Nat.ne_of_lt (blk_lt (g := gb155) (o := .cells #[.int .i64 a0_0, .slice A0_1 l0_1.length c0_1, .slice (some ad158) l0_2.length c0_2] 30 (0, 0)) q4_1)) : p := h
theorem q4_7 {p : Prop} (h : p := by rw [hg]; exact Nat.ne_of_gt (blk_lt (g := gb155) (o := .cells #[.int .i64 a0_0, .slice A0_1 l0_1.length c0_1, .slice (some ad158) l0_2.length c0_2] 30 (0, 0)) q4_1)) : p := h
theorem q4_8 {p : Prop} (h : p := by (try simp only [List.map_toArray, List.map_cons, List.map_nil]); first | done | rfl | (simp only [List.length_drop, List.length_take]; rfl)) : p := h
theorem q4_9 {p : Prop} (h : p := by kernel_rfl) : p := h
theorem q4_10 {p : Prop} (h : p := by first | rfl | (simp [errW_none, errW_some] <;> rfl) | (simp [*, errW_none, errW_some] <;> rfl)) : p := h
theorem q4_11 {p : Prop} (h : p := by first | rfl | (simp; done) | (simp [*]; done)) : p := h
theorem q4_12 {p : Prop} (h : p := by rw [hg]; exact (below_size q4_0)) : p := h
theorem q4_13 {p : Prop} (h : p := by (with_reducible repeat (first | refine blk_drewN ?_ _ | refine blk_drew ?_ | refine blk_alloc ?_ _)); exact BK159.out) : p := h
theorem q4_14 {p : Prop} (h : p := by repeat (first | (with_reducible first | exact HB.out | apply below_alloc | apply pw_below_drewN | apply below_drew1) | exact HB.out)) : p := h
/-! ### spec_AgesOk: function 12 -/
mutual
def spec_AgesOk.j0 : Nat → Bool → Int → List Int → List (S48) → Option (Bool)
 | 0, _, _, _, _ => none
 | k + 1, x28, x156000, x156001, x156002 => if x28 = true then (some false) else (spec_AgesOk.l0 k x156001 (x156001.length : Int) 0 x156000 x156001 x156002)
def spec_AgesOk.l0 : Nat → List Int → Int → Int → Int → List Int → List (S48) → Option (Bool)
 | 0, _, _, _, _, _, _ => none
 | k + 1, x30, x31, x32, x156000, x156001, x156002 => if x32 < x31 then (if 0 ≤ x32 then (if x32 < (x30.length : Int) then (if (rd x30 x32) = (-1) then (spec_AgesOk.l0 k x30 x31 (wrap64 (x32 + 1)) x156000 x156001 x156002) else (if (rd x30 x32) = x156000 then (spec_AgesOk.l0 k x30 x31 (wrap64 (x32 + 1)) x156000 x156001 x156002) else (if (rd x30 x32) < 0 then (some false) else (if (rd x30 x32) = (wrap64 (x156000 - 1)) then (spec_AgesOk.l0 k x30 x31 (wrap64 (x32 + 1)) x156000 x156001 x156002) else (some false))))) else (none)) else (none)) else (spec_AgesOk.l1 k x156002 (x156002.length : Int) 0 x156000 x156001 x156002)
def spec_AgesOk.l1 : Nat → List (S48) → Int → Int → Int → List Int → List (S48) → Option (Bool)
 | 0, _, _, _, _, _, _ => none
 | k + 1, x57, x58, x59, x156000, x156001, x156002 => if x59 < x58 then (if 0 ≤ x59 then (if x59 < (x57.length : Int) then (if ((rd_T48 x57 x59).f1) < 0 then (some false) else (if ((rd_T48 x57 x59).f1) > x156000 then (some false) else (if x59 > 0 then (if 0 ≤ (wrap64 (x59 - 1)) then (if (wrap64 (x59 - 1)) < (x156002.length : Int) then (if ((rd_T48 x156002 (wrap64 (x59 - 1))).f1) > ((rd_T48 x57 x59).f1) then (some false) else (if x59 ≤ (x156002.length : Int) then ((spec_l06Node.f k (x156002.take (x59 : Int).toNat) ((rd_T48 x57 x59).f0)).bind fun t165 => (if t165 = true then (some false) else (spec_AgesOk.l1 k x57 x58 (wrap64 (x59 + 1)) x156000 x156001 x156002))) else (none))) else (none)) else (none)) else (if x59 ≤ (x156002.length : Int) then ((spec_l06Node.f k (x156002.take (x59 : Int).toNat) ((rd_T48 x57 x59).f0)).bind fun t170 => (if t170 = true then (some false) else (spec_AgesOk.l1 k x57 x58 (wrap64 (x59 + 1)) x156000 x156001 x156002))) else (none))))) else (none)) else (none)) else (some true)
end
def spec_AgesOk.f (k : Nat) (a0_0 : Int) (l0_1 : List Int) (l0_2 : List (S48)) : Option (Bool) := (spec_l01Num.f a0_0).bind fun t156 => (if t156 = true then (if (l0_1.length : Int) < 1 then (spec_AgesOk.j0 k true a0_0 l0_1 l0_2) else (if (l0_1.length : Int) > 8 then (spec_AgesOk.j0 k true a0_0 l0_1 l0_2) else (spec_AgesOk.j0 k (decide ((l0_2.length : Int) > 100)) a0_0 l0_1 l0_2))) else (spec_AgesOk.j0 k true a0_0 l0_1 l0_2))
theorem spec_AgesOk.mono_l : ∀ k, (∀ y0 y1 y2 y3, LeO (spec_AgesOk.j0 k y0 y1 y2 y3) (spec_AgesOk.j0 (k + 1) y0 y1 y2 y3)) ∧ (∀ y0 y1 y2 y3 y4 y5, LeO (spec_AgesOk.l0 k y0 y1 y2 y3 y4 y5) (spec_AgesOk.l0 (k + 1) y0 y1 y2 y3 y4 y5)) ∧ (∀ y0 y1 y2 y3 y4 y5, LeO (spec_AgesOk.l1 k y0 y1 y2 y3 y4 y5) (spec_AgesOk.l1 (k + 1) y0 y1 y2 y3 y4 y5))
 | 0 => ⟨fun _ _ _ _ r h => by simp [spec_AgesOk.j0] at h, fun _ _ _ _ _ _ r h => by simp [spec_AgesOk.l0] at h, fun _ _ _ _ _ _ r h => by simp [spec_AgesOk.l1] at h⟩
 | k + 1 => by
  obtain ⟨ih0, ih1, ih2⟩ := spec_AgesOk.mono_l k
  refine ⟨?_, ?_, ?_⟩
  ·intro y0 y1 y2 y3
   unfold spec_AgesOk.j0
   repeat' first
   | (with_reducible exact ih0 _ _ _ _)
   | (with_reducible exact ih1 _ _ _ _ _ _)
   | (with_reducible exact ih2 _ _ _ _ _ _)
   | (with_reducible exact spec_l06Node.mono _ _ _)
   | (with_reducible exact LeO.refl _)
   | (with_reducible exact LeO.none _)
   | (with_reducible refine LeO.ite ?_ ?_)
   | (with_reducible refine LeO.bind ?_ (fun _ => ?_))
   | exact ih0 _ _ _ _
   | exact ih1 _ _ _ _ _ _
   | exact ih2 _ _ _ _ _ _
   | exact spec_l06Node.mono _ _ _
   | exact LeO.none _
   | refine LeO.ite ?_ ?_
   | refine LeO.bind ?_ (fun _ => ?_)
  ·intro y0 y1 y2 y3 y4 y5
   unfold spec_AgesOk.l0
   repeat' first
   | (with_reducible exact ih0 _ _ _ _)
   | (with_reducible exact ih1 _ _ _ _ _ _)
   | (with_reducible exact ih2 _ _ _ _ _ _)
   | (with_reducible exact spec_l06Node.mono _ _ _)
   | (with_reducible exact LeO.refl _)
   | (with_reducible exact LeO.none _)
   | (with_reducible refine LeO.ite ?_ ?_)
   | (with_reducible refine LeO.bind ?_ (fun _ => ?_))
   | exact ih0 _ _ _ _
   | exact ih1 _ _ _ _ _ _
   | exact ih2 _ _ _ _ _ _
   | exact spec_l06Node.mono _ _ _
   | exact LeO.none _
   | refine LeO.ite ?_ ?_
   | refine LeO.bind ?_ (fun _ => ?_)
  ·intro y0 y1 y2 y3 y4 y5
   unfold spec_AgesOk.l1
   repeat' first
   | (with_reducible exact ih0 _ _ _ _)
   | (with_reducible exact ih1 _ _ _ _ _ _)
   | (with_reducible exact ih2 _ _ _ _ _ _)
   | (with_reducible exact spec_l06Node.mono _ _ _)
   | (with_reducible exact LeO.refl _)
   | (with_reducible exact LeO.none _)
   | (with_reducible refine LeO.ite ?_ ?_)
   | (with_reducible refine LeO.bind ?_ (fun _ => ?_))
   | exact ih0 _ _ _ _
   | exact ih1 _ _ _ _ _ _
   | exact ih2 _ _ _ _ _ _
   | exact spec_l06Node.mono _ _ _
   | exact LeO.none _
   | refine LeO.ite ?_ ?_
   | refine LeO.bind ?_ (fun _ => ?_)
theorem spec_AgesOk.mono : ∀ a0 a1 a2 k, LeO (spec_AgesOk.f k a0 a1 a2) (spec_AgesOk.f (k + 1) a0 a1 a2) := by
 intro a0 a1 a2 k
 obtain ⟨ih0, ih1, ih2⟩ := spec_AgesOk.mono_l k
 unfold spec_AgesOk.f
 repeat' first
   | (with_reducible exact ih0 _ _ _ _)
   | (with_reducible exact ih1 _ _ _ _ _ _)
   | (with_reducible exact ih2 _ _ _ _ _ _)
   | (with_reducible exact spec_l06Node.mono _ _ _)
   | (with_reducible exact LeO.refl _)
   | (with_reducible exact LeO.none _)
   | (with_reducible refine LeO.ite ?_ ?_)
   | (with_reducible refine LeO.bind ?_ (fun _ => ?_))
   | exact ih0 _ _ _ _
   | exact ih1 _ _ _ _ _ _
   | exact ih2 _ _ _ _ _ _
   | exact spec_l06Node.mono _ _ _
   | exact LeO.none _
   | refine LeO.ite ?_ ?_
   | refine LeO.bind ?_ (fun _ => ?_)
def spec_AgesOk.T12 : Bool × List (List Nat × List Nat) := (true, [([], []), ([0], [0]), ([1], [1]), ([2], [2]), ([3], [3]), ([4, 3], [3, 4]), ([3], [3]), ([6, 3], [3, 6]), ([5, 7, 3], [3, 5, 7]), ([3, 8], [3, 8]), ([9, 3], [9]), ([10], [10]), ([11, 10], [10, 11]), ([12, 10, 10], [10, 12]), ([13], [13]), ([14, 13], [13, 14]), ([13], [13]), ([16, 13], [13, 16]), ([15, 17, 13], [13, 15, 17]), ([18, 13], [13, 18]), ([19, 13], [13, 19]), ([13], [13]), ([21, 13], [13, 21]), ([20, 22, 13], [13, 20, 22]), ([13, 23, 10], [10, 13, 23]), ([10, 24], [10, 24]), ([25, 13], [25]), ([26], [26]), ([27, 26], [26, 27]), ([26], [26]), ([28, 29, 26], [26, 28, 29]), ([26], [26]), ([31, 26], [26, 31]), ([30, 32, 26, 26], [26, 30, 32]), ([26, 33], [26, 33])])
def spec_AgesOk.B12 : List Nat := [0, 1, 3, 7, 15, 31, 15, 79, 255, 511, 1023, 2047, 4095, 8191, 16383, 32767, 16383, 81919, 262143, 524287, 1048575, 16383, 2113535, 8388607, 16777215, 33554431, 67108863, 134217727, 268435455, 134217727, 1073741823, 134217727, 2281701375, 8589934591, 17179869183]
theorem spec_AgesOk.tab12 : rtab .any (opsOf Try.f12 12) = spec_AgesOk.T12 := by kernel_rfl
theorem spec_AgesOk.bits12 : waitsOk spec_AgesOk.T12.2 spec_AgesOk.B12 = true := by kernel_rfl
set_option maxHeartbeats 8000000 in
set_option maxRecDepth 100000 in
theorem spec_AgesOk.calls (k : Nat) (a0_0 : Int) (A0_1 : Option Addr) (c0_1 : Nat) (l0_1 : List Int) (A0_2 : Option Addr) (c0_2 : Nat) (l0_2 : List (S48)) (r : Bool) (w : World) (hr0_1 : Kd.C (Kd.int .i64) w A0_1 l0_1.length l0_1) (hc0_1 : l0_1.length ≤ c0_1) (hr0_2 : Kd.C k48 w A0_2 l0_2.length l0_2) (hc0_2 : l0_2.length ≤ c0_2) (h : spec_AgesOk.f k a0_0 l0_1 l0_2 = some r) :
  Calls Try.prog 12 #[.agg #[.int .i64 a0_0, .slice A0_1 l0_1.length c0_1, .slice A0_2 l0_2.length c0_2]] w fun e w' => e = .returned (.bool r) ∧ Below w.heap.size w w' := by
 have hu30 := Try.underlying30
 have hu48 := Try.underlying48
 have HR0_1 := Aside0.mk hr0_1
 have HC0_1 := Aside0.mk hc0_1
 clear hr0_1 hc0_1
 have HR0_2 := Aside0.mk hr0_2
 have HC0_2 := Aside0.mk hc0_2
 clear hr0_2 hc0_2
 have HB := Aside0.mk (Below.refl w.heap.size w)
 have H : ((spec_l01Num.f a0_0).bind fun t156 => (if t156 = true then (if (l0_1.length : Int) < 1 then (spec_AgesOk.j0 k true a0_0 l0_1 l0_2) else (if (l0_1.length : Int) > 8 then (spec_AgesOk.j0 k true a0_0 l0_1 l0_2) else (spec_AgesOk.j0 k (decide ((l0_2.length : Int) > 100)) a0_0 l0_1 l0_2))) else (spec_AgesOk.j0 k true a0_0 l0_1 l0_2))) = some r := h
 clear h
 have HC2 := Aside0.mk H
 clear H
 go_enter Try.func12, Try.ntmps12
 go_upto_region 1 with (first | ((with_reducible refine gate_dst (N := 1) rfl ?_); (try (refine gate_guard (by rfl) ?_; dsimp only)); refine box_event ?hg (N := 1) ?hd (cs := #[.int .i64 a0_0, .slice A0_1 l0_1.length c0_1, .slice A0_2 l0_2.length c0_2]) (t := 30) ?hr ?_; (case hd => rfl); (case hg => rfl); (case hr => first | (go_simp; done) | (go_simp; rfl)); intro gb155 hg w3 hbox hb; have n0_ := Aside0.mk (below_step q4_14 hb); have n1_ := Aside0.mk (hbox); have n2_ := Aside0.mk ((by rw [hg]; exact (below_size q4_14) : w.heap.size ≤ gb155)); have n3_ := Aside0.mk ((by rw [hg]; exact (below_size q4_14) : w.heap.size ≤ gb155)); clear HB; have HB := n0_; have BK155 := n1_; have GW155 := n2_; have GE155 := n3_; clear n0_ n1_ n2_ n3_; clear hb hbox hg))
 (try simp only [Act.put, List.setIfInBounds_toArray, List.set_cons_zero, List.set_cons_succ])
 go_cut [28] (fun v28 wc => ∃ (kq : Nat) (x28_1 : Bool), v28 = .bool x28_1 ∧ Aside0 (spec_AgesOk.j0 kq x28_1 a0_0 l0_1 l0_2 = some r) ∧ Aside0 (kq ≤ k) ∧ Aside0 (wc.heap[gb155]? = some (.cells #[.int .i64 a0_0, (.slice A0_1 l0_1.length c0_1), (.slice A0_2 l0_2.length c0_2)] 30 (0, 0))) ∧ Aside0 (Below w.heap.size w wc))
 case first =>
  have H := HC2.out
  clear HC2
  replace H := Option.bind_eq_some_iff.mp H
  obtain ⟨t156, A40, H⟩ := H
  replace H : (if t156 = true then (if (l0_1.length : Int) < 1 then (spec_AgesOk.j0 k true a0_0 l0_1 l0_2) else (if (l0_1.length : Int) > 8 then (spec_AgesOk.j0 k true a0_0 l0_1 l0_2) else (spec_AgesOk.j0 k (decide ((l0_2.length : Int) > 100)) a0_0 l0_1 l0_2))) else (spec_AgesOk.j0 k true a0_0 l0_1 l0_2)) = some r := H
  have A4 := Aside0.mk A40
  clear A40
  by_cases c5 : t156 = true
  ·subst c5
   have H1 : (if (l0_1.length : Int) < 1 then (spec_AgesOk.j0 k true a0_0 l0_1 l0_2) else (if (l0_1.length : Int) > 8 then (spec_AgesOk.j0 k true a0_0 l0_1 l0_2) else (spec_AgesOk.j0 k (decide ((l0_2.length : Int) > 100)) a0_0 l0_1 l0_2))) = some r := by rw [if_pos rfl] at H; exact H
   clear H
   have H := H1
   clear H1
   by_cases c6 : (l0_1.length : Int) < 1
   ·rw [if_pos c6] at H
    have c6b0 : decide ((l0_1.length : Int) < 1) = true := decide_eq_true c6
    have c6b1 : decide (l0_1.length < 1) = true := decide_eq_true (by omega)
    clear c6
    (first | rw [c6b0] | (simp only [i64_w, i32_w]; rw [c6b0]) | skip)
    have H' := Aside0.mk H
    clear H
    have hcz7_0 : w3.cell? ⟨gb155, 0, none⟩ = some (.int .i64 a0_0) := (blk_cell BK155.out 0).trans rfl
    have hcz7_1 : w3.cell? ⟨gb155, 1, none⟩ = some (.slice A0_1 l0_1.length c0_1) := (blk_cell BK155.out 1).trans rfl
    have hcz7_2 : w3.cell? ⟨gb155, 2, none⟩ = some (.slice A0_2 l0_2.length c0_2) := (blk_cell BK155.out 2).trans rfl
    have hfz7_0 := blk_frozen BK155.out 0
    have hfz7_1 := blk_frozen BK155.out 1
    have hfz7_2 := blk_frozen BK155.out 2
    go_wp2_with (first | ((with_reducible refine gate_callee (f := 37) rfl ?_); refine goesL_ (some 9) rfl rfl Try.func37 q4_9 rfl #[.int .i64 a0_0] rfl q4_8 ?_; (with_reducible refine (spec_l01Num.calls a0_0 true _ A4.out).mono ?_); rintro e w' ⟨rfl, ⟨nd, rfl⟩⟩; refine ⟨_, rfl, ?_⟩))
    go_meet
    case rel => exact ⟨_, (true), q4_11, H', ⟨by first | omega | exact Nat.le_refl _⟩, ⟨q4_1⟩, ⟨q4_0⟩⟩
   ·rw [if_neg c6] at H
    have c6b0 : decide ((l0_1.length : Int) < 1) = false := decide_eq_false c6
    have c6b1 : decide (l0_1.length < 1) = false := decide_eq_false (by omega)
    clear c6
    (first | rw [c6b0] | (simp only [i64_w, i32_w]; rw [c6b0]) | skip)
    by_cases c8 : (l0_1.length : Int) > 8
    ·rw [if_pos c8] at H
     have c8b0 : decide (8 < (l0_1.length : Int)) = true := decide_eq_true c8
     have c8b1 : decide (8 < l0_1.length) = true := decide_eq_true (by omega)
     clear c8
     have H' := Aside0.mk H
     clear H
     have hcz9_0 : w3.cell? ⟨gb155, 0, none⟩ = some (.int .i64 a0_0) := (blk_cell BK155.out 0).trans rfl
     have hcz9_1 : w3.cell? ⟨gb155, 1, none⟩ = some (.slice A0_1 l0_1.length c0_1) := (blk_cell BK155.out 1).trans rfl
     have hcz9_2 : w3.cell? ⟨gb155, 2, none⟩ = some (.slice A0_2 l0_2.length c0_2) := (blk_cell BK155.out 2).trans rfl
     have hfz9_0 := blk_frozen BK155.out 0
     have hfz9_1 := blk_frozen BK155.out 1
     have hfz9_2 := blk_frozen BK155.out 2
     go_wp2_with (first | ((with_reducible refine gate_callee (f := 37) rfl ?_); refine goesL_ (some 9) rfl rfl Try.func37 q4_9 rfl #[.int .i64 a0_0] rfl q4_8 ?_; (with_reducible refine (spec_l01Num.calls a0_0 true _ A4.out).mono ?_); rintro e w' ⟨rfl, ⟨nd, rfl⟩⟩; refine ⟨_, rfl, ?_⟩))
     go_meet
     case rel => exact ⟨_, (true), q4_11, H', ⟨by first | omega | exact Nat.le_refl _⟩, ⟨q4_1⟩, ⟨q4_0⟩⟩
    ·rw [if_neg c8] at H
     have c8b0 : decide (8 < (l0_1.length : Int)) = false := decide_eq_false c8
     have c8b1 : decide (8 < l0_1.length) = false := decide_eq_false (by omega)
     clear c8
     have H' := Aside0.mk H
     clear H
     have hcz10_0 : w3.cell? ⟨gb155, 0, none⟩ = some (.int .i64 a0_0) := (blk_cell BK155.out 0).trans rfl
     have hcz10_1 : w3.cell? ⟨gb155, 1, none⟩ = some (.slice A0_1 l0_1.length c0_1) := (blk_cell BK155.out 1).trans rfl
     have hcz10_2 : w3.cell? ⟨gb155, 2, none⟩ = some (.slice A0_2 l0_2.length c0_2) := (blk_cell BK155.out 2).trans rfl
     have hfz10_0 := blk_frozen BK155.out 0
     have hfz10_1 := blk_frozen BK155.out 1
     have hfz10_2 := blk_frozen BK155.out 2
     go_wp2_with (first | ((with_reducible refine gate_callee (f := 37) rfl ?_); refine goesL_ (some 9) rfl rfl Try.func37 q4_9 rfl #[.int .i64 a0_0] rfl q4_8 ?_; (with_reducible refine (spec_l01Num.calls a0_0 true _ A4.out).mono ?_); rintro e w' ⟨rfl, ⟨nd, rfl⟩⟩; refine ⟨_, rfl, ?_⟩))
     go_meet
     case rel => exact ⟨_, (decide ((l0_2.length : Int) > 100)), q4_11, H', ⟨by first | omega | exact Nat.le_refl _⟩, ⟨q4_1⟩, ⟨q4_0⟩⟩
  ·replace c5 := Bool.eq_false_iff.mpr c5
   subst c5
   have H1 : (spec_AgesOk.j0 k true a0_0 l0_1 l0_2) = some r := by rw [if_neg (show ¬ (false = true) by decide)] at H; exact H
   clear H
   have H := H1
   clear H1
   have H' := Aside0.mk H
   clear H
   have hcz11_0 : w3.cell? ⟨gb155, 0, none⟩ = some (.int .i64 a0_0) := (blk_cell BK155.out 0).trans rfl
   have hcz11_1 : w3.cell? ⟨gb155, 1, none⟩ = some (.slice A0_1 l0_1.length c0_1) := (blk_cell BK155.out 1).trans rfl
   have hcz11_2 : w3.cell? ⟨gb155, 2, none⟩ = some (.slice A0_2 l0_2.length c0_2) := (blk_cell BK155.out 2).trans rfl
   have hfz11_0 := blk_frozen BK155.out 0
   have hfz11_1 := blk_frozen BK155.out 1
   have hfz11_2 := blk_frozen BK155.out 2
   go_wp2_with (first | ((with_reducible refine gate_callee (f := 37) rfl ?_); refine goesL_ (some 9) rfl rfl Try.func37 q4_9 rfl #[.int .i64 a0_0] rfl q4_8 ?_; (with_reducible refine (spec_l01Num.calls a0_0 false _ A4.out).mono ?_); rintro e w' ⟨rfl, ⟨nd, rfl⟩⟩; refine ⟨_, rfl, ?_⟩))
   go_meet
   case rel => exact ⟨_, (true), q4_11, H', ⟨by first | omega | exact Nat.le_refl _⟩, ⟨q4_1⟩, ⟨q4_0⟩⟩
 case rest =>
  clear HC2
  (try clear c1); (try clear p2); (try clear c3); (try clear c5); (try clear c6); (try clear c6b0); (try clear c6b1); (try clear c8); (try clear c8b0); (try clear c8b1); (try clear hcz10_0); (try clear hcz10_1); (try clear hcz10_2); (try clear hcz11_0); (try clear hcz11_1); (try clear hcz11_2); (try clear hcz7_0); (try clear hcz7_1); (try clear hcz7_2); (try clear hcz9_0); (try clear hcz9_1); (try clear hcz9_2); (try clear hfz10_0); (try clear hfz10_1); (try clear hfz10_2); (try clear hfz11_0); (try clear hfz11_1); (try clear hfz11_2); (try clear hfz7_0); (try clear hfz7_1); (try clear hfz7_2); (try clear hfz9_0); (try clear hfz9_1); (try clear hfz9_2)
  obtain ⟨kq, x28_1, rfl, HA, HJ1, BK155, HB⟩ := hcut
  cases kq with
  | zero => exact absurd HA.out (by simp [spec_AgesOk.j0])
  | succ kj1 =>
   have H := HA.out
   clear HA
   simp only [spec_AgesOk.j0] at H
   by_cases c12 : x28_1 = true
   ·subst c12
    have H1 : (some false) = some r := by rw [if_pos rfl] at H; exact H
    clear H
    have H := H1
    clear H1
    obtain rfl := Option.some.inj H
    go_wp2
    go_ret
    exact ⟨q4_10, q4_0⟩
   ·replace c12 := Bool.eq_false_iff.mpr c12
    subst c12
    have H1 : (spec_AgesOk.l0 kj1 l0_1 (l0_1.length : Int) 0 a0_0 l0_1 l0_2) = some r := by rw [if_neg (show ¬ (false = true) by decide)] at H; exact H
    clear H
    have H := H1
    clear H1
    have H' := Aside0.mk H
    clear H
    have hcz13_0 : wc.cell? ⟨gb155, 0, none⟩ = some (.int .i64 a0_0) := (blk_cell BK155.out 0).trans rfl
    have hcz13_1 : wc.cell? ⟨gb155, 1, none⟩ = some (.slice A0_1 l0_1.length c0_1) := (blk_cell BK155.out 1).trans rfl
    have hcz13_2 : wc.cell? ⟨gb155, 2, none⟩ = some (.slice A0_2 l0_2.length c0_2) := (blk_cell BK155.out 2).trans rfl
    have hfz13_0 := blk_frozen BK155.out 0
    have hfz13_1 := blk_frozen BK155.out 1
    have hfz13_2 := blk_frozen BK155.out 2
    go_wp2
    go_loopg [32] kj1 (fun kq v32 w' => ∃ (x32_2 : Int), v32 = .int .i64 x32_2 ∧ Aside0 (spec_AgesOk.l0 kq l0_1 (l0_1.length : Int) x32_2 a0_0 l0_1 l0_2 = some r) ∧ Aside0 (kq ≤ kj1) ∧ Aside0 (w'.heap[gb155]? = some (.cells #[.int .i64 a0_0, (.slice A0_1 l0_1.length c0_1), (.slice A0_2 l0_2.length c0_2)] 30 (0, 0))) ∧ Aside0 (Below w.heap.size w w'))
    case atStart => exact ⟨(0), q4_11, H', ⟨Nat.le_refl _⟩, ⟨q4_1⟩, ⟨q4_0⟩⟩
    case round =>
     clear H'
     (try clear c1); (try clear p2); (try clear c3); (try clear c5); (try clear c6); (try clear c6b0); (try clear c6b1); (try clear c8); (try clear c8b0); (try clear c8b1); (try clear c12); (try clear hcz10_0); (try clear hcz10_1); (try clear hcz10_2); (try clear hcz11_0); (try clear hcz11_1); (try clear hcz11_2); (try clear hcz13_0); (try clear hcz13_1); (try clear hcz13_2); (try clear hcz7_0); (try clear hcz7_1); (try clear hcz7_2); (try clear hcz9_0); (try clear hcz9_1); (try clear hcz9_2); (try clear hfz10_0); (try clear hfz10_1); (try clear hfz10_2); (try clear hfz11_0); (try clear hfz11_1); (try clear hfz11_2); (try clear hfz13_0); (try clear hfz13_1); (try clear hfz13_2); (try clear hfz7_0); (try clear hfz7_1); (try clear hfz7_2); (try clear hfz9_0); (try clear hfz9_1); (try clear hfz9_2); (try clear p2)
     obtain ⟨x32_2, rfl, HA, HK2, BK155, HB⟩ := hrel
     cases gk with
     | zero => exact absurd HA.out (by simp [spec_AgesOk.l0])
     | succ k2 =>
      have H := HA.out
      clear HA
      simp only [spec_AgesOk.l0] at H
      by_cases c14 : x32_2 < (l0_1.length : Int)
      ·rw [if_pos c14] at H
       have c14b0 : decide (x32_2 < (l0_1.length : Int)) = true := decide_eq_true c14
       clear c14
       by_cases c15 : 0 ≤ x32_2
       ·rw [if_pos c15] at H
        have c15b0 : decide (0 ≤ x32_2) = true := decide_eq_true c15
        clear c15
        by_cases c16 : x32_2 < (l0_1.length : Int)
        ·rw [if_pos c16] at H
         have c16b0 : decide (x32_2 < (l0_1.length : Int)) = true := decide_eq_true c16
         clear c16
         by_cases c17 : (rd l0_1 x32_2) = (-1)
         ·rw [if_pos c17] at H
          have c17b0 : ((rd l0_1 x32_2) == (-1)) = true := beq_iff_eq.mpr c17
          have c17b1 : ((rd l0_1 x32_2) != (-1)) = false := bne_eq_false_iff_eq.mpr c17
          clear c17
          have H' := Aside0.mk H
          clear H
          have p157 : 0 ≤ (x32_2 : Int) := of_decide_eq_true q4_5
          have q157 : x32_2 < (l0_1.length : Int) := of_decide_eq_true q4_5
          obtain ⟨ad157, e157, hx157_0⟩ := Kd.at_int HR0_1.out x32_2 p157 q157
          cases e157
          replace hx157_0 := (HB.out.cell (World.block_lt_of_cell? w _ hx157_0)).trans hx157_0
          replace p157 := eq_true p157
          replace q157 := eq_true q157
          go_wp2
          go_roundg k2
          case measure => have := HJ1.out; have := HK2.out; omega
          case rel => exact ⟨(wrap64 (x32_2 + 1)), q4_11, H', ⟨by have := HJ1.out; have := HK2.out; omega⟩, ⟨q4_1⟩, ⟨q4_0⟩⟩
         ·rw [if_neg c17] at H
          have c17b0 : ((rd l0_1 x32_2) == (-1)) = false := beq_eq_false_iff_ne.mpr c17
          have c17b1 : ((rd l0_1 x32_2) != (-1)) = true := bne_iff_ne.mpr c17
          by_cases c18 : (rd l0_1 x32_2) = a0_0
          ·rw [if_pos c18] at H
           have c18b0 : ((rd l0_1 x32_2) == a0_0) = true := beq_iff_eq.mpr c18
           have c18b1 : ((rd l0_1 x32_2) != a0_0) = false := bne_eq_false_iff_eq.mpr c18
           clear c18
           have H' := Aside0.mk H
           clear H
           have p157 : 0 ≤ (x32_2 : Int) := of_decide_eq_true q4_5
           have q157 : x32_2 < (l0_1.length : Int) := of_decide_eq_true q4_5
           obtain ⟨ad157, e157, hx157_0⟩ := Kd.at_int HR0_1.out x32_2 p157 q157
           cases e157
           replace hx157_0 := (HB.out.cell (World.block_lt_of_cell? w _ hx157_0)).trans hx157_0
           replace p157 := eq_true p157
           replace q157 := eq_true q157
           have hcz19_0 : wr.cell? ⟨gb155, 0, none⟩ = some (.int .i64 a0_0) := (blk_cell BK155.out 0).trans rfl
           have hcz19_1 : wr.cell? ⟨gb155, 1, none⟩ = some (.slice (some ad157) l0_1.length c0_1) := (blk_cell BK155.out 1).trans rfl
           have hcz19_2 : wr.cell? ⟨gb155, 2, none⟩ = some (.slice A0_2 l0_2.length c0_2) := (blk_cell BK155.out 2).trans rfl
           have hfz19_0 := blk_frozen BK155.out 0
           have hfz19_1 := blk_frozen BK155.out 1
           have hfz19_2 := blk_frozen BK155.out 2
           go_wp2
           go_roundg k2
           case measure => have := HJ1.out; have := HK2.out; omega
           case rel => exact ⟨(wrap64 (x32_2 + 1)), q4_11, H', ⟨by have := HJ1.out; have := HK2.out; omega⟩, ⟨q4_1⟩, ⟨q4_0⟩⟩
          ·rw [if_neg c18] at H
           have c18b0 : ((rd l0_1 x32_2) == a0_0) = false := beq_eq_false_iff_ne.mpr c18
           have c18b1 : ((rd l0_1 x32_2) != a0_0) = true := bne_iff_ne.mpr c18
           by_cases c20 : (rd l0_1 x32_2) < 0
           ·rw [if_pos c20] at H
            have c20b0 : decide ((rd l0_1 x32_2) < 0) = true := decide_eq_true c20
            clear c20
            obtain rfl := Option.some.inj H
            have p157 : 0 ≤ (x32_2 : Int) := of_decide_eq_true q4_5
            have q157 : x32_2 < (l0_1.length : Int) := of_decide_eq_true q4_5
            obtain ⟨ad157, e157, hx157_0⟩ := Kd.at_int HR0_1.out x32_2 p157 q157
            cases e157
            replace hx157_0 := (HB.out.cell (World.block_lt_of_cell? w _ hx157_0)).trans hx157_0
            replace p157 := eq_true p157
            replace q157 := eq_true q157
            have hcz21_0 : wr.cell? ⟨gb155, 0, none⟩ = some (.int .i64 a0_0) := (blk_cell BK155.out 0).trans rfl
            have hcz21_1 : wr.cell? ⟨gb155, 1, none⟩ = some (.slice (some ad157) l0_1.length c0_1) := (blk_cell BK155.out 1).trans rfl
            have hcz21_2 : wr.cell? ⟨gb155, 2, none⟩ = some (.slice A0_2 l0_2.length c0_2) := (blk_cell BK155.out 2).trans rfl
            have hfz21_0 := blk_frozen BK155.out 0
            have hfz21_1 := blk_frozen BK155.out 1
            have hfz21_2 := blk_frozen BK155.out 2
            go_wp2
            go_ret
            exact ⟨q4_10, q4_0⟩
           ·rw [if_neg c20] at H
            have c20b0 : decide ((rd l0_1 x32_2) < 0) = false := decide_eq_false c20
            clear c20
            by_cases c22 : (rd l0_1 x32_2) = (wrap64 (a0_0 - 1))
            ·rw [if_pos c22] at H
             have c22b0 : ((rd l0_1 x32_2) == (wrap64 (a0_0 - 1))) = true := beq_iff_eq.mpr c22
             have c22b1 : ((rd l0_1 x32_2) != (wrap64 (a0_0 - 1))) = false := bne_eq_false_iff_eq.mpr c22
             clear c22
             have H' := Aside0.mk H
             clear H
             have p157 : 0 ≤ (x32_2 : Int) := of_decide_eq_true q4_5
             have q157 : x32_2 < (l0_1.length : Int) := of_decide_eq_true q4_5
             obtain ⟨ad157, e157, hx157_0⟩ := Kd.at_int HR0_1.out x32_2 p157 q157
             cases e157
             replace hx157_0 := (HB.out.cell (World.block_lt_of_cell? w _ hx157_0)).trans hx157_0
             replace p157 := eq_true p157
             replace q157 := eq_true q157
             have hcz23_0 : wr.cell? ⟨gb155, 0, none⟩ = some (.int .i64 a0_0) := (blk_cell BK155.out 0).trans rfl
             have hcz23_1 : wr.cell? ⟨gb155, 1, none⟩ = some (.slice (some ad157) l0_1.length c0_1) := (blk_cell BK155.out 1).trans rfl
             have hcz23_2 : wr.cell? ⟨gb155, 2, none⟩ = some (.slice A0_2 l0_2.length c0_2) := (blk_cell BK155.out 2).trans rfl
             have hfz23_0 := blk_frozen BK155.out 0
             have hfz23_1 := blk_frozen BK155.out 1
             have hfz23_2 := blk_frozen BK155.out 2
             go_wp2
             go_roundg k2
             case measure => have := HJ1.out; have := HK2.out; omega
             case rel => exact ⟨(wrap64 (x32_2 + 1)), q4_11, H', ⟨by have := HJ1.out; have := HK2.out; omega⟩, ⟨q4_1⟩, ⟨q4_0⟩⟩
            ·rw [if_neg c22] at H
             have c22b0 : ((rd l0_1 x32_2) == (wrap64 (a0_0 - 1))) = false := beq_eq_false_iff_ne.mpr c22
             have c22b1 : ((rd l0_1 x32_2) != (wrap64 (a0_0 - 1))) = true := bne_iff_ne.mpr c22
             obtain rfl := Option.some.inj H
             have p157 : 0 ≤ (x32_2 : Int) := of_decide_eq_true q4_5
             have q157 : x32_2 < (l0_1.length : Int) := of_decide_eq_true q4_5
             obtain ⟨ad157, e157, hx157_0⟩ := Kd.at_int HR0_1.out x32_2 p157 q157
             cases e157
             replace hx157_0 := (HB.out.cell (World.block_lt_of_cell? w _ hx157_0)).trans hx157_0
             replace p157 := eq_true p157
             replace q157 := eq_true q157
             have hcz24_0 : wr.cell? ⟨gb155, 0, none⟩ = some (.int .i64 a0_0) := (blk_cell BK155.out 0).trans rfl
             have hcz24_1 : wr.cell? ⟨gb155, 1, none⟩ = some (.slice (some ad157) l0_1.length c0_1) := (blk_cell BK155.out 1).trans rfl
             have hcz24_2 : wr.cell? ⟨gb155, 2, none⟩ = some (.slice A0_2 l0_2.length c0_2) := (blk_cell BK155.out 2).trans rfl
             have hfz24_0 := blk_frozen BK155.out 0
             have hfz24_1 := blk_frozen BK155.out 1
             have hfz24_2 := blk_frozen BK155.out 2
             go_wp2
             go_ret
             exact ⟨q4_10, q4_0⟩
        ·rw [if_neg c16] at H
         exact absurd H (by simp)
       ·rw [if_neg c15] at H
        exact absurd H (by simp)
      ·rw [if_neg c14] at H
       have c14b0 : decide (x32_2 < (l0_1.length : Int)) = false := decide_eq_false c14
       clear c14
       have H' := Aside0.mk H
       clear H
       have hcz25_0 : wr.cell? ⟨gb155, 0, none⟩ = some (.int .i64 a0_0) := (blk_cell BK155.out 0).trans rfl
       have hcz25_1 : wr.cell? ⟨gb155, 1, none⟩ = some (.slice A0_1 l0_1.length c0_1) := (blk_cell BK155.out 1).trans rfl
       have hcz25_2 : wr.cell? ⟨gb155, 2, none⟩ = some (.slice A0_2 l0_2.length c0_2) := (blk_cell BK155.out 2).trans rfl
       have hfz25_0 := blk_frozen BK155.out 0
       have hfz25_1 := blk_frozen BK155.out 1
       have hfz25_2 := blk_frozen BK155.out 2
       go_wp2
       go_loopg [59] k2 (fun kq v59 w' => ∃ (x59_3 : Int), v59 = .int .i64 x59_3 ∧ Aside0 (spec_AgesOk.l1 kq l0_2 (l0_2.length : Int) x59_3 a0_0 l0_1 l0_2 = some r) ∧ Aside0 (kq ≤ k2) ∧ Aside0 (w'.heap[gb155]? = some (.cells #[.int .i64 a0_0, (.slice A0_1 l0_1.length c0_1), (.slice A0_2 l0_2.length c0_2)] 30 (0, 0))) ∧ Aside0 (Below w.heap.size w w'))
       case atStart => exact ⟨(0), q4_11, H', ⟨Nat.le_refl _⟩, ⟨q4_1⟩, ⟨q4_0⟩⟩
       case round =>
        clear H'
        (try clear c1); (try clear p1); (try clear q1); (try clear hx1); (try clear c2); (try clear p2); (try clear c3); (try clear c5); (try clear c6); (try clear c6b0); (try clear c6b1); (try clear p6); (try clear c8); (try clear c8b0); (try clear c8b1); (try clear c12); (try clear c14); (try clear c14b0); (try clear c15); (try clear c15b0); (try clear p15); (try clear q15); (try clear hx15); (try clear c16); (try clear c16b0); (try clear c17); (try clear c17b0); (try clear c17b1); (try clear c18); (try clear c18b0); (try clear c18b1); (try clear c20); (try clear c20b0); (try clear c22); (try clear c22b0); (try clear c22b1); (try clear hcz10_0); (try clear hcz10_1); (try clear hcz10_2); (try clear hcz11_0); (try clear hcz11_1); (try clear hcz11_2); (try clear hcz13_0); (try clear hcz13_1); (try clear hcz13_2); (try clear hcz19_0); (try clear hcz19_1); (try clear hcz19_2); (try clear hcz21_0); (try clear hcz21_1); (try clear hcz21_2); (try clear hcz23_0); (try clear hcz23_1); (try clear hcz23_2); (try clear hcz24_0); (try clear hcz24_1); (try clear hcz24_2); (try clear hcz25_0); (try clear hcz25_1); (try clear hcz25_2); (try clear hcz7_0); (try clear hcz7_1); (try clear hcz7_2); (try clear hcz9_0); (try clear hcz9_1); (try clear hcz9_2); (try clear hfz10_0); (try clear hfz10_1); (try clear hfz10_2); (try clear hfz11_0); (try clear hfz11_1); (try clear hfz11_2); (try clear hfz13_0); (try clear hfz13_1); (try clear hfz13_2); (try clear hfz19_0); (try clear hfz19_1); (try clear hfz19_2); (try clear hfz21_0); (try clear hfz21_1); (try clear hfz21_2); (try clear hfz23_0); (try clear hfz23_1); (try clear hfz23_2); (try clear hfz24_0); (try clear hfz24_1); (try clear hfz24_2); (try clear hfz25_0); (try clear hfz25_1); (try clear hfz25_2); (try clear hfz7_0); (try clear hfz7_1); (try clear hfz7_2); (try clear hfz9_0); (try clear hfz9_1); (try clear hfz9_2); (try clear hx157_0); (try clear p157); (try clear p2); (try clear q157)
        obtain ⟨x59_3, rfl, HA, HK3, BK155, HB⟩ := hrel
        cases gk with
        | zero => exact absurd HA.out (by simp [spec_AgesOk.l1])
        | succ k3 =>
         have H := HA.out
         clear HA
         simp only [spec_AgesOk.l1] at H
         by_cases c26 : x59_3 < (l0_2.length : Int)
         ·rw [if_pos c26] at H
          have c26b0 : decide (x59_3 < (l0_2.length : Int)) = true := decide_eq_true c26
          clear c26
          by_cases c27 : 0 ≤ x59_3
          ·rw [if_pos c27] at H
           have c27b0 : decide (0 ≤ x59_3) = true := decide_eq_true c27
           clear c27
           by_cases c28 : x59_3 < (l0_2.length : Int)
           ·rw [if_pos c28] at H
            have c28b0 : decide (x59_3 < (l0_2.length : Int)) = true := decide_eq_true c28
            clear c28
            by_cases c29 : ((rd_T48 l0_2 x59_3).f1) < 0
            ·rw [if_pos c29] at H
             have c29b0 : decide (((rd_T48 l0_2 x59_3).f1) < 0) = true := decide_eq_true c29
             clear c29
             obtain rfl := Option.some.inj H
             have p158 : 0 ≤ (x59_3 : Int) := of_decide_eq_true q4_5
             have q158 : x59_3 < (l0_2.length : Int) := of_decide_eq_true q4_5
             obtain ⟨ad158, e158, hx158_0, hx158_1⟩ := at_T48 HR0_2.out x59_3 p158 q158
             cases e158
             replace hx158_0 := (HB.out.cell (World.block_lt_of_cell? w _ hx158_0)).trans hx158_0
             replace hx158_1 := (HB.out.cell (World.block_lt_of_cell? w _ hx158_1)).trans hx158_1
             replace p158 := eq_true p158
             replace q158 := eq_true q158
             try go_wp2_with (first | ((with_reducible refine gate_dst (N := 6) rfl ?_); (try (refine gate_guard (by rfl) ?_; dsimp only)); refine box_event ?hg (N := 6) ?hd (cs := #[.int .i64 0, .int .i64 0]) (t := 48) ?hr ?_; (case hd => rfl); (case hg => rfl); (case hr => first | (go_simp; done) | (go_simp; rfl)); intro gb159 hg w30 hbox hb; have n0_ := Aside0.mk (blk_below (g := gb155) (o := .cells #[.int .i64 a0_0, .slice A0_1 l0_1.length c0_1, .slice (some ad158) l0_2.length c0_2] 30 (0, 0)) q4_1 hb); have n1_ := Aside0.mk (below_step q4_0 hb); have n2_ := Aside0.mk (hbox); have n3_ := Aside0.mk ((q4_12 : w.heap.size ≤ gb159)); have n4_ := Aside0.mk ((q4_12 : w.heap.size ≤ gb159)); have n5_ := Aside0.mk ((q4_6 : gb155 ≠ gb159)); have n6_ := Aside0.mk ((q4_7 : gb159 ≠ gb155)); clear BK155; clear HB; have BK155 := n0_; have HB := n1_; have BK159 := n2_; have GW159 := n3_; have GE159 := n4_; have NB155_159 := n5_; have NB159_155 := n6_; clear n0_ n1_ n2_ n3_ n4_ n5_ n6_; clear hb hbox hg; have hnb31 := NB159_155.out; have hnc31 := NB155_159.out; have hcz32_0 : w30.cell? ⟨gb159, 0, none⟩ = some (.int .i64 0) := (blk_cell BK159.out 0).trans rfl; have hcz32_1 : w30.cell? ⟨gb159, 1, none⟩ = some (.int .i64 0) := (blk_cell BK159.out 1).trans rfl; have hfz32_0 := blk_frozen BK159.out 0; have hfz32_1 := blk_frozen BK159.out 1))
             have n0_ : Aside0 (((w30.setCell ⟨gb159, 0, none⟩ (.int .i64 ((rd_T48 l0_2 x59_3).f0))).setCell ⟨gb159, 1, none⟩ (.int .i64 ((rd_T48 l0_2 x59_3).f1))).heap[gb155]? = some (.cells #[.int .i64 a0_0, .slice A0_1 l0_1.length c0_1, .slice (some ad158) l0_2.length c0_2] 30 (0, 0))) := ⟨q4_4⟩
             have n1_ : Aside0 (((w30.setCell ⟨gb159, 0, none⟩ (.int .i64 ((rd_T48 l0_2 x59_3).f0))).setCell ⟨gb159, 1, none⟩ (.int .i64 ((rd_T48 l0_2 x59_3).f1))).heap[gb159]? = some (.cells #[.int .i64 ((rd_T48 l0_2 x59_3).f0), .int .i64 ((rd_T48 l0_2 x59_3).f1)] 48 (0, 0))) := ⟨q4_3⟩
             have n2_ : Aside0 (Below w.heap.size w ((w30.setCell ⟨gb159, 0, none⟩ (.int .i64 ((rd_T48 l0_2 x59_3).f0))).setCell ⟨gb159, 1, none⟩ (.int .i64 ((rd_T48 l0_2 x59_3).f1)))) := ⟨q4_2⟩
             (try clear BK155)
             (try clear BK159)
             (try clear HB)
             generalize ((w30.setCell ⟨gb159, 0, none⟩ (.int .i64 ((rd_T48 l0_2 x59_3).f0))).setCell ⟨gb159, 1, none⟩ (.int .i64 ((rd_T48 l0_2 x59_3).f1))) = w33 at n0_ n1_ n2_ ⊢
             have BK155 := n0_
             have BK159 := n1_
             have HB := n2_
             clear n0_ n1_ n2_
             have n0_ := Aside0.mk (blk_drew BK155.out)
             have n1_ := Aside0.mk (blk_drew BK159.out)
             have n2_ := Aside0.mk (below_drew1 HB.out)
             clear BK155
             clear BK159
             clear HB
             have BK155 := n0_
             have BK159 := n1_
             have HB := n2_
             clear n0_ n1_ n2_
             refine start_ (n := 35) (S := fun w' => w'.cell? ⟨gb159, 0, none⟩ = some (.int .i64 ((rd_T48 l0_2 x59_3).f0)) ∧ w'.cell? ⟨gb159, 1, none⟩ = some (.int .i64 ((rd_T48 l0_2 x59_3).f1))) (ds := []) #[F,F,F,F,F,F,F,F,F,F,F,F,F,F,F,F,F,F,F,F,F,F,F,F,F,F,F,F,F,F,F,F,F,F,F] q4_9 rfl rfl ⟨(blk_cell BK159.out 0).trans rfl, (blk_cell BK159.out 1).trans rfl⟩ (fun hHeld => ?_); refine with_tabW spec_AgesOk.tab12 spec_AgesOk.bits12 (fun HT_ HW_ => ?_)
             generalize w33.drew = w34 at BK155 BK159 HB hHeld ⊢
             refine q4_p 0 64 #[T,F,F,F,F,F,F,F,F,F,F,F,F,F,F,F,F,F,F,F,F,F,F,F,F,F,F,F,F,F,F,F,F,F,F] ?_
             refine take_ (i := 1) (N := some 65) (v := ?_) (a' := ?_) #[T,T,F,F,F,F,F,F,F,F,F,F,F,F,F,F,F,F,F,F,F,F,F,F,F,F,F,F,F,F,F,F,F,F,F] rfl rfl (take_ofW HT_.out HW_.out q4_9) (fun _ _ _ h => h) (Or.inl ⟨by rfl, ?_⟩) hHeld ?_ ?_
             rotate_left
             ·rintro w' ⟨s0, s1⟩
              go_simp
              with_reducible rfl
             rotate_left
             ·simp only [Act.put, List.setIfInBounds_toArray, List.set_cons_zero, List.set_cons_succ, i64_w, i32_w]
              rfl
             refine q4_p 2 66 #[T,T,T,F,F,F,F,F,F,F,F,F,F,F,F,F,F,F,F,F,F,F,F,F,F,F,F,F,F,F,F,F,F,F,F] ?_
             refine q4_p 3 67 #[T,T,T,T,F,F,F,F,F,F,F,F,F,F,F,F,F,F,F,F,F,F,F,F,F,F,F,F,F,F,F,F,F,F,F] ?_
             refine q4_u 4 68 #[T,T,T,T,T,F,F,F,F,F,F,F,F,F,F,F,F,F,F,F,F,F,F,F,F,F,F,F,F,F,F,F,F,F,F] ?_
             refine q4_u 5 69 #[T,T,T,T,T,T,F,F,F,F,F,F,F,F,F,F,F,F,F,F,F,F,F,F,F,F,F,F,F,F,F,F,F,F,F] ?_
             refine q4_u 6 70 #[T,T,T,T,T,T,T,F,F,F,F,F,F,F,F,F,F,F,F,F,F,F,F,F,F,F,F,F,F,F,F,F,F,F,F] ?_
             refine q4_u 7 71 #[T,T,T,T,T,T,T,T,F,F,F,F,F,F,F,F,F,F,F,F,F,F,F,F,F,F,F,F,F,F,F,F,F,F,F] ?_
             refine q4_u 8 72 #[T,T,T,T,T,T,T,T,T,F,F,F,F,F,F,F,F,F,F,F,F,F,F,F,F,F,F,F,F,F,F,F,F,F,F] ?_
             refine q4_p 9 73 #[T,T,T,T,T,T,T,T,T,T,F,F,F,F,F,F,F,F,F,F,F,F,F,F,F,F,F,F,F,F,F,F,F,F,F] ?_
             refine q4_p 10 74 #[T,T,T,T,T,T,T,T,T,T,T,F,F,F,F,F,F,F,F,F,F,F,F,F,F,F,F,F,F,F,F,F,F,F,F] ?_
             refine q4_u 11 75 #[T,T,T,T,T,T,T,T,T,T,T,T,F,F,F,F,F,F,F,F,F,F,F,F,F,F,F,F,F,F,F,F,F,F,F] ?_
             refine q4_u 12 76 #[T,T,T,T,T,T,T,T,T,T,T,T,T,F,F,F,F,F,F,F,F,F,F,F,F,F,F,F,F,F,F,F,F,F,F] ?_
             refine q4_u 13 77 #[T,T,T,T,T,T,T,T,T,T,T,T,T,T,F,F,F,F,F,F,F,F,F,F,F,F,F,F,F,F,F,F,F,F,F] ?_
             refine q4_u 14 78 #[T,T,T,T,T,T,T,T,T,T,T,T,T,T,T,F,F,F,F,F,F,F,F,F,F,F,F,F,F,F,F,F,F,F,F] ?_
             refine q4_u 15 79 #[T,T,T,T,T,T,T,T,T,T,T,T,T,T,T,T,F,F,F,F,F,F,F,F,F,F,F,F,F,F,F,F,F,F,F] ?_
             refine q4_u 16 80 #[T,T,T,T,T,T,T,T,T,T,T,T,T,T,T,T,T,F,F,F,F,F,F,F,F,F,F,F,F,F,F,F,F,F,F] ?_
             refine q4_u 17 81 #[T,T,T,T,T,T,T,T,T,T,T,T,T,T,T,T,T,T,F,F,F,F,F,F,F,F,F,F,F,F,F,F,F,F,F] ?_
             refine q4_u 18 82 #[T,T,T,T,T,T,T,T,T,T,T,T,T,T,T,T,T,T,T,F,F,F,F,F,F,F,F,F,F,F,F,F,F,F,F] ?_
             refine q4_u 19 83 #[T,T,T,T,T,T,T,T,T,T,T,T,T,T,T,T,T,T,T,T,F,F,F,F,F,F,F,F,F,F,F,F,F,F,F] ?_
             refine q4_u 20 84 #[T,T,T,T,T,T,T,T,T,T,T,T,T,T,T,T,T,T,T,T,T,F,F,F,F,F,F,F,F,F,F,F,F,F,F] ?_
             refine q4_u 21 85 #[T,T,T,T,T,T,T,T,T,T,T,T,T,T,T,T,T,T,T,T,T,T,F,F,F,F,F,F,F,F,F,F,F,F,F] ?_
             refine q4_u 22 86 #[T,T,T,T,T,T,T,T,T,T,T,T,T,T,T,T,T,T,T,T,T,T,T,F,F,F,F,F,F,F,F,F,F,F,F] ?_
             refine q4_u 23 87 #[T,T,T,T,T,T,T,T,T,T,T,T,T,T,T,T,T,T,T,T,T,T,T,T,F,F,F,F,F,F,F,F,F,F,F] ?_
             refine q4_u 24 88 #[T,T,T,T,T,T,T,T,T,T,T,T,T,T,T,T,T,T,T,T,T,T,T,T,T,F,F,F,F,F,F,F,F,F,F] ?_
             refine q4_p 25 89 #[T,T,T,T,T,T,T,T,T,T,T,T,T,T,T,T,T,T,T,T,T,T,T,T,T,T,F,F,F,F,F,F,F,F,F] ?_
             refine q4_p 26 90 #[T,T,T,T,T,T,T,T,T,T,T,T,T,T,T,T,T,T,T,T,T,T,T,T,T,T,T,F,F,F,F,F,F,F,F] ?_
             refine q4_u 27 91 #[T,T,T,T,T,T,T,T,T,T,T,T,T,T,T,T,T,T,T,T,T,T,T,T,T,T,T,T,F,F,F,F,F,F,F] ?_
             refine q4_u 28 92 #[T,T,T,T,T,T,T,T,T,T,T,T,T,T,T,T,T,T,T,T,T,T,T,T,T,T,T,T,T,F,F,F,F,F,F] ?_
             refine q4_u 29 93 #[T,T,T,T,T,T,T,T,T,T,T,T,T,T,T,T,T,T,T,T,T,T,T,T,T,T,T,T,T,T,F,F,F,F,F] ?_
             refine q4_u 30 94 #[T,T,T,T,T,T,T,T,T,T,T,T,T,T,T,T,T,T,T,T,T,T,T,T,T,T,T,T,T,T,T,F,F,F,F] ?_
             refine q4_u 31 95 #[T,T,T,T,T,T,T,T,T,T,T,T,T,T,T,T,T,T,T,T,T,T,T,T,T,T,T,T,T,T,T,T,F,F,F] ?_
             refine q4_u 32 96 #[T,T,T,T,T,T,T,T,T,T,T,T,T,T,T,T,T,T,T,T,T,T,T,T,T,T,T,T,T,T,T,T,T,F,F] ?_
             refine q4_u 33 97 #[T,T,T,T,T,T,T,T,T,T,T,T,T,T,T,T,T,T,T,T,T,T,T,T,T,T,T,T,T,T,T,T,T,T,F] ?_
             refine q4_p 34 98 #[T,T,T,T,T,T,T,T,T,T,T,T,T,T,T,T,T,T,T,T,T,T,T,T,T,T,T,T,T,T,T,T,T,T,T] ?_
             refine done_ (done_of HT_.out q4_9) ?_
             try go_wp2
             go_ret
             exact ⟨q4_10, q4_2⟩
            ·rw [if_neg c29] at H
             have c29b0 : decide (((rd_T48 l0_2 x59_3).f1) < 0) = false := decide_eq_false c29
             clear c29
             by_cases c35 : ((rd_T48 l0_2 x59_3).f1) > a0_0
             ·rw [if_pos c35] at H
              have c35b0 : decide (a0_0 < ((rd_T48 l0_2 x59_3).f1)) = true := decide_eq_true c35
              clear c35
              obtain rfl := Option.some.inj H
              have p158 : 0 ≤ (x59_3 : Int) := of_decide_eq_true q4_5
              have q158 : x59_3 < (l0_2.length : Int) := of_decide_eq_true q4_5
              obtain ⟨ad158, e158, hx158_0, hx158_1⟩ := at_T48 HR0_2.out x59_3 p158 q158
              cases e158
              replace hx158_0 := (HB.out.cell (World.block_lt_of_cell? w _ hx158_0)).trans hx158_0
              replace hx158_1 := (HB.out.cell (World.block_lt_of_cell? w _ hx158_1)).trans hx158_1
              replace p158 := eq_true p158
              replace q158 := eq_true q158
              try go_wp2_with (first | ((with_reducible refine gate_dst (N := 6) rfl ?_); (try (refine gate_guard (by rfl) ?_; dsimp only)); refine box_event ?hg (N := 6) ?hd (cs := #[.int .i64 0, .int .i64 0]) (t := 48) ?hr ?_; (case hd => rfl); (case hg => rfl); (case hr => first | (go_simp; done) | (go_simp; rfl)); intro gb159 hg w36 hbox hb; have n0_ := Aside0.mk (blk_below (g := gb155) (o := .cells #[.int .i64 a0_0, .slice A0_1 l0_1.length c0_1, .slice (some ad158) l0_2.length c0_2] 30 (0, 0)) q4_1 hb); have n1_ := Aside0.mk (below_step q4_0 hb); have n2_ := Aside0.mk (hbox); have n3_ := Aside0.mk ((q4_12 : w.heap.size ≤ gb159)); have n4_ := Aside0.mk ((q4_12 : w.heap.size ≤ gb159)); have n5_ := Aside0.mk ((q4_6 : gb155 ≠ gb159)); have n6_ := Aside0.mk ((q4_7 : gb159 ≠ gb155)); clear BK155; clear HB; have BK155 := n0_; have HB := n1_; have BK159 := n2_; have GW159 := n3_; have GE159 := n4_; have NB155_159 := n5_; have NB159_155 := n6_; clear n0_ n1_ n2_ n3_ n4_ n5_ n6_; clear hb hbox hg; have hnb37 := NB159_155.out; have hnc37 := NB155_159.out; have hcz38_0 : w36.cell? ⟨gb159, 0, none⟩ = some (.int .i64 0) := (blk_cell BK159.out 0).trans rfl; have hcz38_1 : w36.cell? ⟨gb159, 1, none⟩ = some (.int .i64 0) := (blk_cell BK159.out 1).trans rfl; have hfz38_0 := blk_frozen BK159.out 0; have hfz38_1 := blk_frozen BK159.out 1))
              have n0_ : Aside0 (((w36.setCell ⟨gb159, 0, none⟩ (.int .i64 ((rd_T48 l0_2 x59_3).f0))).setCell ⟨gb159, 1, none⟩ (.int .i64 ((rd_T48 l0_2 x59_3).f1))).heap[gb155]? = some (.cells #[.int .i64 a0_0, .slice A0_1 l0_1.length c0_1, .slice (some ad158) l0_2.length c0_2] 30 (0, 0))) := ⟨q4_4⟩
              have n1_ : Aside0 (((w36.setCell ⟨gb159, 0, none⟩ (.int .i64 ((rd_T48 l0_2 x59_3).f0))).setCell ⟨gb159, 1, none⟩ (.int .i64 ((rd_T48 l0_2 x59_3).f1))).heap[gb159]? = some (.cells #[.int .i64 ((rd_T48 l0_2 x59_3).f0), .int .i64 ((rd_T48 l0_2 x59_3).f1)] 48 (0, 0))) := ⟨q4_3⟩
              have n2_ : Aside0 (Below w.heap.size w ((w36.setCell ⟨gb159, 0, none⟩ (.int .i64 ((rd_T48 l0_2 x59_3).f0))).setCell ⟨gb159, 1, none⟩ (.int .i64 ((rd_T48 l0_2 x59_3).f1)))) := ⟨q4_2⟩
              (try clear BK155)
              (try clear BK159)
              (try clear HB)
              generalize ((w36.setCell ⟨gb159, 0, none⟩ (.int .i64 ((rd_T48 l0_2 x59_3).f0))).setCell ⟨gb159, 1, none⟩ (.int .i64 ((rd_T48 l0_2 x59_3).f1))) = w39 at n0_ n1_ n2_ ⊢
              have BK155 := n0_
              have BK159 := n1_
              have HB := n2_
              clear n0_ n1_ n2_
              have n0_ := Aside0.mk (blk_drew BK155.out)
              have n1_ := Aside0.mk (blk_drew BK159.out)
              have n2_ := Aside0.mk (below_drew1 HB.out)
              clear BK155
              clear BK159
              clear HB
              have BK155 := n0_
              have BK159 := n1_
              have HB := n2_
              clear n0_ n1_ n2_
              refine start_ (n := 35) (S := fun w' => w'.cell? ⟨gb159, 0, none⟩ = some (.int .i64 ((rd_T48 l0_2 x59_3).f0)) ∧ w'.cell? ⟨gb159, 1, none⟩ = some (.int .i64 ((rd_T48 l0_2 x59_3).f1)) ∧ w'.cell? ⟨gb155, 0, none⟩ = some (.int .i64 a0_0) ∧ w'.cell? ⟨gb155, 1, none⟩ = some (.slice A0_1 l0_1.length c0_1) ∧ w'.cell? ⟨gb155, 2, none⟩ = some (.slice (some ad158) l0_2.length c0_2)) (ds := []) #[F,F,F,F,F,F,F,F,F,F,F,F,F,F,F,F,F,F,F,F,F,F,F,F,F,F,F,F,F,F,F,F,F,F,F] q4_9 rfl rfl ⟨(blk_cell BK159.out 0).trans rfl, (blk_cell BK159.out 1).trans rfl, (blk_cell BK155.out 0).trans rfl, (blk_cell BK155.out 1).trans rfl, (blk_cell BK155.out 2).trans rfl⟩ (fun hHeld => ?_); refine with_tabW spec_AgesOk.tab12 spec_AgesOk.bits12 (fun HT_ HW_ => ?_)
              generalize w39.drew = w40 at BK155 BK159 HB hHeld ⊢
              refine q4_p 0 64 #[T,F,F,F,F,F,F,F,F,F,F,F,F,F,F,F,F,F,F,F,F,F,F,F,F,F,F,F,F,F,F,F,F,F,F] ?_
              refine take_ (i := 1) (N := some 65) (v := ?_) (a' := ?_) #[T,T,F,F,F,F,F,F,F,F,F,F,F,F,F,F,F,F,F,F,F,F,F,F,F,F,F,F,F,F,F,F,F,F,F] rfl rfl (take_ofW HT_.out HW_.out q4_9) (fun _ _ _ h => h) (Or.inl ⟨by rfl, ?_⟩) hHeld ?_ ?_
              rotate_left
              ·rintro w' ⟨s0, s1, s2, s3, s4⟩
               go_simp
               with_reducible rfl
              rotate_left
              ·simp only [Act.put, List.setIfInBounds_toArray, List.set_cons_zero, List.set_cons_succ, i64_w, i32_w]
               rfl
              refine q4_p 2 66 #[T,T,T,F,F,F,F,F,F,F,F,F,F,F,F,F,F,F,F,F,F,F,F,F,F,F,F,F,F,F,F,F,F,F,F] ?_
              refine q4_p 3 67 #[T,T,T,T,F,F,F,F,F,F,F,F,F,F,F,F,F,F,F,F,F,F,F,F,F,F,F,F,F,F,F,F,F,F,F] ?_
              refine q4_p 4 68 #[T,T,T,T,T,F,F,F,F,F,F,F,F,F,F,F,F,F,F,F,F,F,F,F,F,F,F,F,F,F,F,F,F,F,F] ?_
              refine q4_p 6 70 #[T,T,T,T,T,F,T,F,F,F,F,F,F,F,F,F,F,F,F,F,F,F,F,F,F,F,F,F,F,F,F,F,F,F,F] ?_
              refine take_ (i := 5) (N := some 69) (v := ?_) (a' := ?_) #[T,T,T,T,T,T,T,F,F,F,F,F,F,F,F,F,F,F,F,F,F,F,F,F,F,F,F,F,F,F,F,F,F,F,F] rfl rfl (take_ofW HT_.out HW_.out q4_9) (fun _ _ _ h => h) (Or.inl ⟨by rfl, ?_⟩) hHeld ?_ ?_
              rotate_left
              ·rintro w' ⟨s0, s1, s2, s3, s4⟩
               go_simp
               with_reducible rfl
              rotate_left
              ·simp only [Act.put, List.setIfInBounds_toArray, List.set_cons_zero, List.set_cons_succ, i64_w, i32_w]
               rfl
              refine take_ (i := 7) (N := some 71) (v := ?_) (a' := ?_) #[T,T,T,T,T,T,T,T,F,F,F,F,F,F,F,F,F,F,F,F,F,F,F,F,F,F,F,F,F,F,F,F,F,F,F] rfl rfl (take_ofW HT_.out HW_.out q4_9) (fun _ _ _ h => h) (Or.inl ⟨by rfl, ?_⟩) hHeld ?_ ?_
              rotate_left
              ·rintro w' ⟨s0, s1, s2, s3, s4⟩
               go_simp
               with_reducible rfl
              rotate_left
              ·simp only [Act.put, List.setIfInBounds_toArray, List.set_cons_zero, List.set_cons_succ, i64_w, i32_w]
               rfl
              refine q4_p 8 72 #[T,T,T,T,T,T,T,T,T,F,F,F,F,F,F,F,F,F,F,F,F,F,F,F,F,F,F,F,F,F,F,F,F,F,F] ?_
              refine q4_p 9 73 #[T,T,T,T,T,T,T,T,T,T,F,F,F,F,F,F,F,F,F,F,F,F,F,F,F,F,F,F,F,F,F,F,F,F,F] ?_
              refine q4_p 10 74 #[T,T,T,T,T,T,T,T,T,T,T,F,F,F,F,F,F,F,F,F,F,F,F,F,F,F,F,F,F,F,F,F,F,F,F] ?_
              refine q4_u 11 75 #[T,T,T,T,T,T,T,T,T,T,T,T,F,F,F,F,F,F,F,F,F,F,F,F,F,F,F,F,F,F,F,F,F,F,F] ?_
              refine q4_u 12 76 #[T,T,T,T,T,T,T,T,T,T,T,T,T,F,F,F,F,F,F,F,F,F,F,F,F,F,F,F,F,F,F,F,F,F,F] ?_
              refine q4_u 13 77 #[T,T,T,T,T,T,T,T,T,T,T,T,T,T,F,F,F,F,F,F,F,F,F,F,F,F,F,F,F,F,F,F,F,F,F] ?_
              refine q4_u 14 78 #[T,T,T,T,T,T,T,T,T,T,T,T,T,T,T,F,F,F,F,F,F,F,F,F,F,F,F,F,F,F,F,F,F,F,F] ?_
              refine q4_u 15 79 #[T,T,T,T,T,T,T,T,T,T,T,T,T,T,T,T,F,F,F,F,F,F,F,F,F,F,F,F,F,F,F,F,F,F,F] ?_
              refine q4_u 16 80 #[T,T,T,T,T,T,T,T,T,T,T,T,T,T,T,T,T,F,F,F,F,F,F,F,F,F,F,F,F,F,F,F,F,F,F] ?_
              refine q4_u 17 81 #[T,T,T,T,T,T,T,T,T,T,T,T,T,T,T,T,T,T,F,F,F,F,F,F,F,F,F,F,F,F,F,F,F,F,F] ?_
              refine q4_u 18 82 #[T,T,T,T,T,T,T,T,T,T,T,T,T,T,T,T,T,T,T,F,F,F,F,F,F,F,F,F,F,F,F,F,F,F,F] ?_
              refine q4_u 19 83 #[T,T,T,T,T,T,T,T,T,T,T,T,T,T,T,T,T,T,T,T,F,F,F,F,F,F,F,F,F,F,F,F,F,F,F] ?_
              refine q4_u 20 84 #[T,T,T,T,T,T,T,T,T,T,T,T,T,T,T,T,T,T,T,T,T,F,F,F,F,F,F,F,F,F,F,F,F,F,F] ?_
              refine q4_u 21 85 #[T,T,T,T,T,T,T,T,T,T,T,T,T,T,T,T,T,T,T,T,T,T,F,F,F,F,F,F,F,F,F,F,F,F,F] ?_
              refine q4_u 22 86 #[T,T,T,T,T,T,T,T,T,T,T,T,T,T,T,T,T,T,T,T,T,T,T,F,F,F,F,F,F,F,F,F,F,F,F] ?_
              refine q4_u 23 87 #[T,T,T,T,T,T,T,T,T,T,T,T,T,T,T,T,T,T,T,T,T,T,T,T,F,F,F,F,F,F,F,F,F,F,F] ?_
              refine q4_u 24 88 #[T,T,T,T,T,T,T,T,T,T,T,T,T,T,T,T,T,T,T,T,T,T,T,T,T,F,F,F,F,F,F,F,F,F,F] ?_
              refine q4_p 25 89 #[T,T,T,T,T,T,T,T,T,T,T,T,T,T,T,T,T,T,T,T,T,T,T,T,T,T,F,F,F,F,F,F,F,F,F] ?_
              refine q4_p 26 90 #[T,T,T,T,T,T,T,T,T,T,T,T,T,T,T,T,T,T,T,T,T,T,T,T,T,T,T,F,F,F,F,F,F,F,F] ?_
              refine q4_u 27 91 #[T,T,T,T,T,T,T,T,T,T,T,T,T,T,T,T,T,T,T,T,T,T,T,T,T,T,T,T,F,F,F,F,F,F,F] ?_
              refine q4_u 28 92 #[T,T,T,T,T,T,T,T,T,T,T,T,T,T,T,T,T,T,T,T,T,T,T,T,T,T,T,T,T,F,F,F,F,F,F] ?_
              refine q4_u 29 93 #[T,T,T,T,T,T,T,T,T,T,T,T,T,T,T,T,T,T,T,T,T,T,T,T,T,T,T,T,T,T,F,F,F,F,F] ?_
              refine q4_u 30 94 #[T,T,T,T,T,T,T,T,T,T,T,T,T,T,T,T,T,T,T,T,T,T,T,T,T,T,T,T,T,T,T,F,F,F,F] ?_
              refine q4_u 31 95 #[T,T,T,T,T,T,T,T,T,T,T,T,T,T,T,T,T,T,T,T,T,T,T,T,T,T,T,T,T,T,T,T,F,F,F] ?_
              refine q4_u 32 96 #[T,T,T,T,T,T,T,T,T,T,T,T,T,T,T,T,T,T,T,T,T,T,T,T,T,T,T,T,T,T,T,T,T,F,F] ?_
              refine q4_u 33 97 #[T,T,T,T,T,T,T,T,T,T,T,T,T,T,T,T,T,T,T,T,T,T,T,T,T,T,T,T,T,T,T,T,T,T,F] ?_
              refine q4_p 34 98 #[T,T,T,T,T,T,T,T,T,T,T,T,T,T,T,T,T,T,T,T,T,T,T,T,T,T,T,T,T,T,T,T,T,T,T] ?_
              refine done_ (done_of HT_.out q4_9) ?_
              try go_wp2
              go_ret
              exact ⟨q4_10, q4_2⟩
             ·rw [if_neg c35] at H
              have c35b0 : decide (a0_0 < ((rd_T48 l0_2 x59_3).f1)) = false := decide_eq_false c35
              clear c35
              by_cases c41 : x59_3 > 0
              ·rw [if_pos c41] at H
               have c41b0 : decide (0 < x59_3) = true := decide_eq_true c41
               clear c41
               obtain ⟨ji42, hji42⟩ : ∃ j_ : Int, (wrap64 (x59_3 - 1)) = j_ := ⟨_, rfl⟩
               replace H : (if 0 ≤ (ji42) then (if (ji42) < (l0_2.length : Int) then (if ((rd_T48 l0_2 (ji42)).f1) > ((rd_T48 l0_2 x59_3).f1) then (some false) else (if x59_3 ≤ (l0_2.length : Int) then ((spec_l06Node.f k3 (l0_2.take (x59_3 : Int).toNat) ((rd_T48 l0_2 x59_3).f0)).bind fun t165 => (if t165 = true then (some false) else (spec_AgesOk.l1 k3 l0_2 (l0_2.length : Int) (wrap64 (x59_3 + 1)) a0_0 l0_1 l0_2))) else (none))) else (none)) else (none)) = some r := by first | (rw [hji42] at H; exact H) | (simp only [hji42] at H ⊢; exact H)
               have hji42w : (IntKind.i64.wrap (x59_3 - 1)) = ji42 := (i64_w _).trans hji42
               by_cases c43 : 0 ≤ (ji42)
               ·rw [if_pos c43] at H
                have c43b0 : decide (0 ≤ (ji42)) = true := decide_eq_true c43
                clear c43
                by_cases c44 : (ji42) < (l0_2.length : Int)
                ·rw [if_pos c44] at H
                 have c44b0 : decide ((ji42) < (l0_2.length : Int)) = true := decide_eq_true c44
                 clear c44
                 by_cases c45 : ((rd_T48 l0_2 (ji42)).f1) > ((rd_T48 l0_2 x59_3).f1)
                 ·rw [if_pos c45] at H
                  have c45b0 : decide (((rd_T48 l0_2 x59_3).f1) < ((rd_T48 l0_2 (ji42)).f1)) = true := decide_eq_true c45
                  clear c45
                  obtain rfl := Option.some.inj H
                  have p158 : 0 ≤ (x59_3 : Int) := of_decide_eq_true q4_5
                  have q158 : x59_3 < (l0_2.length : Int) := of_decide_eq_true q4_5
                  obtain ⟨ad158, e158, hx158_0, hx158_1⟩ := at_T48 HR0_2.out x59_3 p158 q158
                  cases e158
                  replace hx158_0 := (HB.out.cell (World.block_lt_of_cell? w _ hx158_0)).trans hx158_0
                  replace hx158_1 := (HB.out.cell (World.block_lt_of_cell? w _ hx158_1)).trans hx158_1
                  replace p158 := eq_true p158
                  replace q158 := eq_true q158
                  try go_wp2_with (first | ((with_reducible refine gate_dst (N := 6) rfl ?_); (try (refine gate_guard (by rfl) ?_; dsimp only)); refine box_event ?hg (N := 6) ?hd (cs := #[.int .i64 0, .int .i64 0]) (t := 48) ?hr ?_; (case hd => rfl); (case hg => rfl); (case hr => first | (go_simp; done) | (go_simp; rfl)); intro gb159 hg w46 hbox hb; have n0_ := Aside0.mk (blk_below (g := gb155) (o := .cells #[.int .i64 a0_0, .slice A0_1 l0_1.length c0_1, .slice (some ad158) l0_2.length c0_2] 30 (0, 0)) q4_1 hb); have n1_ := Aside0.mk (below_step q4_0 hb); have n2_ := Aside0.mk (hbox); have n3_ := Aside0.mk ((q4_12 : w.heap.size ≤ gb159)); have n4_ := Aside0.mk ((q4_12 : w.heap.size ≤ gb159)); have n5_ := Aside0.mk ((q4_6 : gb155 ≠ gb159)); have n6_ := Aside0.mk ((q4_7 : gb159 ≠ gb155)); clear BK155; clear HB; have BK155 := n0_; have HB := n1_; have BK159 := n2_; have GW159 := n3_; have GE159 := n4_; have NB155_159 := n5_; have NB159_155 := n6_; clear n0_ n1_ n2_ n3_ n4_ n5_ n6_; clear hb hbox hg; have hnb47 := NB159_155.out; have hnc47 := NB155_159.out; have hcz48_0 : w46.cell? ⟨gb159, 0, none⟩ = some (.int .i64 0) := (blk_cell BK159.out 0).trans rfl; have hcz48_1 : w46.cell? ⟨gb159, 1, none⟩ = some (.int .i64 0) := (blk_cell BK159.out 1).trans rfl; have hfz48_0 := blk_frozen BK159.out 0; have hfz48_1 := blk_frozen BK159.out 1))
                  have n0_ : Aside0 (((w46.setCell ⟨gb159, 0, none⟩ (.int .i64 ((rd_T48 l0_2 x59_3).f0))).setCell ⟨gb159, 1, none⟩ (.int .i64 ((rd_T48 l0_2 x59_3).f1))).heap[gb155]? = some (.cells #[.int .i64 a0_0, .slice A0_1 l0_1.length c0_1, .slice (some ad158) l0_2.length c0_2] 30 (0, 0))) := ⟨q4_4⟩
                  have n1_ : Aside0 (((w46.setCell ⟨gb159, 0, none⟩ (.int .i64 ((rd_T48 l0_2 x59_3).f0))).setCell ⟨gb159, 1, none⟩ (.int .i64 ((rd_T48 l0_2 x59_3).f1))).heap[gb159]? = some (.cells #[.int .i64 ((rd_T48 l0_2 x59_3).f0), .int .i64 ((rd_T48 l0_2 x59_3).f1)] 48 (0, 0))) := ⟨q4_3⟩
                  have n2_ : Aside0 (Below w.heap.size w ((w46.setCell ⟨gb159, 0, none⟩ (.int .i64 ((rd_T48 l0_2 x59_3).f0))).setCell ⟨gb159, 1, none⟩ (.int .i64 ((rd_T48 l0_2 x59_3).f1)))) := ⟨q4_2⟩
                  (try clear BK155)
                  (try clear BK159)
                  (try clear HB)
                  generalize ((w46.setCell ⟨gb159, 0, none⟩ (.int .i64 ((rd_T48 l0_2 x59_3).f0))).setCell ⟨gb159, 1, none⟩ (.int .i64 ((rd_T48 l0_2 x59_3).f1))) = w49 at n0_ n1_ n2_ ⊢
                  have BK155 := n0_
                  have BK159 := n1_
                  have HB := n2_
                  clear n0_ n1_ n2_
                  have n0_ := Aside0.mk (blk_drew BK155.out)
                  have n1_ := Aside0.mk (blk_drew BK159.out)
                  have n2_ := Aside0.mk (below_drew1 HB.out)
                  clear BK155
                  clear BK159
                  clear HB
                  have BK155 := n0_
                  have BK159 := n1_
                  have HB := n2_
                  clear n0_ n1_ n2_
                  have p160 : 0 ≤ ((ji42) : Int) := of_decide_eq_true q4_5
                  have q160 : (ji42) < (l0_2.length : Int) := of_decide_eq_true q4_5
                  obtain ⟨ad160, e160, hx160_0, hx160_1⟩ := at_T48 HR0_2.out (ji42) p160 q160
                  have hw160_1 := hx160_1
                  have hw160_0 := hx160_0
                  obtain rfl : ad158 = ad160 := (by injection e160)
                  replace hx160_0 := (HB.out.cell (World.block_lt_of_cell? w _ hx160_0)).trans hx160_0
                  replace hx160_1 := (HB.out.cell (World.block_lt_of_cell? w _ hx160_1)).trans hx160_1
                  replace p160 := eq_true p160
                  replace q160 := eq_true q160
                  refine start_ (n := 35) (S := fun w' => w'.cell? ⟨gb159, 0, none⟩ = some (.int .i64 ((rd_T48 l0_2 x59_3).f0)) ∧ w'.cell? ⟨gb159, 1, none⟩ = some (.int .i64 ((rd_T48 l0_2 x59_3).f1)) ∧ w'.cell? ⟨gb155, 0, none⟩ = some (.int .i64 a0_0) ∧ w'.cell? ⟨gb155, 1, none⟩ = some (.slice A0_1 l0_1.length c0_1) ∧ w'.cell? ⟨gb155, 2, none⟩ = some (.slice (some ad158) l0_2.length c0_2) ∧ w'.cell? (ad158.add (((ji42)).toNat * 2)) = some (.int .i64 ((rd_T48 l0_2 (ji42)).f0)) ∧ w'.cell? ⟨(ad158.add (((ji42)).toNat * 2)).block, (ad158.add (((ji42)).toNat * 2)).off + 1, none⟩ = some (.int .i64 ((rd_T48 l0_2 (ji42)).f1))) (ds := []) #[F,F,F,F,F,F,F,F,F,F,F,F,F,F,F,F,F,F,F,F,F,F,F,F,F,F,F,F,F,F,F,F,F,F,F] q4_9 rfl rfl ⟨(blk_cell BK159.out 0).trans rfl, (blk_cell BK159.out 1).trans rfl, (blk_cell BK155.out 0).trans rfl, (blk_cell BK155.out 1).trans rfl, (blk_cell BK155.out 2).trans rfl, ((HB.out.cell (World.block_lt_of_cell? w _ hw160_0)).trans hw160_0), ((HB.out.cell (World.block_lt_of_cell? w _ hw160_1)).trans hw160_1)⟩ (fun hHeld => ?_); refine with_tabW spec_AgesOk.tab12 spec_AgesOk.bits12 (fun HT_ HW_ => ?_)
                  generalize w49.drew = w50 at BK155 BK159 HB hx160_0 hx160_1 hHeld ⊢
                  refine q4_p 0 64 #[T,F,F,F,F,F,F,F,F,F,F,F,F,F,F,F,F,F,F,F,F,F,F,F,F,F,F,F,F,F,F,F,F,F,F] ?_
                  refine take_ (i := 1) (N := some 65) (v := ?_) (a' := ?_) #[T,T,F,F,F,F,F,F,F,F,F,F,F,F,F,F,F,F,F,F,F,F,F,F,F,F,F,F,F,F,F,F,F,F,F] rfl rfl (take_ofW HT_.out HW_.out q4_9) (fun _ _ _ h => h) (Or.inl ⟨by rfl, ?_⟩) hHeld ?_ ?_
                  rotate_left
                  ·rintro w' ⟨s0, s1, s2, s3, s4, s5, s6⟩
                   go_simp
                   with_reducible rfl
                  rotate_left
                  ·simp only [Act.put, List.setIfInBounds_toArray, List.set_cons_zero, List.set_cons_succ, i64_w, i32_w]
                   rfl
                  refine q4_p 2 66 #[T,T,T,F,F,F,F,F,F,F,F,F,F,F,F,F,F,F,F,F,F,F,F,F,F,F,F,F,F,F,F,F,F,F,F] ?_
                  refine q4_p 3 67 #[T,T,T,T,F,F,F,F,F,F,F,F,F,F,F,F,F,F,F,F,F,F,F,F,F,F,F,F,F,F,F,F,F,F,F] ?_
                  refine q4_p 4 68 #[T,T,T,T,T,F,F,F,F,F,F,F,F,F,F,F,F,F,F,F,F,F,F,F,F,F,F,F,F,F,F,F,F,F,F] ?_
                  refine q4_p 6 70 #[T,T,T,T,T,F,T,F,F,F,F,F,F,F,F,F,F,F,F,F,F,F,F,F,F,F,F,F,F,F,F,F,F,F,F] ?_
                  refine take_ (i := 5) (N := some 69) (v := ?_) (a' := ?_) #[T,T,T,T,T,T,T,F,F,F,F,F,F,F,F,F,F,F,F,F,F,F,F,F,F,F,F,F,F,F,F,F,F,F,F] rfl rfl (take_ofW HT_.out HW_.out q4_9) (fun _ _ _ h => h) (Or.inl ⟨by rfl, ?_⟩) hHeld ?_ ?_
                  rotate_left
                  ·rintro w' ⟨s0, s1, s2, s3, s4, s5, s6⟩
                   go_simp
                   with_reducible rfl
                  rotate_left
                  ·simp only [Act.put, List.setIfInBounds_toArray, List.set_cons_zero, List.set_cons_succ, i64_w, i32_w]
                   rfl
                  refine take_ (i := 7) (N := some 71) (v := ?_) (a' := ?_) #[T,T,T,T,T,T,T,T,F,F,F,F,F,F,F,F,F,F,F,F,F,F,F,F,F,F,F,F,F,F,F,F,F,F,F] rfl rfl (take_ofW HT_.out HW_.out q4_9) (fun _ _ _ h => h) (Or.inl ⟨by rfl, ?_⟩) hHeld ?_ ?_
                  rotate_left
                  ·rintro w' ⟨s0, s1, s2, s3, s4, s5, s6⟩
                   go_simp
                   with_reducible rfl
                  rotate_left
                  ·simp only [Act.put, List.setIfInBounds_toArray, List.set_cons_zero, List.set_cons_succ, i64_w, i32_w]
                   rfl
                  refine q4_p 8 72 #[T,T,T,T,T,T,T,T,T,F,F,F,F,F,F,F,F,F,F,F,F,F,F,F,F,F,F,F,F,F,F,F,F,F,F] ?_
                  refine q4_p 9 73 #[T,T,T,T,T,T,T,T,T,T,F,F,F,F,F,F,F,F,F,F,F,F,F,F,F,F,F,F,F,F,F,F,F,F,F] ?_
                  refine q4_p 10 74 #[T,T,T,T,T,T,T,T,T,T,T,F,F,F,F,F,F,F,F,F,F,F,F,F,F,F,F,F,F,F,F,F,F,F,F] ?_
                  refine q4_p 11 75 #[T,T,T,T,T,T,T,T,T,T,T,T,F,F,F,F,F,F,F,F,F,F,F,F,F,F,F,F,F,F,F,F,F,F,F] ?_
                  refine q4_p 12 76 #[T,T,T,T,T,T,T,T,T,T,T,T,T,F,F,F,F,F,F,F,F,F,F,F,F,F,F,F,F,F,F,F,F,F,F] ?_
                  refine q4_p 13 77 #[T,T,T,T,T,T,T,T,T,T,T,T,T,T,F,F,F,F,F,F,F,F,F,F,F,F,F,F,F,F,F,F,F,F,F] ?_
                  refine q4_p 14 78 #[T,T,T,T,T,T,T,T,T,T,T,T,T,T,T,F,F,F,F,F,F,F,F,F,F,F,F,F,F,F,F,F,F,F,F] ?_
                  refine q4_p 16 80 #[T,T,T,T,T,T,T,T,T,T,T,T,T,T,T,F,T,F,F,F,F,F,F,F,F,F,F,F,F,F,F,F,F,F,F] ?_
                  refine q4_p 17 81 #[T,T,T,T,T,T,T,T,T,T,T,T,T,T,T,F,T,T,F,F,F,F,F,F,F,F,F,F,F,F,F,F,F,F,F] ?_
                  refine q4_p 21 85 #[T,T,T,T,T,T,T,T,T,T,T,T,T,T,T,F,T,T,F,F,F,T,F,F,F,F,F,F,F,F,F,F,F,F,F] ?_
                  refine take_ (i := 15) (N := some 79) (v := ?_) (a' := ?_) #[T,T,T,T,T,T,T,T,T,T,T,T,T,T,T,T,T,T,F,F,F,T,F,F,F,F,F,F,F,F,F,F,F,F,F] rfl rfl (take_ofW HT_.out HW_.out q4_9) (fun _ _ _ h => h) (Or.inl ⟨by rfl, ?_⟩) hHeld ?_ ?_
                  rotate_left
                  ·rintro w' ⟨s0, s1, s2, s3, s4, s5, s6⟩
                   go_simp
                   with_reducible rfl
                  rotate_left
                  ·simp only [Act.put, List.setIfInBounds_toArray, List.set_cons_zero, List.set_cons_succ, i64_w, i32_w]
                   rfl
                  refine q4_p 18 82 #[T,T,T,T,T,T,T,T,T,T,T,T,T,T,T,T,T,T,T,F,F,T,F,F,F,F,F,F,F,F,F,F,F,F,F] ?_
                  refine q4_p 19 83 #[T,T,T,T,T,T,T,T,T,T,T,T,T,T,T,T,T,T,T,T,F,T,F,F,F,F,F,F,F,F,F,F,F,F,F] ?_
                  refine take_ (i := 20) (N := some 84) (v := ?_) (a' := ?_) #[T,T,T,T,T,T,T,T,T,T,T,T,T,T,T,T,T,T,T,T,T,T,F,F,F,F,F,F,F,F,F,F,F,F,F] rfl rfl (take_ofW HT_.out HW_.out q4_9) (fun _ _ _ h => h) (Or.inl ⟨by rfl, ?_⟩) hHeld ?_ ?_
                  rotate_left
                  ·rintro w' ⟨s0, s1, s2, s3, s4, s5, s6⟩
                   go_simp
                   with_reducible rfl
                  rotate_left
                  ·simp only [Act.put, List.setIfInBounds_toArray, List.set_cons_zero, List.set_cons_succ, i64_w, i32_w]
                   rfl
                  refine take_ (i := 22) (N := some 86) (v := ?_) (a' := ?_) #[T,T,T,T,T,T,T,T,T,T,T,T,T,T,T,T,T,T,T,T,T,T,T,F,F,F,F,F,F,F,F,F,F,F,F] rfl rfl (take_ofW HT_.out HW_.out q4_9) (fun _ _ _ h => h) (Or.inl ⟨by rfl, ?_⟩) hHeld ?_ ?_
                  rotate_left
                  ·rintro w' ⟨s0, s1, s2, s3, s4, s5, s6⟩
                   go_simp
                   with_reducible rfl
                  rotate_left
                  ·simp only [Act.put, List.setIfInBounds_toArray, List.set_cons_zero, List.set_cons_succ, i64_w, i32_w]
                   rfl
                  refine q4_p 23 87 #[T,T,T,T,T,T,T,T,T,T,T,T,T,T,T,T,T,T,T,T,T,T,T,T,F,F,F,F,F,F,F,F,F,F,F] ?_
                  refine q4_p 24 88 #[T,T,T,T,T,T,T,T,T,T,T,T,T,T,T,T,T,T,T,T,T,T,T,T,T,F,F,F,F,F,F,F,F,F,F] ?_
                  refine q4_p 25 89 #[T,T,T,T,T,T,T,T,T,T,T,T,T,T,T,T,T,T,T,T,T,T,T,T,T,T,F,F,F,F,F,F,F,F,F] ?_
                  refine q4_p 26 90 #[T,T,T,T,T,T,T,T,T,T,T,T,T,T,T,T,T,T,T,T,T,T,T,T,T,T,T,F,F,F,F,F,F,F,F] ?_
                  refine q4_u 27 91 #[T,T,T,T,T,T,T,T,T,T,T,T,T,T,T,T,T,T,T,T,T,T,T,T,T,T,T,T,F,F,F,F,F,F,F] ?_
                  refine q4_u 28 92 #[T,T,T,T,T,T,T,T,T,T,T,T,T,T,T,T,T,T,T,T,T,T,T,T,T,T,T,T,T,F,F,F,F,F,F] ?_
                  refine q4_u 29 93 #[T,T,T,T,T,T,T,T,T,T,T,T,T,T,T,T,T,T,T,T,T,T,T,T,T,T,T,T,T,T,F,F,F,F,F] ?_
                  refine q4_u 30 94 #[T,T,T,T,T,T,T,T,T,T,T,T,T,T,T,T,T,T,T,T,T,T,T,T,T,T,T,T,T,T,T,F,F,F,F] ?_
                  refine q4_u 31 95 #[T,T,T,T,T,T,T,T,T,T,T,T,T,T,T,T,T,T,T,T,T,T,T,T,T,T,T,T,T,T,T,T,F,F,F] ?_
                  refine q4_u 32 96 #[T,T,T,T,T,T,T,T,T,T,T,T,T,T,T,T,T,T,T,T,T,T,T,T,T,T,T,T,T,T,T,T,T,F,F] ?_
                  refine q4_u 33 97 #[T,T,T,T,T,T,T,T,T,T,T,T,T,T,T,T,T,T,T,T,T,T,T,T,T,T,T,T,T,T,T,T,T,T,F] ?_
                  refine q4_p 34 98 #[T,T,T,T,T,T,T,T,T,T,T,T,T,T,T,T,T,T,T,T,T,T,T,T,T,T,T,T,T,T,T,T,T,T,T] ?_
                  refine done_ (done_of HT_.out q4_9) ?_
                  try go_wp2
                  go_ret
                  exact ⟨by first | rfl | (simp [errW_none, errW_some] <;> rfl) | (simp only [← hji42]; first | rfl | (simp [errW_none, errW_some] <;> rfl)) | (simp [*, errW_none, errW_some] <;> rfl), q4_2⟩
                 ·rw [if_neg c45] at H
                  have c45b0 : decide (((rd_T48 l0_2 x59_3).f1) < ((rd_T48 l0_2 (ji42)).f1)) = false := decide_eq_false c45
                  clear c45
                  have c51b0 := eq_true (of_decide_eq_true q4_5 : 0 ≤ x59_3)
                  by_cases c52 : x59_3 ≤ (l0_2.length : Int)
                  ·rw [if_pos c52] at H
                   have c52b0 := eq_true c52
                   have c52b1 : decide (x59_3 ≤ (l0_2.length : Int)) = true := decide_eq_true c52
                   clear c52
                   obtain ⟨y161, hy161⟩ : ∃ y_ : List (S48), y_ = (l0_2.take (x59_3 : Int).toNat) := ⟨_, rfl⟩
                   replace H : ((spec_l06Node.f k3 y161 ((rd_T48 l0_2 x59_3).f0)).bind fun t165 => (if t165 = true then (some false) else (spec_AgesOk.l1 k3 l0_2 (l0_2.length : Int) (wrap64 (x59_3 + 1)) a0_0 l0_1 l0_2))) = some r := by first | (rw [hy161]; with_reducible exact H) | (have H2_ := (Option.bind_some _ _).symm.trans H; rw [hy161]; with_reducible exact H2_) | (have H2_ := (Option.bind_some _ _).symm.trans H; with_reducible exact H2_) | with_reducible exact H | (rw [hy161]; exact H) | exact H
                   have Ny161 := Aside0.mk hy161
                   clear hy161
                   replace H := Option.bind_eq_some_iff.mp H
                   obtain ⟨t165, A530, H⟩ := H
                   replace H : (if t165 = true then (some false) else (spec_AgesOk.l1 k3 l0_2 (l0_2.length : Int) (wrap64 (x59_3 + 1)) a0_0 l0_1 l0_2)) = some r := H
                   have A53 := Aside0.mk A530
                   clear A530
                   by_cases c54 : t165 = true
                   ·subst c54
                    have H1 : (some false) = some r := by rw [if_pos rfl] at H; exact H
                    clear H
                    have H := H1
                    clear H1
                    obtain rfl := Option.some.inj H
                    have p158 : 0 ≤ (x59_3 : Int) := of_decide_eq_true q4_5
                    have q158 : x59_3 < (l0_2.length : Int) := of_decide_eq_true q4_5
                    obtain ⟨ad158, e158, hx158_0, hx158_1⟩ := at_T48 HR0_2.out x59_3 p158 q158
                    cases e158
                    replace hx158_0 := (HB.out.cell (World.block_lt_of_cell? w _ hx158_0)).trans hx158_0
                    replace hx158_1 := (HB.out.cell (World.block_lt_of_cell? w _ hx158_1)).trans hx158_1
                    replace p158 := eq_true p158
                    replace q158 := eq_true q158
                    try go_wp2_with (first | ((with_reducible refine gate_dst (N := 6) rfl ?_); (try (refine gate_guard (by rfl) ?_; dsimp only)); refine box_event ?hg (N := 6) ?hd (cs := #[.int .i64 0, .int .i64 0]) (t := 48) ?hr ?_; (case hd => rfl); (case hg => rfl); (case hr => first | (go_simp; done) | (go_simp; rfl)); intro gb159 hg w55 hbox hb; have n0_ := Aside0.mk (blk_below (g := gb155) (o := .cells #[.int .i64 a0_0, .slice A0_1 l0_1.length c0_1, .slice (some ad158) l0_2.length c0_2] 30 (0, 0)) q4_1 hb); have n1_ := Aside0.mk (below_step q4_0 hb); have n2_ := Aside0.mk (hbox); have n3_ := Aside0.mk ((q4_12 : w.heap.size ≤ gb159)); have n4_ := Aside0.mk ((q4_12 : w.heap.size ≤ gb159)); have n5_ := Aside0.mk ((q4_6 : gb155 ≠ gb159)); have n6_ := Aside0.mk ((q4_7 : gb159 ≠ gb155)); clear BK155; clear HB; have BK155 := n0_; have HB := n1_; have BK159 := n2_; have GW159 := n3_; have GE159 := n4_; have NB155_159 := n5_; have NB159_155 := n6_; clear n0_ n1_ n2_ n3_ n4_ n5_ n6_; clear hb hbox hg; have hnb56 := NB159_155.out; have hnc56 := NB155_159.out; have hcz57_0 : w55.cell? ⟨gb159, 0, none⟩ = some (.int .i64 0) := (blk_cell BK159.out 0).trans rfl; have hcz57_1 : w55.cell? ⟨gb159, 1, none⟩ = some (.int .i64 0) := (blk_cell BK159.out 1).trans rfl; have hfz57_0 := blk_frozen BK159.out 0; have hfz57_1 := blk_frozen BK159.out 1))
                    have n0_ : Aside0 (((w55.setCell ⟨gb159, 0, none⟩ (.int .i64 ((rd_T48 l0_2 x59_3).f0))).setCell ⟨gb159, 1, none⟩ (.int .i64 ((rd_T48 l0_2 x59_3).f1))).heap[gb155]? = some (.cells #[.int .i64 a0_0, .slice A0_1 l0_1.length c0_1, .slice (some ad158) l0_2.length c0_2] 30 (0, 0))) := ⟨q4_4⟩
                    have n1_ : Aside0 (((w55.setCell ⟨gb159, 0, none⟩ (.int .i64 ((rd_T48 l0_2 x59_3).f0))).setCell ⟨gb159, 1, none⟩ (.int .i64 ((rd_T48 l0_2 x59_3).f1))).heap[gb159]? = some (.cells #[.int .i64 ((rd_T48 l0_2 x59_3).f0), .int .i64 ((rd_T48 l0_2 x59_3).f1)] 48 (0, 0))) := ⟨q4_3⟩
                    have n2_ : Aside0 (Below w.heap.size w ((w55.setCell ⟨gb159, 0, none⟩ (.int .i64 ((rd_T48 l0_2 x59_3).f0))).setCell ⟨gb159, 1, none⟩ (.int .i64 ((rd_T48 l0_2 x59_3).f1)))) := ⟨q4_2⟩
                    (try clear BK155)
                    (try clear BK159)
                    (try clear HB)
                    generalize ((w55.setCell ⟨gb159, 0, none⟩ (.int .i64 ((rd_T48 l0_2 x59_3).f0))).setCell ⟨gb159, 1, none⟩ (.int .i64 ((rd_T48 l0_2 x59_3).f1))) = w58 at n0_ n1_ n2_ ⊢
                    have BK155 := n0_
                    have BK159 := n1_
                    have HB := n2_
                    clear n0_ n1_ n2_
                    have n0_ := Aside0.mk (blk_drew BK155.out)
                    have n1_ := Aside0.mk (blk_drew BK159.out)
                    have n2_ := Aside0.mk (below_drew1 HB.out)
                    clear BK155
                    clear BK159
                    clear HB
                    have BK155 := n0_
                    have BK159 := n1_
                    have HB := n2_
                    clear n0_ n1_ n2_
                    have p160 : 0 ≤ ((ji42) : Int) := of_decide_eq_true q4_5
                    have q160 : (ji42) < (l0_2.length : Int) := of_decide_eq_true q4_5
                    obtain ⟨ad160, e160, hx160_0, hx160_1⟩ := at_T48 HR0_2.out (ji42) p160 q160
                    have hw160_1 := hx160_1
                    have hw160_0 := hx160_0
                    obtain rfl : ad158 = ad160 := (by injection e160)
                    replace hx160_0 := (HB.out.cell (World.block_lt_of_cell? w _ hx160_0)).trans hx160_0
                    replace hx160_1 := (HB.out.cell (World.block_lt_of_cell? w _ hx160_1)).trans hx160_1
                    replace p160 := eq_true p160
                    replace q160 := eq_true q160
                    have q60 : (x59_3 : Int) ≤ ((l0_2.length : Int) : Int) := of_decide_eq_true q4_5
                    obtain ⟨i060, hi060, _, hsz60, _⟩ := info_parts info48
                    have hroom60 : l0_2.length ≤ c0_2 := HC0_2.out
                    have hC60 : Kd.C k48 _ (some ad158) l0_2.length l0_2 := HR0_2.out
                    have hcut60 := cut_to (P := Try.prog) 28 48 .i64 Try.underlying28 hi060 (some ad158) l0_2.length c0_2 x59_3 (of_decide_eq_true q4_5) q60 hroom60
                    have hr60 := Kd.C_take (m := (x59_3 : Int).toNat) hC60 (by omega)
                    have hy60 : y161.length = (x59_3 : Int).toNat := (by rw [Ny161.out, List.length_take]; omega)
                    rw [← Ny161.out] at hr60
                    rw [← hy60] at hcut60
                    have HR164 := Aside0.mk hr60
                    have HC164 := Aside0.mk (show y161.length ≤ c0_2 from by omega)
                    clear hr60 hC60 hroom60 hi060 hsz60
                    have KY60 := Aside0.mk hy60
                    clear hy60
                    replace q60 := eq_true q60
                    refine start_ (n := 35) (S := fun w' => w'.cell? ⟨gb159, 0, none⟩ = some (.int .i64 ((rd_T48 l0_2 x59_3).f0)) ∧ w'.cell? ⟨gb159, 1, none⟩ = some (.int .i64 ((rd_T48 l0_2 x59_3).f1)) ∧ w'.cell? ⟨gb155, 0, none⟩ = some (.int .i64 a0_0) ∧ w'.cell? ⟨gb155, 1, none⟩ = some (.slice A0_1 l0_1.length c0_1) ∧ w'.cell? ⟨gb155, 2, none⟩ = some (.slice (some ad158) l0_2.length c0_2) ∧ w'.cell? (ad158.add (((ji42)).toNat * 2)) = some (.int .i64 ((rd_T48 l0_2 (ji42)).f0)) ∧ w'.cell? ⟨(ad158.add (((ji42)).toNat * 2)).block, (ad158.add (((ji42)).toNat * 2)).off + 1, none⟩ = some (.int .i64 ((rd_T48 l0_2 (ji42)).f1))) (ds := []) #[F,F,F,F,F,F,F,F,F,F,F,F,F,F,F,F,F,F,F,F,F,F,F,F,F,F,F,F,F,F,F,F,F,F,F] q4_9 rfl rfl ⟨(blk_cell BK159.out 0).trans rfl, (blk_cell BK159.out 1).trans rfl, (blk_cell BK155.out 0).trans rfl, (blk_cell BK155.out 1).trans rfl, (blk_cell BK155.out 2).trans rfl, ((HB.out.cell (World.block_lt_of_cell? w _ hw160_0)).trans hw160_0), ((HB.out.cell (World.block_lt_of_cell? w _ hw160_1)).trans hw160_1)⟩ (fun hHeld => ?_); refine with_tabW spec_AgesOk.tab12 spec_AgesOk.bits12 (fun HT_ HW_ => ?_)
                    generalize w58.drew = w59 at BK155 BK159 HB HR164 hx160_0 hx160_1 hHeld ⊢
                    refine q4_p 0 64 #[T,F,F,F,F,F,F,F,F,F,F,F,F,F,F,F,F,F,F,F,F,F,F,F,F,F,F,F,F,F,F,F,F,F,F] ?_
                    refine take_ (i := 1) (N := some 65) (v := ?_) (a' := ?_) #[T,T,F,F,F,F,F,F,F,F,F,F,F,F,F,F,F,F,F,F,F,F,F,F,F,F,F,F,F,F,F,F,F,F,F] rfl rfl (take_ofW HT_.out HW_.out q4_9) (fun _ _ _ h => h) (Or.inl ⟨by rfl, ?_⟩) hHeld ?_ ?_
                    rotate_left
                    ·rintro w' ⟨s0, s1, s2, s3, s4, s5, s6⟩
                     go_simp
                     with_reducible rfl
                    rotate_left
                    ·simp only [Act.put, List.setIfInBounds_toArray, List.set_cons_zero, List.set_cons_succ, i64_w, i32_w]
                     rfl
                    refine q4_p 2 66 #[T,T,T,F,F,F,F,F,F,F,F,F,F,F,F,F,F,F,F,F,F,F,F,F,F,F,F,F,F,F,F,F,F,F,F] ?_
                    refine q4_p 3 67 #[T,T,T,T,F,F,F,F,F,F,F,F,F,F,F,F,F,F,F,F,F,F,F,F,F,F,F,F,F,F,F,F,F,F,F] ?_
                    refine q4_p 4 68 #[T,T,T,T,T,F,F,F,F,F,F,F,F,F,F,F,F,F,F,F,F,F,F,F,F,F,F,F,F,F,F,F,F,F,F] ?_
                    refine q4_p 6 70 #[T,T,T,T,T,F,T,F,F,F,F,F,F,F,F,F,F,F,F,F,F,F,F,F,F,F,F,F,F,F,F,F,F,F,F] ?_
                    refine take_ (i := 5) (N := some 69) (v := ?_) (a' := ?_) #[T,T,T,T,T,T,T,F,F,F,F,F,F,F,F,F,F,F,F,F,F,F,F,F,F,F,F,F,F,F,F,F,F,F,F] rfl rfl (take_ofW HT_.out HW_.out q4_9) (fun _ _ _ h => h) (Or.inl ⟨by rfl, ?_⟩) hHeld ?_ ?_
                    rotate_left
                    ·rintro w' ⟨s0, s1, s2, s3, s4, s5, s6⟩
                     go_simp
                     with_reducible rfl
                    rotate_left
                    ·simp only [Act.put, List.setIfInBounds_toArray, List.set_cons_zero, List.set_cons_succ, i64_w, i32_w]
                     rfl
                    refine take_ (i := 7) (N := some 71) (v := ?_) (a' := ?_) #[T,T,T,T,T,T,T,T,F,F,F,F,F,F,F,F,F,F,F,F,F,F,F,F,F,F,F,F,F,F,F,F,F,F,F] rfl rfl (take_ofW HT_.out HW_.out q4_9) (fun _ _ _ h => h) (Or.inl ⟨by rfl, ?_⟩) hHeld ?_ ?_
                    rotate_left
                    ·rintro w' ⟨s0, s1, s2, s3, s4, s5, s6⟩
                     go_simp
                     with_reducible rfl
                    rotate_left
                    ·simp only [Act.put, List.setIfInBounds_toArray, List.set_cons_zero, List.set_cons_succ, i64_w, i32_w]
                     rfl
                    refine q4_p 8 72 #[T,T,T,T,T,T,T,T,T,F,F,F,F,F,F,F,F,F,F,F,F,F,F,F,F,F,F,F,F,F,F,F,F,F,F] ?_
                    refine q4_p 9 73 #[T,T,T,T,T,T,T,T,T,T,F,F,F,F,F,F,F,F,F,F,F,F,F,F,F,F,F,F,F,F,F,F,F,F,F] ?_
                    refine q4_p 10 74 #[T,T,T,T,T,T,T,T,T,T,T,F,F,F,F,F,F,F,F,F,F,F,F,F,F,F,F,F,F,F,F,F,F,F,F] ?_
                    refine q4_p 11 75 #[T,T,T,T,T,T,T,T,T,T,T,T,F,F,F,F,F,F,F,F,F,F,F,F,F,F,F,F,F,F,F,F,F,F,F] ?_
                    refine q4_p 12 76 #[T,T,T,T,T,T,T,T,T,T,T,T,T,F,F,F,F,F,F,F,F,F,F,F,F,F,F,F,F,F,F,F,F,F,F] ?_
                    refine q4_p 13 77 #[T,T,T,T,T,T,T,T,T,T,T,T,T,T,F,F,F,F,F,F,F,F,F,F,F,F,F,F,F,F,F,F,F,F,F] ?_
                    refine q4_p 14 78 #[T,T,T,T,T,T,T,T,T,T,T,T,T,T,T,F,F,F,F,F,F,F,F,F,F,F,F,F,F,F,F,F,F,F,F] ?_
                    refine q4_p 16 80 #[T,T,T,T,T,T,T,T,T,T,T,T,T,T,T,F,T,F,F,F,F,F,F,F,F,F,F,F,F,F,F,F,F,F,F] ?_
                    refine q4_p 17 81 #[T,T,T,T,T,T,T,T,T,T,T,T,T,T,T,F,T,T,F,F,F,F,F,F,F,F,F,F,F,F,F,F,F,F,F] ?_
                    refine q4_p 21 85 #[T,T,T,T,T,T,T,T,T,T,T,T,T,T,T,F,T,T,F,F,F,T,F,F,F,F,F,F,F,F,F,F,F,F,F] ?_
                    refine take_ (i := 15) (N := some 79) (v := ?_) (a' := ?_) #[T,T,T,T,T,T,T,T,T,T,T,T,T,T,T,T,T,T,F,F,F,T,F,F,F,F,F,F,F,F,F,F,F,F,F] rfl rfl (take_ofW HT_.out HW_.out q4_9) (fun _ _ _ h => h) (Or.inl ⟨by rfl, ?_⟩) hHeld ?_ ?_
                    rotate_left
                    ·rintro w' ⟨s0, s1, s2, s3, s4, s5, s6⟩
                     go_simp
                     with_reducible rfl
                    rotate_left
                    ·simp only [Act.put, List.setIfInBounds_toArray, List.set_cons_zero, List.set_cons_succ, i64_w, i32_w]
                     rfl
                    refine q4_p 18 82 #[T,T,T,T,T,T,T,T,T,T,T,T,T,T,T,T,T,T,T,F,F,T,F,F,F,F,F,F,F,F,F,F,F,F,F] ?_
                    refine q4_p 19 83 #[T,T,T,T,T,T,T,T,T,T,T,T,T,T,T,T,T,T,T,T,F,T,F,F,F,F,F,F,F,F,F,F,F,F,F] ?_
                    refine take_ (i := 20) (N := some 84) (v := ?_) (a' := ?_) #[T,T,T,T,T,T,T,T,T,T,T,T,T,T,T,T,T,T,T,T,T,T,F,F,F,F,F,F,F,F,F,F,F,F,F] rfl rfl (take_ofW HT_.out HW_.out q4_9) (fun _ _ _ h => h) (Or.inl ⟨by rfl, ?_⟩) hHeld ?_ ?_
                    rotate_left
                    ·rintro w' ⟨s0, s1, s2, s3, s4, s5, s6⟩
                     go_simp
                     with_reducible rfl
                    rotate_left
                    ·simp only [Act.put, List.setIfInBounds_toArray, List.set_cons_zero, List.set_cons_succ, i64_w, i32_w]
                     rfl
                    refine take_ (i := 22) (N := some 86) (v := ?_) (a' := ?_) #[T,T,T,T,T,T,T,T,T,T,T,T,T,T,T,T,T,T,T,T,T,T,T,F,F,F,F,F,F,F,F,F,F,F,F] rfl rfl (take_ofW HT_.out HW_.out q4_9) (fun _ _ _ h => h) (Or.inl ⟨by rfl, ?_⟩) hHeld ?_ ?_
                    rotate_left
                    ·rintro w' ⟨s0, s1, s2, s3, s4, s5, s6⟩
                     go_simp
                     with_reducible rfl
                    rotate_left
                    ·simp only [Act.put, List.setIfInBounds_toArray, List.set_cons_zero, List.set_cons_succ, i64_w, i32_w]
                     rfl
                    refine q4_p 23 87 #[T,T,T,T,T,T,T,T,T,T,T,T,T,T,T,T,T,T,T,T,T,T,T,T,F,F,F,F,F,F,F,F,F,F,F] ?_
                    refine q4_p 24 88 #[T,T,T,T,T,T,T,T,T,T,T,T,T,T,T,T,T,T,T,T,T,T,T,T,T,F,F,F,F,F,F,F,F,F,F] ?_
                    refine q4_p 25 89 #[T,T,T,T,T,T,T,T,T,T,T,T,T,T,T,T,T,T,T,T,T,T,T,T,T,T,F,F,F,F,F,F,F,F,F] ?_
                    refine q4_p 26 90 #[T,T,T,T,T,T,T,T,T,T,T,T,T,T,T,T,T,T,T,T,T,T,T,T,T,T,T,F,F,F,F,F,F,F,F] ?_
                    refine q4_p 27 91 #[T,T,T,T,T,T,T,T,T,T,T,T,T,T,T,T,T,T,T,T,T,T,T,T,T,T,T,T,F,F,F,F,F,F,F] ?_
                    refine q4_p 29 93 #[T,T,T,T,T,T,T,T,T,T,T,T,T,T,T,T,T,T,T,T,T,T,T,T,T,T,T,T,F,T,F,F,F,F,F] ?_
                    refine q4_p 31 95 #[T,T,T,T,T,T,T,T,T,T,T,T,T,T,T,T,T,T,T,T,T,T,T,T,T,T,T,T,F,T,F,T,F,F,F] ?_
                    refine take_ (i := 28) (N := some 92) (v := ?_) (a' := ?_) #[T,T,T,T,T,T,T,T,T,T,T,T,T,T,T,T,T,T,T,T,T,T,T,T,T,T,T,T,T,T,F,T,F,F,F] rfl rfl (take_ofW HT_.out HW_.out q4_9) (fun _ _ _ h => h) (Or.inl ⟨by rfl, ?_⟩) hHeld ?_ ?_
                    rotate_left
                    ·rintro w' ⟨s0, s1, s2, s3, s4, s5, s6⟩
                     go_simp
                     with_reducible rfl
                    rotate_left
                    ·simp only [Act.put, List.setIfInBounds_toArray, List.set_cons_zero, List.set_cons_succ, i64_w, i32_w]
                     rfl
                    refine q4_p 30 94 #[T,T,T,T,T,T,T,T,T,T,T,T,T,T,T,T,T,T,T,T,T,T,T,T,T,T,T,T,T,T,T,T,F,F,F] ?_
                    refine take_ (i := 32) (N := some 96) (v := ?_) (a' := ?_) #[T,T,T,T,T,T,T,T,T,T,T,T,T,T,T,T,T,T,T,T,T,T,T,T,T,T,T,T,T,T,T,T,T,F,F] rfl rfl (take_ofW HT_.out HW_.out q4_9) (fun _ _ _ h => h) (Or.inl ⟨by rfl, ?_⟩) hHeld ?_ ?_
                    rotate_left
                    ·rintro w' ⟨s0, s1, s2, s3, s4, s5, s6⟩
                     go_simp
                     with_reducible rfl
                    rotate_left
                    ·simp only [Act.put, List.setIfInBounds_toArray, List.set_cons_zero, List.set_cons_succ, i64_w, i32_w]
                     rfl
                    refine one_ (i := 33) (N := some 97) #[T,T,T,T,T,T,T,T,T,T,T,T,T,T,T,T,T,T,T,T,T,T,T,T,T,T,T,T,T,T,T,T,T,T,F] rfl rfl (one_of HT_.out q4_9) (by decide) (fun K hK => ?_)
                    refine goes_ Try.func38 q4_9 rfl #[.slice (some ad158) y161.length c0_2, .int .i64 ((rd_T48 l0_2 x59_3).f0)] (by rfl) rfl rfl q4_8 ?_
                    with_reducible refine (spec_l06Node.calls k3 _ _ y161 ((rd_T48 l0_2 x59_3).f0) true _ ?side1 ?side2 A53.out).mono ?_
                    (case side1 => repeat (first | exact (Kd.C_below HR164.out HB.out) | (with_reducible refine Kd.C_alloc ?_ _) | (with_reducible refine Kd.C_drewN ?_ _) | (with_reducible refine Kd.C_drew ?_)))
                    (case side2 => exact HC164.out)
                    rintro e w61 ⟨rfl, hb⟩
                    refine ⟨_, rfl, ?_⟩
                    have n0_ := Aside0.mk (blk_below (g := gb155) (o := .cells #[.int .i64 a0_0, .slice A0_1 l0_1.length c0_1, .slice (some ad158) l0_2.length c0_2] 30 (0, 0)) q4_1 hb)
                    have n1_ := Aside0.mk (blk_below (g := gb159) (o := .cells #[.int .i64 ((rd_T48 l0_2 x59_3).f0), .int .i64 ((rd_T48 l0_2 x59_3).f1)] 48 (0, 0)) q4_13 hb)
                    have n2_ := Aside0.mk (below_step q4_2 hb)
                    clear BK155
                    clear BK159
                    clear HB
                    have BK155 := n0_
                    have BK159 := n1_
                    have HB := n2_
                    clear n0_ n1_ n2_
                    (try clear hb)
                    (try clear hb2)
                    (try clear hk)
                    (try clear hi)
                    refine hK.out _ _ ⟨(blk_cell BK159.out 0).trans rfl, (blk_cell BK159.out 1).trans rfl, (blk_cell BK155.out 0).trans rfl, (blk_cell BK155.out 1).trans rfl, (blk_cell BK155.out 2).trans rfl, ((HB.out.cell (World.block_lt_of_cell? w _ hw160_0)).trans hw160_0), ((HB.out.cell (World.block_lt_of_cell? w _ hw160_1)).trans hw160_1)⟩ (fun hHeld => ?_)
                    clear hK K
                    refine norm_ (a' := ?_) ?_ ?_
                    rotate_left
                    ·show Act.put _ (some 97) _ = _
                     simp only [Act.put, List.setIfInBounds_toArray, List.set_cons_zero, List.set_cons_succ, i64_w, i32_w]
                     rfl
                    refine q4_p 34 98 #[T,T,T,T,T,T,T,T,T,T,T,T,T,T,T,T,T,T,T,T,T,T,T,T,T,T,T,T,T,T,T,T,T,T,T] ?_
                    refine done_ (done_of HT_.out q4_9) ?_
                    try go_wp2
                    go_ret
                    exact ⟨by first | rfl | (simp [errW_none, errW_some] <;> rfl) | (simp only [← hji42]; first | rfl | (simp [errW_none, errW_some] <;> rfl)) | (simp [*, errW_none, errW_some] <;> rfl), q4_2⟩
                   ·replace c54 := Bool.eq_false_iff.mpr c54
                    subst c54
                    have H1 : (spec_AgesOk.l1 k3 l0_2 (l0_2.length : Int) (wrap64 (x59_3 + 1)) a0_0 l0_1 l0_2) = some r := by rw [if_neg (show ¬ (false = true) by decide)] at H; exact H
                    clear H
                    have H := H1
                    clear H1
                    have H' := Aside0.mk H
                    clear H
                    have p158 : 0 ≤ (x59_3 : Int) := of_decide_eq_true q4_5
                    have q158 : x59_3 < (l0_2.length : Int) := of_decide_eq_true q4_5
                    obtain ⟨ad158, e158, hx158_0, hx158_1⟩ := at_T48 HR0_2.out x59_3 p158 q158
                    cases e158
                    replace hx158_0 := (HB.out.cell (World.block_lt_of_cell? w _ hx158_0)).trans hx158_0
                    replace hx158_1 := (HB.out.cell (World.block_lt_of_cell? w _ hx158_1)).trans hx158_1
                    replace p158 := eq_true p158
                    replace q158 := eq_true q158
                    try go_wp2_with (first | ((with_reducible refine gate_dst (N := 6) rfl ?_); (try (refine gate_guard (by rfl) ?_; dsimp only)); refine box_event ?hg (N := 6) ?hd (cs := #[.int .i64 0, .int .i64 0]) (t := 48) ?hr ?_; (case hd => rfl); (case hg => rfl); (case hr => first | (go_simp; done) | (go_simp; rfl)); intro gb159 hg w62 hbox hb; have n0_ := Aside0.mk (blk_below (g := gb155) (o := .cells #[.int .i64 a0_0, .slice A0_1 l0_1.length c0_1, .slice (some ad158) l0_2.length c0_2] 30 (0, 0)) q4_1 hb); have n1_ := Aside0.mk (below_step q4_0 hb); have n2_ := Aside0.mk (hbox); have n3_ := Aside0.mk ((q4_12 : w.heap.size ≤ gb159)); have n4_ := Aside0.mk ((q4_12 : w.heap.size ≤ gb159)); have n5_ := Aside0.mk ((q4_6 : gb155 ≠ gb159)); have n6_ := Aside0.mk ((q4_7 : gb159 ≠ gb155)); clear BK155; clear HB; have BK155 := n0_; have HB := n1_; have BK159 := n2_; have GW159 := n3_; have GE159 := n4_; have NB155_159 := n5_; have NB159_155 := n6_; clear n0_ n1_ n2_ n3_ n4_ n5_ n6_; clear hb hbox hg; have hnb63 := NB159_155.out; have hnc63 := NB155_159.out; have hcz64_0 : w62.cell? ⟨gb159, 0, none⟩ = some (.int .i64 0) := (blk_cell BK159.out 0).trans rfl; have hcz64_1 : w62.cell? ⟨gb159, 1, none⟩ = some (.int .i64 0) := (blk_cell BK159.out 1).trans rfl; have hfz64_0 := blk_frozen BK159.out 0; have hfz64_1 := blk_frozen BK159.out 1))
                    have n0_ : Aside0 (((w62.setCell ⟨gb159, 0, none⟩ (.int .i64 ((rd_T48 l0_2 x59_3).f0))).setCell ⟨gb159, 1, none⟩ (.int .i64 ((rd_T48 l0_2 x59_3).f1))).heap[gb155]? = some (.cells #[.int .i64 a0_0, .slice A0_1 l0_1.length c0_1, .slice (some ad158) l0_2.length c0_2] 30 (0, 0))) := ⟨q4_4⟩
                    have n1_ : Aside0 (((w62.setCell ⟨gb159, 0, none⟩ (.int .i64 ((rd_T48 l0_2 x59_3).f0))).setCell ⟨gb159, 1, none⟩ (.int .i64 ((rd_T48 l0_2 x59_3).f1))).heap[gb159]? = some (.cells #[.int .i64 ((rd_T48 l0_2 x59_3).f0), .int .i64 ((rd_T48 l0_2 x59_3).f1)] 48 (0, 0))) := ⟨q4_3⟩
                    have n2_ : Aside0 (Below w.heap.size w ((w62.setCell ⟨gb159, 0, none⟩ (.int .i64 ((rd_T48 l0_2 x59_3).f0))).setCell ⟨gb159, 1, none⟩ (.int .i64 ((rd_T48 l0_2 x59_3).f1)))) := ⟨q4_2⟩
                    (try clear BK155)
                    (try clear BK159)
                    (try clear HB)
                    generalize ((w62.setCell ⟨gb159, 0, none⟩ (.int .i64 ((rd_T48 l0_2 x59_3).f0))).setCell ⟨gb159, 1, none⟩ (.int .i64 ((rd_T48 l0_2 x59_3).f1))) = w65 at n0_ n1_ n2_ ⊢
                    have BK155 := n0_
                    have BK159 := n1_
                    have HB := n2_
                    clear n0_ n1_ n2_
                    have n0_ := Aside0.mk (blk_drew BK155.out)
                    have n1_ := Aside0.mk (blk_drew BK159.out)
                    have n2_ := Aside0.mk (below_drew1 HB.out)
                    clear BK155
                    clear BK159
                    clear HB
                    have BK155 := n0_
                    have BK159 := n1_
                    have HB := n2_
                    clear n0_ n1_ n2_
                    have p160 : 0 ≤ ((ji42) : Int) := of_decide_eq_true q4_5
                    have q160 : (ji42) < (l0_2.length : Int) := of_decide_eq_true q4_5
                    obtain ⟨ad160, e160, hx160_0, hx160_1⟩ := at_T48 HR0_2.out (ji42) p160 q160
                    have hw160_1 := hx160_1
                    have hw160_0 := hx160_0
                    obtain rfl : ad158 = ad160 := (by injection e160)
                    replace hx160_0 := (HB.out.cell (World.block_lt_of_cell? w _ hx160_0)).trans hx160_0
                    replace hx160_1 := (HB.out.cell (World.block_lt_of_cell? w _ hx160_1)).trans hx160_1
                    replace p160 := eq_true p160
                    replace q160 := eq_true q160
                    have q67 : (x59_3 : Int) ≤ ((l0_2.length : Int) : Int) := of_decide_eq_true q4_5
                    obtain ⟨i067, hi067, _, hsz67, _⟩ := info_parts info48
                    have hroom67 : l0_2.length ≤ c0_2 := HC0_2.out
                    have hC67 : Kd.C k48 _ (some ad158) l0_2.length l0_2 := HR0_2.out
                    have hcut67 := cut_to (P := Try.prog) 28 48 .i64 Try.underlying28 hi067 (some ad158) l0_2.length c0_2 x59_3 (of_decide_eq_true q4_5) q67 hroom67
                    have hr67 := Kd.C_take (m := (x59_3 : Int).toNat) hC67 (by omega)
                    have hy67 : y161.length = (x59_3 : Int).toNat := (by rw [Ny161.out, List.length_take]; omega)
                    rw [← Ny161.out] at hr67
                    rw [← hy67] at hcut67
                    have HR164 := Aside0.mk hr67
                    have HC164 := Aside0.mk (show y161.length ≤ c0_2 from by omega)
                    clear hr67 hC67 hroom67 hi067 hsz67
                    have KY67 := Aside0.mk hy67
                    clear hy67
                    replace q67 := eq_true q67
                    refine start_ (n := 35) (S := fun w' => w'.cell? ⟨gb159, 0, none⟩ = some (.int .i64 ((rd_T48 l0_2 x59_3).f0)) ∧ w'.cell? ⟨gb159, 1, none⟩ = some (.int .i64 ((rd_T48 l0_2 x59_3).f1)) ∧ w'.cell? ⟨gb155, 0, none⟩ = some (.int .i64 a0_0) ∧ w'.cell? ⟨gb155, 1, none⟩ = some (.slice A0_1 l0_1.length c0_1) ∧ w'.cell? ⟨gb155, 2, none⟩ = some (.slice (some ad158) l0_2.length c0_2) ∧ w'.cell? (ad158.add (((ji42)).toNat * 2)) = some (.int .i64 ((rd_T48 l0_2 (ji42)).f0)) ∧ w'.cell? ⟨(ad158.add (((ji42)).toNat * 2)).block, (ad158.add (((ji42)).toNat * 2)).off + 1, none⟩ = some (.int .i64 ((rd_T48 l0_2 (ji42)).f1))) (ds := []) #[F,F,F,F,F,F,F,F,F,F,F,F,F,F,F,F,F,F,F,F,F,F,F,F,F,F,F,F,F,F,F,F,F,F,F] q4_9 rfl rfl ⟨(blk_cell BK159.out 0).trans rfl, (blk_cell BK159.out 1).trans rfl, (blk_cell BK155.out 0).trans rfl, (blk_cell BK155.out 1).trans rfl, (blk_cell BK155.out 2).trans rfl, ((HB.out.cell (World.block_lt_of_cell? w _ hw160_0)).trans hw160_0), ((HB.out.cell (World.block_lt_of_cell? w _ hw160_1)).trans hw160_1)⟩ (fun hHeld => ?_); refine with_tabW spec_AgesOk.tab12 spec_AgesOk.bits12 (fun HT_ HW_ => ?_)
                    generalize w65.drew = w66 at BK155 BK159 HB HR164 hx160_0 hx160_1 hHeld ⊢
                    refine q4_p 0 64 #[T,F,F,F,F,F,F,F,F,F,F,F,F,F,F,F,F,F,F,F,F,F,F,F,F,F,F,F,F,F,F,F,F,F,F] ?_
                    refine take_ (i := 1) (N := some 65) (v := ?_) (a' := ?_) #[T,T,F,F,F,F,F,F,F,F,F,F,F,F,F,F,F,F,F,F,F,F,F,F,F,F,F,F,F,F,F,F,F,F,F] rfl rfl (take_ofW HT_.out HW_.out q4_9) (fun _ _ _ h => h) (Or.inl ⟨by rfl, ?_⟩) hHeld ?_ ?_
                    rotate_left
                    ·rintro w' ⟨s0, s1, s2, s3, s4, s5, s6⟩
                     go_simp
                     with_reducible rfl
                    rotate_left
                    ·simp only [Act.put, List.setIfInBounds_toArray, List.set_cons_zero, List.set_cons_succ, i64_w, i32_w]
                     rfl
                    refine q4_p 2 66 #[T,T,T,F,F,F,F,F,F,F,F,F,F,F,F,F,F,F,F,F,F,F,F,F,F,F,F,F,F,F,F,F,F,F,F] ?_
                    refine q4_p 3 67 #[T,T,T,T,F,F,F,F,F,F,F,F,F,F,F,F,F,F,F,F,F,F,F,F,F,F,F,F,F,F,F,F,F,F,F] ?_
                    refine q4_p 4 68 #[T,T,T,T,T,F,F,F,F,F,F,F,F,F,F,F,F,F,F,F,F,F,F,F,F,F,F,F,F,F,F,F,F,F,F] ?_
                    refine q4_p 6 70 #[T,T,T,T,T,F,T,F,F,F,F,F,F,F,F,F,F,F,F,F,F,F,F,F,F,F,F,F,F,F,F,F,F,F,F] ?_
                    refine take_ (i := 5) (N := some 69) (v := ?_) (a' := ?_) #[T,T,T,T,T,T,T,F,F,F,F,F,F,F,F,F,F,F,F,F,F,F,F,F,F,F,F,F,F,F,F,F,F,F,F] rfl rfl (take_ofW HT_.out HW_.out q4_9) (fun _ _ _ h => h) (Or.inl ⟨by rfl, ?_⟩) hHeld ?_ ?_
                    rotate_left
                    ·rintro w' ⟨s0, s1, s2, s3, s4, s5, s6⟩
                     go_simp
                     with_reducible rfl
                    rotate_left
                    ·simp only [Act.put, List.setIfInBounds_toArray, List.set_cons_zero, List.set_cons_succ, i64_w, i32_w]
                     rfl
                    refine take_ (i := 7) (N := some 71) (v := ?_) (a' := ?_) #[T,T,T,T,T,T,T,T,F,F,F,F,F,F,F,F,F,F,F,F,F,F,F,F,F,F,F,F,F,F,F,F,F,F,F] rfl rfl (take_ofW HT_.out HW_.out q4_9) (fun _ _ _ h => h) (Or.inl ⟨by rfl, ?_⟩) hHeld ?_ ?_
                    rotate_left
                    ·rintro w' ⟨s0, s1, s2, s3, s4, s5, s6⟩
                     go_simp
                     with_reducible rfl
                    rotate_left
                    ·simp only [Act.put, List.setIfInBounds_toArray, List.set_cons_zero, List.set_cons_succ, i64_w, i32_w]
                     rfl
                    refine q4_p 8 72 #[T,T,T,T,T,T,T,T,T,F,F,F,F,F,F,F,F,F,F,F,F,F,F,F,F,F,F,F,F,F,F,F,F,F,F] ?_
                    refine q4_p 9 73 #[T,T,T,T,T,T,T,T,T,T,F,F,F,F,F,F,F,F,F,F,F,F,F,F,F,F,F,F,F,F,F,F,F,F,F] ?_
                    refine q4_p 10 74 #[T,T,T,T,T,T,T,T,T,T,T,F,F,F,F,F,F,F,F,F,F,F,F,F,F,F,F,F,F,F,F,F,F,F,F] ?_
                    refine q4_p 11 75 #[T,T,T,T,T,T,T,T,T,T,T,T,F,F,F,F,F,F,F,F,F,F,F,F,F,F,F,F,F,F,F,F,F,F,F] ?_
                    refine q4_p 12 76 #[T,T,T,T,T,T,T,T,T,T,T,T,T,F,F,F,F,F,F,F,F,F,F,F,F,F,F,F,F,F,F,F,F,F,F] ?_
                    refine q4_p 13 77 #[T,T,T,T,T,T,T,T,T,T,T,T,T,T,F,F,F,F,F,F,F,F,F,F,F,F,F,F,F,F,F,F,F,F,F] ?_
                    refine q4_p 14 78 #[T,T,T,T,T,T,T,T,T,T,T,T,T,T,T,F,F,F,F,F,F,F,F,F,F,F,F,F,F,F,F,F,F,F,F] ?_
                    refine q4_p 16 80 #[T,T,T,T,T,T,T,T,T,T,T,T,T,T,T,F,T,F,F,F,F,F,F,F,F,F,F,F,F,F,F,F,F,F,F] ?_
                    refine q4_p 17 81 #[T,T,T,T,T,T,T,T,T,T,T,T,T,T,T,F,T,T,F,F,F,F,F,F,F,F,F,F,F,F,F,F,F,F,F] ?_
                    refine q4_p 21 85 #[T,T,T,T,T,T,T,T,T,T,T,T,T,T,T,F,T,T,F,F,F,T,F,F,F,F,F,F,F,F,F,F,F,F,F] ?_
                    refine take_ (i := 15) (N := some 79) (v := ?_) (a' := ?_) #[T,T,T,T,T,T,T,T,T,T,T,T,T,T,T,T,T,T,F,F,F,T,F,F,F,F,F,F,F,F,F,F,F,F,F] rfl rfl (take_ofW HT_.out HW_.out q4_9) (fun _ _ _ h => h) (Or.inl ⟨by rfl, ?_⟩) hHeld ?_ ?_
                    rotate_left
                    ·rintro w' ⟨s0, s1, s2, s3, s4, s5, s6⟩
                     go_simp
                     with_reducible rfl
                    rotate_left
                    ·simp only [Act.put, List.setIfInBounds_toArray, List.set_cons_zero, List.set_cons_succ, i64_w, i32_w]
                     rfl
                    refine q4_p 18 82 #[T,T,T,T,T,T,T,T,T,T,T,T,T,T,T,T,T,T,T,F,F,T,F,F,F,F,F,F,F,F,F,F,F,F,F] ?_
                    refine q4_p 19 83 #[T,T,T,T,T,T,T,T,T,T,T,T,T,T,T,T,T,T,T,T,F,T,F,F,F,F,F,F,F,F,F,F,F,F,F] ?_
                    refine take_ (i := 20) (N := some 84) (v := ?_) (a' := ?_) #[T,T,T,T,T,T,T,T,T,T,T,T,T,T,T,T,T,T,T,T,T,T,F,F,F,F,F,F,F,F,F,F,F,F,F] rfl rfl (take_ofW HT_.out HW_.out q4_9) (fun _ _ _ h => h) (Or.inl ⟨by rfl, ?_⟩) hHeld ?_ ?_
                    rotate_left
                    ·rintro w' ⟨s0, s1, s2, s3, s4, s5, s6⟩
                     go_simp
                     with_reducible rfl
                    rotate_left
                    ·simp only [Act.put, List.setIfInBounds_toArray, List.set_cons_zero, List.set_cons_succ, i64_w, i32_w]
                     rfl
                    refine take_ (i := 22) (N := some 86) (v := ?_) (a' := ?_) #[T,T,T,T,T,T,T,T,T,T,T,T,T,T,T,T,T,T,T,T,T,T,T,F,F,F,F,F,F,F,F,F,F,F,F] rfl rfl (take_ofW HT_.out HW_.out q4_9) (fun _ _ _ h => h) (Or.inl ⟨by rfl, ?_⟩) hHeld ?_ ?_
                    rotate_left
                    ·rintro w' ⟨s0, s1, s2, s3, s4, s5, s6⟩
                     go_simp
                     with_reducible rfl
                    rotate_left
                    ·simp only [Act.put, List.setIfInBounds_toArray, List.set_cons_zero, List.set_cons_succ, i64_w, i32_w]
                     rfl
                    refine q4_p 23 87 #[T,T,T,T,T,T,T,T,T,T,T,T,T,T,T,T,T,T,T,T,T,T,T,T,F,F,F,F,F,F,F,F,F,F,F] ?_
                    refine q4_p 24 88 #[T,T,T,T,T,T,T,T,T,T,T,T,T,T,T,T,T,T,T,T,T,T,T,T,T,F,F,F,F,F,F,F,F,F,F] ?_
                    refine q4_p 25 89 #[T,T,T,T,T,T,T,T,T,T,T,T,T,T,T,T,T,T,T,T,T,T,T,T,T,T,F,F,F,F,F,F,F,F,F] ?_
                    refine q4_p 26 90 #[T,T,T,T,T,T,T,T,T,T,T,T,T,T,T,T,T,T,T,T,T,T,T,T,T,T,T,F,F,F,F,F,F,F,F] ?_
                    refine q4_p 27 91 #[T,T,T,T,T,T,T,T,T,T,T,T,T,T,T,T,T,T,T,T,T,T,T,T,T,T,T,T,F,F,F,F,F,F,F] ?_
                    refine q4_p 29 93 #[T,T,T,T,T,T,T,T,T,T,T,T,T,T,T,T,T,T,T,T,T,T,T,T,T,T,T,T,F,T,F,F,F,F,F] ?_
                    refine q4_p 31 95 #[T,T,T,T,T,T,T,T,T,T,T,T,T,T,T,T,T,T,T,T,T,T,T,T,T,T,T,T,F,T,F,T,F,F,F] ?_
                    refine take_ (i := 28) (N := some 92) (v := ?_) (a' := ?_) #[T,T,T,T,T,T,T,T,T,T,T,T,T,T,T,T,T,T,T,T,T,T,T,T,T,T,T,T,T,T,F,T,F,F,F] rfl rfl (take_ofW HT_.out HW_.out q4_9) (fun _ _ _ h => h) (Or.inl ⟨by rfl, ?_⟩) hHeld ?_ ?_
                    rotate_left
                    ·rintro w' ⟨s0, s1, s2, s3, s4, s5, s6⟩
                     go_simp
                     with_reducible rfl
                    rotate_left
                    ·simp only [Act.put, List.setIfInBounds_toArray, List.set_cons_zero, List.set_cons_succ, i64_w, i32_w]
                     rfl
                    refine q4_p 30 94 #[T,T,T,T,T,T,T,T,T,T,T,T,T,T,T,T,T,T,T,T,T,T,T,T,T,T,T,T,T,T,T,T,F,F,F] ?_
                    refine take_ (i := 32) (N := some 96) (v := ?_) (a' := ?_) #[T,T,T,T,T,T,T,T,T,T,T,T,T,T,T,T,T,T,T,T,T,T,T,T,T,T,T,T,T,T,T,T,T,F,F] rfl rfl (take_ofW HT_.out HW_.out q4_9) (fun _ _ _ h => h) (Or.inl ⟨by rfl, ?_⟩) hHeld ?_ ?_
                    rotate_left
                    ·rintro w' ⟨s0, s1, s2, s3, s4, s5, s6⟩
                     go_simp
                     with_reducible rfl
                    rotate_left
                    ·simp only [Act.put, List.setIfInBounds_toArray, List.set_cons_zero, List.set_cons_succ, i64_w, i32_w]
                     rfl
                    refine one_ (i := 33) (N := some 97) #[T,T,T,T,T,T,T,T,T,T,T,T,T,T,T,T,T,T,T,T,T,T,T,T,T,T,T,T,T,T,T,T,T,T,F] rfl rfl (one_of HT_.out q4_9) (by decide) (fun K hK => ?_)
                    refine goes_ Try.func38 q4_9 rfl #[.slice (some ad158) y161.length c0_2, .int .i64 ((rd_T48 l0_2 x59_3).f0)] (by rfl) rfl rfl q4_8 ?_
                    with_reducible refine (spec_l06Node.calls k3 _ _ y161 ((rd_T48 l0_2 x59_3).f0) false _ ?side1 ?side2 A53.out).mono ?_
                    (case side1 => repeat (first | exact (Kd.C_below HR164.out HB.out) | (with_reducible refine Kd.C_alloc ?_ _) | (with_reducible refine Kd.C_drewN ?_ _) | (with_reducible refine Kd.C_drew ?_)))
                    (case side2 => exact HC164.out)
                    rintro e w68 ⟨rfl, hb⟩
                    refine ⟨_, rfl, ?_⟩
                    have n0_ := Aside0.mk (blk_below (g := gb155) (o := .cells #[.int .i64 a0_0, .slice A0_1 l0_1.length c0_1, .slice (some ad158) l0_2.length c0_2] 30 (0, 0)) q4_1 hb)
                    have n1_ := Aside0.mk (blk_below (g := gb159) (o := .cells #[.int .i64 ((rd_T48 l0_2 x59_3).f0), .int .i64 ((rd_T48 l0_2 x59_3).f1)] 48 (0, 0)) q4_13 hb)
                    have n2_ := Aside0.mk (below_step q4_2 hb)
                    clear BK155
                    clear BK159
                    clear HB
                    have BK155 := n0_
                    have BK159 := n1_
                    have HB := n2_
                    clear n0_ n1_ n2_
                    (try clear hb)
                    (try clear hb2)
                    (try clear hk)
                    (try clear hi)
                    refine hK.out _ _ ⟨(blk_cell BK159.out 0).trans rfl, (blk_cell BK159.out 1).trans rfl, (blk_cell BK155.out 0).trans rfl, (blk_cell BK155.out 1).trans rfl, (blk_cell BK155.out 2).trans rfl, ((HB.out.cell (World.block_lt_of_cell? w _ hw160_0)).trans hw160_0), ((HB.out.cell (World.block_lt_of_cell? w _ hw160_1)).trans hw160_1)⟩ (fun hHeld => ?_)
                    clear hK K
                    refine norm_ (a' := ?_) ?_ ?_
                    rotate_left
                    ·show Act.put _ (some 97) _ = _
                     simp only [Act.put, List.setIfInBounds_toArray, List.set_cons_zero, List.set_cons_succ, i64_w, i32_w]
                     rfl
                    refine q4_p 34 98 #[T,T,T,T,T,T,T,T,T,T,T,T,T,T,T,T,T,T,T,T,T,T,T,T,T,T,T,T,T,T,T,T,T,T,T] ?_
                    refine done_ (done_of HT_.out q4_9) ?_
                    try go_wp2
                    go_roundg k3
                    case measure => have := HJ1.out; have := HK2.out; have := HK3.out; omega
                    case rel => exact ⟨(wrap64 (x59_3 + 1)), q4_11, H', ⟨by have := HJ1.out; have := HK2.out; have := HK3.out; omega⟩, ⟨q4_1⟩, ⟨q4_2⟩⟩
                  ·rw [if_neg c52] at H
                   exact absurd H (by simp)
                ·rw [if_neg c44] at H
                 exact absurd H (by simp)
               ·rw [if_neg c43] at H
                exact absurd H (by simp)
              ·rw [if_neg c41] at H
               have c41b0 : decide (0 < x59_3) = false := decide_eq_false c41
               clear c41
               have c69b0 := eq_true (of_decide_eq_true q4_5 : 0 ≤ x59_3)
               by_cases c70 : x59_3 ≤ (l0_2.length : Int)
               ·rw [if_pos c70] at H
                have c70b0 := eq_true c70
                have c70b1 : decide (x59_3 ≤ (l0_2.length : Int)) = true := decide_eq_true c70
                clear c70
                obtain ⟨y166, hy166⟩ : ∃ y_ : List (S48), y_ = (l0_2.take (x59_3 : Int).toNat) := ⟨_, rfl⟩
                replace H : ((spec_l06Node.f k3 y166 ((rd_T48 l0_2 x59_3).f0)).bind fun t170 => (if t170 = true then (some false) else (spec_AgesOk.l1 k3 l0_2 (l0_2.length : Int) (wrap64 (x59_3 + 1)) a0_0 l0_1 l0_2))) = some r := by first | (rw [hy166]; with_reducible exact H) | (have H2_ := (Option.bind_some _ _).symm.trans H; rw [hy166]; with_reducible exact H2_) | (have H2_ := (Option.bind_some _ _).symm.trans H; with_reducible exact H2_) | with_reducible exact H | (rw [hy166]; exact H) | exact H
                have Ny166 := Aside0.mk hy166
                clear hy166
                replace H := Option.bind_eq_some_iff.mp H
                obtain ⟨t170, A710, H⟩ := H
                replace H : (if t170 = true then (some false) else (spec_AgesOk.l1 k3 l0_2 (l0_2.length : Int) (wrap64 (x59_3 + 1)) a0_0 l0_1 l0_2)) = some r := H
                have A71 := Aside0.mk A710
                clear A710
                by_cases c72 : t170 = true
                ·subst c72
                 have H1 : (some false) = some r := by rw [if_pos rfl] at H; exact H
                 clear H
                 have H := H1
                 clear H1
                 obtain rfl := Option.some.inj H
                 have p158 : 0 ≤ (x59_3 : Int) := of_decide_eq_true q4_5
                 have q158 : x59_3 < (l0_2.length : Int) := of_decide_eq_true q4_5
                 obtain ⟨ad158, e158, hx158_0, hx158_1⟩ := at_T48 HR0_2.out x59_3 p158 q158
                 cases e158
                 replace hx158_0 := (HB.out.cell (World.block_lt_of_cell? w _ hx158_0)).trans hx158_0
                 replace hx158_1 := (HB.out.cell (World.block_lt_of_cell? w _ hx158_1)).trans hx158_1
                 replace p158 := eq_true p158
                 replace q158 := eq_true q158
                 try go_wp2_with (first | ((with_reducible refine gate_dst (N := 6) rfl ?_); (try (refine gate_guard (by rfl) ?_; dsimp only)); refine box_event ?hg (N := 6) ?hd (cs := #[.int .i64 0, .int .i64 0]) (t := 48) ?hr ?_; (case hd => rfl); (case hg => rfl); (case hr => first | (go_simp; done) | (go_simp; rfl)); intro gb159 hg w73 hbox hb; have n0_ := Aside0.mk (blk_below (g := gb155) (o := .cells #[.int .i64 a0_0, .slice A0_1 l0_1.length c0_1, .slice (some ad158) l0_2.length c0_2] 30 (0, 0)) q4_1 hb); have n1_ := Aside0.mk (below_step q4_0 hb); have n2_ := Aside0.mk (hbox); have n3_ := Aside0.mk ((q4_12 : w.heap.size ≤ gb159)); have n4_ := Aside0.mk ((q4_12 : w.heap.size ≤ gb159)); have n5_ := Aside0.mk ((q4_6 : gb155 ≠ gb159)); have n6_ := Aside0.mk ((q4_7 : gb159 ≠ gb155)); clear BK155; clear HB; have BK155 := n0_; have HB := n1_; have BK159 := n2_; have GW159 := n3_; have GE159 := n4_; have NB155_159 := n5_; have NB159_155 := n6_; clear n0_ n1_ n2_ n3_ n4_ n5_ n6_; clear hb hbox hg; have hnb74 := NB159_155.out; have hnc74 := NB155_159.out; have hcz75_0 : w73.cell? ⟨gb159, 0, none⟩ = some (.int .i64 0) := (blk_cell BK159.out 0).trans rfl; have hcz75_1 : w73.cell? ⟨gb159, 1, none⟩ = some (.int .i64 0) := (blk_cell BK159.out 1).trans rfl; have hfz75_0 := blk_frozen BK159.out 0; have hfz75_1 := blk_frozen BK159.out 1))
                 have n0_ : Aside0 (((w73.setCell ⟨gb159, 0, none⟩ (.int .i64 ((rd_T48 l0_2 x59_3).f0))).setCell ⟨gb159, 1, none⟩ (.int .i64 ((rd_T48 l0_2 x59_3).f1))).heap[gb155]? = some (.cells #[.int .i64 a0_0, .slice A0_1 l0_1.length c0_1, .slice (some ad158) l0_2.length c0_2] 30 (0, 0))) := ⟨q4_4⟩
                 have n1_ : Aside0 (((w73.setCell ⟨gb159, 0, none⟩ (.int .i64 ((rd_T48 l0_2 x59_3).f0))).setCell ⟨gb159, 1, none⟩ (.int .i64 ((rd_T48 l0_2 x59_3).f1))).heap[gb159]? = some (.cells #[.int .i64 ((rd_T48 l0_2 x59_3).f0), .int .i64 ((rd_T48 l0_2 x59_3).f1)] 48 (0, 0))) := ⟨q4_3⟩
                 have n2_ : Aside0 (Below w.heap.size w ((w73.setCell ⟨gb159, 0, none⟩ (.int .i64 ((rd_T48 l0_2 x59_3).f0))).setCell ⟨gb159, 1, none⟩ (.int .i64 ((rd_T48 l0_2 x59_3).f1)))) := ⟨q4_2⟩
                 (try clear BK155)
                 (try clear BK159)
                 (try clear HB)
                 generalize ((w73.setCell ⟨gb159, 0, none⟩ (.int .i64 ((rd_T48 l0_2 x59_3).f0))).setCell ⟨gb159, 1, none⟩ (.int .i64 ((rd_T48 l0_2 x59_3).f1))) = w76 at n0_ n1_ n2_ ⊢
                 have BK155 := n0_
                 have BK159 := n1_
                 have HB := n2_
                 clear n0_ n1_ n2_
                 have n0_ := Aside0.mk (blk_drew BK155.out)
                 have n1_ := Aside0.mk (blk_drew BK159.out)
                 have n2_ := Aside0.mk (below_drew1 HB.out)
                 clear BK155
                 clear BK159
                 clear HB
                 have BK155 := n0_
                 have BK159 := n1_
                 have HB := n2_
                 clear n0_ n1_ n2_
                 have q78 : (x59_3 : Int) ≤ ((l0_2.length : Int) : Int) := of_decide_eq_true q4_5
                 obtain ⟨i078, hi078, _, hsz78, _⟩ := info_parts info48
                 have hroom78 : l0_2.length ≤ c0_2 := HC0_2.out
                 have hC78 : Kd.C k48 _ (some ad158) l0_2.length l0_2 := HR0_2.out
                 have hcut78 := cut_to (P := Try.prog) 28 48 .i64 Try.underlying28 hi078 (some ad158) l0_2.length c0_2 x59_3 (of_decide_eq_true q4_5) q78 hroom78
                 have hr78 := Kd.C_take (m := (x59_3 : Int).toNat) hC78 (by omega)
                 have hy78 : y166.length = (x59_3 : Int).toNat := (by rw [Ny166.out, List.length_take]; omega)
                 rw [← Ny166.out] at hr78
                 rw [← hy78] at hcut78
                 have HR169 := Aside0.mk hr78
                 have HC169 := Aside0.mk (show y166.length ≤ c0_2 from by omega)
                 clear hr78 hC78 hroom78 hi078 hsz78
                 have KY78 := Aside0.mk hy78
                 clear hy78
                 replace q78 := eq_true q78
                 refine start_ (n := 35) (S := fun w' => w'.cell? ⟨gb159, 0, none⟩ = some (.int .i64 ((rd_T48 l0_2 x59_3).f0)) ∧ w'.cell? ⟨gb159, 1, none⟩ = some (.int .i64 ((rd_T48 l0_2 x59_3).f1)) ∧ w'.cell? ⟨gb155, 0, none⟩ = some (.int .i64 a0_0) ∧ w'.cell? ⟨gb155, 1, none⟩ = some (.slice A0_1 l0_1.length c0_1) ∧ w'.cell? ⟨gb155, 2, none⟩ = some (.slice (some ad158) l0_2.length c0_2)) (ds := []) #[F,F,F,F,F,F,F,F,F,F,F,F,F,F,F,F,F,F,F,F,F,F,F,F,F,F,F,F,F,F,F,F,F,F,F] q4_9 rfl rfl ⟨(blk_cell BK159.out 0).trans rfl, (blk_cell BK159.out 1).trans rfl, (blk_cell BK155.out 0).trans rfl, (blk_cell BK155.out 1).trans rfl, (blk_cell BK155.out 2).trans rfl⟩ (fun hHeld => ?_); refine with_tabW spec_AgesOk.tab12 spec_AgesOk.bits12 (fun HT_ HW_ => ?_)
                 generalize w76.drew = w77 at BK155 BK159 HB HR169 hHeld ⊢
                 refine q4_p 0 64 #[T,F,F,F,F,F,F,F,F,F,F,F,F,F,F,F,F,F,F,F,F,F,F,F,F,F,F,F,F,F,F,F,F,F,F] ?_
                 refine take_ (i := 1) (N := some 65) (v := ?_) (a' := ?_) #[T,T,F,F,F,F,F,F,F,F,F,F,F,F,F,F,F,F,F,F,F,F,F,F,F,F,F,F,F,F,F,F,F,F,F] rfl rfl (take_ofW HT_.out HW_.out q4_9) (fun _ _ _ h => h) (Or.inl ⟨by rfl, ?_⟩) hHeld ?_ ?_
                 rotate_left
                 ·rintro w' ⟨s0, s1, s2, s3, s4⟩
                  go_simp
                  with_reducible rfl
                 rotate_left
                 ·simp only [Act.put, List.setIfInBounds_toArray, List.set_cons_zero, List.set_cons_succ, i64_w, i32_w]
                  rfl
                 refine q4_p 2 66 #[T,T,T,F,F,F,F,F,F,F,F,F,F,F,F,F,F,F,F,F,F,F,F,F,F,F,F,F,F,F,F,F,F,F,F] ?_
                 refine q4_p 3 67 #[T,T,T,T,F,F,F,F,F,F,F,F,F,F,F,F,F,F,F,F,F,F,F,F,F,F,F,F,F,F,F,F,F,F,F] ?_
                 refine q4_p 4 68 #[T,T,T,T,T,F,F,F,F,F,F,F,F,F,F,F,F,F,F,F,F,F,F,F,F,F,F,F,F,F,F,F,F,F,F] ?_
                 refine q4_p 6 70 #[T,T,T,T,T,F,T,F,F,F,F,F,F,F,F,F,F,F,F,F,F,F,F,F,F,F,F,F,F,F,F,F,F,F,F] ?_
                 refine take_ (i := 5) (N := some 69) (v := ?_) (a' := ?_) #[T,T,T,T,T,T,T,F,F,F,F,F,F,F,F,F,F,F,F,F,F,F,F,F,F,F,F,F,F,F,F,F,F,F,F] rfl rfl (take_ofW HT_.out HW_.out q4_9) (fun _ _ _ h => h) (Or.inl ⟨by rfl, ?_⟩) hHeld ?_ ?_
                 rotate_left
                 ·rintro w' ⟨s0, s1, s2, s3, s4⟩
                  go_simp
                  with_reducible rfl
                 rotate_left
                 ·simp only [Act.put, List.setIfInBounds_toArray, List.set_cons_zero, List.set_cons_succ, i64_w, i32_w]
                  rfl
                 refine take_ (i := 7) (N := some 71) (v := ?_) (a' := ?_) #[T,T,T,T,T,T,T,T,F,F,F,F,F,F,F,F,F,F,F,F,F,F,F,F,F,F,F,F,F,F,F,F,F,F,F] rfl rfl (take_ofW HT_.out HW_.out q4_9) (fun _ _ _ h => h) (Or.inl ⟨by rfl, ?_⟩) hHeld ?_ ?_
                 rotate_left
                 ·rintro w' ⟨s0, s1, s2, s3, s4⟩
                  go_simp
                  with_reducible rfl
                 rotate_left
                 ·simp only [Act.put, List.setIfInBounds_toArray, List.set_cons_zero, List.set_cons_succ, i64_w, i32_w]
                  rfl
                 refine q4_p 8 72 #[T,T,T,T,T,T,T,T,T,F,F,F,F,F,F,F,F,F,F,F,F,F,F,F,F,F,F,F,F,F,F,F,F,F,F] ?_
                 refine q4_p 9 73 #[T,T,T,T,T,T,T,T,T,T,F,F,F,F,F,F,F,F,F,F,F,F,F,F,F,F,F,F,F,F,F,F,F,F,F] ?_
                 refine q4_p 10 74 #[T,T,T,T,T,T,T,T,T,T,T,F,F,F,F,F,F,F,F,F,F,F,F,F,F,F,F,F,F,F,F,F,F,F,F] ?_
                 refine q4_p 11 75 #[T,T,T,T,T,T,T,T,T,T,T,T,F,F,F,F,F,F,F,F,F,F,F,F,F,F,F,F,F,F,F,F,F,F,F] ?_
                 refine q4_p 12 76 #[T,T,T,T,T,T,T,T,T,T,T,T,T,F,F,F,F,F,F,F,F,F,F,F,F,F,F,F,F,F,F,F,F,F,F] ?_
                 refine q4_p 13 77 #[T,T,T,T,T,T,T,T,T,T,T,T,T,T,F,F,F,F,F,F,F,F,F,F,F,F,F,F,F,F,F,F,F,F,F] ?_
                 refine q4_u 14 78 #[T,T,T,T,T,T,T,T,T,T,T,T,T,T,T,F,F,F,F,F,F,F,F,F,F,F,F,F,F,F,F,F,F,F,F] ?_
                 refine q4_u 15 79 #[T,T,T,T,T,T,T,T,T,T,T,T,T,T,T,T,F,F,F,F,F,F,F,F,F,F,F,F,F,F,F,F,F,F,F] ?_
                 refine q4_u 16 80 #[T,T,T,T,T,T,T,T,T,T,T,T,T,T,T,T,T,F,F,F,F,F,F,F,F,F,F,F,F,F,F,F,F,F,F] ?_
                 refine q4_u 17 81 #[T,T,T,T,T,T,T,T,T,T,T,T,T,T,T,T,T,T,F,F,F,F,F,F,F,F,F,F,F,F,F,F,F,F,F] ?_
                 refine q4_u 18 82 #[T,T,T,T,T,T,T,T,T,T,T,T,T,T,T,T,T,T,T,F,F,F,F,F,F,F,F,F,F,F,F,F,F,F,F] ?_
                 refine q4_u 19 83 #[T,T,T,T,T,T,T,T,T,T,T,T,T,T,T,T,T,T,T,T,F,F,F,F,F,F,F,F,F,F,F,F,F,F,F] ?_
                 refine q4_u 20 84 #[T,T,T,T,T,T,T,T,T,T,T,T,T,T,T,T,T,T,T,T,T,F,F,F,F,F,F,F,F,F,F,F,F,F,F] ?_
                 refine q4_u 21 85 #[T,T,T,T,T,T,T,T,T,T,T,T,T,T,T,T,T,T,T,T,T,T,F,F,F,F,F,F,F,F,F,F,F,F,F] ?_
                 refine q4_u 22 86 #[T,T,T,T,T,T,T,T,T,T,T,T,T,T,T,T,T,T,T,T,T,T,T,F,F,F,F,F,F,F,F,F,F,F,F] ?_
                 refine q4_u 23 87 #[T,T,T,T,T,T,T,T,T,T,T,T,T,T,T,T,T,T,T,T,T,T,T,T,F,F,F,F,F,F,F,F,F,F,F] ?_
                 refine q4_p 24 88 #[T,T,T,T,T,T,T,T,T,T,T,T,T,T,T,T,T,T,T,T,T,T,T,T,T,F,F,F,F,F,F,F,F,F,F] ?_
                 refine q4_p 25 89 #[T,T,T,T,T,T,T,T,T,T,T,T,T,T,T,T,T,T,T,T,T,T,T,T,T,T,F,F,F,F,F,F,F,F,F] ?_
                 refine q4_p 26 90 #[T,T,T,T,T,T,T,T,T,T,T,T,T,T,T,T,T,T,T,T,T,T,T,T,T,T,T,F,F,F,F,F,F,F,F] ?_
                 refine q4_p 27 91 #[T,T,T,T,T,T,T,T,T,T,T,T,T,T,T,T,T,T,T,T,T,T,T,T,T,T,T,T,F,F,F,F,F,F,F] ?_
                 refine q4_p 29 93 #[T,T,T,T,T,T,T,T,T,T,T,T,T,T,T,T,T,T,T,T,T,T,T,T,T,T,T,T,F,T,F,F,F,F,F] ?_
                 refine q4_p 31 95 #[T,T,T,T,T,T,T,T,T,T,T,T,T,T,T,T,T,T,T,T,T,T,T,T,T,T,T,T,F,T,F,T,F,F,F] ?_
                 refine take_ (i := 28) (N := some 92) (v := ?_) (a' := ?_) #[T,T,T,T,T,T,T,T,T,T,T,T,T,T,T,T,T,T,T,T,T,T,T,T,T,T,T,T,T,T,F,T,F,F,F] rfl rfl (take_ofW HT_.out HW_.out q4_9) (fun _ _ _ h => h) (Or.inl ⟨by rfl, ?_⟩) hHeld ?_ ?_
                 rotate_left
                 ·rintro w' ⟨s0, s1, s2, s3, s4⟩
                  go_simp
                  with_reducible rfl
                 rotate_left
                 ·simp only [Act.put, List.setIfInBounds_toArray, List.set_cons_zero, List.set_cons_succ, i64_w, i32_w]
                  rfl
                 refine q4_p 30 94 #[T,T,T,T,T,T,T,T,T,T,T,T,T,T,T,T,T,T,T,T,T,T,T,T,T,T,T,T,T,T,T,T,F,F,F] ?_
                 refine take_ (i := 32) (N := some 96) (v := ?_) (a' := ?_) #[T,T,T,T,T,T,T,T,T,T,T,T,T,T,T,T,T,T,T,T,T,T,T,T,T,T,T,T,T,T,T,T,T,F,F] rfl rfl (take_ofW HT_.out HW_.out q4_9) (fun _ _ _ h => h) (Or.inl ⟨by rfl, ?_⟩) hHeld ?_ ?_
                 rotate_left
                 ·rintro w' ⟨s0, s1, s2, s3, s4⟩
                  go_simp
                  with_reducible rfl
                 rotate_left
                 ·simp only [Act.put, List.setIfInBounds_toArray, List.set_cons_zero, List.set_cons_succ, i64_w, i32_w]
                  rfl
                 refine one_ (i := 33) (N := some 97) #[T,T,T,T,T,T,T,T,T,T,T,T,T,T,T,T,T,T,T,T,T,T,T,T,T,T,T,T,T,T,T,T,T,T,F] rfl rfl (one_of HT_.out q4_9) (by decide) (fun K hK => ?_)
                 refine goes_ Try.func38 q4_9 rfl #[.slice (some ad158) y166.length c0_2, .int .i64 ((rd_T48 l0_2 x59_3).f0)] (by rfl) rfl rfl q4_8 ?_
                 with_reducible refine (spec_l06Node.calls k3 _ _ y166 ((rd_T48 l0_2 x59_3).f0) true _ ?side1 ?side2 A71.out).mono ?_
                 (case side1 => repeat (first | exact (Kd.C_below HR169.out HB.out) | (with_reducible refine Kd.C_alloc ?_ _) | (with_reducible refine Kd.C_drewN ?_ _) | (with_reducible refine Kd.C_drew ?_)))
                 (case side2 => exact HC169.out)
                 rintro e w79 ⟨rfl, hb⟩
                 refine ⟨_, rfl, ?_⟩
                 have n0_ := Aside0.mk (blk_below (g := gb155) (o := .cells #[.int .i64 a0_0, .slice A0_1 l0_1.length c0_1, .slice (some ad158) l0_2.length c0_2] 30 (0, 0)) q4_1 hb)
                 have n1_ := Aside0.mk (blk_below (g := gb159) (o := .cells #[.int .i64 ((rd_T48 l0_2 x59_3).f0), .int .i64 ((rd_T48 l0_2 x59_3).f1)] 48 (0, 0)) q4_13 hb)
                 have n2_ := Aside0.mk (below_step q4_2 hb)
                 clear BK155
                 clear BK159
                 clear HB
                 have BK155 := n0_
                 have BK159 := n1_
                 have HB := n2_
                 clear n0_ n1_ n2_
                 (try clear hb)
                 (try clear hb2)
                 (try clear hk)
                 (try clear hi)
                 refine hK.out _ _ ⟨(blk_cell BK159.out 0).trans rfl, (blk_cell BK159.out 1).trans rfl, (blk_cell BK155.out 0).trans rfl, (blk_cell BK155.out 1).trans rfl, (blk_cell BK155.out 2).trans rfl⟩ (fun hHeld => ?_)
                 clear hK K
                 refine norm_ (a' := ?_) ?_ ?_
                 rotate_left
                 ·show Act.put _ (some 97) _ = _
                  simp only [Act.put, List.setIfInBounds_toArray, List.set_cons_zero, List.set_cons_succ, i64_w, i32_w]
                  rfl
                 refine q4_p 34 98 #[T,T,T,T,T,T,T,T,T,T,T,T,T,T,T,T,T,T,T,T,T,T,T,T,T,T,T,T,T,T,T,T,T,T,T] ?_
                 refine done_ (done_of HT_.out q4_9) ?_
                 try go_wp2
                 go_ret
                 exact ⟨q4_10, q4_2⟩
                ·replace c72 := Bool.eq_false_iff.mpr c72
                 subst c72
                 have H1 : (spec_AgesOk.l1 k3 l0_2 (l0_2.length : Int) (wrap64 (x59_3 + 1)) a0_0 l0_1 l0_2) = some r := by rw [if_neg (show ¬ (false = true) by decide)] at H; exact H
                 clear H
                 have H := H1
                 clear H1
                 have H' := Aside0.mk H
                 clear H
                 have p158 : 0 ≤ (x59_3 : Int) := of_decide_eq_true q4_5
                 have q158 : x59_3 < (l0_2.length : Int) := of_decide_eq_true q4_5
                 obtain ⟨ad158, e158, hx158_0, hx158_1⟩ := at_T48 HR0_2.out x59_3 p158 q158
                 cases e158
                 replace hx158_0 := (HB.out.cell (World.block_lt_of_cell? w _ hx158_0)).trans hx158_0
                 replace hx158_1 := (HB.out.cell (World.block_lt_of_cell? w _ hx158_1)).trans hx158_1
                 replace p158 := eq_true p158
                 replace q158 := eq_true q158
                 try go_wp2_with (first | ((with_reducible refine gate_dst (N := 6) rfl ?_); (try (refine gate_guard (by rfl) ?_; dsimp only)); refine box_event ?hg (N := 6) ?hd (cs := #[.int .i64 0, .int .i64 0]) (t := 48) ?hr ?_; (case hd => rfl); (case hg => rfl); (case hr => first | (go_simp; done) | (go_simp; rfl)); intro gb159 hg w80 hbox hb; have n0_ := Aside0.mk (blk_below (g := gb155) (o := .cells #[.int .i64 a0_0, .slice A0_1 l0_1.length c0_1, .slice (some ad158) l0_2.length c0_2] 30 (0, 0)) q4_1 hb); have n1_ := Aside0.mk (below_step q4_0 hb); have n2_ := Aside0.mk (hbox); have n3_ := Aside0.mk ((q4_12 : w.heap.size ≤ gb159)); have n4_ := Aside0.mk ((q4_12 : w.heap.size ≤ gb159)); have n5_ := Aside0.mk ((q4_6 : gb155 ≠ gb159)); have n6_ := Aside0.mk ((q4_7 : gb159 ≠ gb155)); clear BK155; clear HB; have BK155 := n0_; have HB := n1_; have BK159 := n2_; have GW159 := n3_; have GE159 := n4_; have NB155_159 := n5_; have NB159_155 := n6_; clear n0_ n1_ n2_ n3_ n4_ n5_ n6_; clear hb hbox hg; have hnb81 := NB159_155.out; have hnc81 := NB155_159.out; have hcz82_0 : w80.cell? ⟨gb159, 0, none⟩ = some (.int .i64 0) := (blk_cell BK159.out 0).trans rfl; have hcz82_1 : w80.cell? ⟨gb159, 1, none⟩ = some (.int .i64 0) := (blk_cell BK159.out 1).trans rfl; have hfz82_0 := blk_frozen BK159.out 0; have hfz82_1 := blk_frozen BK159.out 1))
                 have n0_ : Aside0 (((w80.setCell ⟨gb159, 0, none⟩ (.int .i64 ((rd_T48 l0_2 x59_3).f0))).setCell ⟨gb159, 1, none⟩ (.int .i64 ((rd_T48 l0_2 x59_3).f1))).heap[gb155]? = some (.cells #[.int .i64 a0_0, .slice A0_1 l0_1.length c0_1, .slice (some ad158) l0_2.length c0_2] 30 (0, 0))) := ⟨q4_4⟩
                 have n1_ : Aside0 (((w80.setCell ⟨gb159, 0, none⟩ (.int .i64 ((rd_T48 l0_2 x59_3).f0))).setCell ⟨gb159, 1, none⟩ (.int .i64 ((rd_T48 l0_2 x59_3).f1))).heap[gb159]? = some (.cells #[.int .i64 ((rd_T48 l0_2 x59_3).f0), .int .i64 ((rd_T48 l0_2 x59_3).f1)] 48 (0, 0))) := ⟨q4_3⟩
                 have n2_ : Aside0 (Below w.heap.size w ((w80.setCell ⟨gb159, 0, none⟩ (.int .i64 ((rd_T48 l0_2 x59_3).f0))).setCell ⟨gb159, 1, none⟩ (.int .i64 ((rd_T48 l0_2 x59_3).f1)))) := ⟨q4_2⟩
                 (try clear BK155)
                 (try clear BK159)
                 (try clear HB)
                 generalize ((w80.setCell ⟨gb159, 0, none⟩ (.int .i64 ((rd_T48 l0_2 x59_3).f0))).setCell ⟨gb159, 1, none⟩ (.int .i64 ((rd_T48 l0_2 x59_3).f1))) = w83 at n0_ n1_ n2_ ⊢
                 have BK155 := n0_
                 have BK159 := n1_
                 have HB := n2_
                 clear n0_ n1_ n2_
                 have n0_ := Aside0.mk (blk_drew BK155.out)
                 have n1_ := Aside0.mk (blk_drew BK159.out)
                 have n2_ := Aside0.mk (below_drew1 HB.out)
                 clear BK155
                 clear BK159
                 clear HB
                 have BK155 := n0_
                 have BK159 := n1_
                 have HB := n2_
                 clear n0_ n1_ n2_
                 have q85 : (x59_3 : Int) ≤ ((l0_2.length : Int) : Int) := of_decide_eq_true q4_5
                 obtain ⟨i085, hi085, _, hsz85, _⟩ := info_parts info48
                 have hroom85 : l0_2.length ≤ c0_2 := HC0_2.out
                 have hC85 : Kd.C k48 _ (some ad158) l0_2.length l0_2 := HR0_2.out
                 have hcut85 := cut_to (P := Try.prog) 28 48 .i64 Try.underlying28 hi085 (some ad158) l0_2.length c0_2 x59_3 (of_decide_eq_true q4_5) q85 hroom85
                 have hr85 := Kd.C_take (m := (x59_3 : Int).toNat) hC85 (by omega)
                 have hy85 : y166.length = (x59_3 : Int).toNat := (by rw [Ny166.out, List.length_take]; omega)
                 rw [← Ny166.out] at hr85
                 rw [← hy85] at hcut85
                 have HR169 := Aside0.mk hr85
                 have HC169 := Aside0.mk (show y166.length ≤ c0_2 from by omega)
                 clear hr85 hC85 hroom85 hi085 hsz85
                 have KY85 := Aside0.mk hy85
                 clear hy85
                 replace q85 := eq_true q85
                 refine start_ (n := 35) (S := fun w' => w'.cell? ⟨gb159, 0, none⟩ = some (.int .i64 ((rd_T48 l0_2 x59_3).f0)) ∧ w'.cell? ⟨gb159, 1, none⟩ = some (.int .i64 ((rd_T48 l0_2 x59_3).f1)) ∧ w'.cell? ⟨gb155, 0, none⟩ = some (.int .i64 a0_0) ∧ w'.cell? ⟨gb155, 1, none⟩ = some (.slice A0_1 l0_1.length c0_1) ∧ w'.cell? ⟨gb155, 2, none⟩ = some (.slice (some ad158) l0_2.length c0_2)) (ds := []) #[F,F,F,F,F,F,F,F,F,F,F,F,F,F,F,F,F,F,F,F,F,F,F,F,F,F,F,F,F,F,F,F,F,F,F] q4_9 rfl rfl ⟨(blk_cell BK159.out 0).trans rfl, (blk_cell BK159.out 1).trans rfl, (blk_cell BK155.out 0).trans rfl, (blk_cell BK155.out 1).trans rfl, (blk_cell BK155.out 2).trans rfl⟩ (fun hHeld => ?_); refine with_tabW spec_AgesOk.tab12 spec_AgesOk.bits12 (fun HT_ HW_ => ?_)
                 generalize w83.drew = w84 at BK155 BK159 HB HR169 hHeld ⊢
                 refine q4_p 0 64 #[T,F,F,F,F,F,F,F,F,F,F,F,F,F,F,F,F,F,F,F,F,F,F,F,F,F,F,F,F,F,F,F,F,F,F] ?_
                 refine take_ (i := 1) (N := some 65) (v := ?_) (a' := ?_) #[T,T,F,F,F,F,F,F,F,F,F,F,F,F,F,F,F,F,F,F,F,F,F,F,F,F,F,F,F,F,F,F,F,F,F] rfl rfl (take_ofW HT_.out HW_.out q4_9) (fun _ _ _ h => h) (Or.inl ⟨by rfl, ?_⟩) hHeld ?_ ?_
                 rotate_left
                 ·rintro w' ⟨s0, s1, s2, s3, s4⟩
                  go_simp
                  with_reducible rfl
                 rotate_left
                 ·simp only [Act.put, List.setIfInBounds_toArray, List.set_cons_zero, List.set_cons_succ, i64_w, i32_w]
                  rfl
                 refine q4_p 2 66 #[T,T,T,F,F,F,F,F,F,F,F,F,F,F,F,F,F,F,F,F,F,F,F,F,F,F,F,F,F,F,F,F,F,F,F] ?_
                 refine q4_p 3 67 #[T,T,T,T,F,F,F,F,F,F,F,F,F,F,F,F,F,F,F,F,F,F,F,F,F,F,F,F,F,F,F,F,F,F,F] ?_
                 refine q4_p 4 68 #[T,T,T,T,T,F,F,F,F,F,F,F,F,F,F,F,F,F,F,F,F,F,F,F,F,F,F,F,F,F,F,F,F,F,F] ?_
                 refine q4_p 6 70 #[T,T,T,T,T,F,T,F,F,F,F,F,F,F,F,F,F,F,F,F,F,F,F,F,F,F,F,F,F,F,F,F,F,F,F] ?_
                 refine take_ (i := 5) (N := some 69) (v := ?_) (a' := ?_) #[T,T,T,T,T,T,T,F,F,F,F,F,F,F,F,F,F,F,F,F,F,F,F,F,F,F,F,F,F,F,F,F,F,F,F] rfl rfl (take_ofW HT_.out HW_.out q4_9) (fun _ _ _ h => h) (Or.inl ⟨by rfl, ?_⟩) hHeld ?_ ?_
                 rotate_left
                 ·rintro w' ⟨s0, s1, s2, s3, s4⟩
                  go_simp
                  with_reducible rfl
                 rotate_left
                 ·simp only [Act.put, List.setIfInBounds_toArray, List.set_cons_zero, List.set_cons_succ, i64_w, i32_w]
                  rfl
                 refine take_ (i := 7) (N := some 71) (v := ?_) (a' := ?_) #[T,T,T,T,T,T,T,T,F,F,F,F,F,F,F,F,F,F,F,F,F,F,F,F,F,F,F,F,F,F,F,F,F,F,F] rfl rfl (take_ofW HT_.out HW_.out q4_9) (fun _ _ _ h => h) (Or.inl ⟨by rfl, ?_⟩) hHeld ?_ ?_
                 rotate_left
                 ·rintro w' ⟨s0, s1, s2, s3, s4⟩
                  go_simp
                  with_reducible rfl
                 rotate_left
                 ·simp only [Act.put, List.setIfInBounds_toArray, List.set_cons_zero, List.set_cons_succ, i64_w, i32_w]
                  rfl
                 refine q4_p 8 72 #[T,T,T,T,T,T,T,T,T,F,F,F,F,F,F,F,F,F,F,F,F,F,F,F,F,F,F,F,F,F,F,F,F,F,F] ?_
                 refine q4_p 9 73 #[T,T,T,T,T,T,T,T,T,T,F,F,F,F,F,F,F,F,F,F,F,F,F,F,F,F,F,F,F,F,F,F,F,F,F] ?_
                 refine q4_p 10 74 #[T,T,T,T,T,T,T,T,T,T,T,F,F,F,F,F,F,F,F,F,F,F,F,F,F,F,F,F,F,F,F,F,F,F,F] ?_
                 refine q4_p 11 75 #[T,T,T,T,T,T,T,T,T,T,T,T,F,F,F,F,F,F,F,F,F,F,F,F,F,F,F,F,F,F,F,F,F,F,F] ?_
                 refine q4_p 12 76 #[T,T,T,T,T,T,T,T,T,T,T,T,T,F,F,F,F,F,F,F,F,F,F,F,F,F,F,F,F,F,F,F,F,F,F] ?_
                 refine q4_p 13 77 #[T,T,T,T,T,T,T,T,T,T,T,T,T,T,F,F,F,F,F,F,F,F,F,F,F,F,F,F,F,F,F,F,F,F,F] ?_
                 refine q4_u 14 78 #[T,T,T,T,T,T,T,T,T,T,T,T,T,T,T,F,F,F,F,F,F,F,F,F,F,F,F,F,F,F,F,F,F,F,F] ?_
                 refine q4_u 15 79 #[T,T,T,T,T,T,T,T,T,T,T,T,T,T,T,T,F,F,F,F,F,F,F,F,F,F,F,F,F,F,F,F,F,F,F] ?_
                 refine q4_u 16 80 #[T,T,T,T,T,T,T,T,T,T,T,T,T,T,T,T,T,F,F,F,F,F,F,F,F,F,F,F,F,F,F,F,F,F,F] ?_
                 refine q4_u 17 81 #[T,T,T,T,T,T,T,T,T,T,T,T,T,T,T,T,T,T,F,F,F,F,F,F,F,F,F,F,F,F,F,F,F,F,F] ?_
                 refine q4_u 18 82 #[T,T,T,T,T,T,T,T,T,T,T,T,T,T,T,T,T,T,T,F,F,F,F,F,F,F,F,F,F,F,F,F,F,F,F] ?_
                 refine q4_u 19 83 #[T,T,T,T,T,T,T,T,T,T,T,T,T,T,T,T,T,T,T,T,F,F,F,F,F,F,F,F,F,F,F,F,F,F,F] ?_
                 refine q4_u 20 84 #[T,T,T,T,T,T,T,T,T,T,T,T,T,T,T,T,T,T,T,T,T,F,F,F,F,F,F,F,F,F,F,F,F,F,F] ?_
                 refine q4_u 21 85 #[T,T,T,T,T,T,T,T,T,T,T,T,T,T,T,T,T,T,T,T,T,T,F,F,F,F,F,F,F,F,F,F,F,F,F] ?_
                 refine q4_u 22 86 #[T,T,T,T,T,T,T,T,T,T,T,T,T,T,T,T,T,T,T,T,T,T,T,F,F,F,F,F,F,F,F,F,F,F,F] ?_
                 refine q4_u 23 87 #[T,T,T,T,T,T,T,T,T,T,T,T,T,T,T,T,T,T,T,T,T,T,T,T,F,F,F,F,F,F,F,F,F,F,F] ?_
                 refine q4_p 24 88 #[T,T,T,T,T,T,T,T,T,T,T,T,T,T,T,T,T,T,T,T,T,T,T,T,T,F,F,F,F,F,F,F,F,F,F] ?_
                 refine q4_p 25 89 #[T,T,T,T,T,T,T,T,T,T,T,T,T,T,T,T,T,T,T,T,T,T,T,T,T,T,F,F,F,F,F,F,F,F,F] ?_
                 refine q4_p 26 90 #[T,T,T,T,T,T,T,T,T,T,T,T,T,T,T,T,T,T,T,T,T,T,T,T,T,T,T,F,F,F,F,F,F,F,F] ?_
                 refine q4_p 27 91 #[T,T,T,T,T,T,T,T,T,T,T,T,T,T,T,T,T,T,T,T,T,T,T,T,T,T,T,T,F,F,F,F,F,F,F] ?_
                 refine q4_p 29 93 #[T,T,T,T,T,T,T,T,T,T,T,T,T,T,T,T,T,T,T,T,T,T,T,T,T,T,T,T,F,T,F,F,F,F,F] ?_
                 refine q4_p 31 95 #[T,T,T,T,T,T,T,T,T,T,T,T,T,T,T,T,T,T,T,T,T,T,T,T,T,T,T,T,F,T,F,T,F,F,F] ?_
                 refine take_ (i := 28) (N := some 92) (v := ?_) (a' := ?_) #[T,T,T,T,T,T,T,T,T,T,T,T,T,T,T,T,T,T,T,T,T,T,T,T,T,T,T,T,T,T,F,T,F,F,F] rfl rfl (take_ofW HT_.out HW_.out q4_9) (fun _ _ _ h => h) (Or.inl ⟨by rfl, ?_⟩) hHeld ?_ ?_
                 rotate_left
                 ·rintro w' ⟨s0, s1, s2, s3, s4⟩
                  go_simp
                  with_reducible rfl
                 rotate_left
                 ·simp only [Act.put, List.setIfInBounds_toArray, List.set_cons_zero, List.set_cons_succ, i64_w, i32_w]
                  rfl
                 refine q4_p 30 94 #[T,T,T,T,T,T,T,T,T,T,T,T,T,T,T,T,T,T,T,T,T,T,T,T,T,T,T,T,T,T,T,T,F,F,F] ?_
                 refine take_ (i := 32) (N := some 96) (v := ?_) (a' := ?_) #[T,T,T,T,T,T,T,T,T,T,T,T,T,T,T,T,T,T,T,T,T,T,T,T,T,T,T,T,T,T,T,T,T,F,F] rfl rfl (take_ofW HT_.out HW_.out q4_9) (fun _ _ _ h => h) (Or.inl ⟨by rfl, ?_⟩) hHeld ?_ ?_
                 rotate_left
                 ·rintro w' ⟨s0, s1, s2, s3, s4⟩
                  go_simp
                  with_reducible rfl
                 rotate_left
                 ·simp only [Act.put, List.setIfInBounds_toArray, List.set_cons_zero, List.set_cons_succ, i64_w, i32_w]
                  rfl
                 refine one_ (i := 33) (N := some 97) #[T,T,T,T,T,T,T,T,T,T,T,T,T,T,T,T,T,T,T,T,T,T,T,T,T,T,T,T,T,T,T,T,T,T,F] rfl rfl (one_of HT_.out q4_9) (by decide) (fun K hK => ?_)
                 refine goes_ Try.func38 q4_9 rfl #[.slice (some ad158) y166.length c0_2, .int .i64 ((rd_T48 l0_2 x59_3).f0)] (by rfl) rfl rfl q4_8 ?_
                 with_reducible refine (spec_l06Node.calls k3 _ _ y166 ((rd_T48 l0_2 x59_3).f0) false _ ?side1 ?side2 A71.out).mono ?_
                 (case side1 => repeat (first | exact (Kd.C_below HR169.out HB.out) | (with_reducible refine Kd.C_alloc ?_ _) | (with_reducible refine Kd.C_drewN ?_ _) | (with_reducible refine Kd.C_drew ?_)))
                 (case side2 => exact HC169.out)
                 rintro e w86 ⟨rfl, hb⟩
                 refine ⟨_, rfl, ?_⟩
                 have n0_ := Aside0.mk (blk_below (g := gb155) (o := .cells #[.int .i64 a0_0, .slice A0_1 l0_1.length c0_1, .slice (some ad158) l0_2.length c0_2] 30 (0, 0)) q4_1 hb)
                 have n1_ := Aside0.mk (blk_below (g := gb159) (o := .cells #[.int .i64 ((rd_T48 l0_2 x59_3).f0), .int .i64 ((rd_T48 l0_2 x59_3).f1)] 48 (0, 0)) q4_13 hb)
                 have n2_ := Aside0.mk (below_step q4_2 hb)
                 clear BK155
                 clear BK159
                 clear HB
                 have BK155 := n0_
                 have BK159 := n1_
                 have HB := n2_
                 clear n0_ n1_ n2_
                 (try clear hb)
                 (try clear hb2)
                 (try clear hk)
                 (try clear hi)
                 refine hK.out _ _ ⟨(blk_cell BK159.out 0).trans rfl, (blk_cell BK159.out 1).trans rfl, (blk_cell BK155.out 0).trans rfl, (blk_cell BK155.out 1).trans rfl, (blk_cell BK155.out 2).trans rfl⟩ (fun hHeld => ?_)
                 clear hK K
                 refine norm_ (a' := ?_) ?_ ?_
                 rotate_left
                 ·show Act.put _ (some 97) _ = _
                  simp only [Act.put, List.setIfInBounds_toArray, List.set_cons_zero, List.set_cons_succ, i64_w, i32_w]
                  rfl
                 refine q4_p 34 98 #[T,T,T,T,T,T,T,T,T,T,T,T,T,T,T,T,T,T,T,T,T,T,T,T,T,T,T,T,T,T,T,T,T,T,T] ?_
                 refine done_ (done_of HT_.out q4_9) ?_
                 try go_wp2
                 go_roundg k3
                 case measure => have := HJ1.out; have := HK2.out; have := HK3.out; omega
                 case rel => exact ⟨(wrap64 (x59_3 + 1)), q4_11, H', ⟨by have := HJ1.out; have := HK2.out; have := HK3.out; omega⟩, ⟨q4_1⟩, ⟨q4_2⟩⟩
               ·rw [if_neg c70] at H
                exact absurd H (by simp)
           ·rw [if_neg c28] at H
            exact absurd H (by simp)
          ·rw [if_neg c27] at H
           exact absurd H (by simp)
         ·rw [if_neg c26] at H
          have c26b0 : decide (x59_3 < (l0_2.length : Int)) = false := decide_eq_false c26
          clear c26
          obtain rfl := Option.some.inj H
          go_wp2
          go_ret
          exact ⟨q4_10, q4_0⟩

end Go.Proofs.Ytlnjhgjjfplodaa.PFnExactCollect
