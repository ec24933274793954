-- Written by the session's own patched copy of the printer (wip/patch_print.py).
import Derived.Test.YtndkfjecipjiaaaPFnExactCrewOkx0
import Derived.Test.YtndkfjecipjiaaaPFnExactCrewOkx1
import Derived.Test.YtndkfjecipjiaaaPFnExactCrewOkx4
import Derived.Test.YtndkfjecipjiaaaPFnExactCrewOkx5
namespace Go.Proofs.Ytndkfjecipjiaaa.PFnExactCrewOk
open Go.RowKit Go.Proofs.YtndkfjecipjiaaaW.PrintWords Go.Proofs.YtndkfjecipjiaaaW.PrintLast Go.Proofs.YtndkfjecipjiaaaW.PrintMore
attribute [local go_sem] max2_int min2_int max_two min_two max_three min_three max_four min_four   -- for this text's walks alone
set_option linter.unusedVariables false
set_option linter.unusedSimpArgs false

attribute [local go_sem high] eqA75
theorem q6_p {P : Program} {ops : Array Oper} {Q : Exit → Act → World → Prop} {md : Region.Mode} {S : World → Prop} {ds : List Nat} (i n : Nat) {oi : Oper} {v : Value} {fuel : Nat} {l : Array Bool} {a : Act} {w : World} (l' : Array Bool) {a' : Act} (h : wpAnyLast P md ops Q S ds fuel l' a' w) (hi : ops[i]? = some oi := by rfl) (hN : oi.dst = some n := by rfl) (hc : anyB md ops l l' i = true := by exact any_of HT_.out (by kernel_rfl)) (hQ : ∀ c a w, Q (.panic c) (a.put oi.dst v) w → Q (.panic c) a w := by exact fun _ _ _ h => h) (hy : Yields P ops oi v a := by refine Or.inl ⟨by rfl, ?_⟩; intro w'; go_simp; with_reducible rfl) (ha : a.put (some n) v = a' := by simp only [Act.put, List.setIfInBounds_toArray, List.set_cons_zero, List.set_cons_succ, i64_w, i32_w]; rfl) : wpAnyLast P md ops Q S ds (fuel + 1) l a w := pure_ (N := some n) l' hi hN hc hQ hy ha h
theorem q6_u {P : Program} {ops : Array Oper} {Q : Exit → Act → World → Prop} {md : Region.Mode} {S : World → Prop} {ds : List Nat} (i n : Nat) {oi : Oper} {fuel : Nat} {l : Array Bool} {a : Act} {w : World} (l' : Array Bool) {a' : Act} (h : wpAnyLast P md ops Q S ds fuel l' a' w) (hi : ops[i]? = some oi := by rfl) (hN : oi.dst = some n := by rfl) (hc : anyB md ops l l' i = true := by exact any_of HT_.out (by kernel_rfl)) (hQ : ∀ c a w, Q (.panic c) (a.put oi.dst undef) w → Q (.panic c) a w := by exact fun _ _ _ h => h) (hy : Yields P ops oi undef a := by exact Or.inr ⟨by rfl, rfl⟩) (ha : a.put (some n) undef = a' := by simp only [Act.put, List.setIfInBounds_toArray, List.set_cons_zero, List.set_cons_succ, i64_w, i32_w]; rfl) : wpAnyLast P md ops Q S ds (fuel + 1) l a w := pure_ (N := some n) l' hi hN hc hQ hy ha h
open Bool renaming true → T, false → F
theorem q6_0 {p : Prop} (h : p := by (with_reducible repeat (first | refine blk_drewN ?_ _ | refine blk_drew ?_ | refine blk_alloc ?_ _)); refine blk_put (cs := #[.int .i64 ((rd_T75 bA aA).f0), .int .i64 ((rd_T75 bA aA).f1), .int .i64 ((rd_T75 bA aA).f2), .int .i64 ((rd_T75 bA aA).f3), .int .i64 ((rd_T75 bA aA).f4), .int .i64 ((rd_T75 bA aA).f5), .int .i64 ((rd_T75 bA aA).f6), .int .i64 ((rd_T75 bA aA).f7), .int .i64 ((rd_T75 bA aA).f8), .bool false]) ?_ 9 _ rfl; (with_reducible repeat (first | refine blk_drewN ?_ _ | refine blk_drew ?_ | refine blk_alloc ?_ _)); refine blk_put (cs := #[.int .i64 ((rd_T75 bA aA).f0), .int .i64 ((rd_T75 bA aA).f1), .int .i64 ((rd_T75 bA aA).f2), .int .i64 ((rd_T75 bA aA).f3), .int .i64 ((rd_T75 bA aA).f4), .int .i64 ((rd_T75 bA aA).f5), .int .i64 ((rd_T75 bA aA).f6), .int .i64 ((rd_T75 bA aA).f7), .int .i64 0, .bool false]) ?_ 8 _ rfl; (with_reducible repeat (first | refine blk_drewN ?_ _ | refine blk_drew ?_ | refine blk_alloc ?_ _)); refine blk_put (cs := #[.int .i64 ((rd_T75 bA aA).f0), .int .i64 ((rd_T75 bA aA).f1), .int .i64 ((rd_T75 bA aA).f2), .int .i64 ((rd_T75 bA aA).f3), .int .i64 ((rd_T75 bA aA).f4), .int .i64 ((rd_T75 bA aA).f5), .int .i64 ((rd_T75 bA aA).f6), .int .i64 0, .int .i64 0, .bool false]) ?_ 7 _ rfl; (with_reducible repeat (first | refine blk_drewN ?_ _ | refine blk_drew ?_ | refine blk_alloc ?_ _)); refine blk_put (cs := #[.int .i64 ((rd_T75 bA aA).f0), .int .i64 ((rd_T75 bA aA).f1), .int .i64 ((rd_T75 bA aA).f2), .int .i64 ((rd_T75 bA aA).f3), .int .i64 ((rd_T75 bA aA).f4), .int .i64 ((rd_T75 bA aA).f5), .int .i64 0, .int .i64 0, .int .i64 0, .bool false]) ?_ 6 _ rfl; (with_reducible repeat (first | refine blk_drewN ?_ _ | refine blk_drew ?_ | refine blk_alloc ?_ _)); refine blk_put (cs := #[.int .i64 ((rd_T75 bA aA).f0), .int .i64 ((rd_T75 bA aA).f1), .int .i64 ((rd_T75 bA aA).f2), .int .i64 ((rd_T75 bA aA).f3), .int .i64 ((rd_T75 bA aA).f4), .int .i64 0, .int .i64 0, .int .i64 0, .int .i64 0, .bool false]) ?_ 5 _ rfl; (with_reducible repeat (first | refine blk_drewN ?_ _ | refine blk_drew ?_ | refine blk_alloc ?_ _)); refine blk_put (cs := #[.int .i64 ((rd_T75 bA aA).f0), .int .i64 ((rd_T75 bA aA).f1), .int .i64 ((rd_T75 bA aA).f2), .int .i64 ((rd_T75 bA aA).f3), .int .i64 0, .int .i64 0, .int .i64 0, .int .i64 0, .int .i64 0, .bool false]) ?_ 4 _ rfl; (with_reducible repeat (first | refine blk_drewN ?_ _ | refine blk_drew ?_ | refine blk_alloc ?_ _)); refine blk_put (cs := #[.int .i64 ((rd_T75 bA aA).f0), .int .i64 ((rd_T75 bA aA).f1), .int .i64 ((rd_T75 bA aA).f2), .int .i64 0, .int .i64 0, .int .i64 0, .int .i64 0, .int .i64 0, .int .i64 0, .bool false]) ?_ 3 _ rfl; (with_reducible repeat (first | refine blk_drewN ?_ _ | refine blk_drew ?_ | refine blk_alloc ?_ _)); refine blk_put (cs := #[.int .i64 ((rd_T75 bA aA).f0), .int .i64 ((rd_T75 bA aA).f1), .int .i64 0, .int .i64 0, .int .i64 0, .int .i64 0, .int .i64 0, .int .i64 0, .int .i64 0, .bool false]) ?_ 2 _ rfl; (with_reducible repeat (first | refine blk_drewN ?_ _ | refine blk_drew ?_ | refine blk_alloc ?_ _)); refine blk_put (cs := #[.int .i64 ((rd_T75 bA aA).f0), .int .i64 0, .int .i64 0, .int .i64 0, .int .i64 0, .int .i64 0, .int .i64 0, .int .i64 0, .int .i64 0, .bool false]) ?_ 1 _ rfl; (with_reducible repeat (first | refine blk_drewN ?_ _ | refine blk_drew ?_ | refine blk_alloc ?_ _)); refine blk_put (cs := #[.int .i64 0, .int .i64 0, .int .i64 0, .int .i64 0, .int .i64 0, .int .i64 0, .int .i64 0, .int .i64 0, .int .i64 0, .bool false]) ?_ 0 _ rfl; (with_reducible repeat (first | refine blk_drewN ?_ _ | refine blk_drew ?_ | refine blk_alloc ?_ _)); exact dA.out) : p := h
theorem q6_1 {p : Prop} (h : p := by (with_reducible repeat (first | refine blk_drewN ?_ _ | refine blk_drew ?_ | refine blk_alloc ?_ _)); refine blk_far ?_ kA.out _; (with_reducible repeat (first | refine blk_drewN ?_ _ | refine blk_drew ?_ | refine blk_alloc ?_ _)); refine blk_far ?_ kA.out _; (with_reducible repeat (first | refine blk_drewN ?_ _ | refine blk_drew ?_ | refine blk_alloc ?_ _)); refine blk_far ?_ kA.out _; (with_reducible repeat (first | refine blk_drewN ?_ _ | refine blk_drew ?_ | refine blk_alloc ?_ _)); refine blk_far ?_ kA.out _; (with_reducible repeat (first | refine blk_drewN ?_ _ | refine blk_drew ?_ | refine blk_alloc ?_ _)); refine blk_far ?_ kA.out _; (with_reducible repeat (first | refine blk_drewN ?_ _ | refine blk_drew ?_ | refine blk_alloc ?_ _)); refine blk_far ?_ kA.out _; (with_reducible repeat (first | refine blk_drewN ?_ _ | refine blk_drew ?_ | refine blk_alloc ?_ _)); refine blk_far ?_ kA.out _; (with_reducible repeat (first | refine blk_drewN ?_ _ | refine blk_drew ?_ | refine blk_alloc ?_ _)); refine blk_far ?_ kA.out _; (with_reducible repeat (first | refine blk_drewN ?_ _ | refine blk_drew ?_ | refine blk_alloc ?_ _)); refine blk_far ?_ kA.out _; (with_reducible repeat (first | refine blk_drewN ?_ _ | refine blk_drew ?_ | refine blk_alloc ?_ _)); refine blk_far ?_ kA.out _; (with_reducible repeat (first | refine blk_drewN ?_ _ | refine blk_drew ?_ | refine blk_alloc ?_ _)); exact fA.out) : p := h
theorem q6_2 {p : Prop} (h : p := by (with_reducible repeat (first | refine blk_drewN ?_ _ | refine blk_drew ?_ | refine blk_alloc ?_ _)); refine blk_far ?_ lA.out _; (with_reducible repeat (first | refine blk_drewN ?_ _ | refine blk_drew ?_ | refine blk_alloc ?_ _)); refine blk_far ?_ lA.out _; (with_reducible repeat (first | refine blk_drewN ?_ _ | refine blk_drew ?_ | refine blk_alloc ?_ _)); refine blk_far ?_ lA.out _; (with_reducible repeat (first | refine blk_drewN ?_ _ | refine blk_drew ?_ | refine blk_alloc ?_ _)); refine blk_far ?_ lA.out _; (with_reducible repeat (first | refine blk_drewN ?_ _ | refine blk_drew ?_ | refine blk_alloc ?_ _)); refine blk_far ?_ lA.out _; (with_reducible repeat (first | refine blk_drewN ?_ _ | refine blk_drew ?_ | refine blk_alloc ?_ _)); refine blk_far ?_ lA.out _; (with_reducible repeat (first | refine blk_drewN ?_ _ | refine blk_drew ?_ | refine blk_alloc ?_ _)); refine blk_far ?_ lA.out _; (with_reducible repeat (first | refine blk_drewN ?_ _ | refine blk_drew ?_ | refine blk_alloc ?_ _)); refine blk_far ?_ lA.out _; (with_reducible repeat (first | refine blk_drewN ?_ _ | refine blk_drew ?_ | refine blk_alloc ?_ _)); refine blk_far ?_ lA.out _; (with_reducible repeat (first | refine blk_drewN ?_ _ | refine blk_drew ?_ | refine blk_alloc ?_ _)); refine blk_far ?_ lA.out _; (with_reducible repeat (first | refine blk_drewN ?_ _ | refine blk_drew ?_ | refine blk_alloc ?_ _)); exact eA.out) : p := h
theorem q6_3 {p : Prop} (h : p := by repeat (first | (with_reducible first | exact HB.out | apply below_alloc | apply pw_below_drewN | apply below_drew1 | refine below_set ?_ IC.out | refine below_set ?_ eD.out) | exact HB.out)) : p := h
theorem q6_4 {p : Prop} (h : p := by repeat (first | (with_reducible first | exact HB.out | apply below_alloc | apply pw_below_drewN | apply below_drew1 | refine below_set ?_ IC.out | refine below_set ?_ eD.out | refine below_set ?_ vB.out) | exact HB.out)) : p := h
theorem q6_5 {p : Prop} (h : p := by (with_reducible repeat (first | refine blk_drewN ?_ _ | refine blk_drew ?_ | refine blk_alloc ?_ _)); exact fA.out) : p := h
theorem q6_6 {p : Prop} (h : p := by (with_reducible repeat (first | refine blk_drewN ?_ _ | refine blk_drew ?_ | refine blk_alloc ?_ _)); exact eA.out) : p := h
theorem q6_7 {p : Prop} (h : p := by first | (with_reducible assumption) | assumption) : p := h
theorem q6_8 {p : Prop} (h : p := by rw [hg]; exact Nat.ne_of_lt (blk_lt (g := hA) (o := .cells #[.int .i64 nA, .int .i64 qA, .slice MA oA.length NA, .slice OA pA.length PA, .int .i64 rA] 29 (0, 0)) q6_5)) : p := h
theorem q6_9 {p : Prop} (h : p := by rw [hg]; exact Nat.ne_of_gt (blk_lt (g := hA) (o := .cells #[.int .i64 nA, .int .i64 qA, .slice MA oA.length NA, .slice OA pA.length PA, .int .i64 rA] 29 (0, 0)) q6_5)) : p := h
theorem q6_10 {p : Prop} (h : p := by rw [hg]; exact Nat.ne_of_lt (blk_lt (g := gA) (o := .cells #[.slice (some ad177) bA.length JA, .int .i64 mA, .slice UA iA.length KA, .slice VA jA.length LA] 55 (0, 0)) q6_6)) : p := h
theorem q6_11 {p : Prop} (h : p := by rw [hg]; exact Nat.ne_of_gt (blk_lt (g := gA) (o := .cells #[.slice (some ad177) bA.length JA, .int .i64 mA, .slice UA iA.length KA, .slice VA jA.length LA] 55 (0, 0)) q6_6)) : p := h
theorem q6_12 {p : Prop} (h : p := by (try simp only [List.map_toArray, List.map_cons, List.map_nil]); first | done | rfl | (simp only [List.length_drop, List.length_take]; rfl)) : p := h
theorem q6_13 {p : Prop} (h : p := by (with_reducible repeat (first | refine blk_drewN ?_ _ | refine blk_drew ?_ | refine blk_alloc ?_ _)); exact dA.out) : p := h
theorem q6_14 {p : Prop} (h : p := by kernel_rfl) : p := h
theorem q6_15 {p : Prop} (h : p := by repeat (first | exact (Kd.C_below uD.out HB.out) | (with_reducible refine Kd.C_alloc ?_ _) | (with_reducible refine Kd.C_drewN ?_ _) | (with_reducible refine Kd.C_drew ?_))) : p := h
theorem q6_16 {p : Prop} (h : p := by repeat (first | exact (Kd.C_below vD.out HB.out) | (with_reducible refine Kd.C_alloc ?_ _) | (with_reducible refine Kd.C_drewN ?_ _) | (with_reducible refine Kd.C_drew ?_))) : p := h
theorem q6_17 {p : Prop} (h : p := by first | rfl | (simp [errW_none, errW_some] <;> rfl) | (simp [*, errW_none, errW_some] <;> rfl)) : p := h
theorem q6_18 {p : Prop} (h : p := by rw [hg]; exact (below_size q6_3)) : p := h
theorem q6_19 {p : Prop} (h : p := by repeat (first | (with_reducible first | exact HB.out | apply below_alloc | apply pw_below_drewN | apply below_drew1 | refine below_set ?_ IC.out) | exact HB.out)) : p := h
theorem q6_20 {p : Prop} (h : p := by first | rfl | (simp; done) | (simp [*]; done)) : p := h
theorem q6_21 {p : Prop} (h : p := by repeat (first | (with_reducible first | exact HB.out | apply below_alloc | apply pw_below_drewN | apply below_drew1) | exact HB.out)) : p := h
/-! ### spec_l07Thread: function 61 -/
mutual
def spec_l07Thread.j0 : Nat → Bool → Int → Int → List Int → List (S55) → Int → List (S75) → Int → List Int → List Int → Option (Bool)
 | 0, _, _, _, _, _, _, _, _, _, _ => none
 | k + 1, x37, lB, mB, nB, oB, pB, qB, rB, hB, iB => if x37 = true then (some false) else (spec_l07Thread.l0 k qB (qB.length : Int) 0 lB mB nB oB pB qB rB hB iB)
def spec_l07Thread.l0 : Nat → List (S75) → Int → Int → Int → Int → List Int → List (S55) → Int → List (S75) → Int → List Int → List Int → Option (Bool)
 | 0, _, _, _, _, _, _, _, _, _, _, _, _ => none
 | k + 1, x39, x40, x41, lB, mB, nB, oB, pB, qB, rB, hB, iB => if x41 < x40 then (if 0 ≤ x41 then (if x41 < (x39.length : Int) then (if (((rd_T75 x39 x41).f9) != (decide (x41 < rB))) = true then (some false) else (if x41 > rB then ((spec_l07Begin.f lB ((rd_T75 x39 x41).f0) ((rd_T75 x39 x41).f1) ((rd_T75 x39 x41).f2) ((rd_T75 x39 x41).f3) ((rd_T75 x39 x41).f4) ((rd_T75 x39 x41).f5) ((rd_T75 x39 x41).f6) ((rd_T75 x39 x41).f7) ((rd_T75 x39 x41).f8) ((rd_T75 x39 x41).f9)).bind fun sB => (if (!(((rd_T75 x39 x41).f0) == sB.1) || (!(((rd_T75 x39 x41).f1) == sB.2.1) || (!(((rd_T75 x39 x41).f2) == sB.2.2.1) || (!(((rd_T75 x39 x41).f3) == sB.2.2.2.1) || (!(((rd_T75 x39 x41).f4) == sB.2.2.2.2.1) || (!(((rd_T75 x39 x41).f5) == sB.2.2.2.2.2.1) || (!(((rd_T75 x39 x41).f6) == sB.2.2.2.2.2.2.1) || (!(((rd_T75 x39 x41).f7) == sB.2.2.2.2.2.2.2.1) || (!(((rd_T75 x39 x41).f8) == sB.2.2.2.2.2.2.2.2.1) || (!(((rd_T75 x39 x41).f9) == sB.2.2.2.2.2.2.2.2.2))))))))))) = true then (some false) else (if x41 < (hB.length : Int) then (if x41 < (iB.length : Int) then ((spec_l07Times.f k lB mB nB oB pB ((rd_T75 x39 x41).f0) ((rd_T75 x39 x41).f1) ((rd_T75 x39 x41).f2) ((rd_T75 x39 x41).f3) ((rd_T75 x39 x41).f4) ((rd_T75 x39 x41).f5) ((rd_T75 x39 x41).f6) ((rd_T75 x39 x41).f7) ((rd_T75 x39 x41).f8) ((rd_T75 x39 x41).f9) (rd hB x41) (rd iB x41)).bind fun HC => (if HC = true then (spec_l07Thread.l0 k x39 x40 (wrap64 (x41 + 1)) lB mB nB oB pB qB rB hB iB) else (some false))) else (none)) else (none)))) else (if x41 < (hB.length : Int) then (if x41 < (iB.length : Int) then ((spec_l07Times.f k lB mB nB oB pB ((rd_T75 x39 x41).f0) ((rd_T75 x39 x41).f1) ((rd_T75 x39 x41).f2) ((rd_T75 x39 x41).f3) ((rd_T75 x39 x41).f4) ((rd_T75 x39 x41).f5) ((rd_T75 x39 x41).f6) ((rd_T75 x39 x41).f7) ((rd_T75 x39 x41).f8) ((rd_T75 x39 x41).f9) (rd hB x41) (rd iB x41)).bind fun VC => (if VC = true then (spec_l07Thread.l0 k x39 x40 (wrap64 (x41 + 1)) lB mB nB oB pB qB rB hB iB) else (some false))) else (none)) else (none)))) else (none)) else (none)) else (some true)
end
def spec_l07Thread.f (k : Nat) (nA : Int) (qA : Int) (oA : List Int) (pA : List (S55)) (rA : Int) (bA : List (S75)) (mA : Int) (iA : List Int) (jA : List Int) : Option (Bool) := if (bA.length : Int) > 12 then (spec_l07Thread.j0 k true nA qA oA pA rA bA mA iA jA) else (if (iA.length : Int) = (bA.length : Int) then (if (jA.length : Int) = (bA.length : Int) then (if mA < 0 then (spec_l07Thread.j0 k true nA qA oA pA rA bA mA iA jA) else (spec_l07Thread.j0 k (decide (mA > (bA.length : Int))) nA qA oA pA rA bA mA iA jA)) else (spec_l07Thread.j0 k true nA qA oA pA rA bA mA iA jA)) else (spec_l07Thread.j0 k true nA qA oA pA rA bA mA iA jA))
theorem spec_l07Thread.mono_l : ∀ k, (∀ y0 y1 y2 y3 y4 y5 y6 y7 y8 y9, LeO (spec_l07Thread.j0 k y0 y1 y2 y3 y4 y5 y6 y7 y8 y9) (spec_l07Thread.j0 (k + 1) y0 y1 y2 y3 y4 y5 y6 y7 y8 y9)) ∧ (∀ y0 y1 y2 y3 y4 y5 y6 y7 y8 y9 y10 y11, LeO (spec_l07Thread.l0 k y0 y1 y2 y3 y4 y5 y6 y7 y8 y9 y10 y11) (spec_l07Thread.l0 (k + 1) y0 y1 y2 y3 y4 y5 y6 y7 y8 y9 y10 y11))
 | 0 => ⟨fun _ _ _ _ _ _ _ _ _ _ r h => by simp [spec_l07Thread.j0] at h, fun _ _ _ _ _ _ _ _ _ _ _ _ r h => by simp [spec_l07Thread.l0] at h⟩
 | k + 1 => by
  obtain ⟨ih0, ih1⟩ := spec_l07Thread.mono_l k
  refine ⟨?_, ?_⟩
  ·intro y0 y1 y2 y3 y4 y5 y6 y7 y8 y9
   unfold spec_l07Thread.j0
   repeat' first
   | (with_reducible exact ih0 _ _ _ _ _ _ _ _ _ _)
   | (with_reducible exact ih1 _ _ _ _ _ _ _ _ _ _ _ _)
   | (with_reducible exact spec_l07Times.mono _ _ _ _ _ _ _ _ _ _ _ _ _ _ _ _ _ _)
   | (with_reducible exact LeO.refl _)
   | (with_reducible exact LeO.none _)
   | (with_reducible refine LeO.ite ?_ ?_)
   | (with_reducible refine LeO.bind ?_ (fun _ => ?_))
   | exact ih0 _ _ _ _ _ _ _ _ _ _
   | exact ih1 _ _ _ _ _ _ _ _ _ _ _ _
   | exact spec_l07Times.mono _ _ _ _ _ _ _ _ _ _ _ _ _ _ _ _ _ _
   | exact LeO.none _
   | refine LeO.ite ?_ ?_
   | refine LeO.bind ?_ (fun _ => ?_)
  ·intro y0 y1 y2 y3 y4 y5 y6 y7 y8 y9 y10 y11
   unfold spec_l07Thread.l0
   repeat' first
   | (with_reducible exact ih0 _ _ _ _ _ _ _ _ _ _)
   | (with_reducible exact ih1 _ _ _ _ _ _ _ _ _ _ _ _)
   | (with_reducible exact spec_l07Times.mono _ _ _ _ _ _ _ _ _ _ _ _ _ _ _ _ _ _)
   | (with_reducible exact LeO.refl _)
   | (with_reducible exact LeO.none _)
   | (with_reducible refine LeO.ite ?_ ?_)
   | (with_reducible refine LeO.bind ?_ (fun _ => ?_))
   | exact ih0 _ _ _ _ _ _ _ _ _ _
   | exact ih1 _ _ _ _ _ _ _ _ _ _ _ _
   | exact spec_l07Times.mono _ _ _ _ _ _ _ _ _ _ _ _ _ _ _ _ _ _
   | exact LeO.none _
   | refine LeO.ite ?_ ?_
   | refine LeO.bind ?_ (fun _ => ?_)
theorem spec_l07Thread.mono : ∀ a0 a1 a2 a3 a4 a5 a6 a7 a8 k, LeO (spec_l07Thread.f k a0 a1 a2 a3 a4 a5 a6 a7 a8) (spec_l07Thread.f (k + 1) a0 a1 a2 a3 a4 a5 a6 a7 a8) := by
 intro a0 a1 a2 a3 a4 a5 a6 a7 a8 k
 obtain ⟨ih0, ih1⟩ := spec_l07Thread.mono_l k
 unfold spec_l07Thread.f
 repeat' first
   | (with_reducible exact ih0 _ _ _ _ _ _ _ _ _ _)
   | (with_reducible exact ih1 _ _ _ _ _ _ _ _ _ _ _ _)
   | (with_reducible exact spec_l07Times.mono _ _ _ _ _ _ _ _ _ _ _ _ _ _ _ _ _ _)
   | (with_reducible exact LeO.refl _)
   | (with_reducible exact LeO.none _)
   | (with_reducible refine LeO.ite ?_ ?_)
   | (with_reducible refine LeO.bind ?_ (fun _ => ?_))
   | exact ih0 _ _ _ _ _ _ _ _ _ _
   | exact ih1 _ _ _ _ _ _ _ _ _ _ _ _
   | exact spec_l07Times.mono _ _ _ _ _ _ _ _ _ _ _ _ _ _ _ _ _ _
   | exact LeO.none _
   | refine LeO.ite ?_ ?_
   | refine LeO.bind ?_ (fun _ => ?_)
def spec_l07Thread.T7 : Bool × List (List Nat × List Nat) := (true, [([], []), ([0], [0]), ([], []), ([], []), ([3], [3]), ([2, 4], [2, 4]), ([1, 5], [1, 5]), ([6], [6]), ([7], [7]), ([7], [7]), ([9, 7], [7, 9]), ([8, 10, 7], [7, 8, 10]), ([11, 7, 7], [7, 11]), ([12], [12]), ([12], [12]), ([14, 12], [12, 14]), ([12], [12]), ([15, 16, 12, 12], [12, 15, 16]), ([13, 17, 12], [12, 13, 17]), ([12, 18, 7], [7, 12, 18]), ([7, 19], [7, 19]), ([20, 17], [20]), ([21], [21]), ([21], [21]), ([21], [21]), ([24, 21], [21, 24]), ([21], [21]), ([25, 26, 21], [21, 25, 26]), ([27, 21], [21, 27]), ([21], [21]), ([29, 21], [21, 29]), ([21], [21]), ([30, 31, 21], [21, 30, 31]), ([32, 21], [21, 32]), ([22, 23, 28, 33, 21, 21], [21, 22, 23, 28, 33]), ([34, 21], [21, 34]), ([21, 35], [21, 35])])
def spec_l07Thread.B7 : List Nat := [0, 1, 0, 0, 8, 28, 63, 127, 255, 255, 767, 2047, 4095, 8191, 8191, 24575, 8191, 122879, 262143, 524287, 1048575, 2097151, 4194303, 4194303, 4194303, 20971519, 4194303, 121634815, 255852543, 4194303, 541065215, 4194303, 3762290687, 8057257983, 17179869183, 34359738367, 68719476735]
theorem spec_l07Thread.tab7 : rtab .any (opsOf Try.f61 7) = spec_l07Thread.T7 := by kernel_rfl
theorem spec_l07Thread.bits7 : waitsOk spec_l07Thread.T7.2 spec_l07Thread.B7 = true := by kernel_rfl
set_option maxHeartbeats 8000000 in
set_option maxRecDepth 100000 in
theorem spec_l07Thread.calls (k : Nat) (nA : Int) (qA : Int) (MA : Option Addr) (NA : Nat) (oA : List Int) (OA : Option Addr) (PA : Nat) (pA : List (S55)) (rA : Int) (tB : Option Addr) (JA : Nat) (bA : List (S75)) (mA : Int) (UA : Option Addr) (KA : Nat) (iA : List Int) (VA : Option Addr) (LA : Nat) (jA : List Int) (r : Bool) (w : World) (fD : Kd.C (Kd.int .i64) w MA oA.length oA) (gD : oA.length ≤ NA) (hD : Kd.C k55 w OA pA.length pA) (iD : pA.length ≤ PA) (jD : Kd.C k75 w tB bA.length bA) (wD : bA.length ≤ JA) (kD : Kd.C (Kd.int .i64) w UA iA.length iA) (xD : iA.length ≤ KA) (lD : Kd.C (Kd.int .i64) w VA jA.length jA) (yD : jA.length ≤ LA) (h : spec_l07Thread.f k nA qA oA pA rA bA mA iA jA = some r) :
  Calls Try.prog 61 #[.agg #[.int .i64 nA, .int .i64 qA, .slice MA oA.length NA, .slice OA pA.length PA, .int .i64 rA], .agg #[.slice tB bA.length JA, .int .i64 mA, .slice UA iA.length KA, .slice VA jA.length LA]] w fun e w' => e = .returned (.bool r) ∧ Below w.heap.size w w' := by
 have hu29 := Try.underlying29
 have hu55 := Try.underlying55
 have hu75 := Try.underlying75
 have uD := Aside0.mk fD
 have WB := Aside0.mk gD
 clear fD gD
 have vD := Aside0.mk hD
 have XB := Aside0.mk iD
 clear hD iD
 have wB := Aside0.mk jD
 clear jD wD
 have YB := Aside0.mk kD
 clear kD xD
 have ZB := Aside0.mk lD
 clear lD yD
 have HB := Aside0.mk (Below.refl w.heap.size w)
 have H : (if (bA.length : Int) > 12 then (spec_l07Thread.j0 k true nA qA oA pA rA bA mA iA jA) else (if (iA.length : Int) = (bA.length : Int) then (if (jA.length : Int) = (bA.length : Int) then (if mA < 0 then (spec_l07Thread.j0 k true nA qA oA pA rA bA mA iA jA) else (spec_l07Thread.j0 k (decide (mA > (bA.length : Int))) nA qA oA pA rA bA mA iA jA)) else (spec_l07Thread.j0 k true nA qA oA pA rA bA mA iA jA)) else (spec_l07Thread.j0 k true nA qA oA pA rA bA mA iA jA))) = some r := h
 clear h
 have HC3 := Aside0.mk H
 clear H
 go_enter Try.func61, Try.ntmps61
 go_upto_region 2 with (first | ((with_reducible refine gate_dst (N := 2) rfl ?_); (try (refine gate_guard (by rfl) ?_; dsimp only)); refine box_event ?hg (N := 2) ?hd (cs := #[.int .i64 nA, .int .i64 qA, .slice MA oA.length NA, .slice OA pA.length PA, .int .i64 rA]) (t := 29) ?hr ?_; (case hd => rfl); (case hg => rfl); (case hr => first | (go_simp; done) | (go_simp; rfl)); intro hA hg w4 hbox hb; have CA := Aside0.mk (below_step q6_21 hb); have DA := Aside0.mk (hbox); have EA := Aside0.mk ((by rw [hg]; exact (below_size q6_21) : w.heap.size ≤ hA)); have FA := Aside0.mk ((by rw [hg]; exact (below_size q6_21) : w.heap.size ≤ hA)); clear HB; have HB := CA; have fA := DA; have VF := EA; have IC := FA; clear CA DA EA FA; clear hb hbox hg) | ((with_reducible refine gate_dst (N := 3) rfl ?_); (try (refine gate_guard (by rfl) ?_; dsimp only)); refine box_event ?hg (N := 3) ?hd (cs := #[.slice tB bA.length JA, .int .i64 mA, .slice UA iA.length KA, .slice VA jA.length LA]) (t := 55) ?hr ?_; (case hd => rfl); (case hg => rfl); (case hr => first | (go_simp; done) | (go_simp; rfl)); intro gA hg w5 hbox hb; have CA := Aside0.mk (blk_below (g := hA) (o := .cells #[.int .i64 nA, .int .i64 qA, .slice MA oA.length NA, .slice OA pA.length PA, .int .i64 rA] 29 (0, 0)) q6_5 hb); have DA := Aside0.mk (below_step q6_19 hb); have EA := Aside0.mk (hbox); have FA := Aside0.mk ((by rw [hg]; exact (below_size q6_19) : w.heap.size ≤ gA)); have xB := Aside0.mk ((by rw [hg]; exact (below_size q6_19) : w.heap.size ≤ gA)); have yB := Aside0.mk ((q6_8 : hA ≠ gA)); have zB := Aside0.mk ((q6_9 : gA ≠ hA)); clear fA; clear HB; have fA := CA; have HB := DA; have eA := EA; have WF := FA; have eD := xB; have aB := yB; have bB := zB; clear CA DA EA FA xB yB zB; clear hb hbox hg; have MG := bB.out; have NG := aB.out; have JC : w5.cell? ⟨gA, 0, none⟩ = some (.slice tB bA.length JA) := (blk_cell eA.out 0).trans rfl; have KC : w5.cell? ⟨gA, 1, none⟩ = some (.int .i64 mA) := (blk_cell eA.out 1).trans rfl; have LC : w5.cell? ⟨gA, 2, none⟩ = some (.slice UA iA.length KA) := (blk_cell eA.out 2).trans rfl; have MC : w5.cell? ⟨gA, 3, none⟩ = some (.slice VA jA.length LA) := (blk_cell eA.out 3).trans rfl; have NC := blk_frozen eA.out 0; have OC := blk_frozen eA.out 1; have PC := blk_frozen eA.out 2; have QC := blk_frozen eA.out 3))
 (try simp only [Act.put, List.setIfInBounds_toArray, List.set_cons_zero, List.set_cons_succ])
 go_cut [37] (fun v37 wc => ∃ (kq : Nat) (aC : Bool), v37 = .bool aC ∧ Aside0 (spec_l07Thread.j0 kq aC nA qA oA pA rA bA mA iA jA = some r) ∧ Aside0 (kq ≤ k) ∧ Aside0 (wc.heap[hA]? = some (.cells #[.int .i64 nA, .int .i64 qA, (.slice MA oA.length NA), (.slice OA pA.length PA), .int .i64 rA] 29 (0, 0))) ∧ Aside0 (wc.heap[gA]? = some (.cells #[(.slice tB bA.length JA), .int .i64 mA, (.slice UA iA.length KA), (.slice VA jA.length LA)] 55 (0, 0))) ∧ Aside0 (Below w.heap.size w wc))
 case first =>
  have H := HC3.out
  clear HC3
  by_cases c8 : (bA.length : Int) > 12
  ·rw [if_pos c8] at H
   have EB : decide (12 < (bA.length : Int)) = true := decide_eq_true c8
   have mD : decide (12 < bA.length) = true := decide_eq_true (by omega)
   clear c8
   (first | rw [EB] | (simp only [i64_w, i32_w]; rw [EB]) | skip)
   have H' := Aside0.mk H
   clear H
   go_wp2
   go_meet
   case rel => exact ⟨_, (true), q6_20, H', ⟨by first | omega | exact Nat.le_refl _⟩, ⟨q6_5⟩, ⟨q6_6⟩, ⟨q6_3⟩⟩
  ·rw [if_neg c8] at H
   have EB : decide (12 < (bA.length : Int)) = false := decide_eq_false c8
   have mD : decide (12 < bA.length) = false := decide_eq_false (by omega)
   clear c8
   (first | rw [EB] | (simp only [i64_w, i32_w]; rw [EB]) | skip)
   by_cases c9 : (iA.length : Int) = (bA.length : Int)
   ·rw [if_pos c9] at H
    have nD : ((iA.length : Int) == (bA.length : Int)) = true := beq_iff_eq.mpr c9
    have oD : ((iA.length : Int) != (bA.length : Int)) = false := bne_eq_false_iff_eq.mpr c9
    have pD : (iA.length == bA.length) = true := by first | simpa using c9 | (simp at c9 ⊢; omega)
    clear c9
    by_cases c10 : (jA.length : Int) = (bA.length : Int)
    ·rw [if_pos c10] at H
     have RC : ((jA.length : Int) == (bA.length : Int)) = true := beq_iff_eq.mpr c10
     have SC : ((jA.length : Int) != (bA.length : Int)) = false := bne_eq_false_iff_eq.mpr c10
     have TC : (jA.length == bA.length) = true := by first | simpa using c10 | (simp at c10 ⊢; omega)
     clear c10
     by_cases c11 : mA < 0
     ·rw [if_pos c11] at H
      have UC : decide (mA < 0) = true := decide_eq_true c11
      clear c11
      have H' := Aside0.mk H
      clear H
      have XF := bB.out
      have YF := aB.out
      have bC : w5.cell? ⟨gA, 0, none⟩ = some (.slice tB bA.length JA) := (blk_cell eA.out 0).trans rfl
      have cC : w5.cell? ⟨gA, 1, none⟩ = some (.int .i64 mA) := (blk_cell eA.out 1).trans rfl
      have dC : w5.cell? ⟨gA, 2, none⟩ = some (.slice UA iA.length KA) := (blk_cell eA.out 2).trans rfl
      have eC : w5.cell? ⟨gA, 3, none⟩ = some (.slice VA jA.length LA) := (blk_cell eA.out 3).trans rfl
      have fC := blk_frozen eA.out 0
      have gC := blk_frozen eA.out 1
      have hC := blk_frozen eA.out 2
      have iC := blk_frozen eA.out 3
      go_wp2
      go_meet
      case rel => exact ⟨_, (true), q6_20, H', ⟨by first | omega | exact Nat.le_refl _⟩, ⟨q6_5⟩, ⟨q6_6⟩, ⟨q6_3⟩⟩
     ·rw [if_neg c11] at H
      have UC : decide (mA < 0) = false := decide_eq_false c11
      clear c11
      have H' := Aside0.mk H
      clear H
      have ZF := bB.out
      have aG := aB.out
      have jC : w5.cell? ⟨gA, 0, none⟩ = some (.slice tB bA.length JA) := (blk_cell eA.out 0).trans rfl
      have kC : w5.cell? ⟨gA, 1, none⟩ = some (.int .i64 mA) := (blk_cell eA.out 1).trans rfl
      have lC : w5.cell? ⟨gA, 2, none⟩ = some (.slice UA iA.length KA) := (blk_cell eA.out 2).trans rfl
      have mC : w5.cell? ⟨gA, 3, none⟩ = some (.slice VA jA.length LA) := (blk_cell eA.out 3).trans rfl
      have nC := blk_frozen eA.out 0
      have oC := blk_frozen eA.out 1
      have pC := blk_frozen eA.out 2
      have qC := blk_frozen eA.out 3
      go_wp2
      go_meet
      case rel => exact ⟨_, (decide (mA > (bA.length : Int))), q6_20, H', ⟨by first | omega | exact Nat.le_refl _⟩, ⟨q6_5⟩, ⟨q6_6⟩, ⟨q6_3⟩⟩
    ·rw [if_neg c10] at H
     have RC : ((jA.length : Int) == (bA.length : Int)) = false := beq_eq_false_iff_ne.mpr c10
     have SC : ((jA.length : Int) != (bA.length : Int)) = true := bne_iff_ne.mpr c10
     have TC : (jA.length == bA.length) = false := by first | simpa using c10 | (simp at c10 ⊢; omega)
     have H' := Aside0.mk H
     clear H
     have bG := bB.out
     have cG := aB.out
     have rC : w5.cell? ⟨gA, 0, none⟩ = some (.slice tB bA.length JA) := (blk_cell eA.out 0).trans rfl
     have sC : w5.cell? ⟨gA, 1, none⟩ = some (.int .i64 mA) := (blk_cell eA.out 1).trans rfl
     have tC : w5.cell? ⟨gA, 2, none⟩ = some (.slice UA iA.length KA) := (blk_cell eA.out 2).trans rfl
     have uC : w5.cell? ⟨gA, 3, none⟩ = some (.slice VA jA.length LA) := (blk_cell eA.out 3).trans rfl
     have vC := blk_frozen eA.out 0
     have wC := blk_frozen eA.out 1
     have xC := blk_frozen eA.out 2
     have yC := blk_frozen eA.out 3
     go_wp2
     go_meet
     case rel => exact ⟨_, (true), q6_20, H', ⟨by first | omega | exact Nat.le_refl _⟩, ⟨q6_5⟩, ⟨q6_6⟩, ⟨q6_3⟩⟩
   ·rw [if_neg c9] at H
    have nD : ((iA.length : Int) == (bA.length : Int)) = false := beq_eq_false_iff_ne.mpr c9
    have oD : ((iA.length : Int) != (bA.length : Int)) = true := bne_iff_ne.mpr c9
    have pD : (iA.length == bA.length) = false := by first | simpa using c9 | (simp at c9 ⊢; omega)
    have H' := Aside0.mk H
    clear H
    have dG := bB.out
    have eG := aB.out
    have zC : w5.cell? ⟨gA, 0, none⟩ = some (.slice tB bA.length JA) := (blk_cell eA.out 0).trans rfl
    have AC : w5.cell? ⟨gA, 1, none⟩ = some (.int .i64 mA) := (blk_cell eA.out 1).trans rfl
    have BC : w5.cell? ⟨gA, 2, none⟩ = some (.slice UA iA.length KA) := (blk_cell eA.out 2).trans rfl
    have CC : w5.cell? ⟨gA, 3, none⟩ = some (.slice VA jA.length LA) := (blk_cell eA.out 3).trans rfl
    have DC := blk_frozen eA.out 0
    have EC := blk_frozen eA.out 1
    have FC := blk_frozen eA.out 2
    have GC := blk_frozen eA.out 3
    go_wp2
    go_meet
    case rel => exact ⟨_, (true), q6_20, H', ⟨by first | omega | exact Nat.le_refl _⟩, ⟨q6_5⟩, ⟨q6_6⟩, ⟨q6_3⟩⟩
 case rest =>
  clear HC3
  (try clear c1); (try clear p2); (try clear c6); (try clear c8); (try clear EB); (try clear mD); (try clear c9); (try clear nD); (try clear oD); (try clear pD); (try clear c10); (try clear RC); (try clear SC); (try clear TC); (try clear c11); (try clear UC); (try clear c12); (try clear c14); (try clear c16); (try clear c18); (try clear bC); (try clear cC); (try clear dC); (try clear eC); (try clear jC); (try clear kC); (try clear lC); (try clear mC); (try clear rC); (try clear sC); (try clear tC); (try clear uC); (try clear zC); (try clear AC); (try clear BC); (try clear CC); (try clear JC); (try clear KC); (try clear LC); (try clear MC); (try clear fC); (try clear gC); (try clear hC); (try clear iC); (try clear nC); (try clear oC); (try clear pC); (try clear qC); (try clear vC); (try clear wC); (try clear xC); (try clear yC); (try clear DC); (try clear EC); (try clear FC); (try clear GC); (try clear NC); (try clear OC); (try clear PC); (try clear QC)
  obtain ⟨kq, aC, rfl, HA, HJ2, fA, eA, HB⟩ := hcut
  cases kq with
  | zero => exact absurd HA.out (by simp [spec_l07Thread.j0])
  | succ kj2 =>
   have H := HA.out
   clear HA
   simp only [spec_l07Thread.j0] at H
   by_cases c20 : aC = true
   ·subst c20
    have H1 : (some false) = some r := by rw [if_pos rfl] at H; exact H
    clear H
    have H := H1
    clear H1
    obtain rfl := Option.some.inj H
    go_wp2
    go_ret
    exact ⟨q6_17, q6_3⟩
   ·replace c20 := Bool.eq_false_iff.mpr c20
    subst c20
    have H1 : (spec_l07Thread.l0 kj2 bA (bA.length : Int) 0 nA qA oA pA rA bA mA iA jA) = some r := by rw [if_neg (show ¬ (false = true) by decide)] at H; exact H
    clear H
    have H := H1
    clear H1
    have H' := Aside0.mk H
    clear H
    have fG := bB.out
    have gG := aB.out
    have WC : wc.cell? ⟨gA, 0, none⟩ = some (.slice tB bA.length JA) := (blk_cell eA.out 0).trans rfl
    have XC : wc.cell? ⟨gA, 1, none⟩ = some (.int .i64 mA) := (blk_cell eA.out 1).trans rfl
    have YC : wc.cell? ⟨gA, 2, none⟩ = some (.slice UA iA.length KA) := (blk_cell eA.out 2).trans rfl
    have ZC : wc.cell? ⟨gA, 3, none⟩ = some (.slice VA jA.length LA) := (blk_cell eA.out 3).trans rfl
    have aD := blk_frozen eA.out 0
    have bD := blk_frozen eA.out 1
    have cD := blk_frozen eA.out 2
    have dD := blk_frozen eA.out 3
    go_wp2
    go_loopg [41] kj2 (fun kq v41 w' => ∃ (aA : Int), v41 = .int .i64 aA ∧ Aside0 (spec_l07Thread.l0 kq bA (bA.length : Int) aA nA qA oA pA rA bA mA iA jA = some r) ∧ Aside0 (kq ≤ kj2) ∧ Aside0 (w'.heap[hA]? = some (.cells #[.int .i64 nA, .int .i64 qA, (.slice MA oA.length NA), (.slice OA pA.length PA), .int .i64 rA] 29 (0, 0))) ∧ Aside0 (w'.heap[gA]? = some (.cells #[(.slice tB bA.length JA), .int .i64 mA, (.slice UA iA.length KA), (.slice VA jA.length LA)] 55 (0, 0))) ∧ Aside0 (Below w.heap.size w w'))
    case atStart => exact ⟨(0), q6_20, H', ⟨Nat.le_refl _⟩, ⟨q6_5⟩, ⟨q6_6⟩, ⟨q6_3⟩⟩
    case round =>
     clear H'
     (try clear c1); (try clear c2); (try clear p2); (try clear c6); (try clear c8); (try clear EB); (try clear mD); (try clear c9); (try clear nD); (try clear oD); (try clear pD); (try clear c10); (try clear RC); (try clear SC); (try clear TC); (try clear c11); (try clear UC); (try clear c12); (try clear c14); (try clear c16); (try clear c18); (try clear c20); (try clear c21); (try clear bC); (try clear cC); (try clear dC); (try clear eC); (try clear jC); (try clear kC); (try clear lC); (try clear mC); (try clear rC); (try clear sC); (try clear tC); (try clear uC); (try clear zC); (try clear AC); (try clear BC); (try clear CC); (try clear WC); (try clear XC); (try clear YC); (try clear ZC); (try clear JC); (try clear KC); (try clear LC); (try clear MC); (try clear fC); (try clear gC); (try clear hC); (try clear iC); (try clear nC); (try clear oC); (try clear pC); (try clear qC); (try clear vC); (try clear wC); (try clear xC); (try clear yC); (try clear DC); (try clear EC); (try clear FC); (try clear GC); (try clear aD); (try clear bD); (try clear cD); (try clear dD); (try clear NC); (try clear OC); (try clear PC); (try clear QC); (try clear p2)
     obtain ⟨aA, rfl, HA, HK2, fA, eA, HB⟩ := hrel
     cases gk with
     | zero => exact absurd HA.out (by simp [spec_l07Thread.l0])
     | succ k2 =>
      have H := HA.out
      clear HA
      simp only [spec_l07Thread.l0] at H
      by_cases c23 : aA < (bA.length : Int)
      ·rw [if_pos c23] at H
       have zD : decide (aA < (bA.length : Int)) = true := decide_eq_true c23
       clear c23
       by_cases c24 : 0 ≤ aA
       ·rw [if_pos c24] at H
        have hG : decide (0 ≤ aA) = true := decide_eq_true c24
        clear c24
        by_cases c25 : aA < (bA.length : Int)
        ·rw [if_pos c25] at H
         have iG : decide (aA < (bA.length : Int)) = true := decide_eq_true c25
         clear c25
         by_cases c26 : (((rd_T75 bA aA).f9) != (decide (aA < mA))) = true
         ·rw [if_pos c26] at H
          have AD : (((rd_T75 bA aA).f9) != (decide (aA < mA))) = true := c26
          (try (have BD : decide (((rd_T75 bA aA).f9) = (decide (aA < mA))) = false := by simpa using c26))
          (try (have CD : (((rd_T75 bA aA).f9) == (decide (aA < mA))) = false := by simpa using c26))
          (try (have jG : ¬ (((rd_T75 bA aA).f9) = (decide (aA < mA))) := by simpa using c26))
          clear c26
          obtain rfl := Option.some.inj H
          have p177 : 0 ≤ (aA : Int) := of_decide_eq_true q6_7
          have q177 : aA < (bA.length : Int) := of_decide_eq_true q6_7
          obtain ⟨ad177, uB, sA, tA, uA, vA, wA, xA, yA, zA, AA, BA⟩ := at_T75 wB.out aA p177 q177
          cases uB
          replace sA := (HB.out.cell (World.block_lt_of_cell? w _ sA)).trans sA
          replace tA := (HB.out.cell (World.block_lt_of_cell? w _ tA)).trans tA
          replace uA := (HB.out.cell (World.block_lt_of_cell? w _ uA)).trans uA
          replace vA := (HB.out.cell (World.block_lt_of_cell? w _ vA)).trans vA
          replace wA := (HB.out.cell (World.block_lt_of_cell? w _ wA)).trans wA
          replace xA := (HB.out.cell (World.block_lt_of_cell? w _ xA)).trans xA
          replace yA := (HB.out.cell (World.block_lt_of_cell? w _ yA)).trans yA
          replace zA := (HB.out.cell (World.block_lt_of_cell? w _ zA)).trans zA
          replace AA := (HB.out.cell (World.block_lt_of_cell? w _ AA)).trans AA
          replace BA := (HB.out.cell (World.block_lt_of_cell? w _ BA)).trans BA
          replace p177 := eq_true p177
          replace q177 := eq_true q177
          try go_wp2_with (first | ((with_reducible refine gate_dst (N := 7) rfl ?_); (try (refine gate_guard (by rfl) ?_; dsimp only)); refine box_event ?hg (N := 7) ?hd (cs := #[.int .i64 0, .int .i64 0, .int .i64 0, .int .i64 0, .int .i64 0, .int .i64 0, .int .i64 0, .int .i64 0, .int .i64 0, .bool false]) (t := 75) ?hr ?_; (case hd => rfl); (case hg => rfl); (case hr => first | (go_simp; done) | (go_simp; rfl)); intro cA hg FB hbox hb; have CA := Aside0.mk (blk_below (g := hA) (o := .cells #[.int .i64 nA, .int .i64 qA, .slice MA oA.length NA, .slice OA pA.length PA, .int .i64 rA] 29 (0, 0)) q6_5 hb); have DA := Aside0.mk (blk_below (g := gA) (o := .cells #[.slice (some ad177) bA.length JA, .int .i64 mA, .slice UA iA.length KA, .slice VA jA.length LA] 55 (0, 0)) q6_6 hb); have EA := Aside0.mk (below_step q6_3 hb); have FA := Aside0.mk (hbox); have xB := Aside0.mk ((q6_18 : w.heap.size ≤ cA)); have yB := Aside0.mk ((q6_18 : w.heap.size ≤ cA)); have zB := Aside0.mk ((q6_8 : hA ≠ cA)); have AB := Aside0.mk ((q6_9 : cA ≠ hA)); have BB := Aside0.mk ((q6_10 : gA ≠ cA)); have CB := Aside0.mk ((q6_11 : cA ≠ gA)); clear fA; clear eA; clear HB; have fA := CA; have eA := DA; have HB := EA; have dA := FA; have DB := xB; have vB := yB; have kA := zB; have GA := AB; have lA := BB; have IA := CB; clear CA DA EA FA xB yB zB AB BB CB; clear hb hbox hg; have kG := GA.out; have lG := kA.out; have mG := IA.out; have nG := lA.out; have FD : FB.cell? ⟨cA, 0, none⟩ = some (.int .i64 0) := (blk_cell dA.out 0).trans rfl; have GD : FB.cell? ⟨cA, 1, none⟩ = some (.int .i64 0) := (blk_cell dA.out 1).trans rfl; have HD : FB.cell? ⟨cA, 2, none⟩ = some (.int .i64 0) := (blk_cell dA.out 2).trans rfl; have ID : FB.cell? ⟨cA, 3, none⟩ = some (.int .i64 0) := (blk_cell dA.out 3).trans rfl; have JD : FB.cell? ⟨cA, 4, none⟩ = some (.int .i64 0) := (blk_cell dA.out 4).trans rfl; have KD : FB.cell? ⟨cA, 5, none⟩ = some (.int .i64 0) := (blk_cell dA.out 5).trans rfl; have LD : FB.cell? ⟨cA, 6, none⟩ = some (.int .i64 0) := (blk_cell dA.out 6).trans rfl; have MD : FB.cell? ⟨cA, 7, none⟩ = some (.int .i64 0) := (blk_cell dA.out 7).trans rfl; have ND : FB.cell? ⟨cA, 8, none⟩ = some (.int .i64 0) := (blk_cell dA.out 8).trans rfl; have OD : FB.cell? ⟨cA, 9, none⟩ = some (.bool false) := (blk_cell dA.out 9).trans rfl; have PD := blk_frozen dA.out 0; have QD := blk_frozen dA.out 1; have RD := blk_frozen dA.out 2; have SD := blk_frozen dA.out 3; have TD := blk_frozen dA.out 4; have UD := blk_frozen dA.out 5; have VD := blk_frozen dA.out 6; have WD := blk_frozen dA.out 7; have XD := blk_frozen dA.out 8; have YD := blk_frozen dA.out 9))
          have CA : Aside0 (((((((((((FB.setCell ⟨cA, 0, none⟩ (.int .i64 ((rd_T75 bA aA).f0))).setCell ⟨cA, 1, none⟩ (.int .i64 ((rd_T75 bA aA).f1))).setCell ⟨cA, 2, none⟩ (.int .i64 ((rd_T75 bA aA).f2))).setCell ⟨cA, 3, none⟩ (.int .i64 ((rd_T75 bA aA).f3))).setCell ⟨cA, 4, none⟩ (.int .i64 ((rd_T75 bA aA).f4))).setCell ⟨cA, 5, none⟩ (.int .i64 ((rd_T75 bA aA).f5))).setCell ⟨cA, 6, none⟩ (.int .i64 ((rd_T75 bA aA).f6))).setCell ⟨cA, 7, none⟩ (.int .i64 ((rd_T75 bA aA).f7))).setCell ⟨cA, 8, none⟩ (.int .i64 ((rd_T75 bA aA).f8))).setCell ⟨cA, 9, none⟩ (.bool ((rd_T75 bA aA).f9))).heap[hA]? = some (.cells #[.int .i64 nA, .int .i64 qA, .slice MA oA.length NA, .slice OA pA.length PA, .int .i64 rA] 29 (0, 0))) := ⟨q6_1⟩
          have DA : Aside0 (((((((((((FB.setCell ⟨cA, 0, none⟩ (.int .i64 ((rd_T75 bA aA).f0))).setCell ⟨cA, 1, none⟩ (.int .i64 ((rd_T75 bA aA).f1))).setCell ⟨cA, 2, none⟩ (.int .i64 ((rd_T75 bA aA).f2))).setCell ⟨cA, 3, none⟩ (.int .i64 ((rd_T75 bA aA).f3))).setCell ⟨cA, 4, none⟩ (.int .i64 ((rd_T75 bA aA).f4))).setCell ⟨cA, 5, none⟩ (.int .i64 ((rd_T75 bA aA).f5))).setCell ⟨cA, 6, none⟩ (.int .i64 ((rd_T75 bA aA).f6))).setCell ⟨cA, 7, none⟩ (.int .i64 ((rd_T75 bA aA).f7))).setCell ⟨cA, 8, none⟩ (.int .i64 ((rd_T75 bA aA).f8))).setCell ⟨cA, 9, none⟩ (.bool ((rd_T75 bA aA).f9))).heap[gA]? = some (.cells #[.slice (some ad177) bA.length JA, .int .i64 mA, .slice UA iA.length KA, .slice VA jA.length LA] 55 (0, 0))) := ⟨q6_2⟩
          have EA : Aside0 (((((((((((FB.setCell ⟨cA, 0, none⟩ (.int .i64 ((rd_T75 bA aA).f0))).setCell ⟨cA, 1, none⟩ (.int .i64 ((rd_T75 bA aA).f1))).setCell ⟨cA, 2, none⟩ (.int .i64 ((rd_T75 bA aA).f2))).setCell ⟨cA, 3, none⟩ (.int .i64 ((rd_T75 bA aA).f3))).setCell ⟨cA, 4, none⟩ (.int .i64 ((rd_T75 bA aA).f4))).setCell ⟨cA, 5, none⟩ (.int .i64 ((rd_T75 bA aA).f5))).setCell ⟨cA, 6, none⟩ (.int .i64 ((rd_T75 bA aA).f6))).setCell ⟨cA, 7, none⟩ (.int .i64 ((rd_T75 bA aA).f7))).setCell ⟨cA, 8, none⟩ (.int .i64 ((rd_T75 bA aA).f8))).setCell ⟨cA, 9, none⟩ (.bool ((rd_T75 bA aA).f9))).heap[cA]? = some (.cells #[.int .i64 ((rd_T75 bA aA).f0), .int .i64 ((rd_T75 bA aA).f1), .int .i64 ((rd_T75 bA aA).f2), .int .i64 ((rd_T75 bA aA).f3), .int .i64 ((rd_T75 bA aA).f4), .int .i64 ((rd_T75 bA aA).f5), .int .i64 ((rd_T75 bA aA).f6), .int .i64 ((rd_T75 bA aA).f7), .int .i64 ((rd_T75 bA aA).f8), .bool ((rd_T75 bA aA).f9)] 75 (0, 0))) := ⟨q6_0⟩
          have FA : Aside0 (Below w.heap.size w ((((((((((FB.setCell ⟨cA, 0, none⟩ (.int .i64 ((rd_T75 bA aA).f0))).setCell ⟨cA, 1, none⟩ (.int .i64 ((rd_T75 bA aA).f1))).setCell ⟨cA, 2, none⟩ (.int .i64 ((rd_T75 bA aA).f2))).setCell ⟨cA, 3, none⟩ (.int .i64 ((rd_T75 bA aA).f3))).setCell ⟨cA, 4, none⟩ (.int .i64 ((rd_T75 bA aA).f4))).setCell ⟨cA, 5, none⟩ (.int .i64 ((rd_T75 bA aA).f5))).setCell ⟨cA, 6, none⟩ (.int .i64 ((rd_T75 bA aA).f6))).setCell ⟨cA, 7, none⟩ (.int .i64 ((rd_T75 bA aA).f7))).setCell ⟨cA, 8, none⟩ (.int .i64 ((rd_T75 bA aA).f8))).setCell ⟨cA, 9, none⟩ (.bool ((rd_T75 bA aA).f9)))) := ⟨q6_4⟩
          (try clear fA)
          (try clear eA)
          (try clear dA)
          (try clear HB)
          generalize ((((((((((FB.setCell ⟨cA, 0, none⟩ (.int .i64 ((rd_T75 bA aA).f0))).setCell ⟨cA, 1, none⟩ (.int .i64 ((rd_T75 bA aA).f1))).setCell ⟨cA, 2, none⟩ (.int .i64 ((rd_T75 bA aA).f2))).setCell ⟨cA, 3, none⟩ (.int .i64 ((rd_T75 bA aA).f3))).setCell ⟨cA, 4, none⟩ (.int .i64 ((rd_T75 bA aA).f4))).setCell ⟨cA, 5, none⟩ (.int .i64 ((rd_T75 bA aA).f5))).setCell ⟨cA, 6, none⟩ (.int .i64 ((rd_T75 bA aA).f6))).setCell ⟨cA, 7, none⟩ (.int .i64 ((rd_T75 bA aA).f7))).setCell ⟨cA, 8, none⟩ (.int .i64 ((rd_T75 bA aA).f8))).setCell ⟨cA, 9, none⟩ (.bool ((rd_T75 bA aA).f9))) = OG at CA DA EA FA ⊢
          have fA := CA
          have eA := DA
          have dA := EA
          have HB := FA
          clear CA DA EA FA
          have CA := Aside0.mk (blk_drew fA.out)
          have DA := Aside0.mk (blk_drew eA.out)
          have EA := Aside0.mk (blk_drew dA.out)
          have FA := Aside0.mk (below_drew1 HB.out)
          clear fA
          clear eA
          clear dA
          clear HB
          have fA := CA
          have eA := DA
          have dA := EA
          have HB := FA
          clear CA DA EA FA
          refine start_ (n := 37) (S := fun w' => w'.cell? ⟨cA, 0, none⟩ = some (.int .i64 ((rd_T75 bA aA).f0)) ∧ w'.cell? ⟨cA, 1, none⟩ = some (.int .i64 ((rd_T75 bA aA).f1)) ∧ w'.cell? ⟨cA, 2, none⟩ = some (.int .i64 ((rd_T75 bA aA).f2)) ∧ w'.cell? ⟨cA, 3, none⟩ = some (.int .i64 ((rd_T75 bA aA).f3)) ∧ w'.cell? ⟨cA, 4, none⟩ = some (.int .i64 ((rd_T75 bA aA).f4)) ∧ w'.cell? ⟨cA, 5, none⟩ = some (.int .i64 ((rd_T75 bA aA).f5)) ∧ w'.cell? ⟨cA, 6, none⟩ = some (.int .i64 ((rd_T75 bA aA).f6)) ∧ w'.cell? ⟨cA, 7, none⟩ = some (.int .i64 ((rd_T75 bA aA).f7)) ∧ w'.cell? ⟨cA, 8, none⟩ = some (.int .i64 ((rd_T75 bA aA).f8)) ∧ w'.cell? ⟨cA, 9, none⟩ = some (.bool ((rd_T75 bA aA).f9)) ∧ w'.cell? ⟨gA, 0, none⟩ = some (.slice (some ad177) bA.length JA) ∧ w'.cell? ⟨gA, 1, none⟩ = some (.int .i64 mA) ∧ w'.cell? ⟨gA, 2, none⟩ = some (.slice UA iA.length KA) ∧ w'.cell? ⟨gA, 3, none⟩ = some (.slice VA jA.length LA)) (ds := []) #[F,F,F,F,F,F,F,F,F,F,F,F,F,F,F,F,F,F,F,F,F,F,F,F,F,F,F,F,F,F,F,F,F,F,F,F,F] q6_14 rfl rfl ⟨(blk_cell dA.out 0).trans rfl, (blk_cell dA.out 1).trans rfl, (blk_cell dA.out 2).trans rfl, (blk_cell dA.out 3).trans rfl, (blk_cell dA.out 4).trans rfl, (blk_cell dA.out 5).trans rfl, (blk_cell dA.out 6).trans rfl, (blk_cell dA.out 7).trans rfl, (blk_cell dA.out 8).trans rfl, (blk_cell dA.out 9).trans rfl, (blk_cell eA.out 0).trans rfl, (blk_cell eA.out 1).trans rfl, (blk_cell eA.out 2).trans rfl, (blk_cell eA.out 3).trans rfl⟩ (fun hHeld => ?_); refine with_tabW spec_l07Thread.tab7 spec_l07Thread.bits7 (fun HT_ HW_ => ?_)
          generalize OG.drew = UG at fA eA dA HB hHeld ⊢
          refine q6_p 0 46 #[T,F,F,F,F,F,F,F,F,F,F,F,F,F,F,F,F,F,F,F,F,F,F,F,F,F,F,F,F,F,F,F,F,F,F,F,F] ?_
          refine q6_p 2 48 #[T,F,T,F,F,F,F,F,F,F,F,F,F,F,F,F,F,F,F,F,F,F,F,F,F,F,F,F,F,F,F,F,F,F,F,F,F] ?_
          refine q6_p 3 49 #[T,F,T,T,F,F,F,F,F,F,F,F,F,F,F,F,F,F,F,F,F,F,F,F,F,F,F,F,F,F,F,F,F,F,F,F,F] ?_
          refine take_ (i := 1) (N := some 47) (v := ?_) (a' := ?_) #[T,T,T,T,F,F,F,F,F,F,F,F,F,F,F,F,F,F,F,F,F,F,F,F,F,F,F,F,F,F,F,F,F,F,F,F,F] rfl rfl (take_ofW HT_.out HW_.out q6_14) (fun _ _ _ h => h) (Or.inl ⟨by rfl, ?_⟩) hHeld ?_ ?_
          rotate_left
          ·rintro w' ⟨s0, s1, s2, s3, s4, s5, s6, s7, s8, s9, WA, XA, YA, ZA⟩
           go_simp
           with_reducible rfl
          rotate_left
          ·simp only [Act.put, List.setIfInBounds_toArray, List.set_cons_zero, List.set_cons_succ, i64_w, i32_w]
           rfl
          refine take_ (i := 4) (N := some 50) (v := ?_) (a' := ?_) #[T,T,T,T,T,F,F,F,F,F,F,F,F,F,F,F,F,F,F,F,F,F,F,F,F,F,F,F,F,F,F,F,F,F,F,F,F] rfl rfl (take_ofW HT_.out HW_.out q6_14) (fun _ _ _ h => h) (Or.inl ⟨by rfl, ?_⟩) hHeld ?_ ?_
          rotate_left
          ·rintro w' ⟨s0, s1, s2, s3, s4, s5, s6, s7, s8, s9, WA, XA, YA, ZA⟩
           go_simp
           with_reducible rfl
          rotate_left
          ·simp only [Act.put, List.setIfInBounds_toArray, List.set_cons_zero, List.set_cons_succ, i64_w, i32_w]
           rfl
          refine q6_p 5 51 #[T,T,T,T,T,T,F,F,F,F,F,F,F,F,F,F,F,F,F,F,F,F,F,F,F,F,F,F,F,F,F,F,F,F,F,F,F] ?_
          refine q6_p 6 52 #[T,T,T,T,T,T,T,F,F,F,F,F,F,F,F,F,F,F,F,F,F,F,F,F,F,F,F,F,F,F,F,F,F,F,F,F,F] ?_
          refine q6_p 7 53 #[T,T,T,T,T,T,T,T,F,F,F,F,F,F,F,F,F,F,F,F,F,F,F,F,F,F,F,F,F,F,F,F,F,F,F,F,F] ?_
          refine q6_u 8 54 #[T,T,T,T,T,T,T,T,T,F,F,F,F,F,F,F,F,F,F,F,F,F,F,F,F,F,F,F,F,F,F,F,F,F,F,F,F] ?_
          refine q6_u 9 55 #[T,T,T,T,T,T,T,T,T,T,F,F,F,F,F,F,F,F,F,F,F,F,F,F,F,F,F,F,F,F,F,F,F,F,F,F,F] ?_
          refine q6_u 10 56 #[T,T,T,T,T,T,T,T,T,T,T,F,F,F,F,F,F,F,F,F,F,F,F,F,F,F,F,F,F,F,F,F,F,F,F,F,F] ?_
          refine q6_u 11 57 #[T,T,T,T,T,T,T,T,T,T,T,T,F,F,F,F,F,F,F,F,F,F,F,F,F,F,F,F,F,F,F,F,F,F,F,F,F] ?_
          refine q6_u 12 58 #[T,T,T,T,T,T,T,T,T,T,T,T,T,F,F,F,F,F,F,F,F,F,F,F,F,F,F,F,F,F,F,F,F,F,F,F,F] ?_
          refine q6_u 13 59 #[T,T,T,T,T,T,T,T,T,T,T,T,T,T,F,F,F,F,F,F,F,F,F,F,F,F,F,F,F,F,F,F,F,F,F,F,F] ?_
          refine q6_u 14 60 #[T,T,T,T,T,T,T,T,T,T,T,T,T,T,T,F,F,F,F,F,F,F,F,F,F,F,F,F,F,F,F,F,F,F,F,F,F] ?_
          refine q6_u 15 61 #[T,T,T,T,T,T,T,T,T,T,T,T,T,T,T,T,F,F,F,F,F,F,F,F,F,F,F,F,F,F,F,F,F,F,F,F,F] ?_
          refine q6_u 16 62 #[T,T,T,T,T,T,T,T,T,T,T,T,T,T,T,T,T,F,F,F,F,F,F,F,F,F,F,F,F,F,F,F,F,F,F,F,F] ?_
          refine q6_u 17 63 #[T,T,T,T,T,T,T,T,T,T,T,T,T,T,T,T,T,T,F,F,F,F,F,F,F,F,F,F,F,F,F,F,F,F,F,F,F] ?_
          refine q6_u 18 64 #[T,T,T,T,T,T,T,T,T,T,T,T,T,T,T,T,T,T,T,F,F,F,F,F,F,F,F,F,F,F,F,F,F,F,F,F,F] ?_
          refine q6_u 19 65 #[T,T,T,T,T,T,T,T,T,T,T,T,T,T,T,T,T,T,T,T,F,F,F,F,F,F,F,F,F,F,F,F,F,F,F,F,F] ?_
          refine q6_p 20 66 #[T,T,T,T,T,T,T,T,T,T,T,T,T,T,T,T,T,T,T,T,T,F,F,F,F,F,F,F,F,F,F,F,F,F,F,F,F] ?_
          refine q6_p 21 67 #[T,T,T,T,T,T,T,T,T,T,T,T,T,T,T,T,T,T,T,T,T,T,F,F,F,F,F,F,F,F,F,F,F,F,F,F,F] ?_
          refine q6_u 22 68 #[T,T,T,T,T,T,T,T,T,T,T,T,T,T,T,T,T,T,T,T,T,T,T,F,F,F,F,F,F,F,F,F,F,F,F,F,F] ?_
          refine q6_u 23 69 #[T,T,T,T,T,T,T,T,T,T,T,T,T,T,T,T,T,T,T,T,T,T,T,T,F,F,F,F,F,F,F,F,F,F,F,F,F] ?_
          refine q6_u 24 70 #[T,T,T,T,T,T,T,T,T,T,T,T,T,T,T,T,T,T,T,T,T,T,T,T,T,F,F,F,F,F,F,F,F,F,F,F,F] ?_
          refine q6_u 25 71 #[T,T,T,T,T,T,T,T,T,T,T,T,T,T,T,T,T,T,T,T,T,T,T,T,T,T,F,F,F,F,F,F,F,F,F,F,F] ?_
          refine q6_u 26 72 #[T,T,T,T,T,T,T,T,T,T,T,T,T,T,T,T,T,T,T,T,T,T,T,T,T,T,T,F,F,F,F,F,F,F,F,F,F] ?_
          refine q6_u 27 73 #[T,T,T,T,T,T,T,T,T,T,T,T,T,T,T,T,T,T,T,T,T,T,T,T,T,T,T,T,F,F,F,F,F,F,F,F,F] ?_
          refine q6_u 28 74 #[T,T,T,T,T,T,T,T,T,T,T,T,T,T,T,T,T,T,T,T,T,T,T,T,T,T,T,T,T,F,F,F,F,F,F,F,F] ?_
          refine q6_u 29 75 #[T,T,T,T,T,T,T,T,T,T,T,T,T,T,T,T,T,T,T,T,T,T,T,T,T,T,T,T,T,T,F,F,F,F,F,F,F] ?_
          refine q6_u 30 76 #[T,T,T,T,T,T,T,T,T,T,T,T,T,T,T,T,T,T,T,T,T,T,T,T,T,T,T,T,T,T,T,F,F,F,F,F,F] ?_
          refine q6_u 31 77 #[T,T,T,T,T,T,T,T,T,T,T,T,T,T,T,T,T,T,T,T,T,T,T,T,T,T,T,T,T,T,T,T,F,F,F,F,F] ?_
          refine q6_u 32 78 #[T,T,T,T,T,T,T,T,T,T,T,T,T,T,T,T,T,T,T,T,T,T,T,T,T,T,T,T,T,T,T,T,T,F,F,F,F] ?_
          refine q6_u 33 79 #[T,T,T,T,T,T,T,T,T,T,T,T,T,T,T,T,T,T,T,T,T,T,T,T,T,T,T,T,T,T,T,T,T,T,F,F,F] ?_
          refine q6_u 34 80 #[T,T,T,T,T,T,T,T,T,T,T,T,T,T,T,T,T,T,T,T,T,T,T,T,T,T,T,T,T,T,T,T,T,T,T,F,F] ?_
          refine q6_u 35 81 #[T,T,T,T,T,T,T,T,T,T,T,T,T,T,T,T,T,T,T,T,T,T,T,T,T,T,T,T,T,T,T,T,T,T,T,T,F] ?_
          refine q6_p 36 82 #[T,T,T,T,T,T,T,T,T,T,T,T,T,T,T,T,T,T,T,T,T,T,T,T,T,T,T,T,T,T,T,T,T,T,T,T,T] ?_
          refine done_ (done_of HT_.out q6_14) ?_
          try go_wp2
          go_ret
          exact ⟨q6_17, q6_4⟩
         ·rw [if_neg c26] at H
          have AD : (((rd_T75 bA aA).f9) != (decide (aA < mA))) = false := by simpa using c26
          (try (have BD : decide (((rd_T75 bA aA).f9) = (decide (aA < mA))) = true := by simpa using c26))
          (try (have CD : (((rd_T75 bA aA).f9) == (decide (aA < mA))) = true := by simpa using c26))
          clear c26
          by_cases c33 : aA > mA
          ·rw [if_pos c33] at H
           have DD : decide (mA < aA) = true := decide_eq_true c33
           clear c33
           replace H := Option.bind_eq_some_iff.mp H
           obtain ⟨⟨GB, IB, JB, KB, LB, MB, NB, OB, PB, QB⟩, A340, H⟩ := H
           replace H : (if (!(((rd_T75 bA aA).f0) == GB) || (!(((rd_T75 bA aA).f1) == IB) || (!(((rd_T75 bA aA).f2) == JB) || (!(((rd_T75 bA aA).f3) == KB) || (!(((rd_T75 bA aA).f4) == LB) || (!(((rd_T75 bA aA).f5) == MB) || (!(((rd_T75 bA aA).f6) == NB) || (!(((rd_T75 bA aA).f7) == OB) || (!(((rd_T75 bA aA).f8) == PB) || (!(((rd_T75 bA aA).f9) == QB))))))))))) = true then (some false) else (if aA < (iA.length : Int) then (if aA < (jA.length : Int) then ((spec_l07Times.f k2 nA qA oA pA rA ((rd_T75 bA aA).f0) ((rd_T75 bA aA).f1) ((rd_T75 bA aA).f2) ((rd_T75 bA aA).f3) ((rd_T75 bA aA).f4) ((rd_T75 bA aA).f5) ((rd_T75 bA aA).f6) ((rd_T75 bA aA).f7) ((rd_T75 bA aA).f8) ((rd_T75 bA aA).f9) (rd iA aA) (rd jA aA)).bind fun HC => (if HC = true then (spec_l07Thread.l0 k2 bA (bA.length : Int) (wrap64 (aA + 1)) nA qA oA pA rA bA mA iA jA) else (some false))) else (none)) else (none))) = some r := H
           have A34 := Aside0.mk A340
           clear A340
           by_cases c35 : (!(((rd_T75 bA aA).f0) == GB) || (!(((rd_T75 bA aA).f1) == IB) || (!(((rd_T75 bA aA).f2) == JB) || (!(((rd_T75 bA aA).f3) == KB) || (!(((rd_T75 bA aA).f4) == LB) || (!(((rd_T75 bA aA).f5) == MB) || (!(((rd_T75 bA aA).f6) == NB) || (!(((rd_T75 bA aA).f7) == OB) || (!(((rd_T75 bA aA).f8) == PB) || (!(((rd_T75 bA aA).f9) == QB))))))))))) = true
           ·rw [if_pos c35] at H
            have ED : (!(((rd_T75 bA aA).f0) == GB) || (!(((rd_T75 bA aA).f1) == IB) || (!(((rd_T75 bA aA).f2) == JB) || (!(((rd_T75 bA aA).f3) == KB) || (!(((rd_T75 bA aA).f4) == LB) || (!(((rd_T75 bA aA).f5) == MB) || (!(((rd_T75 bA aA).f6) == NB) || (!(((rd_T75 bA aA).f7) == OB) || (!(((rd_T75 bA aA).f8) == PB) || (!(((rd_T75 bA aA).f9) == QB))))))))))) = true := c35
            clear c35
            obtain rfl := Option.some.inj H
            have p177 : 0 ≤ (aA : Int) := of_decide_eq_true q6_7
            have q177 : aA < (bA.length : Int) := of_decide_eq_true q6_7
            obtain ⟨ad177, uB, sA, tA, uA, vA, wA, xA, yA, zA, AA, BA⟩ := at_T75 wB.out aA p177 q177
            cases uB
            replace sA := (HB.out.cell (World.block_lt_of_cell? w _ sA)).trans sA
            replace tA := (HB.out.cell (World.block_lt_of_cell? w _ tA)).trans tA
            replace uA := (HB.out.cell (World.block_lt_of_cell? w _ uA)).trans uA
            replace vA := (HB.out.cell (World.block_lt_of_cell? w _ vA)).trans vA
            replace wA := (HB.out.cell (World.block_lt_of_cell? w _ wA)).trans wA
            replace xA := (HB.out.cell (World.block_lt_of_cell? w _ xA)).trans xA
            replace yA := (HB.out.cell (World.block_lt_of_cell? w _ yA)).trans yA
            replace zA := (HB.out.cell (World.block_lt_of_cell? w _ zA)).trans zA
            replace AA := (HB.out.cell (World.block_lt_of_cell? w _ AA)).trans AA
            replace BA := (HB.out.cell (World.block_lt_of_cell? w _ BA)).trans BA
            replace p177 := eq_true p177
            replace q177 := eq_true q177
            try go_wp2_with (first | ((with_reducible refine gate_dst (N := 7) rfl ?_); (try (refine gate_guard (by rfl) ?_; dsimp only)); refine box_event ?hg (N := 7) ?hd (cs := #[.int .i64 0, .int .i64 0, .int .i64 0, .int .i64 0, .int .i64 0, .int .i64 0, .int .i64 0, .int .i64 0, .int .i64 0, .bool false]) (t := 75) ?hr ?_; (case hd => rfl); (case hg => rfl); (case hr => first | (go_simp; done) | (go_simp; rfl)); intro cA hg RB hbox hb; have CA := Aside0.mk (blk_below (g := hA) (o := .cells #[.int .i64 nA, .int .i64 qA, .slice MA oA.length NA, .slice OA pA.length PA, .int .i64 rA] 29 (0, 0)) q6_5 hb); have DA := Aside0.mk (blk_below (g := gA) (o := .cells #[.slice (some ad177) bA.length JA, .int .i64 mA, .slice UA iA.length KA, .slice VA jA.length LA] 55 (0, 0)) q6_6 hb); have EA := Aside0.mk (below_step q6_3 hb); have FA := Aside0.mk (hbox); have xB := Aside0.mk ((q6_18 : w.heap.size ≤ cA)); have yB := Aside0.mk ((q6_18 : w.heap.size ≤ cA)); have zB := Aside0.mk ((q6_8 : hA ≠ cA)); have AB := Aside0.mk ((q6_9 : cA ≠ hA)); have BB := Aside0.mk ((q6_10 : gA ≠ cA)); have CB := Aside0.mk ((q6_11 : cA ≠ gA)); clear fA; clear eA; clear HB; have fA := CA; have eA := DA; have HB := EA; have dA := FA; have DB := xB; have vB := yB; have kA := zB; have GA := AB; have lA := BB; have IA := CB; clear CA DA EA FA xB yB zB AB BB CB; clear hb hbox hg; have oG := GA.out; have pG := kA.out; have qG := IA.out; have rG := lA.out; have ZD : RB.cell? ⟨cA, 0, none⟩ = some (.int .i64 0) := (blk_cell dA.out 0).trans rfl; have aE : RB.cell? ⟨cA, 1, none⟩ = some (.int .i64 0) := (blk_cell dA.out 1).trans rfl; have bE : RB.cell? ⟨cA, 2, none⟩ = some (.int .i64 0) := (blk_cell dA.out 2).trans rfl; have cE : RB.cell? ⟨cA, 3, none⟩ = some (.int .i64 0) := (blk_cell dA.out 3).trans rfl; have dE : RB.cell? ⟨cA, 4, none⟩ = some (.int .i64 0) := (blk_cell dA.out 4).trans rfl; have eE : RB.cell? ⟨cA, 5, none⟩ = some (.int .i64 0) := (blk_cell dA.out 5).trans rfl; have fE : RB.cell? ⟨cA, 6, none⟩ = some (.int .i64 0) := (blk_cell dA.out 6).trans rfl; have gE : RB.cell? ⟨cA, 7, none⟩ = some (.int .i64 0) := (blk_cell dA.out 7).trans rfl; have hE : RB.cell? ⟨cA, 8, none⟩ = some (.int .i64 0) := (blk_cell dA.out 8).trans rfl; have iE : RB.cell? ⟨cA, 9, none⟩ = some (.bool false) := (blk_cell dA.out 9).trans rfl; have jE := blk_frozen dA.out 0; have kE := blk_frozen dA.out 1; have lE := blk_frozen dA.out 2; have mE := blk_frozen dA.out 3; have nE := blk_frozen dA.out 4; have oE := blk_frozen dA.out 5; have pE := blk_frozen dA.out 6; have qE := blk_frozen dA.out 7; have rE := blk_frozen dA.out 8; have sE := blk_frozen dA.out 9))
            have CA : Aside0 (((((((((((RB.setCell ⟨cA, 0, none⟩ (.int .i64 ((rd_T75 bA aA).f0))).setCell ⟨cA, 1, none⟩ (.int .i64 ((rd_T75 bA aA).f1))).setCell ⟨cA, 2, none⟩ (.int .i64 ((rd_T75 bA aA).f2))).setCell ⟨cA, 3, none⟩ (.int .i64 ((rd_T75 bA aA).f3))).setCell ⟨cA, 4, none⟩ (.int .i64 ((rd_T75 bA aA).f4))).setCell ⟨cA, 5, none⟩ (.int .i64 ((rd_T75 bA aA).f5))).setCell ⟨cA, 6, none⟩ (.int .i64 ((rd_T75 bA aA).f6))).setCell ⟨cA, 7, none⟩ (.int .i64 ((rd_T75 bA aA).f7))).setCell ⟨cA, 8, none⟩ (.int .i64 ((rd_T75 bA aA).f8))).setCell ⟨cA, 9, none⟩ (.bool ((rd_T75 bA aA).f9))).heap[hA]? = some (.cells #[.int .i64 nA, .int .i64 qA, .slice MA oA.length NA, .slice OA pA.length PA, .int .i64 rA] 29 (0, 0))) := ⟨q6_1⟩
            have DA : Aside0 (((((((((((RB.setCell ⟨cA, 0, none⟩ (.int .i64 ((rd_T75 bA aA).f0))).setCell ⟨cA, 1, none⟩ (.int .i64 ((rd_T75 bA aA).f1))).setCell ⟨cA, 2, none⟩ (.int .i64 ((rd_T75 bA aA).f2))).setCell ⟨cA, 3, none⟩ (.int .i64 ((rd_T75 bA aA).f3))).setCell ⟨cA, 4, none⟩ (.int .i64 ((rd_T75 bA aA).f4))).setCell ⟨cA, 5, none⟩ (.int .i64 ((rd_T75 bA aA).f5))).setCell ⟨cA, 6, none⟩ (.int .i64 ((rd_T75 bA aA).f6))).setCell ⟨cA, 7, none⟩ (.int .i64 ((rd_T75 bA aA).f7))).setCell ⟨cA, 8, none⟩ (.int .i64 ((rd_T75 bA aA).f8))).setCell ⟨cA, 9, none⟩ (.bool ((rd_T75 bA aA).f9))).heap[gA]? = some (.cells #[.slice (some ad177) bA.length JA, .int .i64 mA, .slice UA iA.length KA, .slice VA jA.length LA] 55 (0, 0))) := ⟨q6_2⟩
            have EA : Aside0 (((((((((((RB.setCell ⟨cA, 0, none⟩ (.int .i64 ((rd_T75 bA aA).f0))).setCell ⟨cA, 1, none⟩ (.int .i64 ((rd_T75 bA aA).f1))).setCell ⟨cA, 2, none⟩ (.int .i64 ((rd_T75 bA aA).f2))).setCell ⟨cA, 3, none⟩ (.int .i64 ((rd_T75 bA aA).f3))).setCell ⟨cA, 4, none⟩ (.int .i64 ((rd_T75 bA aA).f4))).setCell ⟨cA, 5, none⟩ (.int .i64 ((rd_T75 bA aA).f5))).setCell ⟨cA, 6, none⟩ (.int .i64 ((rd_T75 bA aA).f6))).setCell ⟨cA, 7, none⟩ (.int .i64 ((rd_T75 bA aA).f7))).setCell ⟨cA, 8, none⟩ (.int .i64 ((rd_T75 bA aA).f8))).setCell ⟨cA, 9, none⟩ (.bool ((rd_T75 bA aA).f9))).heap[cA]? = some (.cells #[.int .i64 ((rd_T75 bA aA).f0), .int .i64 ((rd_T75 bA aA).f1), .int .i64 ((rd_T75 bA aA).f2), .int .i64 ((rd_T75 bA aA).f3), .int .i64 ((rd_T75 bA aA).f4), .int .i64 ((rd_T75 bA aA).f5), .int .i64 ((rd_T75 bA aA).f6), .int .i64 ((rd_T75 bA aA).f7), .int .i64 ((rd_T75 bA aA).f8), .bool ((rd_T75 bA aA).f9)] 75 (0, 0))) := ⟨q6_0⟩
            have FA : Aside0 (Below w.heap.size w ((((((((((RB.setCell ⟨cA, 0, none⟩ (.int .i64 ((rd_T75 bA aA).f0))).setCell ⟨cA, 1, none⟩ (.int .i64 ((rd_T75 bA aA).f1))).setCell ⟨cA, 2, none⟩ (.int .i64 ((rd_T75 bA aA).f2))).setCell ⟨cA, 3, none⟩ (.int .i64 ((rd_T75 bA aA).f3))).setCell ⟨cA, 4, none⟩ (.int .i64 ((rd_T75 bA aA).f4))).setCell ⟨cA, 5, none⟩ (.int .i64 ((rd_T75 bA aA).f5))).setCell ⟨cA, 6, none⟩ (.int .i64 ((rd_T75 bA aA).f6))).setCell ⟨cA, 7, none⟩ (.int .i64 ((rd_T75 bA aA).f7))).setCell ⟨cA, 8, none⟩ (.int .i64 ((rd_T75 bA aA).f8))).setCell ⟨cA, 9, none⟩ (.bool ((rd_T75 bA aA).f9)))) := ⟨q6_4⟩
            (try clear fA)
            (try clear eA)
            (try clear dA)
            (try clear HB)
            generalize ((((((((((RB.setCell ⟨cA, 0, none⟩ (.int .i64 ((rd_T75 bA aA).f0))).setCell ⟨cA, 1, none⟩ (.int .i64 ((rd_T75 bA aA).f1))).setCell ⟨cA, 2, none⟩ (.int .i64 ((rd_T75 bA aA).f2))).setCell ⟨cA, 3, none⟩ (.int .i64 ((rd_T75 bA aA).f3))).setCell ⟨cA, 4, none⟩ (.int .i64 ((rd_T75 bA aA).f4))).setCell ⟨cA, 5, none⟩ (.int .i64 ((rd_T75 bA aA).f5))).setCell ⟨cA, 6, none⟩ (.int .i64 ((rd_T75 bA aA).f6))).setCell ⟨cA, 7, none⟩ (.int .i64 ((rd_T75 bA aA).f7))).setCell ⟨cA, 8, none⟩ (.int .i64 ((rd_T75 bA aA).f8))).setCell ⟨cA, 9, none⟩ (.bool ((rd_T75 bA aA).f9))) = PG at CA DA EA FA ⊢
            have fA := CA
            have eA := DA
            have dA := EA
            have HB := FA
            clear CA DA EA FA
            have CA := Aside0.mk (blk_drew fA.out)
            have DA := Aside0.mk (blk_drew eA.out)
            have EA := Aside0.mk (blk_drew dA.out)
            have FA := Aside0.mk (below_drew1 HB.out)
            clear fA
            clear eA
            clear dA
            clear HB
            have fA := CA
            have eA := DA
            have dA := EA
            have HB := FA
            clear CA DA EA FA
            refine start_ (n := 37) (S := fun w' => w'.cell? ⟨cA, 0, none⟩ = some (.int .i64 ((rd_T75 bA aA).f0)) ∧ w'.cell? ⟨cA, 1, none⟩ = some (.int .i64 ((rd_T75 bA aA).f1)) ∧ w'.cell? ⟨cA, 2, none⟩ = some (.int .i64 ((rd_T75 bA aA).f2)) ∧ w'.cell? ⟨cA, 3, none⟩ = some (.int .i64 ((rd_T75 bA aA).f3)) ∧ w'.cell? ⟨cA, 4, none⟩ = some (.int .i64 ((rd_T75 bA aA).f4)) ∧ w'.cell? ⟨cA, 5, none⟩ = some (.int .i64 ((rd_T75 bA aA).f5)) ∧ w'.cell? ⟨cA, 6, none⟩ = some (.int .i64 ((rd_T75 bA aA).f6)) ∧ w'.cell? ⟨cA, 7, none⟩ = some (.int .i64 ((rd_T75 bA aA).f7)) ∧ w'.cell? ⟨cA, 8, none⟩ = some (.int .i64 ((rd_T75 bA aA).f8)) ∧ w'.cell? ⟨cA, 9, none⟩ = some (.bool ((rd_T75 bA aA).f9)) ∧ w'.cell? ⟨gA, 0, none⟩ = some (.slice (some ad177) bA.length JA) ∧ w'.cell? ⟨gA, 1, none⟩ = some (.int .i64 mA) ∧ w'.cell? ⟨gA, 2, none⟩ = some (.slice UA iA.length KA) ∧ w'.cell? ⟨gA, 3, none⟩ = some (.slice VA jA.length LA) ∧ w'.cell? ⟨hA, 0, none⟩ = some (.int .i64 nA) ∧ w'.cell? ⟨hA, 1, none⟩ = some (.int .i64 qA) ∧ w'.cell? ⟨hA, 2, none⟩ = some (.slice MA oA.length NA) ∧ w'.cell? ⟨hA, 3, none⟩ = some (.slice OA pA.length PA) ∧ w'.cell? ⟨hA, 4, none⟩ = some (.int .i64 rA)) (ds := []) #[F,F,F,F,F,F,F,F,F,F,F,F,F,F,F,F,F,F,F,F,F,F,F,F,F,F,F,F,F,F,F,F,F,F,F,F,F] q6_14 rfl rfl ⟨(blk_cell dA.out 0).trans rfl, (blk_cell dA.out 1).trans rfl, (blk_cell dA.out 2).trans rfl, (blk_cell dA.out 3).trans rfl, (blk_cell dA.out 4).trans rfl, (blk_cell dA.out 5).trans rfl, (blk_cell dA.out 6).trans rfl, (blk_cell dA.out 7).trans rfl, (blk_cell dA.out 8).trans rfl, (blk_cell dA.out 9).trans rfl, (blk_cell eA.out 0).trans rfl, (blk_cell eA.out 1).trans rfl, (blk_cell eA.out 2).trans rfl, (blk_cell eA.out 3).trans rfl, (blk_cell fA.out 0).trans rfl, (blk_cell fA.out 1).trans rfl, (blk_cell fA.out 2).trans rfl, (blk_cell fA.out 3).trans rfl, (blk_cell fA.out 4).trans rfl⟩ (fun hHeld => ?_); refine with_tabW spec_l07Thread.tab7 spec_l07Thread.bits7 (fun HT_ HW_ => ?_)
            generalize PG.drew = VG at fA eA dA HB hHeld ⊢
            refine q6_p 0 46 #[T,F,F,F,F,F,F,F,F,F,F,F,F,F,F,F,F,F,F,F,F,F,F,F,F,F,F,F,F,F,F,F,F,F,F,F,F] ?_
            refine q6_p 2 48 #[T,F,T,F,F,F,F,F,F,F,F,F,F,F,F,F,F,F,F,F,F,F,F,F,F,F,F,F,F,F,F,F,F,F,F,F,F] ?_
            refine q6_p 3 49 #[T,F,T,T,F,F,F,F,F,F,F,F,F,F,F,F,F,F,F,F,F,F,F,F,F,F,F,F,F,F,F,F,F,F,F,F,F] ?_
            refine take_ (i := 1) (N := some 47) (v := ?_) (a' := ?_) #[T,T,T,T,F,F,F,F,F,F,F,F,F,F,F,F,F,F,F,F,F,F,F,F,F,F,F,F,F,F,F,F,F,F,F,F,F] rfl rfl (take_ofW HT_.out HW_.out q6_14) (fun _ _ _ h => h) (Or.inl ⟨by rfl, ?_⟩) hHeld ?_ ?_
            rotate_left
            ·rintro w' ⟨s0, s1, s2, s3, s4, s5, s6, s7, s8, s9, WA, XA, YA, ZA, cB, dB, eB, fB, gB⟩
             go_simp
             with_reducible rfl
            rotate_left
            ·simp only [Act.put, List.setIfInBounds_toArray, List.set_cons_zero, List.set_cons_succ, i64_w, i32_w]
             rfl
            refine take_ (i := 4) (N := some 50) (v := ?_) (a' := ?_) #[T,T,T,T,T,F,F,F,F,F,F,F,F,F,F,F,F,F,F,F,F,F,F,F,F,F,F,F,F,F,F,F,F,F,F,F,F] rfl rfl (take_ofW HT_.out HW_.out q6_14) (fun _ _ _ h => h) (Or.inl ⟨by rfl, ?_⟩) hHeld ?_ ?_
            rotate_left
            ·rintro w' ⟨s0, s1, s2, s3, s4, s5, s6, s7, s8, s9, WA, XA, YA, ZA, cB, dB, eB, fB, gB⟩
             go_simp
             with_reducible rfl
            rotate_left
            ·simp only [Act.put, List.setIfInBounds_toArray, List.set_cons_zero, List.set_cons_succ, i64_w, i32_w]
             rfl
            refine q6_p 5 51 #[T,T,T,T,T,T,F,F,F,F,F,F,F,F,F,F,F,F,F,F,F,F,F,F,F,F,F,F,F,F,F,F,F,F,F,F,F] ?_
            refine q6_p 6 52 #[T,T,T,T,T,T,T,F,F,F,F,F,F,F,F,F,F,F,F,F,F,F,F,F,F,F,F,F,F,F,F,F,F,F,F,F,F] ?_
            refine q6_p 7 53 #[T,T,T,T,T,T,T,T,F,F,F,F,F,F,F,F,F,F,F,F,F,F,F,F,F,F,F,F,F,F,F,F,F,F,F,F,F] ?_
            refine q6_p 8 54 #[T,T,T,T,T,T,T,T,T,F,F,F,F,F,F,F,F,F,F,F,F,F,F,F,F,F,F,F,F,F,F,F,F,F,F,F,F] ?_
            refine q6_p 9 55 #[T,T,T,T,T,T,T,T,T,T,F,F,F,F,F,F,F,F,F,F,F,F,F,F,F,F,F,F,F,F,F,F,F,F,F,F,F] ?_
            refine take_ (i := 10) (N := some 56) (v := ?_) (a' := ?_) #[T,T,T,T,T,T,T,T,T,T,T,F,F,F,F,F,F,F,F,F,F,F,F,F,F,F,F,F,F,F,F,F,F,F,F,F,F] rfl rfl (take_ofW HT_.out HW_.out q6_14) (fun _ _ _ h => h) (Or.inl ⟨by rfl, ?_⟩) hHeld ?_ ?_
            rotate_left
            ·rintro w' ⟨s0, s1, s2, s3, s4, s5, s6, s7, s8, s9, WA, XA, YA, ZA, cB, dB, eB, fB, gB⟩
             go_simp
             with_reducible rfl
            rotate_left
            ·simp only [Act.put, List.setIfInBounds_toArray, List.set_cons_zero, List.set_cons_succ, i64_w, i32_w]
             rfl
            refine q6_p 11 57 #[T,T,T,T,T,T,T,T,T,T,T,T,F,F,F,F,F,F,F,F,F,F,F,F,F,F,F,F,F,F,F,F,F,F,F,F,F] ?_
            refine q6_p 12 58 #[T,T,T,T,T,T,T,T,T,T,T,T,T,F,F,F,F,F,F,F,F,F,F,F,F,F,F,F,F,F,F,F,F,F,F,F,F] ?_
            refine q6_p 14 60 #[T,T,T,T,T,T,T,T,T,T,T,T,T,F,T,F,F,F,F,F,F,F,F,F,F,F,F,F,F,F,F,F,F,F,F,F,F] ?_
            refine take_ (i := 13) (N := some 59) (v := ?_) (a' := ?_) #[T,T,T,T,T,T,T,T,T,T,T,T,T,T,T,F,F,F,F,F,F,F,F,F,F,F,F,F,F,F,F,F,F,F,F,F,F] rfl rfl (take_ofW HT_.out HW_.out q6_14) (fun _ _ _ h => h) (Or.inl ⟨by rfl, ?_⟩) hHeld ?_ ?_
            rotate_left
            ·rintro w' ⟨s0, s1, s2, s3, s4, s5, s6, s7, s8, s9, WA, XA, YA, ZA, cB, dB, eB, fB, gB⟩
             go_simp
             with_reducible rfl
            rotate_left
            ·simp only [Act.put, List.setIfInBounds_toArray, List.set_cons_zero, List.set_cons_succ, i64_w, i32_w]
             rfl
            refine take_ (i := 15) (N := some 61) (v := ?_) (a' := ?_) #[T,T,T,T,T,T,T,T,T,T,T,T,T,T,T,T,F,F,F,F,F,F,F,F,F,F,F,F,F,F,F,F,F,F,F,F,F] rfl rfl (take_ofW HT_.out HW_.out q6_14) (fun _ _ _ h => h) (Or.inl ⟨by rfl, ?_⟩) hHeld ?_ ?_
            rotate_left
            ·rintro w' ⟨s0, s1, s2, s3, s4, s5, s6, s7, s8, s9, WA, XA, YA, ZA, cB, dB, eB, fB, gB⟩
             go_simp
             with_reducible rfl
            rotate_left
            ·simp only [Act.put, List.setIfInBounds_toArray, List.set_cons_zero, List.set_cons_succ, i64_w, i32_w]
             rfl
            refine take_ (i := 16) (N := some 62) (v := ?_) (a' := ?_) #[T,T,T,T,T,T,T,T,T,T,T,T,T,T,T,T,T,F,F,F,F,F,F,F,F,F,F,F,F,F,F,F,F,F,F,F,F] rfl rfl (take_ofW HT_.out HW_.out q6_14) (fun _ _ _ h => h) (Or.inl ⟨by rfl, ?_⟩) hHeld ?_ ?_
            rotate_left
            ·rintro w' ⟨s0, s1, s2, s3, s4, s5, s6, s7, s8, s9, WA, XA, YA, ZA, cB, dB, eB, fB, gB⟩
             go_simp
             with_reducible rfl
            rotate_left
            ·simp only [Act.put, List.setIfInBounds_toArray, List.set_cons_zero, List.set_cons_succ, i64_w, i32_w]
             rfl
            refine one_ (i := 17) (N := some 63) #[T,T,T,T,T,T,T,T,T,T,T,T,T,T,T,T,T,T,F,F,F,F,F,F,F,F,F,F,F,F,F,F,F,F,F,F,F] rfl rfl (one_of HT_.out q6_14) (by decide) (fun K hK => ?_)
            refine goes_ Try.func49 q6_14 rfl #[.int .i64 nA, .agg #[.int .i64 ((rd_T75 bA aA).f0), .int .i64 ((rd_T75 bA aA).f1), .int .i64 ((rd_T75 bA aA).f2), .int .i64 ((rd_T75 bA aA).f3), .int .i64 ((rd_T75 bA aA).f4), .int .i64 ((rd_T75 bA aA).f5), .int .i64 ((rd_T75 bA aA).f6), .int .i64 ((rd_T75 bA aA).f7), .int .i64 ((rd_T75 bA aA).f8), .bool ((rd_T75 bA aA).f9)]] (by rfl) rfl rfl q6_12 ?_
            with_reducible refine (spec_l07Begin.calls nA ((rd_T75 bA aA).f0) ((rd_T75 bA aA).f1) ((rd_T75 bA aA).f2) ((rd_T75 bA aA).f3) ((rd_T75 bA aA).f4) ((rd_T75 bA aA).f5) ((rd_T75 bA aA).f6) ((rd_T75 bA aA).f7) ((rd_T75 bA aA).f8) ((rd_T75 bA aA).f9) GB IB JB KB LB MB NB OB PB QB _ A34.out).mono ?_
            rintro e WG ⟨rfl, hb⟩
            refine ⟨_, rfl, ?_⟩
            have CA := Aside0.mk (blk_below (g := hA) (o := .cells #[.int .i64 nA, .int .i64 qA, .slice MA oA.length NA, .slice OA pA.length PA, .int .i64 rA] 29 (0, 0)) q6_5 hb)
            have DA := Aside0.mk (blk_below (g := gA) (o := .cells #[.slice (some ad177) bA.length JA, .int .i64 mA, .slice UA iA.length KA, .slice VA jA.length LA] 55 (0, 0)) q6_6 hb)
            have EA := Aside0.mk (blk_below (g := cA) (o := .cells #[.int .i64 ((rd_T75 bA aA).f0), .int .i64 ((rd_T75 bA aA).f1), .int .i64 ((rd_T75 bA aA).f2), .int .i64 ((rd_T75 bA aA).f3), .int .i64 ((rd_T75 bA aA).f4), .int .i64 ((rd_T75 bA aA).f5), .int .i64 ((rd_T75 bA aA).f6), .int .i64 ((rd_T75 bA aA).f7), .int .i64 ((rd_T75 bA aA).f8), .bool ((rd_T75 bA aA).f9)] 75 (0, 0)) q6_13 hb)
            have FA := Aside0.mk (below_step q6_4 hb)
            clear fA
            clear eA
            clear dA
            clear HB
            have fA := CA
            have eA := DA
            have dA := EA
            have HB := FA
            clear CA DA EA FA
            (try clear hb)
            (try clear hb2)
            (try clear hk)
            (try clear hi)
            refine hK.out _ _ ⟨(blk_cell dA.out 0).trans rfl, (blk_cell dA.out 1).trans rfl, (blk_cell dA.out 2).trans rfl, (blk_cell dA.out 3).trans rfl, (blk_cell dA.out 4).trans rfl, (blk_cell dA.out 5).trans rfl, (blk_cell dA.out 6).trans rfl, (blk_cell dA.out 7).trans rfl, (blk_cell dA.out 8).trans rfl, (blk_cell dA.out 9).trans rfl, (blk_cell eA.out 0).trans rfl, (blk_cell eA.out 1).trans rfl, (blk_cell eA.out 2).trans rfl, (blk_cell eA.out 3).trans rfl, (blk_cell fA.out 0).trans rfl, (blk_cell fA.out 1).trans rfl, (blk_cell fA.out 2).trans rfl, (blk_cell fA.out 3).trans rfl, (blk_cell fA.out 4).trans rfl⟩ (fun hHeld => ?_)
            clear hK K
            refine norm_ (a' := ?_) ?_ ?_
            rotate_left
            ·show Act.put _ (some 63) _ = _
             simp only [Act.put, List.setIfInBounds_toArray, List.set_cons_zero, List.set_cons_succ, i64_w, i32_w]
             rfl
            refine q6_p 18 64 #[T,T,T,T,T,T,T,T,T,T,T,T,T,T,T,T,T,T,T,F,F,F,F,F,F,F,F,F,F,F,F,F,F,F,F,F,F] ?_
            refine q6_p 19 65 #[T,T,T,T,T,T,T,T,T,T,T,T,T,T,T,T,T,T,T,T,F,F,F,F,F,F,F,F,F,F,F,F,F,F,F,F,F] ?_
            refine q6_p 20 66 #[T,T,T,T,T,T,T,T,T,T,T,T,T,T,T,T,T,T,T,T,T,F,F,F,F,F,F,F,F,F,F,F,F,F,F,F,F] ?_
            refine q6_p 21 67 #[T,T,T,T,T,T,T,T,T,T,T,T,T,T,T,T,T,T,T,T,T,T,F,F,F,F,F,F,F,F,F,F,F,F,F,F,F] ?_
            refine q6_u 22 68 #[T,T,T,T,T,T,T,T,T,T,T,T,T,T,T,T,T,T,T,T,T,T,T,F,F,F,F,F,F,F,F,F,F,F,F,F,F] ?_
            refine q6_u 23 69 #[T,T,T,T,T,T,T,T,T,T,T,T,T,T,T,T,T,T,T,T,T,T,T,T,F,F,F,F,F,F,F,F,F,F,F,F,F] ?_
            refine q6_u 24 70 #[T,T,T,T,T,T,T,T,T,T,T,T,T,T,T,T,T,T,T,T,T,T,T,T,T,F,F,F,F,F,F,F,F,F,F,F,F] ?_
            refine q6_u 25 71 #[T,T,T,T,T,T,T,T,T,T,T,T,T,T,T,T,T,T,T,T,T,T,T,T,T,T,F,F,F,F,F,F,F,F,F,F,F] ?_
            refine q6_u 26 72 #[T,T,T,T,T,T,T,T,T,T,T,T,T,T,T,T,T,T,T,T,T,T,T,T,T,T,T,F,F,F,F,F,F,F,F,F,F] ?_
            refine q6_u 27 73 #[T,T,T,T,T,T,T,T,T,T,T,T,T,T,T,T,T,T,T,T,T,T,T,T,T,T,T,T,F,F,F,F,F,F,F,F,F] ?_
            refine q6_u 28 74 #[T,T,T,T,T,T,T,T,T,T,T,T,T,T,T,T,T,T,T,T,T,T,T,T,T,T,T,T,T,F,F,F,F,F,F,F,F] ?_
            refine q6_u 29 75 #[T,T,T,T,T,T,T,T,T,T,T,T,T,T,T,T,T,T,T,T,T,T,T,T,T,T,T,T,T,T,F,F,F,F,F,F,F] ?_
            refine q6_u 30 76 #[T,T,T,T,T,T,T,T,T,T,T,T,T,T,T,T,T,T,T,T,T,T,T,T,T,T,T,T,T,T,T,F,F,F,F,F,F] ?_
            refine q6_u 31 77 #[T,T,T,T,T,T,T,T,T,T,T,T,T,T,T,T,T,T,T,T,T,T,T,T,T,T,T,T,T,T,T,T,F,F,F,F,F] ?_
            refine q6_u 32 78 #[T,T,T,T,T,T,T,T,T,T,T,T,T,T,T,T,T,T,T,T,T,T,T,T,T,T,T,T,T,T,T,T,T,F,F,F,F] ?_
            refine q6_u 33 79 #[T,T,T,T,T,T,T,T,T,T,T,T,T,T,T,T,T,T,T,T,T,T,T,T,T,T,T,T,T,T,T,T,T,T,F,F,F] ?_
            refine q6_u 34 80 #[T,T,T,T,T,T,T,T,T,T,T,T,T,T,T,T,T,T,T,T,T,T,T,T,T,T,T,T,T,T,T,T,T,T,T,F,F] ?_
            refine q6_u 35 81 #[T,T,T,T,T,T,T,T,T,T,T,T,T,T,T,T,T,T,T,T,T,T,T,T,T,T,T,T,T,T,T,T,T,T,T,T,F] ?_
            refine q6_p 36 82 #[T,T,T,T,T,T,T,T,T,T,T,T,T,T,T,T,T,T,T,T,T,T,T,T,T,T,T,T,T,T,T,T,T,T,T,T,T] ?_
            refine done_ (done_of HT_.out q6_14) ?_
            try go_wp2
            go_ret
            exact ⟨q6_17, q6_4⟩
           ·rw [if_neg c35] at H
            have ED : (!(((rd_T75 bA aA).f0) == GB) || (!(((rd_T75 bA aA).f1) == IB) || (!(((rd_T75 bA aA).f2) == JB) || (!(((rd_T75 bA aA).f3) == KB) || (!(((rd_T75 bA aA).f4) == LB) || (!(((rd_T75 bA aA).f5) == MB) || (!(((rd_T75 bA aA).f6) == NB) || (!(((rd_T75 bA aA).f7) == OB) || (!(((rd_T75 bA aA).f8) == PB) || (!(((rd_T75 bA aA).f9) == QB))))))))))) = false := by simpa using c35
            clear c35
            by_cases c43 : aA < (iA.length : Int)
            ·rw [if_pos c43] at H
             have sG : decide (aA < (iA.length : Int)) = true := decide_eq_true c43
             clear c43
             by_cases c44 : aA < (jA.length : Int)
             ·rw [if_pos c44] at H
              have tG : decide (aA < (jA.length : Int)) = true := decide_eq_true c44
              clear c44
              replace H := Option.bind_eq_some_iff.mp H
              obtain ⟨HC, A450, H⟩ := H
              replace H : (if HC = true then (spec_l07Thread.l0 k2 bA (bA.length : Int) (wrap64 (aA + 1)) nA qA oA pA rA bA mA iA jA) else (some false)) = some r := H
              have A45 := Aside0.mk A450
              clear A450
              by_cases c46 : HC = true
              ·subst c46
               have H1 : (spec_l07Thread.l0 k2 bA (bA.length : Int) (wrap64 (aA + 1)) nA qA oA pA rA bA mA iA jA) = some r := by rw [if_pos rfl] at H; exact H
               clear H
               have H := H1
               clear H1
               have H' := Aside0.mk H
               clear H
               have p177 : 0 ≤ (aA : Int) := of_decide_eq_true q6_7
               have q177 : aA < (bA.length : Int) := of_decide_eq_true q6_7
               obtain ⟨ad177, uB, sA, tA, uA, vA, wA, xA, yA, zA, AA, BA⟩ := at_T75 wB.out aA p177 q177
               cases uB
               replace sA := (HB.out.cell (World.block_lt_of_cell? w _ sA)).trans sA
               replace tA := (HB.out.cell (World.block_lt_of_cell? w _ tA)).trans tA
               replace uA := (HB.out.cell (World.block_lt_of_cell? w _ uA)).trans uA
               replace vA := (HB.out.cell (World.block_lt_of_cell? w _ vA)).trans vA
               replace wA := (HB.out.cell (World.block_lt_of_cell? w _ wA)).trans wA
               replace xA := (HB.out.cell (World.block_lt_of_cell? w _ xA)).trans xA
               replace yA := (HB.out.cell (World.block_lt_of_cell? w _ yA)).trans yA
               replace zA := (HB.out.cell (World.block_lt_of_cell? w _ zA)).trans zA
               replace AA := (HB.out.cell (World.block_lt_of_cell? w _ AA)).trans AA
               replace BA := (HB.out.cell (World.block_lt_of_cell? w _ BA)).trans BA
               replace p177 := eq_true p177
               replace q177 := eq_true q177
               try go_wp2_with (first | ((with_reducible refine gate_dst (N := 7) rfl ?_); (try (refine gate_guard (by rfl) ?_; dsimp only)); refine box_event ?hg (N := 7) ?hd (cs := #[.int .i64 0, .int .i64 0, .int .i64 0, .int .i64 0, .int .i64 0, .int .i64 0, .int .i64 0, .int .i64 0, .int .i64 0, .bool false]) (t := 75) ?hr ?_; (case hd => rfl); (case hg => rfl); (case hr => first | (go_simp; done) | (go_simp; rfl)); intro cA hg SB hbox hb; have CA := Aside0.mk (blk_below (g := hA) (o := .cells #[.int .i64 nA, .int .i64 qA, .slice MA oA.length NA, .slice OA pA.length PA, .int .i64 rA] 29 (0, 0)) q6_5 hb); have DA := Aside0.mk (blk_below (g := gA) (o := .cells #[.slice (some ad177) bA.length JA, .int .i64 mA, .slice UA iA.length KA, .slice VA jA.length LA] 55 (0, 0)) q6_6 hb); have EA := Aside0.mk (below_step q6_3 hb); have FA := Aside0.mk (hbox); have xB := Aside0.mk ((q6_18 : w.heap.size ≤ cA)); have yB := Aside0.mk ((q6_18 : w.heap.size ≤ cA)); have zB := Aside0.mk ((q6_8 : hA ≠ cA)); have AB := Aside0.mk ((q6_9 : cA ≠ hA)); have BB := Aside0.mk ((q6_10 : gA ≠ cA)); have CB := Aside0.mk ((q6_11 : cA ≠ gA)); clear fA; clear eA; clear HB; have fA := CA; have eA := DA; have HB := EA; have dA := FA; have DB := xB; have vB := yB; have kA := zB; have GA := AB; have lA := BB; have IA := CB; clear CA DA EA FA xB yB zB AB BB CB; clear hb hbox hg; have uG := GA.out; have vG := kA.out; have wG := IA.out; have xG := lA.out; have tE : SB.cell? ⟨cA, 0, none⟩ = some (.int .i64 0) := (blk_cell dA.out 0).trans rfl; have uE : SB.cell? ⟨cA, 1, none⟩ = some (.int .i64 0) := (blk_cell dA.out 1).trans rfl; have vE : SB.cell? ⟨cA, 2, none⟩ = some (.int .i64 0) := (blk_cell dA.out 2).trans rfl; have wE : SB.cell? ⟨cA, 3, none⟩ = some (.int .i64 0) := (blk_cell dA.out 3).trans rfl; have xE : SB.cell? ⟨cA, 4, none⟩ = some (.int .i64 0) := (blk_cell dA.out 4).trans rfl; have yE : SB.cell? ⟨cA, 5, none⟩ = some (.int .i64 0) := (blk_cell dA.out 5).trans rfl; have zE : SB.cell? ⟨cA, 6, none⟩ = some (.int .i64 0) := (blk_cell dA.out 6).trans rfl; have AE : SB.cell? ⟨cA, 7, none⟩ = some (.int .i64 0) := (blk_cell dA.out 7).trans rfl; have BE : SB.cell? ⟨cA, 8, none⟩ = some (.int .i64 0) := (blk_cell dA.out 8).trans rfl; have CE : SB.cell? ⟨cA, 9, none⟩ = some (.bool false) := (blk_cell dA.out 9).trans rfl; have DE := blk_frozen dA.out 0; have EE := blk_frozen dA.out 1; have FE := blk_frozen dA.out 2; have GE := blk_frozen dA.out 3; have HE := blk_frozen dA.out 4; have IE := blk_frozen dA.out 5; have JE := blk_frozen dA.out 6; have KE := blk_frozen dA.out 7; have LE := blk_frozen dA.out 8; have ME := blk_frozen dA.out 9))
               have CA : Aside0 (((((((((((SB.setCell ⟨cA, 0, none⟩ (.int .i64 ((rd_T75 bA aA).f0))).setCell ⟨cA, 1, none⟩ (.int .i64 ((rd_T75 bA aA).f1))).setCell ⟨cA, 2, none⟩ (.int .i64 ((rd_T75 bA aA).f2))).setCell ⟨cA, 3, none⟩ (.int .i64 ((rd_T75 bA aA).f3))).setCell ⟨cA, 4, none⟩ (.int .i64 ((rd_T75 bA aA).f4))).setCell ⟨cA, 5, none⟩ (.int .i64 ((rd_T75 bA aA).f5))).setCell ⟨cA, 6, none⟩ (.int .i64 ((rd_T75 bA aA).f6))).setCell ⟨cA, 7, none⟩ (.int .i64 ((rd_T75 bA aA).f7))).setCell ⟨cA, 8, none⟩ (.int .i64 ((rd_T75 bA aA).f8))).setCell ⟨cA, 9, none⟩ (.bool ((rd_T75 bA aA).f9))).heap[hA]? = some (.cells #[.int .i64 nA, .int .i64 qA, .slice MA oA.length NA, .slice OA pA.length PA, .int .i64 rA] 29 (0, 0))) := ⟨q6_1⟩
               have DA : Aside0 (((((((((((SB.setCell ⟨cA, 0, none⟩ (.int .i64 ((rd_T75 bA aA).f0))).setCell ⟨cA, 1, none⟩ (.int .i64 ((rd_T75 bA aA).f1))).setCell ⟨cA, 2, none⟩ (.int .i64 ((rd_T75 bA aA).f2))).setCell ⟨cA, 3, none⟩ (.int .i64 ((rd_T75 bA aA).f3))).setCell ⟨cA, 4, none⟩ (.int .i64 ((rd_T75 bA aA).f4))).setCell ⟨cA, 5, none⟩ (.int .i64 ((rd_T75 bA aA).f5))).setCell ⟨cA, 6, none⟩ (.int .i64 ((rd_T75 bA aA).f6))).setCell ⟨cA, 7, none⟩ (.int .i64 ((rd_T75 bA aA).f7))).setCell ⟨cA, 8, none⟩ (.int .i64 ((rd_T75 bA aA).f8))).setCell ⟨cA, 9, none⟩ (.bool ((rd_T75 bA aA).f9))).heap[gA]? = some (.cells #[.slice (some ad177) bA.length JA, .int .i64 mA, .slice UA iA.length KA, .slice VA jA.length LA] 55 (0, 0))) := ⟨q6_2⟩
               have EA : Aside0 (((((((((((SB.setCell ⟨cA, 0, none⟩ (.int .i64 ((rd_T75 bA aA).f0))).setCell ⟨cA, 1, none⟩ (.int .i64 ((rd_T75 bA aA).f1))).setCell ⟨cA, 2, none⟩ (.int .i64 ((rd_T75 bA aA).f2))).setCell ⟨cA, 3, none⟩ (.int .i64 ((rd_T75 bA aA).f3))).setCell ⟨cA, 4, none⟩ (.int .i64 ((rd_T75 bA aA).f4))).setCell ⟨cA, 5, none⟩ (.int .i64 ((rd_T75 bA aA).f5))).setCell ⟨cA, 6, none⟩ (.int .i64 ((rd_T75 bA aA).f6))).setCell ⟨cA, 7, none⟩ (.int .i64 ((rd_T75 bA aA).f7))).setCell ⟨cA, 8, none⟩ (.int .i64 ((rd_T75 bA aA).f8))).setCell ⟨cA, 9, none⟩ (.bool ((rd_T75 bA aA).f9))).heap[cA]? = some (.cells #[.int .i64 ((rd_T75 bA aA).f0), .int .i64 ((rd_T75 bA aA).f1), .int .i64 ((rd_T75 bA aA).f2), .int .i64 ((rd_T75 bA aA).f3), .int .i64 ((rd_T75 bA aA).f4), .int .i64 ((rd_T75 bA aA).f5), .int .i64 ((rd_T75 bA aA).f6), .int .i64 ((rd_T75 bA aA).f7), .int .i64 ((rd_T75 bA aA).f8), .bool ((rd_T75 bA aA).f9)] 75 (0, 0))) := ⟨q6_0⟩
               have FA : Aside0 (Below w.heap.size w ((((((((((SB.setCell ⟨cA, 0, none⟩ (.int .i64 ((rd_T75 bA aA).f0))).setCell ⟨cA, 1, none⟩ (.int .i64 ((rd_T75 bA aA).f1))).setCell ⟨cA, 2, none⟩ (.int .i64 ((rd_T75 bA aA).f2))).setCell ⟨cA, 3, none⟩ (.int .i64 ((rd_T75 bA aA).f3))).setCell ⟨cA, 4, none⟩ (.int .i64 ((rd_T75 bA aA).f4))).setCell ⟨cA, 5, none⟩ (.int .i64 ((rd_T75 bA aA).f5))).setCell ⟨cA, 6, none⟩ (.int .i64 ((rd_T75 bA aA).f6))).setCell ⟨cA, 7, none⟩ (.int .i64 ((rd_T75 bA aA).f7))).setCell ⟨cA, 8, none⟩ (.int .i64 ((rd_T75 bA aA).f8))).setCell ⟨cA, 9, none⟩ (.bool ((rd_T75 bA aA).f9)))) := ⟨q6_4⟩
               (try clear fA)
               (try clear eA)
               (try clear dA)
               (try clear HB)
               generalize ((((((((((SB.setCell ⟨cA, 0, none⟩ (.int .i64 ((rd_T75 bA aA).f0))).setCell ⟨cA, 1, none⟩ (.int .i64 ((rd_T75 bA aA).f1))).setCell ⟨cA, 2, none⟩ (.int .i64 ((rd_T75 bA aA).f2))).setCell ⟨cA, 3, none⟩ (.int .i64 ((rd_T75 bA aA).f3))).setCell ⟨cA, 4, none⟩ (.int .i64 ((rd_T75 bA aA).f4))).setCell ⟨cA, 5, none⟩ (.int .i64 ((rd_T75 bA aA).f5))).setCell ⟨cA, 6, none⟩ (.int .i64 ((rd_T75 bA aA).f6))).setCell ⟨cA, 7, none⟩ (.int .i64 ((rd_T75 bA aA).f7))).setCell ⟨cA, 8, none⟩ (.int .i64 ((rd_T75 bA aA).f8))).setCell ⟨cA, 9, none⟩ (.bool ((rd_T75 bA aA).f9))) = QG at CA DA EA FA ⊢
               have fA := CA
               have eA := DA
               have dA := EA
               have HB := FA
               clear CA DA EA FA
               have CA := Aside0.mk (blk_drew fA.out)
               have DA := Aside0.mk (blk_drew eA.out)
               have EA := Aside0.mk (blk_drew dA.out)
               have FA := Aside0.mk (below_drew1 HB.out)
               clear fA
               clear eA
               clear dA
               clear HB
               have fA := CA
               have eA := DA
               have dA := EA
               have HB := FA
               clear CA DA EA FA
               have p189 : 0 ≤ (aA : Int) := of_decide_eq_true q6_7
               have q189 : aA < (iA.length : Int) := of_decide_eq_true q6_7
               obtain ⟨ad189, qD, QA⟩ := Kd.at_int YB.out aA p189 q189
               have hw189_0 := QA
               cases qD
               replace QA := (HB.out.cell (World.block_lt_of_cell? w _ QA)).trans QA
               replace p189 := eq_true p189
               replace q189 := eq_true q189
               have p190 : 0 ≤ (aA : Int) := of_decide_eq_true q6_7
               have q190 : aA < (jA.length : Int) := of_decide_eq_true q6_7
               obtain ⟨ad190, rD, RA⟩ := Kd.at_int ZB.out aA p190 q190
               have hw190_0 := RA
               cases rD
               replace RA := (HB.out.cell (World.block_lt_of_cell? w _ RA)).trans RA
               replace p190 := eq_true p190
               replace q190 := eq_true q190
               refine start_ (n := 37) (S := fun w' => w'.cell? ⟨cA, 0, none⟩ = some (.int .i64 ((rd_T75 bA aA).f0)) ∧ w'.cell? ⟨cA, 1, none⟩ = some (.int .i64 ((rd_T75 bA aA).f1)) ∧ w'.cell? ⟨cA, 2, none⟩ = some (.int .i64 ((rd_T75 bA aA).f2)) ∧ w'.cell? ⟨cA, 3, none⟩ = some (.int .i64 ((rd_T75 bA aA).f3)) ∧ w'.cell? ⟨cA, 4, none⟩ = some (.int .i64 ((rd_T75 bA aA).f4)) ∧ w'.cell? ⟨cA, 5, none⟩ = some (.int .i64 ((rd_T75 bA aA).f5)) ∧ w'.cell? ⟨cA, 6, none⟩ = some (.int .i64 ((rd_T75 bA aA).f6)) ∧ w'.cell? ⟨cA, 7, none⟩ = some (.int .i64 ((rd_T75 bA aA).f7)) ∧ w'.cell? ⟨cA, 8, none⟩ = some (.int .i64 ((rd_T75 bA aA).f8)) ∧ w'.cell? ⟨cA, 9, none⟩ = some (.bool ((rd_T75 bA aA).f9)) ∧ w'.cell? ⟨gA, 0, none⟩ = some (.slice (some ad177) bA.length JA) ∧ w'.cell? ⟨gA, 1, none⟩ = some (.int .i64 mA) ∧ w'.cell? ⟨gA, 2, none⟩ = some (.slice (some ad189) iA.length KA) ∧ w'.cell? ⟨gA, 3, none⟩ = some (.slice (some ad190) jA.length LA) ∧ w'.cell? ⟨hA, 0, none⟩ = some (.int .i64 nA) ∧ w'.cell? ⟨hA, 1, none⟩ = some (.int .i64 qA) ∧ w'.cell? ⟨hA, 2, none⟩ = some (.slice MA oA.length NA) ∧ w'.cell? ⟨hA, 3, none⟩ = some (.slice OA pA.length PA) ∧ w'.cell? ⟨hA, 4, none⟩ = some (.int .i64 rA) ∧ w'.cell? (ad189.add (aA).toNat) = some (.int .i64 (rd iA aA)) ∧ w'.cell? (ad190.add (aA).toNat) = some (.int .i64 (rd jA aA))) (ds := []) #[F,F,F,F,F,F,F,F,F,F,F,F,F,F,F,F,F,F,F,F,F,F,F,F,F,F,F,F,F,F,F,F,F,F,F,F,F] q6_14 rfl rfl ⟨(blk_cell dA.out 0).trans rfl, (blk_cell dA.out 1).trans rfl, (blk_cell dA.out 2).trans rfl, (blk_cell dA.out 3).trans rfl, (blk_cell dA.out 4).trans rfl, (blk_cell dA.out 5).trans rfl, (blk_cell dA.out 6).trans rfl, (blk_cell dA.out 7).trans rfl, (blk_cell dA.out 8).trans rfl, (blk_cell dA.out 9).trans rfl, (blk_cell eA.out 0).trans rfl, (blk_cell eA.out 1).trans rfl, (blk_cell eA.out 2).trans rfl, (blk_cell eA.out 3).trans rfl, (blk_cell fA.out 0).trans rfl, (blk_cell fA.out 1).trans rfl, (blk_cell fA.out 2).trans rfl, (blk_cell fA.out 3).trans rfl, (blk_cell fA.out 4).trans rfl, ((HB.out.cell (World.block_lt_of_cell? w _ hw189_0)).trans hw189_0), ((HB.out.cell (World.block_lt_of_cell? w _ hw190_0)).trans hw190_0)⟩ (fun hHeld => ?_); refine with_tabW spec_l07Thread.tab7 spec_l07Thread.bits7 (fun HT_ HW_ => ?_)
               generalize QG.drew = XG at fA eA dA HB QA RA hHeld ⊢
               refine q6_p 0 46 #[T,F,F,F,F,F,F,F,F,F,F,F,F,F,F,F,F,F,F,F,F,F,F,F,F,F,F,F,F,F,F,F,F,F,F,F,F] ?_
               refine q6_p 2 48 #[T,F,T,F,F,F,F,F,F,F,F,F,F,F,F,F,F,F,F,F,F,F,F,F,F,F,F,F,F,F,F,F,F,F,F,F,F] ?_
               refine q6_p 3 49 #[T,F,T,T,F,F,F,F,F,F,F,F,F,F,F,F,F,F,F,F,F,F,F,F,F,F,F,F,F,F,F,F,F,F,F,F,F] ?_
               refine take_ (i := 1) (N := some 47) (v := ?_) (a' := ?_) #[T,T,T,T,F,F,F,F,F,F,F,F,F,F,F,F,F,F,F,F,F,F,F,F,F,F,F,F,F,F,F,F,F,F,F,F,F] rfl rfl (take_ofW HT_.out HW_.out q6_14) (fun _ _ _ h => h) (Or.inl ⟨by rfl, ?_⟩) hHeld ?_ ?_
               rotate_left
               ·rintro w' ⟨s0, s1, s2, s3, s4, s5, s6, s7, s8, s9, WA, XA, YA, ZA, cB, dB, eB, fB, gB, jB, kB⟩
                go_simp
                with_reducible rfl
               rotate_left
               ·simp only [Act.put, List.setIfInBounds_toArray, List.set_cons_zero, List.set_cons_succ, i64_w, i32_w]
                rfl
               refine take_ (i := 4) (N := some 50) (v := ?_) (a' := ?_) #[T,T,T,T,T,F,F,F,F,F,F,F,F,F,F,F,F,F,F,F,F,F,F,F,F,F,F,F,F,F,F,F,F,F,F,F,F] rfl rfl (take_ofW HT_.out HW_.out q6_14) (fun _ _ _ h => h) (Or.inl ⟨by rfl, ?_⟩) hHeld ?_ ?_
               rotate_left
               ·rintro w' ⟨s0, s1, s2, s3, s4, s5, s6, s7, s8, s9, WA, XA, YA, ZA, cB, dB, eB, fB, gB, jB, kB⟩
                go_simp
                with_reducible rfl
               rotate_left
               ·simp only [Act.put, List.setIfInBounds_toArray, List.set_cons_zero, List.set_cons_succ, i64_w, i32_w]
                rfl
               refine q6_p 5 51 #[T,T,T,T,T,T,F,F,F,F,F,F,F,F,F,F,F,F,F,F,F,F,F,F,F,F,F,F,F,F,F,F,F,F,F,F,F] ?_
               refine q6_p 6 52 #[T,T,T,T,T,T,T,F,F,F,F,F,F,F,F,F,F,F,F,F,F,F,F,F,F,F,F,F,F,F,F,F,F,F,F,F,F] ?_
               refine q6_p 7 53 #[T,T,T,T,T,T,T,T,F,F,F,F,F,F,F,F,F,F,F,F,F,F,F,F,F,F,F,F,F,F,F,F,F,F,F,F,F] ?_
               refine q6_p 8 54 #[T,T,T,T,T,T,T,T,T,F,F,F,F,F,F,F,F,F,F,F,F,F,F,F,F,F,F,F,F,F,F,F,F,F,F,F,F] ?_
               refine q6_p 9 55 #[T,T,T,T,T,T,T,T,T,T,F,F,F,F,F,F,F,F,F,F,F,F,F,F,F,F,F,F,F,F,F,F,F,F,F,F,F] ?_
               refine take_ (i := 10) (N := some 56) (v := ?_) (a' := ?_) #[T,T,T,T,T,T,T,T,T,T,T,F,F,F,F,F,F,F,F,F,F,F,F,F,F,F,F,F,F,F,F,F,F,F,F,F,F] rfl rfl (take_ofW HT_.out HW_.out q6_14) (fun _ _ _ h => h) (Or.inl ⟨by rfl, ?_⟩) hHeld ?_ ?_
               rotate_left
               ·rintro w' ⟨s0, s1, s2, s3, s4, s5, s6, s7, s8, s9, WA, XA, YA, ZA, cB, dB, eB, fB, gB, jB, kB⟩
                go_simp
                with_reducible rfl
               rotate_left
               ·simp only [Act.put, List.setIfInBounds_toArray, List.set_cons_zero, List.set_cons_succ, i64_w, i32_w]
                rfl
               refine q6_p 11 57 #[T,T,T,T,T,T,T,T,T,T,T,T,F,F,F,F,F,F,F,F,F,F,F,F,F,F,F,F,F,F,F,F,F,F,F,F,F] ?_
               refine q6_p 12 58 #[T,T,T,T,T,T,T,T,T,T,T,T,T,F,F,F,F,F,F,F,F,F,F,F,F,F,F,F,F,F,F,F,F,F,F,F,F] ?_
               refine q6_p 14 60 #[T,T,T,T,T,T,T,T,T,T,T,T,T,F,T,F,F,F,F,F,F,F,F,F,F,F,F,F,F,F,F,F,F,F,F,F,F] ?_
               refine take_ (i := 13) (N := some 59) (v := ?_) (a' := ?_) #[T,T,T,T,T,T,T,T,T,T,T,T,T,T,T,F,F,F,F,F,F,F,F,F,F,F,F,F,F,F,F,F,F,F,F,F,F] rfl rfl (take_ofW HT_.out HW_.out q6_14) (fun _ _ _ h => h) (Or.inl ⟨by rfl, ?_⟩) hHeld ?_ ?_
               rotate_left
               ·rintro w' ⟨s0, s1, s2, s3, s4, s5, s6, s7, s8, s9, WA, XA, YA, ZA, cB, dB, eB, fB, gB, jB, kB⟩
                go_simp
                with_reducible rfl
               rotate_left
               ·simp only [Act.put, List.setIfInBounds_toArray, List.set_cons_zero, List.set_cons_succ, i64_w, i32_w]
                rfl
               refine take_ (i := 15) (N := some 61) (v := ?_) (a' := ?_) #[T,T,T,T,T,T,T,T,T,T,T,T,T,T,T,T,F,F,F,F,F,F,F,F,F,F,F,F,F,F,F,F,F,F,F,F,F] rfl rfl (take_ofW HT_.out HW_.out q6_14) (fun _ _ _ h => h) (Or.inl ⟨by rfl, ?_⟩) hHeld ?_ ?_
               rotate_left
               ·rintro w' ⟨s0, s1, s2, s3, s4, s5, s6, s7, s8, s9, WA, XA, YA, ZA, cB, dB, eB, fB, gB, jB, kB⟩
                go_simp
                with_reducible rfl
               rotate_left
               ·simp only [Act.put, List.setIfInBounds_toArray, List.set_cons_zero, List.set_cons_succ, i64_w, i32_w]
                rfl
               refine take_ (i := 16) (N := some 62) (v := ?_) (a' := ?_) #[T,T,T,T,T,T,T,T,T,T,T,T,T,T,T,T,T,F,F,F,F,F,F,F,F,F,F,F,F,F,F,F,F,F,F,F,F] rfl rfl (take_ofW HT_.out HW_.out q6_14) (fun _ _ _ h => h) (Or.inl ⟨by rfl, ?_⟩) hHeld ?_ ?_
               rotate_left
               ·rintro w' ⟨s0, s1, s2, s3, s4, s5, s6, s7, s8, s9, WA, XA, YA, ZA, cB, dB, eB, fB, gB, jB, kB⟩
                go_simp
                with_reducible rfl
               rotate_left
               ·simp only [Act.put, List.setIfInBounds_toArray, List.set_cons_zero, List.set_cons_succ, i64_w, i32_w]
                rfl
               refine one_ (i := 17) (N := some 63) #[T,T,T,T,T,T,T,T,T,T,T,T,T,T,T,T,T,T,F,F,F,F,F,F,F,F,F,F,F,F,F,F,F,F,F,F,F] rfl rfl (one_of HT_.out q6_14) (by decide) (fun K hK => ?_)
               refine goes_ Try.func49 q6_14 rfl #[.int .i64 nA, .agg #[.int .i64 ((rd_T75 bA aA).f0), .int .i64 ((rd_T75 bA aA).f1), .int .i64 ((rd_T75 bA aA).f2), .int .i64 ((rd_T75 bA aA).f3), .int .i64 ((rd_T75 bA aA).f4), .int .i64 ((rd_T75 bA aA).f5), .int .i64 ((rd_T75 bA aA).f6), .int .i64 ((rd_T75 bA aA).f7), .int .i64 ((rd_T75 bA aA).f8), .bool ((rd_T75 bA aA).f9)]] (by rfl) rfl rfl q6_12 ?_
               with_reducible refine (spec_l07Begin.calls nA ((rd_T75 bA aA).f0) ((rd_T75 bA aA).f1) ((rd_T75 bA aA).f2) ((rd_T75 bA aA).f3) ((rd_T75 bA aA).f4) ((rd_T75 bA aA).f5) ((rd_T75 bA aA).f6) ((rd_T75 bA aA).f7) ((rd_T75 bA aA).f8) ((rd_T75 bA aA).f9) GB IB JB KB LB MB NB OB PB QB _ A34.out).mono ?_
               rintro e YG ⟨rfl, hb⟩
               refine ⟨_, rfl, ?_⟩
               have CA := Aside0.mk (blk_below (g := hA) (o := .cells #[.int .i64 nA, .int .i64 qA, .slice MA oA.length NA, .slice OA pA.length PA, .int .i64 rA] 29 (0, 0)) q6_5 hb)
               have DA := Aside0.mk (blk_below (g := gA) (o := .cells #[.slice (some ad177) bA.length JA, .int .i64 mA, .slice (some ad189) iA.length KA, .slice (some ad190) jA.length LA] 55 (0, 0)) q6_6 hb)
               have EA := Aside0.mk (blk_below (g := cA) (o := .cells #[.int .i64 ((rd_T75 bA aA).f0), .int .i64 ((rd_T75 bA aA).f1), .int .i64 ((rd_T75 bA aA).f2), .int .i64 ((rd_T75 bA aA).f3), .int .i64 ((rd_T75 bA aA).f4), .int .i64 ((rd_T75 bA aA).f5), .int .i64 ((rd_T75 bA aA).f6), .int .i64 ((rd_T75 bA aA).f7), .int .i64 ((rd_T75 bA aA).f8), .bool ((rd_T75 bA aA).f9)] 75 (0, 0)) q6_13 hb)
               have FA := Aside0.mk (below_step q6_4 hb)
               clear fA
               clear eA
               clear dA
               clear HB
               have fA := CA
               have eA := DA
               have dA := EA
               have HB := FA
               clear CA DA EA FA
               (try clear hb)
               (try clear hb2)
               (try clear hk)
               (try clear hi)
               refine hK.out _ _ ⟨(blk_cell dA.out 0).trans rfl, (blk_cell dA.out 1).trans rfl, (blk_cell dA.out 2).trans rfl, (blk_cell dA.out 3).trans rfl, (blk_cell dA.out 4).trans rfl, (blk_cell dA.out 5).trans rfl, (blk_cell dA.out 6).trans rfl, (blk_cell dA.out 7).trans rfl, (blk_cell dA.out 8).trans rfl, (blk_cell dA.out 9).trans rfl, (blk_cell eA.out 0).trans rfl, (blk_cell eA.out 1).trans rfl, (blk_cell eA.out 2).trans rfl, (blk_cell eA.out 3).trans rfl, (blk_cell fA.out 0).trans rfl, (blk_cell fA.out 1).trans rfl, (blk_cell fA.out 2).trans rfl, (blk_cell fA.out 3).trans rfl, (blk_cell fA.out 4).trans rfl, ((HB.out.cell (World.block_lt_of_cell? w _ hw189_0)).trans hw189_0), ((HB.out.cell (World.block_lt_of_cell? w _ hw190_0)).trans hw190_0)⟩ (fun hHeld => ?_)
               clear hK K
               refine norm_ (a' := ?_) ?_ ?_
               rotate_left
               ·show Act.put _ (some 63) _ = _
                simp only [Act.put, List.setIfInBounds_toArray, List.set_cons_zero, List.set_cons_succ, i64_w, i32_w]
                rfl
               refine q6_p 18 64 #[T,T,T,T,T,T,T,T,T,T,T,T,T,T,T,T,T,T,T,F,F,F,F,F,F,F,F,F,F,F,F,F,F,F,F,F,F] ?_
               refine q6_p 19 65 #[T,T,T,T,T,T,T,T,T,T,T,T,T,T,T,T,T,T,T,T,F,F,F,F,F,F,F,F,F,F,F,F,F,F,F,F,F] ?_
               refine q6_p 20 66 #[T,T,T,T,T,T,T,T,T,T,T,T,T,T,T,T,T,T,T,T,T,F,F,F,F,F,F,F,F,F,F,F,F,F,F,F,F] ?_
               refine q6_p 21 67 #[T,T,T,T,T,T,T,T,T,T,T,T,T,T,T,T,T,T,T,T,T,T,F,F,F,F,F,F,F,F,F,F,F,F,F,F,F] ?_
               refine q6_p 24 70 #[T,T,T,T,T,T,T,T,T,T,T,T,T,T,T,T,T,T,T,T,T,T,F,F,T,F,F,F,F,F,F,F,F,F,F,F,F] ?_
               refine q6_p 26 72 #[T,T,T,T,T,T,T,T,T,T,T,T,T,T,T,T,T,T,T,T,T,T,F,F,T,F,T,F,F,F,F,F,F,F,F,F,F] ?_
               refine q6_p 29 75 #[T,T,T,T,T,T,T,T,T,T,T,T,T,T,T,T,T,T,T,T,T,T,F,F,T,F,T,F,F,T,F,F,F,F,F,F,F] ?_
               refine q6_p 31 77 #[T,T,T,T,T,T,T,T,T,T,T,T,T,T,T,T,T,T,T,T,T,T,F,F,T,F,T,F,F,T,F,T,F,F,F,F,F] ?_
               refine take_ (i := 22) (N := some 68) (v := ?_) (a' := ?_) #[T,T,T,T,T,T,T,T,T,T,T,T,T,T,T,T,T,T,T,T,T,T,T,F,T,F,T,F,F,T,F,T,F,F,F,F,F] rfl rfl (take_ofW HT_.out HW_.out q6_14) (fun _ _ _ h => h) (Or.inl ⟨by rfl, ?_⟩) hHeld ?_ ?_
               rotate_left
               ·rintro w' ⟨s0, s1, s2, s3, s4, s5, s6, s7, s8, s9, WA, XA, YA, ZA, cB, dB, eB, fB, gB, jB, kB⟩
                go_simp
                with_reducible rfl
               rotate_left
               ·simp only [Act.put, List.setIfInBounds_toArray, List.set_cons_zero, List.set_cons_succ, i64_w, i32_w]
                rfl
               refine take_ (i := 23) (N := some 69) (v := ?_) (a' := ?_) #[T,T,T,T,T,T,T,T,T,T,T,T,T,T,T,T,T,T,T,T,T,T,T,T,T,F,T,F,F,T,F,T,F,F,F,F,F] rfl rfl (take_ofW HT_.out HW_.out q6_14) (fun _ _ _ h => h) (Or.inl ⟨by rfl, ?_⟩) hHeld ?_ ?_
               rotate_left
               ·rintro w' ⟨s0, s1, s2, s3, s4, s5, s6, s7, s8, s9, WA, XA, YA, ZA, cB, dB, eB, fB, gB, jB, kB⟩
                go_simp
                with_reducible rfl
               rotate_left
               ·simp only [Act.put, List.setIfInBounds_toArray, List.set_cons_zero, List.set_cons_succ, i64_w, i32_w]
                rfl
               refine take_ (i := 25) (N := some 71) (v := ?_) (a' := ?_) #[T,T,T,T,T,T,T,T,T,T,T,T,T,T,T,T,T,T,T,T,T,T,T,T,T,T,T,F,F,T,F,T,F,F,F,F,F] rfl rfl (take_ofW HT_.out HW_.out q6_14) (fun _ _ _ h => h) (Or.inl ⟨by rfl, ?_⟩) hHeld ?_ ?_
               rotate_left
               ·rintro w' ⟨s0, s1, s2, s3, s4, s5, s6, s7, s8, s9, WA, XA, YA, ZA, cB, dB, eB, fB, gB, jB, kB⟩
                go_simp
                with_reducible rfl
               rotate_left
               ·simp only [Act.put, List.setIfInBounds_toArray, List.set_cons_zero, List.set_cons_succ, i64_w, i32_w]
                rfl
               refine q6_p 27 73 #[T,T,T,T,T,T,T,T,T,T,T,T,T,T,T,T,T,T,T,T,T,T,T,T,T,T,T,T,F,T,F,T,F,F,F,F,F] ?_
               refine take_ (i := 28) (N := some 74) (v := ?_) (a' := ?_) #[T,T,T,T,T,T,T,T,T,T,T,T,T,T,T,T,T,T,T,T,T,T,T,T,T,T,T,T,T,T,F,T,F,F,F,F,F] rfl rfl (take_ofW HT_.out HW_.out q6_14) (fun _ _ _ h => h) (Or.inl ⟨by rfl, ?_⟩) hHeld ?_ ?_
               rotate_left
               ·rintro w' ⟨s0, s1, s2, s3, s4, s5, s6, s7, s8, s9, WA, XA, YA, ZA, cB, dB, eB, fB, gB, jB, kB⟩
                go_simp
                with_reducible rfl
               rotate_left
               ·simp only [Act.put, List.setIfInBounds_toArray, List.set_cons_zero, List.set_cons_succ, i64_w, i32_w]
                rfl
               refine take_ (i := 30) (N := some 76) (v := ?_) (a' := ?_) #[T,T,T,T,T,T,T,T,T,T,T,T,T,T,T,T,T,T,T,T,T,T,T,T,T,T,T,T,T,T,T,T,F,F,F,F,F] rfl rfl (take_ofW HT_.out HW_.out q6_14) (fun _ _ _ h => h) (Or.inl ⟨by rfl, ?_⟩) hHeld ?_ ?_
               rotate_left
               ·rintro w' ⟨s0, s1, s2, s3, s4, s5, s6, s7, s8, s9, WA, XA, YA, ZA, cB, dB, eB, fB, gB, jB, kB⟩
                go_simp
                with_reducible rfl
               rotate_left
               ·simp only [Act.put, List.setIfInBounds_toArray, List.set_cons_zero, List.set_cons_succ, i64_w, i32_w]
                rfl
               refine q6_p 32 78 #[T,T,T,T,T,T,T,T,T,T,T,T,T,T,T,T,T,T,T,T,T,T,T,T,T,T,T,T,T,T,T,T,T,F,F,F,F] ?_
               refine take_ (i := 33) (N := some 79) (v := ?_) (a' := ?_) #[T,T,T,T,T,T,T,T,T,T,T,T,T,T,T,T,T,T,T,T,T,T,T,T,T,T,T,T,T,T,T,T,T,T,F,F,F] rfl rfl (take_ofW HT_.out HW_.out q6_14) (fun _ _ _ h => h) (Or.inl ⟨by rfl, ?_⟩) hHeld ?_ ?_
               rotate_left
               ·rintro w' ⟨s0, s1, s2, s3, s4, s5, s6, s7, s8, s9, WA, XA, YA, ZA, cB, dB, eB, fB, gB, jB, kB⟩
                go_simp
                with_reducible rfl
               rotate_left
               ·simp only [Act.put, List.setIfInBounds_toArray, List.set_cons_zero, List.set_cons_succ, i64_w, i32_w]
                rfl
               refine one_ (i := 34) (N := some 80) #[T,T,T,T,T,T,T,T,T,T,T,T,T,T,T,T,T,T,T,T,T,T,T,T,T,T,T,T,T,T,T,T,T,T,T,F,F] rfl rfl (one_of HT_.out q6_14) (by decide) (fun K hK => ?_)
               refine goes_ Try.func89 q6_14 rfl #[.agg #[.int .i64 nA, .int .i64 qA, .slice MA oA.length NA, .slice OA pA.length PA, .int .i64 rA], .agg #[.int .i64 ((rd_T75 bA aA).f0), .int .i64 ((rd_T75 bA aA).f1), .int .i64 ((rd_T75 bA aA).f2), .int .i64 ((rd_T75 bA aA).f3), .int .i64 ((rd_T75 bA aA).f4), .int .i64 ((rd_T75 bA aA).f5), .int .i64 ((rd_T75 bA aA).f6), .int .i64 ((rd_T75 bA aA).f7), .int .i64 ((rd_T75 bA aA).f8), .bool ((rd_T75 bA aA).f9)], .int .i64 (rd iA aA), .int .i64 (rd jA aA)] (by rfl) rfl rfl q6_12 ?_
               with_reducible refine (spec_l07Times.calls k2 nA qA _ _ oA _ _ pA rA ((rd_T75 bA aA).f0) ((rd_T75 bA aA).f1) ((rd_T75 bA aA).f2) ((rd_T75 bA aA).f3) ((rd_T75 bA aA).f4) ((rd_T75 bA aA).f5) ((rd_T75 bA aA).f6) ((rd_T75 bA aA).f7) ((rd_T75 bA aA).f8) ((rd_T75 bA aA).f9) (rd iA aA) (rd jA aA) true _ ?side1 ?side2 ?side3 ?side4 A45.out).mono ?_
               (case side1 => exact q6_15)
               (case side2 => exact WB.out)
               (case side3 => exact q6_16)
               (case side4 => exact XB.out)
               rintro e ZG ⟨rfl, hb⟩
               refine ⟨_, rfl, ?_⟩
               have CA := Aside0.mk (blk_below (g := hA) (o := .cells #[.int .i64 nA, .int .i64 qA, .slice MA oA.length NA, .slice OA pA.length PA, .int .i64 rA] 29 (0, 0)) q6_5 hb)
               have DA := Aside0.mk (blk_below (g := gA) (o := .cells #[.slice (some ad177) bA.length JA, .int .i64 mA, .slice (some ad189) iA.length KA, .slice (some ad190) jA.length LA] 55 (0, 0)) q6_6 hb)
               have EA := Aside0.mk (blk_below (g := cA) (o := .cells #[.int .i64 ((rd_T75 bA aA).f0), .int .i64 ((rd_T75 bA aA).f1), .int .i64 ((rd_T75 bA aA).f2), .int .i64 ((rd_T75 bA aA).f3), .int .i64 ((rd_T75 bA aA).f4), .int .i64 ((rd_T75 bA aA).f5), .int .i64 ((rd_T75 bA aA).f6), .int .i64 ((rd_T75 bA aA).f7), .int .i64 ((rd_T75 bA aA).f8), .bool ((rd_T75 bA aA).f9)] 75 (0, 0)) q6_13 hb)
               have FA := Aside0.mk (below_step q6_4 hb)
               clear fA
               clear eA
               clear dA
               clear HB
               have fA := CA
               have eA := DA
               have dA := EA
               have HB := FA
               clear CA DA EA FA
               (try clear hb)
               (try clear hb2)
               (try clear hk)
               (try clear hi)
               refine hK.out _ _ ⟨(blk_cell dA.out 0).trans rfl, (blk_cell dA.out 1).trans rfl, (blk_cell dA.out 2).trans rfl, (blk_cell dA.out 3).trans rfl, (blk_cell dA.out 4).trans rfl, (blk_cell dA.out 5).trans rfl, (blk_cell dA.out 6).trans rfl, (blk_cell dA.out 7).trans rfl, (blk_cell dA.out 8).trans rfl, (blk_cell dA.out 9).trans rfl, (blk_cell eA.out 0).trans rfl, (blk_cell eA.out 1).trans rfl, (blk_cell eA.out 2).trans rfl, (blk_cell eA.out 3).trans rfl, (blk_cell fA.out 0).trans rfl, (blk_cell fA.out 1).trans rfl, (blk_cell fA.out 2).trans rfl, (blk_cell fA.out 3).trans rfl, (blk_cell fA.out 4).trans rfl, ((HB.out.cell (World.block_lt_of_cell? w _ hw189_0)).trans hw189_0), ((HB.out.cell (World.block_lt_of_cell? w _ hw190_0)).trans hw190_0)⟩ (fun hHeld => ?_)
               clear hK K
               refine norm_ (a' := ?_) ?_ ?_
               rotate_left
               ·show Act.put _ (some 80) _ = _
                simp only [Act.put, List.setIfInBounds_toArray, List.set_cons_zero, List.set_cons_succ, i64_w, i32_w]
                rfl
               refine q6_p 35 81 #[T,T,T,T,T,T,T,T,T,T,T,T,T,T,T,T,T,T,T,T,T,T,T,T,T,T,T,T,T,T,T,T,T,T,T,T,F] ?_
               refine q6_p 36 82 #[T,T,T,T,T,T,T,T,T,T,T,T,T,T,T,T,T,T,T,T,T,T,T,T,T,T,T,T,T,T,T,T,T,T,T,T,T] ?_
               refine done_ (done_of HT_.out q6_14) ?_
               try go_wp2
               go_roundg k2
               case measure => have := HJ2.out; have := HK2.out; omega
               case rel => exact ⟨(wrap64 (aA + 1)), q6_20, H', ⟨by have := HJ2.out; have := HK2.out; omega⟩, ⟨q6_5⟩, ⟨q6_6⟩, ⟨q6_4⟩⟩
              ·replace c46 := Bool.eq_false_iff.mpr c46
               subst c46
               have H1 : (some false) = some r := by rw [if_neg (show ¬ (false = true) by decide)] at H; exact H
               clear H
               have H := H1
               clear H1
               obtain rfl := Option.some.inj H
               have p177 : 0 ≤ (aA : Int) := of_decide_eq_true q6_7
               have q177 : aA < (bA.length : Int) := of_decide_eq_true q6_7
               obtain ⟨ad177, uB, sA, tA, uA, vA, wA, xA, yA, zA, AA, BA⟩ := at_T75 wB.out aA p177 q177
               cases uB
               replace sA := (HB.out.cell (World.block_lt_of_cell? w _ sA)).trans sA
               replace tA := (HB.out.cell (World.block_lt_of_cell? w _ tA)).trans tA
               replace uA := (HB.out.cell (World.block_lt_of_cell? w _ uA)).trans uA
               replace vA := (HB.out.cell (World.block_lt_of_cell? w _ vA)).trans vA
               replace wA := (HB.out.cell (World.block_lt_of_cell? w _ wA)).trans wA
               replace xA := (HB.out.cell (World.block_lt_of_cell? w _ xA)).trans xA
               replace yA := (HB.out.cell (World.block_lt_of_cell? w _ yA)).trans yA
               replace zA := (HB.out.cell (World.block_lt_of_cell? w _ zA)).trans zA
               replace AA := (HB.out.cell (World.block_lt_of_cell? w _ AA)).trans AA
               replace BA := (HB.out.cell (World.block_lt_of_cell? w _ BA)).trans BA
               replace p177 := eq_true p177
               replace q177 := eq_true q177
               try go_wp2_with (first | ((with_reducible refine gate_dst (N := 7) rfl ?_); (try (refine gate_guard (by rfl) ?_; dsimp only)); refine box_event ?hg (N := 7) ?hd (cs := #[.int .i64 0, .int .i64 0, .int .i64 0, .int .i64 0, .int .i64 0, .int .i64 0, .int .i64 0, .int .i64 0, .int .i64 0, .bool false]) (t := 75) ?hr ?_; (case hd => rfl); (case hg => rfl); (case hr => first | (go_simp; done) | (go_simp; rfl)); intro cA hg TB hbox hb; have CA := Aside0.mk (blk_below (g := hA) (o := .cells #[.int .i64 nA, .int .i64 qA, .slice MA oA.length NA, .slice OA pA.length PA, .int .i64 rA] 29 (0, 0)) q6_5 hb); have DA := Aside0.mk (blk_below (g := gA) (o := .cells #[.slice (some ad177) bA.length JA, .int .i64 mA, .slice UA iA.length KA, .slice VA jA.length LA] 55 (0, 0)) q6_6 hb); have EA := Aside0.mk (below_step q6_3 hb); have FA := Aside0.mk (hbox); have xB := Aside0.mk ((q6_18 : w.heap.size ≤ cA)); have yB := Aside0.mk ((q6_18 : w.heap.size ≤ cA)); have zB := Aside0.mk ((q6_8 : hA ≠ cA)); have AB := Aside0.mk ((q6_9 : cA ≠ hA)); have BB := Aside0.mk ((q6_10 : gA ≠ cA)); have CB := Aside0.mk ((q6_11 : cA ≠ gA)); clear fA; clear eA; clear HB; have fA := CA; have eA := DA; have HB := EA; have dA := FA; have DB := xB; have vB := yB; have kA := zB; have GA := AB; have lA := BB; have IA := CB; clear CA DA EA FA xB yB zB AB BB CB; clear hb hbox hg; have yG := GA.out; have zG := kA.out; have AG := IA.out; have BG := lA.out; have NE : TB.cell? ⟨cA, 0, none⟩ = some (.int .i64 0) := (blk_cell dA.out 0).trans rfl; have OE : TB.cell? ⟨cA, 1, none⟩ = some (.int .i64 0) := (blk_cell dA.out 1).trans rfl; have PE : TB.cell? ⟨cA, 2, none⟩ = some (.int .i64 0) := (blk_cell dA.out 2).trans rfl; have QE : TB.cell? ⟨cA, 3, none⟩ = some (.int .i64 0) := (blk_cell dA.out 3).trans rfl; have RE : TB.cell? ⟨cA, 4, none⟩ = some (.int .i64 0) := (blk_cell dA.out 4).trans rfl; have SE : TB.cell? ⟨cA, 5, none⟩ = some (.int .i64 0) := (blk_cell dA.out 5).trans rfl; have TE : TB.cell? ⟨cA, 6, none⟩ = some (.int .i64 0) := (blk_cell dA.out 6).trans rfl; have UE : TB.cell? ⟨cA, 7, none⟩ = some (.int .i64 0) := (blk_cell dA.out 7).trans rfl; have VE : TB.cell? ⟨cA, 8, none⟩ = some (.int .i64 0) := (blk_cell dA.out 8).trans rfl; have WE : TB.cell? ⟨cA, 9, none⟩ = some (.bool false) := (blk_cell dA.out 9).trans rfl; have XE := blk_frozen dA.out 0; have YE := blk_frozen dA.out 1; have ZE := blk_frozen dA.out 2; have aF := blk_frozen dA.out 3; have bF := blk_frozen dA.out 4; have cF := blk_frozen dA.out 5; have dF := blk_frozen dA.out 6; have eF := blk_frozen dA.out 7; have fF := blk_frozen dA.out 8; have gF := blk_frozen dA.out 9))
               have CA : Aside0 (((((((((((TB.setCell ⟨cA, 0, none⟩ (.int .i64 ((rd_T75 bA aA).f0))).setCell ⟨cA, 1, none⟩ (.int .i64 ((rd_T75 bA aA).f1))).setCell ⟨cA, 2, none⟩ (.int .i64 ((rd_T75 bA aA).f2))).setCell ⟨cA, 3, none⟩ (.int .i64 ((rd_T75 bA aA).f3))).setCell ⟨cA, 4, none⟩ (.int .i64 ((rd_T75 bA aA).f4))).setCell ⟨cA, 5, none⟩ (.int .i64 ((rd_T75 bA aA).f5))).setCell ⟨cA, 6, none⟩ (.int .i64 ((rd_T75 bA aA).f6))).setCell ⟨cA, 7, none⟩ (.int .i64 ((rd_T75 bA aA).f7))).setCell ⟨cA, 8, none⟩ (.int .i64 ((rd_T75 bA aA).f8))).setCell ⟨cA, 9, none⟩ (.bool ((rd_T75 bA aA).f9))).heap[hA]? = some (.cells #[.int .i64 nA, .int .i64 qA, .slice MA oA.length NA, .slice OA pA.length PA, .int .i64 rA] 29 (0, 0))) := ⟨q6_1⟩
               have DA : Aside0 (((((((((((TB.setCell ⟨cA, 0, none⟩ (.int .i64 ((rd_T75 bA aA).f0))).setCell ⟨cA, 1, none⟩ (.int .i64 ((rd_T75 bA aA).f1))).setCell ⟨cA, 2, none⟩ (.int .i64 ((rd_T75 bA aA).f2))).setCell ⟨cA, 3, none⟩ (.int .i64 ((rd_T75 bA aA).f3))).setCell ⟨cA, 4, none⟩ (.int .i64 ((rd_T75 bA aA).f4))).setCell ⟨cA, 5, none⟩ (.int .i64 ((rd_T75 bA aA).f5))).setCell ⟨cA, 6, none⟩ (.int .i64 ((rd_T75 bA aA).f6))).setCell ⟨cA, 7, none⟩ (.int .i64 ((rd_T75 bA aA).f7))).setCell ⟨cA, 8, none⟩ (.int .i64 ((rd_T75 bA aA).f8))).setCell ⟨cA, 9, none⟩ (.bool ((rd_T75 bA aA).f9))).heap[gA]? = some (.cells #[.slice (some ad177) bA.length JA, .int .i64 mA, .slice UA iA.length KA, .slice VA jA.length LA] 55 (0, 0))) := ⟨q6_2⟩
               have EA : Aside0 (((((((((((TB.setCell ⟨cA, 0, none⟩ (.int .i64 ((rd_T75 bA aA).f0))).setCell ⟨cA, 1, none⟩ (.int .i64 ((rd_T75 bA aA).f1))).setCell ⟨cA, 2, none⟩ (.int .i64 ((rd_T75 bA aA).f2))).setCell ⟨cA, 3, none⟩ (.int .i64 ((rd_T75 bA aA).f3))).setCell ⟨cA, 4, none⟩ (.int .i64 ((rd_T75 bA aA).f4))).setCell ⟨cA, 5, none⟩ (.int .i64 ((rd_T75 bA aA).f5))).setCell ⟨cA, 6, none⟩ (.int .i64 ((rd_T75 bA aA).f6))).setCell ⟨cA, 7, none⟩ (.int .i64 ((rd_T75 bA aA).f7))).setCell ⟨cA, 8, none⟩ (.int .i64 ((rd_T75 bA aA).f8))).setCell ⟨cA, 9, none⟩ (.bool ((rd_T75 bA aA).f9))).heap[cA]? = some (.cells #[.int .i64 ((rd_T75 bA aA).f0), .int .i64 ((rd_T75 bA aA).f1), .int .i64 ((rd_T75 bA aA).f2), .int .i64 ((rd_T75 bA aA).f3), .int .i64 ((rd_T75 bA aA).f4), .int .i64 ((rd_T75 bA aA).f5), .int .i64 ((rd_T75 bA aA).f6), .int .i64 ((rd_T75 bA aA).f7), .int .i64 ((rd_T75 bA aA).f8), .bool ((rd_T75 bA aA).f9)] 75 (0, 0))) := ⟨q6_0⟩
               have FA : Aside0 (Below w.heap.size w ((((((((((TB.setCell ⟨cA, 0, none⟩ (.int .i64 ((rd_T75 bA aA).f0))).setCell ⟨cA, 1, none⟩ (.int .i64 ((rd_T75 bA aA).f1))).setCell ⟨cA, 2, none⟩ (.int .i64 ((rd_T75 bA aA).f2))).setCell ⟨cA, 3, none⟩ (.int .i64 ((rd_T75 bA aA).f3))).setCell ⟨cA, 4, none⟩ (.int .i64 ((rd_T75 bA aA).f4))).setCell ⟨cA, 5, none⟩ (.int .i64 ((rd_T75 bA aA).f5))).setCell ⟨cA, 6, none⟩ (.int .i64 ((rd_T75 bA aA).f6))).setCell ⟨cA, 7, none⟩ (.int .i64 ((rd_T75 bA aA).f7))).setCell ⟨cA, 8, none⟩ (.int .i64 ((rd_T75 bA aA).f8))).setCell ⟨cA, 9, none⟩ (.bool ((rd_T75 bA aA).f9)))) := ⟨q6_4⟩
               (try clear fA)
               (try clear eA)
               (try clear dA)
               (try clear HB)
               generalize ((((((((((TB.setCell ⟨cA, 0, none⟩ (.int .i64 ((rd_T75 bA aA).f0))).setCell ⟨cA, 1, none⟩ (.int .i64 ((rd_T75 bA aA).f1))).setCell ⟨cA, 2, none⟩ (.int .i64 ((rd_T75 bA aA).f2))).setCell ⟨cA, 3, none⟩ (.int .i64 ((rd_T75 bA aA).f3))).setCell ⟨cA, 4, none⟩ (.int .i64 ((rd_T75 bA aA).f4))).setCell ⟨cA, 5, none⟩ (.int .i64 ((rd_T75 bA aA).f5))).setCell ⟨cA, 6, none⟩ (.int .i64 ((rd_T75 bA aA).f6))).setCell ⟨cA, 7, none⟩ (.int .i64 ((rd_T75 bA aA).f7))).setCell ⟨cA, 8, none⟩ (.int .i64 ((rd_T75 bA aA).f8))).setCell ⟨cA, 9, none⟩ (.bool ((rd_T75 bA aA).f9))) = RG at CA DA EA FA ⊢
               have fA := CA
               have eA := DA
               have dA := EA
               have HB := FA
               clear CA DA EA FA
               have CA := Aside0.mk (blk_drew fA.out)
               have DA := Aside0.mk (blk_drew eA.out)
               have EA := Aside0.mk (blk_drew dA.out)
               have FA := Aside0.mk (below_drew1 HB.out)
               clear fA
               clear eA
               clear dA
               clear HB
               have fA := CA
               have eA := DA
               have dA := EA
               have HB := FA
               clear CA DA EA FA
               have p189 : 0 ≤ (aA : Int) := of_decide_eq_true q6_7
               have q189 : aA < (iA.length : Int) := of_decide_eq_true q6_7
               obtain ⟨ad189, qD, QA⟩ := Kd.at_int YB.out aA p189 q189
               have hw189_0 := QA
               cases qD
               replace QA := (HB.out.cell (World.block_lt_of_cell? w _ QA)).trans QA
               replace p189 := eq_true p189
               replace q189 := eq_true q189
               have p190 : 0 ≤ (aA : Int) := of_decide_eq_true q6_7
               have q190 : aA < (jA.length : Int) := of_decide_eq_true q6_7
               obtain ⟨ad190, rD, RA⟩ := Kd.at_int ZB.out aA p190 q190
               have hw190_0 := RA
               cases rD
               replace RA := (HB.out.cell (World.block_lt_of_cell? w _ RA)).trans RA
               replace p190 := eq_true p190
               replace q190 := eq_true q190
               refine start_ (n := 37) (S := fun w' => w'.cell? ⟨cA, 0, none⟩ = some (.int .i64 ((rd_T75 bA aA).f0)) ∧ w'.cell? ⟨cA, 1, none⟩ = some (.int .i64 ((rd_T75 bA aA).f1)) ∧ w'.cell? ⟨cA, 2, none⟩ = some (.int .i64 ((rd_T75 bA aA).f2)) ∧ w'.cell? ⟨cA, 3, none⟩ = some (.int .i64 ((rd_T75 bA aA).f3)) ∧ w'.cell? ⟨cA, 4, none⟩ = some (.int .i64 ((rd_T75 bA aA).f4)) ∧ w'.cell? ⟨cA, 5, none⟩ = some (.int .i64 ((rd_T75 bA aA).f5)) ∧ w'.cell? ⟨cA, 6, none⟩ = some (.int .i64 ((rd_T75 bA aA).f6)) ∧ w'.cell? ⟨cA, 7, none⟩ = some (.int .i64 ((rd_T75 bA aA).f7)) ∧ w'.cell? ⟨cA, 8, none⟩ = some (.int .i64 ((rd_T75 bA aA).f8)) ∧ w'.cell? ⟨cA, 9, none⟩ = some (.bool ((rd_T75 bA aA).f9)) ∧ w'.cell? ⟨gA, 0, none⟩ = some (.slice (some ad177) bA.length JA) ∧ w'.cell? ⟨gA, 1, none⟩ = some (.int .i64 mA) ∧ w'.cell? ⟨gA, 2, none⟩ = some (.slice (some ad189) iA.length KA) ∧ w'.cell? ⟨gA, 3, none⟩ = some (.slice (some ad190) jA.length LA) ∧ w'.cell? ⟨hA, 0, none⟩ = some (.int .i64 nA) ∧ w'.cell? ⟨hA, 1, none⟩ = some (.int .i64 qA) ∧ w'.cell? ⟨hA, 2, none⟩ = some (.slice MA oA.length NA) ∧ w'.cell? ⟨hA, 3, none⟩ = some (.slice OA pA.length PA) ∧ w'.cell? ⟨hA, 4, none⟩ = some (.int .i64 rA) ∧ w'.cell? (ad189.add (aA).toNat) = some (.int .i64 (rd iA aA)) ∧ w'.cell? (ad190.add (aA).toNat) = some (.int .i64 (rd jA aA))) (ds := []) #[F,F,F,F,F,F,F,F,F,F,F,F,F,F,F,F,F,F,F,F,F,F,F,F,F,F,F,F,F,F,F,F,F,F,F,F,F] q6_14 rfl rfl ⟨(blk_cell dA.out 0).trans rfl, (blk_cell dA.out 1).trans rfl, (blk_cell dA.out 2).trans rfl, (blk_cell dA.out 3).trans rfl, (blk_cell dA.out 4).trans rfl, (blk_cell dA.out 5).trans rfl, (blk_cell dA.out 6).trans rfl, (blk_cell dA.out 7).trans rfl, (blk_cell dA.out 8).trans rfl, (blk_cell dA.out 9).trans rfl, (blk_cell eA.out 0).trans rfl, (blk_cell eA.out 1).trans rfl, (blk_cell eA.out 2).trans rfl, (blk_cell eA.out 3).trans rfl, (blk_cell fA.out 0).trans rfl, (blk_cell fA.out 1).trans rfl, (blk_cell fA.out 2).trans rfl, (blk_cell fA.out 3).trans rfl, (blk_cell fA.out 4).trans rfl, ((HB.out.cell (World.block_lt_of_cell? w _ hw189_0)).trans hw189_0), ((HB.out.cell (World.block_lt_of_cell? w _ hw190_0)).trans hw190_0)⟩ (fun hHeld => ?_); refine with_tabW spec_l07Thread.tab7 spec_l07Thread.bits7 (fun HT_ HW_ => ?_)
               generalize RG.drew = aH at fA eA dA HB QA RA hHeld ⊢
               refine q6_p 0 46 #[T,F,F,F,F,F,F,F,F,F,F,F,F,F,F,F,F,F,F,F,F,F,F,F,F,F,F,F,F,F,F,F,F,F,F,F,F] ?_
               refine q6_p 2 48 #[T,F,T,F,F,F,F,F,F,F,F,F,F,F,F,F,F,F,F,F,F,F,F,F,F,F,F,F,F,F,F,F,F,F,F,F,F] ?_
               refine q6_p 3 49 #[T,F,T,T,F,F,F,F,F,F,F,F,F,F,F,F,F,F,F,F,F,F,F,F,F,F,F,F,F,F,F,F,F,F,F,F,F] ?_
               refine take_ (i := 1) (N := some 47) (v := ?_) (a' := ?_) #[T,T,T,T,F,F,F,F,F,F,F,F,F,F,F,F,F,F,F,F,F,F,F,F,F,F,F,F,F,F,F,F,F,F,F,F,F] rfl rfl (take_ofW HT_.out HW_.out q6_14) (fun _ _ _ h => h) (Or.inl ⟨by rfl, ?_⟩) hHeld ?_ ?_
               rotate_left
               ·rintro w' ⟨s0, s1, s2, s3, s4, s5, s6, s7, s8, s9, WA, XA, YA, ZA, cB, dB, eB, fB, gB, jB, kB⟩
                go_simp
                with_reducible rfl
               rotate_left
               ·simp only [Act.put, List.setIfInBounds_toArray, List.set_cons_zero, List.set_cons_succ, i64_w, i32_w]
                rfl
               refine take_ (i := 4) (N := some 50) (v := ?_) (a' := ?_) #[T,T,T,T,T,F,F,F,F,F,F,F,F,F,F,F,F,F,F,F,F,F,F,F,F,F,F,F,F,F,F,F,F,F,F,F,F] rfl rfl (take_ofW HT_.out HW_.out q6_14) (fun _ _ _ h => h) (Or.inl ⟨by rfl, ?_⟩) hHeld ?_ ?_
               rotate_left
               ·rintro w' ⟨s0, s1, s2, s3, s4, s5, s6, s7, s8, s9, WA, XA, YA, ZA, cB, dB, eB, fB, gB, jB, kB⟩
                go_simp
                with_reducible rfl
               rotate_left
               ·simp only [Act.put, List.setIfInBounds_toArray, List.set_cons_zero, List.set_cons_succ, i64_w, i32_w]
                rfl
               refine q6_p 5 51 #[T,T,T,T,T,T,F,F,F,F,F,F,F,F,F,F,F,F,F,F,F,F,F,F,F,F,F,F,F,F,F,F,F,F,F,F,F] ?_
               refine q6_p 6 52 #[T,T,T,T,T,T,T,F,F,F,F,F,F,F,F,F,F,F,F,F,F,F,F,F,F,F,F,F,F,F,F,F,F,F,F,F,F] ?_
               refine q6_p 7 53 #[T,T,T,T,T,T,T,T,F,F,F,F,F,F,F,F,F,F,F,F,F,F,F,F,F,F,F,F,F,F,F,F,F,F,F,F,F] ?_
               refine q6_p 8 54 #[T,T,T,T,T,T,T,T,T,F,F,F,F,F,F,F,F,F,F,F,F,F,F,F,F,F,F,F,F,F,F,F,F,F,F,F,F] ?_
               refine q6_p 9 55 #[T,T,T,T,T,T,T,T,T,T,F,F,F,F,F,F,F,F,F,F,F,F,F,F,F,F,F,F,F,F,F,F,F,F,F,F,F] ?_
               refine take_ (i := 10) (N := some 56) (v := ?_) (a' := ?_) #[T,T,T,T,T,T,T,T,T,T,T,F,F,F,F,F,F,F,F,F,F,F,F,F,F,F,F,F,F,F,F,F,F,F,F,F,F] rfl rfl (take_ofW HT_.out HW_.out q6_14) (fun _ _ _ h => h) (Or.inl ⟨by rfl, ?_⟩) hHeld ?_ ?_
               rotate_left
               ·rintro w' ⟨s0, s1, s2, s3, s4, s5, s6, s7, s8, s9, WA, XA, YA, ZA, cB, dB, eB, fB, gB, jB, kB⟩
                go_simp
                with_reducible rfl
               rotate_left
               ·simp only [Act.put, List.setIfInBounds_toArray, List.set_cons_zero, List.set_cons_succ, i64_w, i32_w]
                rfl
               refine q6_p 11 57 #[T,T,T,T,T,T,T,T,T,T,T,T,F,F,F,F,F,F,F,F,F,F,F,F,F,F,F,F,F,F,F,F,F,F,F,F,F] ?_
               refine q6_p 12 58 #[T,T,T,T,T,T,T,T,T,T,T,T,T,F,F,F,F,F,F,F,F,F,F,F,F,F,F,F,F,F,F,F,F,F,F,F,F] ?_
               refine q6_p 14 60 #[T,T,T,T,T,T,T,T,T,T,T,T,T,F,T,F,F,F,F,F,F,F,F,F,F,F,F,F,F,F,F,F,F,F,F,F,F] ?_
               refine take_ (i := 13) (N := some 59) (v := ?_) (a' := ?_) #[T,T,T,T,T,T,T,T,T,T,T,T,T,T,T,F,F,F,F,F,F,F,F,F,F,F,F,F,F,F,F,F,F,F,F,F,F] rfl rfl (take_ofW HT_.out HW_.out q6_14) (fun _ _ _ h => h) (Or.inl ⟨by rfl, ?_⟩) hHeld ?_ ?_
               rotate_left
               ·rintro w' ⟨s0, s1, s2, s3, s4, s5, s6, s7, s8, s9, WA, XA, YA, ZA, cB, dB, eB, fB, gB, jB, kB⟩
                go_simp
                with_reducible rfl
               rotate_left
               ·simp only [Act.put, List.setIfInBounds_toArray, List.set_cons_zero, List.set_cons_succ, i64_w, i32_w]
                rfl
               refine take_ (i := 15) (N := some 61) (v := ?_) (a' := ?_) #[T,T,T,T,T,T,T,T,T,T,T,T,T,T,T,T,F,F,F,F,F,F,F,F,F,F,F,F,F,F,F,F,F,F,F,F,F] rfl rfl (take_ofW HT_.out HW_.out q6_14) (fun _ _ _ h => h) (Or.inl ⟨by rfl, ?_⟩) hHeld ?_ ?_
               rotate_left
               ·rintro w' ⟨s0, s1, s2, s3, s4, s5, s6, s7, s8, s9, WA, XA, YA, ZA, cB, dB, eB, fB, gB, jB, kB⟩
                go_simp
                with_reducible rfl
               rotate_left
               ·simp only [Act.put, List.setIfInBounds_toArray, List.set_cons_zero, List.set_cons_succ, i64_w, i32_w]
                rfl
               refine take_ (i := 16) (N := some 62) (v := ?_) (a' := ?_) #[T,T,T,T,T,T,T,T,T,T,T,T,T,T,T,T,T,F,F,F,F,F,F,F,F,F,F,F,F,F,F,F,F,F,F,F,F] rfl rfl (take_ofW HT_.out HW_.out q6_14) (fun _ _ _ h => h) (Or.inl ⟨by rfl, ?_⟩) hHeld ?_ ?_
               rotate_left
               ·rintro w' ⟨s0, s1, s2, s3, s4, s5, s6, s7, s8, s9, WA, XA, YA, ZA, cB, dB, eB, fB, gB, jB, kB⟩
                go_simp
                with_reducible rfl
               rotate_left
               ·simp only [Act.put, List.setIfInBounds_toArray, List.set_cons_zero, List.set_cons_succ, i64_w, i32_w]
                rfl
               refine one_ (i := 17) (N := some 63) #[T,T,T,T,T,T,T,T,T,T,T,T,T,T,T,T,T,T,F,F,F,F,F,F,F,F,F,F,F,F,F,F,F,F,F,F,F] rfl rfl (one_of HT_.out q6_14) (by decide) (fun K hK => ?_)
               refine goes_ Try.func49 q6_14 rfl #[.int .i64 nA, .agg #[.int .i64 ((rd_T75 bA aA).f0), .int .i64 ((rd_T75 bA aA).f1), .int .i64 ((rd_T75 bA aA).f2), .int .i64 ((rd_T75 bA aA).f3), .int .i64 ((rd_T75 bA aA).f4), .int .i64 ((rd_T75 bA aA).f5), .int .i64 ((rd_T75 bA aA).f6), .int .i64 ((rd_T75 bA aA).f7), .int .i64 ((rd_T75 bA aA).f8), .bool ((rd_T75 bA aA).f9)]] (by rfl) rfl rfl q6_12 ?_
               with_reducible refine (spec_l07Begin.calls nA ((rd_T75 bA aA).f0) ((rd_T75 bA aA).f1) ((rd_T75 bA aA).f2) ((rd_T75 bA aA).f3) ((rd_T75 bA aA).f4) ((rd_T75 bA aA).f5) ((rd_T75 bA aA).f6) ((rd_T75 bA aA).f7) ((rd_T75 bA aA).f8) ((rd_T75 bA aA).f9) GB IB JB KB LB MB NB OB PB QB _ A34.out).mono ?_
               rintro e bH ⟨rfl, hb⟩
               refine ⟨_, rfl, ?_⟩
               have CA := Aside0.mk (blk_below (g := hA) (o := .cells #[.int .i64 nA, .int .i64 qA, .slice MA oA.length NA, .slice OA pA.length PA, .int .i64 rA] 29 (0, 0)) q6_5 hb)
               have DA := Aside0.mk (blk_below (g := gA) (o := .cells #[.slice (some ad177) bA.length JA, .int .i64 mA, .slice (some ad189) iA.length KA, .slice (some ad190) jA.length LA] 55 (0, 0)) q6_6 hb)
               have EA := Aside0.mk (blk_below (g := cA) (o := .cells #[.int .i64 ((rd_T75 bA aA).f0), .int .i64 ((rd_T75 bA aA).f1), .int .i64 ((rd_T75 bA aA).f2), .int .i64 ((rd_T75 bA aA).f3), .int .i64 ((rd_T75 bA aA).f4), .int .i64 ((rd_T75 bA aA).f5), .int .i64 ((rd_T75 bA aA).f6), .int .i64 ((rd_T75 bA aA).f7), .int .i64 ((rd_T75 bA aA).f8), .bool ((rd_T75 bA aA).f9)] 75 (0, 0)) q6_13 hb)
               have FA := Aside0.mk (below_step q6_4 hb)
               clear fA
               clear eA
               clear dA
               clear HB
               have fA := CA
               have eA := DA
               have dA := EA
               have HB := FA
               clear CA DA EA FA
               (try clear hb)
               (try clear hb2)
               (try clear hk)
               (try clear hi)
               refine hK.out _ _ ⟨(blk_cell dA.out 0).trans rfl, (blk_cell dA.out 1).trans rfl, (blk_cell dA.out 2).trans rfl, (blk_cell dA.out 3).trans rfl, (blk_cell dA.out 4).trans rfl, (blk_cell dA.out 5).trans rfl, (blk_cell dA.out 6).trans rfl, (blk_cell dA.out 7).trans rfl, (blk_cell dA.out 8).trans rfl, (blk_cell dA.out 9).trans rfl, (blk_cell eA.out 0).trans rfl, (blk_cell eA.out 1).trans rfl, (blk_cell eA.out 2).trans rfl, (blk_cell eA.out 3).trans rfl, (blk_cell fA.out 0).trans rfl, (blk_cell fA.out 1).trans rfl, (blk_cell fA.out 2).trans rfl, (blk_cell fA.out 3).trans rfl, (blk_cell fA.out 4).trans rfl, ((HB.out.cell (World.block_lt_of_cell? w _ hw189_0)).trans hw189_0), ((HB.out.cell (World.block_lt_of_cell? w _ hw190_0)).trans hw190_0)⟩ (fun hHeld => ?_)
               clear hK K
               refine norm_ (a' := ?_) ?_ ?_
               rotate_left
               ·show Act.put _ (some 63) _ = _
                simp only [Act.put, List.setIfInBounds_toArray, List.set_cons_zero, List.set_cons_succ, i64_w, i32_w]
                rfl
               refine q6_p 18 64 #[T,T,T,T,T,T,T,T,T,T,T,T,T,T,T,T,T,T,T,F,F,F,F,F,F,F,F,F,F,F,F,F,F,F,F,F,F] ?_
               refine q6_p 19 65 #[T,T,T,T,T,T,T,T,T,T,T,T,T,T,T,T,T,T,T,T,F,F,F,F,F,F,F,F,F,F,F,F,F,F,F,F,F] ?_
               refine q6_p 20 66 #[T,T,T,T,T,T,T,T,T,T,T,T,T,T,T,T,T,T,T,T,T,F,F,F,F,F,F,F,F,F,F,F,F,F,F,F,F] ?_
               refine q6_p 21 67 #[T,T,T,T,T,T,T,T,T,T,T,T,T,T,T,T,T,T,T,T,T,T,F,F,F,F,F,F,F,F,F,F,F,F,F,F,F] ?_
               refine q6_p 24 70 #[T,T,T,T,T,T,T,T,T,T,T,T,T,T,T,T,T,T,T,T,T,T,F,F,T,F,F,F,F,F,F,F,F,F,F,F,F] ?_
               refine q6_p 26 72 #[T,T,T,T,T,T,T,T,T,T,T,T,T,T,T,T,T,T,T,T,T,T,F,F,T,F,T,F,F,F,F,F,F,F,F,F,F] ?_
               refine q6_p 29 75 #[T,T,T,T,T,T,T,T,T,T,T,T,T,T,T,T,T,T,T,T,T,T,F,F,T,F,T,F,F,T,F,F,F,F,F,F,F] ?_
               refine q6_p 31 77 #[T,T,T,T,T,T,T,T,T,T,T,T,T,T,T,T,T,T,T,T,T,T,F,F,T,F,T,F,F,T,F,T,F,F,F,F,F] ?_
               refine take_ (i := 22) (N := some 68) (v := ?_) (a' := ?_) #[T,T,T,T,T,T,T,T,T,T,T,T,T,T,T,T,T,T,T,T,T,T,T,F,T,F,T,F,F,T,F,T,F,F,F,F,F] rfl rfl (take_ofW HT_.out HW_.out q6_14) (fun _ _ _ h => h) (Or.inl ⟨by rfl, ?_⟩) hHeld ?_ ?_
               rotate_left
               ·rintro w' ⟨s0, s1, s2, s3, s4, s5, s6, s7, s8, s9, WA, XA, YA, ZA, cB, dB, eB, fB, gB, jB, kB⟩
                go_simp
                with_reducible rfl
               rotate_left
               ·simp only [Act.put, List.setIfInBounds_toArray, List.set_cons_zero, List.set_cons_succ, i64_w, i32_w]
                rfl
               refine take_ (i := 23) (N := some 69) (v := ?_) (a' := ?_) #[T,T,T,T,T,T,T,T,T,T,T,T,T,T,T,T,T,T,T,T,T,T,T,T,T,F,T,F,F,T,F,T,F,F,F,F,F] rfl rfl (take_ofW HT_.out HW_.out q6_14) (fun _ _ _ h => h) (Or.inl ⟨by rfl, ?_⟩) hHeld ?_ ?_
               rotate_left
               ·rintro w' ⟨s0, s1, s2, s3, s4, s5, s6, s7, s8, s9, WA, XA, YA, ZA, cB, dB, eB, fB, gB, jB, kB⟩
                go_simp
                with_reducible rfl
               rotate_left
               ·simp only [Act.put, List.setIfInBounds_toArray, List.set_cons_zero, List.set_cons_succ, i64_w, i32_w]
                rfl
               refine take_ (i := 25) (N := some 71) (v := ?_) (a' := ?_) #[T,T,T,T,T,T,T,T,T,T,T,T,T,T,T,T,T,T,T,T,T,T,T,T,T,T,T,F,F,T,F,T,F,F,F,F,F] rfl rfl (take_ofW HT_.out HW_.out q6_14) (fun _ _ _ h => h) (Or.inl ⟨by rfl, ?_⟩) hHeld ?_ ?_
               rotate_left
               ·rintro w' ⟨s0, s1, s2, s3, s4, s5, s6, s7, s8, s9, WA, XA, YA, ZA, cB, dB, eB, fB, gB, jB, kB⟩
                go_simp
                with_reducible rfl
               rotate_left
               ·simp only [Act.put, List.setIfInBounds_toArray, List.set_cons_zero, List.set_cons_succ, i64_w, i32_w]
                rfl
               refine q6_p 27 73 #[T,T,T,T,T,T,T,T,T,T,T,T,T,T,T,T,T,T,T,T,T,T,T,T,T,T,T,T,F,T,F,T,F,F,F,F,F] ?_
               refine take_ (i := 28) (N := some 74) (v := ?_) (a' := ?_) #[T,T,T,T,T,T,T,T,T,T,T,T,T,T,T,T,T,T,T,T,T,T,T,T,T,T,T,T,T,T,F,T,F,F,F,F,F] rfl rfl (take_ofW HT_.out HW_.out q6_14) (fun _ _ _ h => h) (Or.inl ⟨by rfl, ?_⟩) hHeld ?_ ?_
               rotate_left
               ·rintro w' ⟨s0, s1, s2, s3, s4, s5, s6, s7, s8, s9, WA, XA, YA, ZA, cB, dB, eB, fB, gB, jB, kB⟩
                go_simp
                with_reducible rfl
               rotate_left
               ·simp only [Act.put, List.setIfInBounds_toArray, List.set_cons_zero, List.set_cons_succ, i64_w, i32_w]
                rfl
               refine take_ (i := 30) (N := some 76) (v := ?_) (a' := ?_) #[T,T,T,T,T,T,T,T,T,T,T,T,T,T,T,T,T,T,T,T,T,T,T,T,T,T,T,T,T,T,T,T,F,F,F,F,F] rfl rfl (take_ofW HT_.out HW_.out q6_14) (fun _ _ _ h => h) (Or.inl ⟨by rfl, ?_⟩) hHeld ?_ ?_
               rotate_left
               ·rintro w' ⟨s0, s1, s2, s3, s4, s5, s6, s7, s8, s9, WA, XA, YA, ZA, cB, dB, eB, fB, gB, jB, kB⟩
                go_simp
                with_reducible rfl
               rotate_left
               ·simp only [Act.put, List.setIfInBounds_toArray, List.set_cons_zero, List.set_cons_succ, i64_w, i32_w]
                rfl
               refine q6_p 32 78 #[T,T,T,T,T,T,T,T,T,T,T,T,T,T,T,T,T,T,T,T,T,T,T,T,T,T,T,T,T,T,T,T,T,F,F,F,F] ?_
               refine take_ (i := 33) (N := some 79) (v := ?_) (a' := ?_) #[T,T,T,T,T,T,T,T,T,T,T,T,T,T,T,T,T,T,T,T,T,T,T,T,T,T,T,T,T,T,T,T,T,T,F,F,F] rfl rfl (take_ofW HT_.out HW_.out q6_14) (fun _ _ _ h => h) (Or.inl ⟨by rfl, ?_⟩) hHeld ?_ ?_
               rotate_left
               ·rintro w' ⟨s0, s1, s2, s3, s4, s5, s6, s7, s8, s9, WA, XA, YA, ZA, cB, dB, eB, fB, gB, jB, kB⟩
                go_simp
                with_reducible rfl
               rotate_left
               ·simp only [Act.put, List.setIfInBounds_toArray, List.set_cons_zero, List.set_cons_succ, i64_w, i32_w]
                rfl
               refine one_ (i := 34) (N := some 80) #[T,T,T,T,T,T,T,T,T,T,T,T,T,T,T,T,T,T,T,T,T,T,T,T,T,T,T,T,T,T,T,T,T,T,T,F,F] rfl rfl (one_of HT_.out q6_14) (by decide) (fun K hK => ?_)
               refine goes_ Try.func89 q6_14 rfl #[.agg #[.int .i64 nA, .int .i64 qA, .slice MA oA.length NA, .slice OA pA.length PA, .int .i64 rA], .agg #[.int .i64 ((rd_T75 bA aA).f0), .int .i64 ((rd_T75 bA aA).f1), .int .i64 ((rd_T75 bA aA).f2), .int .i64 ((rd_T75 bA aA).f3), .int .i64 ((rd_T75 bA aA).f4), .int .i64 ((rd_T75 bA aA).f5), .int .i64 ((rd_T75 bA aA).f6), .int .i64 ((rd_T75 bA aA).f7), .int .i64 ((rd_T75 bA aA).f8), .bool ((rd_T75 bA aA).f9)], .int .i64 (rd iA aA), .int .i64 (rd jA aA)] (by rfl) rfl rfl q6_12 ?_
               with_reducible refine (spec_l07Times.calls k2 nA qA _ _ oA _ _ pA rA ((rd_T75 bA aA).f0) ((rd_T75 bA aA).f1) ((rd_T75 bA aA).f2) ((rd_T75 bA aA).f3) ((rd_T75 bA aA).f4) ((rd_T75 bA aA).f5) ((rd_T75 bA aA).f6) ((rd_T75 bA aA).f7) ((rd_T75 bA aA).f8) ((rd_T75 bA aA).f9) (rd iA aA) (rd jA aA) false _ ?side1 ?side2 ?side3 ?side4 A45.out).mono ?_
               (case side1 => exact q6_15)
               (case side2 => exact WB.out)
               (case side3 => exact q6_16)
               (case side4 => exact XB.out)
               rintro e cH ⟨rfl, hb⟩
               refine ⟨_, rfl, ?_⟩
               have CA := Aside0.mk (blk_below (g := hA) (o := .cells #[.int .i64 nA, .int .i64 qA, .slice MA oA.length NA, .slice OA pA.length PA, .int .i64 rA] 29 (0, 0)) q6_5 hb)
               have DA := Aside0.mk (blk_below (g := gA) (o := .cells #[.slice (some ad177) bA.length JA, .int .i64 mA, .slice (some ad189) iA.length KA, .slice (some ad190) jA.length LA] 55 (0, 0)) q6_6 hb)
               have EA := Aside0.mk (blk_below (g := cA) (o := .cells #[.int .i64 ((rd_T75 bA aA).f0), .int .i64 ((rd_T75 bA aA).f1), .int .i64 ((rd_T75 bA aA).f2), .int .i64 ((rd_T75 bA aA).f3), .int .i64 ((rd_T75 bA aA).f4), .int .i64 ((rd_T75 bA aA).f5), .int .i64 ((rd_T75 bA aA).f6), .int .i64 ((rd_T75 bA aA).f7), .int .i64 ((rd_T75 bA aA).f8), .bool ((rd_T75 bA aA).f9)] 75 (0, 0)) q6_13 hb)
               have FA := Aside0.mk (below_step q6_4 hb)
               clear fA
               clear eA
               clear dA
               clear HB
               have fA := CA
               have eA := DA
               have dA := EA
               have HB := FA
               clear CA DA EA FA
               (try clear hb)
               (try clear hb2)
               (try clear hk)
               (try clear hi)
               refine hK.out _ _ ⟨(blk_cell dA.out 0).trans rfl, (blk_cell dA.out 1).trans rfl, (blk_cell dA.out 2).trans rfl, (blk_cell dA.out 3).trans rfl, (blk_cell dA.out 4).trans rfl, (blk_cell dA.out 5).trans rfl, (blk_cell dA.out 6).trans rfl, (blk_cell dA.out 7).trans rfl, (blk_cell dA.out 8).trans rfl, (blk_cell dA.out 9).trans rfl, (blk_cell eA.out 0).trans rfl, (blk_cell eA.out 1).trans rfl, (blk_cell eA.out 2).trans rfl, (blk_cell eA.out 3).trans rfl, (blk_cell fA.out 0).trans rfl, (blk_cell fA.out 1).trans rfl, (blk_cell fA.out 2).trans rfl, (blk_cell fA.out 3).trans rfl, (blk_cell fA.out 4).trans rfl, ((HB.out.cell (World.block_lt_of_cell? w _ hw189_0)).trans hw189_0), ((HB.out.cell (World.block_lt_of_cell? w _ hw190_0)).trans hw190_0)⟩ (fun hHeld => ?_)
               clear hK K
               refine norm_ (a' := ?_) ?_ ?_
               rotate_left
               ·show Act.put _ (some 80) _ = _
                simp only [Act.put, List.setIfInBounds_toArray, List.set_cons_zero, List.set_cons_succ, i64_w, i32_w]
                rfl
               refine q6_p 35 81 #[T,T,T,T,T,T,T,T,T,T,T,T,T,T,T,T,T,T,T,T,T,T,T,T,T,T,T,T,T,T,T,T,T,T,T,T,F] ?_
               refine q6_p 36 82 #[T,T,T,T,T,T,T,T,T,T,T,T,T,T,T,T,T,T,T,T,T,T,T,T,T,T,T,T,T,T,T,T,T,T,T,T,T] ?_
               refine done_ (done_of HT_.out q6_14) ?_
               try go_wp2
               go_ret
               exact ⟨q6_17, q6_4⟩
             ·rw [if_neg c44] at H
              exact absurd H (by simp)
            ·rw [if_neg c43] at H
             exact absurd H (by simp)
          ·rw [if_neg c33] at H
           have DD : decide (mA < aA) = false := decide_eq_false c33
           clear c33
           by_cases c63 : aA < (iA.length : Int)
           ·rw [if_pos c63] at H
            have CG : decide (aA < (iA.length : Int)) = true := decide_eq_true c63
            clear c63
            by_cases c64 : aA < (jA.length : Int)
            ·rw [if_pos c64] at H
             have DG : decide (aA < (jA.length : Int)) = true := decide_eq_true c64
             clear c64
             replace H := Option.bind_eq_some_iff.mp H
             obtain ⟨VC, A650, H⟩ := H
             replace H : (if VC = true then (spec_l07Thread.l0 k2 bA (bA.length : Int) (wrap64 (aA + 1)) nA qA oA pA rA bA mA iA jA) else (some false)) = some r := H
             have A65 := Aside0.mk A650
             clear A650
             by_cases c66 : VC = true
             ·subst c66
              have H1 : (spec_l07Thread.l0 k2 bA (bA.length : Int) (wrap64 (aA + 1)) nA qA oA pA rA bA mA iA jA) = some r := by rw [if_pos rfl] at H; exact H
              clear H
              have H := H1
              clear H1
              have H' := Aside0.mk H
              clear H
              have p177 : 0 ≤ (aA : Int) := of_decide_eq_true q6_7
              have q177 : aA < (bA.length : Int) := of_decide_eq_true q6_7
              obtain ⟨ad177, uB, sA, tA, uA, vA, wA, xA, yA, zA, AA, BA⟩ := at_T75 wB.out aA p177 q177
              cases uB
              replace sA := (HB.out.cell (World.block_lt_of_cell? w _ sA)).trans sA
              replace tA := (HB.out.cell (World.block_lt_of_cell? w _ tA)).trans tA
              replace uA := (HB.out.cell (World.block_lt_of_cell? w _ uA)).trans uA
              replace vA := (HB.out.cell (World.block_lt_of_cell? w _ vA)).trans vA
              replace wA := (HB.out.cell (World.block_lt_of_cell? w _ wA)).trans wA
              replace xA := (HB.out.cell (World.block_lt_of_cell? w _ xA)).trans xA
              replace yA := (HB.out.cell (World.block_lt_of_cell? w _ yA)).trans yA
              replace zA := (HB.out.cell (World.block_lt_of_cell? w _ zA)).trans zA
              replace AA := (HB.out.cell (World.block_lt_of_cell? w _ AA)).trans AA
              replace BA := (HB.out.cell (World.block_lt_of_cell? w _ BA)).trans BA
              replace p177 := eq_true p177
              replace q177 := eq_true q177
              try go_wp2_with (first | ((with_reducible refine gate_dst (N := 7) rfl ?_); (try (refine gate_guard (by rfl) ?_; dsimp only)); refine box_event ?hg (N := 7) ?hd (cs := #[.int .i64 0, .int .i64 0, .int .i64 0, .int .i64 0, .int .i64 0, .int .i64 0, .int .i64 0, .int .i64 0, .int .i64 0, .bool false]) (t := 75) ?hr ?_; (case hd => rfl); (case hg => rfl); (case hr => first | (go_simp; done) | (go_simp; rfl)); intro cA hg UB hbox hb; have CA := Aside0.mk (blk_below (g := hA) (o := .cells #[.int .i64 nA, .int .i64 qA, .slice MA oA.length NA, .slice OA pA.length PA, .int .i64 rA] 29 (0, 0)) q6_5 hb); have DA := Aside0.mk (blk_below (g := gA) (o := .cells #[.slice (some ad177) bA.length JA, .int .i64 mA, .slice UA iA.length KA, .slice VA jA.length LA] 55 (0, 0)) q6_6 hb); have EA := Aside0.mk (below_step q6_3 hb); have FA := Aside0.mk (hbox); have xB := Aside0.mk ((q6_18 : w.heap.size ≤ cA)); have yB := Aside0.mk ((q6_18 : w.heap.size ≤ cA)); have zB := Aside0.mk ((q6_8 : hA ≠ cA)); have AB := Aside0.mk ((q6_9 : cA ≠ hA)); have BB := Aside0.mk ((q6_10 : gA ≠ cA)); have CB := Aside0.mk ((q6_11 : cA ≠ gA)); clear fA; clear eA; clear HB; have fA := CA; have eA := DA; have HB := EA; have dA := FA; have DB := xB; have vB := yB; have kA := zB; have GA := AB; have lA := BB; have IA := CB; clear CA DA EA FA xB yB zB AB BB CB; clear hb hbox hg; have EG := GA.out; have FG := kA.out; have GG := IA.out; have HG := lA.out; have hF : UB.cell? ⟨cA, 0, none⟩ = some (.int .i64 0) := (blk_cell dA.out 0).trans rfl; have iF : UB.cell? ⟨cA, 1, none⟩ = some (.int .i64 0) := (blk_cell dA.out 1).trans rfl; have jF : UB.cell? ⟨cA, 2, none⟩ = some (.int .i64 0) := (blk_cell dA.out 2).trans rfl; have kF : UB.cell? ⟨cA, 3, none⟩ = some (.int .i64 0) := (blk_cell dA.out 3).trans rfl; have lF : UB.cell? ⟨cA, 4, none⟩ = some (.int .i64 0) := (blk_cell dA.out 4).trans rfl; have mF : UB.cell? ⟨cA, 5, none⟩ = some (.int .i64 0) := (blk_cell dA.out 5).trans rfl; have nF : UB.cell? ⟨cA, 6, none⟩ = some (.int .i64 0) := (blk_cell dA.out 6).trans rfl; have oF : UB.cell? ⟨cA, 7, none⟩ = some (.int .i64 0) := (blk_cell dA.out 7).trans rfl; have pF : UB.cell? ⟨cA, 8, none⟩ = some (.int .i64 0) := (blk_cell dA.out 8).trans rfl; have qF : UB.cell? ⟨cA, 9, none⟩ = some (.bool false) := (blk_cell dA.out 9).trans rfl; have rF := blk_frozen dA.out 0; have sF := blk_frozen dA.out 1; have tF := blk_frozen dA.out 2; have uF := blk_frozen dA.out 3; have vF := blk_frozen dA.out 4; have wF := blk_frozen dA.out 5; have xF := blk_frozen dA.out 6; have yF := blk_frozen dA.out 7; have zF := blk_frozen dA.out 8; have AF := blk_frozen dA.out 9))
              have CA : Aside0 (((((((((((UB.setCell ⟨cA, 0, none⟩ (.int .i64 ((rd_T75 bA aA).f0))).setCell ⟨cA, 1, none⟩ (.int .i64 ((rd_T75 bA aA).f1))).setCell ⟨cA, 2, none⟩ (.int .i64 ((rd_T75 bA aA).f2))).setCell ⟨cA, 3, none⟩ (.int .i64 ((rd_T75 bA aA).f3))).setCell ⟨cA, 4, none⟩ (.int .i64 ((rd_T75 bA aA).f4))).setCell ⟨cA, 5, none⟩ (.int .i64 ((rd_T75 bA aA).f5))).setCell ⟨cA, 6, none⟩ (.int .i64 ((rd_T75 bA aA).f6))).setCell ⟨cA, 7, none⟩ (.int .i64 ((rd_T75 bA aA).f7))).setCell ⟨cA, 8, none⟩ (.int .i64 ((rd_T75 bA aA).f8))).setCell ⟨cA, 9, none⟩ (.bool ((rd_T75 bA aA).f9))).heap[hA]? = some (.cells #[.int .i64 nA, .int .i64 qA, .slice MA oA.length NA, .slice OA pA.length PA, .int .i64 rA] 29 (0, 0))) := ⟨q6_1⟩
              have DA : Aside0 (((((((((((UB.setCell ⟨cA, 0, none⟩ (.int .i64 ((rd_T75 bA aA).f0))).setCell ⟨cA, 1, none⟩ (.int .i64 ((rd_T75 bA aA).f1))).setCell ⟨cA, 2, none⟩ (.int .i64 ((rd_T75 bA aA).f2))).setCell ⟨cA, 3, none⟩ (.int .i64 ((rd_T75 bA aA).f3))).setCell ⟨cA, 4, none⟩ (.int .i64 ((rd_T75 bA aA).f4))).setCell ⟨cA, 5, none⟩ (.int .i64 ((rd_T75 bA aA).f5))).setCell ⟨cA, 6, none⟩ (.int .i64 ((rd_T75 bA aA).f6))).setCell ⟨cA, 7, none⟩ (.int .i64 ((rd_T75 bA aA).f7))).setCell ⟨cA, 8, none⟩ (.int .i64 ((rd_T75 bA aA).f8))).setCell ⟨cA, 9, none⟩ (.bool ((rd_T75 bA aA).f9))).heap[gA]? = some (.cells #[.slice (some ad177) bA.length JA, .int .i64 mA, .slice UA iA.length KA, .slice VA jA.length LA] 55 (0, 0))) := ⟨q6_2⟩
              have EA : Aside0 (((((((((((UB.setCell ⟨cA, 0, none⟩ (.int .i64 ((rd_T75 bA aA).f0))).setCell ⟨cA, 1, none⟩ (.int .i64 ((rd_T75 bA aA).f1))).setCell ⟨cA, 2, none⟩ (.int .i64 ((rd_T75 bA aA).f2))).setCell ⟨cA, 3, none⟩ (.int .i64 ((rd_T75 bA aA).f3))).setCell ⟨cA, 4, none⟩ (.int .i64 ((rd_T75 bA aA).f4))).setCell ⟨cA, 5, none⟩ (.int .i64 ((rd_T75 bA aA).f5))).setCell ⟨cA, 6, none⟩ (.int .i64 ((rd_T75 bA aA).f6))).setCell ⟨cA, 7, none⟩ (.int .i64 ((rd_T75 bA aA).f7))).setCell ⟨cA, 8, none⟩ (.int .i64 ((rd_T75 bA aA).f8))).setCell ⟨cA, 9, none⟩ (.bool ((rd_T75 bA aA).f9))).heap[cA]? = some (.cells #[.int .i64 ((rd_T75 bA aA).f0), .int .i64 ((rd_T75 bA aA).f1), .int .i64 ((rd_T75 bA aA).f2), .int .i64 ((rd_T75 bA aA).f3), .int .i64 ((rd_T75 bA aA).f4), .int .i64 ((rd_T75 bA aA).f5), .int .i64 ((rd_T75 bA aA).f6), .int .i64 ((rd_T75 bA aA).f7), .int .i64 ((rd_T75 bA aA).f8), .bool ((rd_T75 bA aA).f9)] 75 (0, 0))) := ⟨q6_0⟩
              have FA : Aside0 (Below w.heap.size w ((((((((((UB.setCell ⟨cA, 0, none⟩ (.int .i64 ((rd_T75 bA aA).f0))).setCell ⟨cA, 1, none⟩ (.int .i64 ((rd_T75 bA aA).f1))).setCell ⟨cA, 2, none⟩ (.int .i64 ((rd_T75 bA aA).f2))).setCell ⟨cA, 3, none⟩ (.int .i64 ((rd_T75 bA aA).f3))).setCell ⟨cA, 4, none⟩ (.int .i64 ((rd_T75 bA aA).f4))).setCell ⟨cA, 5, none⟩ (.int .i64 ((rd_T75 bA aA).f5))).setCell ⟨cA, 6, none⟩ (.int .i64 ((rd_T75 bA aA).f6))).setCell ⟨cA, 7, none⟩ (.int .i64 ((rd_T75 bA aA).f7))).setCell ⟨cA, 8, none⟩ (.int .i64 ((rd_T75 bA aA).f8))).setCell ⟨cA, 9, none⟩ (.bool ((rd_T75 bA aA).f9)))) := ⟨q6_4⟩
              (try clear fA)
              (try clear eA)
              (try clear dA)
              (try clear HB)
              generalize ((((((((((UB.setCell ⟨cA, 0, none⟩ (.int .i64 ((rd_T75 bA aA).f0))).setCell ⟨cA, 1, none⟩ (.int .i64 ((rd_T75 bA aA).f1))).setCell ⟨cA, 2, none⟩ (.int .i64 ((rd_T75 bA aA).f2))).setCell ⟨cA, 3, none⟩ (.int .i64 ((rd_T75 bA aA).f3))).setCell ⟨cA, 4, none⟩ (.int .i64 ((rd_T75 bA aA).f4))).setCell ⟨cA, 5, none⟩ (.int .i64 ((rd_T75 bA aA).f5))).setCell ⟨cA, 6, none⟩ (.int .i64 ((rd_T75 bA aA).f6))).setCell ⟨cA, 7, none⟩ (.int .i64 ((rd_T75 bA aA).f7))).setCell ⟨cA, 8, none⟩ (.int .i64 ((rd_T75 bA aA).f8))).setCell ⟨cA, 9, none⟩ (.bool ((rd_T75 bA aA).f9))) = SG at CA DA EA FA ⊢
              have fA := CA
              have eA := DA
              have dA := EA
              have HB := FA
              clear CA DA EA FA
              have CA := Aside0.mk (blk_drew fA.out)
              have DA := Aside0.mk (blk_drew eA.out)
              have EA := Aside0.mk (blk_drew dA.out)
              have FA := Aside0.mk (below_drew1 HB.out)
              clear fA
              clear eA
              clear dA
              clear HB
              have fA := CA
              have eA := DA
              have dA := EA
              have HB := FA
              clear CA DA EA FA
              have p192 : 0 ≤ (aA : Int) := of_decide_eq_true q6_7
              have q192 : aA < (iA.length : Int) := of_decide_eq_true q6_7
              obtain ⟨ad192, sD, SA⟩ := Kd.at_int YB.out aA p192 q192
              have hw192_0 := SA
              cases sD
              replace SA := (HB.out.cell (World.block_lt_of_cell? w _ SA)).trans SA
              replace p192 := eq_true p192
              replace q192 := eq_true q192
              have p193 : 0 ≤ (aA : Int) := of_decide_eq_true q6_7
              have q193 : aA < (jA.length : Int) := of_decide_eq_true q6_7
              obtain ⟨ad193, tD, TA⟩ := Kd.at_int ZB.out aA p193 q193
              have hw193_0 := TA
              cases tD
              replace TA := (HB.out.cell (World.block_lt_of_cell? w _ TA)).trans TA
              replace p193 := eq_true p193
              replace q193 := eq_true q193
              refine start_ (n := 37) (S := fun w' => w'.cell? ⟨cA, 0, none⟩ = some (.int .i64 ((rd_T75 bA aA).f0)) ∧ w'.cell? ⟨cA, 1, none⟩ = some (.int .i64 ((rd_T75 bA aA).f1)) ∧ w'.cell? ⟨cA, 2, none⟩ = some (.int .i64 ((rd_T75 bA aA).f2)) ∧ w'.cell? ⟨cA, 3, none⟩ = some (.int .i64 ((rd_T75 bA aA).f3)) ∧ w'.cell? ⟨cA, 4, none⟩ = some (.int .i64 ((rd_T75 bA aA).f4)) ∧ w'.cell? ⟨cA, 5, none⟩ = some (.int .i64 ((rd_T75 bA aA).f5)) ∧ w'.cell? ⟨cA, 6, none⟩ = some (.int .i64 ((rd_T75 bA aA).f6)) ∧ w'.cell? ⟨cA, 7, none⟩ = some (.int .i64 ((rd_T75 bA aA).f7)) ∧ w'.cell? ⟨cA, 8, none⟩ = some (.int .i64 ((rd_T75 bA aA).f8)) ∧ w'.cell? ⟨cA, 9, none⟩ = some (.bool ((rd_T75 bA aA).f9)) ∧ w'.cell? ⟨gA, 0, none⟩ = some (.slice (some ad177) bA.length JA) ∧ w'.cell? ⟨gA, 1, none⟩ = some (.int .i64 mA) ∧ w'.cell? ⟨gA, 2, none⟩ = some (.slice (some ad192) iA.length KA) ∧ w'.cell? ⟨gA, 3, none⟩ = some (.slice (some ad193) jA.length LA) ∧ w'.cell? ⟨hA, 0, none⟩ = some (.int .i64 nA) ∧ w'.cell? ⟨hA, 1, none⟩ = some (.int .i64 qA) ∧ w'.cell? ⟨hA, 2, none⟩ = some (.slice MA oA.length NA) ∧ w'.cell? ⟨hA, 3, none⟩ = some (.slice OA pA.length PA) ∧ w'.cell? ⟨hA, 4, none⟩ = some (.int .i64 rA) ∧ w'.cell? (ad192.add (aA).toNat) = some (.int .i64 (rd iA aA)) ∧ w'.cell? (ad193.add (aA).toNat) = some (.int .i64 (rd jA aA))) (ds := []) #[F,F,F,F,F,F,F,F,F,F,F,F,F,F,F,F,F,F,F,F,F,F,F,F,F,F,F,F,F,F,F,F,F,F,F,F,F] q6_14 rfl rfl ⟨(blk_cell dA.out 0).trans rfl, (blk_cell dA.out 1).trans rfl, (blk_cell dA.out 2).trans rfl, (blk_cell dA.out 3).trans rfl, (blk_cell dA.out 4).trans rfl, (blk_cell dA.out 5).trans rfl, (blk_cell dA.out 6).trans rfl, (blk_cell dA.out 7).trans rfl, (blk_cell dA.out 8).trans rfl, (blk_cell dA.out 9).trans rfl, (blk_cell eA.out 0).trans rfl, (blk_cell eA.out 1).trans rfl, (blk_cell eA.out 2).trans rfl, (blk_cell eA.out 3).trans rfl, (blk_cell fA.out 0).trans rfl, (blk_cell fA.out 1).trans rfl, (blk_cell fA.out 2).trans rfl, (blk_cell fA.out 3).trans rfl, (blk_cell fA.out 4).trans rfl, ((HB.out.cell (World.block_lt_of_cell? w _ hw192_0)).trans hw192_0), ((HB.out.cell (World.block_lt_of_cell? w _ hw193_0)).trans hw193_0)⟩ (fun hHeld => ?_); refine with_tabW spec_l07Thread.tab7 spec_l07Thread.bits7 (fun HT_ HW_ => ?_)
              generalize SG.drew = dH at fA eA dA HB SA TA hHeld ⊢
              refine q6_p 0 46 #[T,F,F,F,F,F,F,F,F,F,F,F,F,F,F,F,F,F,F,F,F,F,F,F,F,F,F,F,F,F,F,F,F,F,F,F,F] ?_
              refine q6_p 2 48 #[T,F,T,F,F,F,F,F,F,F,F,F,F,F,F,F,F,F,F,F,F,F,F,F,F,F,F,F,F,F,F,F,F,F,F,F,F] ?_
              refine q6_p 3 49 #[T,F,T,T,F,F,F,F,F,F,F,F,F,F,F,F,F,F,F,F,F,F,F,F,F,F,F,F,F,F,F,F,F,F,F,F,F] ?_
              refine take_ (i := 1) (N := some 47) (v := ?_) (a' := ?_) #[T,T,T,T,F,F,F,F,F,F,F,F,F,F,F,F,F,F,F,F,F,F,F,F,F,F,F,F,F,F,F,F,F,F,F,F,F] rfl rfl (take_ofW HT_.out HW_.out q6_14) (fun _ _ _ h => h) (Or.inl ⟨by rfl, ?_⟩) hHeld ?_ ?_
              rotate_left
              ·rintro w' ⟨s0, s1, s2, s3, s4, s5, s6, s7, s8, s9, WA, XA, YA, ZA, cB, dB, eB, fB, gB, jB, kB⟩
               go_simp
               with_reducible rfl
              rotate_left
              ·simp only [Act.put, List.setIfInBounds_toArray, List.set_cons_zero, List.set_cons_succ, i64_w, i32_w]
               rfl
              refine take_ (i := 4) (N := some 50) (v := ?_) (a' := ?_) #[T,T,T,T,T,F,F,F,F,F,F,F,F,F,F,F,F,F,F,F,F,F,F,F,F,F,F,F,F,F,F,F,F,F,F,F,F] rfl rfl (take_ofW HT_.out HW_.out q6_14) (fun _ _ _ h => h) (Or.inl ⟨by rfl, ?_⟩) hHeld ?_ ?_
              rotate_left
              ·rintro w' ⟨s0, s1, s2, s3, s4, s5, s6, s7, s8, s9, WA, XA, YA, ZA, cB, dB, eB, fB, gB, jB, kB⟩
               go_simp
               with_reducible rfl
              rotate_left
              ·simp only [Act.put, List.setIfInBounds_toArray, List.set_cons_zero, List.set_cons_succ, i64_w, i32_w]
               rfl
              refine q6_p 5 51 #[T,T,T,T,T,T,F,F,F,F,F,F,F,F,F,F,F,F,F,F,F,F,F,F,F,F,F,F,F,F,F,F,F,F,F,F,F] ?_
              refine q6_p 6 52 #[T,T,T,T,T,T,T,F,F,F,F,F,F,F,F,F,F,F,F,F,F,F,F,F,F,F,F,F,F,F,F,F,F,F,F,F,F] ?_
              refine q6_p 7 53 #[T,T,T,T,T,T,T,T,F,F,F,F,F,F,F,F,F,F,F,F,F,F,F,F,F,F,F,F,F,F,F,F,F,F,F,F,F] ?_
              refine q6_p 8 54 #[T,T,T,T,T,T,T,T,T,F,F,F,F,F,F,F,F,F,F,F,F,F,F,F,F,F,F,F,F,F,F,F,F,F,F,F,F] ?_
              refine q6_p 9 55 #[T,T,T,T,T,T,T,T,T,T,F,F,F,F,F,F,F,F,F,F,F,F,F,F,F,F,F,F,F,F,F,F,F,F,F,F,F] ?_
              refine take_ (i := 10) (N := some 56) (v := ?_) (a' := ?_) #[T,T,T,T,T,T,T,T,T,T,T,F,F,F,F,F,F,F,F,F,F,F,F,F,F,F,F,F,F,F,F,F,F,F,F,F,F] rfl rfl (take_ofW HT_.out HW_.out q6_14) (fun _ _ _ h => h) (Or.inl ⟨by rfl, ?_⟩) hHeld ?_ ?_
              rotate_left
              ·rintro w' ⟨s0, s1, s2, s3, s4, s5, s6, s7, s8, s9, WA, XA, YA, ZA, cB, dB, eB, fB, gB, jB, kB⟩
               go_simp
               with_reducible rfl
              rotate_left
              ·simp only [Act.put, List.setIfInBounds_toArray, List.set_cons_zero, List.set_cons_succ, i64_w, i32_w]
               rfl
              refine q6_p 11 57 #[T,T,T,T,T,T,T,T,T,T,T,T,F,F,F,F,F,F,F,F,F,F,F,F,F,F,F,F,F,F,F,F,F,F,F,F,F] ?_
              refine q6_p 12 58 #[T,T,T,T,T,T,T,T,T,T,T,T,T,F,F,F,F,F,F,F,F,F,F,F,F,F,F,F,F,F,F,F,F,F,F,F,F] ?_
              refine q6_u 13 59 #[T,T,T,T,T,T,T,T,T,T,T,T,T,T,F,F,F,F,F,F,F,F,F,F,F,F,F,F,F,F,F,F,F,F,F,F,F] ?_
              refine q6_u 14 60 #[T,T,T,T,T,T,T,T,T,T,T,T,T,T,T,F,F,F,F,F,F,F,F,F,F,F,F,F,F,F,F,F,F,F,F,F,F] ?_
              refine q6_u 15 61 #[T,T,T,T,T,T,T,T,T,T,T,T,T,T,T,T,F,F,F,F,F,F,F,F,F,F,F,F,F,F,F,F,F,F,F,F,F] ?_
              refine q6_u 16 62 #[T,T,T,T,T,T,T,T,T,T,T,T,T,T,T,T,T,F,F,F,F,F,F,F,F,F,F,F,F,F,F,F,F,F,F,F,F] ?_
              refine q6_u 17 63 #[T,T,T,T,T,T,T,T,T,T,T,T,T,T,T,T,T,T,F,F,F,F,F,F,F,F,F,F,F,F,F,F,F,F,F,F,F] ?_
              refine q6_u 18 64 #[T,T,T,T,T,T,T,T,T,T,T,T,T,T,T,T,T,T,T,F,F,F,F,F,F,F,F,F,F,F,F,F,F,F,F,F,F] ?_
              refine q6_p 19 65 #[T,T,T,T,T,T,T,T,T,T,T,T,T,T,T,T,T,T,T,T,F,F,F,F,F,F,F,F,F,F,F,F,F,F,F,F,F] ?_
              refine q6_p 20 66 #[T,T,T,T,T,T,T,T,T,T,T,T,T,T,T,T,T,T,T,T,T,F,F,F,F,F,F,F,F,F,F,F,F,F,F,F,F] ?_
              refine q6_p 21 67 #[T,T,T,T,T,T,T,T,T,T,T,T,T,T,T,T,T,T,T,T,T,T,F,F,F,F,F,F,F,F,F,F,F,F,F,F,F] ?_
              refine q6_p 24 70 #[T,T,T,T,T,T,T,T,T,T,T,T,T,T,T,T,T,T,T,T,T,T,F,F,T,F,F,F,F,F,F,F,F,F,F,F,F] ?_
              refine q6_p 26 72 #[T,T,T,T,T,T,T,T,T,T,T,T,T,T,T,T,T,T,T,T,T,T,F,F,T,F,T,F,F,F,F,F,F,F,F,F,F] ?_
              refine q6_p 29 75 #[T,T,T,T,T,T,T,T,T,T,T,T,T,T,T,T,T,T,T,T,T,T,F,F,T,F,T,F,F,T,F,F,F,F,F,F,F] ?_
              refine q6_p 31 77 #[T,T,T,T,T,T,T,T,T,T,T,T,T,T,T,T,T,T,T,T,T,T,F,F,T,F,T,F,F,T,F,T,F,F,F,F,F] ?_
              refine take_ (i := 22) (N := some 68) (v := ?_) (a' := ?_) #[T,T,T,T,T,T,T,T,T,T,T,T,T,T,T,T,T,T,T,T,T,T,T,F,T,F,T,F,F,T,F,T,F,F,F,F,F] rfl rfl (take_ofW HT_.out HW_.out q6_14) (fun _ _ _ h => h) (Or.inl ⟨by rfl, ?_⟩) hHeld ?_ ?_
              rotate_left
              ·rintro w' ⟨s0, s1, s2, s3, s4, s5, s6, s7, s8, s9, WA, XA, YA, ZA, cB, dB, eB, fB, gB, jB, kB⟩
               go_simp
               with_reducible rfl
              rotate_left
              ·simp only [Act.put, List.setIfInBounds_toArray, List.set_cons_zero, List.set_cons_succ, i64_w, i32_w]
               rfl
              refine take_ (i := 23) (N := some 69) (v := ?_) (a' := ?_) #[T,T,T,T,T,T,T,T,T,T,T,T,T,T,T,T,T,T,T,T,T,T,T,T,T,F,T,F,F,T,F,T,F,F,F,F,F] rfl rfl (take_ofW HT_.out HW_.out q6_14) (fun _ _ _ h => h) (Or.inl ⟨by rfl, ?_⟩) hHeld ?_ ?_
              rotate_left
              ·rintro w' ⟨s0, s1, s2, s3, s4, s5, s6, s7, s8, s9, WA, XA, YA, ZA, cB, dB, eB, fB, gB, jB, kB⟩
               go_simp
               with_reducible rfl
              rotate_left
              ·simp only [Act.put, List.setIfInBounds_toArray, List.set_cons_zero, List.set_cons_succ, i64_w, i32_w]
               rfl
              refine take_ (i := 25) (N := some 71) (v := ?_) (a' := ?_) #[T,T,T,T,T,T,T,T,T,T,T,T,T,T,T,T,T,T,T,T,T,T,T,T,T,T,T,F,F,T,F,T,F,F,F,F,F] rfl rfl (take_ofW HT_.out HW_.out q6_14) (fun _ _ _ h => h) (Or.inl ⟨by rfl, ?_⟩) hHeld ?_ ?_
              rotate_left
              ·rintro w' ⟨s0, s1, s2, s3, s4, s5, s6, s7, s8, s9, WA, XA, YA, ZA, cB, dB, eB, fB, gB, jB, kB⟩
               go_simp
               with_reducible rfl
              rotate_left
              ·simp only [Act.put, List.setIfInBounds_toArray, List.set_cons_zero, List.set_cons_succ, i64_w, i32_w]
               rfl
              refine q6_p 27 73 #[T,T,T,T,T,T,T,T,T,T,T,T,T,T,T,T,T,T,T,T,T,T,T,T,T,T,T,T,F,T,F,T,F,F,F,F,F] ?_
              refine take_ (i := 28) (N := some 74) (v := ?_) (a' := ?_) #[T,T,T,T,T,T,T,T,T,T,T,T,T,T,T,T,T,T,T,T,T,T,T,T,T,T,T,T,T,T,F,T,F,F,F,F,F] rfl rfl (take_ofW HT_.out HW_.out q6_14) (fun _ _ _ h => h) (Or.inl ⟨by rfl, ?_⟩) hHeld ?_ ?_
              rotate_left
              ·rintro w' ⟨s0, s1, s2, s3, s4, s5, s6, s7, s8, s9, WA, XA, YA, ZA, cB, dB, eB, fB, gB, jB, kB⟩
               go_simp
               with_reducible rfl
              rotate_left
              ·simp only [Act.put, List.setIfInBounds_toArray, List.set_cons_zero, List.set_cons_succ, i64_w, i32_w]
               rfl
              refine take_ (i := 30) (N := some 76) (v := ?_) (a' := ?_) #[T,T,T,T,T,T,T,T,T,T,T,T,T,T,T,T,T,T,T,T,T,T,T,T,T,T,T,T,T,T,T,T,F,F,F,F,F] rfl rfl (take_ofW HT_.out HW_.out q6_14) (fun _ _ _ h => h) (Or.inl ⟨by rfl, ?_⟩) hHeld ?_ ?_
              rotate_left
              ·rintro w' ⟨s0, s1, s2, s3, s4, s5, s6, s7, s8, s9, WA, XA, YA, ZA, cB, dB, eB, fB, gB, jB, kB⟩
               go_simp
               with_reducible rfl
              rotate_left
              ·simp only [Act.put, List.setIfInBounds_toArray, List.set_cons_zero, List.set_cons_succ, i64_w, i32_w]
               rfl
              refine q6_p 32 78 #[T,T,T,T,T,T,T,T,T,T,T,T,T,T,T,T,T,T,T,T,T,T,T,T,T,T,T,T,T,T,T,T,T,F,F,F,F] ?_
              refine take_ (i := 33) (N := some 79) (v := ?_) (a' := ?_) #[T,T,T,T,T,T,T,T,T,T,T,T,T,T,T,T,T,T,T,T,T,T,T,T,T,T,T,T,T,T,T,T,T,T,F,F,F] rfl rfl (take_ofW HT_.out HW_.out q6_14) (fun _ _ _ h => h) (Or.inl ⟨by rfl, ?_⟩) hHeld ?_ ?_
              rotate_left
              ·rintro w' ⟨s0, s1, s2, s3, s4, s5, s6, s7, s8, s9, WA, XA, YA, ZA, cB, dB, eB, fB, gB, jB, kB⟩
               go_simp
               with_reducible rfl
              rotate_left
              ·simp only [Act.put, List.setIfInBounds_toArray, List.set_cons_zero, List.set_cons_succ, i64_w, i32_w]
               rfl
              refine one_ (i := 34) (N := some 80) #[T,T,T,T,T,T,T,T,T,T,T,T,T,T,T,T,T,T,T,T,T,T,T,T,T,T,T,T,T,T,T,T,T,T,T,F,F] rfl rfl (one_of HT_.out q6_14) (by decide) (fun K hK => ?_)
              refine goes_ Try.func89 q6_14 rfl #[.agg #[.int .i64 nA, .int .i64 qA, .slice MA oA.length NA, .slice OA pA.length PA, .int .i64 rA], .agg #[.int .i64 ((rd_T75 bA aA).f0), .int .i64 ((rd_T75 bA aA).f1), .int .i64 ((rd_T75 bA aA).f2), .int .i64 ((rd_T75 bA aA).f3), .int .i64 ((rd_T75 bA aA).f4), .int .i64 ((rd_T75 bA aA).f5), .int .i64 ((rd_T75 bA aA).f6), .int .i64 ((rd_T75 bA aA).f7), .int .i64 ((rd_T75 bA aA).f8), .bool ((rd_T75 bA aA).f9)], .int .i64 (rd iA aA), .int .i64 (rd jA aA)] (by rfl) rfl rfl q6_12 ?_
              with_reducible refine (spec_l07Times.calls k2 nA qA _ _ oA _ _ pA rA ((rd_T75 bA aA).f0) ((rd_T75 bA aA).f1) ((rd_T75 bA aA).f2) ((rd_T75 bA aA).f3) ((rd_T75 bA aA).f4) ((rd_T75 bA aA).f5) ((rd_T75 bA aA).f6) ((rd_T75 bA aA).f7) ((rd_T75 bA aA).f8) ((rd_T75 bA aA).f9) (rd iA aA) (rd jA aA) true _ ?side1 ?side2 ?side3 ?side4 A65.out).mono ?_
              (case side1 => exact q6_15)
              (case side2 => exact WB.out)
              (case side3 => exact q6_16)
              (case side4 => exact XB.out)
              rintro e eH ⟨rfl, hb⟩
              refine ⟨_, rfl, ?_⟩
              have CA := Aside0.mk (blk_below (g := hA) (o := .cells #[.int .i64 nA, .int .i64 qA, .slice MA oA.length NA, .slice OA pA.length PA, .int .i64 rA] 29 (0, 0)) q6_5 hb)
              have DA := Aside0.mk (blk_below (g := gA) (o := .cells #[.slice (some ad177) bA.length JA, .int .i64 mA, .slice (some ad192) iA.length KA, .slice (some ad193) jA.length LA] 55 (0, 0)) q6_6 hb)
              have EA := Aside0.mk (blk_below (g := cA) (o := .cells #[.int .i64 ((rd_T75 bA aA).f0), .int .i64 ((rd_T75 bA aA).f1), .int .i64 ((rd_T75 bA aA).f2), .int .i64 ((rd_T75 bA aA).f3), .int .i64 ((rd_T75 bA aA).f4), .int .i64 ((rd_T75 bA aA).f5), .int .i64 ((rd_T75 bA aA).f6), .int .i64 ((rd_T75 bA aA).f7), .int .i64 ((rd_T75 bA aA).f8), .bool ((rd_T75 bA aA).f9)] 75 (0, 0)) q6_13 hb)
              have FA := Aside0.mk (below_step q6_4 hb)
              clear fA
              clear eA
              clear dA
              clear HB
              have fA := CA
              have eA := DA
              have dA := EA
              have HB := FA
              clear CA DA EA FA
              (try clear hb)
              (try clear hb2)
              (try clear hk)
              (try clear hi)
              refine hK.out _ _ ⟨(blk_cell dA.out 0).trans rfl, (blk_cell dA.out 1).trans rfl, (blk_cell dA.out 2).trans rfl, (blk_cell dA.out 3).trans rfl, (blk_cell dA.out 4).trans rfl, (blk_cell dA.out 5).trans rfl, (blk_cell dA.out 6).trans rfl, (blk_cell dA.out 7).trans rfl, (blk_cell dA.out 8).trans rfl, (blk_cell dA.out 9).trans rfl, (blk_cell eA.out 0).trans rfl, (blk_cell eA.out 1).trans rfl, (blk_cell eA.out 2).trans rfl, (blk_cell eA.out 3).trans rfl, (blk_cell fA.out 0).trans rfl, (blk_cell fA.out 1).trans rfl, (blk_cell fA.out 2).trans rfl, (blk_cell fA.out 3).trans rfl, (blk_cell fA.out 4).trans rfl, ((HB.out.cell (World.block_lt_of_cell? w _ hw192_0)).trans hw192_0), ((HB.out.cell (World.block_lt_of_cell? w _ hw193_0)).trans hw193_0)⟩ (fun hHeld => ?_)
              clear hK K
              refine norm_ (a' := ?_) ?_ ?_
              rotate_left
              ·show Act.put _ (some 80) _ = _
               simp only [Act.put, List.setIfInBounds_toArray, List.set_cons_zero, List.set_cons_succ, i64_w, i32_w]
               rfl
              refine q6_p 35 81 #[T,T,T,T,T,T,T,T,T,T,T,T,T,T,T,T,T,T,T,T,T,T,T,T,T,T,T,T,T,T,T,T,T,T,T,T,F] ?_
              refine q6_p 36 82 #[T,T,T,T,T,T,T,T,T,T,T,T,T,T,T,T,T,T,T,T,T,T,T,T,T,T,T,T,T,T,T,T,T,T,T,T,T] ?_
              refine done_ (done_of HT_.out q6_14) ?_
              try go_wp2
              go_roundg k2
              case measure => have := HJ2.out; have := HK2.out; omega
              case rel => exact ⟨(wrap64 (aA + 1)), q6_20, H', ⟨by have := HJ2.out; have := HK2.out; omega⟩, ⟨q6_5⟩, ⟨q6_6⟩, ⟨q6_4⟩⟩
             ·replace c66 := Bool.eq_false_iff.mpr c66
              subst c66
              have H1 : (some false) = some r := by rw [if_neg (show ¬ (false = true) by decide)] at H; exact H
              clear H
              have H := H1
              clear H1
              obtain rfl := Option.some.inj H
              have p177 : 0 ≤ (aA : Int) := of_decide_eq_true q6_7
              have q177 : aA < (bA.length : Int) := of_decide_eq_true q6_7
              obtain ⟨ad177, uB, sA, tA, uA, vA, wA, xA, yA, zA, AA, BA⟩ := at_T75 wB.out aA p177 q177
              cases uB
              replace sA := (HB.out.cell (World.block_lt_of_cell? w _ sA)).trans sA
              replace tA := (HB.out.cell (World.block_lt_of_cell? w _ tA)).trans tA
              replace uA := (HB.out.cell (World.block_lt_of_cell? w _ uA)).trans uA
              replace vA := (HB.out.cell (World.block_lt_of_cell? w _ vA)).trans vA
              replace wA := (HB.out.cell (World.block_lt_of_cell? w _ wA)).trans wA
              replace xA := (HB.out.cell (World.block_lt_of_cell? w _ xA)).trans xA
              replace yA := (HB.out.cell (World.block_lt_of_cell? w _ yA)).trans yA
              replace zA := (HB.out.cell (World.block_lt_of_cell? w _ zA)).trans zA
              replace AA := (HB.out.cell (World.block_lt_of_cell? w _ AA)).trans AA
              replace BA := (HB.out.cell (World.block_lt_of_cell? w _ BA)).trans BA
              replace p177 := eq_true p177
              replace q177 := eq_true q177
              try go_wp2_with (first | ((with_reducible refine gate_dst (N := 7) rfl ?_); (try (refine gate_guard (by rfl) ?_; dsimp only)); refine box_event ?hg (N := 7) ?hd (cs := #[.int .i64 0, .int .i64 0, .int .i64 0, .int .i64 0, .int .i64 0, .int .i64 0, .int .i64 0, .int .i64 0, .int .i64 0, .bool false]) (t := 75) ?hr ?_; (case hd => rfl); (case hg => rfl); (case hr => first | (go_simp; done) | (go_simp; rfl)); intro cA hg VB hbox hb; have CA := Aside0.mk (blk_below (g := hA) (o := .cells #[.int .i64 nA, .int .i64 qA, .slice MA oA.length NA, .slice OA pA.length PA, .int .i64 rA] 29 (0, 0)) q6_5 hb); have DA := Aside0.mk (blk_below (g := gA) (o := .cells #[.slice (some ad177) bA.length JA, .int .i64 mA, .slice UA iA.length KA, .slice VA jA.length LA] 55 (0, 0)) q6_6 hb); have EA := Aside0.mk (below_step q6_3 hb); have FA := Aside0.mk (hbox); have xB := Aside0.mk ((q6_18 : w.heap.size ≤ cA)); have yB := Aside0.mk ((q6_18 : w.heap.size ≤ cA)); have zB := Aside0.mk ((q6_8 : hA ≠ cA)); have AB := Aside0.mk ((q6_9 : cA ≠ hA)); have BB := Aside0.mk ((q6_10 : gA ≠ cA)); have CB := Aside0.mk ((q6_11 : cA ≠ gA)); clear fA; clear eA; clear HB; have fA := CA; have eA := DA; have HB := EA; have dA := FA; have DB := xB; have vB := yB; have kA := zB; have GA := AB; have lA := BB; have IA := CB; clear CA DA EA FA xB yB zB AB BB CB; clear hb hbox hg; have IG := GA.out; have JG := kA.out; have KG := IA.out; have LG := lA.out; have BF : VB.cell? ⟨cA, 0, none⟩ = some (.int .i64 0) := (blk_cell dA.out 0).trans rfl; have CF : VB.cell? ⟨cA, 1, none⟩ = some (.int .i64 0) := (blk_cell dA.out 1).trans rfl; have DF : VB.cell? ⟨cA, 2, none⟩ = some (.int .i64 0) := (blk_cell dA.out 2).trans rfl; have EF : VB.cell? ⟨cA, 3, none⟩ = some (.int .i64 0) := (blk_cell dA.out 3).trans rfl; have FF : VB.cell? ⟨cA, 4, none⟩ = some (.int .i64 0) := (blk_cell dA.out 4).trans rfl; have GF : VB.cell? ⟨cA, 5, none⟩ = some (.int .i64 0) := (blk_cell dA.out 5).trans rfl; have HF : VB.cell? ⟨cA, 6, none⟩ = some (.int .i64 0) := (blk_cell dA.out 6).trans rfl; have IF : VB.cell? ⟨cA, 7, none⟩ = some (.int .i64 0) := (blk_cell dA.out 7).trans rfl; have JF : VB.cell? ⟨cA, 8, none⟩ = some (.int .i64 0) := (blk_cell dA.out 8).trans rfl; have KF : VB.cell? ⟨cA, 9, none⟩ = some (.bool false) := (blk_cell dA.out 9).trans rfl; have LF := blk_frozen dA.out 0; have MF := blk_frozen dA.out 1; have NF := blk_frozen dA.out 2; have OF := blk_frozen dA.out 3; have PF := blk_frozen dA.out 4; have QF := blk_frozen dA.out 5; have RF := blk_frozen dA.out 6; have SF := blk_frozen dA.out 7; have TF := blk_frozen dA.out 8; have UF := blk_frozen dA.out 9))
              have CA : Aside0 (((((((((((VB.setCell ⟨cA, 0, none⟩ (.int .i64 ((rd_T75 bA aA).f0))).setCell ⟨cA, 1, none⟩ (.int .i64 ((rd_T75 bA aA).f1))).setCell ⟨cA, 2, none⟩ (.int .i64 ((rd_T75 bA aA).f2))).setCell ⟨cA, 3, none⟩ (.int .i64 ((rd_T75 bA aA).f3))).setCell ⟨cA, 4, none⟩ (.int .i64 ((rd_T75 bA aA).f4))).setCell ⟨cA, 5, none⟩ (.int .i64 ((rd_T75 bA aA).f5))).setCell ⟨cA, 6, none⟩ (.int .i64 ((rd_T75 bA aA).f6))).setCell ⟨cA, 7, none⟩ (.int .i64 ((rd_T75 bA aA).f7))).setCell ⟨cA, 8, none⟩ (.int .i64 ((rd_T75 bA aA).f8))).setCell ⟨cA, 9, none⟩ (.bool ((rd_T75 bA aA).f9))).heap[hA]? = some (.cells #[.int .i64 nA, .int .i64 qA, .slice MA oA.length NA, .slice OA pA.length PA, .int .i64 rA] 29 (0, 0))) := ⟨q6_1⟩
              have DA : Aside0 (((((((((((VB.setCell ⟨cA, 0, none⟩ (.int .i64 ((rd_T75 bA aA).f0))).setCell ⟨cA, 1, none⟩ (.int .i64 ((rd_T75 bA aA).f1))).setCell ⟨cA, 2, none⟩ (.int .i64 ((rd_T75 bA aA).f2))).setCell ⟨cA, 3, none⟩ (.int .i64 ((rd_T75 bA aA).f3))).setCell ⟨cA, 4, none⟩ (.int .i64 ((rd_T75 bA aA).f4))).setCell ⟨cA, 5, none⟩ (.int .i64 ((rd_T75 bA aA).f5))).setCell ⟨cA, 6, none⟩ (.int .i64 ((rd_T75 bA aA).f6))).setCell ⟨cA, 7, none⟩ (.int .i64 ((rd_T75 bA aA).f7))).setCell ⟨cA, 8, none⟩ (.int .i64 ((rd_T75 bA aA).f8))).setCell ⟨cA, 9, none⟩ (.bool ((rd_T75 bA aA).f9))).heap[gA]? = some (.cells #[.slice (some ad177) bA.length JA, .int .i64 mA, .slice UA iA.length KA, .slice VA jA.length LA] 55 (0, 0))) := ⟨q6_2⟩
              have EA : Aside0 (((((((((((VB.setCell ⟨cA, 0, none⟩ (.int .i64 ((rd_T75 bA aA).f0))).setCell ⟨cA, 1, none⟩ (.int .i64 ((rd_T75 bA aA).f1))).setCell ⟨cA, 2, none⟩ (.int .i64 ((rd_T75 bA aA).f2))).setCell ⟨cA, 3, none⟩ (.int .i64 ((rd_T75 bA aA).f3))).setCell ⟨cA, 4, none⟩ (.int .i64 ((rd_T75 bA aA).f4))).setCell ⟨cA, 5, none⟩ (.int .i64 ((rd_T75 bA aA).f5))).setCell ⟨cA, 6, none⟩ (.int .i64 ((rd_T75 bA aA).f6))).setCell ⟨cA, 7, none⟩ (.int .i64 ((rd_T75 bA aA).f7))).setCell ⟨cA, 8, none⟩ (.int .i64 ((rd_T75 bA aA).f8))).setCell ⟨cA, 9, none⟩ (.bool ((rd_T75 bA aA).f9))).heap[cA]? = some (.cells #[.int .i64 ((rd_T75 bA aA).f0), .int .i64 ((rd_T75 bA aA).f1), .int .i64 ((rd_T75 bA aA).f2), .int .i64 ((rd_T75 bA aA).f3), .int .i64 ((rd_T75 bA aA).f4), .int .i64 ((rd_T75 bA aA).f5), .int .i64 ((rd_T75 bA aA).f6), .int .i64 ((rd_T75 bA aA).f7), .int .i64 ((rd_T75 bA aA).f8), .bool ((rd_T75 bA aA).f9)] 75 (0, 0))) := ⟨q6_0⟩
              have FA : Aside0 (Below w.heap.size w ((((((((((VB.setCell ⟨cA, 0, none⟩ (.int .i64 ((rd_T75 bA aA).f0))).setCell ⟨cA, 1, none⟩ (.int .i64 ((rd_T75 bA aA).f1))).setCell ⟨cA, 2, none⟩ (.int .i64 ((rd_T75 bA aA).f2))).setCell ⟨cA, 3, none⟩ (.int .i64 ((rd_T75 bA aA).f3))).setCell ⟨cA, 4, none⟩ (.int .i64 ((rd_T75 bA aA).f4))).setCell ⟨cA, 5, none⟩ (.int .i64 ((rd_T75 bA aA).f5))).setCell ⟨cA, 6, none⟩ (.int .i64 ((rd_T75 bA aA).f6))).setCell ⟨cA, 7, none⟩ (.int .i64 ((rd_T75 bA aA).f7))).setCell ⟨cA, 8, none⟩ (.int .i64 ((rd_T75 bA aA).f8))).setCell ⟨cA, 9, none⟩ (.bool ((rd_T75 bA aA).f9)))) := ⟨q6_4⟩
              (try clear fA)
              (try clear eA)
              (try clear dA)
              (try clear HB)
              generalize ((((((((((VB.setCell ⟨cA, 0, none⟩ (.int .i64 ((rd_T75 bA aA).f0))).setCell ⟨cA, 1, none⟩ (.int .i64 ((rd_T75 bA aA).f1))).setCell ⟨cA, 2, none⟩ (.int .i64 ((rd_T75 bA aA).f2))).setCell ⟨cA, 3, none⟩ (.int .i64 ((rd_T75 bA aA).f3))).setCell ⟨cA, 4, none⟩ (.int .i64 ((rd_T75 bA aA).f4))).setCell ⟨cA, 5, none⟩ (.int .i64 ((rd_T75 bA aA).f5))).setCell ⟨cA, 6, none⟩ (.int .i64 ((rd_T75 bA aA).f6))).setCell ⟨cA, 7, none⟩ (.int .i64 ((rd_T75 bA aA).f7))).setCell ⟨cA, 8, none⟩ (.int .i64 ((rd_T75 bA aA).f8))).setCell ⟨cA, 9, none⟩ (.bool ((rd_T75 bA aA).f9))) = TG at CA DA EA FA ⊢
              have fA := CA
              have eA := DA
              have dA := EA
              have HB := FA
              clear CA DA EA FA
              have CA := Aside0.mk (blk_drew fA.out)
              have DA := Aside0.mk (blk_drew eA.out)
              have EA := Aside0.mk (blk_drew dA.out)
              have FA := Aside0.mk (below_drew1 HB.out)
              clear fA
              clear eA
              clear dA
              clear HB
              have fA := CA
              have eA := DA
              have dA := EA
              have HB := FA
              clear CA DA EA FA
              have p192 : 0 ≤ (aA : Int) := of_decide_eq_true q6_7
              have q192 : aA < (iA.length : Int) := of_decide_eq_true q6_7
              obtain ⟨ad192, sD, SA⟩ := Kd.at_int YB.out aA p192 q192
              have hw192_0 := SA
              cases sD
              replace SA := (HB.out.cell (World.block_lt_of_cell? w _ SA)).trans SA
              replace p192 := eq_true p192
              replace q192 := eq_true q192
              have p193 : 0 ≤ (aA : Int) := of_decide_eq_true q6_7
              have q193 : aA < (jA.length : Int) := of_decide_eq_true q6_7
              obtain ⟨ad193, tD, TA⟩ := Kd.at_int ZB.out aA p193 q193
              have hw193_0 := TA
              cases tD
              replace TA := (HB.out.cell (World.block_lt_of_cell? w _ TA)).trans TA
              replace p193 := eq_true p193
              replace q193 := eq_true q193
              refine start_ (n := 37) (S := fun w' => w'.cell? ⟨cA, 0, none⟩ = some (.int .i64 ((rd_T75 bA aA).f0)) ∧ w'.cell? ⟨cA, 1, none⟩ = some (.int .i64 ((rd_T75 bA aA).f1)) ∧ w'.cell? ⟨cA, 2, none⟩ = some (.int .i64 ((rd_T75 bA aA).f2)) ∧ w'.cell? ⟨cA, 3, none⟩ = some (.int .i64 ((rd_T75 bA aA).f3)) ∧ w'.cell? ⟨cA, 4, none⟩ = some (.int .i64 ((rd_T75 bA aA).f4)) ∧ w'.cell? ⟨cA, 5, none⟩ = some (.int .i64 ((rd_T75 bA aA).f5)) ∧ w'.cell? ⟨cA, 6, none⟩ = some (.int .i64 ((rd_T75 bA aA).f6)) ∧ w'.cell? ⟨cA, 7, none⟩ = some (.int .i64 ((rd_T75 bA aA).f7)) ∧ w'.cell? ⟨cA, 8, none⟩ = some (.int .i64 ((rd_T75 bA aA).f8)) ∧ w'.cell? ⟨cA, 9, none⟩ = some (.bool ((rd_T75 bA aA).f9)) ∧ w'.cell? ⟨gA, 0, none⟩ = some (.slice (some ad177) bA.length JA) ∧ w'.cell? ⟨gA, 1, none⟩ = some (.int .i64 mA) ∧ w'.cell? ⟨gA, 2, none⟩ = some (.slice (some ad192) iA.length KA) ∧ w'.cell? ⟨gA, 3, none⟩ = some (.slice (some ad193) jA.length LA) ∧ w'.cell? ⟨hA, 0, none⟩ = some (.int .i64 nA) ∧ w'.cell? ⟨hA, 1, none⟩ = some (.int .i64 qA) ∧ w'.cell? ⟨hA, 2, none⟩ = some (.slice MA oA.length NA) ∧ w'.cell? ⟨hA, 3, none⟩ = some (.slice OA pA.length PA) ∧ w'.cell? ⟨hA, 4, none⟩ = some (.int .i64 rA) ∧ w'.cell? (ad192.add (aA).toNat) = some (.int .i64 (rd iA aA)) ∧ w'.cell? (ad193.add (aA).toNat) = some (.int .i64 (rd jA aA))) (ds := []) #[F,F,F,F,F,F,F,F,F,F,F,F,F,F,F,F,F,F,F,F,F,F,F,F,F,F,F,F,F,F,F,F,F,F,F,F,F] q6_14 rfl rfl ⟨(blk_cell dA.out 0).trans rfl, (blk_cell dA.out 1).trans rfl, (blk_cell dA.out 2).trans rfl, (blk_cell dA.out 3).trans rfl, (blk_cell dA.out 4).trans rfl, (blk_cell dA.out 5).trans rfl, (blk_cell dA.out 6).trans rfl, (blk_cell dA.out 7).trans rfl, (blk_cell dA.out 8).trans rfl, (blk_cell dA.out 9).trans rfl, (blk_cell eA.out 0).trans rfl, (blk_cell eA.out 1).trans rfl, (blk_cell eA.out 2).trans rfl, (blk_cell eA.out 3).trans rfl, (blk_cell fA.out 0).trans rfl, (blk_cell fA.out 1).trans rfl, (blk_cell fA.out 2).trans rfl, (blk_cell fA.out 3).trans rfl, (blk_cell fA.out 4).trans rfl, ((HB.out.cell (World.block_lt_of_cell? w _ hw192_0)).trans hw192_0), ((HB.out.cell (World.block_lt_of_cell? w _ hw193_0)).trans hw193_0)⟩ (fun hHeld => ?_); refine with_tabW spec_l07Thread.tab7 spec_l07Thread.bits7 (fun HT_ HW_ => ?_)
              generalize TG.drew = fH at fA eA dA HB SA TA hHeld ⊢
              refine q6_p 0 46 #[T,F,F,F,F,F,F,F,F,F,F,F,F,F,F,F,F,F,F,F,F,F,F,F,F,F,F,F,F,F,F,F,F,F,F,F,F] ?_
              refine q6_p 2 48 #[T,F,T,F,F,F,F,F,F,F,F,F,F,F,F,F,F,F,F,F,F,F,F,F,F,F,F,F,F,F,F,F,F,F,F,F,F] ?_
              refine q6_p 3 49 #[T,F,T,T,F,F,F,F,F,F,F,F,F,F,F,F,F,F,F,F,F,F,F,F,F,F,F,F,F,F,F,F,F,F,F,F,F] ?_
              refine take_ (i := 1) (N := some 47) (v := ?_) (a' := ?_) #[T,T,T,T,F,F,F,F,F,F,F,F,F,F,F,F,F,F,F,F,F,F,F,F,F,F,F,F,F,F,F,F,F,F,F,F,F] rfl rfl (take_ofW HT_.out HW_.out q6_14) (fun _ _ _ h => h) (Or.inl ⟨by rfl, ?_⟩) hHeld ?_ ?_
              rotate_left
              ·rintro w' ⟨s0, s1, s2, s3, s4, s5, s6, s7, s8, s9, WA, XA, YA, ZA, cB, dB, eB, fB, gB, jB, kB⟩
               go_simp
               with_reducible rfl
              rotate_left
              ·simp only [Act.put, List.setIfInBounds_toArray, List.set_cons_zero, List.set_cons_succ, i64_w, i32_w]
               rfl
              refine take_ (i := 4) (N := some 50) (v := ?_) (a' := ?_) #[T,T,T,T,T,F,F,F,F,F,F,F,F,F,F,F,F,F,F,F,F,F,F,F,F,F,F,F,F,F,F,F,F,F,F,F,F] rfl rfl (take_ofW HT_.out HW_.out q6_14) (fun _ _ _ h => h) (Or.inl ⟨by rfl, ?_⟩) hHeld ?_ ?_
              rotate_left
              ·rintro w' ⟨s0, s1, s2, s3, s4, s5, s6, s7, s8, s9, WA, XA, YA, ZA, cB, dB, eB, fB, gB, jB, kB⟩
               go_simp
               with_reducible rfl
              rotate_left
              ·simp only [Act.put, List.setIfInBounds_toArray, List.set_cons_zero, List.set_cons_succ, i64_w, i32_w]
               rfl
              refine q6_p 5 51 #[T,T,T,T,T,T,F,F,F,F,F,F,F,F,F,F,F,F,F,F,F,F,F,F,F,F,F,F,F,F,F,F,F,F,F,F,F] ?_
              refine q6_p 6 52 #[T,T,T,T,T,T,T,F,F,F,F,F,F,F,F,F,F,F,F,F,F,F,F,F,F,F,F,F,F,F,F,F,F,F,F,F,F] ?_
              refine q6_p 7 53 #[T,T,T,T,T,T,T,T,F,F,F,F,F,F,F,F,F,F,F,F,F,F,F,F,F,F,F,F,F,F,F,F,F,F,F,F,F] ?_
              refine q6_p 8 54 #[T,T,T,T,T,T,T,T,T,F,F,F,F,F,F,F,F,F,F,F,F,F,F,F,F,F,F,F,F,F,F,F,F,F,F,F,F] ?_
              refine q6_p 9 55 #[T,T,T,T,T,T,T,T,T,T,F,F,F,F,F,F,F,F,F,F,F,F,F,F,F,F,F,F,F,F,F,F,F,F,F,F,F] ?_
              refine take_ (i := 10) (N := some 56) (v := ?_) (a' := ?_) #[T,T,T,T,T,T,T,T,T,T,T,F,F,F,F,F,F,F,F,F,F,F,F,F,F,F,F,F,F,F,F,F,F,F,F,F,F] rfl rfl (take_ofW HT_.out HW_.out q6_14) (fun _ _ _ h => h) (Or.inl ⟨by rfl, ?_⟩) hHeld ?_ ?_
              rotate_left
              ·rintro w' ⟨s0, s1, s2, s3, s4, s5, s6, s7, s8, s9, WA, XA, YA, ZA, cB, dB, eB, fB, gB, jB, kB⟩
               go_simp
               with_reducible rfl
              rotate_left
              ·simp only [Act.put, List.setIfInBounds_toArray, List.set_cons_zero, List.set_cons_succ, i64_w, i32_w]
               rfl
              refine q6_p 11 57 #[T,T,T,T,T,T,T,T,T,T,T,T,F,F,F,F,F,F,F,F,F,F,F,F,F,F,F,F,F,F,F,F,F,F,F,F,F] ?_
              refine q6_p 12 58 #[T,T,T,T,T,T,T,T,T,T,T,T,T,F,F,F,F,F,F,F,F,F,F,F,F,F,F,F,F,F,F,F,F,F,F,F,F] ?_
              refine q6_u 13 59 #[T,T,T,T,T,T,T,T,T,T,T,T,T,T,F,F,F,F,F,F,F,F,F,F,F,F,F,F,F,F,F,F,F,F,F,F,F] ?_
              refine q6_u 14 60 #[T,T,T,T,T,T,T,T,T,T,T,T,T,T,T,F,F,F,F,F,F,F,F,F,F,F,F,F,F,F,F,F,F,F,F,F,F] ?_
              refine q6_u 15 61 #[T,T,T,T,T,T,T,T,T,T,T,T,T,T,T,T,F,F,F,F,F,F,F,F,F,F,F,F,F,F,F,F,F,F,F,F,F] ?_
              refine q6_u 16 62 #[T,T,T,T,T,T,T,T,T,T,T,T,T,T,T,T,T,F,F,F,F,F,F,F,F,F,F,F,F,F,F,F,F,F,F,F,F] ?_
              refine q6_u 17 63 #[T,T,T,T,T,T,T,T,T,T,T,T,T,T,T,T,T,T,F,F,F,F,F,F,F,F,F,F,F,F,F,F,F,F,F,F,F] ?_
              refine q6_u 18 64 #[T,T,T,T,T,T,T,T,T,T,T,T,T,T,T,T,T,T,T,F,F,F,F,F,F,F,F,F,F,F,F,F,F,F,F,F,F] ?_
              refine q6_p 19 65 #[T,T,T,T,T,T,T,T,T,T,T,T,T,T,T,T,T,T,T,T,F,F,F,F,F,F,F,F,F,F,F,F,F,F,F,F,F] ?_
              refine q6_p 20 66 #[T,T,T,T,T,T,T,T,T,T,T,T,T,T,T,T,T,T,T,T,T,F,F,F,F,F,F,F,F,F,F,F,F,F,F,F,F] ?_
              refine q6_p 21 67 #[T,T,T,T,T,T,T,T,T,T,T,T,T,T,T,T,T,T,T,T,T,T,F,F,F,F,F,F,F,F,F,F,F,F,F,F,F] ?_
              refine q6_p 24 70 #[T,T,T,T,T,T,T,T,T,T,T,T,T,T,T,T,T,T,T,T,T,T,F,F,T,F,F,F,F,F,F,F,F,F,F,F,F] ?_
              refine q6_p 26 72 #[T,T,T,T,T,T,T,T,T,T,T,T,T,T,T,T,T,T,T,T,T,T,F,F,T,F,T,F,F,F,F,F,F,F,F,F,F] ?_
              refine q6_p 29 75 #[T,T,T,T,T,T,T,T,T,T,T,T,T,T,T,T,T,T,T,T,T,T,F,F,T,F,T,F,F,T,F,F,F,F,F,F,F] ?_
              refine q6_p 31 77 #[T,T,T,T,T,T,T,T,T,T,T,T,T,T,T,T,T,T,T,T,T,T,F,F,T,F,T,F,F,T,F,T,F,F,F,F,F] ?_
              refine take_ (i := 22) (N := some 68) (v := ?_) (a' := ?_) #[T,T,T,T,T,T,T,T,T,T,T,T,T,T,T,T,T,T,T,T,T,T,T,F,T,F,T,F,F,T,F,T,F,F,F,F,F] rfl rfl (take_ofW HT_.out HW_.out q6_14) (fun _ _ _ h => h) (Or.inl ⟨by rfl, ?_⟩) hHeld ?_ ?_
              rotate_left
              ·rintro w' ⟨s0, s1, s2, s3, s4, s5, s6, s7, s8, s9, WA, XA, YA, ZA, cB, dB, eB, fB, gB, jB, kB⟩
               go_simp
               with_reducible rfl
              rotate_left
              ·simp only [Act.put, List.setIfInBounds_toArray, List.set_cons_zero, List.set_cons_succ, i64_w, i32_w]
               rfl
              refine take_ (i := 23) (N := some 69) (v := ?_) (a' := ?_) #[T,T,T,T,T,T,T,T,T,T,T,T,T,T,T,T,T,T,T,T,T,T,T,T,T,F,T,F,F,T,F,T,F,F,F,F,F] rfl rfl (take_ofW HT_.out HW_.out q6_14) (fun _ _ _ h => h) (Or.inl ⟨by rfl, ?_⟩) hHeld ?_ ?_
              rotate_left
              ·rintro w' ⟨s0, s1, s2, s3, s4, s5, s6, s7, s8, s9, WA, XA, YA, ZA, cB, dB, eB, fB, gB, jB, kB⟩
               go_simp
               with_reducible rfl
              rotate_left
              ·simp only [Act.put, List.setIfInBounds_toArray, List.set_cons_zero, List.set_cons_succ, i64_w, i32_w]
               rfl
              refine take_ (i := 25) (N := some 71) (v := ?_) (a' := ?_) #[T,T,T,T,T,T,T,T,T,T,T,T,T,T,T,T,T,T,T,T,T,T,T,T,T,T,T,F,F,T,F,T,F,F,F,F,F] rfl rfl (take_ofW HT_.out HW_.out q6_14) (fun _ _ _ h => h) (Or.inl ⟨by rfl, ?_⟩) hHeld ?_ ?_
              rotate_left
              ·rintro w' ⟨s0, s1, s2, s3, s4, s5, s6, s7, s8, s9, WA, XA, YA, ZA, cB, dB, eB, fB, gB, jB, kB⟩
               go_simp
               with_reducible rfl
              rotate_left
              ·simp only [Act.put, List.setIfInBounds_toArray, List.set_cons_zero, List.set_cons_succ, i64_w, i32_w]
               rfl
              refine q6_p 27 73 #[T,T,T,T,T,T,T,T,T,T,T,T,T,T,T,T,T,T,T,T,T,T,T,T,T,T,T,T,F,T,F,T,F,F,F,F,F] ?_
              refine take_ (i := 28) (N := some 74) (v := ?_) (a' := ?_) #[T,T,T,T,T,T,T,T,T,T,T,T,T,T,T,T,T,T,T,T,T,T,T,T,T,T,T,T,T,T,F,T,F,F,F,F,F] rfl rfl (take_ofW HT_.out HW_.out q6_14) (fun _ _ _ h => h) (Or.inl ⟨by rfl, ?_⟩) hHeld ?_ ?_
              rotate_left
              ·rintro w' ⟨s0, s1, s2, s3, s4, s5, s6, s7, s8, s9, WA, XA, YA, ZA, cB, dB, eB, fB, gB, jB, kB⟩
               go_simp
               with_reducible rfl
              rotate_left
              ·simp only [Act.put, List.setIfInBounds_toArray, List.set_cons_zero, List.set_cons_succ, i64_w, i32_w]
               rfl
              refine take_ (i := 30) (N := some 76) (v := ?_) (a' := ?_) #[T,T,T,T,T,T,T,T,T,T,T,T,T,T,T,T,T,T,T,T,T,T,T,T,T,T,T,T,T,T,T,T,F,F,F,F,F] rfl rfl (take_ofW HT_.out HW_.out q6_14) (fun _ _ _ h => h) (Or.inl ⟨by rfl, ?_⟩) hHeld ?_ ?_
              rotate_left
              ·rintro w' ⟨s0, s1, s2, s3, s4, s5, s6, s7, s8, s9, WA, XA, YA, ZA, cB, dB, eB, fB, gB, jB, kB⟩
               go_simp
               with_reducible rfl
              rotate_left
              ·simp only [Act.put, List.setIfInBounds_toArray, List.set_cons_zero, List.set_cons_succ, i64_w, i32_w]
               rfl
              refine q6_p 32 78 #[T,T,T,T,T,T,T,T,T,T,T,T,T,T,T,T,T,T,T,T,T,T,T,T,T,T,T,T,T,T,T,T,T,F,F,F,F] ?_
              refine take_ (i := 33) (N := some 79) (v := ?_) (a' := ?_) #[T,T,T,T,T,T,T,T,T,T,T,T,T,T,T,T,T,T,T,T,T,T,T,T,T,T,T,T,T,T,T,T,T,T,F,F,F] rfl rfl (take_ofW HT_.out HW_.out q6_14) (fun _ _ _ h => h) (Or.inl ⟨by rfl, ?_⟩) hHeld ?_ ?_
              rotate_left
              ·rintro w' ⟨s0, s1, s2, s3, s4, s5, s6, s7, s8, s9, WA, XA, YA, ZA, cB, dB, eB, fB, gB, jB, kB⟩
               go_simp
               with_reducible rfl
              rotate_left
              ·simp only [Act.put, List.setIfInBounds_toArray, List.set_cons_zero, List.set_cons_succ, i64_w, i32_w]
               rfl
              refine one_ (i := 34) (N := some 80) #[T,T,T,T,T,T,T,T,T,T,T,T,T,T,T,T,T,T,T,T,T,T,T,T,T,T,T,T,T,T,T,T,T,T,T,F,F] rfl rfl (one_of HT_.out q6_14) (by decide) (fun K hK => ?_)
              refine goes_ Try.func89 q6_14 rfl #[.agg #[.int .i64 nA, .int .i64 qA, .slice MA oA.length NA, .slice OA pA.length PA, .int .i64 rA], .agg #[.int .i64 ((rd_T75 bA aA).f0), .int .i64 ((rd_T75 bA aA).f1), .int .i64 ((rd_T75 bA aA).f2), .int .i64 ((rd_T75 bA aA).f3), .int .i64 ((rd_T75 bA aA).f4), .int .i64 ((rd_T75 bA aA).f5), .int .i64 ((rd_T75 bA aA).f6), .int .i64 ((rd_T75 bA aA).f7), .int .i64 ((rd_T75 bA aA).f8), .bool ((rd_T75 bA aA).f9)], .int .i64 (rd iA aA), .int .i64 (rd jA aA)] (by rfl) rfl rfl q6_12 ?_
              with_reducible refine (spec_l07Times.calls k2 nA qA _ _ oA _ _ pA rA ((rd_T75 bA aA).f0) ((rd_T75 bA aA).f1) ((rd_T75 bA aA).f2) ((rd_T75 bA aA).f3) ((rd_T75 bA aA).f4) ((rd_T75 bA aA).f5) ((rd_T75 bA aA).f6) ((rd_T75 bA aA).f7) ((rd_T75 bA aA).f8) ((rd_T75 bA aA).f9) (rd iA aA) (rd jA aA) false _ ?side1 ?side2 ?side3 ?side4 A65.out).mono ?_
              (case side1 => exact q6_15)
              (case side2 => exact WB.out)
              (case side3 => exact q6_16)
              (case side4 => exact XB.out)
              rintro e gH ⟨rfl, hb⟩
              refine ⟨_, rfl, ?_⟩
              have CA := Aside0.mk (blk_below (g := hA) (o := .cells #[.int .i64 nA, .int .i64 qA, .slice MA oA.length NA, .slice OA pA.length PA, .int .i64 rA] 29 (0, 0)) q6_5 hb)
              have DA := Aside0.mk (blk_below (g := gA) (o := .cells #[.slice (some ad177) bA.length JA, .int .i64 mA, .slice (some ad192) iA.length KA, .slice (some ad193) jA.length LA] 55 (0, 0)) q6_6 hb)
              have EA := Aside0.mk (blk_below (g := cA) (o := .cells #[.int .i64 ((rd_T75 bA aA).f0), .int .i64 ((rd_T75 bA aA).f1), .int .i64 ((rd_T75 bA aA).f2), .int .i64 ((rd_T75 bA aA).f3), .int .i64 ((rd_T75 bA aA).f4), .int .i64 ((rd_T75 bA aA).f5), .int .i64 ((rd_T75 bA aA).f6), .int .i64 ((rd_T75 bA aA).f7), .int .i64 ((rd_T75 bA aA).f8), .bool ((rd_T75 bA aA).f9)] 75 (0, 0)) q6_13 hb)
              have FA := Aside0.mk (below_step q6_4 hb)
              clear fA
              clear eA
              clear dA
              clear HB
              have fA := CA
              have eA := DA
              have dA := EA
              have HB := FA
              clear CA DA EA FA
              (try clear hb)
              (try clear hb2)
              (try clear hk)
              (try clear hi)
              refine hK.out _ _ ⟨(blk_cell dA.out 0).trans rfl, (blk_cell dA.out 1).trans rfl, (blk_cell dA.out 2).trans rfl, (blk_cell dA.out 3).trans rfl, (blk_cell dA.out 4).trans rfl, (blk_cell dA.out 5).trans rfl, (blk_cell dA.out 6).trans rfl, (blk_cell dA.out 7).trans rfl, (blk_cell dA.out 8).trans rfl, (blk_cell dA.out 9).trans rfl, (blk_cell eA.out 0).trans rfl, (blk_cell eA.out 1).trans rfl, (blk_cell eA.out 2).trans rfl, (blk_cell eA.out 3).trans rfl, (blk_cell fA.out 0).trans rfl, (blk_cell fA.out 1).trans rfl, (blk_cell fA.out 2).trans rfl, (blk_cell fA.out 3).trans rfl, (blk_cell fA.out 4).trans rfl, ((HB.out.cell (World.block_lt_of_cell? w _ hw192_0)).trans hw192_0), ((HB.out.cell (World.block_lt_of_cell? w _ hw193_0)).trans hw193_0)⟩ (fun hHeld => ?_)
              clear hK K
              refine norm_ (a' := ?_) ?_ ?_
              rotate_left
              ·show Act.put _ (some 80) _ = _
               simp only [Act.put, List.setIfInBounds_toArray, List.set_cons_zero, List.set_cons_succ, i64_w, i32_w]
               rfl
              refine q6_p 35 81 #[T,T,T,T,T,T,T,T,T,T,T,T,T,T,T,T,T,T,T,T,T,T,T,T,T,T,T,T,T,T,T,T,T,T,T,T,F] ?_
              refine q6_p 36 82 #[T,T,T,T,T,T,T,T,T,T,T,T,T,T,T,T,T,T,T,T,T,T,T,T,T,T,T,T,T,T,T,T,T,T,T,T,T] ?_
              refine done_ (done_of HT_.out q6_14) ?_
              try go_wp2
              go_ret
              exact ⟨q6_17, q6_4⟩
            ·rw [if_neg c64] at H
             exact absurd H (by simp)
           ·rw [if_neg c63] at H
            exact absurd H (by simp)
        ·rw [if_neg c25] at H
         exact absurd H (by simp)
       ·rw [if_neg c24] at H
        exact absurd H (by simp)
      ·rw [if_neg c23] at H
       have zD : decide (aA < (bA.length : Int)) = false := decide_eq_false c23
       clear c23
       obtain rfl := Option.some.inj H
       go_wp2
       go_ret
       exact ⟨q6_17, q6_3⟩

end Go.Proofs.Ytndkfjecipjiaaa.PFnExactCrewOk
