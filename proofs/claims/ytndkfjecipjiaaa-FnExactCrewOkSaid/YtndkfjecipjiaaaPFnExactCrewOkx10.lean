-- Written by the session's own patched copy of the printer (wip/patch_print.py).
import Derived.Test.YtndkfjecipjiaaaPFnExactCrewOkx0
import Derived.Test.YtndkfjecipjiaaaPFnExactCrewOkx1
import Derived.Test.YtndkfjecipjiaaaPFnExactCrewOkx8
import Derived.Test.YtndkfjecipjiaaaPFnExactCrewOkx9
namespace Go.Proofs.Ytndkfjecipjiaaa.PFnExactCrewOk
open Go.RowKit Go.Proofs.YtndkfjecipjiaaaW.PrintWords Go.Proofs.YtndkfjecipjiaaaW.PrintLast Go.Proofs.YtndkfjecipjiaaaW.PrintMore
attribute [local go_sem] max2_int min2_int max_two min_two max_three min_three max_four min_four   -- for this text's walks alone
set_option linter.unusedVariables false
set_option linter.unusedSimpArgs false

attribute [local go_sem high] eqA75
theorem q10_p {P : Program} {ops : Array Oper} {Q : Exit → Act → World → Prop} {md : Region.Mode} {S : World → Prop} {ds : List Nat} (i n : Nat) {oi : Oper} {v : Value} {fuel : Nat} {l : Array Bool} {a : Act} {w : World} (l' : Array Bool) {a' : Act} (h : wpAnyLast P md ops Q S ds fuel l' a' w) (hi : ops[i]? = some oi := by rfl) (hN : oi.dst = some n := by rfl) (hc : anyB md ops l l' i = true := by exact any_of HT_.out (by kernel_rfl)) (hQ : ∀ c a w, Q (.panic c) (a.put oi.dst v) w → Q (.panic c) a w := by exact fun _ _ _ h => h) (hy : Yields P ops oi v a := by refine Or.inl ⟨by rfl, ?_⟩; intro w'; go_simp; with_reducible rfl) (ha : a.put (some n) v = a' := by simp only [Act.put, List.setIfInBounds_toArray, List.set_cons_zero, List.set_cons_succ, i64_w, i32_w]; rfl) : wpAnyLast P md ops Q S ds (fuel + 1) l a w := pure_ (N := some n) l' hi hN hc hQ hy ha h
theorem q10_u {P : Program} {ops : Array Oper} {Q : Exit → Act → World → Prop} {md : Region.Mode} {S : World → Prop} {ds : List Nat} (i n : Nat) {oi : Oper} {fuel : Nat} {l : Array Bool} {a : Act} {w : World} (l' : Array Bool) {a' : Act} (h : wpAnyLast P md ops Q S ds fuel l' a' w) (hi : ops[i]? = some oi := by rfl) (hN : oi.dst = some n := by rfl) (hc : anyB md ops l l' i = true := by exact any_of HT_.out (by kernel_rfl)) (hQ : ∀ c a w, Q (.panic c) (a.put oi.dst undef) w → Q (.panic c) a w := by exact fun _ _ _ h => h) (hy : Yields P ops oi undef a := by exact Or.inr ⟨by rfl, rfl⟩) (ha : a.put (some n) undef = a' := by simp only [Act.put, List.setIfInBounds_toArray, List.set_cons_zero, List.set_cons_succ, i64_w, i32_w]; rfl) : wpAnyLast P md ops Q S ds (fuel + 1) l a w := pure_ (N := some n) l' hi hN hc hQ hy ha h
open Bool renaming true → T, false → F
theorem q10_0 {p : Prop} (h : p := by (with_reducible repeat (first | refine blk_drewN ?_ _ | refine blk_drew ?_ | refine blk_alloc ?_ _)); refine blk_put (cs := #[.int .i64 ((rd_T75 bA aA).f0), .int .i64 ((rd_T75 bA aA).f1), .int .i64 ((rd_T75 bA aA).f2), .int .i64 ((rd_T75 bA aA).f3), .int .i64 ((rd_T75 bA aA).f4), .int .i64 ((rd_T75 bA aA).f5), .int .i64 ((rd_T75 bA aA).f6), .int .i64 ((rd_T75 bA aA).f7), .int .i64 ((rd_T75 bA aA).f8), .bool false]) ?_ 9 _ rfl; (with_reducible repeat (first | refine blk_drewN ?_ _ | refine blk_drew ?_ | refine blk_alloc ?_ _)); refine blk_put (cs := #[.int .i64 ((rd_T75 bA aA).f0), .int .i64 ((rd_T75 bA aA).f1), .int .i64 ((rd_T75 bA aA).f2), .int .i64 ((rd_T75 bA aA).f3), .int .i64 ((rd_T75 bA aA).f4), .int .i64 ((rd_T75 bA aA).f5), .int .i64 ((rd_T75 bA aA).f6), .int .i64 ((rd_T75 bA aA).f7), .int .i64 0, .bool false]) ?_ 8 _ rfl; (with_reducible repeat (first | refine blk_drewN ?_ _ | refine blk_drew ?_ | refine blk_alloc ?_ _)); refine blk_put (cs := #[.int .i64 ((rd_T75 bA aA).f0), .int .i64 ((rd_T75 bA aA).f1), .int .i64 ((rd_T75 bA aA).f2), .int .i64 ((rd_T75 bA aA).f3), .int .i64 ((rd_T75 bA aA).f4), .int .i64 ((rd_T75 bA aA).f5), .int .i64 ((rd_T75 bA aA).f6), .int .i64 0, .int .i64 0, .bool false]) ?_ 7 _ rfl; (with_reducible repeat (first | refine blk_drewN ?_ _ | refine blk_drew ?_ | refine blk_alloc ?_ _)); refine blk_put (cs := #[.int .i64 ((rd_T75 bA aA).f0), .int .i64 ((rd_T75 bA aA).f1), .int .i64 ((rd_T75 bA aA).f2), .int .i64 ((rd_T75 bA aA).f3), .int .i64 ((rd_T75 bA aA).f4), .int .i64 ((rd_T75 bA aA).f5), .int .i64 0, .int .i64 0, .int .i64 0, .bool false]) ?_ 6 _ rfl; (with_reducible repeat (first | refine blk_drewN ?_ _ | refine blk_drew ?_ | refine blk_alloc ?_ _)); refine blk_put (cs := #[.int .i64 ((rd_T75 bA aA).f0), .int .i64 ((rd_T75 bA aA).f1), .int .i64 ((rd_T75 bA aA).f2), .int .i64 ((rd_T75 bA aA).f3), .int .i64 ((rd_T75 bA aA).f4), .int .i64 0, .int .i64 0, .int .i64 0, .int .i64 0, .bool false]) ?_ 5 _ rfl; (with_reducible repeat (first | refine blk_drewN ?_ _ | refine blk_drew ?_ | refine blk_alloc ?_ _)); refine blk_put (cs := #[.int .i64 ((rd_T75 bA aA).f0), .int .i64 ((rd_T75 bA aA).f1), .int .i64 ((rd_T75 bA aA).f2), .int .i64 ((rd_T75 bA aA).f3), .int .i64 0, .int .i64 0, .int .i64 0, .int .i64 0, .int .i64 0, .bool false]) ?_ 4 _ rfl; (with_reducible repeat (first | refine blk_drewN ?_ _ | refine blk_drew ?_ | refine blk_alloc ?_ _)); refine blk_put (cs := #[.int .i64 ((rd_T75 bA aA).f0), .int .i64 ((rd_T75 bA aA).f1), .int .i64 ((rd_T75 bA aA).f2), .int .i64 0, .int .i64 0, .int .i64 0, .int .i64 0, .int .i64 0, .int .i64 0, .bool false]) ?_ 3 _ rfl; (with_reducible repeat (first | refine blk_drewN ?_ _ | refine blk_drew ?_ | refine blk_alloc ?_ _)); refine blk_put (cs := #[.int .i64 ((rd_T75 bA aA).f0), .int .i64 ((rd_T75 bA aA).f1), .int .i64 0, .int .i64 0, .int .i64 0, .int .i64 0, .int .i64 0, .int .i64 0, .int .i64 0, .bool false]) ?_ 2 _ rfl; (with_reducible repeat (first | refine blk_drewN ?_ _ | refine blk_drew ?_ | refine blk_alloc ?_ _)); refine blk_put (cs := #[.int .i64 ((rd_T75 bA aA).f0), .int .i64 0, .int .i64 0, .int .i64 0, .int .i64 0, .int .i64 0, .int .i64 0, .int .i64 0, .int .i64 0, .bool false]) ?_ 1 _ rfl; (with_reducible repeat (first | refine blk_drewN ?_ _ | refine blk_drew ?_ | refine blk_alloc ?_ _)); refine blk_put (cs := #[.int .i64 0, .int .i64 0, .int .i64 0, .int .i64 0, .int .i64 0, .int .i64 0, .int .i64 0, .int .i64 0, .int .i64 0, .bool false]) ?_ 0 _ rfl; (with_reducible repeat (first | refine blk_drewN ?_ _ | refine blk_drew ?_ | refine blk_alloc ?_ _)); exact dA.out) : p := h
theorem q10_1 {p : Prop} (h : p := by repeat (first | (with_reducible first | exact HB.out | apply below_alloc | apply pw_below_drewN | apply below_drew1 | refine below_set ?_ uD.out | refine below_set ?_ TD.out | refine below_set ?_ nE.out) | exact HB.out)) : p := h
theorem q10_2 {p : Prop} (h : p := by (with_reducible repeat (first | refine blk_drewN ?_ _ | refine blk_drew ?_ | refine blk_alloc ?_ _)); refine blk_far ?_ nA.out _; (with_reducible repeat (first | refine blk_drewN ?_ _ | refine blk_drew ?_ | refine blk_alloc ?_ _)); refine blk_far ?_ nA.out _; (with_reducible repeat (first | refine blk_drewN ?_ _ | refine blk_drew ?_ | refine blk_alloc ?_ _)); refine blk_far ?_ nA.out _; (with_reducible repeat (first | refine blk_drewN ?_ _ | refine blk_drew ?_ | refine blk_alloc ?_ _)); refine blk_far ?_ nA.out _; (with_reducible repeat (first | refine blk_drewN ?_ _ | refine blk_drew ?_ | refine blk_alloc ?_ _)); refine blk_far ?_ nA.out _; (with_reducible repeat (first | refine blk_drewN ?_ _ | refine blk_drew ?_ | refine blk_alloc ?_ _)); refine blk_far ?_ nA.out _; (with_reducible repeat (first | refine blk_drewN ?_ _ | refine blk_drew ?_ | refine blk_alloc ?_ _)); refine blk_far ?_ nA.out _; (with_reducible repeat (first | refine blk_drewN ?_ _ | refine blk_drew ?_ | refine blk_alloc ?_ _)); refine blk_far ?_ nA.out _; (with_reducible repeat (first | refine blk_drewN ?_ _ | refine blk_drew ?_ | refine blk_alloc ?_ _)); refine blk_far ?_ nA.out _; (with_reducible repeat (first | refine blk_drewN ?_ _ | refine blk_drew ?_ | refine blk_alloc ?_ _)); refine blk_far ?_ nA.out _; (with_reducible repeat (first | refine blk_drewN ?_ _ | refine blk_drew ?_ | refine blk_alloc ?_ _)); exact fA.out) : p := h
theorem q10_3 {p : Prop} (h : p := by (with_reducible repeat (first | refine blk_drewN ?_ _ | refine blk_drew ?_ | refine blk_alloc ?_ _)); refine blk_far ?_ oA.out _; (with_reducible repeat (first | refine blk_drewN ?_ _ | refine blk_drew ?_ | refine blk_alloc ?_ _)); refine blk_far ?_ oA.out _; (with_reducible repeat (first | refine blk_drewN ?_ _ | refine blk_drew ?_ | refine blk_alloc ?_ _)); refine blk_far ?_ oA.out _; (with_reducible repeat (first | refine blk_drewN ?_ _ | refine blk_drew ?_ | refine blk_alloc ?_ _)); refine blk_far ?_ oA.out _; (with_reducible repeat (first | refine blk_drewN ?_ _ | refine blk_drew ?_ | refine blk_alloc ?_ _)); refine blk_far ?_ oA.out _; (with_reducible repeat (first | refine blk_drewN ?_ _ | refine blk_drew ?_ | refine blk_alloc ?_ _)); refine blk_far ?_ oA.out _; (with_reducible repeat (first | refine blk_drewN ?_ _ | refine blk_drew ?_ | refine blk_alloc ?_ _)); refine blk_far ?_ oA.out _; (with_reducible repeat (first | refine blk_drewN ?_ _ | refine blk_drew ?_ | refine blk_alloc ?_ _)); refine blk_far ?_ oA.out _; (with_reducible repeat (first | refine blk_drewN ?_ _ | refine blk_drew ?_ | refine blk_alloc ?_ _)); refine blk_far ?_ oA.out _; (with_reducible repeat (first | refine blk_drewN ?_ _ | refine blk_drew ?_ | refine blk_alloc ?_ _)); refine blk_far ?_ oA.out _; (with_reducible repeat (first | refine blk_drewN ?_ _ | refine blk_drew ?_ | refine blk_alloc ?_ _)); exact eA.out) : p := h
theorem q10_4 {p : Prop} (h : p := by (with_reducible repeat (first | refine blk_drewN ?_ _ | refine blk_drew ?_ | refine blk_alloc ?_ _)); exact fA.out) : p := h
theorem q10_5 {p : Prop} (h : p := by (with_reducible repeat (first | refine blk_drewN ?_ _ | refine blk_drew ?_ | refine blk_alloc ?_ _)); exact eA.out) : p := h
theorem q10_6 {p : Prop} (h : p := by repeat (first | (with_reducible first | exact HB.out | apply below_alloc | apply pw_below_drewN | apply below_drew1 | refine below_set ?_ uD.out | refine below_set ?_ TD.out) | exact HB.out)) : p := h
theorem q10_7 {p : Prop} (h : p := by (try simp only [List.map_toArray, List.map_cons, List.map_nil]); first | done | rfl | (simp only [List.length_drop, List.length_take]; rfl)) : p := h
theorem q10_8 {p : Prop} (h : p := by (with_reducible repeat (first | refine blk_drewN ?_ _ | refine blk_drew ?_ | refine blk_alloc ?_ _)); exact dA.out) : p := h
theorem q10_9 {p : Prop} (h : p := by first | (with_reducible assumption) | assumption) : p := h
theorem q10_10 {p : Prop} (h : p := by kernel_rfl) : p := h
theorem q10_11 {p : Prop} (h : p := by first | rfl | (simp; done) | (simp [*]; done)) : p := h
theorem q10_12 {p : Prop} (h : p := by first | rfl | (simp [errW_none, errW_some] <;> rfl) | (simp [*, errW_none, errW_some] <;> rfl)) : p := h
theorem q10_13 {p : Prop} (h : p := by repeat (first | (with_reducible first | exact HB.out | apply below_alloc | apply pw_below_drewN | apply below_drew1 | refine below_set ?_ uD.out) | exact HB.out)) : p := h
theorem q10_14 {p : Prop} (h : p := by repeat (first | (with_reducible first | exact HB.out | apply below_alloc | apply pw_below_drewN | apply below_drew1) | exact HB.out)) : p := h
/-! ### impl_threadOk: function 63 -/
mutual
def impl_threadOk.j0 : Nat → Bool → Int → Int → List Int → List (S55) → Int → List (S75) → Int → List Int → List Int → Option (Bool)
 | 0, _, _, _, _, _, _, _, _, _, _ => none
 | k + 1, x35, yA, zA, AA, BA, uA, vA, wA, xA, tA => if x35 = true then (some false) else (impl_threadOk.l0 k vA (vA.length : Int) 0 yA zA AA BA uA vA wA xA tA)
def impl_threadOk.l0 : Nat → List (S75) → Int → Int → Int → Int → List Int → List (S55) → Int → List (S75) → Int → List Int → List Int → Option (Bool)
 | 0, _, _, _, _, _, _, _, _, _, _, _, _ => none
 | k + 1, x37, x38, x39, yA, zA, AA, BA, uA, vA, wA, xA, tA => if x39 < x38 then (if 0 ≤ x39 then (if x39 < (x37.length : Int) then (if (((rd_T75 x37 x39).f9) != (decide (x39 < wA))) = true then (impl_threadOk.j2 k x39 x37 x38 x39 true yA zA AA BA uA vA wA xA tA ((rd_T75 x37 x39).f0) ((rd_T75 x37 x39).f1) ((rd_T75 x37 x39).f2) ((rd_T75 x37 x39).f3) ((rd_T75 x37 x39).f4) ((rd_T75 x37 x39).f5) ((rd_T75 x37 x39).f6) ((rd_T75 x37 x39).f7) ((rd_T75 x37 x39).f8) ((rd_T75 x37 x39).f9)) else (if x39 > wA then ((impl_begins.f yA ((rd_T75 x37 x39).f0) ((rd_T75 x37 x39).f1) ((rd_T75 x37 x39).f2) ((rd_T75 x37 x39).f3) ((rd_T75 x37 x39).f4) ((rd_T75 x37 x39).f5) ((rd_T75 x37 x39).f6) ((rd_T75 x37 x39).f7) ((rd_T75 x37 x39).f8) ((rd_T75 x37 x39).f9)).bind fun kB => (impl_threadOk.j2 k x39 x37 x38 x39 (!(((rd_T75 x37 x39).f0) == kB.1) || (!(((rd_T75 x37 x39).f1) == kB.2.1) || (!(((rd_T75 x37 x39).f2) == kB.2.2.1) || (!(((rd_T75 x37 x39).f3) == kB.2.2.2.1) || (!(((rd_T75 x37 x39).f4) == kB.2.2.2.2.1) || (!(((rd_T75 x37 x39).f5) == kB.2.2.2.2.2.1) || (!(((rd_T75 x37 x39).f6) == kB.2.2.2.2.2.2.1) || (!(((rd_T75 x37 x39).f7) == kB.2.2.2.2.2.2.2.1) || (!(((rd_T75 x37 x39).f8) == kB.2.2.2.2.2.2.2.2.1) || (!(((rd_T75 x37 x39).f9) == kB.2.2.2.2.2.2.2.2.2))))))))))) yA zA AA BA uA vA wA xA tA ((rd_T75 x37 x39).f0) ((rd_T75 x37 x39).f1) ((rd_T75 x37 x39).f2) ((rd_T75 x37 x39).f3) ((rd_T75 x37 x39).f4) ((rd_T75 x37 x39).f5) ((rd_T75 x37 x39).f6) ((rd_T75 x37 x39).f7) ((rd_T75 x37 x39).f8) ((rd_T75 x37 x39).f9))) else (impl_threadOk.j2 k x39 x37 x38 x39 false yA zA AA BA uA vA wA xA tA ((rd_T75 x37 x39).f0) ((rd_T75 x37 x39).f1) ((rd_T75 x37 x39).f2) ((rd_T75 x37 x39).f3) ((rd_T75 x37 x39).f4) ((rd_T75 x37 x39).f5) ((rd_T75 x37 x39).f6) ((rd_T75 x37 x39).f7) ((rd_T75 x37 x39).f8) ((rd_T75 x37 x39).f9)))) else (none)) else (none)) else (some true)
def impl_threadOk.j2 : Nat → Int → List (S75) → Int → Int → Bool → Int → Int → List Int → List (S55) → Int → List (S75) → Int → List Int → List Int → Int → Int → Int → Int → Int → Int → Int → Int → Int → Bool → Option (Bool)
 | 0, _, _, _, _, _, _, _, _, _, _, _, _, _, _, _, _, _, _, _, _, _, _, _, _ => none
 | k + 1, x6, x37, x38, x39, x64, yA, zA, AA, BA, uA, vA, wA, xA, tA, ZA, aB, bB, WA, cB, dB, eB, fB, gB, UA => if x64 = true then (some false) else (if UA = true then (impl_threadOk.j3 k x6 (-1) (-1) x37 x38 x39 true yA zA AA BA uA vA wA xA tA ZA aB bB WA cB dB eB fB gB UA) else (impl_threadOk.j3 k x6 (-1) (-1) x37 x38 x39 (WA != 0) yA zA AA BA uA vA wA xA tA ZA aB bB WA cB dB eB fB gB UA))
def impl_threadOk.j3 : Nat → Int → Int → Int → List (S75) → Int → Int → Bool → Int → Int → List Int → List (S55) → Int → List (S75) → Int → List Int → List Int → Int → Int → Int → Int → Int → Int → Int → Int → Int → Bool → Option (Bool)
 | 0, _, _, _, _, _, _, _, _, _, _, _, _, _, _, _, _, _, _, _, _, _, _, _, _, _, _ => none
 | k + 1, x6, x8, x9, x37, x38, x39, x71, yA, zA, AA, BA, uA, vA, wA, xA, tA, ZA, aB, bB, WA, cB, dB, eB, fB, gB, UA => if x71 = true then (impl_threadOk.j4 k x6 0 x9 x37 x38 x39 yA zA AA BA uA vA wA xA tA ZA aB bB WA cB dB eB fB gB UA) else (impl_threadOk.j4 k x6 x8 x9 x37 x38 x39 yA zA AA BA uA vA wA xA tA ZA aB bB WA cB dB eB fB gB UA)
def impl_threadOk.j4 : Nat → Int → Int → Int → List (S75) → Int → Int → Int → Int → List Int → List (S55) → Int → List (S75) → Int → List Int → List Int → Int → Int → Int → Int → Int → Int → Int → Int → Int → Bool → Option (Bool)
 | 0, _, _, _, _, _, _, _, _, _, _, _, _, _, _, _, _, _, _, _, _, _, _, _, _, _ => none
 | k + 1, x6, x8, x9, x37, x38, x39, yA, zA, AA, BA, uA, vA, wA, xA, tA, ZA, aB, bB, WA, cB, dB, eB, fB, gB, UA => if 0 ≤ x6 then (if x6 < (xA.length : Int) then ((impl_within.f (rd xA x6) x8 (wrap64 (uA - 1))).bind fun KD => (if KD = true then (if UA = true then (if x6 < (tA.length : Int) then ((impl_within.f (rd tA x6) 0 (wrap64 (uA - 1))).bind fun WB => (if WB = true then (impl_threadOk.l0 k x37 x38 (wrap64 (x39 + 1)) yA zA AA BA uA vA wA xA tA) else (some false))) else (none)) else (if x6 < (tA.length : Int) then ((impl_within.f (rd tA x6) (-1) x9).bind fun XB => (if XB = true then (impl_threadOk.l0 k x37 x38 (wrap64 (x39 + 1)) yA zA AA BA uA vA wA xA tA) else (some false))) else (none))) else (some false))) else (none)) else (none)
end
def impl_threadOk.f (k : Nat) (rA : Int) (sA : Int) (pA : List Int) (qA : List (S55)) (mA : Int) (bA : List (S75)) (kA : Int) (iA : List Int) (hA : List Int) : Option (Bool) := if (bA.length : Int) > 12 then (impl_threadOk.j0 k true rA sA pA qA mA bA kA iA hA) else (if (iA.length : Int) = (bA.length : Int) then (if (hA.length : Int) = (bA.length : Int) then ((impl_within.f kA 0 (bA.length : Int)).bind fun ZB => (impl_threadOk.j0 k (!ZB) rA sA pA qA mA bA kA iA hA)) else (impl_threadOk.j0 k true rA sA pA qA mA bA kA iA hA)) else (impl_threadOk.j0 k true rA sA pA qA mA bA kA iA hA))
theorem impl_threadOk.mono_l : ∀ k, (∀ y0 y1 y2 y3 y4 y5 y6 y7 y8 y9, LeO (impl_threadOk.j0 k y0 y1 y2 y3 y4 y5 y6 y7 y8 y9) (impl_threadOk.j0 (k + 1) y0 y1 y2 y3 y4 y5 y6 y7 y8 y9)) ∧ (∀ y0 y1 y2 y3 y4 y5 y6 y7 y8 y9 y10 y11, LeO (impl_threadOk.l0 k y0 y1 y2 y3 y4 y5 y6 y7 y8 y9 y10 y11) (impl_threadOk.l0 (k + 1) y0 y1 y2 y3 y4 y5 y6 y7 y8 y9 y10 y11)) ∧ (∀ y0 y1 y2 y3 y4 y5 y6 y7 y8 y9 y10 y11 y12 y13 y14 y15 y16 y17 y18 y19 y20 y21 y22 y23, LeO (impl_threadOk.j2 k y0 y1 y2 y3 y4 y5 y6 y7 y8 y9 y10 y11 y12 y13 y14 y15 y16 y17 y18 y19 y20 y21 y22 y23) (impl_threadOk.j2 (k + 1) y0 y1 y2 y3 y4 y5 y6 y7 y8 y9 y10 y11 y12 y13 y14 y15 y16 y17 y18 y19 y20 y21 y22 y23)) ∧ (∀ y0 y1 y2 y3 y4 y5 y6 y7 y8 y9 y10 y11 y12 y13 y14 y15 y16 y17 y18 y19 y20 y21 y22 y23 y24 y25, LeO (impl_threadOk.j3 k y0 y1 y2 y3 y4 y5 y6 y7 y8 y9 y10 y11 y12 y13 y14 y15 y16 y17 y18 y19 y20 y21 y22 y23 y24 y25) (impl_threadOk.j3 (k + 1) y0 y1 y2 y3 y4 y5 y6 y7 y8 y9 y10 y11 y12 y13 y14 y15 y16 y17 y18 y19 y20 y21 y22 y23 y24 y25)) ∧ (∀ y0 y1 y2 y3 y4 y5 y6 y7 y8 y9 y10 y11 y12 y13 y14 y15 y16 y17 y18 y19 y20 y21 y22 y23 y24, LeO (impl_threadOk.j4 k y0 y1 y2 y3 y4 y5 y6 y7 y8 y9 y10 y11 y12 y13 y14 y15 y16 y17 y18 y19 y20 y21 y22 y23 y24) (impl_threadOk.j4 (k + 1) y0 y1 y2 y3 y4 y5 y6 y7 y8 y9 y10 y11 y12 y13 y14 y15 y16 y17 y18 y19 y20 y21 y22 y23 y24))
 | 0 => ⟨fun _ _ _ _ _ _ _ _ _ _ r h => by simp [impl_threadOk.j0] at h, fun _ _ _ _ _ _ _ _ _ _ _ _ r h => by simp [impl_threadOk.l0] at h, fun _ _ _ _ _ _ _ _ _ _ _ _ _ _ _ _ _ _ _ _ _ _ _ _ r h => by simp [impl_threadOk.j2] at h, fun _ _ _ _ _ _ _ _ _ _ _ _ _ _ _ _ _ _ _ _ _ _ _ _ _ _ r h => by simp [impl_threadOk.j3] at h, fun _ _ _ _ _ _ _ _ _ _ _ _ _ _ _ _ _ _ _ _ _ _ _ _ _ r h => by simp [impl_threadOk.j4] at h⟩
 | k + 1 => by
  obtain ⟨ih0, ih1, ih2, ih3, ih4⟩ := impl_threadOk.mono_l k
  refine ⟨?_, ?_, ?_, ?_, ?_⟩
  ·intro y0 y1 y2 y3 y4 y5 y6 y7 y8 y9
   unfold impl_threadOk.j0
   repeat' first
   | (with_reducible exact ih0 _ _ _ _ _ _ _ _ _ _)
   | (with_reducible exact ih1 _ _ _ _ _ _ _ _ _ _ _ _)
   | (with_reducible exact ih2 _ _ _ _ _ _ _ _ _ _ _ _ _ _ _ _ _ _ _ _ _ _ _ _)
   | (with_reducible exact ih3 _ _ _ _ _ _ _ _ _ _ _ _ _ _ _ _ _ _ _ _ _ _ _ _ _ _)
   | (with_reducible exact ih4 _ _ _ _ _ _ _ _ _ _ _ _ _ _ _ _ _ _ _ _ _ _ _ _ _)
   | (with_reducible exact LeO.refl _)
   | (with_reducible exact LeO.none _)
   | (with_reducible refine LeO.ite ?_ ?_)
   | (with_reducible refine LeO.bind ?_ (fun _ => ?_))
   | exact ih0 _ _ _ _ _ _ _ _ _ _
   | exact ih1 _ _ _ _ _ _ _ _ _ _ _ _
   | exact ih2 _ _ _ _ _ _ _ _ _ _ _ _ _ _ _ _ _ _ _ _ _ _ _ _
   | exact ih3 _ _ _ _ _ _ _ _ _ _ _ _ _ _ _ _ _ _ _ _ _ _ _ _ _ _
   | exact ih4 _ _ _ _ _ _ _ _ _ _ _ _ _ _ _ _ _ _ _ _ _ _ _ _ _
   | exact LeO.none _
   | refine LeO.ite ?_ ?_
   | refine LeO.bind ?_ (fun _ => ?_)
  ·intro y0 y1 y2 y3 y4 y5 y6 y7 y8 y9 y10 y11
   unfold impl_threadOk.l0
   repeat' first
   | (with_reducible exact ih0 _ _ _ _ _ _ _ _ _ _)
   | (with_reducible exact ih1 _ _ _ _ _ _ _ _ _ _ _ _)
   | (with_reducible exact ih2 _ _ _ _ _ _ _ _ _ _ _ _ _ _ _ _ _ _ _ _ _ _ _ _)
   | (with_reducible exact ih3 _ _ _ _ _ _ _ _ _ _ _ _ _ _ _ _ _ _ _ _ _ _ _ _ _ _)
   | (with_reducible exact ih4 _ _ _ _ _ _ _ _ _ _ _ _ _ _ _ _ _ _ _ _ _ _ _ _ _)
   | (with_reducible exact LeO.refl _)
   | (with_reducible exact LeO.none _)
   | (with_reducible refine LeO.ite ?_ ?_)
   | (with_reducible refine LeO.bind ?_ (fun _ => ?_))
   | exact ih0 _ _ _ _ _ _ _ _ _ _
   | exact ih1 _ _ _ _ _ _ _ _ _ _ _ _
   | exact ih2 _ _ _ _ _ _ _ _ _ _ _ _ _ _ _ _ _ _ _ _ _ _ _ _
   | exact ih3 _ _ _ _ _ _ _ _ _ _ _ _ _ _ _ _ _ _ _ _ _ _ _ _ _ _
   | exact ih4 _ _ _ _ _ _ _ _ _ _ _ _ _ _ _ _ _ _ _ _ _ _ _ _ _
   | exact LeO.none _
   | refine LeO.ite ?_ ?_
   | refine LeO.bind ?_ (fun _ => ?_)
  ·intro y0 y1 y2 y3 y4 y5 y6 y7 y8 y9 y10 y11 y12 y13 y14 y15 y16 y17 y18 y19 y20 y21 y22 y23
   unfold impl_threadOk.j2
   repeat' first
   | (with_reducible exact ih0 _ _ _ _ _ _ _ _ _ _)
   | (with_reducible exact ih1 _ _ _ _ _ _ _ _ _ _ _ _)
   | (with_reducible exact ih2 _ _ _ _ _ _ _ _ _ _ _ _ _ _ _ _ _ _ _ _ _ _ _ _)
   | (with_reducible exact ih3 _ _ _ _ _ _ _ _ _ _ _ _ _ _ _ _ _ _ _ _ _ _ _ _ _ _)
   | (with_reducible exact ih4 _ _ _ _ _ _ _ _ _ _ _ _ _ _ _ _ _ _ _ _ _ _ _ _ _)
   | (with_reducible exact LeO.refl _)
   | (with_reducible exact LeO.none _)
   | (with_reducible refine LeO.ite ?_ ?_)
   | (with_reducible refine LeO.bind ?_ (fun _ => ?_))
   | exact ih0 _ _ _ _ _ _ _ _ _ _
   | exact ih1 _ _ _ _ _ _ _ _ _ _ _ _
   | exact ih2 _ _ _ _ _ _ _ _ _ _ _ _ _ _ _ _ _ _ _ _ _ _ _ _
   | exact ih3 _ _ _ _ _ _ _ _ _ _ _ _ _ _ _ _ _ _ _ _ _ _ _ _ _ _
   | exact ih4 _ _ _ _ _ _ _ _ _ _ _ _ _ _ _ _ _ _ _ _ _ _ _ _ _
   | exact LeO.none _
   | refine LeO.ite ?_ ?_
   | refine LeO.bind ?_ (fun _ => ?_)
  ·intro y0 y1 y2 y3 y4 y5 y6 y7 y8 y9 y10 y11 y12 y13 y14 y15 y16 y17 y18 y19 y20 y21 y22 y23 y24 y25
   unfold impl_threadOk.j3
   repeat' first
   | (with_reducible exact ih0 _ _ _ _ _ _ _ _ _ _)
   | (with_reducible exact ih1 _ _ _ _ _ _ _ _ _ _ _ _)
   | (with_reducible exact ih2 _ _ _ _ _ _ _ _ _ _ _ _ _ _ _ _ _ _ _ _ _ _ _ _)
   | (with_reducible exact ih3 _ _ _ _ _ _ _ _ _ _ _ _ _ _ _ _ _ _ _ _ _ _ _ _ _ _)
   | (with_reducible exact ih4 _ _ _ _ _ _ _ _ _ _ _ _ _ _ _ _ _ _ _ _ _ _ _ _ _)
   | (with_reducible exact LeO.refl _)
   | (with_reducible exact LeO.none _)
   | (with_reducible refine LeO.ite ?_ ?_)
   | (with_reducible refine LeO.bind ?_ (fun _ => ?_))
   | exact ih0 _ _ _ _ _ _ _ _ _ _
   | exact ih1 _ _ _ _ _ _ _ _ _ _ _ _
   | exact ih2 _ _ _ _ _ _ _ _ _ _ _ _ _ _ _ _ _ _ _ _ _ _ _ _
   | exact ih3 _ _ _ _ _ _ _ _ _ _ _ _ _ _ _ _ _ _ _ _ _ _ _ _ _ _
   | exact ih4 _ _ _ _ _ _ _ _ _ _ _ _ _ _ _ _ _ _ _ _ _ _ _ _ _
   | exact LeO.none _
   | refine LeO.ite ?_ ?_
   | refine LeO.bind ?_ (fun _ => ?_)
  ·intro y0 y1 y2 y3 y4 y5 y6 y7 y8 y9 y10 y11 y12 y13 y14 y15 y16 y17 y18 y19 y20 y21 y22 y23 y24
   unfold impl_threadOk.j4
   repeat' first
   | (with_reducible exact ih0 _ _ _ _ _ _ _ _ _ _)
   | (with_reducible exact ih1 _ _ _ _ _ _ _ _ _ _ _ _)
   | (with_reducible exact ih2 _ _ _ _ _ _ _ _ _ _ _ _ _ _ _ _ _ _ _ _ _ _ _ _)
   | (with_reducible exact ih3 _ _ _ _ _ _ _ _ _ _ _ _ _ _ _ _ _ _ _ _ _ _ _ _ _ _)
   | (with_reducible exact ih4 _ _ _ _ _ _ _ _ _ _ _ _ _ _ _ _ _ _ _ _ _ _ _ _ _)
   | (with_reducible exact LeO.refl _)
   | (with_reducible exact LeO.none _)
   | (with_reducible refine LeO.ite ?_ ?_)
   | (with_reducible refine LeO.bind ?_ (fun _ => ?_))
   | exact ih0 _ _ _ _ _ _ _ _ _ _
   | exact ih1 _ _ _ _ _ _ _ _ _ _ _ _
   | exact ih2 _ _ _ _ _ _ _ _ _ _ _ _ _ _ _ _ _ _ _ _ _ _ _ _
   | exact ih3 _ _ _ _ _ _ _ _ _ _ _ _ _ _ _ _ _ _ _ _ _ _ _ _ _ _
   | exact ih4 _ _ _ _ _ _ _ _ _ _ _ _ _ _ _ _ _ _ _ _ _ _ _ _ _
   | exact LeO.none _
   | refine LeO.ite ?_ ?_
   | refine LeO.bind ?_ (fun _ => ?_)
theorem impl_threadOk.mono : ∀ a0 a1 a2 a3 a4 a5 a6 a7 a8 k, LeO (impl_threadOk.f k a0 a1 a2 a3 a4 a5 a6 a7 a8) (impl_threadOk.f (k + 1) a0 a1 a2 a3 a4 a5 a6 a7 a8) := by
 intro a0 a1 a2 a3 a4 a5 a6 a7 a8 k
 obtain ⟨ih0, ih1, ih2, ih3, ih4⟩ := impl_threadOk.mono_l k
 unfold impl_threadOk.f
 repeat' first
   | (with_reducible exact ih0 _ _ _ _ _ _ _ _ _ _)
   | (with_reducible exact ih1 _ _ _ _ _ _ _ _ _ _ _ _)
   | (with_reducible exact ih2 _ _ _ _ _ _ _ _ _ _ _ _ _ _ _ _ _ _ _ _ _ _ _ _)
   | (with_reducible exact ih3 _ _ _ _ _ _ _ _ _ _ _ _ _ _ _ _ _ _ _ _ _ _ _ _ _ _)
   | (with_reducible exact ih4 _ _ _ _ _ _ _ _ _ _ _ _ _ _ _ _ _ _ _ _ _ _ _ _ _)
   | (with_reducible exact LeO.refl _)
   | (with_reducible exact LeO.none _)
   | (with_reducible refine LeO.ite ?_ ?_)
   | (with_reducible refine LeO.bind ?_ (fun _ => ?_))
   | exact ih0 _ _ _ _ _ _ _ _ _ _
   | exact ih1 _ _ _ _ _ _ _ _ _ _ _ _
   | exact ih2 _ _ _ _ _ _ _ _ _ _ _ _ _ _ _ _ _ _ _ _ _ _ _ _
   | exact ih3 _ _ _ _ _ _ _ _ _ _ _ _ _ _ _ _ _ _ _ _ _ _ _ _ _ _
   | exact ih4 _ _ _ _ _ _ _ _ _ _ _ _ _ _ _ _ _ _ _ _ _ _ _ _ _
   | exact LeO.none _
   | refine LeO.ite ?_ ?_
   | refine LeO.bind ?_ (fun _ => ?_)
def impl_threadOk.T7 : Bool × List (List Nat × List Nat) := (true, [([], []), ([0], [0]), ([], []), ([], []), ([3], [3]), ([2, 4], [2, 4]), ([1, 5], [1, 5]), ([6], [6]), ([7], [7]), ([7], [7]), ([9, 7], [7, 9]), ([8, 10, 7], [7, 8, 10]), ([11, 7, 7], [7, 11]), ([12], [12]), ([12], [12]), ([14, 12], [12, 14]), ([12], [12]), ([15, 16, 12, 12], [12, 15, 16]), ([13, 17, 12], [12, 13, 17]), ([12, 18, 7], [7, 12, 18]), ([7, 19], [7, 19])])
def impl_threadOk.B7 : List Nat := [0, 1, 0, 0, 8, 28, 63, 127, 255, 255, 767, 2047, 4095, 8191, 8191, 24575, 8191, 122879, 262143, 524287, 1048575]
theorem impl_threadOk.tab7 : rtab .any (opsOf Try.f63 7) = impl_threadOk.T7 := by kernel_rfl
theorem impl_threadOk.bits7 : waitsOk impl_threadOk.T7.2 impl_threadOk.B7 = true := by kernel_rfl
def impl_threadOk.T12 : Bool × List (List Nat × List Nat) := (true, [([], []), ([0], [0]), ([], []), ([1, 2], [1, 2]), ([3], [3]), ([], []), ([], []), ([6], [6]), ([7], [7]), ([4, 5, 8], [4, 5, 8]), ([9], [9])])
def impl_threadOk.B12 : List Nat := [0, 1, 0, 7, 15, 0, 0, 64, 192, 511, 1023]
theorem impl_threadOk.tab12 : rtab .any (opsOf Try.f63 12) = impl_threadOk.T12 := by kernel_rfl
theorem impl_threadOk.bits12 : waitsOk impl_threadOk.T12.2 impl_threadOk.B12 = true := by kernel_rfl
set_option maxHeartbeats 8000000 in
set_option maxRecDepth 100000 in
theorem impl_threadOk.calls (k : Nat) (rA : Int) (sA : Int) (NA : Option Addr) (OA : Nat) (pA : List Int) (PA : Option Addr) (QA : Nat) (qA : List (S55)) (mA : Int) (oB : Option Addr) (CA : Nat) (bA : List (S75)) (kA : Int) (TA : Option Addr) (DA : Nat) (iA : List Int) (EA : Option Addr) (FA : Nat) (hA : List Int) (r : Bool) (w : World) (oE : Kd.C (Kd.int .i64) w NA pA.length pA) (pE : pA.length ≤ OA) (qE : Kd.C k55 w PA qA.length qA) (rE : qA.length ≤ QA) (UD : Kd.C k75 w oB bA.length bA) (sE : bA.length ≤ CA) (VD : Kd.C (Kd.int .i64) w TA iA.length iA) (tE : iA.length ≤ DA) (WD : Kd.C (Kd.int .i64) w EA hA.length hA) (uE : hA.length ≤ FA) (h : impl_threadOk.f k rA sA pA qA mA bA kA iA hA = some r) :
  Calls Try.prog 63 #[.agg #[.int .i64 rA, .int .i64 sA, .slice NA pA.length OA, .slice PA qA.length QA, .int .i64 mA], .agg #[.slice oB bA.length CA, .int .i64 kA, .slice TA iA.length DA, .slice EA hA.length FA]] w fun e w' => e = .returned (.bool r) ∧ Below w.heap.size w w' := by
 have hu29 := Try.underlying29
 have hu55 := Try.underlying55
 have hu75 := Try.underlying75
 clear oE pE
 clear qE rE
 have vE := Aside0.mk UD
 clear UD sE
 have YB := Aside0.mk VD
 clear VD tE
 have bC := Aside0.mk WD
 clear WD uE
 have HB := Aside0.mk (Below.refl w.heap.size w)
 have H : (if (bA.length : Int) > 12 then (impl_threadOk.j0 k true rA sA pA qA mA bA kA iA hA) else (if (iA.length : Int) = (bA.length : Int) then (if (hA.length : Int) = (bA.length : Int) then ((impl_within.f kA 0 (bA.length : Int)).bind fun ZB => (impl_threadOk.j0 k (!ZB) rA sA pA qA mA bA kA iA hA)) else (impl_threadOk.j0 k true rA sA pA qA mA bA kA iA hA)) else (impl_threadOk.j0 k true rA sA pA qA mA bA kA iA hA))) = some r := h
 clear h
 have HC3 := Aside0.mk H
 clear H
 go_enter Try.func63, Try.ntmps63
 go_upto_region 2 with (first | ((with_reducible refine gate_dst (N := 2) rfl ?_); (try (refine gate_guard (by rfl) ?_; dsimp only)); refine box_event ?hg (N := 2) ?hd (cs := #[.int .i64 rA, .int .i64 sA, .slice NA pA.length OA, .slice PA qA.length QA, .int .i64 mA]) (t := 29) ?hr ?_; (case hd => rfl); (case hg => rfl); (case hr => first | (go_simp; done) | (go_simp; rfl)); intro jA hg w4 hbox hb; have JA := Aside0.mk (below_step q10_14 hb); have KA := Aside0.mk (hbox); have LA := Aside0.mk ((by rw [hg]; exact (below_size q10_14) : w.heap.size ≤ jA)); have MA := Aside0.mk ((by rw [hg]; exact (below_size q10_14) : w.heap.size ≤ jA)); clear HB; have HB := JA; have fA := KA; have RG := LA; have uD := MA; clear JA KA LA MA; clear hb hbox hg) | ((with_reducible refine gate_dst (N := 3) rfl ?_); (try (refine gate_guard (by rfl) ?_; dsimp only)); refine box_event ?hg (N := 3) ?hd (cs := #[.slice oB bA.length CA, .int .i64 kA, .slice TA iA.length DA, .slice EA hA.length FA]) (t := 55) ?hr ?_; (case hd => rfl); (case hg => rfl); (case hr => first | (go_simp; done) | (go_simp; rfl)); intro gA hg w5 hbox hb; have JA := Aside0.mk (blk_below (g := jA) (o := .cells #[.int .i64 rA, .int .i64 sA, .slice NA pA.length OA, .slice PA qA.length QA, .int .i64 mA] 29 (0, 0)) q10_4 hb); have KA := Aside0.mk (below_step q10_13 hb); have LA := Aside0.mk (hbox); have MA := Aside0.mk ((by rw [hg]; exact (below_size q10_13) : w.heap.size ≤ gA)); have wE := Aside0.mk ((by rw [hg]; exact (below_size q10_13) : w.heap.size ≤ gA)); have xE := Aside0.mk ((by rw [hg]; exact Nat.ne_of_lt (blk_lt (g := jA) (o := .cells #[.int .i64 rA, .int .i64 sA, .slice NA pA.length OA, .slice PA qA.length QA, .int .i64 mA] 29 (0, 0)) q10_4) : jA ≠ gA)); have yE := Aside0.mk ((by rw [hg]; exact Nat.ne_of_gt (blk_lt (g := jA) (o := .cells #[.int .i64 rA, .int .i64 sA, .slice NA pA.length OA, .slice PA qA.length QA, .int .i64 mA] 29 (0, 0)) q10_4) : gA ≠ jA)); clear fA; clear HB; have fA := JA; have HB := KA; have eA := LA; have SG := MA; have TD := wE; have GA := xE; have IA := yE; clear JA KA LA MA wE xE yE; clear hb hbox hg; have WH := IA.out; have XH := GA.out; have vD : w5.cell? ⟨gA, 0, none⟩ = some (.slice oB bA.length CA) := (blk_cell eA.out 0).trans rfl; have wD : w5.cell? ⟨gA, 1, none⟩ = some (.int .i64 kA) := (blk_cell eA.out 1).trans rfl; have xD : w5.cell? ⟨gA, 2, none⟩ = some (.slice TA iA.length DA) := (blk_cell eA.out 2).trans rfl; have yD : w5.cell? ⟨gA, 3, none⟩ = some (.slice EA hA.length FA) := (blk_cell eA.out 3).trans rfl; have zD := blk_frozen eA.out 0; have AD := blk_frozen eA.out 1; have BD := blk_frozen eA.out 2; have CD := blk_frozen eA.out 3))
 (try simp only [Act.put, List.setIfInBounds_toArray, List.set_cons_zero, List.set_cons_succ])
 go_cut [35] (fun v35 wc => ∃ (kq : Nat) (cC : Bool), v35 = .bool cC ∧ Aside0 (impl_threadOk.j0 kq cC rA sA pA qA mA bA kA iA hA = some r) ∧ Aside0 (kq ≤ k) ∧ Aside0 (wc.heap[jA]? = some (.cells #[.int .i64 rA, .int .i64 sA, (.slice NA pA.length OA), (.slice PA qA.length QA), .int .i64 mA] 29 (0, 0))) ∧ Aside0 (wc.heap[gA]? = some (.cells #[(.slice oB bA.length CA), .int .i64 kA, (.slice TA iA.length DA), (.slice EA hA.length FA)] 55 (0, 0))) ∧ Aside0 (Below w.heap.size w wc))
 case first =>
  have H := HC3.out
  clear HC3
  by_cases c8 : (bA.length : Int) > 12
  ·rw [if_pos c8] at H
   have aC : decide (12 < (bA.length : Int)) = true := decide_eq_true c8
   have XD : decide (12 < bA.length) = true := decide_eq_true (by omega)
   clear c8
   (first | rw [aC] | (simp only [i64_w, i32_w]; rw [aC]) | skip)
   have H' := Aside0.mk H
   clear H
   go_wp2
   go_meet
   case rel => exact ⟨_, (true), q10_11, H', ⟨by first | omega | exact Nat.le_refl _⟩, ⟨q10_4⟩, ⟨q10_5⟩, ⟨q10_6⟩⟩
  ·rw [if_neg c8] at H
   have aC : decide (12 < (bA.length : Int)) = false := decide_eq_false c8
   have XD : decide (12 < bA.length) = false := decide_eq_false (by omega)
   clear c8
   (first | rw [aC] | (simp only [i64_w, i32_w]; rw [aC]) | skip)
   by_cases c9 : (iA.length : Int) = (bA.length : Int)
   ·rw [if_pos c9] at H
    have YD : ((iA.length : Int) == (bA.length : Int)) = true := beq_iff_eq.mpr c9
    have ZD : ((iA.length : Int) != (bA.length : Int)) = false := bne_eq_false_iff_eq.mpr c9
    have aE : (iA.length == bA.length) = true := by first | simpa using c9 | (simp at c9 ⊢; omega)
    clear c9
    by_cases c10 : (hA.length : Int) = (bA.length : Int)
    ·rw [if_pos c10] at H
     have DD : ((hA.length : Int) == (bA.length : Int)) = true := beq_iff_eq.mpr c10
     have ED : ((hA.length : Int) != (bA.length : Int)) = false := bne_eq_false_iff_eq.mpr c10
     have FD : (hA.length == bA.length) = true := by first | simpa using c10 | (simp at c10 ⊢; omega)
     clear c10
     replace H := Option.bind_eq_some_iff.mp H
     obtain ⟨ZB, A110, H⟩ := H
     replace H : (impl_threadOk.j0 k (!ZB) rA sA pA qA mA bA kA iA hA) = some r := H
     have A11 := Aside0.mk A110
     clear A110
     have H' := Aside0.mk H
     clear H
     have TG := IA.out
     have UG := GA.out
     have dC : w5.cell? ⟨gA, 0, none⟩ = some (.slice oB bA.length CA) := (blk_cell eA.out 0).trans rfl
     have eC : w5.cell? ⟨gA, 1, none⟩ = some (.int .i64 kA) := (blk_cell eA.out 1).trans rfl
     have fC : w5.cell? ⟨gA, 2, none⟩ = some (.slice TA iA.length DA) := (blk_cell eA.out 2).trans rfl
     have gC : w5.cell? ⟨gA, 3, none⟩ = some (.slice EA hA.length FA) := (blk_cell eA.out 3).trans rfl
     have hC := blk_frozen eA.out 0
     have iC := blk_frozen eA.out 1
     have jC := blk_frozen eA.out 2
     have kC := blk_frozen eA.out 3
     go_wp2_with (first | (go_at_call 90; (with_reducible refine (impl_within.calls kA 0 (bA.length : Int) ZB _ A11.out).mono ?_); rintro e w' ⟨rfl, ⟨nd, rfl⟩⟩))
     go_meet
     case rel => exact ⟨_, (!ZB), q10_11, H', ⟨by first | omega | exact Nat.le_refl _⟩, ⟨q10_4⟩, ⟨q10_5⟩, ⟨q10_6⟩⟩
    ·rw [if_neg c10] at H
     have DD : ((hA.length : Int) == (bA.length : Int)) = false := beq_eq_false_iff_ne.mpr c10
     have ED : ((hA.length : Int) != (bA.length : Int)) = true := bne_iff_ne.mpr c10
     have FD : (hA.length == bA.length) = false := by first | simpa using c10 | (simp at c10 ⊢; omega)
     have H' := Aside0.mk H
     clear H
     have VG := IA.out
     have WG := GA.out
     have lC : w5.cell? ⟨gA, 0, none⟩ = some (.slice oB bA.length CA) := (blk_cell eA.out 0).trans rfl
     have mC : w5.cell? ⟨gA, 1, none⟩ = some (.int .i64 kA) := (blk_cell eA.out 1).trans rfl
     have nC : w5.cell? ⟨gA, 2, none⟩ = some (.slice TA iA.length DA) := (blk_cell eA.out 2).trans rfl
     have oC : w5.cell? ⟨gA, 3, none⟩ = some (.slice EA hA.length FA) := (blk_cell eA.out 3).trans rfl
     have pC := blk_frozen eA.out 0
     have qC := blk_frozen eA.out 1
     have rC := blk_frozen eA.out 2
     have sC := blk_frozen eA.out 3
     go_wp2
     go_meet
     case rel => exact ⟨_, (true), q10_11, H', ⟨by first | omega | exact Nat.le_refl _⟩, ⟨q10_4⟩, ⟨q10_5⟩, ⟨q10_6⟩⟩
   ·rw [if_neg c9] at H
    have YD : ((iA.length : Int) == (bA.length : Int)) = false := beq_eq_false_iff_ne.mpr c9
    have ZD : ((iA.length : Int) != (bA.length : Int)) = true := bne_iff_ne.mpr c9
    have aE : (iA.length == bA.length) = false := by first | simpa using c9 | (simp at c9 ⊢; omega)
    have H' := Aside0.mk H
    clear H
    have XG := IA.out
    have YG := GA.out
    have tC : w5.cell? ⟨gA, 0, none⟩ = some (.slice oB bA.length CA) := (blk_cell eA.out 0).trans rfl
    have uC : w5.cell? ⟨gA, 1, none⟩ = some (.int .i64 kA) := (blk_cell eA.out 1).trans rfl
    have vC : w5.cell? ⟨gA, 2, none⟩ = some (.slice TA iA.length DA) := (blk_cell eA.out 2).trans rfl
    have wC : w5.cell? ⟨gA, 3, none⟩ = some (.slice EA hA.length FA) := (blk_cell eA.out 3).trans rfl
    have xC := blk_frozen eA.out 0
    have yC := blk_frozen eA.out 1
    have zC := blk_frozen eA.out 2
    have AC := blk_frozen eA.out 3
    go_wp2
    go_meet
    case rel => exact ⟨_, (true), q10_11, H', ⟨by first | omega | exact Nat.le_refl _⟩, ⟨q10_4⟩, ⟨q10_5⟩, ⟨q10_6⟩⟩
 case rest =>
  clear HC3
  (try clear c1); (try clear p2); (try clear c6); (try clear c8); (try clear aC); (try clear XD); (try clear c9); (try clear YD); (try clear ZD); (try clear aE); (try clear c10); (try clear DD); (try clear ED); (try clear FD); (try clear c12); (try clear c14); (try clear c16); (try clear dC); (try clear eC); (try clear fC); (try clear gC); (try clear lC); (try clear mC); (try clear nC); (try clear oC); (try clear tC); (try clear uC); (try clear vC); (try clear wC); (try clear vD); (try clear wD); (try clear xD); (try clear yD); (try clear hC); (try clear iC); (try clear jC); (try clear kC); (try clear pC); (try clear qC); (try clear rC); (try clear sC); (try clear xC); (try clear yC); (try clear zC); (try clear AC); (try clear zD); (try clear AD); (try clear BD); (try clear CD)
  obtain ⟨kq, cC, rfl, HA, HJ2, fA, eA, HB⟩ := hcut
  cases kq with
  | zero => exact absurd HA.out (by simp [impl_threadOk.j0])
  | succ kj2 =>
   have H := HA.out
   clear HA
   simp only [impl_threadOk.j0] at H
   by_cases c18 : cC = true
   ·subst c18
    have H1 : (some false) = some r := by rw [if_pos rfl] at H; exact H
    clear H
    have H := H1
    clear H1
    obtain rfl := Option.some.inj H
    go_wp2
    go_ret
    exact ⟨q10_12, q10_6⟩
   ·replace c18 := Bool.eq_false_iff.mpr c18
    subst c18
    have H1 : (impl_threadOk.l0 kj2 bA (bA.length : Int) 0 rA sA pA qA mA bA kA iA hA) = some r := by rw [if_neg (show ¬ (false = true) by decide)] at H; exact H
    clear H
    have H := H1
    clear H1
    have H' := Aside0.mk H
    clear H
    have ZG := IA.out
    have aH := GA.out
    have LD : wc.cell? ⟨gA, 0, none⟩ = some (.slice oB bA.length CA) := (blk_cell eA.out 0).trans rfl
    have MD : wc.cell? ⟨gA, 1, none⟩ = some (.int .i64 kA) := (blk_cell eA.out 1).trans rfl
    have ND : wc.cell? ⟨gA, 2, none⟩ = some (.slice TA iA.length DA) := (blk_cell eA.out 2).trans rfl
    have OD : wc.cell? ⟨gA, 3, none⟩ = some (.slice EA hA.length FA) := (blk_cell eA.out 3).trans rfl
    have PD := blk_frozen eA.out 0
    have QD := blk_frozen eA.out 1
    have RD := blk_frozen eA.out 2
    have SD := blk_frozen eA.out 3
    go_wp2
    go_loopg [39] kj2 (fun kq v39 w' => ∃ (aA : Int), v39 = .int .i64 aA ∧ Aside0 (impl_threadOk.l0 kq bA (bA.length : Int) aA rA sA pA qA mA bA kA iA hA = some r) ∧ Aside0 (kq ≤ kj2) ∧ Aside0 (w'.heap[jA]? = some (.cells #[.int .i64 rA, .int .i64 sA, (.slice NA pA.length OA), (.slice PA qA.length QA), .int .i64 mA] 29 (0, 0))) ∧ Aside0 (w'.heap[gA]? = some (.cells #[(.slice oB bA.length CA), .int .i64 kA, (.slice TA iA.length DA), (.slice EA hA.length FA)] 55 (0, 0))) ∧ Aside0 (Below w.heap.size w w'))
    case atStart => exact ⟨(0), q10_11, H', ⟨Nat.le_refl _⟩, ⟨q10_4⟩, ⟨q10_5⟩, ⟨q10_6⟩⟩
    case round =>
     clear H'
     (try clear c1); (try clear p2); (try clear c6); (try clear c8); (try clear aC); (try clear XD); (try clear c9); (try clear YD); (try clear ZD); (try clear aE); (try clear c10); (try clear DD); (try clear ED); (try clear FD); (try clear c12); (try clear c14); (try clear c16); (try clear c18); (try clear c19); (try clear dC); (try clear eC); (try clear fC); (try clear gC); (try clear lC); (try clear mC); (try clear nC); (try clear oC); (try clear tC); (try clear uC); (try clear vC); (try clear wC); (try clear LD); (try clear MD); (try clear ND); (try clear OD); (try clear vD); (try clear wD); (try clear xD); (try clear yD); (try clear hC); (try clear iC); (try clear jC); (try clear kC); (try clear pC); (try clear qC); (try clear rC); (try clear sC); (try clear xC); (try clear yC); (try clear zC); (try clear AC); (try clear PD); (try clear QD); (try clear RD); (try clear SD); (try clear zD); (try clear AD); (try clear BD); (try clear CD); (try clear p2)
     obtain ⟨aA, rfl, HA, HK2, fA, eA, HB⟩ := hrel
     cases gk with
     | zero => exact absurd HA.out (by simp [impl_threadOk.l0])
     | succ k2 =>
      have H := HA.out
      clear HA
      simp only [impl_threadOk.l0] at H
      by_cases c21 : aA < (bA.length : Int)
      ·rw [if_pos c21] at H
       have zE : decide (aA < (bA.length : Int)) = true := decide_eq_true c21
       clear c21
       by_cases c22 : 0 ≤ aA
       ·rw [if_pos c22] at H
        have bH : decide (0 ≤ aA) = true := decide_eq_true c22
        clear c22
        by_cases c23 : aA < (bA.length : Int)
        ·rw [if_pos c23] at H
         have cH : decide (aA < (bA.length : Int)) = true := decide_eq_true c23
         clear c23
         have HC24 := Aside0.mk H
         clear H
         have p338 : 0 ≤ (aA : Int) := of_decide_eq_true q10_9
         have q338 : aA < (bA.length : Int) := of_decide_eq_true q10_9
         obtain ⟨ad338, QG, pB, qB, rB, sB, tB, uB, vB, hB, iB, jB⟩ := at_T75 vE.out aA p338 q338
         cases QG
         replace pB := (HB.out.cell (World.block_lt_of_cell? w _ pB)).trans pB
         replace qB := (HB.out.cell (World.block_lt_of_cell? w _ qB)).trans qB
         replace rB := (HB.out.cell (World.block_lt_of_cell? w _ rB)).trans rB
         replace sB := (HB.out.cell (World.block_lt_of_cell? w _ sB)).trans sB
         replace tB := (HB.out.cell (World.block_lt_of_cell? w _ tB)).trans tB
         replace uB := (HB.out.cell (World.block_lt_of_cell? w _ uB)).trans uB
         replace vB := (HB.out.cell (World.block_lt_of_cell? w _ vB)).trans vB
         replace hB := (HB.out.cell (World.block_lt_of_cell? w _ hB)).trans hB
         replace iB := (HB.out.cell (World.block_lt_of_cell? w _ iB)).trans iB
         replace jB := (HB.out.cell (World.block_lt_of_cell? w _ jB)).trans jB
         replace p338 := eq_true p338
         replace q338 := eq_true q338
         go_upto_region 7 with (first | ((with_reducible refine gate_dst (N := 7) rfl ?_); (try (refine gate_guard (by rfl) ?_; dsimp only)); refine box_event ?hg (N := 7) ?hd (cs := #[.int .i64 0, .int .i64 0, .int .i64 0, .int .i64 0, .int .i64 0, .int .i64 0, .int .i64 0, .int .i64 0, .int .i64 0, .bool false]) (t := 75) ?hr ?_; (case hd => rfl); (case hg => rfl); (case hr => first | (go_simp; done) | (go_simp; rfl)); intro cA hg mB hbox hb; have JA := Aside0.mk (blk_below (g := jA) (o := .cells #[.int .i64 rA, .int .i64 sA, .slice NA pA.length OA, .slice PA qA.length QA, .int .i64 mA] 29 (0, 0)) q10_4 hb); have KA := Aside0.mk (blk_below (g := gA) (o := .cells #[.slice (some ad338) bA.length CA, .int .i64 kA, .slice TA iA.length DA, .slice EA hA.length FA] 55 (0, 0)) q10_5 hb); have LA := Aside0.mk (below_step q10_6 hb); have MA := Aside0.mk (hbox); have wE := Aside0.mk ((by rw [hg]; exact (below_size q10_6) : w.heap.size ≤ cA)); have xE := Aside0.mk ((by rw [hg]; exact (below_size q10_6) : w.heap.size ≤ cA)); have yE := Aside0.mk ((by rw [hg]; exact Nat.ne_of_lt (blk_lt (g := jA) (o := .cells #[.int .i64 rA, .int .i64 sA, .slice NA pA.length OA, .slice PA qA.length QA, .int .i64 mA] 29 (0, 0)) q10_4) : jA ≠ cA)); have dH := Aside0.mk ((by rw [hg]; exact Nat.ne_of_gt (blk_lt (g := jA) (o := .cells #[.int .i64 rA, .int .i64 sA, .slice NA pA.length OA, .slice PA qA.length QA, .int .i64 mA] 29 (0, 0)) q10_4) : cA ≠ jA)); have eH := Aside0.mk ((by rw [hg]; exact Nat.ne_of_lt (blk_lt (g := gA) (o := .cells #[.slice (some ad338) bA.length CA, .int .i64 kA, .slice TA iA.length DA, .slice EA hA.length FA] 55 (0, 0)) q10_5) : gA ≠ cA)); have fH := Aside0.mk ((by rw [hg]; exact Nat.ne_of_gt (blk_lt (g := gA) (o := .cells #[.slice (some ad338) bA.length CA, .int .i64 kA, .slice TA iA.length DA, .slice EA hA.length FA] 55 (0, 0)) q10_5) : cA ≠ gA)); clear fA; clear eA; clear HB; have fA := JA; have eA := KA; have HB := LA; have dA := MA; have gH := wE; have nE := xE; have nA := yE; have RA := dH; have oA := eH; have SA := fH; clear JA KA LA MA wE xE yE dH eH fH; clear hb hbox hg; have hH := RA.out; have iH := nA.out; have jH := SA.out; have kH := oA.out; have wB : mB.cell? ⟨cA, 0, none⟩ = some (.int .i64 0) := (blk_cell dA.out 0).trans rfl; have xB : mB.cell? ⟨cA, 1, none⟩ = some (.int .i64 0) := (blk_cell dA.out 1).trans rfl; have yB : mB.cell? ⟨cA, 2, none⟩ = some (.int .i64 0) := (blk_cell dA.out 2).trans rfl; have zB : mB.cell? ⟨cA, 3, none⟩ = some (.int .i64 0) := (blk_cell dA.out 3).trans rfl; have AB : mB.cell? ⟨cA, 4, none⟩ = some (.int .i64 0) := (blk_cell dA.out 4).trans rfl; have BB : mB.cell? ⟨cA, 5, none⟩ = some (.int .i64 0) := (blk_cell dA.out 5).trans rfl; have CB : mB.cell? ⟨cA, 6, none⟩ = some (.int .i64 0) := (blk_cell dA.out 6).trans rfl; have DB : mB.cell? ⟨cA, 7, none⟩ = some (.int .i64 0) := (blk_cell dA.out 7).trans rfl; have EB : mB.cell? ⟨cA, 8, none⟩ = some (.int .i64 0) := (blk_cell dA.out 8).trans rfl; have FB : mB.cell? ⟨cA, 9, none⟩ = some (.bool false) := (blk_cell dA.out 9).trans rfl; have GB := blk_frozen dA.out 0; have IB := blk_frozen dA.out 1; have JB := blk_frozen dA.out 2; have KB := blk_frozen dA.out 3; have LB := blk_frozen dA.out 4; have MB := blk_frozen dA.out 5; have NB := blk_frozen dA.out 6; have OB := blk_frozen dA.out 7; have PB := blk_frozen dA.out 8; have QB := blk_frozen dA.out 9))
         (try simp only [Act.put, List.setIfInBounds_toArray, List.set_cons_zero, List.set_cons_succ])
         go_cut [64] (fun v64 wc => ∃ (kq : Nat) (RB : Bool), v64 = .bool RB ∧ Aside0 (impl_threadOk.j2 kq aA bA (bA.length : Int) aA RB rA sA pA qA mA bA kA iA hA ((rd_T75 bA aA).f0) ((rd_T75 bA aA).f1) ((rd_T75 bA aA).f2) ((rd_T75 bA aA).f3) ((rd_T75 bA aA).f4) ((rd_T75 bA aA).f5) ((rd_T75 bA aA).f6) ((rd_T75 bA aA).f7) ((rd_T75 bA aA).f8) ((rd_T75 bA aA).f9) = some r) ∧ Aside0 (kq ≤ k2) ∧ Aside0 (wc.heap[jA]? = some (.cells #[.int .i64 rA, .int .i64 sA, (.slice NA pA.length OA), (.slice PA qA.length QA), .int .i64 mA] 29 (0, 0))) ∧ Aside0 (wc.heap[gA]? = some (.cells #[(.slice (some ad338) bA.length CA), .int .i64 kA, (.slice TA iA.length DA), (.slice EA hA.length FA)] 55 (0, 0))) ∧ Aside0 (wc.heap[cA]? = some (.cells #[.int .i64 ((rd_T75 bA aA).f0), .int .i64 ((rd_T75 bA aA).f1), .int .i64 ((rd_T75 bA aA).f2), .int .i64 ((rd_T75 bA aA).f3), .int .i64 ((rd_T75 bA aA).f4), .int .i64 ((rd_T75 bA aA).f5), .int .i64 ((rd_T75 bA aA).f6), .int .i64 ((rd_T75 bA aA).f7), .int .i64 ((rd_T75 bA aA).f8), .bool ((rd_T75 bA aA).f9)] 75 (0, 0))) ∧ Aside0 (Below w.heap.size w wc))
         case first =>
          have H := HC24.out
          clear HC24
          by_cases c29 : (((rd_T75 bA aA).f9) != (decide (aA < kA))) = true
          ·rw [if_pos c29] at H
           have lB : (((rd_T75 bA aA).f9) != (decide (aA < kA))) = true := c29
           (try (have BC : decide (((rd_T75 bA aA).f9) = (decide (aA < kA))) = false := by simpa using c29))
           (try (have CC : (((rd_T75 bA aA).f9) == (decide (aA < kA))) = false := by simpa using c29))
           (try (have lH : ¬ (((rd_T75 bA aA).f9) = (decide (aA < kA))) := by simpa using c29))
           clear c29
           (first | rw [lB] | (simp only [i64_w, i32_w]; rw [lB]) | skip)
           have H' := Aside0.mk H
           clear H
           try go_wp2
           have JA : Aside0 (((((((((((mB.setCell ⟨cA, 0, none⟩ (.int .i64 ((rd_T75 bA aA).f0))).setCell ⟨cA, 1, none⟩ (.int .i64 ((rd_T75 bA aA).f1))).setCell ⟨cA, 2, none⟩ (.int .i64 ((rd_T75 bA aA).f2))).setCell ⟨cA, 3, none⟩ (.int .i64 ((rd_T75 bA aA).f3))).setCell ⟨cA, 4, none⟩ (.int .i64 ((rd_T75 bA aA).f4))).setCell ⟨cA, 5, none⟩ (.int .i64 ((rd_T75 bA aA).f5))).setCell ⟨cA, 6, none⟩ (.int .i64 ((rd_T75 bA aA).f6))).setCell ⟨cA, 7, none⟩ (.int .i64 ((rd_T75 bA aA).f7))).setCell ⟨cA, 8, none⟩ (.int .i64 ((rd_T75 bA aA).f8))).setCell ⟨cA, 9, none⟩ (.bool ((rd_T75 bA aA).f9))).heap[jA]? = some (.cells #[.int .i64 rA, .int .i64 sA, .slice NA pA.length OA, .slice PA qA.length QA, .int .i64 mA] 29 (0, 0))) := ⟨q10_2⟩
           have KA : Aside0 (((((((((((mB.setCell ⟨cA, 0, none⟩ (.int .i64 ((rd_T75 bA aA).f0))).setCell ⟨cA, 1, none⟩ (.int .i64 ((rd_T75 bA aA).f1))).setCell ⟨cA, 2, none⟩ (.int .i64 ((rd_T75 bA aA).f2))).setCell ⟨cA, 3, none⟩ (.int .i64 ((rd_T75 bA aA).f3))).setCell ⟨cA, 4, none⟩ (.int .i64 ((rd_T75 bA aA).f4))).setCell ⟨cA, 5, none⟩ (.int .i64 ((rd_T75 bA aA).f5))).setCell ⟨cA, 6, none⟩ (.int .i64 ((rd_T75 bA aA).f6))).setCell ⟨cA, 7, none⟩ (.int .i64 ((rd_T75 bA aA).f7))).setCell ⟨cA, 8, none⟩ (.int .i64 ((rd_T75 bA aA).f8))).setCell ⟨cA, 9, none⟩ (.bool ((rd_T75 bA aA).f9))).heap[gA]? = some (.cells #[.slice (some ad338) bA.length CA, .int .i64 kA, .slice TA iA.length DA, .slice EA hA.length FA] 55 (0, 0))) := ⟨q10_3⟩
           have LA : Aside0 (((((((((((mB.setCell ⟨cA, 0, none⟩ (.int .i64 ((rd_T75 bA aA).f0))).setCell ⟨cA, 1, none⟩ (.int .i64 ((rd_T75 bA aA).f1))).setCell ⟨cA, 2, none⟩ (.int .i64 ((rd_T75 bA aA).f2))).setCell ⟨cA, 3, none⟩ (.int .i64 ((rd_T75 bA aA).f3))).setCell ⟨cA, 4, none⟩ (.int .i64 ((rd_T75 bA aA).f4))).setCell ⟨cA, 5, none⟩ (.int .i64 ((rd_T75 bA aA).f5))).setCell ⟨cA, 6, none⟩ (.int .i64 ((rd_T75 bA aA).f6))).setCell ⟨cA, 7, none⟩ (.int .i64 ((rd_T75 bA aA).f7))).setCell ⟨cA, 8, none⟩ (.int .i64 ((rd_T75 bA aA).f8))).setCell ⟨cA, 9, none⟩ (.bool ((rd_T75 bA aA).f9))).heap[cA]? = some (.cells #[.int .i64 ((rd_T75 bA aA).f0), .int .i64 ((rd_T75 bA aA).f1), .int .i64 ((rd_T75 bA aA).f2), .int .i64 ((rd_T75 bA aA).f3), .int .i64 ((rd_T75 bA aA).f4), .int .i64 ((rd_T75 bA aA).f5), .int .i64 ((rd_T75 bA aA).f6), .int .i64 ((rd_T75 bA aA).f7), .int .i64 ((rd_T75 bA aA).f8), .bool ((rd_T75 bA aA).f9)] 75 (0, 0))) := ⟨q10_0⟩
           have MA : Aside0 (Below w.heap.size w ((((((((((mB.setCell ⟨cA, 0, none⟩ (.int .i64 ((rd_T75 bA aA).f0))).setCell ⟨cA, 1, none⟩ (.int .i64 ((rd_T75 bA aA).f1))).setCell ⟨cA, 2, none⟩ (.int .i64 ((rd_T75 bA aA).f2))).setCell ⟨cA, 3, none⟩ (.int .i64 ((rd_T75 bA aA).f3))).setCell ⟨cA, 4, none⟩ (.int .i64 ((rd_T75 bA aA).f4))).setCell ⟨cA, 5, none⟩ (.int .i64 ((rd_T75 bA aA).f5))).setCell ⟨cA, 6, none⟩ (.int .i64 ((rd_T75 bA aA).f6))).setCell ⟨cA, 7, none⟩ (.int .i64 ((rd_T75 bA aA).f7))).setCell ⟨cA, 8, none⟩ (.int .i64 ((rd_T75 bA aA).f8))).setCell ⟨cA, 9, none⟩ (.bool ((rd_T75 bA aA).f9)))) := ⟨q10_1⟩
           (try clear fA)
           (try clear eA)
           (try clear dA)
           (try clear HB)
           generalize ((((((((((mB.setCell ⟨cA, 0, none⟩ (.int .i64 ((rd_T75 bA aA).f0))).setCell ⟨cA, 1, none⟩ (.int .i64 ((rd_T75 bA aA).f1))).setCell ⟨cA, 2, none⟩ (.int .i64 ((rd_T75 bA aA).f2))).setCell ⟨cA, 3, none⟩ (.int .i64 ((rd_T75 bA aA).f3))).setCell ⟨cA, 4, none⟩ (.int .i64 ((rd_T75 bA aA).f4))).setCell ⟨cA, 5, none⟩ (.int .i64 ((rd_T75 bA aA).f5))).setCell ⟨cA, 6, none⟩ (.int .i64 ((rd_T75 bA aA).f6))).setCell ⟨cA, 7, none⟩ (.int .i64 ((rd_T75 bA aA).f7))).setCell ⟨cA, 8, none⟩ (.int .i64 ((rd_T75 bA aA).f8))).setCell ⟨cA, 9, none⟩ (.bool ((rd_T75 bA aA).f9))) = YH at JA KA LA MA ⊢
           have fA := JA
           have eA := KA
           have dA := LA
           have HB := MA
           clear JA KA LA MA
           have JA := Aside0.mk (blk_drew fA.out)
           have KA := Aside0.mk (blk_drew eA.out)
           have LA := Aside0.mk (blk_drew dA.out)
           have MA := Aside0.mk (below_drew1 HB.out)
           clear fA
           clear eA
           clear dA
           clear HB
           have fA := JA
           have eA := KA
           have dA := LA
           have HB := MA
           clear JA KA LA MA
           refine start_ (n := 21) (S := fun w' => w'.cell? ⟨cA, 0, none⟩ = some (.int .i64 ((rd_T75 bA aA).f0)) ∧ w'.cell? ⟨cA, 1, none⟩ = some (.int .i64 ((rd_T75 bA aA).f1)) ∧ w'.cell? ⟨cA, 2, none⟩ = some (.int .i64 ((rd_T75 bA aA).f2)) ∧ w'.cell? ⟨cA, 3, none⟩ = some (.int .i64 ((rd_T75 bA aA).f3)) ∧ w'.cell? ⟨cA, 4, none⟩ = some (.int .i64 ((rd_T75 bA aA).f4)) ∧ w'.cell? ⟨cA, 5, none⟩ = some (.int .i64 ((rd_T75 bA aA).f5)) ∧ w'.cell? ⟨cA, 6, none⟩ = some (.int .i64 ((rd_T75 bA aA).f6)) ∧ w'.cell? ⟨cA, 7, none⟩ = some (.int .i64 ((rd_T75 bA aA).f7)) ∧ w'.cell? ⟨cA, 8, none⟩ = some (.int .i64 ((rd_T75 bA aA).f8)) ∧ w'.cell? ⟨cA, 9, none⟩ = some (.bool ((rd_T75 bA aA).f9)) ∧ w'.cell? ⟨gA, 0, none⟩ = some (.slice (some ad338) bA.length CA) ∧ w'.cell? ⟨gA, 1, none⟩ = some (.int .i64 kA) ∧ w'.cell? ⟨gA, 2, none⟩ = some (.slice TA iA.length DA) ∧ w'.cell? ⟨gA, 3, none⟩ = some (.slice EA hA.length FA)) (ds := []) #[F,F,F,F,F,F,F,F,F,F,F,F,F,F,F,F,F,F,F,F,F] q10_10 rfl rfl ⟨(blk_cell dA.out 0).trans rfl, (blk_cell dA.out 1).trans rfl, (blk_cell dA.out 2).trans rfl, (blk_cell dA.out 3).trans rfl, (blk_cell dA.out 4).trans rfl, (blk_cell dA.out 5).trans rfl, (blk_cell dA.out 6).trans rfl, (blk_cell dA.out 7).trans rfl, (blk_cell dA.out 8).trans rfl, (blk_cell dA.out 9).trans rfl, (blk_cell eA.out 0).trans rfl, (blk_cell eA.out 1).trans rfl, (blk_cell eA.out 2).trans rfl, (blk_cell eA.out 3).trans rfl⟩ (fun hHeld => ?_); refine with_tabW impl_threadOk.tab7 impl_threadOk.bits7 (fun HT_ HW_ => ?_)
           generalize YH.drew = bI at fA eA dA HB hHeld ⊢
           refine q10_p 0 44 #[T,F,F,F,F,F,F,F,F,F,F,F,F,F,F,F,F,F,F,F,F] ?_
           refine q10_p 2 46 #[T,F,T,F,F,F,F,F,F,F,F,F,F,F,F,F,F,F,F,F,F] ?_
           refine q10_p 3 47 #[T,F,T,T,F,F,F,F,F,F,F,F,F,F,F,F,F,F,F,F,F] ?_
           refine take_ (i := 1) (N := some 45) (v := ?_) (a' := ?_) #[T,T,T,T,F,F,F,F,F,F,F,F,F,F,F,F,F,F,F,F,F] rfl rfl (take_ofW HT_.out HW_.out q10_10) (fun _ _ _ h => h) (Or.inl ⟨by rfl, ?_⟩) hHeld ?_ ?_
           rotate_left
           ·rintro w' ⟨s0, s1, s2, s3, s4, s5, s6, s7, s8, s9, GD, HD, ID, JD⟩
            go_simp
            with_reducible rfl
           rotate_left
           ·simp only [Act.put, List.setIfInBounds_toArray, List.set_cons_zero, List.set_cons_succ, i64_w, i32_w]
            rfl
           refine take_ (i := 4) (N := some 48) (v := ?_) (a' := ?_) #[T,T,T,T,T,F,F,F,F,F,F,F,F,F,F,F,F,F,F,F,F] rfl rfl (take_ofW HT_.out HW_.out q10_10) (fun _ _ _ h => h) (Or.inl ⟨by rfl, ?_⟩) hHeld ?_ ?_
           rotate_left
           ·rintro w' ⟨s0, s1, s2, s3, s4, s5, s6, s7, s8, s9, GD, HD, ID, JD⟩
            go_simp
            with_reducible rfl
           rotate_left
           ·simp only [Act.put, List.setIfInBounds_toArray, List.set_cons_zero, List.set_cons_succ, i64_w, i32_w]
            rfl
           refine q10_p 5 49 #[T,T,T,T,T,T,F,F,F,F,F,F,F,F,F,F,F,F,F,F,F] ?_
           refine q10_p 6 50 #[T,T,T,T,T,T,T,F,F,F,F,F,F,F,F,F,F,F,F,F,F] ?_
           refine q10_p 7 51 #[T,T,T,T,T,T,T,T,F,F,F,F,F,F,F,F,F,F,F,F,F] ?_
           refine q10_u 8 52 #[T,T,T,T,T,T,T,T,T,F,F,F,F,F,F,F,F,F,F,F,F] ?_
           refine q10_u 9 53 #[T,T,T,T,T,T,T,T,T,T,F,F,F,F,F,F,F,F,F,F,F] ?_
           refine q10_u 10 54 #[T,T,T,T,T,T,T,T,T,T,T,F,F,F,F,F,F,F,F,F,F] ?_
           refine q10_u 11 55 #[T,T,T,T,T,T,T,T,T,T,T,T,F,F,F,F,F,F,F,F,F] ?_
           refine q10_u 12 56 #[T,T,T,T,T,T,T,T,T,T,T,T,T,F,F,F,F,F,F,F,F] ?_
           refine q10_u 13 57 #[T,T,T,T,T,T,T,T,T,T,T,T,T,T,F,F,F,F,F,F,F] ?_
           refine q10_u 14 58 #[T,T,T,T,T,T,T,T,T,T,T,T,T,T,T,F,F,F,F,F,F] ?_
           refine q10_u 15 59 #[T,T,T,T,T,T,T,T,T,T,T,T,T,T,T,T,F,F,F,F,F] ?_
           refine q10_u 16 60 #[T,T,T,T,T,T,T,T,T,T,T,T,T,T,T,T,T,F,F,F,F] ?_
           refine q10_u 17 61 #[T,T,T,T,T,T,T,T,T,T,T,T,T,T,T,T,T,T,F,F,F] ?_
           refine q10_u 18 62 #[T,T,T,T,T,T,T,T,T,T,T,T,T,T,T,T,T,T,T,F,F] ?_
           refine q10_u 19 63 #[T,T,T,T,T,T,T,T,T,T,T,T,T,T,T,T,T,T,T,T,F] ?_
           refine q10_p 20 64 #[T,T,T,T,T,T,T,T,T,T,T,T,T,T,T,T,T,T,T,T,T] ?_
           refine done_ (done_of HT_.out q10_10) ?_
           try go_wp2
           go_meet
           case rel => exact ⟨_, (true), q10_11, H', ⟨by have := HJ2.out; have := HK2.out; first | omega | exact Nat.le_refl _⟩, ⟨q10_4⟩, ⟨q10_5⟩, ⟨q10_8⟩, ⟨q10_1⟩⟩
          ·rw [if_neg c29] at H
           have lB : (((rd_T75 bA aA).f9) != (decide (aA < kA))) = false := by simpa using c29
           (try (have BC : decide (((rd_T75 bA aA).f9) = (decide (aA < kA))) = true := by simpa using c29))
           (try (have CC : (((rd_T75 bA aA).f9) == (decide (aA < kA))) = true := by simpa using c29))
           clear c29
           (first | rw [lB] | (simp only [i64_w, i32_w]; rw [lB]) | skip)
           by_cases c32 : aA > kA
           ·rw [if_pos c32] at H
            have DC : decide (kA < aA) = true := decide_eq_true c32
            clear c32
            replace H := Option.bind_eq_some_iff.mp H
            obtain ⟨⟨bE, cE, dE, eE, fE, gE, hE, iE, jE, kE⟩, A330, H⟩ := H
            replace H : (impl_threadOk.j2 k2 aA bA (bA.length : Int) aA (!(((rd_T75 bA aA).f0) == bE) || (!(((rd_T75 bA aA).f1) == cE) || (!(((rd_T75 bA aA).f2) == dE) || (!(((rd_T75 bA aA).f3) == eE) || (!(((rd_T75 bA aA).f4) == fE) || (!(((rd_T75 bA aA).f5) == gE) || (!(((rd_T75 bA aA).f6) == hE) || (!(((rd_T75 bA aA).f7) == iE) || (!(((rd_T75 bA aA).f8) == jE) || (!(((rd_T75 bA aA).f9) == kE))))))))))) rA sA pA qA mA bA kA iA hA ((rd_T75 bA aA).f0) ((rd_T75 bA aA).f1) ((rd_T75 bA aA).f2) ((rd_T75 bA aA).f3) ((rd_T75 bA aA).f4) ((rd_T75 bA aA).f5) ((rd_T75 bA aA).f6) ((rd_T75 bA aA).f7) ((rd_T75 bA aA).f8) ((rd_T75 bA aA).f9)) = some r := H
            have A33 := Aside0.mk A330
            clear A330
            have H' := Aside0.mk H
            clear H
            try go_wp2
            have JA : Aside0 (((((((((((mB.setCell ⟨cA, 0, none⟩ (.int .i64 ((rd_T75 bA aA).f0))).setCell ⟨cA, 1, none⟩ (.int .i64 ((rd_T75 bA aA).f1))).setCell ⟨cA, 2, none⟩ (.int .i64 ((rd_T75 bA aA).f2))).setCell ⟨cA, 3, none⟩ (.int .i64 ((rd_T75 bA aA).f3))).setCell ⟨cA, 4, none⟩ (.int .i64 ((rd_T75 bA aA).f4))).setCell ⟨cA, 5, none⟩ (.int .i64 ((rd_T75 bA aA).f5))).setCell ⟨cA, 6, none⟩ (.int .i64 ((rd_T75 bA aA).f6))).setCell ⟨cA, 7, none⟩ (.int .i64 ((rd_T75 bA aA).f7))).setCell ⟨cA, 8, none⟩ (.int .i64 ((rd_T75 bA aA).f8))).setCell ⟨cA, 9, none⟩ (.bool ((rd_T75 bA aA).f9))).heap[jA]? = some (.cells #[.int .i64 rA, .int .i64 sA, .slice NA pA.length OA, .slice PA qA.length QA, .int .i64 mA] 29 (0, 0))) := ⟨q10_2⟩
            have KA : Aside0 (((((((((((mB.setCell ⟨cA, 0, none⟩ (.int .i64 ((rd_T75 bA aA).f0))).setCell ⟨cA, 1, none⟩ (.int .i64 ((rd_T75 bA aA).f1))).setCell ⟨cA, 2, none⟩ (.int .i64 ((rd_T75 bA aA).f2))).setCell ⟨cA, 3, none⟩ (.int .i64 ((rd_T75 bA aA).f3))).setCell ⟨cA, 4, none⟩ (.int .i64 ((rd_T75 bA aA).f4))).setCell ⟨cA, 5, none⟩ (.int .i64 ((rd_T75 bA aA).f5))).setCell ⟨cA, 6, none⟩ (.int .i64 ((rd_T75 bA aA).f6))).setCell ⟨cA, 7, none⟩ (.int .i64 ((rd_T75 bA aA).f7))).setCell ⟨cA, 8, none⟩ (.int .i64 ((rd_T75 bA aA).f8))).setCell ⟨cA, 9, none⟩ (.bool ((rd_T75 bA aA).f9))).heap[gA]? = some (.cells #[.slice (some ad338) bA.length CA, .int .i64 kA, .slice TA iA.length DA, .slice EA hA.length FA] 55 (0, 0))) := ⟨q10_3⟩
            have LA : Aside0 (((((((((((mB.setCell ⟨cA, 0, none⟩ (.int .i64 ((rd_T75 bA aA).f0))).setCell ⟨cA, 1, none⟩ (.int .i64 ((rd_T75 bA aA).f1))).setCell ⟨cA, 2, none⟩ (.int .i64 ((rd_T75 bA aA).f2))).setCell ⟨cA, 3, none⟩ (.int .i64 ((rd_T75 bA aA).f3))).setCell ⟨cA, 4, none⟩ (.int .i64 ((rd_T75 bA aA).f4))).setCell ⟨cA, 5, none⟩ (.int .i64 ((rd_T75 bA aA).f5))).setCell ⟨cA, 6, none⟩ (.int .i64 ((rd_T75 bA aA).f6))).setCell ⟨cA, 7, none⟩ (.int .i64 ((rd_T75 bA aA).f7))).setCell ⟨cA, 8, none⟩ (.int .i64 ((rd_T75 bA aA).f8))).setCell ⟨cA, 9, none⟩ (.bool ((rd_T75 bA aA).f9))).heap[cA]? = some (.cells #[.int .i64 ((rd_T75 bA aA).f0), .int .i64 ((rd_T75 bA aA).f1), .int .i64 ((rd_T75 bA aA).f2), .int .i64 ((rd_T75 bA aA).f3), .int .i64 ((rd_T75 bA aA).f4), .int .i64 ((rd_T75 bA aA).f5), .int .i64 ((rd_T75 bA aA).f6), .int .i64 ((rd_T75 bA aA).f7), .int .i64 ((rd_T75 bA aA).f8), .bool ((rd_T75 bA aA).f9)] 75 (0, 0))) := ⟨q10_0⟩
            have MA : Aside0 (Below w.heap.size w ((((((((((mB.setCell ⟨cA, 0, none⟩ (.int .i64 ((rd_T75 bA aA).f0))).setCell ⟨cA, 1, none⟩ (.int .i64 ((rd_T75 bA aA).f1))).setCell ⟨cA, 2, none⟩ (.int .i64 ((rd_T75 bA aA).f2))).setCell ⟨cA, 3, none⟩ (.int .i64 ((rd_T75 bA aA).f3))).setCell ⟨cA, 4, none⟩ (.int .i64 ((rd_T75 bA aA).f4))).setCell ⟨cA, 5, none⟩ (.int .i64 ((rd_T75 bA aA).f5))).setCell ⟨cA, 6, none⟩ (.int .i64 ((rd_T75 bA aA).f6))).setCell ⟨cA, 7, none⟩ (.int .i64 ((rd_T75 bA aA).f7))).setCell ⟨cA, 8, none⟩ (.int .i64 ((rd_T75 bA aA).f8))).setCell ⟨cA, 9, none⟩ (.bool ((rd_T75 bA aA).f9)))) := ⟨q10_1⟩
            (try clear fA)
            (try clear eA)
            (try clear dA)
            (try clear HB)
            generalize ((((((((((mB.setCell ⟨cA, 0, none⟩ (.int .i64 ((rd_T75 bA aA).f0))).setCell ⟨cA, 1, none⟩ (.int .i64 ((rd_T75 bA aA).f1))).setCell ⟨cA, 2, none⟩ (.int .i64 ((rd_T75 bA aA).f2))).setCell ⟨cA, 3, none⟩ (.int .i64 ((rd_T75 bA aA).f3))).setCell ⟨cA, 4, none⟩ (.int .i64 ((rd_T75 bA aA).f4))).setCell ⟨cA, 5, none⟩ (.int .i64 ((rd_T75 bA aA).f5))).setCell ⟨cA, 6, none⟩ (.int .i64 ((rd_T75 bA aA).f6))).setCell ⟨cA, 7, none⟩ (.int .i64 ((rd_T75 bA aA).f7))).setCell ⟨cA, 8, none⟩ (.int .i64 ((rd_T75 bA aA).f8))).setCell ⟨cA, 9, none⟩ (.bool ((rd_T75 bA aA).f9))) = ZH at JA KA LA MA ⊢
            have fA := JA
            have eA := KA
            have dA := LA
            have HB := MA
            clear JA KA LA MA
            have JA := Aside0.mk (blk_drew fA.out)
            have KA := Aside0.mk (blk_drew eA.out)
            have LA := Aside0.mk (blk_drew dA.out)
            have MA := Aside0.mk (below_drew1 HB.out)
            clear fA
            clear eA
            clear dA
            clear HB
            have fA := JA
            have eA := KA
            have dA := LA
            have HB := MA
            clear JA KA LA MA
            refine start_ (n := 21) (S := fun w' => w'.cell? ⟨cA, 0, none⟩ = some (.int .i64 ((rd_T75 bA aA).f0)) ∧ w'.cell? ⟨cA, 1, none⟩ = some (.int .i64 ((rd_T75 bA aA).f1)) ∧ w'.cell? ⟨cA, 2, none⟩ = some (.int .i64 ((rd_T75 bA aA).f2)) ∧ w'.cell? ⟨cA, 3, none⟩ = some (.int .i64 ((rd_T75 bA aA).f3)) ∧ w'.cell? ⟨cA, 4, none⟩ = some (.int .i64 ((rd_T75 bA aA).f4)) ∧ w'.cell? ⟨cA, 5, none⟩ = some (.int .i64 ((rd_T75 bA aA).f5)) ∧ w'.cell? ⟨cA, 6, none⟩ = some (.int .i64 ((rd_T75 bA aA).f6)) ∧ w'.cell? ⟨cA, 7, none⟩ = some (.int .i64 ((rd_T75 bA aA).f7)) ∧ w'.cell? ⟨cA, 8, none⟩ = some (.int .i64 ((rd_T75 bA aA).f8)) ∧ w'.cell? ⟨cA, 9, none⟩ = some (.bool ((rd_T75 bA aA).f9)) ∧ w'.cell? ⟨gA, 0, none⟩ = some (.slice (some ad338) bA.length CA) ∧ w'.cell? ⟨gA, 1, none⟩ = some (.int .i64 kA) ∧ w'.cell? ⟨gA, 2, none⟩ = some (.slice TA iA.length DA) ∧ w'.cell? ⟨gA, 3, none⟩ = some (.slice EA hA.length FA) ∧ w'.cell? ⟨jA, 0, none⟩ = some (.int .i64 rA) ∧ w'.cell? ⟨jA, 1, none⟩ = some (.int .i64 sA) ∧ w'.cell? ⟨jA, 2, none⟩ = some (.slice NA pA.length OA) ∧ w'.cell? ⟨jA, 3, none⟩ = some (.slice PA qA.length QA) ∧ w'.cell? ⟨jA, 4, none⟩ = some (.int .i64 mA)) (ds := []) #[F,F,F,F,F,F,F,F,F,F,F,F,F,F,F,F,F,F,F,F,F] q10_10 rfl rfl ⟨(blk_cell dA.out 0).trans rfl, (blk_cell dA.out 1).trans rfl, (blk_cell dA.out 2).trans rfl, (blk_cell dA.out 3).trans rfl, (blk_cell dA.out 4).trans rfl, (blk_cell dA.out 5).trans rfl, (blk_cell dA.out 6).trans rfl, (blk_cell dA.out 7).trans rfl, (blk_cell dA.out 8).trans rfl, (blk_cell dA.out 9).trans rfl, (blk_cell eA.out 0).trans rfl, (blk_cell eA.out 1).trans rfl, (blk_cell eA.out 2).trans rfl, (blk_cell eA.out 3).trans rfl, (blk_cell fA.out 0).trans rfl, (blk_cell fA.out 1).trans rfl, (blk_cell fA.out 2).trans rfl, (blk_cell fA.out 3).trans rfl, (blk_cell fA.out 4).trans rfl⟩ (fun hHeld => ?_); refine with_tabW impl_threadOk.tab7 impl_threadOk.bits7 (fun HT_ HW_ => ?_)
            generalize ZH.drew = cI at fA eA dA HB hHeld ⊢
            refine q10_p 0 44 #[T,F,F,F,F,F,F,F,F,F,F,F,F,F,F,F,F,F,F,F,F] ?_
            refine q10_p 2 46 #[T,F,T,F,F,F,F,F,F,F,F,F,F,F,F,F,F,F,F,F,F] ?_
            refine q10_p 3 47 #[T,F,T,T,F,F,F,F,F,F,F,F,F,F,F,F,F,F,F,F,F] ?_
            refine take_ (i := 1) (N := some 45) (v := ?_) (a' := ?_) #[T,T,T,T,F,F,F,F,F,F,F,F,F,F,F,F,F,F,F,F,F] rfl rfl (take_ofW HT_.out HW_.out q10_10) (fun _ _ _ h => h) (Or.inl ⟨by rfl, ?_⟩) hHeld ?_ ?_
            rotate_left
            ·rintro w' ⟨s0, s1, s2, s3, s4, s5, s6, s7, s8, s9, GD, HD, ID, JD, AE, BE, CE, DE, EE⟩
             go_simp
             with_reducible rfl
            rotate_left
            ·simp only [Act.put, List.setIfInBounds_toArray, List.set_cons_zero, List.set_cons_succ, i64_w, i32_w]
             rfl
            refine take_ (i := 4) (N := some 48) (v := ?_) (a' := ?_) #[T,T,T,T,T,F,F,F,F,F,F,F,F,F,F,F,F,F,F,F,F] rfl rfl (take_ofW HT_.out HW_.out q10_10) (fun _ _ _ h => h) (Or.inl ⟨by rfl, ?_⟩) hHeld ?_ ?_
            rotate_left
            ·rintro w' ⟨s0, s1, s2, s3, s4, s5, s6, s7, s8, s9, GD, HD, ID, JD, AE, BE, CE, DE, EE⟩
             go_simp
             with_reducible rfl
            rotate_left
            ·simp only [Act.put, List.setIfInBounds_toArray, List.set_cons_zero, List.set_cons_succ, i64_w, i32_w]
             rfl
            refine q10_p 5 49 #[T,T,T,T,T,T,F,F,F,F,F,F,F,F,F,F,F,F,F,F,F] ?_
            refine q10_p 6 50 #[T,T,T,T,T,T,T,F,F,F,F,F,F,F,F,F,F,F,F,F,F] ?_
            refine q10_p 7 51 #[T,T,T,T,T,T,T,T,F,F,F,F,F,F,F,F,F,F,F,F,F] ?_
            refine q10_p 8 52 #[T,T,T,T,T,T,T,T,T,F,F,F,F,F,F,F,F,F,F,F,F] ?_
            refine q10_p 9 53 #[T,T,T,T,T,T,T,T,T,T,F,F,F,F,F,F,F,F,F,F,F] ?_
            refine take_ (i := 10) (N := some 54) (v := ?_) (a' := ?_) #[T,T,T,T,T,T,T,T,T,T,T,F,F,F,F,F,F,F,F,F,F] rfl rfl (take_ofW HT_.out HW_.out q10_10) (fun _ _ _ h => h) (Or.inl ⟨by rfl, ?_⟩) hHeld ?_ ?_
            rotate_left
            ·rintro w' ⟨s0, s1, s2, s3, s4, s5, s6, s7, s8, s9, GD, HD, ID, JD, AE, BE, CE, DE, EE⟩
             go_simp
             with_reducible rfl
            rotate_left
            ·simp only [Act.put, List.setIfInBounds_toArray, List.set_cons_zero, List.set_cons_succ, i64_w, i32_w]
             rfl
            refine q10_p 11 55 #[T,T,T,T,T,T,T,T,T,T,T,T,F,F,F,F,F,F,F,F,F] ?_
            refine q10_p 12 56 #[T,T,T,T,T,T,T,T,T,T,T,T,T,F,F,F,F,F,F,F,F] ?_
            refine q10_p 14 58 #[T,T,T,T,T,T,T,T,T,T,T,T,T,F,T,F,F,F,F,F,F] ?_
            refine take_ (i := 13) (N := some 57) (v := ?_) (a' := ?_) #[T,T,T,T,T,T,T,T,T,T,T,T,T,T,T,F,F,F,F,F,F] rfl rfl (take_ofW HT_.out HW_.out q10_10) (fun _ _ _ h => h) (Or.inl ⟨by rfl, ?_⟩) hHeld ?_ ?_
            rotate_left
            ·rintro w' ⟨s0, s1, s2, s3, s4, s5, s6, s7, s8, s9, GD, HD, ID, JD, AE, BE, CE, DE, EE⟩
             go_simp
             with_reducible rfl
            rotate_left
            ·simp only [Act.put, List.setIfInBounds_toArray, List.set_cons_zero, List.set_cons_succ, i64_w, i32_w]
             rfl
            refine take_ (i := 15) (N := some 59) (v := ?_) (a' := ?_) #[T,T,T,T,T,T,T,T,T,T,T,T,T,T,T,T,F,F,F,F,F] rfl rfl (take_ofW HT_.out HW_.out q10_10) (fun _ _ _ h => h) (Or.inl ⟨by rfl, ?_⟩) hHeld ?_ ?_
            rotate_left
            ·rintro w' ⟨s0, s1, s2, s3, s4, s5, s6, s7, s8, s9, GD, HD, ID, JD, AE, BE, CE, DE, EE⟩
             go_simp
             with_reducible rfl
            rotate_left
            ·simp only [Act.put, List.setIfInBounds_toArray, List.set_cons_zero, List.set_cons_succ, i64_w, i32_w]
             rfl
            refine take_ (i := 16) (N := some 60) (v := ?_) (a' := ?_) #[T,T,T,T,T,T,T,T,T,T,T,T,T,T,T,T,T,F,F,F,F] rfl rfl (take_ofW HT_.out HW_.out q10_10) (fun _ _ _ h => h) (Or.inl ⟨by rfl, ?_⟩) hHeld ?_ ?_
            rotate_left
            ·rintro w' ⟨s0, s1, s2, s3, s4, s5, s6, s7, s8, s9, GD, HD, ID, JD, AE, BE, CE, DE, EE⟩
             go_simp
             with_reducible rfl
            rotate_left
            ·simp only [Act.put, List.setIfInBounds_toArray, List.set_cons_zero, List.set_cons_succ, i64_w, i32_w]
             rfl
            refine one_ (i := 17) (N := some 61) #[T,T,T,T,T,T,T,T,T,T,T,T,T,T,T,T,T,T,F,F,F] rfl rfl (one_of HT_.out q10_10) (by decide) (fun K hK => ?_)
            refine goes_ Try.func51 q10_10 rfl #[.int .i64 rA, .agg #[.int .i64 ((rd_T75 bA aA).f0), .int .i64 ((rd_T75 bA aA).f1), .int .i64 ((rd_T75 bA aA).f2), .int .i64 ((rd_T75 bA aA).f3), .int .i64 ((rd_T75 bA aA).f4), .int .i64 ((rd_T75 bA aA).f5), .int .i64 ((rd_T75 bA aA).f6), .int .i64 ((rd_T75 bA aA).f7), .int .i64 ((rd_T75 bA aA).f8), .bool ((rd_T75 bA aA).f9)]] (by rfl) rfl rfl q10_7 ?_
            with_reducible refine (impl_begins.calls rA ((rd_T75 bA aA).f0) ((rd_T75 bA aA).f1) ((rd_T75 bA aA).f2) ((rd_T75 bA aA).f3) ((rd_T75 bA aA).f4) ((rd_T75 bA aA).f5) ((rd_T75 bA aA).f6) ((rd_T75 bA aA).f7) ((rd_T75 bA aA).f8) ((rd_T75 bA aA).f9) bE cE dE eE fE gE hE iE jE kE _ A33.out).mono ?_
            rintro e dI ⟨rfl, hb⟩
            refine ⟨_, rfl, ?_⟩
            have JA := Aside0.mk (blk_below (g := jA) (o := .cells #[.int .i64 rA, .int .i64 sA, .slice NA pA.length OA, .slice PA qA.length QA, .int .i64 mA] 29 (0, 0)) q10_4 hb)
            have KA := Aside0.mk (blk_below (g := gA) (o := .cells #[.slice (some ad338) bA.length CA, .int .i64 kA, .slice TA iA.length DA, .slice EA hA.length FA] 55 (0, 0)) q10_5 hb)
            have LA := Aside0.mk (blk_below (g := cA) (o := .cells #[.int .i64 ((rd_T75 bA aA).f0), .int .i64 ((rd_T75 bA aA).f1), .int .i64 ((rd_T75 bA aA).f2), .int .i64 ((rd_T75 bA aA).f3), .int .i64 ((rd_T75 bA aA).f4), .int .i64 ((rd_T75 bA aA).f5), .int .i64 ((rd_T75 bA aA).f6), .int .i64 ((rd_T75 bA aA).f7), .int .i64 ((rd_T75 bA aA).f8), .bool ((rd_T75 bA aA).f9)] 75 (0, 0)) q10_8 hb)
            have MA := Aside0.mk (below_step q10_1 hb)
            clear fA
            clear eA
            clear dA
            clear HB
            have fA := JA
            have eA := KA
            have dA := LA
            have HB := MA
            clear JA KA LA MA
            (try clear hb)
            (try clear hb2)
            (try clear hk)
            (try clear hi)
            refine hK.out _ _ ⟨(blk_cell dA.out 0).trans rfl, (blk_cell dA.out 1).trans rfl, (blk_cell dA.out 2).trans rfl, (blk_cell dA.out 3).trans rfl, (blk_cell dA.out 4).trans rfl, (blk_cell dA.out 5).trans rfl, (blk_cell dA.out 6).trans rfl, (blk_cell dA.out 7).trans rfl, (blk_cell dA.out 8).trans rfl, (blk_cell dA.out 9).trans rfl, (blk_cell eA.out 0).trans rfl, (blk_cell eA.out 1).trans rfl, (blk_cell eA.out 2).trans rfl, (blk_cell eA.out 3).trans rfl, (blk_cell fA.out 0).trans rfl, (blk_cell fA.out 1).trans rfl, (blk_cell fA.out 2).trans rfl, (blk_cell fA.out 3).trans rfl, (blk_cell fA.out 4).trans rfl⟩ (fun hHeld => ?_)
            clear hK K
            refine norm_ (a' := ?_) ?_ ?_
            rotate_left
            ·show Act.put _ (some 61) _ = _
             simp only [Act.put, List.setIfInBounds_toArray, List.set_cons_zero, List.set_cons_succ, i64_w, i32_w]
             rfl
            refine q10_p 18 62 #[T,T,T,T,T,T,T,T,T,T,T,T,T,T,T,T,T,T,T,F,F] ?_
            refine q10_p 19 63 #[T,T,T,T,T,T,T,T,T,T,T,T,T,T,T,T,T,T,T,T,F] ?_
            refine q10_p 20 64 #[T,T,T,T,T,T,T,T,T,T,T,T,T,T,T,T,T,T,T,T,T] ?_
            refine done_ (done_of HT_.out q10_10) ?_
            try go_wp2
            go_meet
            case rel => exact ⟨_, ((!(((rd_T75 bA aA).f0) == bE) || (!(((rd_T75 bA aA).f1) == cE) || (!(((rd_T75 bA aA).f2) == dE) || (!(((rd_T75 bA aA).f3) == eE) || (!(((rd_T75 bA aA).f4) == fE) || (!(((rd_T75 bA aA).f5) == gE) || (!(((rd_T75 bA aA).f6) == hE) || (!(((rd_T75 bA aA).f7) == iE) || (!(((rd_T75 bA aA).f8) == jE) || (!(((rd_T75 bA aA).f9) == kE)))))))))))), q10_11, H', ⟨by have := HJ2.out; have := HK2.out; first | omega | exact Nat.le_refl _⟩, ⟨q10_4⟩, ⟨q10_5⟩, ⟨q10_8⟩, ⟨q10_1⟩⟩
           ·rw [if_neg c32] at H
            have DC : decide (kA < aA) = false := decide_eq_false c32
            clear c32
            have H' := Aside0.mk H
            clear H
            try go_wp2
            have JA : Aside0 (((((((((((mB.setCell ⟨cA, 0, none⟩ (.int .i64 ((rd_T75 bA aA).f0))).setCell ⟨cA, 1, none⟩ (.int .i64 ((rd_T75 bA aA).f1))).setCell ⟨cA, 2, none⟩ (.int .i64 ((rd_T75 bA aA).f2))).setCell ⟨cA, 3, none⟩ (.int .i64 ((rd_T75 bA aA).f3))).setCell ⟨cA, 4, none⟩ (.int .i64 ((rd_T75 bA aA).f4))).setCell ⟨cA, 5, none⟩ (.int .i64 ((rd_T75 bA aA).f5))).setCell ⟨cA, 6, none⟩ (.int .i64 ((rd_T75 bA aA).f6))).setCell ⟨cA, 7, none⟩ (.int .i64 ((rd_T75 bA aA).f7))).setCell ⟨cA, 8, none⟩ (.int .i64 ((rd_T75 bA aA).f8))).setCell ⟨cA, 9, none⟩ (.bool ((rd_T75 bA aA).f9))).heap[jA]? = some (.cells #[.int .i64 rA, .int .i64 sA, .slice NA pA.length OA, .slice PA qA.length QA, .int .i64 mA] 29 (0, 0))) := ⟨q10_2⟩
            have KA : Aside0 (((((((((((mB.setCell ⟨cA, 0, none⟩ (.int .i64 ((rd_T75 bA aA).f0))).setCell ⟨cA, 1, none⟩ (.int .i64 ((rd_T75 bA aA).f1))).setCell ⟨cA, 2, none⟩ (.int .i64 ((rd_T75 bA aA).f2))).setCell ⟨cA, 3, none⟩ (.int .i64 ((rd_T75 bA aA).f3))).setCell ⟨cA, 4, none⟩ (.int .i64 ((rd_T75 bA aA).f4))).setCell ⟨cA, 5, none⟩ (.int .i64 ((rd_T75 bA aA).f5))).setCell ⟨cA, 6, none⟩ (.int .i64 ((rd_T75 bA aA).f6))).setCell ⟨cA, 7, none⟩ (.int .i64 ((rd_T75 bA aA).f7))).setCell ⟨cA, 8, none⟩ (.int .i64 ((rd_T75 bA aA).f8))).setCell ⟨cA, 9, none⟩ (.bool ((rd_T75 bA aA).f9))).heap[gA]? = some (.cells #[.slice (some ad338) bA.length CA, .int .i64 kA, .slice TA iA.length DA, .slice EA hA.length FA] 55 (0, 0))) := ⟨q10_3⟩
            have LA : Aside0 (((((((((((mB.setCell ⟨cA, 0, none⟩ (.int .i64 ((rd_T75 bA aA).f0))).setCell ⟨cA, 1, none⟩ (.int .i64 ((rd_T75 bA aA).f1))).setCell ⟨cA, 2, none⟩ (.int .i64 ((rd_T75 bA aA).f2))).setCell ⟨cA, 3, none⟩ (.int .i64 ((rd_T75 bA aA).f3))).setCell ⟨cA, 4, none⟩ (.int .i64 ((rd_T75 bA aA).f4))).setCell ⟨cA, 5, none⟩ (.int .i64 ((rd_T75 bA aA).f5))).setCell ⟨cA, 6, none⟩ (.int .i64 ((rd_T75 bA aA).f6))).setCell ⟨cA, 7, none⟩ (.int .i64 ((rd_T75 bA aA).f7))).setCell ⟨cA, 8, none⟩ (.int .i64 ((rd_T75 bA aA).f8))).setCell ⟨cA, 9, none⟩ (.bool ((rd_T75 bA aA).f9))).heap[cA]? = some (.cells #[.int .i64 ((rd_T75 bA aA).f0), .int .i64 ((rd_T75 bA aA).f1), .int .i64 ((rd_T75 bA aA).f2), .int .i64 ((rd_T75 bA aA).f3), .int .i64 ((rd_T75 bA aA).f4), .int .i64 ((rd_T75 bA aA).f5), .int .i64 ((rd_T75 bA aA).f6), .int .i64 ((rd_T75 bA aA).f7), .int .i64 ((rd_T75 bA aA).f8), .bool ((rd_T75 bA aA).f9)] 75 (0, 0))) := ⟨q10_0⟩
            have MA : Aside0 (Below w.heap.size w ((((((((((mB.setCell ⟨cA, 0, none⟩ (.int .i64 ((rd_T75 bA aA).f0))).setCell ⟨cA, 1, none⟩ (.int .i64 ((rd_T75 bA aA).f1))).setCell ⟨cA, 2, none⟩ (.int .i64 ((rd_T75 bA aA).f2))).setCell ⟨cA, 3, none⟩ (.int .i64 ((rd_T75 bA aA).f3))).setCell ⟨cA, 4, none⟩ (.int .i64 ((rd_T75 bA aA).f4))).setCell ⟨cA, 5, none⟩ (.int .i64 ((rd_T75 bA aA).f5))).setCell ⟨cA, 6, none⟩ (.int .i64 ((rd_T75 bA aA).f6))).setCell ⟨cA, 7, none⟩ (.int .i64 ((rd_T75 bA aA).f7))).setCell ⟨cA, 8, none⟩ (.int .i64 ((rd_T75 bA aA).f8))).setCell ⟨cA, 9, none⟩ (.bool ((rd_T75 bA aA).f9)))) := ⟨q10_1⟩
            (try clear fA)
            (try clear eA)
            (try clear dA)
            (try clear HB)
            generalize ((((((((((mB.setCell ⟨cA, 0, none⟩ (.int .i64 ((rd_T75 bA aA).f0))).setCell ⟨cA, 1, none⟩ (.int .i64 ((rd_T75 bA aA).f1))).setCell ⟨cA, 2, none⟩ (.int .i64 ((rd_T75 bA aA).f2))).setCell ⟨cA, 3, none⟩ (.int .i64 ((rd_T75 bA aA).f3))).setCell ⟨cA, 4, none⟩ (.int .i64 ((rd_T75 bA aA).f4))).setCell ⟨cA, 5, none⟩ (.int .i64 ((rd_T75 bA aA).f5))).setCell ⟨cA, 6, none⟩ (.int .i64 ((rd_T75 bA aA).f6))).setCell ⟨cA, 7, none⟩ (.int .i64 ((rd_T75 bA aA).f7))).setCell ⟨cA, 8, none⟩ (.int .i64 ((rd_T75 bA aA).f8))).setCell ⟨cA, 9, none⟩ (.bool ((rd_T75 bA aA).f9))) = aI at JA KA LA MA ⊢
            have fA := JA
            have eA := KA
            have dA := LA
            have HB := MA
            clear JA KA LA MA
            have JA := Aside0.mk (blk_drew fA.out)
            have KA := Aside0.mk (blk_drew eA.out)
            have LA := Aside0.mk (blk_drew dA.out)
            have MA := Aside0.mk (below_drew1 HB.out)
            clear fA
            clear eA
            clear dA
            clear HB
            have fA := JA
            have eA := KA
            have dA := LA
            have HB := MA
            clear JA KA LA MA
            refine start_ (n := 21) (S := fun w' => w'.cell? ⟨cA, 0, none⟩ = some (.int .i64 ((rd_T75 bA aA).f0)) ∧ w'.cell? ⟨cA, 1, none⟩ = some (.int .i64 ((rd_T75 bA aA).f1)) ∧ w'.cell? ⟨cA, 2, none⟩ = some (.int .i64 ((rd_T75 bA aA).f2)) ∧ w'.cell? ⟨cA, 3, none⟩ = some (.int .i64 ((rd_T75 bA aA).f3)) ∧ w'.cell? ⟨cA, 4, none⟩ = some (.int .i64 ((rd_T75 bA aA).f4)) ∧ w'.cell? ⟨cA, 5, none⟩ = some (.int .i64 ((rd_T75 bA aA).f5)) ∧ w'.cell? ⟨cA, 6, none⟩ = some (.int .i64 ((rd_T75 bA aA).f6)) ∧ w'.cell? ⟨cA, 7, none⟩ = some (.int .i64 ((rd_T75 bA aA).f7)) ∧ w'.cell? ⟨cA, 8, none⟩ = some (.int .i64 ((rd_T75 bA aA).f8)) ∧ w'.cell? ⟨cA, 9, none⟩ = some (.bool ((rd_T75 bA aA).f9)) ∧ w'.cell? ⟨gA, 0, none⟩ = some (.slice (some ad338) bA.length CA) ∧ w'.cell? ⟨gA, 1, none⟩ = some (.int .i64 kA) ∧ w'.cell? ⟨gA, 2, none⟩ = some (.slice TA iA.length DA) ∧ w'.cell? ⟨gA, 3, none⟩ = some (.slice EA hA.length FA)) (ds := []) #[F,F,F,F,F,F,F,F,F,F,F,F,F,F,F,F,F,F,F,F,F] q10_10 rfl rfl ⟨(blk_cell dA.out 0).trans rfl, (blk_cell dA.out 1).trans rfl, (blk_cell dA.out 2).trans rfl, (blk_cell dA.out 3).trans rfl, (blk_cell dA.out 4).trans rfl, (blk_cell dA.out 5).trans rfl, (blk_cell dA.out 6).trans rfl, (blk_cell dA.out 7).trans rfl, (blk_cell dA.out 8).trans rfl, (blk_cell dA.out 9).trans rfl, (blk_cell eA.out 0).trans rfl, (blk_cell eA.out 1).trans rfl, (blk_cell eA.out 2).trans rfl, (blk_cell eA.out 3).trans rfl⟩ (fun hHeld => ?_); refine with_tabW impl_threadOk.tab7 impl_threadOk.bits7 (fun HT_ HW_ => ?_)
            generalize aI.drew = eI at fA eA dA HB hHeld ⊢
            refine q10_p 0 44 #[T,F,F,F,F,F,F,F,F,F,F,F,F,F,F,F,F,F,F,F,F] ?_
            refine q10_p 2 46 #[T,F,T,F,F,F,F,F,F,F,F,F,F,F,F,F,F,F,F,F,F] ?_
            refine q10_p 3 47 #[T,F,T,T,F,F,F,F,F,F,F,F,F,F,F,F,F,F,F,F,F] ?_
            refine take_ (i := 1) (N := some 45) (v := ?_) (a' := ?_) #[T,T,T,T,F,F,F,F,F,F,F,F,F,F,F,F,F,F,F,F,F] rfl rfl (take_ofW HT_.out HW_.out q10_10) (fun _ _ _ h => h) (Or.inl ⟨by rfl, ?_⟩) hHeld ?_ ?_
            rotate_left
            ·rintro w' ⟨s0, s1, s2, s3, s4, s5, s6, s7, s8, s9, GD, HD, ID, JD⟩
             go_simp
             with_reducible rfl
            rotate_left
            ·simp only [Act.put, List.setIfInBounds_toArray, List.set_cons_zero, List.set_cons_succ, i64_w, i32_w]
             rfl
            refine take_ (i := 4) (N := some 48) (v := ?_) (a' := ?_) #[T,T,T,T,T,F,F,F,F,F,F,F,F,F,F,F,F,F,F,F,F] rfl rfl (take_ofW HT_.out HW_.out q10_10) (fun _ _ _ h => h) (Or.inl ⟨by rfl, ?_⟩) hHeld ?_ ?_
            rotate_left
            ·rintro w' ⟨s0, s1, s2, s3, s4, s5, s6, s7, s8, s9, GD, HD, ID, JD⟩
             go_simp
             with_reducible rfl
            rotate_left
            ·simp only [Act.put, List.setIfInBounds_toArray, List.set_cons_zero, List.set_cons_succ, i64_w, i32_w]
             rfl
            refine q10_p 5 49 #[T,T,T,T,T,T,F,F,F,F,F,F,F,F,F,F,F,F,F,F,F] ?_
            refine q10_p 6 50 #[T,T,T,T,T,T,T,F,F,F,F,F,F,F,F,F,F,F,F,F,F] ?_
            refine q10_p 7 51 #[T,T,T,T,T,T,T,T,F,F,F,F,F,F,F,F,F,F,F,F,F] ?_
            refine q10_p 8 52 #[T,T,T,T,T,T,T,T,T,F,F,F,F,F,F,F,F,F,F,F,F] ?_
            refine q10_p 9 53 #[T,T,T,T,T,T,T,T,T,T,F,F,F,F,F,F,F,F,F,F,F] ?_
            refine take_ (i := 10) (N := some 54) (v := ?_) (a' := ?_) #[T,T,T,T,T,T,T,T,T,T,T,F,F,F,F,F,F,F,F,F,F] rfl rfl (take_ofW HT_.out HW_.out q10_10) (fun _ _ _ h => h) (Or.inl ⟨by rfl, ?_⟩) hHeld ?_ ?_
            rotate_left
            ·rintro w' ⟨s0, s1, s2, s3, s4, s5, s6, s7, s8, s9, GD, HD, ID, JD⟩
             go_simp
             with_reducible rfl
            rotate_left
            ·simp only [Act.put, List.setIfInBounds_toArray, List.set_cons_zero, List.set_cons_succ, i64_w, i32_w]
             rfl
            refine q10_p 11 55 #[T,T,T,T,T,T,T,T,T,T,T,T,F,F,F,F,F,F,F,F,F] ?_
            refine q10_p 12 56 #[T,T,T,T,T,T,T,T,T,T,T,T,T,F,F,F,F,F,F,F,F] ?_
            refine q10_u 13 57 #[T,T,T,T,T,T,T,T,T,T,T,T,T,T,F,F,F,F,F,F,F] ?_
            refine q10_u 14 58 #[T,T,T,T,T,T,T,T,T,T,T,T,T,T,T,F,F,F,F,F,F] ?_
            refine q10_u 15 59 #[T,T,T,T,T,T,T,T,T,T,T,T,T,T,T,T,F,F,F,F,F] ?_
            refine q10_u 16 60 #[T,T,T,T,T,T,T,T,T,T,T,T,T,T,T,T,T,F,F,F,F] ?_
            refine q10_u 17 61 #[T,T,T,T,T,T,T,T,T,T,T,T,T,T,T,T,T,T,F,F,F] ?_
            refine q10_u 18 62 #[T,T,T,T,T,T,T,T,T,T,T,T,T,T,T,T,T,T,T,F,F] ?_
            refine q10_p 19 63 #[T,T,T,T,T,T,T,T,T,T,T,T,T,T,T,T,T,T,T,T,F] ?_
            refine q10_p 20 64 #[T,T,T,T,T,T,T,T,T,T,T,T,T,T,T,T,T,T,T,T,T] ?_
            refine done_ (done_of HT_.out q10_10) ?_
            try go_wp2
            go_meet
            case rel => exact ⟨_, (false), q10_11, H', ⟨by have := HJ2.out; have := HK2.out; first | omega | exact Nat.le_refl _⟩, ⟨q10_4⟩, ⟨q10_5⟩, ⟨q10_8⟩, ⟨q10_1⟩⟩
         case rest =>
          clear HC24
          (try clear c1); (try clear c2); (try clear p2); (try clear c3); (try clear p3); (try clear q3); (try clear hx3); (try clear c5); (try clear c26); (try clear c27); (try clear c29); (try clear lB); (try clear BC); (try clear CC); (try clear c32); (try clear DC); (try clear p33); (try clear q33); (try clear hx33); (try clear wB); (try clear xB); (try clear yB); (try clear zB); (try clear AB); (try clear BB); (try clear CB); (try clear DB); (try clear EB); (try clear FB); (try clear GB); (try clear IB); (try clear JB); (try clear KB); (try clear LB); (try clear MB); (try clear NB); (try clear OB); (try clear PB); (try clear QB); (try clear hB); (try clear iB); (try clear jB); (try clear p338); (try clear q338)
          obtain ⟨kq, RB, rfl, HA, HJ23, fA, eA, dA, HB⟩ := hcut
          cases kq with
          | zero => exact absurd HA.out (by simp [impl_threadOk.j2])
          | succ kj23 =>
           have H := HA.out
           clear HA
           simp only [impl_threadOk.j2] at H
           by_cases c39 : RB = true
           ·subst c39
            have H1 : (some false) = some r := by rw [if_pos rfl] at H; exact H
            clear H
            have H := H1
            clear H1
            obtain rfl := Option.some.inj H
            go_wp2
            go_ret
            exact ⟨q10_12, q10_1⟩
           ·replace c39 := Bool.eq_false_iff.mpr c39
            subst c39
            have H1 : (if ((rd_T75 bA aA).f9) = true then (impl_threadOk.j3 kj23 aA (-1) (-1) bA (bA.length : Int) aA true rA sA pA qA mA bA kA iA hA ((rd_T75 bA aA).f0) ((rd_T75 bA aA).f1) ((rd_T75 bA aA).f2) ((rd_T75 bA aA).f3) ((rd_T75 bA aA).f4) ((rd_T75 bA aA).f5) ((rd_T75 bA aA).f6) ((rd_T75 bA aA).f7) ((rd_T75 bA aA).f8) ((rd_T75 bA aA).f9)) else (impl_threadOk.j3 kj23 aA (-1) (-1) bA (bA.length : Int) aA (((rd_T75 bA aA).f3) != 0) rA sA pA qA mA bA kA iA hA ((rd_T75 bA aA).f0) ((rd_T75 bA aA).f1) ((rd_T75 bA aA).f2) ((rd_T75 bA aA).f3) ((rd_T75 bA aA).f4) ((rd_T75 bA aA).f5) ((rd_T75 bA aA).f6) ((rd_T75 bA aA).f7) ((rd_T75 bA aA).f8) ((rd_T75 bA aA).f9))) = some r := by rw [if_neg (show ¬ (false = true) by decide)] at H; exact H
            clear H
            have H := H1
            clear H1
            have HC40 := Aside0.mk H
            clear H
            go_upto_region 10 with (fail)
            go_cut [71] (fun v71 wc => ∃ (kq : Nat) (SB : Bool), v71 = .bool SB ∧ Aside0 (impl_threadOk.j3 kq aA (-1) (-1) bA (bA.length : Int) aA SB rA sA pA qA mA bA kA iA hA ((rd_T75 bA aA).f0) ((rd_T75 bA aA).f1) ((rd_T75 bA aA).f2) ((rd_T75 bA aA).f3) ((rd_T75 bA aA).f4) ((rd_T75 bA aA).f5) ((rd_T75 bA aA).f6) ((rd_T75 bA aA).f7) ((rd_T75 bA aA).f8) ((rd_T75 bA aA).f9) = some r) ∧ Aside0 (kq ≤ kj23) ∧ Aside0 (wc.heap[jA]? = some (.cells #[.int .i64 rA, .int .i64 sA, (.slice NA pA.length OA), (.slice PA qA.length QA), .int .i64 mA] 29 (0, 0))) ∧ Aside0 (wc.heap[gA]? = some (.cells #[(.slice (some ad338) bA.length CA), .int .i64 kA, (.slice TA iA.length DA), (.slice EA hA.length FA)] 55 (0, 0))) ∧ Aside0 (wc.heap[cA]? = some (.cells #[.int .i64 ((rd_T75 bA aA).f0), .int .i64 ((rd_T75 bA aA).f1), .int .i64 ((rd_T75 bA aA).f2), .int .i64 ((rd_T75 bA aA).f3), .int .i64 ((rd_T75 bA aA).f4), .int .i64 ((rd_T75 bA aA).f5), .int .i64 ((rd_T75 bA aA).f6), .int .i64 ((rd_T75 bA aA).f7), .int .i64 ((rd_T75 bA aA).f8), .bool ((rd_T75 bA aA).f9)] 75 (0, 0))) ∧ Aside0 (Below w.heap.size w wc))
            case first =>
             have H := HC40.out
             clear HC40
             by_cases c41 : ((rd_T75 bA aA).f9) = true
             ·rw [if_pos c41] at H
              have nB : ((rd_T75 bA aA).f9) = true := c41
              clear c41
              (first | rw [nB] | (simp only [i64_w, i32_w]; rw [nB]) | skip)
              have H' := Aside0.mk H
              clear H
              have mH := RA.out
              have nH := nA.out
              have oH := SA.out
              have pH := oA.out
              have EC : wc.cell? ⟨cA, 0, none⟩ = some (.int .i64 ((rd_T75 bA aA).f0)) := (blk_cell dA.out 0).trans rfl
              have FC : wc.cell? ⟨cA, 1, none⟩ = some (.int .i64 ((rd_T75 bA aA).f1)) := (blk_cell dA.out 1).trans rfl
              have GC : wc.cell? ⟨cA, 2, none⟩ = some (.int .i64 ((rd_T75 bA aA).f2)) := (blk_cell dA.out 2).trans rfl
              have HC : wc.cell? ⟨cA, 3, none⟩ = some (.int .i64 ((rd_T75 bA aA).f3)) := (blk_cell dA.out 3).trans rfl
              have IC : wc.cell? ⟨cA, 4, none⟩ = some (.int .i64 ((rd_T75 bA aA).f4)) := (blk_cell dA.out 4).trans rfl
              have JC : wc.cell? ⟨cA, 5, none⟩ = some (.int .i64 ((rd_T75 bA aA).f5)) := (blk_cell dA.out 5).trans rfl
              have KC : wc.cell? ⟨cA, 6, none⟩ = some (.int .i64 ((rd_T75 bA aA).f6)) := (blk_cell dA.out 6).trans rfl
              have LC : wc.cell? ⟨cA, 7, none⟩ = some (.int .i64 ((rd_T75 bA aA).f7)) := (blk_cell dA.out 7).trans rfl
              have MC : wc.cell? ⟨cA, 8, none⟩ = some (.int .i64 ((rd_T75 bA aA).f8)) := (blk_cell dA.out 8).trans rfl
              have NC : wc.cell? ⟨cA, 9, none⟩ = some (.bool ((rd_T75 bA aA).f9)) := (blk_cell dA.out 9).trans rfl
              have OC := blk_frozen dA.out 0
              have PC := blk_frozen dA.out 1
              have QC := blk_frozen dA.out 2
              have RC := blk_frozen dA.out 3
              have SC := blk_frozen dA.out 4
              have TC := blk_frozen dA.out 5
              have UC := blk_frozen dA.out 6
              have VC := blk_frozen dA.out 7
              have WC := blk_frozen dA.out 8
              have XC := blk_frozen dA.out 9
              go_wp2
              go_meet
              case rel => exact ⟨_, (true), q10_11, H', ⟨by have := HJ2.out; have := HK2.out; have := HJ23.out; first | omega | exact Nat.le_refl _⟩, ⟨q10_4⟩, ⟨q10_5⟩, ⟨q10_8⟩, ⟨q10_1⟩⟩
             ·rw [if_neg c41] at H
              have nB : ((rd_T75 bA aA).f9) = false := by simpa using c41
              clear c41
              (first | rw [nB] | (simp only [i64_w, i32_w]; rw [nB]) | skip)
              have H' := Aside0.mk H
              clear H
              have qH := RA.out
              have rH := nA.out
              have sH := SA.out
              have tH := oA.out
              have YC : wc.cell? ⟨cA, 0, none⟩ = some (.int .i64 ((rd_T75 bA aA).f0)) := (blk_cell dA.out 0).trans rfl
              have ZC : wc.cell? ⟨cA, 1, none⟩ = some (.int .i64 ((rd_T75 bA aA).f1)) := (blk_cell dA.out 1).trans rfl
              have aD : wc.cell? ⟨cA, 2, none⟩ = some (.int .i64 ((rd_T75 bA aA).f2)) := (blk_cell dA.out 2).trans rfl
              have bD : wc.cell? ⟨cA, 3, none⟩ = some (.int .i64 ((rd_T75 bA aA).f3)) := (blk_cell dA.out 3).trans rfl
              have cD : wc.cell? ⟨cA, 4, none⟩ = some (.int .i64 ((rd_T75 bA aA).f4)) := (blk_cell dA.out 4).trans rfl
              have dD : wc.cell? ⟨cA, 5, none⟩ = some (.int .i64 ((rd_T75 bA aA).f5)) := (blk_cell dA.out 5).trans rfl
              have eD : wc.cell? ⟨cA, 6, none⟩ = some (.int .i64 ((rd_T75 bA aA).f6)) := (blk_cell dA.out 6).trans rfl
              have fD : wc.cell? ⟨cA, 7, none⟩ = some (.int .i64 ((rd_T75 bA aA).f7)) := (blk_cell dA.out 7).trans rfl
              have gD : wc.cell? ⟨cA, 8, none⟩ = some (.int .i64 ((rd_T75 bA aA).f8)) := (blk_cell dA.out 8).trans rfl
              have hD : wc.cell? ⟨cA, 9, none⟩ = some (.bool ((rd_T75 bA aA).f9)) := (blk_cell dA.out 9).trans rfl
              have iD := blk_frozen dA.out 0
              have jD := blk_frozen dA.out 1
              have kD := blk_frozen dA.out 2
              have lD := blk_frozen dA.out 3
              have mD := blk_frozen dA.out 4
              have nD := blk_frozen dA.out 5
              have oD := blk_frozen dA.out 6
              have pD := blk_frozen dA.out 7
              have qD := blk_frozen dA.out 8
              have rD := blk_frozen dA.out 9
              go_wp2
              go_meet
              case rel => exact ⟨_, ((((rd_T75 bA aA).f3) != 0)), q10_11, H', ⟨by have := HJ2.out; have := HK2.out; have := HJ23.out; first | omega | exact Nat.le_refl _⟩, ⟨q10_4⟩, ⟨q10_5⟩, ⟨q10_8⟩, ⟨q10_1⟩⟩
            case rest =>
             clear HC40
             (try clear c1); (try clear c2); (try clear p2); (try clear c3); (try clear p3); (try clear q3); (try clear hx3); (try clear c4); (try clear c5); (try clear c26); (try clear c27); (try clear c29); (try clear lB); (try clear BC); (try clear CC); (try clear c32); (try clear DC); (try clear p33); (try clear q33); (try clear hx33); (try clear c39); (try clear c41); (try clear nB); (try clear c42); (try clear c43); (try clear c45); (try clear c46); (try clear wB); (try clear xB); (try clear yB); (try clear zB); (try clear AB); (try clear BB); (try clear CB); (try clear DB); (try clear EB); (try clear FB); (try clear EC); (try clear FC); (try clear GC); (try clear HC); (try clear IC); (try clear JC); (try clear KC); (try clear LC); (try clear MC); (try clear NC); (try clear YC); (try clear ZC); (try clear aD); (try clear bD); (try clear cD); (try clear dD); (try clear eD); (try clear fD); (try clear gD); (try clear hD); (try clear GB); (try clear IB); (try clear JB); (try clear KB); (try clear LB); (try clear MB); (try clear NB); (try clear OB); (try clear PB); (try clear QB); (try clear OC); (try clear PC); (try clear QC); (try clear RC); (try clear SC); (try clear TC); (try clear UC); (try clear VC); (try clear WC); (try clear XC); (try clear iD); (try clear jD); (try clear kD); (try clear lD); (try clear mD); (try clear nD); (try clear oD); (try clear pD); (try clear qD); (try clear rD); (try clear hB); (try clear iB); (try clear jB); (try clear p2); (try clear p3); (try clear p33); (try clear p338); (try clear q3); (try clear q33); (try clear q338)
             obtain ⟨kq, SB, rfl, HA, HJ39, fA, eA, dA, HB⟩ := hcut
             cases kq with
             | zero => exact absurd HA.out (by simp [impl_threadOk.j3])
             | succ kj39 =>
              have H := HA.out
              clear HA
              simp only [impl_threadOk.j3] at H
              have HC48 := Aside0.mk H
              clear H
              go_upto_if 71 with (fail)
              go_cut [8] (fun v8 wc => ∃ (kq : Nat) (VA : Int), v8 = .int .i64 VA ∧ Aside0 (impl_threadOk.j4 kq aA VA (-1) bA (bA.length : Int) aA rA sA pA qA mA bA kA iA hA ((rd_T75 bA aA).f0) ((rd_T75 bA aA).f1) ((rd_T75 bA aA).f2) ((rd_T75 bA aA).f3) ((rd_T75 bA aA).f4) ((rd_T75 bA aA).f5) ((rd_T75 bA aA).f6) ((rd_T75 bA aA).f7) ((rd_T75 bA aA).f8) ((rd_T75 bA aA).f9) = some r) ∧ Aside0 (kq ≤ kj39) ∧ Aside0 (wc.heap[jA]? = some (.cells #[.int .i64 rA, .int .i64 sA, (.slice NA pA.length OA), (.slice PA qA.length QA), .int .i64 mA] 29 (0, 0))) ∧ Aside0 (wc.heap[gA]? = some (.cells #[(.slice (some ad338) bA.length CA), .int .i64 kA, (.slice TA iA.length DA), (.slice EA hA.length FA)] 55 (0, 0))) ∧ Aside0 (wc.heap[cA]? = some (.cells #[.int .i64 ((rd_T75 bA aA).f0), .int .i64 ((rd_T75 bA aA).f1), .int .i64 ((rd_T75 bA aA).f2), .int .i64 ((rd_T75 bA aA).f3), .int .i64 ((rd_T75 bA aA).f4), .int .i64 ((rd_T75 bA aA).f5), .int .i64 ((rd_T75 bA aA).f6), .int .i64 ((rd_T75 bA aA).f7), .int .i64 ((rd_T75 bA aA).f8), .bool ((rd_T75 bA aA).f9)] 75 (0, 0))) ∧ Aside0 (Below w.heap.size w wc))
              case first =>
               have H := HC48.out
               clear HC48
               by_cases c49 : SB = true
               ·subst c49
                have H1 : (impl_threadOk.j4 kj39 aA 0 (-1) bA (bA.length : Int) aA rA sA pA qA mA bA kA iA hA ((rd_T75 bA aA).f0) ((rd_T75 bA aA).f1) ((rd_T75 bA aA).f2) ((rd_T75 bA aA).f3) ((rd_T75 bA aA).f4) ((rd_T75 bA aA).f5) ((rd_T75 bA aA).f6) ((rd_T75 bA aA).f7) ((rd_T75 bA aA).f8) ((rd_T75 bA aA).f9)) = some r := by rw [if_pos rfl] at H; exact H
                clear H
                have H := H1
                clear H1
                have H' := Aside0.mk H
                clear H
                go_wp2
                go_meet
                case rel => exact ⟨_, (0), q10_11, H', ⟨by have := HJ2.out; have := HK2.out; have := HJ23.out; have := HJ39.out; first | omega | exact Nat.le_refl _⟩, ⟨q10_4⟩, ⟨q10_5⟩, ⟨q10_8⟩, ⟨q10_1⟩⟩
               ·replace c49 := Bool.eq_false_iff.mpr c49
                subst c49
                have H1 : (impl_threadOk.j4 kj39 aA (-1) (-1) bA (bA.length : Int) aA rA sA pA qA mA bA kA iA hA ((rd_T75 bA aA).f0) ((rd_T75 bA aA).f1) ((rd_T75 bA aA).f2) ((rd_T75 bA aA).f3) ((rd_T75 bA aA).f4) ((rd_T75 bA aA).f5) ((rd_T75 bA aA).f6) ((rd_T75 bA aA).f7) ((rd_T75 bA aA).f8) ((rd_T75 bA aA).f9)) = some r := by rw [if_neg (show ¬ (false = true) by decide)] at H; exact H
                clear H
                have H := H1
                clear H1
                have H' := Aside0.mk H
                clear H
                go_wp2
                go_meet
                case rel => exact ⟨_, ((-1)), q10_11, H', ⟨by have := HJ2.out; have := HK2.out; have := HJ23.out; have := HJ39.out; first | omega | exact Nat.le_refl _⟩, ⟨q10_4⟩, ⟨q10_5⟩, ⟨q10_8⟩, ⟨q10_1⟩⟩
              case rest =>
               clear HC48
               (try clear c1); (try clear c2); (try clear p2); (try clear c3); (try clear p3); (try clear q3); (try clear hx3); (try clear c4); (try clear c5); (try clear c26); (try clear c27); (try clear c29); (try clear lB); (try clear BC); (try clear CC); (try clear c32); (try clear DC); (try clear p33); (try clear q33); (try clear hx33); (try clear c39); (try clear c41); (try clear nB); (try clear c42); (try clear c43); (try clear c45); (try clear c46); (try clear c49); (try clear wB); (try clear xB); (try clear yB); (try clear zB); (try clear AB); (try clear BB); (try clear CB); (try clear DB); (try clear EB); (try clear FB); (try clear EC); (try clear FC); (try clear GC); (try clear HC); (try clear IC); (try clear JC); (try clear KC); (try clear LC); (try clear MC); (try clear NC); (try clear YC); (try clear ZC); (try clear aD); (try clear bD); (try clear cD); (try clear dD); (try clear eD); (try clear fD); (try clear gD); (try clear hD); (try clear GB); (try clear IB); (try clear JB); (try clear KB); (try clear LB); (try clear MB); (try clear NB); (try clear OB); (try clear PB); (try clear QB); (try clear OC); (try clear PC); (try clear QC); (try clear RC); (try clear SC); (try clear TC); (try clear UC); (try clear VC); (try clear WC); (try clear XC); (try clear iD); (try clear jD); (try clear kD); (try clear lD); (try clear mD); (try clear nD); (try clear oD); (try clear pD); (try clear qD); (try clear rD); (try clear hB); (try clear iB); (try clear jB); (try clear p2); (try clear p3); (try clear p33); (try clear p338); (try clear q3); (try clear q33); (try clear q338)
               obtain ⟨kq, VA, rfl, HA, HJ47, fA, eA, dA, HB⟩ := hcut
               cases kq with
               | zero => exact absurd HA.out (by simp [impl_threadOk.j4])
               | succ kj47 =>
                have H := HA.out
                clear HA
                simp only [impl_threadOk.j4] at H
                by_cases c50 : 0 ≤ aA
                ·rw [if_pos c50] at H
                 have uH : decide (0 ≤ aA) = true := decide_eq_true c50
                 clear c50
                 by_cases c51 : aA < (iA.length : Int)
                 ·rw [if_pos c51] at H
                  have vH : decide (aA < (iA.length : Int)) = true := decide_eq_true c51
                  clear c51
                  replace H := Option.bind_eq_some_iff.mp H
                  obtain ⟨KD, A520, H⟩ := H
                  replace H : (if KD = true then (if ((rd_T75 bA aA).f9) = true then (if aA < (hA.length : Int) then ((impl_within.f (rd hA aA) 0 (wrap64 (mA - 1))).bind fun WB => (if WB = true then (impl_threadOk.l0 kj47 bA (bA.length : Int) (wrap64 (aA + 1)) rA sA pA qA mA bA kA iA hA) else (some false))) else (none)) else (if aA < (hA.length : Int) then ((impl_within.f (rd hA aA) (-1) (-1)).bind fun XB => (if XB = true then (impl_threadOk.l0 kj47 bA (bA.length : Int) (wrap64 (aA + 1)) rA sA pA qA mA bA kA iA hA) else (some false))) else (none))) else (some false)) = some r := H
                  have A52 := Aside0.mk A520
                  clear A520
                  by_cases c53 : KD = true
                  ·subst c53
                   have H1 : (if ((rd_T75 bA aA).f9) = true then (if aA < (hA.length : Int) then ((impl_within.f (rd hA aA) 0 (wrap64 (mA - 1))).bind fun WB => (if WB = true then (impl_threadOk.l0 kj47 bA (bA.length : Int) (wrap64 (aA + 1)) rA sA pA qA mA bA kA iA hA) else (some false))) else (none)) else (if aA < (hA.length : Int) then ((impl_within.f (rd hA aA) (-1) (-1)).bind fun XB => (if XB = true then (impl_threadOk.l0 kj47 bA (bA.length : Int) (wrap64 (aA + 1)) rA sA pA qA mA bA kA iA hA) else (some false))) else (none))) = some r := by rw [if_pos rfl] at H; exact H
                   clear H
                   have H := H1
                   clear H1
                   by_cases c54 : ((rd_T75 bA aA).f9) = true
                   ·rw [if_pos c54] at H
                    have FE : ((rd_T75 bA aA).f9) = true := c54
                    clear c54
                    by_cases c55 : aA < (hA.length : Int)
                    ·rw [if_pos c55] at H
                     have wH : decide (aA < (hA.length : Int)) = true := decide_eq_true c55
                     clear c55
                     replace H := Option.bind_eq_some_iff.mp H
                     obtain ⟨WB, A560, H⟩ := H
                     replace H : (if WB = true then (impl_threadOk.l0 kj47 bA (bA.length : Int) (wrap64 (aA + 1)) rA sA pA qA mA bA kA iA hA) else (some false)) = some r := H
                     have A56 := Aside0.mk A560
                     clear A560
                     by_cases c57 : WB = true
                     ·subst c57
                      have H1 : (impl_threadOk.l0 kj47 bA (bA.length : Int) (wrap64 (aA + 1)) rA sA pA qA mA bA kA iA hA) = some r := by rw [if_pos rfl] at H; exact H
                      clear H
                      have H := H1
                      clear H1
                      have H' := Aside0.mk H
                      clear H
                      try go_wp2
                      have JA := Aside0.mk (blk_drew fA.out)
                      have KA := Aside0.mk (blk_drew eA.out)
                      have LA := Aside0.mk (blk_drew dA.out)
                      have MA := Aside0.mk (below_drew1 HB.out)
                      clear fA
                      clear eA
                      clear dA
                      clear HB
                      have fA := JA
                      have eA := KA
                      have dA := LA
                      have HB := MA
                      clear JA KA LA MA
                      have p350 : 0 ≤ (aA : Int) := of_decide_eq_true q10_9
                      have q350 : aA < (iA.length : Int) := of_decide_eq_true q10_9
                      obtain ⟨ad350, TB, lA⟩ := Kd.at_int YB.out aA p350 q350
                      have hw350_0 := lA
                      cases TB
                      replace lA := (HB.out.cell (World.block_lt_of_cell? w _ lA)).trans lA
                      replace p350 := eq_true p350
                      replace q350 := eq_true q350
                      refine start_ (n := 11) (S := fun w' => w'.cell? ⟨gA, 0, none⟩ = some (.slice (some ad338) bA.length CA) ∧ w'.cell? ⟨gA, 1, none⟩ = some (.int .i64 kA) ∧ w'.cell? ⟨gA, 2, none⟩ = some (.slice (some ad350) iA.length DA) ∧ w'.cell? ⟨gA, 3, none⟩ = some (.slice EA hA.length FA) ∧ w'.cell? ⟨jA, 0, none⟩ = some (.int .i64 rA) ∧ w'.cell? ⟨jA, 1, none⟩ = some (.int .i64 sA) ∧ w'.cell? ⟨jA, 2, none⟩ = some (.slice NA pA.length OA) ∧ w'.cell? ⟨jA, 3, none⟩ = some (.slice PA qA.length QA) ∧ w'.cell? ⟨jA, 4, none⟩ = some (.int .i64 mA) ∧ w'.cell? (ad350.add (aA).toNat) = some (.int .i64 (rd iA aA))) (ds := []) #[F,F,F,F,F,F,F,F,F,F,F] q10_10 rfl rfl ⟨(blk_cell eA.out 0).trans rfl, (blk_cell eA.out 1).trans rfl, (blk_cell eA.out 2).trans rfl, (blk_cell eA.out 3).trans rfl, (blk_cell fA.out 0).trans rfl, (blk_cell fA.out 1).trans rfl, (blk_cell fA.out 2).trans rfl, (blk_cell fA.out 3).trans rfl, (blk_cell fA.out 4).trans rfl, ((HB.out.cell (World.block_lt_of_cell? w _ hw350_0)).trans hw350_0)⟩ (fun hHeld => ?_); refine with_tabW impl_threadOk.tab12 impl_threadOk.bits12 (fun HT_ HW_ => ?_)
                      generalize wc.drew = UB at fA eA dA HB lA hHeld ⊢
                      refine q10_p 0 72 #[T,F,F,F,F,F,F,F,F,F,F] ?_
                      refine q10_p 2 74 #[T,F,T,F,F,F,F,F,F,F,F] ?_
                      refine q10_p 5 77 #[T,F,T,F,F,T,F,F,F,F,F] ?_
                      refine q10_p 6 78 #[T,F,T,F,F,T,T,F,F,F,F] ?_
                      refine take_ (i := 1) (N := some 73) (v := ?_) (a' := ?_) #[T,T,T,F,F,T,T,F,F,F,F] rfl rfl (take_ofW HT_.out HW_.out q10_10) (fun _ _ _ h => h) (Or.inl ⟨by rfl, ?_⟩) hHeld ?_ ?_
                      rotate_left
                      ·rintro w' ⟨s0, s1, s2, s3, s4, s5, s6, s7, s8, s9⟩
                       go_simp
                       with_reducible rfl
                      rotate_left
                      ·simp only [Act.put, List.setIfInBounds_toArray, List.set_cons_zero, List.set_cons_succ, i64_w, i32_w]
                       rfl
                      refine q10_p 3 75 #[T,T,T,T,F,T,T,F,F,F,F] ?_
                      refine take_ (i := 4) (N := some 76) (v := ?_) (a' := ?_) #[T,T,T,T,T,T,T,F,F,F,F] rfl rfl (take_ofW HT_.out HW_.out q10_10) (fun _ _ _ h => h) (Or.inl ⟨by rfl, ?_⟩) hHeld ?_ ?_
                      rotate_left
                      ·rintro w' ⟨s0, s1, s2, s3, s4, s5, s6, s7, s8, s9⟩
                       go_simp
                       with_reducible rfl
                      rotate_left
                      ·simp only [Act.put, List.setIfInBounds_toArray, List.set_cons_zero, List.set_cons_succ, i64_w, i32_w]
                       rfl
                      refine take_ (i := 7) (N := some 79) (v := ?_) (a' := ?_) #[T,T,T,T,T,T,T,T,F,F,F] rfl rfl (take_ofW HT_.out HW_.out q10_10) (fun _ _ _ h => h) (Or.inl ⟨by rfl, ?_⟩) hHeld ?_ ?_
                      rotate_left
                      ·rintro w' ⟨s0, s1, s2, s3, s4, s5, s6, s7, s8, s9⟩
                       go_simp
                       with_reducible rfl
                      rotate_left
                      ·simp only [Act.put, List.setIfInBounds_toArray, List.set_cons_zero, List.set_cons_succ, i64_w, i32_w]
                       rfl
                      refine q10_p 8 80 #[T,T,T,T,T,T,T,T,T,F,F] ?_
                      refine one_ (i := 9) (N := some 81) #[T,T,T,T,T,T,T,T,T,T,F] rfl rfl (one_of HT_.out q10_10) (by decide) (fun K hK => ?_)
                      refine goes_ Try.func90 q10_10 rfl #[.int .i64 (rd iA aA), .int .i64 VA, .int .i64 (wrap64 (mA - 1))] (by rfl) rfl rfl q10_7 ?_
                      with_reducible refine (impl_within.calls (rd iA aA) VA (wrap64 (mA - 1)) true _ A52.out).mono ?_
                      rintro e w' ⟨rfl, ⟨nd, rfl⟩⟩
                      refine ⟨_, rfl, ?_⟩
                      refine hK.out _ _ ⟨(blk_cell eA.out 0).trans rfl, (blk_cell eA.out 1).trans rfl, (blk_cell eA.out 2).trans rfl, (blk_cell eA.out 3).trans rfl, (blk_cell fA.out 0).trans rfl, (blk_cell fA.out 1).trans rfl, (blk_cell fA.out 2).trans rfl, (blk_cell fA.out 3).trans rfl, (blk_cell fA.out 4).trans rfl, ((HB.out.cell (World.block_lt_of_cell? w _ hw350_0)).trans hw350_0)⟩ (fun hHeld => ?_)
                      clear hK K
                      refine norm_ (a' := ?_) ?_ ?_
                      rotate_left
                      ·show Act.put _ (some 81) _ = _
                       simp only [Act.put, List.setIfInBounds_toArray, List.set_cons_zero, List.set_cons_succ, i64_w, i32_w]
                       rfl
                      refine q10_p 10 82 #[T,T,T,T,T,T,T,T,T,T,T] ?_
                      refine done_ (done_of HT_.out q10_10) ?_
                      have xH := RA.out
                      have yH := nA.out
                      have zH := SA.out
                      have AH := oA.out
                      have GE : UB.cell? ⟨cA, 0, none⟩ = some (.int .i64 ((rd_T75 bA aA).f0)) := (blk_cell dA.out 0).trans rfl
                      have HE : UB.cell? ⟨cA, 1, none⟩ = some (.int .i64 ((rd_T75 bA aA).f1)) := (blk_cell dA.out 1).trans rfl
                      have IE : UB.cell? ⟨cA, 2, none⟩ = some (.int .i64 ((rd_T75 bA aA).f2)) := (blk_cell dA.out 2).trans rfl
                      have JE : UB.cell? ⟨cA, 3, none⟩ = some (.int .i64 ((rd_T75 bA aA).f3)) := (blk_cell dA.out 3).trans rfl
                      have KE : UB.cell? ⟨cA, 4, none⟩ = some (.int .i64 ((rd_T75 bA aA).f4)) := (blk_cell dA.out 4).trans rfl
                      have LE : UB.cell? ⟨cA, 5, none⟩ = some (.int .i64 ((rd_T75 bA aA).f5)) := (blk_cell dA.out 5).trans rfl
                      have ME : UB.cell? ⟨cA, 6, none⟩ = some (.int .i64 ((rd_T75 bA aA).f6)) := (blk_cell dA.out 6).trans rfl
                      have NE : UB.cell? ⟨cA, 7, none⟩ = some (.int .i64 ((rd_T75 bA aA).f7)) := (blk_cell dA.out 7).trans rfl
                      have OE : UB.cell? ⟨cA, 8, none⟩ = some (.int .i64 ((rd_T75 bA aA).f8)) := (blk_cell dA.out 8).trans rfl
                      have PE : UB.cell? ⟨cA, 9, none⟩ = some (.bool ((rd_T75 bA aA).f9)) := (blk_cell dA.out 9).trans rfl
                      have QE := blk_frozen dA.out 0
                      have RE := blk_frozen dA.out 1
                      have SE := blk_frozen dA.out 2
                      have TE := blk_frozen dA.out 3
                      have UE := blk_frozen dA.out 4
                      have VE := blk_frozen dA.out 5
                      have WE := blk_frozen dA.out 6
                      have XE := blk_frozen dA.out 7
                      have YE := blk_frozen dA.out 8
                      have ZE := blk_frozen dA.out 9
                      try go_wp2
                      (try (rw [drewN_self UB]; generalize hq_ : World.drewN UB _ = UB; have JA : Aside0 (UB.heap[jA]? = some (.cells #[.int .i64 rA, .int .i64 sA, .slice NA pA.length OA, .slice PA qA.length QA, .int .i64 mA] 29 (0, 0))) := ⟨by rw [← hq_]; exact q10_4⟩; have KA : Aside0 (UB.heap[gA]? = some (.cells #[.slice (some ad338) bA.length CA, .int .i64 kA, .slice (some ad350) iA.length DA, .slice EA hA.length FA] 55 (0, 0))) := ⟨by rw [← hq_]; exact q10_5⟩; have LA : Aside0 (UB.heap[cA]? = some (.cells #[.int .i64 ((rd_T75 bA aA).f0), .int .i64 ((rd_T75 bA aA).f1), .int .i64 ((rd_T75 bA aA).f2), .int .i64 ((rd_T75 bA aA).f3), .int .i64 ((rd_T75 bA aA).f4), .int .i64 ((rd_T75 bA aA).f5), .int .i64 ((rd_T75 bA aA).f6), .int .i64 ((rd_T75 bA aA).f7), .int .i64 ((rd_T75 bA aA).f8), .bool ((rd_T75 bA aA).f9)] 75 (0, 0))) := ⟨by rw [← hq_]; exact q10_8⟩; have MA : Aside0 (Below w.heap.size w UB) := ⟨by rw [← hq_]; exact q10_1⟩; clear fA eA dA HB hq_; have fA := JA; have eA := KA; have dA := LA; have HB := MA; clear JA KA LA MA))
                      have JA := Aside0.mk (blk_drew fA.out)
                      have KA := Aside0.mk (blk_drew eA.out)
                      have LA := Aside0.mk (blk_drew dA.out)
                      have MA := Aside0.mk (below_drew1 HB.out)
                      clear fA
                      clear eA
                      clear dA
                      clear HB
                      have fA := JA
                      have eA := KA
                      have dA := LA
                      have HB := MA
                      clear JA KA LA MA
                      refine start_ (n := 5) (S := fun w' => w'.cell? ⟨jA, 0, none⟩ = some (.int .i64 rA) ∧ w'.cell? ⟨jA, 1, none⟩ = some (.int .i64 sA) ∧ w'.cell? ⟨jA, 2, none⟩ = some (.slice NA pA.length OA) ∧ w'.cell? ⟨jA, 3, none⟩ = some (.slice PA qA.length QA) ∧ w'.cell? ⟨jA, 4, none⟩ = some (.int .i64 mA)) (ds := []) #[F,F,F,F,F] q10_10 rfl rfl ⟨(blk_cell fA.out 0).trans rfl, (blk_cell fA.out 1).trans rfl, (blk_cell fA.out 2).trans rfl, (blk_cell fA.out 3).trans rfl, (blk_cell fA.out 4).trans rfl⟩ (fun hHeld => ?_)
                      generalize UB.drew = aF at fA eA dA HB hHeld ⊢
                      refine pure_ (i := 0) (N := some 85) (v := ?_) (a' := ?_) #[T,F,F,F,F] rfl rfl q10_10 (fun _ _ _ h => h) (Or.inl ⟨by rfl, ?_⟩) ?_ ?_
                      rotate_left
                      ·intro w'
                       go_simp
                       with_reducible rfl
                      rotate_left
                      ·simp only [Act.put, List.setIfInBounds_toArray, List.set_cons_zero, List.set_cons_succ, i64_w, i32_w]
                       rfl
                      refine pure_ (i := 3) (N := some 8) (v := ?_) (a' := ?_) #[T,F,F,T,F] rfl rfl q10_10 (fun _ _ _ h => h) (Or.inl ⟨by rfl, ?_⟩) ?_ ?_
                      rotate_left
                      ·intro w'
                       go_simp
                       with_reducible rfl
                      rotate_left
                      ·simp only [Act.put, List.setIfInBounds_toArray, List.set_cons_zero, List.set_cons_succ, i64_w, i32_w]
                       rfl
                      refine take_ (i := 1) (N := some 86) (v := ?_) (a' := ?_) #[T,T,F,T,F] rfl rfl q10_10 (fun _ _ _ h => h) (Or.inl ⟨by rfl, ?_⟩) hHeld ?_ ?_
                      rotate_left
                      ·rintro w' ⟨s0, s1, s2, s3, s4⟩
                       go_simp
                       with_reducible rfl
                      rotate_left
                      ·simp only [Act.put, List.setIfInBounds_toArray, List.set_cons_zero, List.set_cons_succ, i64_w, i32_w]
                       rfl
                      refine pure_ (i := 2) (N := some 87) (v := ?_) (a' := ?_) #[T,T,T,T,F] rfl rfl q10_10 (fun _ _ _ h => h) (Or.inl ⟨by rfl, ?_⟩) ?_ ?_
                      rotate_left
                      ·intro w'
                       go_simp
                       with_reducible rfl
                      rotate_left
                      ·simp only [Act.put, List.setIfInBounds_toArray, List.set_cons_zero, List.set_cons_succ, i64_w, i32_w]
                       rfl
                      refine pure_ (i := 4) (N := some 9) (v := ?_) (a' := ?_) #[T,T,T,T,T] rfl rfl q10_10 (fun _ _ _ h => h) (Or.inl ⟨by rfl, ?_⟩) ?_ ?_
                      rotate_left
                      ·intro w'
                       go_simp
                       with_reducible rfl
                      rotate_left
                      ·simp only [Act.put, List.setIfInBounds_toArray, List.set_cons_zero, List.set_cons_succ, i64_w, i32_w]
                       rfl
                      refine done_ q10_10 ?_
                      have BH := IA.out
                      have CH := GA.out
                      have bF : aF.cell? ⟨gA, 0, none⟩ = some (.slice (some ad338) bA.length CA) := (blk_cell eA.out 0).trans rfl
                      have cF : aF.cell? ⟨gA, 1, none⟩ = some (.int .i64 kA) := (blk_cell eA.out 1).trans rfl
                      have dF : aF.cell? ⟨gA, 2, none⟩ = some (.slice (some ad350) iA.length DA) := (blk_cell eA.out 2).trans rfl
                      have eF : aF.cell? ⟨gA, 3, none⟩ = some (.slice EA hA.length FA) := (blk_cell eA.out 3).trans rfl
                      have fF := blk_frozen eA.out 0
                      have gF := blk_frozen eA.out 1
                      have hF := blk_frozen eA.out 2
                      have iF := blk_frozen eA.out 3
                      have p352 : 0 ≤ (aA : Int) := of_decide_eq_true q10_9
                      have q352 : aA < (hA.length : Int) := of_decide_eq_true q10_9
                      obtain ⟨ad352, lE, XA⟩ := Kd.at_int bC.out aA p352 q352
                      cases lE
                      replace XA := (HB.out.cell (World.block_lt_of_cell? w _ XA)).trans XA
                      replace p352 := eq_true p352
                      replace q352 := eq_true q352
                      try go_wp2_with (first | ((with_reducible refine gate_callee (f := 90) rfl ?_); refine goesL_ (some 95) rfl rfl Try.func90 q10_10 rfl #[.int .i64 (rd hA aA), .int .i64 0, .int .i64 (wrap64 (mA - 1))] rfl q10_7 ?_; (with_reducible refine (impl_within.calls (rd hA aA) 0 (wrap64 (mA - 1)) true _ A56.out).mono ?_); rintro e w' ⟨rfl, ⟨nd, rfl⟩⟩; refine ⟨_, rfl, ?_⟩))
                      go_roundg kj47
                      case measure => have := HJ2.out; have := HK2.out; have := HJ23.out; have := HJ39.out; have := HJ47.out; omega
                      case rel => exact ⟨(wrap64 (aA + 1)), q10_11, H', ⟨by have := HJ2.out; have := HK2.out; have := HJ23.out; have := HJ39.out; have := HJ47.out; omega⟩, ⟨q10_4⟩, ⟨q10_5⟩, ⟨q10_1⟩⟩
                     ·replace c57 := Bool.eq_false_iff.mpr c57
                      subst c57
                      have H1 : (some false) = some r := by rw [if_neg (show ¬ (false = true) by decide)] at H; exact H
                      clear H
                      have H := H1
                      clear H1
                      obtain rfl := Option.some.inj H
                      try go_wp2
                      have JA := Aside0.mk (blk_drew fA.out)
                      have KA := Aside0.mk (blk_drew eA.out)
                      have LA := Aside0.mk (blk_drew dA.out)
                      have MA := Aside0.mk (below_drew1 HB.out)
                      clear fA
                      clear eA
                      clear dA
                      clear HB
                      have fA := JA
                      have eA := KA
                      have dA := LA
                      have HB := MA
                      clear JA KA LA MA
                      have p350 : 0 ≤ (aA : Int) := of_decide_eq_true q10_9
                      have q350 : aA < (iA.length : Int) := of_decide_eq_true q10_9
                      obtain ⟨ad350, TB, lA⟩ := Kd.at_int YB.out aA p350 q350
                      have hw350_0 := lA
                      cases TB
                      replace lA := (HB.out.cell (World.block_lt_of_cell? w _ lA)).trans lA
                      replace p350 := eq_true p350
                      replace q350 := eq_true q350
                      refine start_ (n := 11) (S := fun w' => w'.cell? ⟨gA, 0, none⟩ = some (.slice (some ad338) bA.length CA) ∧ w'.cell? ⟨gA, 1, none⟩ = some (.int .i64 kA) ∧ w'.cell? ⟨gA, 2, none⟩ = some (.slice (some ad350) iA.length DA) ∧ w'.cell? ⟨gA, 3, none⟩ = some (.slice EA hA.length FA) ∧ w'.cell? ⟨jA, 0, none⟩ = some (.int .i64 rA) ∧ w'.cell? ⟨jA, 1, none⟩ = some (.int .i64 sA) ∧ w'.cell? ⟨jA, 2, none⟩ = some (.slice NA pA.length OA) ∧ w'.cell? ⟨jA, 3, none⟩ = some (.slice PA qA.length QA) ∧ w'.cell? ⟨jA, 4, none⟩ = some (.int .i64 mA) ∧ w'.cell? (ad350.add (aA).toNat) = some (.int .i64 (rd iA aA))) (ds := []) #[F,F,F,F,F,F,F,F,F,F,F] q10_10 rfl rfl ⟨(blk_cell eA.out 0).trans rfl, (blk_cell eA.out 1).trans rfl, (blk_cell eA.out 2).trans rfl, (blk_cell eA.out 3).trans rfl, (blk_cell fA.out 0).trans rfl, (blk_cell fA.out 1).trans rfl, (blk_cell fA.out 2).trans rfl, (blk_cell fA.out 3).trans rfl, (blk_cell fA.out 4).trans rfl, ((HB.out.cell (World.block_lt_of_cell? w _ hw350_0)).trans hw350_0)⟩ (fun hHeld => ?_); refine with_tabW impl_threadOk.tab12 impl_threadOk.bits12 (fun HT_ HW_ => ?_)
                      generalize wc.drew = VB at fA eA dA HB lA hHeld ⊢
                      refine q10_p 0 72 #[T,F,F,F,F,F,F,F,F,F,F] ?_
                      refine q10_p 2 74 #[T,F,T,F,F,F,F,F,F,F,F] ?_
                      refine q10_p 5 77 #[T,F,T,F,F,T,F,F,F,F,F] ?_
                      refine q10_p 6 78 #[T,F,T,F,F,T,T,F,F,F,F] ?_
                      refine take_ (i := 1) (N := some 73) (v := ?_) (a' := ?_) #[T,T,T,F,F,T,T,F,F,F,F] rfl rfl (take_ofW HT_.out HW_.out q10_10) (fun _ _ _ h => h) (Or.inl ⟨by rfl, ?_⟩) hHeld ?_ ?_
                      rotate_left
                      ·rintro w' ⟨s0, s1, s2, s3, s4, s5, s6, s7, s8, s9⟩
                       go_simp
                       with_reducible rfl
                      rotate_left
                      ·simp only [Act.put, List.setIfInBounds_toArray, List.set_cons_zero, List.set_cons_succ, i64_w, i32_w]
                       rfl
                      refine q10_p 3 75 #[T,T,T,T,F,T,T,F,F,F,F] ?_
                      refine take_ (i := 4) (N := some 76) (v := ?_) (a' := ?_) #[T,T,T,T,T,T,T,F,F,F,F] rfl rfl (take_ofW HT_.out HW_.out q10_10) (fun _ _ _ h => h) (Or.inl ⟨by rfl, ?_⟩) hHeld ?_ ?_
                      rotate_left
                      ·rintro w' ⟨s0, s1, s2, s3, s4, s5, s6, s7, s8, s9⟩
                       go_simp
                       with_reducible rfl
                      rotate_left
                      ·simp only [Act.put, List.setIfInBounds_toArray, List.set_cons_zero, List.set_cons_succ, i64_w, i32_w]
                       rfl
                      refine take_ (i := 7) (N := some 79) (v := ?_) (a' := ?_) #[T,T,T,T,T,T,T,T,F,F,F] rfl rfl (take_ofW HT_.out HW_.out q10_10) (fun _ _ _ h => h) (Or.inl ⟨by rfl, ?_⟩) hHeld ?_ ?_
                      rotate_left
                      ·rintro w' ⟨s0, s1, s2, s3, s4, s5, s6, s7, s8, s9⟩
                       go_simp
                       with_reducible rfl
                      rotate_left
                      ·simp only [Act.put, List.setIfInBounds_toArray, List.set_cons_zero, List.set_cons_succ, i64_w, i32_w]
                       rfl
                      refine q10_p 8 80 #[T,T,T,T,T,T,T,T,T,F,F] ?_
                      refine one_ (i := 9) (N := some 81) #[T,T,T,T,T,T,T,T,T,T,F] rfl rfl (one_of HT_.out q10_10) (by decide) (fun K hK => ?_)
                      refine goes_ Try.func90 q10_10 rfl #[.int .i64 (rd iA aA), .int .i64 VA, .int .i64 (wrap64 (mA - 1))] (by rfl) rfl rfl q10_7 ?_
                      with_reducible refine (impl_within.calls (rd iA aA) VA (wrap64 (mA - 1)) true _ A52.out).mono ?_
                      rintro e w' ⟨rfl, ⟨nd, rfl⟩⟩
                      refine ⟨_, rfl, ?_⟩
                      refine hK.out _ _ ⟨(blk_cell eA.out 0).trans rfl, (blk_cell eA.out 1).trans rfl, (blk_cell eA.out 2).trans rfl, (blk_cell eA.out 3).trans rfl, (blk_cell fA.out 0).trans rfl, (blk_cell fA.out 1).trans rfl, (blk_cell fA.out 2).trans rfl, (blk_cell fA.out 3).trans rfl, (blk_cell fA.out 4).trans rfl, ((HB.out.cell (World.block_lt_of_cell? w _ hw350_0)).trans hw350_0)⟩ (fun hHeld => ?_)
                      clear hK K
                      refine norm_ (a' := ?_) ?_ ?_
                      rotate_left
                      ·show Act.put _ (some 81) _ = _
                       simp only [Act.put, List.setIfInBounds_toArray, List.set_cons_zero, List.set_cons_succ, i64_w, i32_w]
                       rfl
                      refine q10_p 10 82 #[T,T,T,T,T,T,T,T,T,T,T] ?_
                      refine done_ (done_of HT_.out q10_10) ?_
                      have DH := RA.out
                      have EH := nA.out
                      have FH := SA.out
                      have GH := oA.out
                      have jF : VB.cell? ⟨cA, 0, none⟩ = some (.int .i64 ((rd_T75 bA aA).f0)) := (blk_cell dA.out 0).trans rfl
                      have kF : VB.cell? ⟨cA, 1, none⟩ = some (.int .i64 ((rd_T75 bA aA).f1)) := (blk_cell dA.out 1).trans rfl
                      have lF : VB.cell? ⟨cA, 2, none⟩ = some (.int .i64 ((rd_T75 bA aA).f2)) := (blk_cell dA.out 2).trans rfl
                      have mF : VB.cell? ⟨cA, 3, none⟩ = some (.int .i64 ((rd_T75 bA aA).f3)) := (blk_cell dA.out 3).trans rfl
                      have nF : VB.cell? ⟨cA, 4, none⟩ = some (.int .i64 ((rd_T75 bA aA).f4)) := (blk_cell dA.out 4).trans rfl
                      have oF : VB.cell? ⟨cA, 5, none⟩ = some (.int .i64 ((rd_T75 bA aA).f5)) := (blk_cell dA.out 5).trans rfl
                      have pF : VB.cell? ⟨cA, 6, none⟩ = some (.int .i64 ((rd_T75 bA aA).f6)) := (blk_cell dA.out 6).trans rfl
                      have qF : VB.cell? ⟨cA, 7, none⟩ = some (.int .i64 ((rd_T75 bA aA).f7)) := (blk_cell dA.out 7).trans rfl
                      have rF : VB.cell? ⟨cA, 8, none⟩ = some (.int .i64 ((rd_T75 bA aA).f8)) := (blk_cell dA.out 8).trans rfl
                      have sF : VB.cell? ⟨cA, 9, none⟩ = some (.bool ((rd_T75 bA aA).f9)) := (blk_cell dA.out 9).trans rfl
                      have tF := blk_frozen dA.out 0
                      have uF := blk_frozen dA.out 1
                      have vF := blk_frozen dA.out 2
                      have wF := blk_frozen dA.out 3
                      have xF := blk_frozen dA.out 4
                      have yF := blk_frozen dA.out 5
                      have zF := blk_frozen dA.out 6
                      have AF := blk_frozen dA.out 7
                      have BF := blk_frozen dA.out 8
                      have CF := blk_frozen dA.out 9
                      try go_wp2
                      (try (rw [drewN_self VB]; generalize hq_ : World.drewN VB _ = VB; have JA : Aside0 (VB.heap[jA]? = some (.cells #[.int .i64 rA, .int .i64 sA, .slice NA pA.length OA, .slice PA qA.length QA, .int .i64 mA] 29 (0, 0))) := ⟨by rw [← hq_]; exact q10_4⟩; have KA : Aside0 (VB.heap[gA]? = some (.cells #[.slice (some ad338) bA.length CA, .int .i64 kA, .slice (some ad350) iA.length DA, .slice EA hA.length FA] 55 (0, 0))) := ⟨by rw [← hq_]; exact q10_5⟩; have LA : Aside0 (VB.heap[cA]? = some (.cells #[.int .i64 ((rd_T75 bA aA).f0), .int .i64 ((rd_T75 bA aA).f1), .int .i64 ((rd_T75 bA aA).f2), .int .i64 ((rd_T75 bA aA).f3), .int .i64 ((rd_T75 bA aA).f4), .int .i64 ((rd_T75 bA aA).f5), .int .i64 ((rd_T75 bA aA).f6), .int .i64 ((rd_T75 bA aA).f7), .int .i64 ((rd_T75 bA aA).f8), .bool ((rd_T75 bA aA).f9)] 75 (0, 0))) := ⟨by rw [← hq_]; exact q10_8⟩; have MA : Aside0 (Below w.heap.size w VB) := ⟨by rw [← hq_]; exact q10_1⟩; clear fA eA dA HB hq_; have fA := JA; have eA := KA; have dA := LA; have HB := MA; clear JA KA LA MA))
                      have JA := Aside0.mk (blk_drew fA.out)
                      have KA := Aside0.mk (blk_drew eA.out)
                      have LA := Aside0.mk (blk_drew dA.out)
                      have MA := Aside0.mk (below_drew1 HB.out)
                      clear fA
                      clear eA
                      clear dA
                      clear HB
                      have fA := JA
                      have eA := KA
                      have dA := LA
                      have HB := MA
                      clear JA KA LA MA
                      refine start_ (n := 5) (S := fun w' => w'.cell? ⟨jA, 0, none⟩ = some (.int .i64 rA) ∧ w'.cell? ⟨jA, 1, none⟩ = some (.int .i64 sA) ∧ w'.cell? ⟨jA, 2, none⟩ = some (.slice NA pA.length OA) ∧ w'.cell? ⟨jA, 3, none⟩ = some (.slice PA qA.length QA) ∧ w'.cell? ⟨jA, 4, none⟩ = some (.int .i64 mA)) (ds := []) #[F,F,F,F,F] q10_10 rfl rfl ⟨(blk_cell fA.out 0).trans rfl, (blk_cell fA.out 1).trans rfl, (blk_cell fA.out 2).trans rfl, (blk_cell fA.out 3).trans rfl, (blk_cell fA.out 4).trans rfl⟩ (fun hHeld => ?_)
                      generalize VB.drew = DF at fA eA dA HB hHeld ⊢
                      refine pure_ (i := 0) (N := some 85) (v := ?_) (a' := ?_) #[T,F,F,F,F] rfl rfl q10_10 (fun _ _ _ h => h) (Or.inl ⟨by rfl, ?_⟩) ?_ ?_
                      rotate_left
                      ·intro w'
                       go_simp
                       with_reducible rfl
                      rotate_left
                      ·simp only [Act.put, List.setIfInBounds_toArray, List.set_cons_zero, List.set_cons_succ, i64_w, i32_w]
                       rfl
                      refine pure_ (i := 3) (N := some 8) (v := ?_) (a' := ?_) #[T,F,F,T,F] rfl rfl q10_10 (fun _ _ _ h => h) (Or.inl ⟨by rfl, ?_⟩) ?_ ?_
                      rotate_left
                      ·intro w'
                       go_simp
                       with_reducible rfl
                      rotate_left
                      ·simp only [Act.put, List.setIfInBounds_toArray, List.set_cons_zero, List.set_cons_succ, i64_w, i32_w]
                       rfl
                      refine take_ (i := 1) (N := some 86) (v := ?_) (a' := ?_) #[T,T,F,T,F] rfl rfl q10_10 (fun _ _ _ h => h) (Or.inl ⟨by rfl, ?_⟩) hHeld ?_ ?_
                      rotate_left
                      ·rintro w' ⟨s0, s1, s2, s3, s4⟩
                       go_simp
                       with_reducible rfl
                      rotate_left
                      ·simp only [Act.put, List.setIfInBounds_toArray, List.set_cons_zero, List.set_cons_succ, i64_w, i32_w]
                       rfl
                      refine pure_ (i := 2) (N := some 87) (v := ?_) (a' := ?_) #[T,T,T,T,F] rfl rfl q10_10 (fun _ _ _ h => h) (Or.inl ⟨by rfl, ?_⟩) ?_ ?_
                      rotate_left
                      ·intro w'
                       go_simp
                       with_reducible rfl
                      rotate_left
                      ·simp only [Act.put, List.setIfInBounds_toArray, List.set_cons_zero, List.set_cons_succ, i64_w, i32_w]
                       rfl
                      refine pure_ (i := 4) (N := some 9) (v := ?_) (a' := ?_) #[T,T,T,T,T] rfl rfl q10_10 (fun _ _ _ h => h) (Or.inl ⟨by rfl, ?_⟩) ?_ ?_
                      rotate_left
                      ·intro w'
                       go_simp
                       with_reducible rfl
                      rotate_left
                      ·simp only [Act.put, List.setIfInBounds_toArray, List.set_cons_zero, List.set_cons_succ, i64_w, i32_w]
                       rfl
                      refine done_ q10_10 ?_
                      have HH := IA.out
                      have IH := GA.out
                      have EF : DF.cell? ⟨gA, 0, none⟩ = some (.slice (some ad338) bA.length CA) := (blk_cell eA.out 0).trans rfl
                      have FF : DF.cell? ⟨gA, 1, none⟩ = some (.int .i64 kA) := (blk_cell eA.out 1).trans rfl
                      have GF : DF.cell? ⟨gA, 2, none⟩ = some (.slice (some ad350) iA.length DA) := (blk_cell eA.out 2).trans rfl
                      have HF : DF.cell? ⟨gA, 3, none⟩ = some (.slice EA hA.length FA) := (blk_cell eA.out 3).trans rfl
                      have IF := blk_frozen eA.out 0
                      have JF := blk_frozen eA.out 1
                      have KF := blk_frozen eA.out 2
                      have LF := blk_frozen eA.out 3
                      have p352 : 0 ≤ (aA : Int) := of_decide_eq_true q10_9
                      have q352 : aA < (hA.length : Int) := of_decide_eq_true q10_9
                      obtain ⟨ad352, lE, XA⟩ := Kd.at_int bC.out aA p352 q352
                      cases lE
                      replace XA := (HB.out.cell (World.block_lt_of_cell? w _ XA)).trans XA
                      replace p352 := eq_true p352
                      replace q352 := eq_true q352
                      try go_wp2_with (first | ((with_reducible refine gate_callee (f := 90) rfl ?_); refine goesL_ (some 95) rfl rfl Try.func90 q10_10 rfl #[.int .i64 (rd hA aA), .int .i64 0, .int .i64 (wrap64 (mA - 1))] rfl q10_7 ?_; (with_reducible refine (impl_within.calls (rd hA aA) 0 (wrap64 (mA - 1)) false _ A56.out).mono ?_); rintro e w' ⟨rfl, ⟨nd, rfl⟩⟩; refine ⟨_, rfl, ?_⟩))
                      go_ret
                      exact ⟨q10_12, q10_1⟩
                    ·rw [if_neg c55] at H
                     exact absurd H (by simp)
                   ·rw [if_neg c54] at H
                    have FE : ((rd_T75 bA aA).f9) = false := by simpa using c54
                    clear c54
                    by_cases c72 : aA < (hA.length : Int)
                    ·rw [if_pos c72] at H
                     have JH : decide (aA < (hA.length : Int)) = true := decide_eq_true c72
                     clear c72
                     replace H := Option.bind_eq_some_iff.mp H
                     obtain ⟨XB, A730, H⟩ := H
                     replace H : (if XB = true then (impl_threadOk.l0 kj47 bA (bA.length : Int) (wrap64 (aA + 1)) rA sA pA qA mA bA kA iA hA) else (some false)) = some r := H
                     have A73 := Aside0.mk A730
                     clear A730
                     by_cases c74 : XB = true
                     ·subst c74
                      have H1 : (impl_threadOk.l0 kj47 bA (bA.length : Int) (wrap64 (aA + 1)) rA sA pA qA mA bA kA iA hA) = some r := by rw [if_pos rfl] at H; exact H
                      clear H
                      have H := H1
                      clear H1
                      have H' := Aside0.mk H
                      clear H
                      try go_wp2
                      have JA := Aside0.mk (blk_drew fA.out)
                      have KA := Aside0.mk (blk_drew eA.out)
                      have LA := Aside0.mk (blk_drew dA.out)
                      have MA := Aside0.mk (below_drew1 HB.out)
                      clear fA
                      clear eA
                      clear dA
                      clear HB
                      have fA := JA
                      have eA := KA
                      have dA := LA
                      have HB := MA
                      clear JA KA LA MA
                      have p350 : 0 ≤ (aA : Int) := of_decide_eq_true q10_9
                      have q350 : aA < (iA.length : Int) := of_decide_eq_true q10_9
                      obtain ⟨ad350, TB, lA⟩ := Kd.at_int YB.out aA p350 q350
                      have hw350_0 := lA
                      cases TB
                      replace lA := (HB.out.cell (World.block_lt_of_cell? w _ lA)).trans lA
                      replace p350 := eq_true p350
                      replace q350 := eq_true q350
                      refine start_ (n := 11) (S := fun w' => w'.cell? ⟨gA, 0, none⟩ = some (.slice (some ad338) bA.length CA) ∧ w'.cell? ⟨gA, 1, none⟩ = some (.int .i64 kA) ∧ w'.cell? ⟨gA, 2, none⟩ = some (.slice (some ad350) iA.length DA) ∧ w'.cell? ⟨gA, 3, none⟩ = some (.slice EA hA.length FA) ∧ w'.cell? ⟨jA, 0, none⟩ = some (.int .i64 rA) ∧ w'.cell? ⟨jA, 1, none⟩ = some (.int .i64 sA) ∧ w'.cell? ⟨jA, 2, none⟩ = some (.slice NA pA.length OA) ∧ w'.cell? ⟨jA, 3, none⟩ = some (.slice PA qA.length QA) ∧ w'.cell? ⟨jA, 4, none⟩ = some (.int .i64 mA) ∧ w'.cell? (ad350.add (aA).toNat) = some (.int .i64 (rd iA aA))) (ds := []) #[F,F,F,F,F,F,F,F,F,F,F] q10_10 rfl rfl ⟨(blk_cell eA.out 0).trans rfl, (blk_cell eA.out 1).trans rfl, (blk_cell eA.out 2).trans rfl, (blk_cell eA.out 3).trans rfl, (blk_cell fA.out 0).trans rfl, (blk_cell fA.out 1).trans rfl, (blk_cell fA.out 2).trans rfl, (blk_cell fA.out 3).trans rfl, (blk_cell fA.out 4).trans rfl, ((HB.out.cell (World.block_lt_of_cell? w _ hw350_0)).trans hw350_0)⟩ (fun hHeld => ?_); refine with_tabW impl_threadOk.tab12 impl_threadOk.bits12 (fun HT_ HW_ => ?_)
                      generalize wc.drew = sD at fA eA dA HB lA hHeld ⊢
                      refine q10_p 0 72 #[T,F,F,F,F,F,F,F,F,F,F] ?_
                      refine q10_p 2 74 #[T,F,T,F,F,F,F,F,F,F,F] ?_
                      refine q10_p 5 77 #[T,F,T,F,F,T,F,F,F,F,F] ?_
                      refine q10_p 6 78 #[T,F,T,F,F,T,T,F,F,F,F] ?_
                      refine take_ (i := 1) (N := some 73) (v := ?_) (a' := ?_) #[T,T,T,F,F,T,T,F,F,F,F] rfl rfl (take_ofW HT_.out HW_.out q10_10) (fun _ _ _ h => h) (Or.inl ⟨by rfl, ?_⟩) hHeld ?_ ?_
                      rotate_left
                      ·rintro w' ⟨s0, s1, s2, s3, s4, s5, s6, s7, s8, s9⟩
                       go_simp
                       with_reducible rfl
                      rotate_left
                      ·simp only [Act.put, List.setIfInBounds_toArray, List.set_cons_zero, List.set_cons_succ, i64_w, i32_w]
                       rfl
                      refine q10_p 3 75 #[T,T,T,T,F,T,T,F,F,F,F] ?_
                      refine take_ (i := 4) (N := some 76) (v := ?_) (a' := ?_) #[T,T,T,T,T,T,T,F,F,F,F] rfl rfl (take_ofW HT_.out HW_.out q10_10) (fun _ _ _ h => h) (Or.inl ⟨by rfl, ?_⟩) hHeld ?_ ?_
                      rotate_left
                      ·rintro w' ⟨s0, s1, s2, s3, s4, s5, s6, s7, s8, s9⟩
                       go_simp
                       with_reducible rfl
                      rotate_left
                      ·simp only [Act.put, List.setIfInBounds_toArray, List.set_cons_zero, List.set_cons_succ, i64_w, i32_w]
                       rfl
                      refine take_ (i := 7) (N := some 79) (v := ?_) (a' := ?_) #[T,T,T,T,T,T,T,T,F,F,F] rfl rfl (take_ofW HT_.out HW_.out q10_10) (fun _ _ _ h => h) (Or.inl ⟨by rfl, ?_⟩) hHeld ?_ ?_
                      rotate_left
                      ·rintro w' ⟨s0, s1, s2, s3, s4, s5, s6, s7, s8, s9⟩
                       go_simp
                       with_reducible rfl
                      rotate_left
                      ·simp only [Act.put, List.setIfInBounds_toArray, List.set_cons_zero, List.set_cons_succ, i64_w, i32_w]
                       rfl
                      refine q10_p 8 80 #[T,T,T,T,T,T,T,T,T,F,F] ?_
                      refine one_ (i := 9) (N := some 81) #[T,T,T,T,T,T,T,T,T,T,F] rfl rfl (one_of HT_.out q10_10) (by decide) (fun K hK => ?_)
                      refine goes_ Try.func90 q10_10 rfl #[.int .i64 (rd iA aA), .int .i64 VA, .int .i64 (wrap64 (mA - 1))] (by rfl) rfl rfl q10_7 ?_
                      with_reducible refine (impl_within.calls (rd iA aA) VA (wrap64 (mA - 1)) true _ A52.out).mono ?_
                      rintro e w' ⟨rfl, ⟨nd, rfl⟩⟩
                      refine ⟨_, rfl, ?_⟩
                      refine hK.out _ _ ⟨(blk_cell eA.out 0).trans rfl, (blk_cell eA.out 1).trans rfl, (blk_cell eA.out 2).trans rfl, (blk_cell eA.out 3).trans rfl, (blk_cell fA.out 0).trans rfl, (blk_cell fA.out 1).trans rfl, (blk_cell fA.out 2).trans rfl, (blk_cell fA.out 3).trans rfl, (blk_cell fA.out 4).trans rfl, ((HB.out.cell (World.block_lt_of_cell? w _ hw350_0)).trans hw350_0)⟩ (fun hHeld => ?_)
                      clear hK K
                      refine norm_ (a' := ?_) ?_ ?_
                      rotate_left
                      ·show Act.put _ (some 81) _ = _
                       simp only [Act.put, List.setIfInBounds_toArray, List.set_cons_zero, List.set_cons_succ, i64_w, i32_w]
                       rfl
                      refine q10_p 10 82 #[T,T,T,T,T,T,T,T,T,T,T] ?_
                      refine done_ (done_of HT_.out q10_10) ?_
                      have KH := RA.out
                      have LH := nA.out
                      have MH := SA.out
                      have NH := oA.out
                      have MF : sD.cell? ⟨cA, 0, none⟩ = some (.int .i64 ((rd_T75 bA aA).f0)) := (blk_cell dA.out 0).trans rfl
                      have NF : sD.cell? ⟨cA, 1, none⟩ = some (.int .i64 ((rd_T75 bA aA).f1)) := (blk_cell dA.out 1).trans rfl
                      have OF : sD.cell? ⟨cA, 2, none⟩ = some (.int .i64 ((rd_T75 bA aA).f2)) := (blk_cell dA.out 2).trans rfl
                      have PF : sD.cell? ⟨cA, 3, none⟩ = some (.int .i64 ((rd_T75 bA aA).f3)) := (blk_cell dA.out 3).trans rfl
                      have QF : sD.cell? ⟨cA, 4, none⟩ = some (.int .i64 ((rd_T75 bA aA).f4)) := (blk_cell dA.out 4).trans rfl
                      have RF : sD.cell? ⟨cA, 5, none⟩ = some (.int .i64 ((rd_T75 bA aA).f5)) := (blk_cell dA.out 5).trans rfl
                      have SF : sD.cell? ⟨cA, 6, none⟩ = some (.int .i64 ((rd_T75 bA aA).f6)) := (blk_cell dA.out 6).trans rfl
                      have TF : sD.cell? ⟨cA, 7, none⟩ = some (.int .i64 ((rd_T75 bA aA).f7)) := (blk_cell dA.out 7).trans rfl
                      have UF : sD.cell? ⟨cA, 8, none⟩ = some (.int .i64 ((rd_T75 bA aA).f8)) := (blk_cell dA.out 8).trans rfl
                      have VF : sD.cell? ⟨cA, 9, none⟩ = some (.bool ((rd_T75 bA aA).f9)) := (blk_cell dA.out 9).trans rfl
                      have WF := blk_frozen dA.out 0
                      have XF := blk_frozen dA.out 1
                      have YF := blk_frozen dA.out 2
                      have ZF := blk_frozen dA.out 3
                      have aG := blk_frozen dA.out 4
                      have bG := blk_frozen dA.out 5
                      have cG := blk_frozen dA.out 6
                      have dG := blk_frozen dA.out 7
                      have eG := blk_frozen dA.out 8
                      have fG := blk_frozen dA.out 9
                      have OH := IA.out
                      have PH := GA.out
                      have gG : sD.cell? ⟨gA, 0, none⟩ = some (.slice (some ad338) bA.length CA) := (blk_cell eA.out 0).trans rfl
                      have hG : sD.cell? ⟨gA, 1, none⟩ = some (.int .i64 kA) := (blk_cell eA.out 1).trans rfl
                      have iG : sD.cell? ⟨gA, 2, none⟩ = some (.slice (some ad350) iA.length DA) := (blk_cell eA.out 2).trans rfl
                      have jG : sD.cell? ⟨gA, 3, none⟩ = some (.slice EA hA.length FA) := (blk_cell eA.out 3).trans rfl
                      have kG := blk_frozen eA.out 0
                      have lG := blk_frozen eA.out 1
                      have mG := blk_frozen eA.out 2
                      have nG := blk_frozen eA.out 3
                      have p354 : 0 ≤ (aA : Int) := of_decide_eq_true q10_9
                      have q354 : aA < (hA.length : Int) := of_decide_eq_true q10_9
                      obtain ⟨ad354, mE, YA⟩ := Kd.at_int bC.out aA p354 q354
                      cases mE
                      replace YA := (HB.out.cell (World.block_lt_of_cell? w _ YA)).trans YA
                      replace p354 := eq_true p354
                      replace q354 := eq_true q354
                      try go_wp2_with (first | ((with_reducible refine gate_callee (f := 90) rfl ?_); refine goesL_ (some 95) rfl rfl Try.func90 q10_10 rfl #[.int .i64 (rd hA aA), .int .i64 (-1), .int .i64 (-1)] rfl q10_7 ?_; (with_reducible refine (impl_within.calls (rd hA aA) (-1) (-1) true _ A73.out).mono ?_); rintro e w' ⟨rfl, ⟨nd, rfl⟩⟩; refine ⟨_, rfl, ?_⟩))
                      go_roundg kj47
                      case measure => have := HJ2.out; have := HK2.out; have := HJ23.out; have := HJ39.out; have := HJ47.out; omega
                      case rel => exact ⟨(wrap64 (aA + 1)), q10_11, H', ⟨by have := HJ2.out; have := HK2.out; have := HJ23.out; have := HJ39.out; have := HJ47.out; omega⟩, ⟨q10_4⟩, ⟨q10_5⟩, ⟨q10_1⟩⟩
                     ·replace c74 := Bool.eq_false_iff.mpr c74
                      subst c74
                      have H1 : (some false) = some r := by rw [if_neg (show ¬ (false = true) by decide)] at H; exact H
                      clear H
                      have H := H1
                      clear H1
                      obtain rfl := Option.some.inj H
                      try go_wp2
                      have JA := Aside0.mk (blk_drew fA.out)
                      have KA := Aside0.mk (blk_drew eA.out)
                      have LA := Aside0.mk (blk_drew dA.out)
                      have MA := Aside0.mk (below_drew1 HB.out)
                      clear fA
                      clear eA
                      clear dA
                      clear HB
                      have fA := JA
                      have eA := KA
                      have dA := LA
                      have HB := MA
                      clear JA KA LA MA
                      have p350 : 0 ≤ (aA : Int) := of_decide_eq_true q10_9
                      have q350 : aA < (iA.length : Int) := of_decide_eq_true q10_9
                      obtain ⟨ad350, TB, lA⟩ := Kd.at_int YB.out aA p350 q350
                      have hw350_0 := lA
                      cases TB
                      replace lA := (HB.out.cell (World.block_lt_of_cell? w _ lA)).trans lA
                      replace p350 := eq_true p350
                      replace q350 := eq_true q350
                      refine start_ (n := 11) (S := fun w' => w'.cell? ⟨gA, 0, none⟩ = some (.slice (some ad338) bA.length CA) ∧ w'.cell? ⟨gA, 1, none⟩ = some (.int .i64 kA) ∧ w'.cell? ⟨gA, 2, none⟩ = some (.slice (some ad350) iA.length DA) ∧ w'.cell? ⟨gA, 3, none⟩ = some (.slice EA hA.length FA) ∧ w'.cell? ⟨jA, 0, none⟩ = some (.int .i64 rA) ∧ w'.cell? ⟨jA, 1, none⟩ = some (.int .i64 sA) ∧ w'.cell? ⟨jA, 2, none⟩ = some (.slice NA pA.length OA) ∧ w'.cell? ⟨jA, 3, none⟩ = some (.slice PA qA.length QA) ∧ w'.cell? ⟨jA, 4, none⟩ = some (.int .i64 mA) ∧ w'.cell? (ad350.add (aA).toNat) = some (.int .i64 (rd iA aA))) (ds := []) #[F,F,F,F,F,F,F,F,F,F,F] q10_10 rfl rfl ⟨(blk_cell eA.out 0).trans rfl, (blk_cell eA.out 1).trans rfl, (blk_cell eA.out 2).trans rfl, (blk_cell eA.out 3).trans rfl, (blk_cell fA.out 0).trans rfl, (blk_cell fA.out 1).trans rfl, (blk_cell fA.out 2).trans rfl, (blk_cell fA.out 3).trans rfl, (blk_cell fA.out 4).trans rfl, ((HB.out.cell (World.block_lt_of_cell? w _ hw350_0)).trans hw350_0)⟩ (fun hHeld => ?_); refine with_tabW impl_threadOk.tab12 impl_threadOk.bits12 (fun HT_ HW_ => ?_)
                      generalize wc.drew = tD at fA eA dA HB lA hHeld ⊢
                      refine q10_p 0 72 #[T,F,F,F,F,F,F,F,F,F,F] ?_
                      refine q10_p 2 74 #[T,F,T,F,F,F,F,F,F,F,F] ?_
                      refine q10_p 5 77 #[T,F,T,F,F,T,F,F,F,F,F] ?_
                      refine q10_p 6 78 #[T,F,T,F,F,T,T,F,F,F,F] ?_
                      refine take_ (i := 1) (N := some 73) (v := ?_) (a' := ?_) #[T,T,T,F,F,T,T,F,F,F,F] rfl rfl (take_ofW HT_.out HW_.out q10_10) (fun _ _ _ h => h) (Or.inl ⟨by rfl, ?_⟩) hHeld ?_ ?_
                      rotate_left
                      ·rintro w' ⟨s0, s1, s2, s3, s4, s5, s6, s7, s8, s9⟩
                       go_simp
                       with_reducible rfl
                      rotate_left
                      ·simp only [Act.put, List.setIfInBounds_toArray, List.set_cons_zero, List.set_cons_succ, i64_w, i32_w]
                       rfl
                      refine q10_p 3 75 #[T,T,T,T,F,T,T,F,F,F,F] ?_
                      refine take_ (i := 4) (N := some 76) (v := ?_) (a' := ?_) #[T,T,T,T,T,T,T,F,F,F,F] rfl rfl (take_ofW HT_.out HW_.out q10_10) (fun _ _ _ h => h) (Or.inl ⟨by rfl, ?_⟩) hHeld ?_ ?_
                      rotate_left
                      ·rintro w' ⟨s0, s1, s2, s3, s4, s5, s6, s7, s8, s9⟩
                       go_simp
                       with_reducible rfl
                      rotate_left
                      ·simp only [Act.put, List.setIfInBounds_toArray, List.set_cons_zero, List.set_cons_succ, i64_w, i32_w]
                       rfl
                      refine take_ (i := 7) (N := some 79) (v := ?_) (a' := ?_) #[T,T,T,T,T,T,T,T,F,F,F] rfl rfl (take_ofW HT_.out HW_.out q10_10) (fun _ _ _ h => h) (Or.inl ⟨by rfl, ?_⟩) hHeld ?_ ?_
                      rotate_left
                      ·rintro w' ⟨s0, s1, s2, s3, s4, s5, s6, s7, s8, s9⟩
                       go_simp
                       with_reducible rfl
                      rotate_left
                      ·simp only [Act.put, List.setIfInBounds_toArray, List.set_cons_zero, List.set_cons_succ, i64_w, i32_w]
                       rfl
                      refine q10_p 8 80 #[T,T,T,T,T,T,T,T,T,F,F] ?_
                      refine one_ (i := 9) (N := some 81) #[T,T,T,T,T,T,T,T,T,T,F] rfl rfl (one_of HT_.out q10_10) (by decide) (fun K hK => ?_)
                      refine goes_ Try.func90 q10_10 rfl #[.int .i64 (rd iA aA), .int .i64 VA, .int .i64 (wrap64 (mA - 1))] (by rfl) rfl rfl q10_7 ?_
                      with_reducible refine (impl_within.calls (rd iA aA) VA (wrap64 (mA - 1)) true _ A52.out).mono ?_
                      rintro e w' ⟨rfl, ⟨nd, rfl⟩⟩
                      refine ⟨_, rfl, ?_⟩
                      refine hK.out _ _ ⟨(blk_cell eA.out 0).trans rfl, (blk_cell eA.out 1).trans rfl, (blk_cell eA.out 2).trans rfl, (blk_cell eA.out 3).trans rfl, (blk_cell fA.out 0).trans rfl, (blk_cell fA.out 1).trans rfl, (blk_cell fA.out 2).trans rfl, (blk_cell fA.out 3).trans rfl, (blk_cell fA.out 4).trans rfl, ((HB.out.cell (World.block_lt_of_cell? w _ hw350_0)).trans hw350_0)⟩ (fun hHeld => ?_)
                      clear hK K
                      refine norm_ (a' := ?_) ?_ ?_
                      rotate_left
                      ·show Act.put _ (some 81) _ = _
                       simp only [Act.put, List.setIfInBounds_toArray, List.set_cons_zero, List.set_cons_succ, i64_w, i32_w]
                       rfl
                      refine q10_p 10 82 #[T,T,T,T,T,T,T,T,T,T,T] ?_
                      refine done_ (done_of HT_.out q10_10) ?_
                      have QH := RA.out
                      have RH := nA.out
                      have SH := SA.out
                      have TH := oA.out
                      have oG : tD.cell? ⟨cA, 0, none⟩ = some (.int .i64 ((rd_T75 bA aA).f0)) := (blk_cell dA.out 0).trans rfl
                      have pG : tD.cell? ⟨cA, 1, none⟩ = some (.int .i64 ((rd_T75 bA aA).f1)) := (blk_cell dA.out 1).trans rfl
                      have qG : tD.cell? ⟨cA, 2, none⟩ = some (.int .i64 ((rd_T75 bA aA).f2)) := (blk_cell dA.out 2).trans rfl
                      have rG : tD.cell? ⟨cA, 3, none⟩ = some (.int .i64 ((rd_T75 bA aA).f3)) := (blk_cell dA.out 3).trans rfl
                      have sG : tD.cell? ⟨cA, 4, none⟩ = some (.int .i64 ((rd_T75 bA aA).f4)) := (blk_cell dA.out 4).trans rfl
                      have tG : tD.cell? ⟨cA, 5, none⟩ = some (.int .i64 ((rd_T75 bA aA).f5)) := (blk_cell dA.out 5).trans rfl
                      have uG : tD.cell? ⟨cA, 6, none⟩ = some (.int .i64 ((rd_T75 bA aA).f6)) := (blk_cell dA.out 6).trans rfl
                      have vG : tD.cell? ⟨cA, 7, none⟩ = some (.int .i64 ((rd_T75 bA aA).f7)) := (blk_cell dA.out 7).trans rfl
                      have wG : tD.cell? ⟨cA, 8, none⟩ = some (.int .i64 ((rd_T75 bA aA).f8)) := (blk_cell dA.out 8).trans rfl
                      have xG : tD.cell? ⟨cA, 9, none⟩ = some (.bool ((rd_T75 bA aA).f9)) := (blk_cell dA.out 9).trans rfl
                      have yG := blk_frozen dA.out 0
                      have zG := blk_frozen dA.out 1
                      have AG := blk_frozen dA.out 2
                      have BG := blk_frozen dA.out 3
                      have CG := blk_frozen dA.out 4
                      have DG := blk_frozen dA.out 5
                      have EG := blk_frozen dA.out 6
                      have FG := blk_frozen dA.out 7
                      have GG := blk_frozen dA.out 8
                      have HG := blk_frozen dA.out 9
                      have UH := IA.out
                      have VH := GA.out
                      have IG : tD.cell? ⟨gA, 0, none⟩ = some (.slice (some ad338) bA.length CA) := (blk_cell eA.out 0).trans rfl
                      have JG : tD.cell? ⟨gA, 1, none⟩ = some (.int .i64 kA) := (blk_cell eA.out 1).trans rfl
                      have KG : tD.cell? ⟨gA, 2, none⟩ = some (.slice (some ad350) iA.length DA) := (blk_cell eA.out 2).trans rfl
                      have LG : tD.cell? ⟨gA, 3, none⟩ = some (.slice EA hA.length FA) := (blk_cell eA.out 3).trans rfl
                      have MG := blk_frozen eA.out 0
                      have NG := blk_frozen eA.out 1
                      have OG := blk_frozen eA.out 2
                      have PG := blk_frozen eA.out 3
                      have p354 : 0 ≤ (aA : Int) := of_decide_eq_true q10_9
                      have q354 : aA < (hA.length : Int) := of_decide_eq_true q10_9
                      obtain ⟨ad354, mE, YA⟩ := Kd.at_int bC.out aA p354 q354
                      cases mE
                      replace YA := (HB.out.cell (World.block_lt_of_cell? w _ YA)).trans YA
                      replace p354 := eq_true p354
                      replace q354 := eq_true q354
                      try go_wp2_with (first | ((with_reducible refine gate_callee (f := 90) rfl ?_); refine goesL_ (some 95) rfl rfl Try.func90 q10_10 rfl #[.int .i64 (rd hA aA), .int .i64 (-1), .int .i64 (-1)] rfl q10_7 ?_; (with_reducible refine (impl_within.calls (rd hA aA) (-1) (-1) false _ A73.out).mono ?_); rintro e w' ⟨rfl, ⟨nd, rfl⟩⟩; refine ⟨_, rfl, ?_⟩))
                      go_ret
                      exact ⟨q10_12, q10_1⟩
                    ·rw [if_neg c72] at H
                     exact absurd H (by simp)
                  ·replace c53 := Bool.eq_false_iff.mpr c53
                   subst c53
                   have H1 : (some false) = some r := by rw [if_neg (show ¬ (false = true) by decide)] at H; exact H
                   clear H
                   have H := H1
                   clear H1
                   obtain rfl := Option.some.inj H
                   try go_wp2
                   have JA := Aside0.mk (blk_drew fA.out)
                   have KA := Aside0.mk (blk_drew eA.out)
                   have LA := Aside0.mk (blk_drew dA.out)
                   have MA := Aside0.mk (below_drew1 HB.out)
                   clear fA
                   clear eA
                   clear dA
                   clear HB
                   have fA := JA
                   have eA := KA
                   have dA := LA
                   have HB := MA
                   clear JA KA LA MA
                   have p350 : 0 ≤ (aA : Int) := of_decide_eq_true q10_9
                   have q350 : aA < (iA.length : Int) := of_decide_eq_true q10_9
                   obtain ⟨ad350, TB, lA⟩ := Kd.at_int YB.out aA p350 q350
                   have hw350_0 := lA
                   cases TB
                   replace lA := (HB.out.cell (World.block_lt_of_cell? w _ lA)).trans lA
                   replace p350 := eq_true p350
                   replace q350 := eq_true q350
                   refine start_ (n := 11) (S := fun w' => w'.cell? ⟨gA, 0, none⟩ = some (.slice (some ad338) bA.length CA) ∧ w'.cell? ⟨gA, 1, none⟩ = some (.int .i64 kA) ∧ w'.cell? ⟨gA, 2, none⟩ = some (.slice (some ad350) iA.length DA) ∧ w'.cell? ⟨gA, 3, none⟩ = some (.slice EA hA.length FA) ∧ w'.cell? ⟨jA, 0, none⟩ = some (.int .i64 rA) ∧ w'.cell? ⟨jA, 1, none⟩ = some (.int .i64 sA) ∧ w'.cell? ⟨jA, 2, none⟩ = some (.slice NA pA.length OA) ∧ w'.cell? ⟨jA, 3, none⟩ = some (.slice PA qA.length QA) ∧ w'.cell? ⟨jA, 4, none⟩ = some (.int .i64 mA) ∧ w'.cell? (ad350.add (aA).toNat) = some (.int .i64 (rd iA aA))) (ds := []) #[F,F,F,F,F,F,F,F,F,F,F] q10_10 rfl rfl ⟨(blk_cell eA.out 0).trans rfl, (blk_cell eA.out 1).trans rfl, (blk_cell eA.out 2).trans rfl, (blk_cell eA.out 3).trans rfl, (blk_cell fA.out 0).trans rfl, (blk_cell fA.out 1).trans rfl, (blk_cell fA.out 2).trans rfl, (blk_cell fA.out 3).trans rfl, (blk_cell fA.out 4).trans rfl, ((HB.out.cell (World.block_lt_of_cell? w _ hw350_0)).trans hw350_0)⟩ (fun hHeld => ?_); refine with_tabW impl_threadOk.tab12 impl_threadOk.bits12 (fun HT_ HW_ => ?_)
                   generalize wc.drew = fI at fA eA dA HB lA hHeld ⊢
                   refine q10_p 0 72 #[T,F,F,F,F,F,F,F,F,F,F] ?_
                   refine q10_p 2 74 #[T,F,T,F,F,F,F,F,F,F,F] ?_
                   refine q10_p 5 77 #[T,F,T,F,F,T,F,F,F,F,F] ?_
                   refine q10_p 6 78 #[T,F,T,F,F,T,T,F,F,F,F] ?_
                   refine take_ (i := 1) (N := some 73) (v := ?_) (a' := ?_) #[T,T,T,F,F,T,T,F,F,F,F] rfl rfl (take_ofW HT_.out HW_.out q10_10) (fun _ _ _ h => h) (Or.inl ⟨by rfl, ?_⟩) hHeld ?_ ?_
                   rotate_left
                   ·rintro w' ⟨s0, s1, s2, s3, s4, s5, s6, s7, s8, s9⟩
                    go_simp
                    with_reducible rfl
                   rotate_left
                   ·simp only [Act.put, List.setIfInBounds_toArray, List.set_cons_zero, List.set_cons_succ, i64_w, i32_w]
                    rfl
                   refine q10_p 3 75 #[T,T,T,T,F,T,T,F,F,F,F] ?_
                   refine take_ (i := 4) (N := some 76) (v := ?_) (a' := ?_) #[T,T,T,T,T,T,T,F,F,F,F] rfl rfl (take_ofW HT_.out HW_.out q10_10) (fun _ _ _ h => h) (Or.inl ⟨by rfl, ?_⟩) hHeld ?_ ?_
                   rotate_left
                   ·rintro w' ⟨s0, s1, s2, s3, s4, s5, s6, s7, s8, s9⟩
                    go_simp
                    with_reducible rfl
                   rotate_left
                   ·simp only [Act.put, List.setIfInBounds_toArray, List.set_cons_zero, List.set_cons_succ, i64_w, i32_w]
                    rfl
                   refine take_ (i := 7) (N := some 79) (v := ?_) (a' := ?_) #[T,T,T,T,T,T,T,T,F,F,F] rfl rfl (take_ofW HT_.out HW_.out q10_10) (fun _ _ _ h => h) (Or.inl ⟨by rfl, ?_⟩) hHeld ?_ ?_
                   rotate_left
                   ·rintro w' ⟨s0, s1, s2, s3, s4, s5, s6, s7, s8, s9⟩
                    go_simp
                    with_reducible rfl
                   rotate_left
                   ·simp only [Act.put, List.setIfInBounds_toArray, List.set_cons_zero, List.set_cons_succ, i64_w, i32_w]
                    rfl
                   refine q10_p 8 80 #[T,T,T,T,T,T,T,T,T,F,F] ?_
                   refine one_ (i := 9) (N := some 81) #[T,T,T,T,T,T,T,T,T,T,F] rfl rfl (one_of HT_.out q10_10) (by decide) (fun K hK => ?_)
                   refine goes_ Try.func90 q10_10 rfl #[.int .i64 (rd iA aA), .int .i64 VA, .int .i64 (wrap64 (mA - 1))] (by rfl) rfl rfl q10_7 ?_
                   with_reducible refine (impl_within.calls (rd iA aA) VA (wrap64 (mA - 1)) false _ A52.out).mono ?_
                   rintro e w' ⟨rfl, ⟨nd, rfl⟩⟩
                   refine ⟨_, rfl, ?_⟩
                   refine hK.out _ _ ⟨(blk_cell eA.out 0).trans rfl, (blk_cell eA.out 1).trans rfl, (blk_cell eA.out 2).trans rfl, (blk_cell eA.out 3).trans rfl, (blk_cell fA.out 0).trans rfl, (blk_cell fA.out 1).trans rfl, (blk_cell fA.out 2).trans rfl, (blk_cell fA.out 3).trans rfl, (blk_cell fA.out 4).trans rfl, ((HB.out.cell (World.block_lt_of_cell? w _ hw350_0)).trans hw350_0)⟩ (fun hHeld => ?_)
                   clear hK K
                   refine norm_ (a' := ?_) ?_ ?_
                   rotate_left
                   ·show Act.put _ (some 81) _ = _
                    simp only [Act.put, List.setIfInBounds_toArray, List.set_cons_zero, List.set_cons_succ, i64_w, i32_w]
                    rfl
                   refine q10_p 10 82 #[T,T,T,T,T,T,T,T,T,T,T] ?_
                   refine done_ (done_of HT_.out q10_10) ?_
                   try go_wp2
                   go_ret
                   exact ⟨q10_12, q10_1⟩
                 ·rw [if_neg c51] at H
                  exact absurd H (by simp)
                ·rw [if_neg c50] at H
                 exact absurd H (by simp)
        ·rw [if_neg c23] at H
         exact absurd H (by simp)
       ·rw [if_neg c22] at H
        exact absurd H (by simp)
      ·rw [if_neg c21] at H
       have zE : decide (aA < (bA.length : Int)) = false := decide_eq_false c21
       clear c21
       obtain rfl := Option.some.inj H
       go_wp2
       go_ret
       exact ⟨q10_12, q10_6⟩

end Go.Proofs.Ytndkfjecipjiaaa.PFnExactCrewOk
