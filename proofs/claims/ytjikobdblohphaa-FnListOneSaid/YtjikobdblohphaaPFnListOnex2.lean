-- Written by the session's own patched copy of the printer (wip/patch_print.py).
import Derived.Test.YtjikobdblohphaaPFnListOnex0
import Derived.Test.YtjikobdblohphaaPFnListOnex1
namespace Go.Proofs.Ytjikobdblohphaa.PFnListOne
open Go.RowKit Go.Proofs.YtjikobdblohphaaW.PrintWords Go.Proofs.YtjikobdblohphaaW.PrintLast Go.Proofs.YtjikobdblohphaaW.PrintMore
attribute [local go_sem] max2_int min2_int max_two min_two max_three min_three max_four min_four   -- for this text's walks alone
set_option linter.unusedVariables false
set_option linter.unusedSimpArgs false

theorem Z2b {w : World} {g : Nat} {t : TypeId} {cs : Array Value} (h : w.heap[g]? = some (.cells cs t (0, 0))) (i : Nat) (v : Value) (e : cs[i]? = some v := by rfl) : w.cell? ⟨g, i, none⟩ = some v := (blk_cell h i).trans e
theorem Z2c {w : World} {g a i j : Nat} {u : Value} (h : g ≠ a) : (w.setCell ⟨a, i, none⟩ u).cell? ⟨g, j, none⟩ = w.cell? ⟨g, j, none⟩ := cell_far (p := ⟨a, _, none⟩) h _
theorem Z2d {p : Prop} (h : p) : Aside0 p := ⟨h⟩
theorem Z2a {w : World} {g : Nat} {t : TypeId} {cs : Array Value} (h : w.heap[g]? = some (.cells cs t (0, 0))) (i : Nat) : w.frozen? ⟨g, i, none⟩ = false := blk_frozen h i
theorem Z2f {P : Program} {ops : Array Oper} {Q : Exit → Act → World → Prop} {md : Region.Mode} {S : World → Prop} {ds : List Nat} (i n : Nat) {oi : Oper} {v : Value} {fuel : Nat} {l : Array Bool} {a : Act} {w : World} (l' : Array Bool) {a' : Act} (h : wpAnyLast P md ops Q S ds fuel l' a' w) (hi : ops[i]? = some oi := by rfl) (hN : oi.dst = some n := by rfl) (hc : anyB md ops l l' i = true := by exact any_of HT_.out (by kernel_rfl)) (hQ : ∀ c a w, Q (.panic c) (a.put oi.dst v) w → Q (.panic c) a w := by exact fun _ _ _ h => h) (hy : Yields P ops oi v a := by refine Or.inl ⟨by rfl, ?_⟩; intro w'; go_simp; with_reducible rfl) (ha : a.put (some n) v = a' := by simp only [Act.put, List.setIfInBounds_toArray, List.set_cons_zero, List.set_cons_succ, i64_w, i32_w]; rfl) : wpAnyLast P md ops Q S ds (fuel + 1) l a w := pure_ (N := some n) l' hi hN hc hQ hy ha h
theorem Z2l {P : Program} {ops : Array Oper} {Q : Exit → Act → World → Prop} {md : Region.Mode} {S : World → Prop} {ds : List Nat} (i n : Nat) {oi : Oper} {fuel : Nat} {l : Array Bool} {a : Act} {w : World} (l' : Array Bool) {a' : Act} (h : wpAnyLast P md ops Q S ds fuel l' a' w) (hi : ops[i]? = some oi := by rfl) (hN : oi.dst = some n := by rfl) (hc : anyB md ops l l' i = true := by exact any_of HT_.out (by kernel_rfl)) (hQ : ∀ c a w, Q (.panic c) (a.put oi.dst undef) w → Q (.panic c) a w := by exact fun _ _ _ h => h) (hy : Yields P ops oi undef a := by exact Or.inr ⟨by rfl, rfl⟩) (ha : a.put (some n) undef = a' := by simp only [Act.put, List.setIfInBounds_toArray, List.set_cons_zero, List.set_cons_succ, i64_w, i32_w]; rfl) : wpAnyLast P md ops Q S ds (fuel + 1) l a w := pure_ (N := some n) l' hi hN hc hQ hy ha h
open Bool renaming true → T, false → F
theorem Z2g {p : Prop} (h : p := by repeat (first | (with_reducible first | exact HB.out | apply below_alloc | apply pw_below_drewN | apply below_drew1 | refine below_set ?_ SI.out | refine below_set ?_ wJ.out) | exact HB.out)) : p := h
theorem Z2h {p : Prop} (h : p := by (with_reducible repeat (first | refine blk_drewN ?_ _ | refine blk_drew ?_ | refine blk_alloc ?_ _)); exact aA.out) : p := h
theorem Z2p {p : Prop} (h : p := by (with_reducible repeat (first | refine blk_drewN ?_ _ | refine blk_drew ?_ | refine blk_alloc ?_ _)); refine blk_put (cs := #[.int .i64 0, .int .i64 0, .int .i64 0, .int .i64 0]) ?_ 3 _ rfl; (with_reducible repeat (first | refine blk_drewN ?_ _ | refine blk_drew ?_ | refine blk_alloc ?_ _)); refine blk_put (cs := #[.int .i64 0, .int .i64 0, .int .i64 0, .int .i64 0]) ?_ 2 _ rfl; (with_reducible repeat (first | refine blk_drewN ?_ _ | refine blk_drew ?_ | refine blk_alloc ?_ _)); refine blk_put (cs := #[.int .i64 0, .int .i64 0, .int .i64 0, .int .i64 0]) ?_ 1 _ rfl; (with_reducible repeat (first | refine blk_drewN ?_ _ | refine blk_drew ?_ | refine blk_alloc ?_ _)); refine blk_put (cs := #[.int .i64 0, .int .i64 0, .int .i64 0, .int .i64 0]) ?_ 0 _ rfl; (with_reducible repeat (first | refine blk_drewN ?_ _ | refine blk_drew ?_ | refine blk_alloc ?_ _)); exact cA.out) : p := h
theorem Z2k {p : Prop} (h : p := by (try simp only [List.map_toArray, List.map_cons, List.map_nil]); first | done | rfl | (simp only [List.length_drop, List.length_take]; rfl)) : p := h
theorem Z2i {p : Prop} (h : p := by (with_reducible repeat (first | refine blk_drewN ?_ _ | refine blk_drew ?_ | refine blk_alloc ?_ _)); exact cA.out) : p := h
theorem Z2m {p : Prop} (h : p := by first | rfl | (simp [errW_none, errW_some] <;> rfl) | (simp [*, errW_none, errW_some] <;> rfl)) : p := h
theorem Z2j {p : Prop} (h : p := by first | rfl | (simp; done) | (simp [*]; done)) : p := h
theorem Z2s {p : Prop} (h : p := by (with_reducible repeat (first | refine blk_drewN ?_ _ | refine blk_drew ?_ | refine blk_alloc ?_ _)); refine blk_put (cs := #[.int .i64 3, .int .i64 iA, .int .i64 lA, .int .i64 0]) ?_ 3 _ rfl; (with_reducible repeat (first | refine blk_drewN ?_ _ | refine blk_drew ?_ | refine blk_alloc ?_ _)); refine blk_put (cs := #[.int .i64 3, .int .i64 iA, .int .i64 0, .int .i64 0]) ?_ 2 _ rfl; (with_reducible repeat (first | refine blk_drewN ?_ _ | refine blk_drew ?_ | refine blk_alloc ?_ _)); refine blk_put (cs := #[.int .i64 3, .int .i64 0, .int .i64 0, .int .i64 0]) ?_ 1 _ rfl; (with_reducible repeat (first | refine blk_drewN ?_ _ | refine blk_drew ?_ | refine blk_alloc ?_ _)); refine blk_put (cs := #[.int .i64 0, .int .i64 0, .int .i64 0, .int .i64 0]) ?_ 0 _ rfl; (with_reducible repeat (first | refine blk_drewN ?_ _ | refine blk_drew ?_ | refine blk_alloc ?_ _)); exact cA.out) : p := h
theorem Z2e {p : Prop} (h : p := by kernel_rfl) : p := h
theorem Z2n {p : Prop} (h : p := by have := HJ2.out; have := HJ18.out; have := HJ30.out; first | omega | exact Nat.le_refl _) : p := h
theorem Z2o {p : Prop} (h : p := by have := HJ2.out; have := HJ18.out; first | omega | exact Nat.le_refl _) : p := h
theorem Z2q {p : Prop} (h : p := by repeat (first | (with_reducible first | exact HB.out | apply below_alloc | apply pw_below_drewN | apply below_drew1 | refine below_set ?_ SI.out) | exact HB.out)) : p := h
theorem Z2r {p : Prop} (h : p := by repeat (first | (with_reducible first | exact HB.out | apply below_alloc | apply pw_below_drewN | apply below_drew1) | exact HB.out)) : p := h
/-! ### impl_LiAct: function 21 -/
mutual
def impl_LiAct.j0 : Nat → Int → Bool → Int → Int → Int → Int → Int → Int → Int → Int → Int → Bool → Option (Int × Int × Int × Int × Bool)
 | 0, _, _, _, _, _, _, _, _, _, _, _, _ => none
 | k + 1, x0, x21, vA, rA, jA, gA, kA, mA, hA, wA, xA, yA => if x21 = true then (some (0, 0, 0, 0, false)) else (if kA = 0 then (impl_LiAct.j1 k x0 false vA rA jA gA kA mA hA wA xA yA) else ((impl_linkCell.f 0).bind fun SB => ((impl_linkCell.f (wrap64 (x0 - 1))).bind fun TB => ((impl_within.f kA SB TB).bind fun eJ => (if eJ = true then (impl_LiAct.j1 k x0 ((Int.tmod kA 2) != 0) vA rA jA gA kA mA hA wA xA yA) else (impl_LiAct.j1 k x0 true vA rA jA gA kA mA hA wA xA yA))))))
def impl_LiAct.j1 : Nat → Int → Bool → Int → Int → Int → Int → Int → Int → Int → Int → Int → Bool → Option (Int × Int × Int × Int × Bool)
 | 0, _, _, _, _, _, _, _, _, _, _, _, _ => none
 | k + 1, x0, x41, vA, rA, jA, gA, kA, mA, hA, wA, xA, yA => if x41 = true then (some (0, 0, 0, 0, false)) else (if gA > 0 then ((impl_isLink.f mA x0).bind fun fJ => (if fJ = true then (if gA = 3 then ((impl_isLink.f hA x0).bind fun WE => (impl_LiAct.j2 k x0 (!WE) vA rA jA gA kA mA hA wA xA yA)) else (if gA = 7 then ((impl_isLink.f hA x0).bind fun XE => (impl_LiAct.j2 k x0 (!XE) vA rA jA gA kA mA hA wA xA yA)) else (impl_LiAct.j2 k x0 false vA rA jA gA kA mA hA wA xA yA))) else (impl_LiAct.j2 k x0 true vA rA jA gA kA mA hA wA xA yA))) else (if gA = 3 then ((impl_isLink.f hA x0).bind fun YE => (impl_LiAct.j2 k x0 (!YE) vA rA jA gA kA mA hA wA xA yA)) else (if gA = 7 then ((impl_isLink.f hA x0).bind fun ZE => (impl_LiAct.j2 k x0 (!ZE) vA rA jA gA kA mA hA wA xA yA)) else (impl_LiAct.j2 k x0 false vA rA jA gA kA mA hA wA xA yA))))
def impl_LiAct.j2 : Nat → Int → Bool → Int → Int → Int → Int → Int → Int → Int → Int → Int → Bool → Option (Int × Int × Int × Int × Bool)
 | 0, _, _, _, _, _, _, _, _, _, _, _, _ => none
 | k + 1, x0, x69, vA, rA, jA, gA, kA, mA, hA, wA, xA, yA => if x69 = true then (some (0, 0, 0, 0, false)) else ((impl_nodeOf.f mA).bind fun AA => ((impl_within.f gA 1 3).bind fun gJ => (if gJ = true then (if AA < 0 then (impl_LiAct.j3 k AA true vA rA jA gA kA mA hA wA xA yA) else ((impl_within.f gA 4 6).bind fun hJ => (if hJ = true then ((impl_within.f jA 0 (wrap64 (x0 - 1))).bind fun aF => (impl_LiAct.j3 k AA (!aF) vA rA jA gA kA mA hA wA xA yA)) else (impl_LiAct.j3 k AA false vA rA jA gA kA mA hA wA xA yA)))) else (if gA = 7 then (if AA < 0 then (impl_LiAct.j3 k AA true vA rA jA gA kA mA hA wA xA yA) else ((impl_within.f gA 4 6).bind fun iJ => (if iJ = true then ((impl_within.f jA 0 (wrap64 (x0 - 1))).bind fun bF => (impl_LiAct.j3 k AA (!bF) vA rA jA gA kA mA hA wA xA yA)) else (impl_LiAct.j3 k AA false vA rA jA gA kA mA hA wA xA yA)))) else ((impl_within.f gA 4 6).bind fun jJ => (if jJ = true then ((impl_within.f jA 0 (wrap64 (x0 - 1))).bind fun cF => (impl_LiAct.j3 k AA (!cF) vA rA jA gA kA mA hA wA xA yA)) else (impl_LiAct.j3 k AA false vA rA jA gA kA mA hA wA xA yA)))))))
def impl_LiAct.j3 : Nat → Int → Bool → Int → Int → Int → Int → Int → Int → Int → Int → Int → Bool → Option (Int × Int × Int × Int × Bool)
 | 0, _, _, _, _, _, _, _, _, _, _, _, _ => none
 | k + 1, x6, x98, vA, rA, jA, gA, kA, mA, hA, wA, xA, yA => if x98 = true then (some (0, 0, 0, 0, false)) else (if gA = 0 then (some (1, kA, 0, 0, true)) else (if gA = 1 then ((impl_linkCell.f x6).bind fun OE => (some (1, OE, 0, 0, true))) else (if gA = 2 then ((impl_keyCell.f x6).bind fun PE => (some (1, PE, 0, 0, true))) else (if gA = 3 then (some (3, kA, mA, wrap64 (hA - (Int.tmod hA 2)), true)) else (if gA = 4 then ((impl_keyCell.f jA).bind fun QE => (some (2, QE, rA, 0, true))) else (if gA = 5 then ((impl_linkCell.f jA).bind fun RE => (some (2, RE, mA, 0, true))) else (if gA = 6 then (some (3, kA, mA, wrap64 (2 * (wrap64 (jA + 1))), true)) else ((impl_linkCell.f x6).bind fun SE => (some (3, SE, hA, wrap64 ((wrap64 (hA - (Int.tmod hA 2))) + 1), true))))))))))
end
def impl_LiAct.f (k : Nat) (a0 : Int) (pA : Int) (qA : Int) (oA : Int) (dA : Int) (iA : Int) (lA : Int) (nA : Int) (sA : Int) (tA : Int) (uA : Bool) : Option (Int × Int × Int × Int × Bool) := if uA = true then (impl_LiAct.j0 k a0 true pA qA oA dA iA lA nA sA tA uA) else ((impl_within.f a0 1 16).bind fun UE => (if UE = true then ((impl_isLiStep.f pA dA).bind fun TE => (impl_LiAct.j0 k a0 (!TE) pA qA oA dA iA lA nA sA tA uA)) else (impl_LiAct.j0 k a0 true pA qA oA dA iA lA nA sA tA uA)))
theorem impl_LiAct.mono_l : ∀ k, (∀ y0 y1 y2 y3 y4 y5 y6 y7 y8 y9 y10 y11, LeO (impl_LiAct.j0 k y0 y1 y2 y3 y4 y5 y6 y7 y8 y9 y10 y11) (impl_LiAct.j0 (k + 1) y0 y1 y2 y3 y4 y5 y6 y7 y8 y9 y10 y11)) ∧ (∀ y0 y1 y2 y3 y4 y5 y6 y7 y8 y9 y10 y11, LeO (impl_LiAct.j1 k y0 y1 y2 y3 y4 y5 y6 y7 y8 y9 y10 y11) (impl_LiAct.j1 (k + 1) y0 y1 y2 y3 y4 y5 y6 y7 y8 y9 y10 y11)) ∧ (∀ y0 y1 y2 y3 y4 y5 y6 y7 y8 y9 y10 y11, LeO (impl_LiAct.j2 k y0 y1 y2 y3 y4 y5 y6 y7 y8 y9 y10 y11) (impl_LiAct.j2 (k + 1) y0 y1 y2 y3 y4 y5 y6 y7 y8 y9 y10 y11)) ∧ (∀ y0 y1 y2 y3 y4 y5 y6 y7 y8 y9 y10 y11, LeO (impl_LiAct.j3 k y0 y1 y2 y3 y4 y5 y6 y7 y8 y9 y10 y11) (impl_LiAct.j3 (k + 1) y0 y1 y2 y3 y4 y5 y6 y7 y8 y9 y10 y11))
 | 0 => ⟨fun _ _ _ _ _ _ _ _ _ _ _ _ r h => by simp [impl_LiAct.j0] at h, fun _ _ _ _ _ _ _ _ _ _ _ _ r h => by simp [impl_LiAct.j1] at h, fun _ _ _ _ _ _ _ _ _ _ _ _ r h => by simp [impl_LiAct.j2] at h, fun _ _ _ _ _ _ _ _ _ _ _ _ r h => by simp [impl_LiAct.j3] at h⟩
 | k + 1 => by
  obtain ⟨ih0, ih1, ih2, ih3⟩ := impl_LiAct.mono_l k
  refine ⟨?_, ?_, ?_, ?_⟩
  ·intro y0 y1 y2 y3 y4 y5 y6 y7 y8 y9 y10 y11
   unfold impl_LiAct.j0
   repeat' first
   | (with_reducible exact ih0 _ _ _ _ _ _ _ _ _ _ _ _)
   | (with_reducible exact ih1 _ _ _ _ _ _ _ _ _ _ _ _)
   | (with_reducible exact ih2 _ _ _ _ _ _ _ _ _ _ _ _)
   | (with_reducible exact ih3 _ _ _ _ _ _ _ _ _ _ _ _)
   | (with_reducible exact LeO.refl _)
   | (with_reducible exact LeO.none _)
   | (with_reducible refine LeO.ite ?_ ?_)
   | (with_reducible refine LeO.bind ?_ (fun _ => ?_))
   | exact ih0 _ _ _ _ _ _ _ _ _ _ _ _
   | exact ih1 _ _ _ _ _ _ _ _ _ _ _ _
   | exact ih2 _ _ _ _ _ _ _ _ _ _ _ _
   | exact ih3 _ _ _ _ _ _ _ _ _ _ _ _
   | exact LeO.none _
   | refine LeO.ite ?_ ?_
   | refine LeO.bind ?_ (fun _ => ?_)
  ·intro y0 y1 y2 y3 y4 y5 y6 y7 y8 y9 y10 y11
   unfold impl_LiAct.j1
   repeat' first
   | (with_reducible exact ih0 _ _ _ _ _ _ _ _ _ _ _ _)
   | (with_reducible exact ih1 _ _ _ _ _ _ _ _ _ _ _ _)
   | (with_reducible exact ih2 _ _ _ _ _ _ _ _ _ _ _ _)
   | (with_reducible exact ih3 _ _ _ _ _ _ _ _ _ _ _ _)
   | (with_reducible exact LeO.refl _)
   | (with_reducible exact LeO.none _)
   | (with_reducible refine LeO.ite ?_ ?_)
   | (with_reducible refine LeO.bind ?_ (fun _ => ?_))
   | exact ih0 _ _ _ _ _ _ _ _ _ _ _ _
   | exact ih1 _ _ _ _ _ _ _ _ _ _ _ _
   | exact ih2 _ _ _ _ _ _ _ _ _ _ _ _
   | exact ih3 _ _ _ _ _ _ _ _ _ _ _ _
   | exact LeO.none _
   | refine LeO.ite ?_ ?_
   | refine LeO.bind ?_ (fun _ => ?_)
  ·intro y0 y1 y2 y3 y4 y5 y6 y7 y8 y9 y10 y11
   unfold impl_LiAct.j2
   repeat' first
   | (with_reducible exact ih0 _ _ _ _ _ _ _ _ _ _ _ _)
   | (with_reducible exact ih1 _ _ _ _ _ _ _ _ _ _ _ _)
   | (with_reducible exact ih2 _ _ _ _ _ _ _ _ _ _ _ _)
   | (with_reducible exact ih3 _ _ _ _ _ _ _ _ _ _ _ _)
   | (with_reducible exact LeO.refl _)
   | (with_reducible exact LeO.none _)
   | (with_reducible refine LeO.ite ?_ ?_)
   | (with_reducible refine LeO.bind ?_ (fun _ => ?_))
   | exact ih0 _ _ _ _ _ _ _ _ _ _ _ _
   | exact ih1 _ _ _ _ _ _ _ _ _ _ _ _
   | exact ih2 _ _ _ _ _ _ _ _ _ _ _ _
   | exact ih3 _ _ _ _ _ _ _ _ _ _ _ _
   | exact LeO.none _
   | refine LeO.ite ?_ ?_
   | refine LeO.bind ?_ (fun _ => ?_)
  ·intro y0 y1 y2 y3 y4 y5 y6 y7 y8 y9 y10 y11
   unfold impl_LiAct.j3
   repeat' first
   | (with_reducible exact ih0 _ _ _ _ _ _ _ _ _ _ _ _)
   | (with_reducible exact ih1 _ _ _ _ _ _ _ _ _ _ _ _)
   | (with_reducible exact ih2 _ _ _ _ _ _ _ _ _ _ _ _)
   | (with_reducible exact ih3 _ _ _ _ _ _ _ _ _ _ _ _)
   | (with_reducible exact LeO.refl _)
   | (with_reducible exact LeO.none _)
   | (with_reducible refine LeO.ite ?_ ?_)
   | (with_reducible refine LeO.bind ?_ (fun _ => ?_))
   | exact ih0 _ _ _ _ _ _ _ _ _ _ _ _
   | exact ih1 _ _ _ _ _ _ _ _ _ _ _ _
   | exact ih2 _ _ _ _ _ _ _ _ _ _ _ _
   | exact ih3 _ _ _ _ _ _ _ _ _ _ _ _
   | exact LeO.none _
   | refine LeO.ite ?_ ?_
   | refine LeO.bind ?_ (fun _ => ?_)
theorem impl_LiAct.mono : ∀ a0 a1 a2 a3 a4 a5 a6 a7 a8 a9 a10 k, LeO (impl_LiAct.f k a0 a1 a2 a3 a4 a5 a6 a7 a8 a9 a10) (impl_LiAct.f (k + 1) a0 a1 a2 a3 a4 a5 a6 a7 a8 a9 a10) := by
 intro a0 a1 a2 a3 a4 a5 a6 a7 a8 a9 a10 k
 obtain ⟨ih0, ih1, ih2, ih3⟩ := impl_LiAct.mono_l k
 unfold impl_LiAct.f
 repeat' first
   | (with_reducible exact ih0 _ _ _ _ _ _ _ _ _ _ _ _)
   | (with_reducible exact ih1 _ _ _ _ _ _ _ _ _ _ _ _)
   | (with_reducible exact ih2 _ _ _ _ _ _ _ _ _ _ _ _)
   | (with_reducible exact ih3 _ _ _ _ _ _ _ _ _ _ _ _)
   | (with_reducible exact LeO.refl _)
   | (with_reducible exact LeO.none _)
   | (with_reducible refine LeO.ite ?_ ?_)
   | (with_reducible refine LeO.bind ?_ (fun _ => ?_))
   | exact ih0 _ _ _ _ _ _ _ _ _ _ _ _
   | exact ih1 _ _ _ _ _ _ _ _ _ _ _ _
   | exact ih2 _ _ _ _ _ _ _ _ _ _ _ _
   | exact ih3 _ _ _ _ _ _ _ _ _ _ _ _
   | exact LeO.none _
   | refine LeO.ite ?_ ?_
   | refine LeO.bind ?_ (fun _ => ?_)
def impl_LiAct.T3 : Bool × List (List Nat × List Nat) := (true, [([], []), ([0], [0]), ([1], [1]), ([2], [2]), ([3], [3]), ([4, 3], [3, 4]), ([3, 3], [3]), ([3], [3]), ([7, 3], [3, 7]), ([8, 6, 3], [3, 8]), ([5, 6, 9, 9, 3], [3, 5, 6, 9]), ([10, 3], [3, 10]), ([11, 10, 3], [3, 11]), ([12], [12]), ([13, 12], [12, 13]), ([14, 12], [12, 14]), ([15, 12], [12, 15]), ([12, 16, 3], [3, 12, 16]), ([3, 17], [3, 17])])
def impl_LiAct.B3 : List Nat := [0, 1, 3, 7, 15, 31, 15, 15, 143, 463, 1023, 2047, 4095, 8191, 16383, 32767, 65535, 131071, 262143]
theorem impl_LiAct.tab3 : rtab .any (opsOf Try.f21 3) = impl_LiAct.T3 := by kernel_rfl
theorem impl_LiAct.bits3 : waitsOk impl_LiAct.T3.2 impl_LiAct.B3 = true := by kernel_rfl
def impl_LiAct.T20 : Bool × List (List Nat × List Nat) := (true, [([], []), ([0], [0]), ([1], [1]), ([], []), ([3], [3]), ([2, 4], [2, 4]), ([5, 2, 0, 1, 2, 3, 4, 5], [5]), ([6, 0, 1, 2, 3, 4, 5, 6], [])])
def impl_LiAct.B20 : List Nat := [0, 1, 3, 0, 8, 31, 63, 127]
theorem impl_LiAct.tab20 : rtab .any (opsOf Try.f21 20) = impl_LiAct.T20 := by kernel_rfl
theorem impl_LiAct.bits20 : waitsOk impl_LiAct.T20.2 impl_LiAct.B20 = true := by kernel_rfl
def impl_LiAct.T22 : Bool × List (List Nat × List Nat) := (true, [([], []), ([0], [0]), ([1], [1]), ([], []), ([3], [3]), ([2, 4], [2, 4]), ([5, 2, 0, 1, 2, 3, 4, 5], [5]), ([6, 0, 1, 2, 3, 4, 5, 6], [])])
def impl_LiAct.B22 : List Nat := [0, 1, 3, 0, 8, 31, 63, 127]
theorem impl_LiAct.tab22 : rtab .any (opsOf Try.f21 22) = impl_LiAct.T22 := by kernel_rfl
theorem impl_LiAct.bits22 : waitsOk impl_LiAct.T22.2 impl_LiAct.B22 = true := by kernel_rfl
def impl_LiAct.T25 : Bool × List (List Nat × List Nat) := (true, [([], []), ([0], [0]), ([], []), ([2], [2]), ([], []), ([4], [4]), ([], []), ([6], [6]), ([7], [7]), ([5, 8], [5, 8]), ([9], [9]), ([1, 3, 10], [1, 3, 10]), ([11, 1, 0, 1, 2, 3, 4, 5, 6, 7, 8, 9, 10, 11], [11]), ([12, 0, 1, 2, 3, 4, 5, 6, 7, 8, 9, 10, 11, 12], [])])
def impl_LiAct.B25 : List Nat := [0, 1, 0, 4, 0, 16, 0, 64, 192, 496, 1008, 2047, 4095, 8191]
theorem impl_LiAct.tab25 : rtab .any (opsOf Try.f21 25) = impl_LiAct.T25 := by kernel_rfl
theorem impl_LiAct.bits25 : waitsOk impl_LiAct.T25.2 impl_LiAct.B25 = true := by kernel_rfl
set_option maxHeartbeats 8000000 in
set_option maxRecDepth 100000 in
theorem impl_LiAct.calls (k : Nat) (a0 : Int) (pA : Int) (qA : Int) (oA : Int) (dA : Int) (iA : Int) (lA : Int) (nA : Int) (sA : Int) (tA : Int) (uA : Bool) (r1 : Int) (r2 : Int) (r3 : Int) (r4 : Int) (r5 : Bool) (w : World) (h : impl_LiAct.f k a0 pA qA oA dA iA lA nA sA tA uA = some (r1, r2, r3, r4, r5)) :
  Calls Try.prog 21 #[.int .i64 a0, .agg #[.int .i64 pA, .int .i64 qA, .int .i64 oA, .int .i64 dA, .int .i64 iA, .int .i64 lA, .int .i64 nA, .int .i64 sA, .int .i64 tA, .bool uA]] w fun e w' => e = .returned (.tuple #[.agg #[.int .i64 r1, .int .i64 r2, .int .i64 r3, .int .i64 r4], .bool r5]) ∧ Below w.heap.size w w' := by
 have hu23 := Try.underlying23
 have hu37 := Try.underlying37
 have HB := Z2d (Below.refl w.heap.size w)
 have H : (if uA = true then (impl_LiAct.j0 k a0 true pA qA oA dA iA lA nA sA tA uA) else ((impl_within.f a0 1 16).bind fun UE => (if UE = true then ((impl_isLiStep.f pA dA).bind fun TE => (impl_LiAct.j0 k a0 (!TE) pA qA oA dA iA lA nA sA tA uA)) else (impl_LiAct.j0 k a0 true pA qA oA dA iA lA nA sA tA uA)))) = some (r1, r2, r3, r4, r5) := h
 clear h
 have HC3 := Z2d H
 clear H
 go_enter Try.func21, Try.ntmps21
 go_upto_region 1 with (first | ((with_reducible refine gate_dst (N := 3) rfl ?_); refine box_event ?hg (N := 3) ?hd (cs := #[.int .i64 pA, .int .i64 qA, .int .i64 oA, .int .i64 dA, .int .i64 iA, .int .i64 lA, .int .i64 nA, .int .i64 sA, .int .i64 tA, .bool uA]) (t := 23) ?hr ?_; (case hd => rfl); (case hg => rfl); (case hr => first | (go_simp; done) | (go_simp; rfl)); intro fA hg w4 hbox hb; have BA := Z2d (below_step Z2r hb); have CA := Z2d (hbox); have DA := Z2d ((by rw [hg]; exact (below_size Z2r) : w.heap.size ≤ fA)); have xJ := Z2d ((by rw [hg]; exact (below_size Z2r) : w.heap.size ≤ fA)); clear HB; have HB := BA; have aA := CA; have iO := DA; have SI := xJ; clear BA CA DA xJ; clear hb hbox hg) | ((with_reducible refine gate_dst (N := 4) rfl ?_); refine box_event ?hg (N := 4) ?hd (cs := #[.int .i64 0, .int .i64 0, .int .i64 0, .int .i64 0]) (t := 37) ?hr ?_; (case hd => rfl); (case hg => rfl); (case hr => first | (go_simp; done) | (go_simp; rfl)); intro zA hg w5 hbox hb; have BA := Z2d (blk_below (g := fA) (o := .cells #[.int .i64 pA, .int .i64 qA, .int .i64 oA, .int .i64 dA, .int .i64 iA, .int .i64 lA, .int .i64 nA, .int .i64 sA, .int .i64 tA, .bool uA] 23 (0, 0)) Z2h hb); have CA := Z2d (below_step Z2q hb); have DA := Z2d (hbox); have xJ := Z2d ((by rw [hg]; exact (below_size Z2q) : w.heap.size ≤ zA)); have jO := Z2d ((by rw [hg]; exact (below_size Z2q) : w.heap.size ≤ zA)); have kO := Z2d ((by rw [hg]; exact Nat.ne_of_lt (blk_lt (g := fA) (o := .cells #[.int .i64 pA, .int .i64 qA, .int .i64 oA, .int .i64 dA, .int .i64 iA, .int .i64 lA, .int .i64 nA, .int .i64 sA, .int .i64 tA, .bool uA] 23 (0, 0)) Z2h) : fA ≠ zA)); have lO := Z2d ((by rw [hg]; exact Nat.ne_of_gt (blk_lt (g := fA) (o := .cells #[.int .i64 pA, .int .i64 qA, .int .i64 oA, .int .i64 dA, .int .i64 iA, .int .i64 lA, .int .i64 nA, .int .i64 sA, .int .i64 tA, .bool uA] 23 (0, 0)) Z2h) : zA ≠ fA)); clear aA HB; have aA := BA; have HB := CA; have cA := DA; have mO := xJ; have wJ := jO; have bA := kO; have eA := lO; clear BA CA DA xJ jO kO lO; clear hb hbox hg))
 (try simp only [Act.put, List.setIfInBounds_toArray, List.set_cons_zero, List.set_cons_succ])
 go_cut [21] (fun v21 wc => ∃ (kq : Nat) (UB : Bool), v21 = .bool UB ∧ Aside0 (impl_LiAct.j0 kq a0 UB pA qA oA dA iA lA nA sA tA uA = some (r1, r2, r3, r4, r5)) ∧ Aside0 (kq ≤ k) ∧ Aside0 (wc.heap[fA]? = some (.cells #[.int .i64 pA, .int .i64 qA, .int .i64 oA, .int .i64 dA, .int .i64 iA, .int .i64 lA, .int .i64 nA, .int .i64 sA, .int .i64 tA, .bool uA] 23 (0, 0))) ∧ Aside0 (wc.heap[zA]? = some (.cells #[.int .i64 0, .int .i64 0, .int .i64 0, .int .i64 0] 37 (0, 0))) ∧ Aside0 (Below w.heap.size w wc))
 case first =>
  have H := HC3.out
  clear HC3
  by_cases c6 : uA = true
  ·subst c6
   rw [if_pos rfl] at H
   as_aux_lemma =>
    have H' := Z2d H
    clear H
    have tP := bA.out
    have uP := eA.out
    have cB := Z2b aA.out 0 (.int .i64 pA)
    have dB := Z2b aA.out 1 (.int .i64 qA)
    have eB := Z2b aA.out 2 (.int .i64 oA)
    have fB := Z2b aA.out 3 (.int .i64 dA)
    have gB := Z2b aA.out 4 (.int .i64 iA)
    have hB := Z2b aA.out 5 (.int .i64 lA)
    have iB := Z2b aA.out 6 (.int .i64 nA)
    have jB := Z2b aA.out 7 (.int .i64 sA)
    have kB := Z2b aA.out 8 (.int .i64 tA)
    have lB := Z2b aA.out 9 (.bool true)
    have mB := Z2a aA.out 0
    have nB := Z2a aA.out 1
    have oB := Z2a aA.out 2
    have pB := Z2a aA.out 3
    have qB := Z2a aA.out 4
    have rB := Z2a aA.out 5
    have sB := Z2a aA.out 6
    have tB := Z2a aA.out 7
    have uB := Z2a aA.out 8
    have vB := Z2a aA.out 9
    go_wp2
    go_meet
    case rel => exact ⟨_, (true), Z2j, H', ⟨by first | omega | exact Nat.le_refl _⟩, ⟨Z2h⟩, ⟨Z2i⟩, ⟨Z2g⟩⟩
  ·replace c6 := Bool.eq_false_iff.mpr c6
   subst c6
   rw [if_neg (show ¬ (false = true) by decide)] at H
   replace H := Option.bind_eq_some_iff.mp H
   obtain ⟨UE, A90, H⟩ := H
   (try dsimp only at H)
   have A9 := Z2d A90
   clear A90
   by_cases c10 : UE = true
   ·subst c10
    rw [if_pos rfl] at H
    replace H := Option.bind_eq_some_iff.mp H
    obtain ⟨TE, A110, H⟩ := H
    (try dsimp only at H)
    have A11 := Z2d A110
    clear A110
    as_aux_lemma =>
     have H' := Z2d H
     clear H
     have nO := bA.out
     have oO := eA.out
     have dF := Z2b aA.out 0 (.int .i64 pA)
     have eF := Z2b aA.out 1 (.int .i64 qA)
     have fF := Z2b aA.out 2 (.int .i64 oA)
     have gF := Z2b aA.out 3 (.int .i64 dA)
     have hF := Z2b aA.out 4 (.int .i64 iA)
     have iF := Z2b aA.out 5 (.int .i64 lA)
     have jF := Z2b aA.out 6 (.int .i64 nA)
     have kF := Z2b aA.out 7 (.int .i64 sA)
     have lF := Z2b aA.out 8 (.int .i64 tA)
     have wB := Z2b aA.out 9 (.bool false)
     have EA := Z2a aA.out 0
     have FA := Z2a aA.out 1
     have GA := Z2a aA.out 2
     have IA := Z2a aA.out 3
     have JA := Z2a aA.out 4
     have KA := Z2a aA.out 5
     have LA := Z2a aA.out 6
     have MA := Z2a aA.out 7
     have NA := Z2a aA.out 8
     have OA := Z2a aA.out 9
     go_wp2_with (first | (go_at_call 43; (with_reducible refine (impl_within.calls a0 1 16 true _ A9.out).mono ?_); rintro e w' ⟨rfl, ⟨nd, rfl⟩⟩) | (go_at_call 49; (with_reducible refine (impl_isLiStep.calls pA dA TE _ A11.out).mono ?_); rintro e w' ⟨rfl, ⟨nd, rfl⟩⟩))
     go_meet
     case rel => exact ⟨_, (!TE), Z2j, H', ⟨by first | omega | exact Nat.le_refl _⟩, ⟨Z2h⟩, ⟨Z2i⟩, ⟨Z2g⟩⟩
   ·replace c10 := Bool.eq_false_iff.mpr c10
    subst c10
    rw [if_neg (show ¬ (false = true) by decide)] at H
    as_aux_lemma =>
     have H' := Z2d H
     clear H
     have pO := bA.out
     have qO := eA.out
     have xB := Z2b aA.out 0 (.int .i64 pA)
     have yB := Z2b aA.out 1 (.int .i64 qA)
     have zB := Z2b aA.out 2 (.int .i64 oA)
     have AB := Z2b aA.out 3 (.int .i64 dA)
     have BB := Z2b aA.out 4 (.int .i64 iA)
     have CB := Z2b aA.out 5 (.int .i64 lA)
     have DB := Z2b aA.out 6 (.int .i64 nA)
     have EB := Z2b aA.out 7 (.int .i64 sA)
     have FB := Z2b aA.out 8 (.int .i64 tA)
     have GB := Z2b aA.out 9 (.bool false)
     have PA := Z2a aA.out 0
     have QA := Z2a aA.out 1
     have RA := Z2a aA.out 2
     have SA := Z2a aA.out 3
     have TA := Z2a aA.out 4
     have UA := Z2a aA.out 5
     have VA := Z2a aA.out 6
     have WA := Z2a aA.out 7
     have XA := Z2a aA.out 8
     have YA := Z2a aA.out 9
     go_wp2_with (first | (go_at_call 43; (with_reducible refine (impl_within.calls a0 1 16 false _ A9.out).mono ?_); rintro e w' ⟨rfl, ⟨nd, rfl⟩⟩))
     go_meet
     case rel => exact ⟨_, (true), Z2j, H', ⟨by first | omega | exact Nat.le_refl _⟩, ⟨Z2h⟩, ⟨Z2i⟩, ⟨Z2g⟩⟩
 case rest =>
  clear HC3
  (try clear c1); (try clear c2); (try clear p2); (try clear c6); (try clear c7); (try clear c10); (try clear c12); (try clear c14); (try clear dF); (try clear eF); (try clear fF); (try clear gF); (try clear hF); (try clear iF); (try clear jF); (try clear kF); (try clear lF); (try clear wB); (try clear xB); (try clear yB); (try clear zB); (try clear AB); (try clear BB); (try clear CB); (try clear DB); (try clear EB); (try clear FB); (try clear GB); (try clear cB); (try clear dB); (try clear eB); (try clear fB); (try clear gB); (try clear hB); (try clear iB); (try clear jB); (try clear kB); (try clear lB); (try clear EA); (try clear FA); (try clear GA); (try clear IA); (try clear JA); (try clear KA); (try clear LA); (try clear MA); (try clear NA); (try clear OA); (try clear PA); (try clear QA); (try clear RA); (try clear SA); (try clear TA); (try clear UA); (try clear VA); (try clear WA); (try clear XA); (try clear YA); (try clear mB); (try clear nB); (try clear oB); (try clear pB); (try clear qB); (try clear rB); (try clear sB); (try clear tB); (try clear uB); (try clear vB)
  obtain ⟨kq, UB, rfl, HA, HJ2, aA, cA, HB⟩ := hcut
  cases kq with
  | zero => exact absurd HA.out (by simp [impl_LiAct.j0])
  | succ kj2 =>
   have H := HA.out
   clear HA
   simp only [impl_LiAct.j0] at H
   by_cases c16 : UB = true
   ·subst c16
    rw [if_pos rfl] at H
    as_aux_lemma =>
     simp only [Option.some.injEq, Prod.mk.injEq] at H
     obtain ⟨rfl, rfl, rfl, rfl, rfl⟩ := H
     have rO := eA.out
     have sO := bA.out
     have VB := Z2b cA.out 0 (.int .i64 0)
     have IB := Z2b cA.out 1 (.int .i64 0)
     have JB := Z2b cA.out 2 (.int .i64 0)
     have KB := Z2b cA.out 3 (.int .i64 0)
     have LB := Z2a cA.out 0
     have MB := Z2a cA.out 1
     have NB := Z2a cA.out 2
     have OB := Z2a cA.out 3
     go_wp2
     refine bodyPost_ret (results_ct rfl _ _ zA 37 #[.int .i64 0, .int .i64 0, .int .i64 0, .int .i64 0] (0, 0) _ rfl Z2p Try.underlying37 rfl Z2e) rfl ?_
     exact ⟨Z2m, Z2g⟩
   ·replace c16 := Bool.eq_false_iff.mpr c16
    subst c16
    rw [if_neg (show ¬ (false = true) by decide)] at H
    have HC19 := Z2d H
    clear H
    go_upto_region 3 with (fail)
    go_cut [41] (fun v41 wc => ∃ (kq : Nat) (PB : Bool), v41 = .bool PB ∧ Aside0 (impl_LiAct.j1 kq a0 PB pA qA oA dA iA lA nA sA tA uA = some (r1, r2, r3, r4, r5)) ∧ Aside0 (kq ≤ kj2) ∧ Aside0 (wc.heap[fA]? = some (.cells #[.int .i64 pA, .int .i64 qA, .int .i64 oA, .int .i64 dA, .int .i64 iA, .int .i64 lA, .int .i64 nA, .int .i64 sA, .int .i64 tA, .bool uA] 23 (0, 0))) ∧ Aside0 (wc.heap[zA]? = some (.cells #[.int .i64 0, .int .i64 0, .int .i64 0, .int .i64 0] 37 (0, 0))) ∧ Aside0 (Below w.heap.size w wc))
    case first =>
     have H := HC19.out
     clear HC19
     by_cases c20 : iA = 0
     ·rw [if_pos c20] at H
      have ZA : (iA == 0) = true := beq_iff_eq.mpr c20
      have VE : (iA != 0) = false := bne_eq_false_iff_eq.mpr c20
      clear c20
      (first | rw [ZA] | (simp only [i64_w, i32_w]; rw [ZA]) | skip)
      as_aux_lemma =>
       have H' := Z2d H
       clear H
       try go_wp2
       have BA := Z2d (blk_drew aA.out)
       have CA := Z2d (blk_drew cA.out)
       have DA := Z2d (below_drew1 HB.out)
       clear aA cA HB
       have aA := BA
       have cA := CA
       have HB := DA
       clear BA CA DA
       refine start_ (n := 19) (S := fun w' => w'.cell? ⟨fA, 0, none⟩ = some (.int .i64 pA) ∧ w'.cell? ⟨fA, 1, none⟩ = some (.int .i64 qA) ∧ w'.cell? ⟨fA, 2, none⟩ = some (.int .i64 oA) ∧ w'.cell? ⟨fA, 3, none⟩ = some (.int .i64 dA) ∧ w'.cell? ⟨fA, 4, none⟩ = some (.int .i64 iA) ∧ w'.cell? ⟨fA, 5, none⟩ = some (.int .i64 lA) ∧ w'.cell? ⟨fA, 6, none⟩ = some (.int .i64 nA) ∧ w'.cell? ⟨fA, 7, none⟩ = some (.int .i64 sA) ∧ w'.cell? ⟨fA, 8, none⟩ = some (.int .i64 tA) ∧ w'.cell? ⟨fA, 9, none⟩ = some (.bool uA)) (ds := []) #[F,F,F,F,F,F,F,F,F,F,F,F,F,F,F,F,F,F,F] Z2e rfl rfl ⟨(blk_cell aA.out 0).trans rfl, (blk_cell aA.out 1).trans rfl, (blk_cell aA.out 2).trans rfl, (blk_cell aA.out 3).trans rfl, (blk_cell aA.out 4).trans rfl, (blk_cell aA.out 5).trans rfl, (blk_cell aA.out 6).trans rfl, (blk_cell aA.out 7).trans rfl, (blk_cell aA.out 8).trans rfl, (blk_cell aA.out 9).trans rfl⟩ (fun hHeld => ?_); refine with_tabW impl_LiAct.tab3 impl_LiAct.bits3 (fun HT_ HW_ => ?_)
       generalize wc.drew = yP at aA cA HB hHeld ⊢
       refine Z2f 0 23 #[T,F,F,F,F,F,F,F,F,F,F,F,F,F,F,F,F,F,F] ?_
       refine take_ (i := 1) (N := some 24) (v := ?_) (a' := ?_) #[T,T,F,F,F,F,F,F,F,F,F,F,F,F,F,F,F,F,F] rfl rfl (take_ofW HT_.out HW_.out Z2e) (fun _ _ _ h => h) (Or.inl ⟨by rfl, ?_⟩) hHeld ?_ ?_
       rotate_left
       ·rintro w' ⟨s0, s1, s2, s3, s4, s5, s6, s7, s8, s9⟩
        go_simp
        with_reducible rfl
       rotate_left
       ·simp only [Act.put, List.setIfInBounds_toArray, List.set_cons_zero, List.set_cons_succ, i64_w, i32_w]
        rfl
       refine Z2f 2 25 #[T,T,T,F,F,F,F,F,F,F,F,F,F,F,F,F,F,F,F] ?_
       refine Z2f 3 26 #[T,T,T,T,F,F,F,F,F,F,F,F,F,F,F,F,F,F,F] ?_
       refine Z2l 4 27 #[T,T,T,T,T,F,F,F,F,F,F,F,F,F,F,F,F,F,F] ?_
       refine Z2l 5 28 #[T,T,T,T,T,T,F,F,F,F,F,F,F,F,F,F,F,F,F] ?_
       refine Z2l 6 29 #[T,T,T,T,T,T,T,F,F,F,F,F,F,F,F,F,F,F,F] ?_
       refine Z2l 7 30 #[T,T,T,T,T,T,T,T,F,F,F,F,F,F,F,F,F,F,F] ?_
       refine Z2l 8 31 #[T,T,T,T,T,T,T,T,T,F,F,F,F,F,F,F,F,F,F] ?_
       refine Z2l 9 32 #[T,T,T,T,T,T,T,T,T,T,F,F,F,F,F,F,F,F,F] ?_
       refine Z2l 10 33 #[T,T,T,T,T,T,T,T,T,T,T,F,F,F,F,F,F,F,F] ?_
       refine Z2l 11 34 #[T,T,T,T,T,T,T,T,T,T,T,T,F,F,F,F,F,F,F] ?_
       refine Z2l 12 35 #[T,T,T,T,T,T,T,T,T,T,T,T,T,F,F,F,F,F,F] ?_
       refine Z2l 13 36 #[T,T,T,T,T,T,T,T,T,T,T,T,T,T,F,F,F,F,F] ?_
       refine Z2l 14 37 #[T,T,T,T,T,T,T,T,T,T,T,T,T,T,T,F,F,F,F] ?_
       refine Z2l 15 38 #[T,T,T,T,T,T,T,T,T,T,T,T,T,T,T,T,F,F,F] ?_
       refine Z2l 16 39 #[T,T,T,T,T,T,T,T,T,T,T,T,T,T,T,T,T,F,F] ?_
       refine Z2l 17 40 #[T,T,T,T,T,T,T,T,T,T,T,T,T,T,T,T,T,T,F] ?_
       refine Z2f 18 41 #[T,T,T,T,T,T,T,T,T,T,T,T,T,T,T,T,T,T,T] ?_
       refine done_ (done_of HT_.out Z2e) ?_
       try go_wp2
       go_meet
       case rel => exact ⟨_, (false), Z2j, H', ⟨by have := HJ2.out; first | omega | exact Nat.le_refl _⟩, ⟨Z2h⟩, ⟨Z2i⟩, ⟨Z2g⟩⟩
     ·rw [if_neg c20] at H
      have ZA : (iA == 0) = false := beq_eq_false_iff_ne.mpr c20
      have VE : (iA != 0) = true := bne_iff_ne.mpr c20
      (first | rw [ZA] | (simp only [i64_w, i32_w]; rw [ZA]) | skip)
      replace H := Option.bind_eq_some_iff.mp H
      obtain ⟨SB, A220, H⟩ := H
      (try dsimp only at H)
      have A22 := Z2d A220
      clear A220
      replace H := Option.bind_eq_some_iff.mp H
      obtain ⟨TB, A230, H⟩ := H
      (try dsimp only at H)
      have A23 := Z2d A230
      clear A230
      replace H := Option.bind_eq_some_iff.mp H
      obtain ⟨eJ, A240, H⟩ := H
      (try dsimp only at H)
      have A24 := Z2d A240
      clear A240
      by_cases c25 : eJ = true
      ·subst c25
       rw [if_pos rfl] at H
       as_aux_lemma =>
        have H' := Z2d H
        clear H
        try go_wp2
        have BA := Z2d (blk_drew aA.out)
        have CA := Z2d (blk_drew cA.out)
        have DA := Z2d (below_drew1 HB.out)
        clear aA cA HB
        have aA := BA
        have cA := CA
        have HB := DA
        clear BA CA DA
        refine start_ (n := 19) (S := fun w' => w'.cell? ⟨fA, 0, none⟩ = some (.int .i64 pA) ∧ w'.cell? ⟨fA, 1, none⟩ = some (.int .i64 qA) ∧ w'.cell? ⟨fA, 2, none⟩ = some (.int .i64 oA) ∧ w'.cell? ⟨fA, 3, none⟩ = some (.int .i64 dA) ∧ w'.cell? ⟨fA, 4, none⟩ = some (.int .i64 iA) ∧ w'.cell? ⟨fA, 5, none⟩ = some (.int .i64 lA) ∧ w'.cell? ⟨fA, 6, none⟩ = some (.int .i64 nA) ∧ w'.cell? ⟨fA, 7, none⟩ = some (.int .i64 sA) ∧ w'.cell? ⟨fA, 8, none⟩ = some (.int .i64 tA) ∧ w'.cell? ⟨fA, 9, none⟩ = some (.bool uA)) (ds := []) #[F,F,F,F,F,F,F,F,F,F,F,F,F,F,F,F,F,F,F] Z2e rfl rfl ⟨(blk_cell aA.out 0).trans rfl, (blk_cell aA.out 1).trans rfl, (blk_cell aA.out 2).trans rfl, (blk_cell aA.out 3).trans rfl, (blk_cell aA.out 4).trans rfl, (blk_cell aA.out 5).trans rfl, (blk_cell aA.out 6).trans rfl, (blk_cell aA.out 7).trans rfl, (blk_cell aA.out 8).trans rfl, (blk_cell aA.out 9).trans rfl⟩ (fun hHeld => ?_); refine with_tabW impl_LiAct.tab3 impl_LiAct.bits3 (fun HT_ HW_ => ?_)
        generalize wc.drew = zP at aA cA HB hHeld ⊢
        refine Z2f 0 23 #[T,F,F,F,F,F,F,F,F,F,F,F,F,F,F,F,F,F,F] ?_
        refine take_ (i := 1) (N := some 24) (v := ?_) (a' := ?_) #[T,T,F,F,F,F,F,F,F,F,F,F,F,F,F,F,F,F,F] rfl rfl (take_ofW HT_.out HW_.out Z2e) (fun _ _ _ h => h) (Or.inl ⟨by rfl, ?_⟩) hHeld ?_ ?_
        rotate_left
        ·rintro w' ⟨s0, s1, s2, s3, s4, s5, s6, s7, s8, s9⟩
         go_simp
         with_reducible rfl
        rotate_left
        ·simp only [Act.put, List.setIfInBounds_toArray, List.set_cons_zero, List.set_cons_succ, i64_w, i32_w]
         rfl
        refine Z2f 2 25 #[T,T,T,F,F,F,F,F,F,F,F,F,F,F,F,F,F,F,F] ?_
        refine Z2f 3 26 #[T,T,T,T,F,F,F,F,F,F,F,F,F,F,F,F,F,F,F] ?_
        refine Z2f 4 27 #[T,T,T,T,T,F,F,F,F,F,F,F,F,F,F,F,F,F,F] ?_
        refine Z2f 7 30 #[T,T,T,T,T,F,F,T,F,F,F,F,F,F,F,F,F,F,F] ?_
        refine Z2f 8 31 #[T,T,T,T,T,F,F,T,T,F,F,F,F,F,F,F,F,F,F] ?_
        refine take_ (i := 5) (N := some 28) (v := ?_) (a' := ?_) #[T,T,T,T,T,T,F,T,T,F,F,F,F,F,F,F,F,F,F] rfl rfl (take_ofW HT_.out HW_.out Z2e) (fun _ _ _ h => h) (Or.inl ⟨by rfl, ?_⟩) hHeld ?_ ?_
        rotate_left
        ·rintro w' ⟨s0, s1, s2, s3, s4, s5, s6, s7, s8, s9⟩
         go_simp
         with_reducible rfl
        rotate_left
        ·simp only [Act.put, List.setIfInBounds_toArray, List.set_cons_zero, List.set_cons_succ, i64_w, i32_w]
         rfl
        refine one_ (i := 6) (N := some 29) #[T,T,T,T,T,T,T,T,T,F,F,F,F,F,F,F,F,F,F] rfl rfl (one_of HT_.out Z2e) (by decide) (fun K hK => ?_)
        refine goes_ Try.func50 Z2e rfl #[.int .i64 0] (by rfl) rfl rfl Z2k ?_
        with_reducible refine (impl_linkCell.calls 0 SB _ A22.out).mono ?_
        rintro e w' ⟨rfl, ⟨nd, rfl⟩⟩
        refine ⟨_, rfl, ?_⟩
        refine hK.out _ _ ⟨(blk_cell aA.out 0).trans rfl, (blk_cell aA.out 1).trans rfl, (blk_cell aA.out 2).trans rfl, (blk_cell aA.out 3).trans rfl, (blk_cell aA.out 4).trans rfl, (blk_cell aA.out 5).trans rfl, (blk_cell aA.out 6).trans rfl, (blk_cell aA.out 7).trans rfl, (blk_cell aA.out 8).trans rfl, (blk_cell aA.out 9).trans rfl⟩ (fun hHeld => ?_)
        clear hK K
        refine norm_ (a' := ?_) ?_ ?_
        rotate_left
        ·show Act.put _ (some 29) _ = _
         simp only [Act.put, List.setIfInBounds_toArray, List.set_cons_zero, List.set_cons_succ, i64_w, i32_w]
         rfl
        refine one_ (i := 9) (N := some 32) #[T,T,T,T,T,T,T,T,T,T,F,F,F,F,F,F,F,F,F] rfl rfl (one_of HT_.out Z2e) (by decide) (fun K hK => ?_)
        refine goes_ Try.func50 Z2e rfl #[.int .i64 (wrap64 (a0 - 1))] (by rfl) rfl rfl Z2k ?_
        with_reducible refine (impl_linkCell.calls (wrap64 (a0 - 1)) TB _ A23.out).mono ?_
        rintro e w' ⟨rfl, ⟨nd, rfl⟩⟩
        refine ⟨_, rfl, ?_⟩
        refine hK.out _ _ ⟨(blk_cell aA.out 0).trans rfl, (blk_cell aA.out 1).trans rfl, (blk_cell aA.out 2).trans rfl, (blk_cell aA.out 3).trans rfl, (blk_cell aA.out 4).trans rfl, (blk_cell aA.out 5).trans rfl, (blk_cell aA.out 6).trans rfl, (blk_cell aA.out 7).trans rfl, (blk_cell aA.out 8).trans rfl, (blk_cell aA.out 9).trans rfl⟩ (fun hHeld => ?_)
        clear hK K
        refine norm_ (a' := ?_) ?_ ?_
        rotate_left
        ·show Act.put _ (some 32) _ = _
         simp only [Act.put, List.setIfInBounds_toArray, List.set_cons_zero, List.set_cons_succ, i64_w, i32_w]
         rfl
        refine one_ (i := 10) (N := some 33) #[T,T,T,T,T,T,T,T,T,T,T,F,F,F,F,F,F,F,F] rfl rfl (one_of HT_.out Z2e) (by decide) (fun K hK => ?_)
        refine goes_ Try.func43 Z2e rfl #[.int .i64 iA, .int .i64 SB, .int .i64 TB] (by rfl) rfl rfl Z2k ?_
        with_reducible refine (impl_within.calls iA SB TB true _ A24.out).mono ?_
        rintro e w' ⟨rfl, ⟨nd, rfl⟩⟩
        refine ⟨_, rfl, ?_⟩
        refine hK.out _ _ ⟨(blk_cell aA.out 0).trans rfl, (blk_cell aA.out 1).trans rfl, (blk_cell aA.out 2).trans rfl, (blk_cell aA.out 3).trans rfl, (blk_cell aA.out 4).trans rfl, (blk_cell aA.out 5).trans rfl, (blk_cell aA.out 6).trans rfl, (blk_cell aA.out 7).trans rfl, (blk_cell aA.out 8).trans rfl, (blk_cell aA.out 9).trans rfl⟩ (fun hHeld => ?_)
        clear hK K
        refine norm_ (a' := ?_) ?_ ?_
        rotate_left
        ·show Act.put _ (some 33) _ = _
         simp only [Act.put, List.setIfInBounds_toArray, List.set_cons_zero, List.set_cons_succ, i64_w, i32_w]
         rfl
        refine Z2f 11 34 #[T,T,T,T,T,T,T,T,T,T,T,T,F,F,F,F,F,F,F] ?_
        refine Z2f 12 35 #[T,T,T,T,T,T,T,T,T,T,T,T,T,F,F,F,F,F,F] ?_
        refine Z2f 13 36 #[T,T,T,T,T,T,T,T,T,T,T,T,T,T,F,F,F,F,F] ?_
        refine take_ (i := 14) (N := some 37) (v := ?_) (a' := ?_) #[T,T,T,T,T,T,T,T,T,T,T,T,T,T,T,F,F,F,F] rfl rfl (take_ofW HT_.out HW_.out Z2e) (fun _ _ _ h => h) (Or.inl ⟨by rfl, ?_⟩) hHeld ?_ ?_
        rotate_left
        ·rintro w' ⟨s0, s1, s2, s3, s4, s5, s6, s7, s8, s9⟩
         go_simp
         with_reducible rfl
        rotate_left
        ·simp only [Act.put, List.setIfInBounds_toArray, List.set_cons_zero, List.set_cons_succ, i64_w, i32_w]
         rfl
        refine Z2f 15 38 #[T,T,T,T,T,T,T,T,T,T,T,T,T,T,T,T,F,F,F] ?_
        refine Z2f 16 39 #[T,T,T,T,T,T,T,T,T,T,T,T,T,T,T,T,T,F,F] ?_
        refine Z2f 17 40 #[T,T,T,T,T,T,T,T,T,T,T,T,T,T,T,T,T,T,F] ?_
        refine Z2f 18 41 #[T,T,T,T,T,T,T,T,T,T,T,T,T,T,T,T,T,T,T] ?_
        refine done_ (done_of HT_.out Z2e) ?_
        try go_wp2
        go_meet
        case rel => exact ⟨_, (((Int.tmod iA 2) != 0)), Z2j, H', ⟨by have := HJ2.out; first | omega | exact Nat.le_refl _⟩, ⟨Z2h⟩, ⟨Z2i⟩, ⟨Z2g⟩⟩
      ·replace c25 := Bool.eq_false_iff.mpr c25
       subst c25
       rw [if_neg (show ¬ (false = true) by decide)] at H
       as_aux_lemma =>
        have H' := Z2d H
        clear H
        try go_wp2
        have BA := Z2d (blk_drew aA.out)
        have CA := Z2d (blk_drew cA.out)
        have DA := Z2d (below_drew1 HB.out)
        clear aA cA HB
        have aA := BA
        have cA := CA
        have HB := DA
        clear BA CA DA
        refine start_ (n := 19) (S := fun w' => w'.cell? ⟨fA, 0, none⟩ = some (.int .i64 pA) ∧ w'.cell? ⟨fA, 1, none⟩ = some (.int .i64 qA) ∧ w'.cell? ⟨fA, 2, none⟩ = some (.int .i64 oA) ∧ w'.cell? ⟨fA, 3, none⟩ = some (.int .i64 dA) ∧ w'.cell? ⟨fA, 4, none⟩ = some (.int .i64 iA) ∧ w'.cell? ⟨fA, 5, none⟩ = some (.int .i64 lA) ∧ w'.cell? ⟨fA, 6, none⟩ = some (.int .i64 nA) ∧ w'.cell? ⟨fA, 7, none⟩ = some (.int .i64 sA) ∧ w'.cell? ⟨fA, 8, none⟩ = some (.int .i64 tA) ∧ w'.cell? ⟨fA, 9, none⟩ = some (.bool uA)) (ds := []) #[F,F,F,F,F,F,F,F,F,F,F,F,F,F,F,F,F,F,F] Z2e rfl rfl ⟨(blk_cell aA.out 0).trans rfl, (blk_cell aA.out 1).trans rfl, (blk_cell aA.out 2).trans rfl, (blk_cell aA.out 3).trans rfl, (blk_cell aA.out 4).trans rfl, (blk_cell aA.out 5).trans rfl, (blk_cell aA.out 6).trans rfl, (blk_cell aA.out 7).trans rfl, (blk_cell aA.out 8).trans rfl, (blk_cell aA.out 9).trans rfl⟩ (fun hHeld => ?_); refine with_tabW impl_LiAct.tab3 impl_LiAct.bits3 (fun HT_ HW_ => ?_)
        generalize wc.drew = AP at aA cA HB hHeld ⊢
        refine Z2f 0 23 #[T,F,F,F,F,F,F,F,F,F,F,F,F,F,F,F,F,F,F] ?_
        refine take_ (i := 1) (N := some 24) (v := ?_) (a' := ?_) #[T,T,F,F,F,F,F,F,F,F,F,F,F,F,F,F,F,F,F] rfl rfl (take_ofW HT_.out HW_.out Z2e) (fun _ _ _ h => h) (Or.inl ⟨by rfl, ?_⟩) hHeld ?_ ?_
        rotate_left
        ·rintro w' ⟨s0, s1, s2, s3, s4, s5, s6, s7, s8, s9⟩
         go_simp
         with_reducible rfl
        rotate_left
        ·simp only [Act.put, List.setIfInBounds_toArray, List.set_cons_zero, List.set_cons_succ, i64_w, i32_w]
         rfl
        refine Z2f 2 25 #[T,T,T,F,F,F,F,F,F,F,F,F,F,F,F,F,F,F,F] ?_
        refine Z2f 3 26 #[T,T,T,T,F,F,F,F,F,F,F,F,F,F,F,F,F,F,F] ?_
        refine Z2f 4 27 #[T,T,T,T,T,F,F,F,F,F,F,F,F,F,F,F,F,F,F] ?_
        refine Z2f 7 30 #[T,T,T,T,T,F,F,T,F,F,F,F,F,F,F,F,F,F,F] ?_
        refine Z2f 8 31 #[T,T,T,T,T,F,F,T,T,F,F,F,F,F,F,F,F,F,F] ?_
        refine take_ (i := 5) (N := some 28) (v := ?_) (a' := ?_) #[T,T,T,T,T,T,F,T,T,F,F,F,F,F,F,F,F,F,F] rfl rfl (take_ofW HT_.out HW_.out Z2e) (fun _ _ _ h => h) (Or.inl ⟨by rfl, ?_⟩) hHeld ?_ ?_
        rotate_left
        ·rintro w' ⟨s0, s1, s2, s3, s4, s5, s6, s7, s8, s9⟩
         go_simp
         with_reducible rfl
        rotate_left
        ·simp only [Act.put, List.setIfInBounds_toArray, List.set_cons_zero, List.set_cons_succ, i64_w, i32_w]
         rfl
        refine one_ (i := 6) (N := some 29) #[T,T,T,T,T,T,T,T,T,F,F,F,F,F,F,F,F,F,F] rfl rfl (one_of HT_.out Z2e) (by decide) (fun K hK => ?_)
        refine goes_ Try.func50 Z2e rfl #[.int .i64 0] (by rfl) rfl rfl Z2k ?_
        with_reducible refine (impl_linkCell.calls 0 SB _ A22.out).mono ?_
        rintro e w' ⟨rfl, ⟨nd, rfl⟩⟩
        refine ⟨_, rfl, ?_⟩
        refine hK.out _ _ ⟨(blk_cell aA.out 0).trans rfl, (blk_cell aA.out 1).trans rfl, (blk_cell aA.out 2).trans rfl, (blk_cell aA.out 3).trans rfl, (blk_cell aA.out 4).trans rfl, (blk_cell aA.out 5).trans rfl, (blk_cell aA.out 6).trans rfl, (blk_cell aA.out 7).trans rfl, (blk_cell aA.out 8).trans rfl, (blk_cell aA.out 9).trans rfl⟩ (fun hHeld => ?_)
        clear hK K
        refine norm_ (a' := ?_) ?_ ?_
        rotate_left
        ·show Act.put _ (some 29) _ = _
         simp only [Act.put, List.setIfInBounds_toArray, List.set_cons_zero, List.set_cons_succ, i64_w, i32_w]
         rfl
        refine one_ (i := 9) (N := some 32) #[T,T,T,T,T,T,T,T,T,T,F,F,F,F,F,F,F,F,F] rfl rfl (one_of HT_.out Z2e) (by decide) (fun K hK => ?_)
        refine goes_ Try.func50 Z2e rfl #[.int .i64 (wrap64 (a0 - 1))] (by rfl) rfl rfl Z2k ?_
        with_reducible refine (impl_linkCell.calls (wrap64 (a0 - 1)) TB _ A23.out).mono ?_
        rintro e w' ⟨rfl, ⟨nd, rfl⟩⟩
        refine ⟨_, rfl, ?_⟩
        refine hK.out _ _ ⟨(blk_cell aA.out 0).trans rfl, (blk_cell aA.out 1).trans rfl, (blk_cell aA.out 2).trans rfl, (blk_cell aA.out 3).trans rfl, (blk_cell aA.out 4).trans rfl, (blk_cell aA.out 5).trans rfl, (blk_cell aA.out 6).trans rfl, (blk_cell aA.out 7).trans rfl, (blk_cell aA.out 8).trans rfl, (blk_cell aA.out 9).trans rfl⟩ (fun hHeld => ?_)
        clear hK K
        refine norm_ (a' := ?_) ?_ ?_
        rotate_left
        ·show Act.put _ (some 32) _ = _
         simp only [Act.put, List.setIfInBounds_toArray, List.set_cons_zero, List.set_cons_succ, i64_w, i32_w]
         rfl
        refine one_ (i := 10) (N := some 33) #[T,T,T,T,T,T,T,T,T,T,T,F,F,F,F,F,F,F,F] rfl rfl (one_of HT_.out Z2e) (by decide) (fun K hK => ?_)
        refine goes_ Try.func43 Z2e rfl #[.int .i64 iA, .int .i64 SB, .int .i64 TB] (by rfl) rfl rfl Z2k ?_
        with_reducible refine (impl_within.calls iA SB TB false _ A24.out).mono ?_
        rintro e w' ⟨rfl, ⟨nd, rfl⟩⟩
        refine ⟨_, rfl, ?_⟩
        refine hK.out _ _ ⟨(blk_cell aA.out 0).trans rfl, (blk_cell aA.out 1).trans rfl, (blk_cell aA.out 2).trans rfl, (blk_cell aA.out 3).trans rfl, (blk_cell aA.out 4).trans rfl, (blk_cell aA.out 5).trans rfl, (blk_cell aA.out 6).trans rfl, (blk_cell aA.out 7).trans rfl, (blk_cell aA.out 8).trans rfl, (blk_cell aA.out 9).trans rfl⟩ (fun hHeld => ?_)
        clear hK K
        refine norm_ (a' := ?_) ?_ ?_
        rotate_left
        ·show Act.put _ (some 33) _ = _
         simp only [Act.put, List.setIfInBounds_toArray, List.set_cons_zero, List.set_cons_succ, i64_w, i32_w]
         rfl
        refine Z2f 11 34 #[T,T,T,T,T,T,T,T,T,T,T,T,F,F,F,F,F,F,F] ?_
        refine Z2f 12 35 #[T,T,T,T,T,T,T,T,T,T,T,T,T,F,F,F,F,F,F] ?_
        refine Z2l 13 36 #[T,T,T,T,T,T,T,T,T,T,T,T,T,T,F,F,F,F,F] ?_
        refine Z2l 14 37 #[T,T,T,T,T,T,T,T,T,T,T,T,T,T,T,F,F,F,F] ?_
        refine Z2l 15 38 #[T,T,T,T,T,T,T,T,T,T,T,T,T,T,T,T,F,F,F] ?_
        refine Z2l 16 39 #[T,T,T,T,T,T,T,T,T,T,T,T,T,T,T,T,T,F,F] ?_
        refine Z2f 17 40 #[T,T,T,T,T,T,T,T,T,T,T,T,T,T,T,T,T,T,F] ?_
        refine Z2f 18 41 #[T,T,T,T,T,T,T,T,T,T,T,T,T,T,T,T,T,T,T] ?_
        refine done_ (done_of HT_.out Z2e) ?_
        try go_wp2
        go_meet
        case rel => exact ⟨_, (true), Z2j, H', ⟨by have := HJ2.out; first | omega | exact Nat.le_refl _⟩, ⟨Z2h⟩, ⟨Z2i⟩, ⟨Z2g⟩⟩
    case rest =>
     clear HC19
     (try clear c1); (try clear c2); (try clear p2); (try clear c4); (try clear c5); (try clear p6); (try clear c16); (try clear c17); (try clear c20); (try clear ZA); (try clear VE); (try clear c25); (try clear wB); (try clear xB); (try clear yB); (try clear zB); (try clear AB); (try clear BB); (try clear CB); (try clear DB); (try clear EB); (try clear FB); (try clear GB); (try clear VB); (try clear IB); (try clear JB); (try clear KB); (try clear cB); (try clear dB); (try clear eB); (try clear fB); (try clear gB); (try clear hB); (try clear iB); (try clear jB); (try clear kB); (try clear lB); (try clear EA); (try clear FA); (try clear GA); (try clear IA); (try clear JA); (try clear KA); (try clear LA); (try clear MA); (try clear NA); (try clear OA); (try clear PA); (try clear QA); (try clear RA); (try clear SA); (try clear TA); (try clear UA); (try clear VA); (try clear WA); (try clear XA); (try clear YA); (try clear LB); (try clear MB); (try clear NB); (try clear OB); (try clear mB); (try clear nB); (try clear oB); (try clear pB); (try clear qB); (try clear rB); (try clear sB); (try clear tB); (try clear uB); (try clear vB)
     obtain ⟨kq, PB, rfl, HA, HJ18, aA, cA, HB⟩ := hcut
     cases kq with
     | zero => exact absurd HA.out (by simp [impl_LiAct.j1])
     | succ kj18 =>
      have H := HA.out
      clear HA
      simp only [impl_LiAct.j1] at H
      by_cases c28 : PB = true
      ·subst c28
       rw [if_pos rfl] at H
       as_aux_lemma =>
        simp only [Option.some.injEq, Prod.mk.injEq] at H
        obtain ⟨rfl, rfl, rfl, rfl, rfl⟩ := H
        have tO := eA.out
        have uO := bA.out
        have WB := Z2b cA.out 0 (.int .i64 0)
        have XB := Z2b cA.out 1 (.int .i64 0)
        have YB := Z2b cA.out 2 (.int .i64 0)
        have ZB := Z2b cA.out 3 (.int .i64 0)
        have aC := Z2a cA.out 0
        have bC := Z2a cA.out 1
        have cC := Z2a cA.out 2
        have dC := Z2a cA.out 3
        go_wp2
        refine bodyPost_ret (results_ct rfl _ _ zA 37 #[.int .i64 0, .int .i64 0, .int .i64 0, .int .i64 0] (0, 0) _ rfl Z2p Try.underlying37 rfl Z2e) rfl ?_
        exact ⟨Z2m, Z2g⟩
      ·replace c28 := Bool.eq_false_iff.mpr c28
       subst c28
       rw [if_neg (show ¬ (false = true) by decide)] at H
       have HC31 := Z2d H
       clear H
       go_upto_region 5 with (fail)
       go_cut [69] (fun v69 wc => ∃ (kq : Nat) (QB : Bool), v69 = .bool QB ∧ Aside0 (impl_LiAct.j2 kq a0 QB pA qA oA dA iA lA nA sA tA uA = some (r1, r2, r3, r4, r5)) ∧ Aside0 (kq ≤ kj18) ∧ Aside0 (wc.heap[fA]? = some (.cells #[.int .i64 pA, .int .i64 qA, .int .i64 oA, .int .i64 dA, .int .i64 iA, .int .i64 lA, .int .i64 nA, .int .i64 sA, .int .i64 tA, .bool uA] 23 (0, 0))) ∧ Aside0 (wc.heap[zA]? = some (.cells #[.int .i64 0, .int .i64 0, .int .i64 0, .int .i64 0] 37 (0, 0))) ∧ Aside0 (Below w.heap.size w wc))
       case first =>
        have H := HC31.out
        clear HC31
        by_cases c32 : dA > 0
        ·rw [if_pos c32] at H
         have aB : decide (0 < dA) = true := decide_eq_true c32
         clear c32
         (first | rw [aB] | (simp only [i64_w, i32_w]; rw [aB]) | skip)
         replace H := Option.bind_eq_some_iff.mp H
         obtain ⟨fJ, A330, H⟩ := H
         (try dsimp only at H)
         have A33 := Z2d A330
         clear A330
         by_cases c34 : fJ = true
         ·subst c34
          rw [if_pos rfl] at H
          by_cases c35 : dA = 3
          ·rw [if_pos c35] at H
           have TI : (dA == 3) = true := beq_iff_eq.mpr c35
           have UI : (dA != 3) = false := bne_eq_false_iff_eq.mpr c35
           clear c35
           replace H := Option.bind_eq_some_iff.mp H
           obtain ⟨WE, A360, H⟩ := H
           (try dsimp only at H)
           have A36 := Z2d A360
           clear A360
           as_aux_lemma =>
            have H' := Z2d H
            clear H
            have vO := bA.out
            have wO := eA.out
            have eC := Z2b aA.out 0 (.int .i64 pA)
            have fC := Z2b aA.out 1 (.int .i64 qA)
            have gC := Z2b aA.out 2 (.int .i64 oA)
            have hC := Z2b aA.out 3 (.int .i64 dA)
            have iC := Z2b aA.out 4 (.int .i64 iA)
            have jC := Z2b aA.out 5 (.int .i64 lA)
            have kC := Z2b aA.out 6 (.int .i64 nA)
            have lC := Z2b aA.out 7 (.int .i64 sA)
            have mC := Z2b aA.out 8 (.int .i64 tA)
            have nC := Z2b aA.out 9 (.bool uA)
            have oC := Z2a aA.out 0
            have pC := Z2a aA.out 1
            have qC := Z2a aA.out 2
            have rC := Z2a aA.out 3
            have sC := Z2a aA.out 4
            have tC := Z2a aA.out 5
            have uC := Z2a aA.out 6
            have vC := Z2a aA.out 7
            have wC := Z2a aA.out 8
            have xC := Z2a aA.out 9
            go_wp2_with (first | (go_at_call 51; (with_reducible refine (impl_isLink.calls lA a0 true _ A33.out).mono ?_); rintro e w' ⟨rfl, ⟨nd, rfl⟩⟩) | (go_at_call 51; (with_reducible refine (impl_isLink.calls nA a0 WE _ A36.out).mono ?_); rintro e w' ⟨rfl, ⟨nd, rfl⟩⟩))
            go_meet
            case rel => exact ⟨_, (!WE), Z2j, H', ⟨Z2o⟩, ⟨Z2h⟩, ⟨Z2i⟩, ⟨Z2g⟩⟩
          ·rw [if_neg c35] at H
           have TI : (dA == 3) = false := beq_eq_false_iff_ne.mpr c35
           have UI : (dA != 3) = true := bne_iff_ne.mpr c35
           by_cases c39 : dA = 7
           ·rw [if_pos c39] at H
            have VI : (dA == 7) = true := beq_iff_eq.mpr c39
            have WI : (dA != 7) = false := bne_eq_false_iff_eq.mpr c39
            clear c39
            replace H := Option.bind_eq_some_iff.mp H
            obtain ⟨XE, A400, H⟩ := H
            (try dsimp only at H)
            have A40 := Z2d A400
            clear A400
            as_aux_lemma =>
             have H' := Z2d H
             clear H
             have xO := bA.out
             have yO := eA.out
             have yC := Z2b aA.out 0 (.int .i64 pA)
             have zC := Z2b aA.out 1 (.int .i64 qA)
             have AC := Z2b aA.out 2 (.int .i64 oA)
             have BC := Z2b aA.out 3 (.int .i64 dA)
             have CC := Z2b aA.out 4 (.int .i64 iA)
             have DC := Z2b aA.out 5 (.int .i64 lA)
             have EC := Z2b aA.out 6 (.int .i64 nA)
             have FC := Z2b aA.out 7 (.int .i64 sA)
             have GC := Z2b aA.out 8 (.int .i64 tA)
             have HC := Z2b aA.out 9 (.bool uA)
             have IC := Z2a aA.out 0
             have JC := Z2a aA.out 1
             have KC := Z2a aA.out 2
             have LC := Z2a aA.out 3
             have MC := Z2a aA.out 4
             have NC := Z2a aA.out 5
             have OC := Z2a aA.out 6
             have PC := Z2a aA.out 7
             have QC := Z2a aA.out 8
             have RC := Z2a aA.out 9
             go_wp2_with (first | (go_at_call 51; (with_reducible refine (impl_isLink.calls lA a0 true _ A33.out).mono ?_); rintro e w' ⟨rfl, ⟨nd, rfl⟩⟩) | (go_at_call 51; (with_reducible refine (impl_isLink.calls nA a0 XE _ A40.out).mono ?_); rintro e w' ⟨rfl, ⟨nd, rfl⟩⟩))
             go_meet
             case rel => exact ⟨_, (!XE), Z2j, H', ⟨Z2o⟩, ⟨Z2h⟩, ⟨Z2i⟩, ⟨Z2g⟩⟩
           ·rw [if_neg c39] at H
            have VI : (dA == 7) = false := beq_eq_false_iff_ne.mpr c39
            have WI : (dA != 7) = true := bne_iff_ne.mpr c39
            as_aux_lemma =>
             have H' := Z2d H
             clear H
             have zO := bA.out
             have AO := eA.out
             have SC := Z2b aA.out 0 (.int .i64 pA)
             have TC := Z2b aA.out 1 (.int .i64 qA)
             have UC := Z2b aA.out 2 (.int .i64 oA)
             have VC := Z2b aA.out 3 (.int .i64 dA)
             have WC := Z2b aA.out 4 (.int .i64 iA)
             have XC := Z2b aA.out 5 (.int .i64 lA)
             have YC := Z2b aA.out 6 (.int .i64 nA)
             have ZC := Z2b aA.out 7 (.int .i64 sA)
             have aD := Z2b aA.out 8 (.int .i64 tA)
             have bD := Z2b aA.out 9 (.bool uA)
             have cD := Z2a aA.out 0
             have dD := Z2a aA.out 1
             have eD := Z2a aA.out 2
             have fD := Z2a aA.out 3
             have gD := Z2a aA.out 4
             have hD := Z2a aA.out 5
             have iD := Z2a aA.out 6
             have jD := Z2a aA.out 7
             have kD := Z2a aA.out 8
             have lD := Z2a aA.out 9
             go_wp2_with (first | (go_at_call 51; (with_reducible refine (impl_isLink.calls lA a0 true _ A33.out).mono ?_); rintro e w' ⟨rfl, ⟨nd, rfl⟩⟩))
             go_meet
             case rel => exact ⟨_, (false), Z2j, H', ⟨Z2o⟩, ⟨Z2h⟩, ⟨Z2i⟩, ⟨Z2g⟩⟩
         ·replace c34 := Bool.eq_false_iff.mpr c34
          subst c34
          rw [if_neg (show ¬ (false = true) by decide)] at H
          as_aux_lemma =>
           have H' := Z2d H
           clear H
           have BO := bA.out
           have CO := eA.out
           have mD := Z2b aA.out 0 (.int .i64 pA)
           have nD := Z2b aA.out 1 (.int .i64 qA)
           have oD := Z2b aA.out 2 (.int .i64 oA)
           have pD := Z2b aA.out 3 (.int .i64 dA)
           have qD := Z2b aA.out 4 (.int .i64 iA)
           have rD := Z2b aA.out 5 (.int .i64 lA)
           have sD := Z2b aA.out 6 (.int .i64 nA)
           have tD := Z2b aA.out 7 (.int .i64 sA)
           have uD := Z2b aA.out 8 (.int .i64 tA)
           have vD := Z2b aA.out 9 (.bool uA)
           have wD := Z2a aA.out 0
           have xD := Z2a aA.out 1
           have yD := Z2a aA.out 2
           have zD := Z2a aA.out 3
           have AD := Z2a aA.out 4
           have BD := Z2a aA.out 5
           have CD := Z2a aA.out 6
           have DD := Z2a aA.out 7
           have ED := Z2a aA.out 8
           have FD := Z2a aA.out 9
           go_wp2_with (first | (go_at_call 51; (with_reducible refine (impl_isLink.calls lA a0 false _ A33.out).mono ?_); rintro e w' ⟨rfl, ⟨nd, rfl⟩⟩))
           go_meet
           case rel => exact ⟨_, (true), Z2j, H', ⟨Z2o⟩, ⟨Z2h⟩, ⟨Z2i⟩, ⟨Z2g⟩⟩
        ·rw [if_neg c32] at H
         have aB : decide (0 < dA) = false := decide_eq_false c32
         clear c32
         (first | rw [aB] | (simp only [i64_w, i32_w]; rw [aB]) | skip)
         by_cases c47 : dA = 3
         ·rw [if_pos c47] at H
          have XI : (dA == 3) = true := beq_iff_eq.mpr c47
          have YI : (dA != 3) = false := bne_eq_false_iff_eq.mpr c47
          clear c47
          replace H := Option.bind_eq_some_iff.mp H
          obtain ⟨YE, A480, H⟩ := H
          (try dsimp only at H)
          have A48 := Z2d A480
          clear A480
          as_aux_lemma =>
           have H' := Z2d H
           clear H
           have DO := bA.out
           have EO := eA.out
           have GD := Z2b aA.out 0 (.int .i64 pA)
           have HD := Z2b aA.out 1 (.int .i64 qA)
           have ID := Z2b aA.out 2 (.int .i64 oA)
           have JD := Z2b aA.out 3 (.int .i64 dA)
           have KD := Z2b aA.out 4 (.int .i64 iA)
           have LD := Z2b aA.out 5 (.int .i64 lA)
           have MD := Z2b aA.out 6 (.int .i64 nA)
           have ND := Z2b aA.out 7 (.int .i64 sA)
           have OD := Z2b aA.out 8 (.int .i64 tA)
           have PD := Z2b aA.out 9 (.bool uA)
           have QD := Z2a aA.out 0
           have RD := Z2a aA.out 1
           have SD := Z2a aA.out 2
           have TD := Z2a aA.out 3
           have UD := Z2a aA.out 4
           have VD := Z2a aA.out 5
           have WD := Z2a aA.out 6
           have XD := Z2a aA.out 7
           have YD := Z2a aA.out 8
           have ZD := Z2a aA.out 9
           go_wp2_with (first | (go_at_call 51; (with_reducible refine (impl_isLink.calls nA a0 YE _ A48.out).mono ?_); rintro e w' ⟨rfl, ⟨nd, rfl⟩⟩))
           go_meet
           case rel => exact ⟨_, (!YE), Z2j, H', ⟨Z2o⟩, ⟨Z2h⟩, ⟨Z2i⟩, ⟨Z2g⟩⟩
         ·rw [if_neg c47] at H
          have XI : (dA == 3) = false := beq_eq_false_iff_ne.mpr c47
          have YI : (dA != 3) = true := bne_iff_ne.mpr c47
          by_cases c51 : dA = 7
          ·rw [if_pos c51] at H
           have ZI : (dA == 7) = true := beq_iff_eq.mpr c51
           have aJ : (dA != 7) = false := bne_eq_false_iff_eq.mpr c51
           clear c51
           replace H := Option.bind_eq_some_iff.mp H
           obtain ⟨ZE, A520, H⟩ := H
           (try dsimp only at H)
           have A52 := Z2d A520
           clear A520
           as_aux_lemma =>
            have H' := Z2d H
            clear H
            have FO := bA.out
            have GO := eA.out
            have aE := Z2b aA.out 0 (.int .i64 pA)
            have bE := Z2b aA.out 1 (.int .i64 qA)
            have cE := Z2b aA.out 2 (.int .i64 oA)
            have dE := Z2b aA.out 3 (.int .i64 dA)
            have eE := Z2b aA.out 4 (.int .i64 iA)
            have fE := Z2b aA.out 5 (.int .i64 lA)
            have gE := Z2b aA.out 6 (.int .i64 nA)
            have hE := Z2b aA.out 7 (.int .i64 sA)
            have iE := Z2b aA.out 8 (.int .i64 tA)
            have jE := Z2b aA.out 9 (.bool uA)
            have kE := Z2a aA.out 0
            have lE := Z2a aA.out 1
            have mE := Z2a aA.out 2
            have nE := Z2a aA.out 3
            have oE := Z2a aA.out 4
            have pE := Z2a aA.out 5
            have qE := Z2a aA.out 6
            have rE := Z2a aA.out 7
            have sE := Z2a aA.out 8
            have tE := Z2a aA.out 9
            go_wp2_with (first | (go_at_call 51; (with_reducible refine (impl_isLink.calls nA a0 ZE _ A52.out).mono ?_); rintro e w' ⟨rfl, ⟨nd, rfl⟩⟩))
            go_meet
            case rel => exact ⟨_, (!ZE), Z2j, H', ⟨Z2o⟩, ⟨Z2h⟩, ⟨Z2i⟩, ⟨Z2g⟩⟩
          ·rw [if_neg c51] at H
           have ZI : (dA == 7) = false := beq_eq_false_iff_ne.mpr c51
           have aJ : (dA != 7) = true := bne_iff_ne.mpr c51
           as_aux_lemma =>
            have H' := Z2d H
            clear H
            have HO := bA.out
            have IO := eA.out
            have uE := Z2b aA.out 0 (.int .i64 pA)
            have vE := Z2b aA.out 1 (.int .i64 qA)
            have wE := Z2b aA.out 2 (.int .i64 oA)
            have xE := Z2b aA.out 3 (.int .i64 dA)
            have yE := Z2b aA.out 4 (.int .i64 iA)
            have zE := Z2b aA.out 5 (.int .i64 lA)
            have AE := Z2b aA.out 6 (.int .i64 nA)
            have BE := Z2b aA.out 7 (.int .i64 sA)
            have CE := Z2b aA.out 8 (.int .i64 tA)
            have DE := Z2b aA.out 9 (.bool uA)
            have EE := Z2a aA.out 0
            have FE := Z2a aA.out 1
            have GE := Z2a aA.out 2
            have HE := Z2a aA.out 3
            have IE := Z2a aA.out 4
            have JE := Z2a aA.out 5
            have KE := Z2a aA.out 6
            have LE := Z2a aA.out 7
            have ME := Z2a aA.out 8
            have NE := Z2a aA.out 9
            go_wp2
            go_meet
            case rel => exact ⟨_, (false), Z2j, H', ⟨Z2o⟩, ⟨Z2h⟩, ⟨Z2i⟩, ⟨Z2g⟩⟩
       case rest =>
        clear HC31
        (try clear c1); (try clear c2); (try clear p2); (try clear c3); (try clear c4); (try clear c5); (try clear p6); (try clear c16); (try clear c17); (try clear c20); (try clear ZA); (try clear VE); (try clear c25); (try clear c28); (try clear c29); (try clear c32); (try clear aB); (try clear c34); (try clear c35); (try clear TI); (try clear UI); (try clear c37); (try clear c39); (try clear VI); (try clear WI); (try clear c41); (try clear c43); (try clear c45); (try clear c47); (try clear XI); (try clear YI); (try clear c49); (try clear c50); (try clear c51); (try clear ZI); (try clear aJ); (try clear c53); (try clear c55); (try clear wB); (try clear xB); (try clear yB); (try clear zB); (try clear AB); (try clear BB); (try clear CB); (try clear DB); (try clear EB); (try clear FB); (try clear GB); (try clear VB); (try clear IB); (try clear JB); (try clear KB); (try clear WB); (try clear XB); (try clear YB); (try clear ZB); (try clear eC); (try clear fC); (try clear gC); (try clear hC); (try clear iC); (try clear jC); (try clear kC); (try clear lC); (try clear mC); (try clear nC); (try clear yC); (try clear zC); (try clear AC); (try clear BC); (try clear CC); (try clear DC); (try clear EC); (try clear FC); (try clear GC); (try clear HC); (try clear SC); (try clear TC); (try clear UC); (try clear VC); (try clear WC); (try clear XC); (try clear YC); (try clear ZC); (try clear aD); (try clear bD); (try clear mD); (try clear nD); (try clear oD); (try clear pD); (try clear qD); (try clear rD); (try clear sD); (try clear tD); (try clear uD); (try clear vD); (try clear GD); (try clear HD); (try clear ID); (try clear JD); (try clear KD); (try clear LD); (try clear MD); (try clear ND); (try clear OD); (try clear PD); (try clear aE); (try clear bE); (try clear cE); (try clear dE); (try clear eE); (try clear fE); (try clear gE); (try clear hE); (try clear iE); (try clear jE); (try clear uE); (try clear vE); (try clear wE); (try clear xE); (try clear yE); (try clear zE); (try clear AE); (try clear BE); (try clear CE); (try clear DE); (try clear cB); (try clear dB); (try clear eB); (try clear fB); (try clear gB); (try clear hB); (try clear iB); (try clear jB); (try clear kB); (try clear lB); (try clear EA); (try clear FA); (try clear GA); (try clear IA); (try clear JA); (try clear KA); (try clear LA); (try clear MA); (try clear NA); (try clear OA); (try clear PA); (try clear QA); (try clear RA); (try clear SA); (try clear TA); (try clear UA); (try clear VA); (try clear WA); (try clear XA); (try clear YA); (try clear LB); (try clear MB); (try clear NB); (try clear OB); (try clear aC); (try clear bC); (try clear cC); (try clear dC); (try clear oC); (try clear pC); (try clear qC); (try clear rC); (try clear sC); (try clear tC); (try clear uC); (try clear vC); (try clear wC); (try clear xC); (try clear IC); (try clear JC); (try clear KC); (try clear LC); (try clear MC); (try clear NC); (try clear OC); (try clear PC); (try clear QC); (try clear RC); (try clear cD); (try clear dD); (try clear eD); (try clear fD); (try clear gD); (try clear hD); (try clear iD); (try clear jD); (try clear kD); (try clear lD); (try clear wD); (try clear xD); (try clear yD); (try clear zD); (try clear AD); (try clear BD); (try clear CD); (try clear DD); (try clear ED); (try clear FD); (try clear QD); (try clear RD); (try clear SD); (try clear TD); (try clear UD); (try clear VD); (try clear WD); (try clear XD); (try clear YD); (try clear ZD); (try clear kE); (try clear lE); (try clear mE); (try clear nE); (try clear oE); (try clear pE); (try clear qE); (try clear rE); (try clear sE); (try clear tE); (try clear EE); (try clear FE); (try clear GE); (try clear HE); (try clear IE); (try clear JE); (try clear KE); (try clear LE); (try clear ME); (try clear NE); (try clear mB); (try clear nB); (try clear oB); (try clear pB); (try clear qB); (try clear rB); (try clear sB); (try clear tB); (try clear uB); (try clear vB); (try clear p2); (try clear p6)
        obtain ⟨kq, QB, rfl, HA, HJ30, aA, cA, HB⟩ := hcut
        cases kq with
        | zero => exact absurd HA.out (by simp [impl_LiAct.j2])
        | succ kj30 =>
         have H := HA.out
         clear HA
         simp only [impl_LiAct.j2] at H
         by_cases c57 : QB = true
         ·subst c57
          rw [if_pos rfl] at H
          as_aux_lemma =>
           simp only [Option.some.injEq, Prod.mk.injEq] at H
           obtain ⟨rfl, rfl, rfl, rfl, rfl⟩ := H
           have JO := eA.out
           have KO := bA.out
           have mF := Z2b cA.out 0 (.int .i64 0)
           have nF := Z2b cA.out 1 (.int .i64 0)
           have oF := Z2b cA.out 2 (.int .i64 0)
           have pF := Z2b cA.out 3 (.int .i64 0)
           have qF := Z2a cA.out 0
           have rF := Z2a cA.out 1
           have sF := Z2a cA.out 2
           have tF := Z2a cA.out 3
           go_wp2
           refine bodyPost_ret (results_ct rfl _ _ zA 37 #[.int .i64 0, .int .i64 0, .int .i64 0, .int .i64 0] (0, 0) _ rfl Z2p Try.underlying37 rfl Z2e) rfl ?_
           exact ⟨Z2m, Z2g⟩
         ·replace c57 := Bool.eq_false_iff.mpr c57
          subst c57
          rw [if_neg (show ¬ (false = true) by decide)] at H
          replace H := Option.bind_eq_some_iff.mp H
          obtain ⟨AA, A600, H⟩ := H
          (try dsimp only at H)
          have A60 := Z2d A600
          clear A600
          have HC61 := Z2d H
          clear H
          have LO := bA.out
          have MO := eA.out
          have uF := Z2b aA.out 0 (.int .i64 pA)
          have vF := Z2b aA.out 1 (.int .i64 qA)
          have wF := Z2b aA.out 2 (.int .i64 oA)
          have xF := Z2b aA.out 3 (.int .i64 dA)
          have yF := Z2b aA.out 4 (.int .i64 iA)
          have zF := Z2b aA.out 5 (.int .i64 lA)
          have AF := Z2b aA.out 6 (.int .i64 nA)
          have BF := Z2b aA.out 7 (.int .i64 sA)
          have CF := Z2b aA.out 8 (.int .i64 tA)
          have DF := Z2b aA.out 9 (.bool uA)
          have EF := Z2a aA.out 0
          have FF := Z2a aA.out 1
          have GF := Z2a aA.out 2
          have HF := Z2a aA.out 3
          have IF := Z2a aA.out 4
          have JF := Z2a aA.out 5
          have KF := Z2a aA.out 6
          have LF := Z2a aA.out 7
          have MF := Z2a aA.out 8
          have NF := Z2a aA.out 9
          go_upto_region 8 with (first | ((with_reducible refine gate_callee (f := 52) rfl ?_); refine goesL_ (some 73) rfl rfl Try.func52 Z2e rfl #[.int .i64 lA] rfl Z2k ?_; (with_reducible refine (impl_nodeOf.calls lA AA _ A60.out).mono ?_); rintro e w' ⟨rfl, ⟨nd, rfl⟩⟩; refine ⟨_, rfl, ?_⟩))
          (try simp only [Act.put, List.setIfInBounds_toArray, List.set_cons_zero, List.set_cons_succ])
          go_cut [98] (fun v98 wc => ∃ (kq : Nat) (RB : Bool), v98 = .bool RB ∧ Aside0 (impl_LiAct.j3 kq AA RB pA qA oA dA iA lA nA sA tA uA = some (r1, r2, r3, r4, r5)) ∧ Aside0 (kq ≤ kj30) ∧ Aside0 (wc.heap[fA]? = some (.cells #[.int .i64 pA, .int .i64 qA, .int .i64 oA, .int .i64 dA, .int .i64 iA, .int .i64 lA, .int .i64 nA, .int .i64 sA, .int .i64 tA, .bool uA] 23 (0, 0))) ∧ Aside0 (wc.heap[zA]? = some (.cells #[.int .i64 0, .int .i64 0, .int .i64 0, .int .i64 0] 37 (0, 0))) ∧ Aside0 (Below w.heap.size w wc))
          case first =>
           have H := HC61.out
           clear HC61
           replace H := Option.bind_eq_some_iff.mp H
           obtain ⟨gJ, A640, H⟩ := H
           (try dsimp only at H)
           have A64 := Z2d A640
           clear A640
           by_cases c65 : gJ = true
           ·subst c65
            rw [if_pos rfl] at H
            by_cases c66 : AA < 0
            ·rw [if_pos c66] at H
             have bB : decide (AA < 0) = true := decide_eq_true c66
             clear c66
             (first | rw [bB] | (simp only [i64_w, i32_w]; rw [bB]) | skip)
             as_aux_lemma =>
              have H' := Z2d H
              clear H
              have NO := bA.out
              have OO := eA.out
              have OF := Z2b aA.out 0 (.int .i64 pA)
              have PF := Z2b aA.out 1 (.int .i64 qA)
              have QF := Z2b aA.out 2 (.int .i64 oA)
              have RF := Z2b aA.out 3 (.int .i64 dA)
              have SF := Z2b aA.out 4 (.int .i64 iA)
              have TF := Z2b aA.out 5 (.int .i64 lA)
              have UF := Z2b aA.out 6 (.int .i64 nA)
              have VF := Z2b aA.out 7 (.int .i64 sA)
              have WF := Z2b aA.out 8 (.int .i64 tA)
              have XF := Z2b aA.out 9 (.bool uA)
              have YF := Z2a aA.out 0
              have ZF := Z2a aA.out 1
              have aG := Z2a aA.out 2
              have bG := Z2a aA.out 3
              have cG := Z2a aA.out 4
              have dG := Z2a aA.out 5
              have eG := Z2a aA.out 6
              have fG := Z2a aA.out 7
              have gG := Z2a aA.out 8
              have hG := Z2a aA.out 9
              go_wp2_with (first | ((with_reducible refine gate_callee (f := 43) rfl ?_); refine goesL_ (some 76) rfl rfl Try.func43 Z2e rfl #[.int .i64 dA, .int .i64 1, .int .i64 3] rfl Z2k ?_; (with_reducible refine (impl_within.calls dA 1 3 true _ A64.out).mono ?_); rintro e w' ⟨rfl, ⟨nd, rfl⟩⟩; refine ⟨_, rfl, ?_⟩))
              go_meet
              case rel => exact ⟨_, (true), Z2j, H', ⟨Z2n⟩, ⟨Z2h⟩, ⟨Z2i⟩, ⟨Z2g⟩⟩
            ·rw [if_neg c66] at H
             have bB : decide (AA < 0) = false := decide_eq_false c66
             clear c66
             (first | rw [bB] | (simp only [i64_w, i32_w]; rw [bB]) | skip)
             replace H := Option.bind_eq_some_iff.mp H
             obtain ⟨hJ, A690, H⟩ := H
             (try dsimp only at H)
             have A69 := Z2d A690
             clear A690
             by_cases c70 : hJ = true
             ·subst c70
              rw [if_pos rfl] at H
              replace H := Option.bind_eq_some_iff.mp H
              obtain ⟨aF, A710, H⟩ := H
              (try dsimp only at H)
              have A71 := Z2d A710
              clear A710
              as_aux_lemma =>
               have H' := Z2d H
               clear H
               have PO := bA.out
               have QO := eA.out
               have iG := Z2b aA.out 0 (.int .i64 pA)
               have jG := Z2b aA.out 1 (.int .i64 qA)
               have kG := Z2b aA.out 2 (.int .i64 oA)
               have lG := Z2b aA.out 3 (.int .i64 dA)
               have mG := Z2b aA.out 4 (.int .i64 iA)
               have nG := Z2b aA.out 5 (.int .i64 lA)
               have oG := Z2b aA.out 6 (.int .i64 nA)
               have pG := Z2b aA.out 7 (.int .i64 sA)
               have qG := Z2b aA.out 8 (.int .i64 tA)
               have rG := Z2b aA.out 9 (.bool uA)
               have sG := Z2a aA.out 0
               have tG := Z2a aA.out 1
               have uG := Z2a aA.out 2
               have vG := Z2a aA.out 3
               have wG := Z2a aA.out 4
               have xG := Z2a aA.out 5
               have yG := Z2a aA.out 6
               have zG := Z2a aA.out 7
               have AG := Z2a aA.out 8
               have BG := Z2a aA.out 9
               go_wp2_with (first | ((with_reducible refine gate_callee (f := 43) rfl ?_); refine goesL_ (some 76) rfl rfl Try.func43 Z2e rfl #[.int .i64 dA, .int .i64 1, .int .i64 3] rfl Z2k ?_; (with_reducible refine (impl_within.calls dA 1 3 true _ A64.out).mono ?_); rintro e w' ⟨rfl, ⟨nd, rfl⟩⟩; refine ⟨_, rfl, ?_⟩) | (go_at_call 43; (with_reducible refine (impl_within.calls dA 4 6 true _ A69.out).mono ?_); rintro e w' ⟨rfl, ⟨nd, rfl⟩⟩) | (go_at_call 43; (with_reducible refine (impl_within.calls oA 0 (wrap64 (a0 - 1)) aF _ A71.out).mono ?_); rintro e w' ⟨rfl, ⟨nd, rfl⟩⟩))
               go_meet
               case rel => exact ⟨_, (!aF), Z2j, H', ⟨Z2n⟩, ⟨Z2h⟩, ⟨Z2i⟩, ⟨Z2g⟩⟩
             ·replace c70 := Bool.eq_false_iff.mpr c70
              subst c70
              rw [if_neg (show ¬ (false = true) by decide)] at H
              as_aux_lemma =>
               have H' := Z2d H
               clear H
               have RO := bA.out
               have SO := eA.out
               have CG := Z2b aA.out 0 (.int .i64 pA)
               have DG := Z2b aA.out 1 (.int .i64 qA)
               have EG := Z2b aA.out 2 (.int .i64 oA)
               have FG := Z2b aA.out 3 (.int .i64 dA)
               have GG := Z2b aA.out 4 (.int .i64 iA)
               have HG := Z2b aA.out 5 (.int .i64 lA)
               have IG := Z2b aA.out 6 (.int .i64 nA)
               have JG := Z2b aA.out 7 (.int .i64 sA)
               have KG := Z2b aA.out 8 (.int .i64 tA)
               have LG := Z2b aA.out 9 (.bool uA)
               have MG := Z2a aA.out 0
               have NG := Z2a aA.out 1
               have OG := Z2a aA.out 2
               have PG := Z2a aA.out 3
               have QG := Z2a aA.out 4
               have RG := Z2a aA.out 5
               have SG := Z2a aA.out 6
               have TG := Z2a aA.out 7
               have UG := Z2a aA.out 8
               have VG := Z2a aA.out 9
               go_wp2_with (first | ((with_reducible refine gate_callee (f := 43) rfl ?_); refine goesL_ (some 76) rfl rfl Try.func43 Z2e rfl #[.int .i64 dA, .int .i64 1, .int .i64 3] rfl Z2k ?_; (with_reducible refine (impl_within.calls dA 1 3 true _ A64.out).mono ?_); rintro e w' ⟨rfl, ⟨nd, rfl⟩⟩; refine ⟨_, rfl, ?_⟩) | (go_at_call 43; (with_reducible refine (impl_within.calls dA 4 6 false _ A69.out).mono ?_); rintro e w' ⟨rfl, ⟨nd, rfl⟩⟩))
               go_meet
               case rel => exact ⟨_, (false), Z2j, H', ⟨Z2n⟩, ⟨Z2h⟩, ⟨Z2i⟩, ⟨Z2g⟩⟩
           ·replace c65 := Bool.eq_false_iff.mpr c65
            subst c65
            rw [if_neg (show ¬ (false = true) by decide)] at H
            by_cases c76 : dA = 7
            ·rw [if_pos c76] at H
             have bJ : (dA == 7) = true := beq_iff_eq.mpr c76
             have cJ : (dA != 7) = false := bne_eq_false_iff_eq.mpr c76
             clear c76
             by_cases c77 : AA < 0
             ·rw [if_pos c77] at H
              have dJ : decide (AA < 0) = true := decide_eq_true c77
              clear c77
              as_aux_lemma =>
               have H' := Z2d H
               clear H
               have TO := bA.out
               have UO := eA.out
               have WG := Z2b aA.out 0 (.int .i64 pA)
               have XG := Z2b aA.out 1 (.int .i64 qA)
               have YG := Z2b aA.out 2 (.int .i64 oA)
               have ZG := Z2b aA.out 3 (.int .i64 dA)
               have aH := Z2b aA.out 4 (.int .i64 iA)
               have bH := Z2b aA.out 5 (.int .i64 lA)
               have cH := Z2b aA.out 6 (.int .i64 nA)
               have dH := Z2b aA.out 7 (.int .i64 sA)
               have eH := Z2b aA.out 8 (.int .i64 tA)
               have fH := Z2b aA.out 9 (.bool uA)
               have gH := Z2a aA.out 0
               have hH := Z2a aA.out 1
               have iH := Z2a aA.out 2
               have jH := Z2a aA.out 3
               have kH := Z2a aA.out 4
               have lH := Z2a aA.out 5
               have mH := Z2a aA.out 6
               have nH := Z2a aA.out 7
               have oH := Z2a aA.out 8
               have pH := Z2a aA.out 9
               go_wp2_with (first | ((with_reducible refine gate_callee (f := 43) rfl ?_); refine goesL_ (some 76) rfl rfl Try.func43 Z2e rfl #[.int .i64 dA, .int .i64 1, .int .i64 3] rfl Z2k ?_; (with_reducible refine (impl_within.calls dA 1 3 false _ A64.out).mono ?_); rintro e w' ⟨rfl, ⟨nd, rfl⟩⟩; refine ⟨_, rfl, ?_⟩))
               go_meet
               case rel => exact ⟨_, (true), Z2j, H', ⟨Z2n⟩, ⟨Z2h⟩, ⟨Z2i⟩, ⟨Z2g⟩⟩
             ·rw [if_neg c77] at H
              have dJ : decide (AA < 0) = false := decide_eq_false c77
              clear c77
              replace H := Option.bind_eq_some_iff.mp H
              obtain ⟨iJ, A800, H⟩ := H
              (try dsimp only at H)
              have A80 := Z2d A800
              clear A800
              by_cases c81 : iJ = true
              ·subst c81
               rw [if_pos rfl] at H
               replace H := Option.bind_eq_some_iff.mp H
               obtain ⟨bF, A820, H⟩ := H
               (try dsimp only at H)
               have A82 := Z2d A820
               clear A820
               as_aux_lemma =>
                have H' := Z2d H
                clear H
                have VO := bA.out
                have WO := eA.out
                have qH := Z2b aA.out 0 (.int .i64 pA)
                have rH := Z2b aA.out 1 (.int .i64 qA)
                have sH := Z2b aA.out 2 (.int .i64 oA)
                have tH := Z2b aA.out 3 (.int .i64 dA)
                have uH := Z2b aA.out 4 (.int .i64 iA)
                have vH := Z2b aA.out 5 (.int .i64 lA)
                have wH := Z2b aA.out 6 (.int .i64 nA)
                have xH := Z2b aA.out 7 (.int .i64 sA)
                have yH := Z2b aA.out 8 (.int .i64 tA)
                have zH := Z2b aA.out 9 (.bool uA)
                have AH := Z2a aA.out 0
                have BH := Z2a aA.out 1
                have CH := Z2a aA.out 2
                have DH := Z2a aA.out 3
                have EH := Z2a aA.out 4
                have FH := Z2a aA.out 5
                have GH := Z2a aA.out 6
                have HH := Z2a aA.out 7
                have IH := Z2a aA.out 8
                have JH := Z2a aA.out 9
                go_wp2_with (first | ((with_reducible refine gate_callee (f := 43) rfl ?_); refine goesL_ (some 76) rfl rfl Try.func43 Z2e rfl #[.int .i64 dA, .int .i64 1, .int .i64 3] rfl Z2k ?_; (with_reducible refine (impl_within.calls dA 1 3 false _ A64.out).mono ?_); rintro e w' ⟨rfl, ⟨nd, rfl⟩⟩; refine ⟨_, rfl, ?_⟩) | (go_at_call 43; (with_reducible refine (impl_within.calls dA 4 6 true _ A80.out).mono ?_); rintro e w' ⟨rfl, ⟨nd, rfl⟩⟩) | (go_at_call 43; (with_reducible refine (impl_within.calls oA 0 (wrap64 (a0 - 1)) bF _ A82.out).mono ?_); rintro e w' ⟨rfl, ⟨nd, rfl⟩⟩))
                go_meet
                case rel => exact ⟨_, (!bF), Z2j, H', ⟨Z2n⟩, ⟨Z2h⟩, ⟨Z2i⟩, ⟨Z2g⟩⟩
              ·replace c81 := Bool.eq_false_iff.mpr c81
               subst c81
               rw [if_neg (show ¬ (false = true) by decide)] at H
               as_aux_lemma =>
                have H' := Z2d H
                clear H
                have XO := bA.out
                have YO := eA.out
                have KH := Z2b aA.out 0 (.int .i64 pA)
                have LH := Z2b aA.out 1 (.int .i64 qA)
                have MH := Z2b aA.out 2 (.int .i64 oA)
                have NH := Z2b aA.out 3 (.int .i64 dA)
                have OH := Z2b aA.out 4 (.int .i64 iA)
                have PH := Z2b aA.out 5 (.int .i64 lA)
                have QH := Z2b aA.out 6 (.int .i64 nA)
                have RH := Z2b aA.out 7 (.int .i64 sA)
                have SH := Z2b aA.out 8 (.int .i64 tA)
                have TH := Z2b aA.out 9 (.bool uA)
                have UH := Z2a aA.out 0
                have VH := Z2a aA.out 1
                have WH := Z2a aA.out 2
                have XH := Z2a aA.out 3
                have YH := Z2a aA.out 4
                have ZH := Z2a aA.out 5
                have aI := Z2a aA.out 6
                have bI := Z2a aA.out 7
                have cI := Z2a aA.out 8
                have dI := Z2a aA.out 9
                go_wp2_with (first | ((with_reducible refine gate_callee (f := 43) rfl ?_); refine goesL_ (some 76) rfl rfl Try.func43 Z2e rfl #[.int .i64 dA, .int .i64 1, .int .i64 3] rfl Z2k ?_; (with_reducible refine (impl_within.calls dA 1 3 false _ A64.out).mono ?_); rintro e w' ⟨rfl, ⟨nd, rfl⟩⟩; refine ⟨_, rfl, ?_⟩) | (go_at_call 43; (with_reducible refine (impl_within.calls dA 4 6 false _ A80.out).mono ?_); rintro e w' ⟨rfl, ⟨nd, rfl⟩⟩))
                go_meet
                case rel => exact ⟨_, (false), Z2j, H', ⟨Z2n⟩, ⟨Z2h⟩, ⟨Z2i⟩, ⟨Z2g⟩⟩
            ·rw [if_neg c76] at H
             have bJ : (dA == 7) = false := beq_eq_false_iff_ne.mpr c76
             have cJ : (dA != 7) = true := bne_iff_ne.mpr c76
             replace H := Option.bind_eq_some_iff.mp H
             obtain ⟨jJ, A870, H⟩ := H
             (try dsimp only at H)
             have A87 := Z2d A870
             clear A870
             by_cases c88 : jJ = true
             ·subst c88
              rw [if_pos rfl] at H
              replace H := Option.bind_eq_some_iff.mp H
              obtain ⟨cF, A890, H⟩ := H
              (try dsimp only at H)
              have A89 := Z2d A890
              clear A890
              as_aux_lemma =>
               have H' := Z2d H
               clear H
               have ZO := bA.out
               have aP := eA.out
               have eI := Z2b aA.out 0 (.int .i64 pA)
               have fI := Z2b aA.out 1 (.int .i64 qA)
               have gI := Z2b aA.out 2 (.int .i64 oA)
               have hI := Z2b aA.out 3 (.int .i64 dA)
               have iI := Z2b aA.out 4 (.int .i64 iA)
               have jI := Z2b aA.out 5 (.int .i64 lA)
               have kI := Z2b aA.out 6 (.int .i64 nA)
               have lI := Z2b aA.out 7 (.int .i64 sA)
               have mI := Z2b aA.out 8 (.int .i64 tA)
               have nI := Z2b aA.out 9 (.bool uA)
               have oI := Z2a aA.out 0
               have pI := Z2a aA.out 1
               have qI := Z2a aA.out 2
               have rI := Z2a aA.out 3
               have sI := Z2a aA.out 4
               have tI := Z2a aA.out 5
               have uI := Z2a aA.out 6
               have vI := Z2a aA.out 7
               have wI := Z2a aA.out 8
               have xI := Z2a aA.out 9
               go_wp2_with (first | ((with_reducible refine gate_callee (f := 43) rfl ?_); refine goesL_ (some 76) rfl rfl Try.func43 Z2e rfl #[.int .i64 dA, .int .i64 1, .int .i64 3] rfl Z2k ?_; (with_reducible refine (impl_within.calls dA 1 3 false _ A64.out).mono ?_); rintro e w' ⟨rfl, ⟨nd, rfl⟩⟩; refine ⟨_, rfl, ?_⟩) | (go_at_call 43; (with_reducible refine (impl_within.calls dA 4 6 true _ A87.out).mono ?_); rintro e w' ⟨rfl, ⟨nd, rfl⟩⟩) | (go_at_call 43; (with_reducible refine (impl_within.calls oA 0 (wrap64 (a0 - 1)) cF _ A89.out).mono ?_); rintro e w' ⟨rfl, ⟨nd, rfl⟩⟩))
               go_meet
               case rel => exact ⟨_, (!cF), Z2j, H', ⟨Z2n⟩, ⟨Z2h⟩, ⟨Z2i⟩, ⟨Z2g⟩⟩
             ·replace c88 := Bool.eq_false_iff.mpr c88
              subst c88
              rw [if_neg (show ¬ (false = true) by decide)] at H
              as_aux_lemma =>
               have H' := Z2d H
               clear H
               have bP := bA.out
               have cP := eA.out
               have yI := Z2b aA.out 0 (.int .i64 pA)
               have zI := Z2b aA.out 1 (.int .i64 qA)
               have AI := Z2b aA.out 2 (.int .i64 oA)
               have BI := Z2b aA.out 3 (.int .i64 dA)
               have CI := Z2b aA.out 4 (.int .i64 iA)
               have DI := Z2b aA.out 5 (.int .i64 lA)
               have EI := Z2b aA.out 6 (.int .i64 nA)
               have FI := Z2b aA.out 7 (.int .i64 sA)
               have GI := Z2b aA.out 8 (.int .i64 tA)
               have HI := Z2b aA.out 9 (.bool uA)
               have II := Z2a aA.out 0
               have JI := Z2a aA.out 1
               have KI := Z2a aA.out 2
               have LI := Z2a aA.out 3
               have MI := Z2a aA.out 4
               have NI := Z2a aA.out 5
               have OI := Z2a aA.out 6
               have PI := Z2a aA.out 7
               have QI := Z2a aA.out 8
               have RI := Z2a aA.out 9
               go_wp2_with (first | ((with_reducible refine gate_callee (f := 43) rfl ?_); refine goesL_ (some 76) rfl rfl Try.func43 Z2e rfl #[.int .i64 dA, .int .i64 1, .int .i64 3] rfl Z2k ?_; (with_reducible refine (impl_within.calls dA 1 3 false _ A64.out).mono ?_); rintro e w' ⟨rfl, ⟨nd, rfl⟩⟩; refine ⟨_, rfl, ?_⟩) | (go_at_call 43; (with_reducible refine (impl_within.calls dA 4 6 false _ A87.out).mono ?_); rintro e w' ⟨rfl, ⟨nd, rfl⟩⟩))
               go_meet
               case rel => exact ⟨_, (false), Z2j, H', ⟨Z2n⟩, ⟨Z2h⟩, ⟨Z2i⟩, ⟨Z2g⟩⟩
          case rest =>
           clear HC61
           (try clear p2); (try clear c4); (try clear c5); (try clear c6); (try clear p6); (try clear c7); (try clear c8); (try clear c9); (try clear c43); (try clear c52); (try clear c57); (try clear c58); (try clear c62); (try clear p64); (try clear c65); (try clear c66); (try clear bB); (try clear c67); (try clear c70); (try clear c72); (try clear c74); (try clear c76); (try clear bJ); (try clear cJ); (try clear c77); (try clear dJ); (try clear c78); (try clear c81); (try clear c83); (try clear c85); (try clear c88); (try clear c90); (try clear c92); (try clear IB); (try clear JB); (try clear KB); (try clear WB); (try clear XB); (try clear YB); (try clear ZB); (try clear eC); (try clear fC); (try clear gC); (try clear hC); (try clear iC); (try clear jC); (try clear kC); (try clear lC); (try clear mC); (try clear nC); (try clear yC); (try clear zC); (try clear AC); (try clear BC); (try clear CC); (try clear DC); (try clear EC); (try clear FC); (try clear GC); (try clear HC); (try clear SC); (try clear TC); (try clear UC); (try clear VC); (try clear WC); (try clear XC); (try clear YC); (try clear ZC); (try clear aD); (try clear bD); (try clear mD); (try clear nD); (try clear oD); (try clear pD); (try clear qD); (try clear rD); (try clear sD); (try clear tD); (try clear uD); (try clear vD); (try clear GD); (try clear HD); (try clear ID); (try clear JD); (try clear KD); (try clear LD); (try clear MD); (try clear ND); (try clear OD); (try clear PD); (try clear aE); (try clear bE); (try clear cE); (try clear dE); (try clear eE); (try clear fE); (try clear gE); (try clear hE); (try clear iE); (try clear jE); (try clear uE); (try clear vE); (try clear wE); (try clear xE); (try clear yE); (try clear zE); (try clear AE); (try clear BE); (try clear CE); (try clear DE); (try clear mF); (try clear nF); (try clear oF); (try clear pF); (try clear uF); (try clear vF); (try clear wF); (try clear xF); (try clear yF); (try clear zF); (try clear AF); (try clear BF); (try clear CF); (try clear DF); (try clear OF); (try clear PF); (try clear QF); (try clear RF); (try clear SF); (try clear TF); (try clear UF); (try clear VF); (try clear WF); (try clear XF); (try clear iG); (try clear jG); (try clear kG); (try clear lG); (try clear mG); (try clear nG); (try clear oG); (try clear pG); (try clear qG); (try clear rG); (try clear CG); (try clear DG); (try clear EG); (try clear FG); (try clear GG); (try clear HG); (try clear IG); (try clear JG); (try clear KG); (try clear LG); (try clear WG); (try clear XG); (try clear YG); (try clear ZG); (try clear aH); (try clear bH); (try clear cH); (try clear dH); (try clear eH); (try clear fH); (try clear qH); (try clear rH); (try clear sH); (try clear tH); (try clear uH); (try clear vH); (try clear wH); (try clear xH); (try clear yH); (try clear zH); (try clear KH); (try clear LH); (try clear MH); (try clear NH); (try clear OH); (try clear PH); (try clear QH); (try clear RH); (try clear SH); (try clear TH); (try clear cB); (try clear dB); (try clear eB); (try clear fB); (try clear gB); (try clear hB); (try clear iB); (try clear jB); (try clear kB); (try clear lB); (try clear eI); (try clear fI); (try clear gI); (try clear hI); (try clear iI); (try clear jI); (try clear kI); (try clear lI); (try clear mI); (try clear nI); (try clear yI); (try clear zI); (try clear AI); (try clear BI); (try clear CI); (try clear DI); (try clear EI); (try clear FI); (try clear GI); (try clear HI); (try clear EA); (try clear FA); (try clear GA); (try clear IA); (try clear JA); (try clear KA); (try clear LA); (try clear MA); (try clear NA); (try clear OA); (try clear PA); (try clear QA); (try clear RA); (try clear SA); (try clear TA); (try clear UA); (try clear VA); (try clear WA); (try clear XA); (try clear YA); (try clear LB); (try clear MB); (try clear NB); (try clear OB); (try clear aC); (try clear bC); (try clear cC); (try clear dC); (try clear oC); (try clear pC); (try clear qC); (try clear rC); (try clear sC); (try clear tC); (try clear uC); (try clear vC); (try clear wC); (try clear xC); (try clear IC); (try clear JC); (try clear KC); (try clear LC); (try clear MC); (try clear NC); (try clear OC); (try clear PC); (try clear QC); (try clear RC); (try clear cD); (try clear dD); (try clear eD); (try clear fD); (try clear gD); (try clear hD); (try clear iD); (try clear jD); (try clear kD); (try clear lD); (try clear wD); (try clear xD); (try clear yD); (try clear zD); (try clear AD); (try clear BD); (try clear CD); (try clear DD); (try clear ED); (try clear FD); (try clear QD); (try clear RD); (try clear SD); (try clear TD); (try clear UD); (try clear VD); (try clear WD); (try clear XD); (try clear YD); (try clear ZD); (try clear kE); (try clear lE); (try clear mE); (try clear nE); (try clear oE); (try clear pE); (try clear qE); (try clear rE); (try clear sE); (try clear tE); (try clear EE); (try clear FE); (try clear GE); (try clear HE); (try clear IE); (try clear JE); (try clear KE); (try clear LE); (try clear ME); (try clear NE); (try clear qF); (try clear rF); (try clear sF); (try clear tF); (try clear EF); (try clear FF); (try clear GF); (try clear HF); (try clear IF); (try clear JF); (try clear KF); (try clear LF); (try clear MF); (try clear NF); (try clear YF); (try clear ZF); (try clear aG); (try clear bG); (try clear cG); (try clear dG); (try clear eG); (try clear fG); (try clear gG); (try clear hG); (try clear sG); (try clear tG); (try clear uG); (try clear vG); (try clear wG); (try clear xG); (try clear yG); (try clear zG); (try clear AG); (try clear BG); (try clear MG); (try clear NG); (try clear OG); (try clear PG); (try clear QG); (try clear RG); (try clear SG); (try clear TG); (try clear UG); (try clear VG); (try clear gH); (try clear hH); (try clear iH); (try clear jH); (try clear kH); (try clear lH); (try clear mH); (try clear nH); (try clear oH); (try clear pH); (try clear AH); (try clear BH); (try clear CH); (try clear DH); (try clear EH); (try clear FH); (try clear GH); (try clear HH); (try clear IH); (try clear JH); (try clear UH); (try clear VH); (try clear WH); (try clear XH); (try clear YH); (try clear ZH); (try clear aI); (try clear bI); (try clear cI); (try clear dI); (try clear mB); (try clear nB); (try clear oB); (try clear pB); (try clear qB); (try clear rB); (try clear sB); (try clear tB); (try clear uB); (try clear vB); (try clear oI); (try clear pI); (try clear qI); (try clear rI); (try clear sI); (try clear tI); (try clear uI); (try clear vI); (try clear wI); (try clear xI); (try clear II); (try clear JI); (try clear KI); (try clear LI); (try clear MI); (try clear NI); (try clear OI); (try clear PI); (try clear QI); (try clear RI); (try clear p2); (try clear p6)
           obtain ⟨kq, RB, rfl, HA, HJ60, aA, cA, HB⟩ := hcut
           cases kq with
           | zero => exact absurd HA.out (by simp [impl_LiAct.j3])
           | succ kj60 =>
            have H := HA.out
            clear HA
            simp only [impl_LiAct.j3] at H
            by_cases c94 : RB = true
            ·subst c94
             rw [if_pos rfl] at H
             as_aux_lemma =>
              simp only [Option.some.injEq, Prod.mk.injEq] at H
              obtain ⟨rfl, rfl, rfl, rfl, rfl⟩ := H
              have dP := eA.out
              have eP := bA.out
              have fN := Z2b cA.out 0 (.int .i64 0)
              have gN := Z2b cA.out 1 (.int .i64 0)
              have iN := Z2b cA.out 2 (.int .i64 0)
              have jN := Z2b cA.out 3 (.int .i64 0)
              have kN := Z2a cA.out 0
              have lN := Z2a cA.out 1
              have mN := Z2a cA.out 2
              have nN := Z2a cA.out 3
              go_wp2
              refine bodyPost_ret (results_ct rfl _ _ zA 37 #[.int .i64 0, .int .i64 0, .int .i64 0, .int .i64 0] (0, 0) _ rfl Z2p Try.underlying37 rfl Z2e) rfl ?_
              exact ⟨Z2m, Z2g⟩
            ·replace c94 := Bool.eq_false_iff.mpr c94
             subst c94
             rw [if_neg (show ¬ (false = true) by decide)] at H
             by_cases c97 : dA = 0
             ·rw [if_pos c97] at H
              have yJ : (dA == 0) = true := beq_iff_eq.mpr c97
              have zJ : (dA != 0) = false := bne_eq_false_iff_eq.mpr c97
              clear c97
              as_aux_lemma =>
               simp only [Option.some.injEq, Prod.mk.injEq] at H
               obtain ⟨rfl, rfl, rfl, rfl, rfl⟩ := H
               have fP := bA.out
               have gP := eA.out
               have oN := Z2b aA.out 0 (.int .i64 pA)
               have pN := Z2b aA.out 1 (.int .i64 qA)
               have qN := Z2b aA.out 2 (.int .i64 oA)
               have rN := Z2b aA.out 3 (.int .i64 dA)
               have sN := Z2b aA.out 4 (.int .i64 iA)
               have tN := Z2b aA.out 5 (.int .i64 lA)
               have uN := Z2b aA.out 6 (.int .i64 nA)
               have vN := Z2b aA.out 7 (.int .i64 sA)
               have wN := Z2b aA.out 8 (.int .i64 tA)
               have xN := Z2b aA.out 9 (.bool uA)
               have yN := Z2a aA.out 0
               have zN := Z2a aA.out 1
               have AN := Z2a aA.out 2
               have BN := Z2a aA.out 3
               have CN := Z2a aA.out 4
               have DN := Z2a aA.out 5
               have EN := Z2a aA.out 6
               have FN := Z2a aA.out 7
               have GN := Z2a aA.out 8
               have HN := Z2a aA.out 9
               have AJ := Z2b cA.out 0 (.int .i64 0)
               have BJ := Z2b cA.out 1 (.int .i64 0)
               have CJ := Z2b cA.out 2 (.int .i64 0)
               have DJ := Z2b cA.out 3 (.int .i64 0)
               have EJ := Z2a cA.out 0
               have FJ := Z2a cA.out 1
               have GJ := Z2a cA.out 2
               have HJ := Z2a cA.out 3
               go_wp2
               refine bodyPost_ret (results_ct rfl _ _ zA 37 #[.int .i64 1, .int .i64 iA, .int .i64 0, .int .i64 0] (0, 0) _ rfl (by (with_reducible repeat (first | refine blk_drewN ?_ _ | refine blk_drew ?_ | refine blk_alloc ?_ _)); refine blk_put (cs := #[.int .i64 1, .int .i64 iA, .int .i64 0, .int .i64 0]) ?_ 3 _ rfl; (with_reducible repeat (first | refine blk_drewN ?_ _ | refine blk_drew ?_ | refine blk_alloc ?_ _)); refine blk_put (cs := #[.int .i64 1, .int .i64 iA, .int .i64 0, .int .i64 0]) ?_ 2 _ rfl; (with_reducible repeat (first | refine blk_drewN ?_ _ | refine blk_drew ?_ | refine blk_alloc ?_ _)); refine blk_put (cs := #[.int .i64 1, .int .i64 0, .int .i64 0, .int .i64 0]) ?_ 1 _ rfl; (with_reducible repeat (first | refine blk_drewN ?_ _ | refine blk_drew ?_ | refine blk_alloc ?_ _)); refine blk_put (cs := #[.int .i64 0, .int .i64 0, .int .i64 0, .int .i64 0]) ?_ 0 _ rfl; (with_reducible repeat (first | refine blk_drewN ?_ _ | refine blk_drew ?_ | refine blk_alloc ?_ _)); exact cA.out) Try.underlying37 rfl Z2e) rfl ?_
               exact ⟨Z2m, Z2g⟩
             ·rw [if_neg c97] at H
              have yJ : (dA == 0) = false := beq_eq_false_iff_ne.mpr c97
              have zJ : (dA != 0) = true := bne_iff_ne.mpr c97
              by_cases c101 : dA = 1
              ·rw [if_pos c101] at H
               have kJ : (dA == 1) = true := beq_iff_eq.mpr c101
               have lJ : (dA != 1) = false := bne_eq_false_iff_eq.mpr c101
               clear c101
               replace H := Option.bind_eq_some_iff.mp H
               obtain ⟨OE, A1020, H⟩ := H
               (try dsimp only at H)
               have A102 := Z2d A1020
               clear A1020
               as_aux_lemma =>
                simp only [Option.some.injEq, Prod.mk.injEq] at H
                obtain ⟨rfl, rfl, rfl, rfl, rfl⟩ := H
                have IN := bA.out
                have JN := eA.out
                have IJ := Z2b aA.out 0 (.int .i64 pA)
                have JJ := Z2b aA.out 1 (.int .i64 qA)
                have KJ := Z2b aA.out 2 (.int .i64 oA)
                have LJ := Z2b aA.out 3 (.int .i64 dA)
                have MJ := Z2b aA.out 4 (.int .i64 iA)
                have NJ := Z2b aA.out 5 (.int .i64 lA)
                have OJ := Z2b aA.out 6 (.int .i64 nA)
                have PJ := Z2b aA.out 7 (.int .i64 sA)
                have QJ := Z2b aA.out 8 (.int .i64 tA)
                have RJ := Z2b aA.out 9 (.bool uA)
                have SJ := Z2a aA.out 0
                have TJ := Z2a aA.out 1
                have UJ := Z2a aA.out 2
                have VJ := Z2a aA.out 3
                have WJ := Z2a aA.out 4
                have XJ := Z2a aA.out 5
                have YJ := Z2a aA.out 6
                have ZJ := Z2a aA.out 7
                have aK := Z2a aA.out 8
                have bK := Z2a aA.out 9
                go_wp2_with (first | ((with_reducible refine gate_callee (f := 50) rfl ?_); refine goesL_ (some 110) rfl rfl Try.func50 Z2e rfl #[.int .i64 AA] rfl Z2k ?_; (with_reducible refine (impl_linkCell.calls AA OE _ A102.out).mono ?_); rintro e w' ⟨rfl, ⟨nd, rfl⟩⟩; refine ⟨_, rfl, ?_⟩; (try (rw [drewN_self wc]; generalize hq_ : World.drewN wc _ = wc; have BA : Aside0 (wc.heap[fA]? = some (.cells #[.int .i64 pA, .int .i64 qA, .int .i64 oA, .int .i64 dA, .int .i64 iA, .int .i64 lA, .int .i64 nA, .int .i64 sA, .int .i64 tA, .bool uA] 23 (0, 0))) := ⟨by rw [← hq_]; exact Z2h⟩; have CA : Aside0 (wc.heap[zA]? = some (.cells #[.int .i64 0, .int .i64 0, .int .i64 0, .int .i64 0] 37 (0, 0))) := ⟨by rw [← hq_]; exact Z2i⟩; have DA : Aside0 (Below w.heap.size w wc) := ⟨by rw [← hq_]; exact Z2g⟩; clear aA cA HB hq_; have aA := BA; have cA := CA; have HB := DA; clear BA CA DA)); have cK := Z2b cA.out 0 (.int .i64 0); have dK := Z2b cA.out 1 (.int .i64 0); have eK := Z2b cA.out 2 (.int .i64 0); have fK := Z2b cA.out 3 (.int .i64 0); have gK := Z2a cA.out 0; have iK := Z2a cA.out 1; have jK := Z2a cA.out 2; have kK := Z2a cA.out 3))
                refine bodyPost_ret (results_ct rfl _ _ zA 37 #[.int .i64 1, .int .i64 OE, .int .i64 0, .int .i64 0] (0, 0) _ rfl (by (with_reducible repeat (first | refine blk_drewN ?_ _ | refine blk_drew ?_ | refine blk_alloc ?_ _)); refine blk_put (cs := #[.int .i64 1, .int .i64 OE, .int .i64 0, .int .i64 0]) ?_ 3 _ rfl; (with_reducible repeat (first | refine blk_drewN ?_ _ | refine blk_drew ?_ | refine blk_alloc ?_ _)); refine blk_put (cs := #[.int .i64 1, .int .i64 OE, .int .i64 0, .int .i64 0]) ?_ 2 _ rfl; (with_reducible repeat (first | refine blk_drewN ?_ _ | refine blk_drew ?_ | refine blk_alloc ?_ _)); refine blk_put (cs := #[.int .i64 1, .int .i64 0, .int .i64 0, .int .i64 0]) ?_ 1 _ rfl; (with_reducible repeat (first | refine blk_drewN ?_ _ | refine blk_drew ?_ | refine blk_alloc ?_ _)); refine blk_put (cs := #[.int .i64 0, .int .i64 0, .int .i64 0, .int .i64 0]) ?_ 0 _ rfl; (with_reducible repeat (first | refine blk_drewN ?_ _ | refine blk_drew ?_ | refine blk_alloc ?_ _)); exact cA.out) Try.underlying37 rfl Z2e) rfl ?_
                exact ⟨Z2m, Z2g⟩
              ·rw [if_neg c101] at H
               have kJ : (dA == 1) = false := beq_eq_false_iff_ne.mpr c101
               have lJ : (dA != 1) = true := bne_iff_ne.mpr c101
               by_cases c106 : dA = 2
               ·rw [if_pos c106] at H
                have mJ : (dA == 2) = true := beq_iff_eq.mpr c106
                have nJ : (dA != 2) = false := bne_eq_false_iff_eq.mpr c106
                clear c106
                replace H := Option.bind_eq_some_iff.mp H
                obtain ⟨PE, A1070, H⟩ := H
                (try dsimp only at H)
                have A107 := Z2d A1070
                clear A1070
                as_aux_lemma =>
                 simp only [Option.some.injEq, Prod.mk.injEq] at H
                 obtain ⟨rfl, rfl, rfl, rfl, rfl⟩ := H
                 have KN := bA.out
                 have LN := eA.out
                 have lK := Z2b aA.out 0 (.int .i64 pA)
                 have mK := Z2b aA.out 1 (.int .i64 qA)
                 have nK := Z2b aA.out 2 (.int .i64 oA)
                 have oK := Z2b aA.out 3 (.int .i64 dA)
                 have pK := Z2b aA.out 4 (.int .i64 iA)
                 have qK := Z2b aA.out 5 (.int .i64 lA)
                 have rK := Z2b aA.out 6 (.int .i64 nA)
                 have sK := Z2b aA.out 7 (.int .i64 sA)
                 have tK := Z2b aA.out 8 (.int .i64 tA)
                 have uK := Z2b aA.out 9 (.bool uA)
                 have vK := Z2a aA.out 0
                 have wK := Z2a aA.out 1
                 have xK := Z2a aA.out 2
                 have yK := Z2a aA.out 3
                 have zK := Z2a aA.out 4
                 have AK := Z2a aA.out 5
                 have BK := Z2a aA.out 6
                 have CK := Z2a aA.out 7
                 have DK := Z2a aA.out 8
                 have EK := Z2a aA.out 9
                 go_wp2_with (first | ((with_reducible refine gate_callee (f := 53) rfl ?_); refine goesL_ (some 115) rfl rfl Try.func53 Z2e rfl #[.int .i64 AA] rfl Z2k ?_; (with_reducible refine (impl_keyCell.calls AA PE _ A107.out).mono ?_); rintro e w' ⟨rfl, ⟨nd, rfl⟩⟩; refine ⟨_, rfl, ?_⟩; (try (rw [drewN_self wc]; generalize hq_ : World.drewN wc _ = wc; have BA : Aside0 (wc.heap[fA]? = some (.cells #[.int .i64 pA, .int .i64 qA, .int .i64 oA, .int .i64 dA, .int .i64 iA, .int .i64 lA, .int .i64 nA, .int .i64 sA, .int .i64 tA, .bool uA] 23 (0, 0))) := ⟨by rw [← hq_]; exact Z2h⟩; have CA : Aside0 (wc.heap[zA]? = some (.cells #[.int .i64 0, .int .i64 0, .int .i64 0, .int .i64 0] 37 (0, 0))) := ⟨by rw [← hq_]; exact Z2i⟩; have DA : Aside0 (Below w.heap.size w wc) := ⟨by rw [← hq_]; exact Z2g⟩; clear aA cA HB hq_; have aA := BA; have cA := CA; have HB := DA; clear BA CA DA)); have FK := Z2b cA.out 0 (.int .i64 0); have GK := Z2b cA.out 1 (.int .i64 0); have HK := Z2b cA.out 2 (.int .i64 0); have IK := Z2b cA.out 3 (.int .i64 0); have JK := Z2a cA.out 0; have KK := Z2a cA.out 1; have LK := Z2a cA.out 2; have MK := Z2a cA.out 3))
                 refine bodyPost_ret (results_ct rfl _ _ zA 37 #[.int .i64 1, .int .i64 PE, .int .i64 0, .int .i64 0] (0, 0) _ rfl (by (with_reducible repeat (first | refine blk_drewN ?_ _ | refine blk_drew ?_ | refine blk_alloc ?_ _)); refine blk_put (cs := #[.int .i64 1, .int .i64 PE, .int .i64 0, .int .i64 0]) ?_ 3 _ rfl; (with_reducible repeat (first | refine blk_drewN ?_ _ | refine blk_drew ?_ | refine blk_alloc ?_ _)); refine blk_put (cs := #[.int .i64 1, .int .i64 PE, .int .i64 0, .int .i64 0]) ?_ 2 _ rfl; (with_reducible repeat (first | refine blk_drewN ?_ _ | refine blk_drew ?_ | refine blk_alloc ?_ _)); refine blk_put (cs := #[.int .i64 1, .int .i64 0, .int .i64 0, .int .i64 0]) ?_ 1 _ rfl; (with_reducible repeat (first | refine blk_drewN ?_ _ | refine blk_drew ?_ | refine blk_alloc ?_ _)); refine blk_put (cs := #[.int .i64 0, .int .i64 0, .int .i64 0, .int .i64 0]) ?_ 0 _ rfl; (with_reducible repeat (first | refine blk_drewN ?_ _ | refine blk_drew ?_ | refine blk_alloc ?_ _)); exact cA.out) Try.underlying37 rfl Z2e) rfl ?_
                 exact ⟨Z2m, Z2g⟩
               ·rw [if_neg c106] at H
                have mJ : (dA == 2) = false := beq_eq_false_iff_ne.mpr c106
                have nJ : (dA != 2) = true := bne_iff_ne.mpr c106
                by_cases c111 : dA = 3
                ·rw [if_pos c111] at H
                 have oJ : (dA == 3) = true := beq_iff_eq.mpr c111
                 have pJ : (dA != 3) = false := bne_eq_false_iff_eq.mpr c111
                 clear c111
                 as_aux_lemma =>
                  simp only [Option.some.injEq, Prod.mk.injEq] at H
                  obtain ⟨rfl, rfl, rfl, rfl, rfl⟩ := H
                  have MN := bA.out
                  have NN := eA.out
                  have NK := Z2b aA.out 0 (.int .i64 pA)
                  have OK := Z2b aA.out 1 (.int .i64 qA)
                  have PK := Z2b aA.out 2 (.int .i64 oA)
                  have QK := Z2b aA.out 3 (.int .i64 dA)
                  have RK := Z2b aA.out 4 (.int .i64 iA)
                  have SK := Z2b aA.out 5 (.int .i64 lA)
                  have TK := Z2b aA.out 6 (.int .i64 nA)
                  have UK := Z2b aA.out 7 (.int .i64 sA)
                  have VK := Z2b aA.out 8 (.int .i64 tA)
                  have WK := Z2b aA.out 9 (.bool uA)
                  have XK := Z2a aA.out 0
                  have YK := Z2a aA.out 1
                  have ZK := Z2a aA.out 2
                  have aL := Z2a aA.out 3
                  have bL := Z2a aA.out 4
                  have cL := Z2a aA.out 5
                  have dL := Z2a aA.out 6
                  have eL := Z2a aA.out 7
                  have fL := Z2a aA.out 8
                  have gL := Z2a aA.out 9
                  have hL := Z2b cA.out 0 (.int .i64 0)
                  have iL := Z2b cA.out 1 (.int .i64 0)
                  have jL := Z2b cA.out 2 (.int .i64 0)
                  have kL := Z2b cA.out 3 (.int .i64 0)
                  have lL := Z2a cA.out 0
                  have mL := Z2a cA.out 1
                  have nL := Z2a cA.out 2
                  have oL := Z2a cA.out 3
                  go_wp2
                  refine bodyPost_ret (results_ct rfl _ _ zA 37 #[.int .i64 3, .int .i64 iA, .int .i64 lA, .int .i64 (wrap64 (nA - (Int.tmod nA 2)))] (0, 0) _ rfl Z2s Try.underlying37 rfl Z2e) rfl ?_
                  exact ⟨Z2m, Z2g⟩
                ·rw [if_neg c111] at H
                 have oJ : (dA == 3) = false := beq_eq_false_iff_ne.mpr c111
                 have pJ : (dA != 3) = true := bne_iff_ne.mpr c111
                 by_cases c115 : dA = 4
                 ·rw [if_pos c115] at H
                  have qJ : (dA == 4) = true := beq_iff_eq.mpr c115
                  have rJ : (dA != 4) = false := bne_eq_false_iff_eq.mpr c115
                  clear c115
                  replace H := Option.bind_eq_some_iff.mp H
                  obtain ⟨QE, A1160, H⟩ := H
                  (try dsimp only at H)
                  have A116 := Z2d A1160
                  clear A1160
                  as_aux_lemma =>
                   simp only [Option.some.injEq, Prod.mk.injEq] at H
                   obtain ⟨rfl, rfl, rfl, rfl, rfl⟩ := H
                   have ON := bA.out
                   have PN := eA.out
                   have pL := Z2b aA.out 0 (.int .i64 pA)
                   have qL := Z2b aA.out 1 (.int .i64 qA)
                   have rL := Z2b aA.out 2 (.int .i64 oA)
                   have sL := Z2b aA.out 3 (.int .i64 dA)
                   have tL := Z2b aA.out 4 (.int .i64 iA)
                   have uL := Z2b aA.out 5 (.int .i64 lA)
                   have vL := Z2b aA.out 6 (.int .i64 nA)
                   have wL := Z2b aA.out 7 (.int .i64 sA)
                   have xL := Z2b aA.out 8 (.int .i64 tA)
                   have yL := Z2b aA.out 9 (.bool uA)
                   have zL := Z2a aA.out 0
                   have AL := Z2a aA.out 1
                   have BL := Z2a aA.out 2
                   have CL := Z2a aA.out 3
                   have DL := Z2a aA.out 4
                   have EL := Z2a aA.out 5
                   have FL := Z2a aA.out 6
                   have GL := Z2a aA.out 7
                   have HL := Z2a aA.out 8
                   have IL := Z2a aA.out 9
                   try go_wp2
                   have BA := Z2d (blk_drew aA.out)
                   have CA := Z2d (blk_drew cA.out)
                   have DA := Z2d (below_drew1 HB.out)
                   clear aA cA HB
                   have aA := BA
                   have cA := CA
                   have HB := DA
                   clear BA CA DA
                   refine start_ (n := 8) (S := fun w' => w'.cell? ⟨fA, 0, none⟩ = some (.int .i64 pA) ∧ w'.cell? ⟨fA, 1, none⟩ = some (.int .i64 qA) ∧ w'.cell? ⟨fA, 2, none⟩ = some (.int .i64 oA) ∧ w'.cell? ⟨fA, 3, none⟩ = some (.int .i64 dA) ∧ w'.cell? ⟨fA, 4, none⟩ = some (.int .i64 iA) ∧ w'.cell? ⟨fA, 5, none⟩ = some (.int .i64 lA) ∧ w'.cell? ⟨fA, 6, none⟩ = some (.int .i64 nA) ∧ w'.cell? ⟨fA, 7, none⟩ = some (.int .i64 sA) ∧ w'.cell? ⟨fA, 8, none⟩ = some (.int .i64 tA) ∧ w'.cell? ⟨fA, 9, none⟩ = some (.bool uA)) (ds := []) #[F,F,F,F,F,F,F,F] Z2e rfl rfl ⟨(blk_cell aA.out 0).trans rfl, (blk_cell aA.out 1).trans rfl, (blk_cell aA.out 2).trans rfl, (blk_cell aA.out 3).trans rfl, (blk_cell aA.out 4).trans rfl, (blk_cell aA.out 5).trans rfl, (blk_cell aA.out 6).trans rfl, (blk_cell aA.out 7).trans rfl, (blk_cell aA.out 8).trans rfl, (blk_cell aA.out 9).trans rfl⟩ (fun hHeld => ?_); refine with_tabW impl_LiAct.tab20 impl_LiAct.bits20 (fun HT_ HW_ => ?_)
                   generalize wc.drew = vP at aA cA HB hHeld ⊢
                   refine Z2f 0 132 #[T,F,F,F,F,F,F,F] ?_
                   refine Z2f 3 135 #[T,F,F,T,F,F,F,F] ?_
                   refine take_ (i := 1) (N := some 133) (v := ?_) (a' := ?_) #[T,T,F,T,F,F,F,F] rfl rfl (take_ofW HT_.out HW_.out Z2e) (fun _ _ _ h => h) (Or.inl ⟨by rfl, ?_⟩) hHeld ?_ ?_
                   rotate_left
                   ·rintro w' ⟨s0, s1, s2, s3, s4, s5, s6, s7, s8, s9⟩
                    go_simp
                    with_reducible rfl
                   rotate_left
                   ·simp only [Act.put, List.setIfInBounds_toArray, List.set_cons_zero, List.set_cons_succ, i64_w, i32_w]
                    rfl
                   refine take_ (i := 4) (N := some 136) (v := ?_) (a' := ?_) #[T,T,F,T,T,F,F,F] rfl rfl (take_ofW HT_.out HW_.out Z2e) (fun _ _ _ h => h) (Or.inl ⟨by rfl, ?_⟩) hHeld ?_ ?_
                   rotate_left
                   ·rintro w' ⟨s0, s1, s2, s3, s4, s5, s6, s7, s8, s9⟩
                    go_simp
                    with_reducible rfl
                   rotate_left
                   ·simp only [Act.put, List.setIfInBounds_toArray, List.set_cons_zero, List.set_cons_succ, i64_w, i32_w]
                    rfl
                   refine one_ (i := 2) (N := some 134) #[T,T,T,T,T,F,F,F] rfl rfl (one_of HT_.out Z2e) (by decide) (fun K hK => ?_)
                   refine goes_ Try.func53 Z2e rfl #[.int .i64 oA] (by rfl) rfl rfl Z2k ?_
                   with_reducible refine (impl_keyCell.calls oA QE _ A116.out).mono ?_
                   rintro e w' ⟨rfl, ⟨nd, rfl⟩⟩
                   refine ⟨_, rfl, ?_⟩
                   refine hK.out _ _ ⟨(blk_cell aA.out 0).trans rfl, (blk_cell aA.out 1).trans rfl, (blk_cell aA.out 2).trans rfl, (blk_cell aA.out 3).trans rfl, (blk_cell aA.out 4).trans rfl, (blk_cell aA.out 5).trans rfl, (blk_cell aA.out 6).trans rfl, (blk_cell aA.out 7).trans rfl, (blk_cell aA.out 8).trans rfl, (blk_cell aA.out 9).trans rfl⟩ (fun hHeld => ?_)
                   clear hK K
                   refine norm_ (a' := ?_) ?_ ?_
                   rotate_left
                   ·show Act.put _ (some 134) _ = _
                    simp only [Act.put, List.setIfInBounds_toArray, List.set_cons_zero, List.set_cons_succ, i64_w, i32_w]
                    rfl
                   refine Z2f 5 137 #[T,T,T,T,T,T,F,F] ?_
                   refine one_ (i := 6) (N := none) #[T,T,T,T,T,T,T,F] rfl rfl (one_of HT_.out Z2e) (by decide) (fun K hK => ?_)
                   have hP := Z2b cA.out 0 (.int .i64 0)
                   have QN := Z2a cA.out 0
                   have JL := bA.out
                   have KL := eA.out
                   have iP := Z2b cA.out 1 (.int .i64 0)
                   have RN := Z2a cA.out 1
                   have jP := Z2b cA.out 2 (.int .i64 0)
                   have SN := Z2a cA.out 2
                   have kP := Z2b cA.out 3 (.int .i64 0)
                   have TN := Z2a cA.out 3
                   refine skip_ (w1 := ?_) (by rfl) rfl ?_ ?_
                   rotate_left
                   ·go_simp
                    rfl
                   refine hK.out _ _ ⟨((Z2c bA.out).trans (((Z2c bA.out).trans (((Z2c bA.out).trans (((Z2c bA.out).trans (hHeld.1)))))))), ((Z2c bA.out).trans (((Z2c bA.out).trans (((Z2c bA.out).trans (((Z2c bA.out).trans (hHeld.2.1)))))))), ((Z2c bA.out).trans (((Z2c bA.out).trans (((Z2c bA.out).trans (((Z2c bA.out).trans (hHeld.2.2.1)))))))), ((Z2c bA.out).trans (((Z2c bA.out).trans (((Z2c bA.out).trans (((Z2c bA.out).trans (hHeld.2.2.2.1)))))))), ((Z2c bA.out).trans (((Z2c bA.out).trans (((Z2c bA.out).trans (((Z2c bA.out).trans (hHeld.2.2.2.2.1)))))))), ((Z2c bA.out).trans (((Z2c bA.out).trans (((Z2c bA.out).trans (((Z2c bA.out).trans (hHeld.2.2.2.2.2.1)))))))), ((Z2c bA.out).trans (((Z2c bA.out).trans (((Z2c bA.out).trans (((Z2c bA.out).trans (hHeld.2.2.2.2.2.2.1)))))))), ((Z2c bA.out).trans (((Z2c bA.out).trans (((Z2c bA.out).trans (((Z2c bA.out).trans (hHeld.2.2.2.2.2.2.2.1)))))))), ((Z2c bA.out).trans (((Z2c bA.out).trans (((Z2c bA.out).trans (((Z2c bA.out).trans (hHeld.2.2.2.2.2.2.2.2.1)))))))), ((Z2c bA.out).trans (((Z2c bA.out).trans (((Z2c bA.out).trans (((Z2c bA.out).trans (hHeld.2.2.2.2.2.2.2.2.2))))))))⟩ (fun hHeld => ?_)
                   clear hK K
                   refine Z2f 7 5 #[T,T,T,T,T,T,T,T] ?_
                   refine done_ (done_of HT_.out Z2e) ?_
                   try go_wp2
                   refine bodyPost_ret (results_ct rfl _ _ zA 37 #[.int .i64 2, .int .i64 QE, .int .i64 qA, .int .i64 0] (0, 0) _ rfl (by (with_reducible repeat (first | refine blk_drewN ?_ _ | refine blk_drew ?_ | refine blk_alloc ?_ _)); refine blk_put (cs := #[.int .i64 2, .int .i64 QE, .int .i64 qA, .int .i64 0]) ?_ 3 _ rfl; (with_reducible repeat (first | refine blk_drewN ?_ _ | refine blk_drew ?_ | refine blk_alloc ?_ _)); refine blk_put (cs := #[.int .i64 2, .int .i64 QE, .int .i64 0, .int .i64 0]) ?_ 2 _ rfl; (with_reducible repeat (first | refine blk_drewN ?_ _ | refine blk_drew ?_ | refine blk_alloc ?_ _)); refine blk_put (cs := #[.int .i64 2, .int .i64 0, .int .i64 0, .int .i64 0]) ?_ 1 _ rfl; (with_reducible repeat (first | refine blk_drewN ?_ _ | refine blk_drew ?_ | refine blk_alloc ?_ _)); refine blk_put (cs := #[.int .i64 0, .int .i64 0, .int .i64 0, .int .i64 0]) ?_ 0 _ rfl; (with_reducible repeat (first | refine blk_drewN ?_ _ | refine blk_drew ?_ | refine blk_alloc ?_ _)); exact cA.out) Try.underlying37 rfl Z2e) rfl ?_
                   exact ⟨Z2m, Z2g⟩
                 ·rw [if_neg c115] at H
                  have qJ : (dA == 4) = false := beq_eq_false_iff_ne.mpr c115
                  have rJ : (dA != 4) = true := bne_iff_ne.mpr c115
                  by_cases c124 : dA = 5
                  ·rw [if_pos c124] at H
                   have sJ : (dA == 5) = true := beq_iff_eq.mpr c124
                   have tJ : (dA != 5) = false := bne_eq_false_iff_eq.mpr c124
                   clear c124
                   replace H := Option.bind_eq_some_iff.mp H
                   obtain ⟨RE, A1250, H⟩ := H
                   (try dsimp only at H)
                   have A125 := Z2d A1250
                   clear A1250
                   as_aux_lemma =>
                    simp only [Option.some.injEq, Prod.mk.injEq] at H
                    obtain ⟨rfl, rfl, rfl, rfl, rfl⟩ := H
                    have UN := bA.out
                    have VN := eA.out
                    have LL := Z2b aA.out 0 (.int .i64 pA)
                    have ML := Z2b aA.out 1 (.int .i64 qA)
                    have NL := Z2b aA.out 2 (.int .i64 oA)
                    have OL := Z2b aA.out 3 (.int .i64 dA)
                    have PL := Z2b aA.out 4 (.int .i64 iA)
                    have QL := Z2b aA.out 5 (.int .i64 lA)
                    have RL := Z2b aA.out 6 (.int .i64 nA)
                    have SL := Z2b aA.out 7 (.int .i64 sA)
                    have TL := Z2b aA.out 8 (.int .i64 tA)
                    have UL := Z2b aA.out 9 (.bool uA)
                    have VL := Z2a aA.out 0
                    have WL := Z2a aA.out 1
                    have XL := Z2a aA.out 2
                    have YL := Z2a aA.out 3
                    have ZL := Z2a aA.out 4
                    have aM := Z2a aA.out 5
                    have bM := Z2a aA.out 6
                    have cM := Z2a aA.out 7
                    have dM := Z2a aA.out 8
                    have eM := Z2a aA.out 9
                    try go_wp2
                    have BA := Z2d (blk_drew aA.out)
                    have CA := Z2d (blk_drew cA.out)
                    have DA := Z2d (below_drew1 HB.out)
                    clear aA cA HB
                    have aA := BA
                    have cA := CA
                    have HB := DA
                    clear BA CA DA
                    refine start_ (n := 8) (S := fun w' => w'.cell? ⟨fA, 0, none⟩ = some (.int .i64 pA) ∧ w'.cell? ⟨fA, 1, none⟩ = some (.int .i64 qA) ∧ w'.cell? ⟨fA, 2, none⟩ = some (.int .i64 oA) ∧ w'.cell? ⟨fA, 3, none⟩ = some (.int .i64 dA) ∧ w'.cell? ⟨fA, 4, none⟩ = some (.int .i64 iA) ∧ w'.cell? ⟨fA, 5, none⟩ = some (.int .i64 lA) ∧ w'.cell? ⟨fA, 6, none⟩ = some (.int .i64 nA) ∧ w'.cell? ⟨fA, 7, none⟩ = some (.int .i64 sA) ∧ w'.cell? ⟨fA, 8, none⟩ = some (.int .i64 tA) ∧ w'.cell? ⟨fA, 9, none⟩ = some (.bool uA)) (ds := []) #[F,F,F,F,F,F,F,F] Z2e rfl rfl ⟨(blk_cell aA.out 0).trans rfl, (blk_cell aA.out 1).trans rfl, (blk_cell aA.out 2).trans rfl, (blk_cell aA.out 3).trans rfl, (blk_cell aA.out 4).trans rfl, (blk_cell aA.out 5).trans rfl, (blk_cell aA.out 6).trans rfl, (blk_cell aA.out 7).trans rfl, (blk_cell aA.out 8).trans rfl, (blk_cell aA.out 9).trans rfl⟩ (fun hHeld => ?_); refine with_tabW impl_LiAct.tab22 impl_LiAct.bits22 (fun HT_ HW_ => ?_)
                    generalize wc.drew = wP at aA cA HB hHeld ⊢
                    refine Z2f 0 140 #[T,F,F,F,F,F,F,F] ?_
                    refine Z2f 3 143 #[T,F,F,T,F,F,F,F] ?_
                    refine take_ (i := 1) (N := some 141) (v := ?_) (a' := ?_) #[T,T,F,T,F,F,F,F] rfl rfl (take_ofW HT_.out HW_.out Z2e) (fun _ _ _ h => h) (Or.inl ⟨by rfl, ?_⟩) hHeld ?_ ?_
                    rotate_left
                    ·rintro w' ⟨s0, s1, s2, s3, s4, s5, s6, s7, s8, s9⟩
                     go_simp
                     with_reducible rfl
                    rotate_left
                    ·simp only [Act.put, List.setIfInBounds_toArray, List.set_cons_zero, List.set_cons_succ, i64_w, i32_w]
                     rfl
                    refine take_ (i := 4) (N := some 144) (v := ?_) (a' := ?_) #[T,T,F,T,T,F,F,F] rfl rfl (take_ofW HT_.out HW_.out Z2e) (fun _ _ _ h => h) (Or.inl ⟨by rfl, ?_⟩) hHeld ?_ ?_
                    rotate_left
                    ·rintro w' ⟨s0, s1, s2, s3, s4, s5, s6, s7, s8, s9⟩
                     go_simp
                     with_reducible rfl
                    rotate_left
                    ·simp only [Act.put, List.setIfInBounds_toArray, List.set_cons_zero, List.set_cons_succ, i64_w, i32_w]
                     rfl
                    refine one_ (i := 2) (N := some 142) #[T,T,T,T,T,F,F,F] rfl rfl (one_of HT_.out Z2e) (by decide) (fun K hK => ?_)
                    refine goes_ Try.func50 Z2e rfl #[.int .i64 oA] (by rfl) rfl rfl Z2k ?_
                    with_reducible refine (impl_linkCell.calls oA RE _ A125.out).mono ?_
                    rintro e w' ⟨rfl, ⟨nd, rfl⟩⟩
                    refine ⟨_, rfl, ?_⟩
                    refine hK.out _ _ ⟨(blk_cell aA.out 0).trans rfl, (blk_cell aA.out 1).trans rfl, (blk_cell aA.out 2).trans rfl, (blk_cell aA.out 3).trans rfl, (blk_cell aA.out 4).trans rfl, (blk_cell aA.out 5).trans rfl, (blk_cell aA.out 6).trans rfl, (blk_cell aA.out 7).trans rfl, (blk_cell aA.out 8).trans rfl, (blk_cell aA.out 9).trans rfl⟩ (fun hHeld => ?_)
                    clear hK K
                    refine norm_ (a' := ?_) ?_ ?_
                    rotate_left
                    ·show Act.put _ (some 142) _ = _
                     simp only [Act.put, List.setIfInBounds_toArray, List.set_cons_zero, List.set_cons_succ, i64_w, i32_w]
                     rfl
                    refine Z2f 5 145 #[T,T,T,T,T,T,F,F] ?_
                    refine one_ (i := 6) (N := none) #[T,T,T,T,T,T,T,F] rfl rfl (one_of HT_.out Z2e) (by decide) (fun K hK => ?_)
                    have lP := Z2b cA.out 0 (.int .i64 0)
                    have WN := Z2a cA.out 0
                    have fM := bA.out
                    have gM := eA.out
                    have mP := Z2b cA.out 1 (.int .i64 0)
                    have XN := Z2a cA.out 1
                    have nP := Z2b cA.out 2 (.int .i64 0)
                    have YN := Z2a cA.out 2
                    have oP := Z2b cA.out 3 (.int .i64 0)
                    have ZN := Z2a cA.out 3
                    refine skip_ (w1 := ?_) (by rfl) rfl ?_ ?_
                    rotate_left
                    ·go_simp
                     rfl
                    refine hK.out _ _ ⟨((Z2c bA.out).trans (((Z2c bA.out).trans (((Z2c bA.out).trans (((Z2c bA.out).trans (hHeld.1)))))))), ((Z2c bA.out).trans (((Z2c bA.out).trans (((Z2c bA.out).trans (((Z2c bA.out).trans (hHeld.2.1)))))))), ((Z2c bA.out).trans (((Z2c bA.out).trans (((Z2c bA.out).trans (((Z2c bA.out).trans (hHeld.2.2.1)))))))), ((Z2c bA.out).trans (((Z2c bA.out).trans (((Z2c bA.out).trans (((Z2c bA.out).trans (hHeld.2.2.2.1)))))))), ((Z2c bA.out).trans (((Z2c bA.out).trans (((Z2c bA.out).trans (((Z2c bA.out).trans (hHeld.2.2.2.2.1)))))))), ((Z2c bA.out).trans (((Z2c bA.out).trans (((Z2c bA.out).trans (((Z2c bA.out).trans (hHeld.2.2.2.2.2.1)))))))), ((Z2c bA.out).trans (((Z2c bA.out).trans (((Z2c bA.out).trans (((Z2c bA.out).trans (hHeld.2.2.2.2.2.2.1)))))))), ((Z2c bA.out).trans (((Z2c bA.out).trans (((Z2c bA.out).trans (((Z2c bA.out).trans (hHeld.2.2.2.2.2.2.2.1)))))))), ((Z2c bA.out).trans (((Z2c bA.out).trans (((Z2c bA.out).trans (((Z2c bA.out).trans (hHeld.2.2.2.2.2.2.2.2.1)))))))), ((Z2c bA.out).trans (((Z2c bA.out).trans (((Z2c bA.out).trans (((Z2c bA.out).trans (hHeld.2.2.2.2.2.2.2.2.2))))))))⟩ (fun hHeld => ?_)
                    clear hK K
                    refine Z2f 7 5 #[T,T,T,T,T,T,T,T] ?_
                    refine done_ (done_of HT_.out Z2e) ?_
                    try go_wp2
                    refine bodyPost_ret (results_ct rfl _ _ zA 37 #[.int .i64 2, .int .i64 RE, .int .i64 lA, .int .i64 0] (0, 0) _ rfl (by (with_reducible repeat (first | refine blk_drewN ?_ _ | refine blk_drew ?_ | refine blk_alloc ?_ _)); refine blk_put (cs := #[.int .i64 2, .int .i64 RE, .int .i64 lA, .int .i64 0]) ?_ 3 _ rfl; (with_reducible repeat (first | refine blk_drewN ?_ _ | refine blk_drew ?_ | refine blk_alloc ?_ _)); refine blk_put (cs := #[.int .i64 2, .int .i64 RE, .int .i64 0, .int .i64 0]) ?_ 2 _ rfl; (with_reducible repeat (first | refine blk_drewN ?_ _ | refine blk_drew ?_ | refine blk_alloc ?_ _)); refine blk_put (cs := #[.int .i64 2, .int .i64 0, .int .i64 0, .int .i64 0]) ?_ 1 _ rfl; (with_reducible repeat (first | refine blk_drewN ?_ _ | refine blk_drew ?_ | refine blk_alloc ?_ _)); refine blk_put (cs := #[.int .i64 0, .int .i64 0, .int .i64 0, .int .i64 0]) ?_ 0 _ rfl; (with_reducible repeat (first | refine blk_drewN ?_ _ | refine blk_drew ?_ | refine blk_alloc ?_ _)); exact cA.out) Try.underlying37 rfl Z2e) rfl ?_
                    exact ⟨Z2m, Z2g⟩
                  ·rw [if_neg c124] at H
                   have sJ : (dA == 5) = false := beq_eq_false_iff_ne.mpr c124
                   have tJ : (dA != 5) = true := bne_iff_ne.mpr c124
                   by_cases c133 : dA = 6
                   ·rw [if_pos c133] at H
                    have uJ : (dA == 6) = true := beq_iff_eq.mpr c133
                    have vJ : (dA != 6) = false := bne_eq_false_iff_eq.mpr c133
                    clear c133
                    as_aux_lemma =>
                     simp only [Option.some.injEq, Prod.mk.injEq] at H
                     obtain ⟨rfl, rfl, rfl, rfl, rfl⟩ := H
                     have aO := bA.out
                     have bO := eA.out
                     have hM := Z2b aA.out 0 (.int .i64 pA)
                     have iM := Z2b aA.out 1 (.int .i64 qA)
                     have jM := Z2b aA.out 2 (.int .i64 oA)
                     have kM := Z2b aA.out 3 (.int .i64 dA)
                     have lM := Z2b aA.out 4 (.int .i64 iA)
                     have mM := Z2b aA.out 5 (.int .i64 lA)
                     have nM := Z2b aA.out 6 (.int .i64 nA)
                     have oM := Z2b aA.out 7 (.int .i64 sA)
                     have pM := Z2b aA.out 8 (.int .i64 tA)
                     have qM := Z2b aA.out 9 (.bool uA)
                     have rM := Z2a aA.out 0
                     have sM := Z2a aA.out 1
                     have tM := Z2a aA.out 2
                     have uM := Z2a aA.out 3
                     have vM := Z2a aA.out 4
                     have wM := Z2a aA.out 5
                     have xM := Z2a aA.out 6
                     have yM := Z2a aA.out 7
                     have zM := Z2a aA.out 8
                     have AM := Z2a aA.out 9
                     have BM := Z2b cA.out 0 (.int .i64 0)
                     have CM := Z2b cA.out 1 (.int .i64 0)
                     have DM := Z2b cA.out 2 (.int .i64 0)
                     have EM := Z2b cA.out 3 (.int .i64 0)
                     have FM := Z2a cA.out 0
                     have GM := Z2a cA.out 1
                     have HM := Z2a cA.out 2
                     have IM := Z2a cA.out 3
                     go_wp2
                     refine bodyPost_ret (results_ct rfl _ _ zA 37 #[.int .i64 3, .int .i64 iA, .int .i64 lA, .int .i64 (wrap64 (2 * (wrap64 (oA + 1))))] (0, 0) _ rfl Z2s Try.underlying37 rfl Z2e) rfl ?_
                     exact ⟨Z2m, Z2g⟩
                   ·rw [if_neg c133] at H
                    have uJ : (dA == 6) = false := beq_eq_false_iff_ne.mpr c133
                    have vJ : (dA != 6) = true := bne_iff_ne.mpr c133
                    replace H := Option.bind_eq_some_iff.mp H
                    obtain ⟨SE, A1370, H⟩ := H
                    (try dsimp only at H)
                    have A137 := Z2d A1370
                    clear A1370
                    as_aux_lemma =>
                     simp only [Option.some.injEq, Prod.mk.injEq] at H
                     obtain ⟨rfl, rfl, rfl, rfl, rfl⟩ := H
                     have cO := bA.out
                     have dO := eA.out
                     have JM := Z2b aA.out 0 (.int .i64 pA)
                     have KM := Z2b aA.out 1 (.int .i64 qA)
                     have LM := Z2b aA.out 2 (.int .i64 oA)
                     have MM := Z2b aA.out 3 (.int .i64 dA)
                     have NM := Z2b aA.out 4 (.int .i64 iA)
                     have OM := Z2b aA.out 5 (.int .i64 lA)
                     have PM := Z2b aA.out 6 (.int .i64 nA)
                     have QM := Z2b aA.out 7 (.int .i64 sA)
                     have RM := Z2b aA.out 8 (.int .i64 tA)
                     have SM := Z2b aA.out 9 (.bool uA)
                     have TM := Z2a aA.out 0
                     have UM := Z2a aA.out 1
                     have VM := Z2a aA.out 2
                     have WM := Z2a aA.out 3
                     have XM := Z2a aA.out 4
                     have YM := Z2a aA.out 5
                     have ZM := Z2a aA.out 6
                     have aN := Z2a aA.out 7
                     have bN := Z2a aA.out 8
                     have cN := Z2a aA.out 9
                     try go_wp2
                     have BA := Z2d (blk_drew aA.out)
                     have CA := Z2d (blk_drew cA.out)
                     have DA := Z2d (below_drew1 HB.out)
                     clear aA cA HB
                     have aA := BA
                     have cA := CA
                     have HB := DA
                     clear BA CA DA
                     refine start_ (n := 14) (S := fun w' => w'.cell? ⟨fA, 0, none⟩ = some (.int .i64 pA) ∧ w'.cell? ⟨fA, 1, none⟩ = some (.int .i64 qA) ∧ w'.cell? ⟨fA, 2, none⟩ = some (.int .i64 oA) ∧ w'.cell? ⟨fA, 3, none⟩ = some (.int .i64 dA) ∧ w'.cell? ⟨fA, 4, none⟩ = some (.int .i64 iA) ∧ w'.cell? ⟨fA, 5, none⟩ = some (.int .i64 lA) ∧ w'.cell? ⟨fA, 6, none⟩ = some (.int .i64 nA) ∧ w'.cell? ⟨fA, 7, none⟩ = some (.int .i64 sA) ∧ w'.cell? ⟨fA, 8, none⟩ = some (.int .i64 tA) ∧ w'.cell? ⟨fA, 9, none⟩ = some (.bool uA)) (ds := []) #[F,F,F,F,F,F,F,F,F,F,F,F,F,F] Z2e rfl rfl ⟨(blk_cell aA.out 0).trans rfl, (blk_cell aA.out 1).trans rfl, (blk_cell aA.out 2).trans rfl, (blk_cell aA.out 3).trans rfl, (blk_cell aA.out 4).trans rfl, (blk_cell aA.out 5).trans rfl, (blk_cell aA.out 6).trans rfl, (blk_cell aA.out 7).trans rfl, (blk_cell aA.out 8).trans rfl, (blk_cell aA.out 9).trans rfl⟩ (fun hHeld => ?_); refine with_tabW impl_LiAct.tab25 impl_LiAct.bits25 (fun HT_ HW_ => ?_)
                     generalize wc.drew = xP at aA cA HB hHeld ⊢
                     refine Z2f 0 157 #[T,F,F,F,F,F,F,F,F,F,F,F,F,F] ?_
                     refine Z2f 2 159 #[T,F,T,F,F,F,F,F,F,F,F,F,F,F] ?_
                     refine Z2f 4 161 #[T,F,T,F,T,F,F,F,F,F,F,F,F,F] ?_
                     refine Z2f 6 163 #[T,F,T,F,T,F,T,F,F,F,F,F,F,F] ?_
                     refine take_ (i := 3) (N := some 160) (v := ?_) (a' := ?_) #[T,F,T,T,T,F,T,F,F,F,F,F,F,F] rfl rfl (take_ofW HT_.out HW_.out Z2e) (fun _ _ _ h => h) (Or.inl ⟨by rfl, ?_⟩) hHeld ?_ ?_
                     rotate_left
                     ·rintro w' ⟨s0, s1, s2, s3, s4, s5, s6, s7, s8, s9⟩
                      go_simp
                      with_reducible rfl
                     rotate_left
                     ·simp only [Act.put, List.setIfInBounds_toArray, List.set_cons_zero, List.set_cons_succ, i64_w, i32_w]
                      rfl
                     refine take_ (i := 5) (N := some 162) (v := ?_) (a' := ?_) #[T,F,T,T,T,T,T,F,F,F,F,F,F,F] rfl rfl (take_ofW HT_.out HW_.out Z2e) (fun _ _ _ h => h) (Or.inl ⟨by rfl, ?_⟩) hHeld ?_ ?_
                     rotate_left
                     ·rintro w' ⟨s0, s1, s2, s3, s4, s5, s6, s7, s8, s9⟩
                      go_simp
                      with_reducible rfl
                     rotate_left
                     ·simp only [Act.put, List.setIfInBounds_toArray, List.set_cons_zero, List.set_cons_succ, i64_w, i32_w]
                      rfl
                     refine take_ (i := 7) (N := some 164) (v := ?_) (a' := ?_) #[T,F,T,T,T,T,T,T,F,F,F,F,F,F] rfl rfl (take_ofW HT_.out HW_.out Z2e) (fun _ _ _ h => h) (Or.inl ⟨by rfl, ?_⟩) hHeld ?_ ?_
                     rotate_left
                     ·rintro w' ⟨s0, s1, s2, s3, s4, s5, s6, s7, s8, s9⟩
                      go_simp
                      with_reducible rfl
                     rotate_left
                     ·simp only [Act.put, List.setIfInBounds_toArray, List.set_cons_zero, List.set_cons_succ, i64_w, i32_w]
                      rfl
                     refine Z2f 8 165 #[T,F,T,T,T,T,T,T,T,F,F,F,F,F] ?_
                     refine Z2f 9 166 #[T,F,T,T,T,T,T,T,T,T,F,F,F,F] ?_
                     refine Z2f 10 167 #[T,F,T,T,T,T,T,T,T,T,T,F,F,F] ?_
                     refine one_ (i := 1) (N := some 158) #[T,T,T,T,T,T,T,T,T,T,T,F,F,F] rfl rfl (one_of HT_.out Z2e) (by decide) (fun K hK => ?_)
                     refine goes_ Try.func50 Z2e rfl #[.int .i64 AA] (by rfl) rfl rfl Z2k ?_
                     with_reducible refine (impl_linkCell.calls AA SE _ A137.out).mono ?_
                     rintro e w' ⟨rfl, ⟨nd, rfl⟩⟩
                     refine ⟨_, rfl, ?_⟩
                     refine hK.out _ _ ⟨(blk_cell aA.out 0).trans rfl, (blk_cell aA.out 1).trans rfl, (blk_cell aA.out 2).trans rfl, (blk_cell aA.out 3).trans rfl, (blk_cell aA.out 4).trans rfl, (blk_cell aA.out 5).trans rfl, (blk_cell aA.out 6).trans rfl, (blk_cell aA.out 7).trans rfl, (blk_cell aA.out 8).trans rfl, (blk_cell aA.out 9).trans rfl⟩ (fun hHeld => ?_)
                     clear hK K
                     refine norm_ (a' := ?_) ?_ ?_
                     rotate_left
                     ·show Act.put _ (some 158) _ = _
                      simp only [Act.put, List.setIfInBounds_toArray, List.set_cons_zero, List.set_cons_succ, i64_w, i32_w]
                      rfl
                     refine Z2f 11 168 #[T,T,T,T,T,T,T,T,T,T,T,T,F,F] ?_
                     refine one_ (i := 12) (N := none) #[T,T,T,T,T,T,T,T,T,T,T,T,T,F] rfl rfl (one_of HT_.out Z2e) (by decide) (fun K hK => ?_)
                     have pP := Z2b cA.out 0 (.int .i64 0)
                     have eO := Z2a cA.out 0
                     have dN := bA.out
                     have eN := eA.out
                     have qP := Z2b cA.out 1 (.int .i64 0)
                     have fO := Z2a cA.out 1
                     have rP := Z2b cA.out 2 (.int .i64 0)
                     have gO := Z2a cA.out 2
                     have sP := Z2b cA.out 3 (.int .i64 0)
                     have hO := Z2a cA.out 3
                     refine skip_ (w1 := ?_) (by rfl) rfl ?_ ?_
                     rotate_left
                     ·go_simp
                      rfl
                     refine hK.out _ _ ⟨((Z2c bA.out).trans (((Z2c bA.out).trans (((Z2c bA.out).trans (((Z2c bA.out).trans (hHeld.1)))))))), ((Z2c bA.out).trans (((Z2c bA.out).trans (((Z2c bA.out).trans (((Z2c bA.out).trans (hHeld.2.1)))))))), ((Z2c bA.out).trans (((Z2c bA.out).trans (((Z2c bA.out).trans (((Z2c bA.out).trans (hHeld.2.2.1)))))))), ((Z2c bA.out).trans (((Z2c bA.out).trans (((Z2c bA.out).trans (((Z2c bA.out).trans (hHeld.2.2.2.1)))))))), ((Z2c bA.out).trans (((Z2c bA.out).trans (((Z2c bA.out).trans (((Z2c bA.out).trans (hHeld.2.2.2.2.1)))))))), ((Z2c bA.out).trans (((Z2c bA.out).trans (((Z2c bA.out).trans (((Z2c bA.out).trans (hHeld.2.2.2.2.2.1)))))))), ((Z2c bA.out).trans (((Z2c bA.out).trans (((Z2c bA.out).trans (((Z2c bA.out).trans (hHeld.2.2.2.2.2.2.1)))))))), ((Z2c bA.out).trans (((Z2c bA.out).trans (((Z2c bA.out).trans (((Z2c bA.out).trans (hHeld.2.2.2.2.2.2.2.1)))))))), ((Z2c bA.out).trans (((Z2c bA.out).trans (((Z2c bA.out).trans (((Z2c bA.out).trans (hHeld.2.2.2.2.2.2.2.2.1)))))))), ((Z2c bA.out).trans (((Z2c bA.out).trans (((Z2c bA.out).trans (((Z2c bA.out).trans (hHeld.2.2.2.2.2.2.2.2.2))))))))⟩ (fun hHeld => ?_)
                     clear hK K
                     refine Z2f 13 5 #[T,T,T,T,T,T,T,T,T,T,T,T,T,T] ?_
                     refine done_ (done_of HT_.out Z2e) ?_
                     try go_wp2
                     refine bodyPost_ret (results_ct rfl _ _ zA 37 #[.int .i64 3, .int .i64 SE, .int .i64 nA, .int .i64 (wrap64 ((wrap64 (nA - (Int.tmod nA 2))) + 1))] (0, 0) _ rfl (by (with_reducible repeat (first | refine blk_drewN ?_ _ | refine blk_drew ?_ | refine blk_alloc ?_ _)); refine blk_put (cs := #[.int .i64 3, .int .i64 SE, .int .i64 nA, .int .i64 0]) ?_ 3 _ rfl; (with_reducible repeat (first | refine blk_drewN ?_ _ | refine blk_drew ?_ | refine blk_alloc ?_ _)); refine blk_put (cs := #[.int .i64 3, .int .i64 SE, .int .i64 0, .int .i64 0]) ?_ 2 _ rfl; (with_reducible repeat (first | refine blk_drewN ?_ _ | refine blk_drew ?_ | refine blk_alloc ?_ _)); refine blk_put (cs := #[.int .i64 3, .int .i64 0, .int .i64 0, .int .i64 0]) ?_ 1 _ rfl; (with_reducible repeat (first | refine blk_drewN ?_ _ | refine blk_drew ?_ | refine blk_alloc ?_ _)); refine blk_put (cs := #[.int .i64 0, .int .i64 0, .int .i64 0, .int .i64 0]) ?_ 0 _ rfl; (with_reducible repeat (first | refine blk_drewN ?_ _ | refine blk_drew ?_ | refine blk_alloc ?_ _)); exact cA.out) Try.underlying37 rfl Z2e) rfl ?_
                     exact ⟨Z2m, Z2g⟩

end Go.Proofs.Ytjikobdblohphaa.PFnListOne
