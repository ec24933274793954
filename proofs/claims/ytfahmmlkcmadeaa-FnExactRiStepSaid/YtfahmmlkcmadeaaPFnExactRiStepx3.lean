-- Written by the session's own patched copy of the printer (wip/patch_print.py).
import Derived.Test.YtfahmmlkcmadeaaPFnExactRiStepx0
import Derived.Test.YtfahmmlkcmadeaaPFnExactRiStepx2
namespace Go.Proofs.Ytfahmmlkcmadeaa.PFnExactRiStep
open Go.RowKit Go.Proofs.YtfahmmlkcmadeaaW.PrintWords Go.Proofs.YtfahmmlkcmadeaaW.PrintLast Go.Proofs.YtfahmmlkcmadeaaW.PrintMore
attribute [local go_sem] max2_int min2_int max_two min_two max_three min_three max_four min_four   -- for this text's walks alone
set_option linter.unusedVariables false
set_option linter.unusedSimpArgs false

theorem q3_p {P : Program} {ops : Array Oper} {Q : Exit → Act → World → Prop} {md : Region.Mode} {S : World → Prop} {ds : List Nat} (i n : Nat) {oi : Oper} {v : Value} {fuel : Nat} {l : Array Bool} {a : Act} {w : World} (l' : Array Bool) {a' : Act} (h : wpAnyLast P md ops Q S ds fuel l' a' w) (hi : ops[i]? = some oi := by rfl) (hN : oi.dst = some n := by rfl) (hc : anyB md ops l l' i = true := by exact any_of HT_.out (by kernel_rfl)) (hQ : ∀ c a w, Q (.panic c) (a.put oi.dst v) w → Q (.panic c) a w := by exact fun _ _ _ h => h) (hy : Yields P ops oi v a := by refine Or.inl ⟨by rfl, ?_⟩; intro w'; go_simp; with_reducible rfl) (ha : a.put (some n) v = a' := by simp only [Act.put, List.setIfInBounds_toArray, List.set_cons_zero, List.set_cons_succ, i64_w, i32_w]; rfl) : wpAnyLast P md ops Q S ds (fuel + 1) l a w := pure_ (N := some n) l' hi hN hc hQ hy ha h
theorem q3_u {P : Program} {ops : Array Oper} {Q : Exit → Act → World → Prop} {md : Region.Mode} {S : World → Prop} {ds : List Nat} (i n : Nat) {oi : Oper} {fuel : Nat} {l : Array Bool} {a : Act} {w : World} (l' : Array Bool) {a' : Act} (h : wpAnyLast P md ops Q S ds fuel l' a' w) (hi : ops[i]? = some oi := by rfl) (hN : oi.dst = some n := by rfl) (hc : anyB md ops l l' i = true := by exact any_of HT_.out (by kernel_rfl)) (hQ : ∀ c a w, Q (.panic c) (a.put oi.dst undef) w → Q (.panic c) a w := by exact fun _ _ _ h => h) (hy : Yields P ops oi undef a := by exact Or.inr ⟨by rfl, rfl⟩) (ha : a.put (some n) undef = a' := by simp only [Act.put, List.setIfInBounds_toArray, List.set_cons_zero, List.set_cons_succ, i64_w, i32_w]; rfl) : wpAnyLast P md ops Q S ds (fuel + 1) l a w := pure_ (N := some n) l' hi hN hc hQ hy ha h
open Bool renaming true → T, false → F
theorem q3_0 {p : Prop} (h : p := by repeat (first | (with_reducible first | exact HB.out | apply below_alloc | apply pw_below_drewN | apply below_drew1 | refine below_set ?_ UE.out | refine below_set ?_ dF.out) | exact HB.out)) : p := h
theorem q3_1 {p : Prop} (h : p := by (with_reducible repeat (first | refine blk_drewN ?_ _ | refine blk_drew ?_ | refine blk_alloc ?_ _)); exact aA.out) : p := h
theorem q3_2 {p : Prop} (h : p := by (with_reducible repeat (first | refine blk_drewN ?_ _ | refine blk_drew ?_ | refine blk_alloc ?_ _)); exact eA.out) : p := h
theorem q3_3 {p : Prop} (h : p := by (try simp only [List.map_toArray, List.map_cons, List.map_nil]); first | done | rfl | (simp only [List.length_drop, List.length_take]; rfl)) : p := h
theorem q3_4 {p : Prop} (h : p := by first | rfl | (simp [errW_none, errW_some] <;> rfl) | (simp [*, errW_none, errW_some] <;> rfl)) : p := h
theorem q3_5 {p : Prop} (h : p := by first | rfl | (simp; done) | (simp [*]; done)) : p := h
theorem q3_6 {p : Prop} (h : p := by kernel_rfl) : p := h
theorem q3_7 {p : Prop} (h : p := by repeat (first | (with_reducible first | exact HB.out | apply below_alloc | apply pw_below_drewN | apply below_drew1 | refine below_set ?_ UE.out) | exact HB.out)) : p := h
theorem q3_8 {p : Prop} (h : p := by repeat (first | (with_reducible first | exact HB.out | apply below_alloc | apply pw_below_drewN | apply below_drew1) | exact HB.out)) : p := h
/-! ### spec_RiAct: function 40 -/
mutual
def spec_RiAct.j0 : Nat → Int → Bool → Int → Int → Int → Int → Int → Int → Int → Int → Int → Bool → Option (Int × Int × Int × Int × Bool)
 | 0, _, _, _, _, _, _, _, _, _, _, _, _ => none
 | k + 1, x0, x33, rA, tA, uA, sA, pA, vA, wA, xA, yA, zA => if x33 = true then (some (0, 0, 0, 0, false)) else (if (wrap64 ((wrap64 (10 * rA)) + sA)) = 10 then (spec_RiAct.j1 k x0 (wrap64 (rA - 1)) (wrap64 ((wrap64 (10 * rA)) + sA)) ((wrap64 ((wrap64 (10 * rA)) + sA)) == 10) rA tA uA sA pA vA wA xA yA zA) else (spec_RiAct.j1 k x0 (wrap64 (rA - 1)) (wrap64 ((wrap64 (10 * rA)) + sA)) ((wrap64 ((wrap64 (10 * rA)) + sA)) == 20) rA tA uA sA pA vA wA xA yA zA))
def spec_RiAct.j1 : Nat → Int → Int → Int → Bool → Int → Int → Int → Int → Int → Int → Int → Int → Int → Bool → Option (Int × Int × Int × Int × Bool)
 | 0, _, _, _, _, _, _, _, _, _, _, _, _, _, _ => none
 | k + 1, x0, x6, x43, x44, rA, tA, uA, sA, pA, vA, wA, xA, yA, zA => if x44 = true then ((spec_l03Load.f x6).bind fun ED => (some (ED.1, ED.2.1, ED.2.2.1, ED.2.2.2.1, ED.2.2.2.2))) else (if x43 = 11 then (spec_RiAct.j2 k x0 x6 x43 (x43 == 11) rA tA uA sA pA vA wA xA yA zA) else (spec_RiAct.j2 k x0 x6 x43 (x43 == 21) rA tA uA sA pA vA wA xA yA zA))
def spec_RiAct.j2 : Nat → Int → Int → Int → Bool → Int → Int → Int → Int → Int → Int → Int → Int → Int → Bool → Option (Int × Int × Int × Int × Bool)
 | 0, _, _, _, _, _, _, _, _, _, _, _, _, _, _ => none
 | k + 1, x0, x6, x43, x51, rA, tA, uA, sA, pA, vA, wA, xA, yA, zA => if x51 = true then ((spec_l04Seq.f x0 pA).bind fun XD => ((spec_l03Load.f XD).bind fun FD => (some (FD.1, FD.2.1, FD.2.2.1, FD.2.2.2.1, FD.2.2.2.2)))) else (if x43 = 12 then (spec_RiAct.j3 k x0 x6 x43 (x43 == 12) rA tA uA sA pA vA wA xA yA zA) else (spec_RiAct.j3 k x0 x6 x43 (x43 == 22) rA tA uA sA pA vA wA xA yA zA))
def spec_RiAct.j3 : Nat → Int → Int → Int → Bool → Int → Int → Int → Int → Int → Int → Int → Int → Int → Bool → Option (Int × Int × Int × Int × Bool)
 | 0, _, _, _, _, _, _, _, _, _, _, _, _, _, _ => none
 | k + 1, x0, x6, x43, x61, rA, tA, uA, sA, pA, vA, wA, xA, yA, zA => if x61 = true then ((spec_l03Cas.f x6 pA (wrap64 (pA + 1))).bind fun GD => (some (GD.1, GD.2.1, GD.2.2.1, GD.2.2.2.1, GD.2.2.2.2))) else (if x43 = 13 then ((spec_l04Seq.f x0 pA).bind fun YD => ((spec_l03Store.f (wrap64 (YD + 1)) tA).bind fun HD => (some (HD.1, HD.2.1, HD.2.2.1, HD.2.2.2.1, HD.2.2.2.2)))) else (if x43 = 23 then ((spec_l04Seq.f x0 pA).bind fun ZD => ((spec_l03Load.f (wrap64 (ZD + 1))).bind fun ID => (some (ID.1, ID.2.1, ID.2.2.1, ID.2.2.2.1, ID.2.2.2.2)))) else (if x43 = 14 then ((spec_l04Seq.f x0 pA).bind fun aE => ((spec_l03Store.f aE (wrap64 (pA + 1))).bind fun JD => (some (JD.1, JD.2.1, JD.2.2.1, JD.2.2.2.1, JD.2.2.2.2)))) else ((spec_l04Seq.f x0 pA).bind fun bE => ((spec_l03Store.f bE (wrap64 (pA + x0))).bind fun KD => (some (KD.1, KD.2.1, KD.2.2.1, KD.2.2.2.1, KD.2.2.2.2)))))))
end
def spec_RiAct.f (k : Nat) (a0 : Int) (fA : Int) (jA : Int) (kA : Int) (gA : Int) (hA : Int) (lA : Int) (mA : Int) (nA : Int) (oA : Int) (qA : Bool) : Option (Int × Int × Int × Int × Bool) := if qA = true then (spec_RiAct.j0 k a0 true fA jA kA gA hA lA mA nA oA qA) else ((spec_l04Size.f a0).bind fun cE => (if cE = true then (if fA < 1 then (spec_RiAct.j0 k a0 true fA jA kA gA hA lA mA nA oA qA) else (if fA > 2 then (spec_RiAct.j0 k a0 true fA jA kA gA hA lA mA nA oA qA) else (if gA < 0 then (spec_RiAct.j0 k a0 true fA jA kA gA hA lA mA nA oA qA) else (spec_RiAct.j0 k a0 (decide (gA > 4)) fA jA kA gA hA lA mA nA oA qA)))) else (spec_RiAct.j0 k a0 true fA jA kA gA hA lA mA nA oA qA)))
theorem spec_RiAct.mono_l : ∀ k, (∀ y0 y1 y2 y3 y4 y5 y6 y7 y8 y9 y10 y11, LeO (spec_RiAct.j0 k y0 y1 y2 y3 y4 y5 y6 y7 y8 y9 y10 y11) (spec_RiAct.j0 (k + 1) y0 y1 y2 y3 y4 y5 y6 y7 y8 y9 y10 y11)) ∧ (∀ y0 y1 y2 y3 y4 y5 y6 y7 y8 y9 y10 y11 y12 y13, LeO (spec_RiAct.j1 k y0 y1 y2 y3 y4 y5 y6 y7 y8 y9 y10 y11 y12 y13) (spec_RiAct.j1 (k + 1) y0 y1 y2 y3 y4 y5 y6 y7 y8 y9 y10 y11 y12 y13)) ∧ (∀ y0 y1 y2 y3 y4 y5 y6 y7 y8 y9 y10 y11 y12 y13, LeO (spec_RiAct.j2 k y0 y1 y2 y3 y4 y5 y6 y7 y8 y9 y10 y11 y12 y13) (spec_RiAct.j2 (k + 1) y0 y1 y2 y3 y4 y5 y6 y7 y8 y9 y10 y11 y12 y13)) ∧ (∀ y0 y1 y2 y3 y4 y5 y6 y7 y8 y9 y10 y11 y12 y13, LeO (spec_RiAct.j3 k y0 y1 y2 y3 y4 y5 y6 y7 y8 y9 y10 y11 y12 y13) (spec_RiAct.j3 (k + 1) y0 y1 y2 y3 y4 y5 y6 y7 y8 y9 y10 y11 y12 y13))
 | 0 => ⟨fun _ _ _ _ _ _ _ _ _ _ _ _ r h => by simp [spec_RiAct.j0] at h, fun _ _ _ _ _ _ _ _ _ _ _ _ _ _ r h => by simp [spec_RiAct.j1] at h, fun _ _ _ _ _ _ _ _ _ _ _ _ _ _ r h => by simp [spec_RiAct.j2] at h, fun _ _ _ _ _ _ _ _ _ _ _ _ _ _ r h => by simp [spec_RiAct.j3] at h⟩
 | k + 1 => by
  obtain ⟨ih0, ih1, ih2, ih3⟩ := spec_RiAct.mono_l k
  refine ⟨?_, ?_, ?_, ?_⟩
  ·intro y0 y1 y2 y3 y4 y5 y6 y7 y8 y9 y10 y11
   unfold spec_RiAct.j0
   repeat' first
   | (with_reducible exact ih0 _ _ _ _ _ _ _ _ _ _ _ _)
   | (with_reducible exact ih1 _ _ _ _ _ _ _ _ _ _ _ _ _ _)
   | (with_reducible exact ih2 _ _ _ _ _ _ _ _ _ _ _ _ _ _)
   | (with_reducible exact ih3 _ _ _ _ _ _ _ _ _ _ _ _ _ _)
   | (with_reducible exact LeO.refl _)
   | (with_reducible exact LeO.none _)
   | (with_reducible refine LeO.ite ?_ ?_)
   | (with_reducible refine LeO.bind ?_ (fun _ => ?_))
   | exact ih0 _ _ _ _ _ _ _ _ _ _ _ _
   | exact ih1 _ _ _ _ _ _ _ _ _ _ _ _ _ _
   | exact ih2 _ _ _ _ _ _ _ _ _ _ _ _ _ _
   | exact ih3 _ _ _ _ _ _ _ _ _ _ _ _ _ _
   | exact LeO.none _
   | refine LeO.ite ?_ ?_
   | refine LeO.bind ?_ (fun _ => ?_)
  ·intro y0 y1 y2 y3 y4 y5 y6 y7 y8 y9 y10 y11 y12 y13
   unfold spec_RiAct.j1
   repeat' first
   | (with_reducible exact ih0 _ _ _ _ _ _ _ _ _ _ _ _)
   | (with_reducible exact ih1 _ _ _ _ _ _ _ _ _ _ _ _ _ _)
   | (with_reducible exact ih2 _ _ _ _ _ _ _ _ _ _ _ _ _ _)
   | (with_reducible exact ih3 _ _ _ _ _ _ _ _ _ _ _ _ _ _)
   | (with_reducible exact LeO.refl _)
   | (with_reducible exact LeO.none _)
   | (with_reducible refine LeO.ite ?_ ?_)
   | (with_reducible refine LeO.bind ?_ (fun _ => ?_))
   | exact ih0 _ _ _ _ _ _ _ _ _ _ _ _
   | exact ih1 _ _ _ _ _ _ _ _ _ _ _ _ _ _
   | exact ih2 _ _ _ _ _ _ _ _ _ _ _ _ _ _
   | exact ih3 _ _ _ _ _ _ _ _ _ _ _ _ _ _
   | exact LeO.none _
   | refine LeO.ite ?_ ?_
   | refine LeO.bind ?_ (fun _ => ?_)
  ·intro y0 y1 y2 y3 y4 y5 y6 y7 y8 y9 y10 y11 y12 y13
   unfold spec_RiAct.j2
   repeat' first
   | (with_reducible exact ih0 _ _ _ _ _ _ _ _ _ _ _ _)
   | (with_reducible exact ih1 _ _ _ _ _ _ _ _ _ _ _ _ _ _)
   | (with_reducible exact ih2 _ _ _ _ _ _ _ _ _ _ _ _ _ _)
   | (with_reducible exact ih3 _ _ _ _ _ _ _ _ _ _ _ _ _ _)
   | (with_reducible exact LeO.refl _)
   | (with_reducible exact LeO.none _)
   | (with_reducible refine LeO.ite ?_ ?_)
   | (with_reducible refine LeO.bind ?_ (fun _ => ?_))
   | exact ih0 _ _ _ _ _ _ _ _ _ _ _ _
   | exact ih1 _ _ _ _ _ _ _ _ _ _ _ _ _ _
   | exact ih2 _ _ _ _ _ _ _ _ _ _ _ _ _ _
   | exact ih3 _ _ _ _ _ _ _ _ _ _ _ _ _ _
   | exact LeO.none _
   | refine LeO.ite ?_ ?_
   | refine LeO.bind ?_ (fun _ => ?_)
  ·intro y0 y1 y2 y3 y4 y5 y6 y7 y8 y9 y10 y11 y12 y13
   unfold spec_RiAct.j3
   repeat' first
   | (with_reducible exact ih0 _ _ _ _ _ _ _ _ _ _ _ _)
   | (with_reducible exact ih1 _ _ _ _ _ _ _ _ _ _ _ _ _ _)
   | (with_reducible exact ih2 _ _ _ _ _ _ _ _ _ _ _ _ _ _)
   | (with_reducible exact ih3 _ _ _ _ _ _ _ _ _ _ _ _ _ _)
   | (with_reducible exact LeO.refl _)
   | (with_reducible exact LeO.none _)
   | (with_reducible refine LeO.ite ?_ ?_)
   | (with_reducible refine LeO.bind ?_ (fun _ => ?_))
   | exact ih0 _ _ _ _ _ _ _ _ _ _ _ _
   | exact ih1 _ _ _ _ _ _ _ _ _ _ _ _ _ _
   | exact ih2 _ _ _ _ _ _ _ _ _ _ _ _ _ _
   | exact ih3 _ _ _ _ _ _ _ _ _ _ _ _ _ _
   | exact LeO.none _
   | refine LeO.ite ?_ ?_
   | refine LeO.bind ?_ (fun _ => ?_)
theorem spec_RiAct.mono : ∀ a0 a1 a2 a3 a4 a5 a6 a7 a8 a9 a10 k, LeO (spec_RiAct.f k a0 a1 a2 a3 a4 a5 a6 a7 a8 a9 a10) (spec_RiAct.f (k + 1) a0 a1 a2 a3 a4 a5 a6 a7 a8 a9 a10) := by
 intro a0 a1 a2 a3 a4 a5 a6 a7 a8 a9 a10 k
 obtain ⟨ih0, ih1, ih2, ih3⟩ := spec_RiAct.mono_l k
 unfold spec_RiAct.f
 repeat' first
   | (with_reducible exact ih0 _ _ _ _ _ _ _ _ _ _ _ _)
   | (with_reducible exact ih1 _ _ _ _ _ _ _ _ _ _ _ _ _ _)
   | (with_reducible exact ih2 _ _ _ _ _ _ _ _ _ _ _ _ _ _)
   | (with_reducible exact ih3 _ _ _ _ _ _ _ _ _ _ _ _ _ _)
   | (with_reducible exact LeO.refl _)
   | (with_reducible exact LeO.none _)
   | (with_reducible refine LeO.ite ?_ ?_)
   | (with_reducible refine LeO.bind ?_ (fun _ => ?_))
   | exact ih0 _ _ _ _ _ _ _ _ _ _ _ _
   | exact ih1 _ _ _ _ _ _ _ _ _ _ _ _ _ _
   | exact ih2 _ _ _ _ _ _ _ _ _ _ _ _ _ _
   | exact ih3 _ _ _ _ _ _ _ _ _ _ _ _ _ _
   | exact LeO.none _
   | refine LeO.ite ?_ ?_
   | refine LeO.bind ?_ (fun _ => ?_)
def spec_RiAct.T15 : Bool × List (List Nat × List Nat) := (true, [([], []), ([], []), ([1], [1]), ([0, 2], [0, 2]), ([3], [3]), ([], []), ([5], [5]), ([4, 6, 3], [4, 6]), ([7], [7]), ([7], [7]), ([8, 7, 0, 1, 2, 3, 4, 5, 6, 7, 8, 9], [8]), ([9, 10, 0, 1, 2, 3, 4, 5, 6, 7, 8, 9, 10], [9])])
def spec_RiAct.B15 : List Nat := [0, 0, 2, 7, 15, 0, 32, 127, 255, 255, 1023, 2047]
theorem spec_RiAct.tab15 : rtab .any (opsOf Try.f40 15) = spec_RiAct.T15 := by kernel_rfl
theorem spec_RiAct.bits15 : waitsOk spec_RiAct.T15.2 spec_RiAct.B15 = true := by kernel_rfl
def spec_RiAct.T19 : Bool × List (List Nat × List Nat) := (true, [([], []), ([], []), ([1], [1]), ([0, 2], [0, 2]), ([], []), ([4], [4]), ([5], [5]), ([3, 6, 3], [3, 6]), ([7], [7]), ([7], [7]), ([8, 7, 0, 1, 2, 3, 4, 5, 6, 7, 8, 9], [8]), ([9, 10, 0, 1, 2, 3, 4, 5, 6, 7, 8, 9, 10], [9])])
def spec_RiAct.B19 : List Nat := [0, 0, 2, 7, 0, 16, 48, 127, 255, 255, 1023, 2047]
theorem spec_RiAct.tab19 : rtab .any (opsOf Try.f40 19) = spec_RiAct.T19 := by kernel_rfl
theorem spec_RiAct.bits19 : waitsOk spec_RiAct.T19.2 spec_RiAct.B19 = true := by kernel_rfl
def spec_RiAct.T20 : Bool × List (List Nat × List Nat) := (true, [([], []), ([], []), ([1], [1]), ([0, 2], [0, 2]), ([], []), ([4], [4]), ([], []), ([5, 6], [5, 6]), ([3, 7, 3], [3, 7]), ([8], [8]), ([8], [8]), ([9, 8, 0, 1, 2, 3, 4, 5, 6, 7, 8, 9, 10], [9]), ([10, 11, 0, 1, 2, 3, 4, 5, 6, 7, 8, 9, 10, 11], [10])])
def spec_RiAct.B20 : List Nat := [0, 0, 2, 7, 0, 16, 0, 112, 255, 511, 511, 2047, 4095]
theorem spec_RiAct.tab20 : rtab .any (opsOf Try.f40 20) = spec_RiAct.T20 := by kernel_rfl
theorem spec_RiAct.bits20 : waitsOk spec_RiAct.T20.2 spec_RiAct.B20 = true := by kernel_rfl
set_option maxHeartbeats 8000000 in
set_option maxRecDepth 100000 in
theorem spec_RiAct.calls (k : Nat) (a0 : Int) (fA : Int) (jA : Int) (kA : Int) (gA : Int) (hA : Int) (lA : Int) (mA : Int) (nA : Int) (oA : Int) (qA : Bool) (r1 : Int) (r2 : Int) (r3 : Int) (r4 : Int) (r5 : Bool) (w : World) (h : spec_RiAct.f k a0 fA jA kA gA hA lA mA nA oA qA = some (r1, r2, r3, r4, r5)) :
  Calls Try.prog 40 #[.int .i64 a0, .agg #[.int .i64 fA, .int .i64 jA, .int .i64 kA, .int .i64 gA, .int .i64 hA, .int .i64 lA, .int .i64 mA, .int .i64 nA, .int .i64 oA, .bool qA]] w fun e w' => e = .returned (.tuple #[.agg #[.int .i64 r1, .int .i64 r2, .int .i64 r3, .int .i64 r4], .bool r5]) ∧ Below w.heap.size w w' := by
 have hu23 := Try.underlying23
 have hu37 := Try.underlying37
 have HB := Aside0.mk (Below.refl w.heap.size w)
 have H : (if qA = true then (spec_RiAct.j0 k a0 true fA jA kA gA hA lA mA nA oA qA) else ((spec_l04Size.f a0).bind fun cE => (if cE = true then (if fA < 1 then (spec_RiAct.j0 k a0 true fA jA kA gA hA lA mA nA oA qA) else (if fA > 2 then (spec_RiAct.j0 k a0 true fA jA kA gA hA lA mA nA oA qA) else (if gA < 0 then (spec_RiAct.j0 k a0 true fA jA kA gA hA lA mA nA oA qA) else (spec_RiAct.j0 k a0 (decide (gA > 4)) fA jA kA gA hA lA mA nA oA qA)))) else (spec_RiAct.j0 k a0 true fA jA kA gA hA lA mA nA oA qA)))) = some (r1, r2, r3, r4, r5) := h
 clear h
 have HC3 := Aside0.mk H
 clear H
 go_enter Try.func40, Try.ntmps40
 go_upto_region 1 with (first | ((with_reducible refine gate_dst (N := 3) rfl ?_); refine box_event ?hg (N := 3) ?hd (cs := #[.int .i64 fA, .int .i64 jA, .int .i64 kA, .int .i64 gA, .int .i64 hA, .int .i64 lA, .int .i64 mA, .int .i64 nA, .int .i64 oA, .bool qA]) (t := 23) ?hr ?_; (case hd => rfl); (case hg => rfl); (case hr => first | (go_simp; done) | (go_simp; rfl)); intro dA hg w4 hbox hb; have AA := Aside0.mk (below_step q3_8 hb); have BA := Aside0.mk (hbox); have CA := Aside0.mk ((by rw [hg]; exact (below_size q3_8) : w.heap.size ≤ dA)); have eF := Aside0.mk ((by rw [hg]; exact (below_size q3_8) : w.heap.size ≤ dA)); clear HB; have HB := AA; have aA := BA; have QG := CA; have UE := eF; clear AA BA CA eF; clear hb hbox hg) | ((with_reducible refine gate_dst (N := 4) rfl ?_); refine box_event ?hg (N := 4) ?hd (cs := #[.int .i64 0, .int .i64 0, .int .i64 0, .int .i64 0]) (t := 37) ?hr ?_; (case hd => rfl); (case hg => rfl); (case hr => first | (go_simp; done) | (go_simp; rfl)); intro cA hg w5 hbox hb; have AA := Aside0.mk (blk_below (g := dA) (o := .cells #[.int .i64 fA, .int .i64 jA, .int .i64 kA, .int .i64 gA, .int .i64 hA, .int .i64 lA, .int .i64 mA, .int .i64 nA, .int .i64 oA, .bool qA] 23 (0, 0)) q3_1 hb); have BA := Aside0.mk (below_step q3_7 hb); have CA := Aside0.mk (hbox); have eF := Aside0.mk ((by rw [hg]; exact (below_size q3_7) : w.heap.size ≤ cA)); have RG := Aside0.mk ((by rw [hg]; exact (below_size q3_7) : w.heap.size ≤ cA)); have SG := Aside0.mk ((by rw [hg]; exact Nat.ne_of_lt (blk_lt (g := dA) (o := .cells #[.int .i64 fA, .int .i64 jA, .int .i64 kA, .int .i64 gA, .int .i64 hA, .int .i64 lA, .int .i64 mA, .int .i64 nA, .int .i64 oA, .bool qA] 23 (0, 0)) q3_1) : dA ≠ cA)); have TG := Aside0.mk ((by rw [hg]; exact Nat.ne_of_gt (blk_lt (g := dA) (o := .cells #[.int .i64 fA, .int .i64 jA, .int .i64 kA, .int .i64 gA, .int .i64 hA, .int .i64 lA, .int .i64 mA, .int .i64 nA, .int .i64 oA, .bool qA] 23 (0, 0)) q3_1) : cA ≠ dA)); clear aA HB; have aA := AA; have HB := BA; have eA := CA; have UG := eF; have dF := RG; have bA := SG; have iA := TG; clear AA BA CA eF RG SG TG; clear hb hbox hg))
 (try simp only [Act.put, List.setIfInBounds_toArray, List.set_cons_zero, List.set_cons_succ])
 go_cut [33] (fun v33 wc => ∃ (kq : Nat) (ND : Bool), v33 = .bool ND ∧ Aside0 (spec_RiAct.j0 kq a0 ND fA jA kA gA hA lA mA nA oA qA = some (r1, r2, r3, r4, r5)) ∧ Aside0 (kq ≤ k) ∧ Aside0 (wc.heap[dA]? = some (.cells #[.int .i64 fA, .int .i64 jA, .int .i64 kA, .int .i64 gA, .int .i64 hA, .int .i64 lA, .int .i64 mA, .int .i64 nA, .int .i64 oA, .bool qA] 23 (0, 0))) ∧ Aside0 (wc.heap[cA]? = some (.cells #[.int .i64 0, .int .i64 0, .int .i64 0, .int .i64 0] 37 (0, 0))) ∧ Aside0 (Below w.heap.size w wc))
 case first =>
  have H := HC3.out
  clear HC3
  by_cases c6 : qA = true
  ·subst c6
   rw [if_pos rfl] at H
   have H' := Aside0.mk H
   clear H
   have DH := bA.out
   have EH := iA.out
   have FC : w5.cell? ⟨dA, 0, none⟩ = some (.int .i64 fA) := (blk_cell aA.out 0).trans rfl
   have GC : w5.cell? ⟨dA, 1, none⟩ = some (.int .i64 jA) := (blk_cell aA.out 1).trans rfl
   have HC : w5.cell? ⟨dA, 2, none⟩ = some (.int .i64 kA) := (blk_cell aA.out 2).trans rfl
   have IC : w5.cell? ⟨dA, 3, none⟩ = some (.int .i64 gA) := (blk_cell aA.out 3).trans rfl
   have JC : w5.cell? ⟨dA, 4, none⟩ = some (.int .i64 hA) := (blk_cell aA.out 4).trans rfl
   have KC : w5.cell? ⟨dA, 5, none⟩ = some (.int .i64 lA) := (blk_cell aA.out 5).trans rfl
   have LC : w5.cell? ⟨dA, 6, none⟩ = some (.int .i64 mA) := (blk_cell aA.out 6).trans rfl
   have MC : w5.cell? ⟨dA, 7, none⟩ = some (.int .i64 nA) := (blk_cell aA.out 7).trans rfl
   have NC : w5.cell? ⟨dA, 8, none⟩ = some (.int .i64 oA) := (blk_cell aA.out 8).trans rfl
   have OC : w5.cell? ⟨dA, 9, none⟩ = some (.bool true) := (blk_cell aA.out 9).trans rfl
   have PC := blk_frozen aA.out 0
   have QC := blk_frozen aA.out 1
   have RC := blk_frozen aA.out 2
   have SC := blk_frozen aA.out 3
   have TC := blk_frozen aA.out 4
   have UC := blk_frozen aA.out 5
   have VC := blk_frozen aA.out 6
   have WC := blk_frozen aA.out 7
   have XC := blk_frozen aA.out 8
   have YC := blk_frozen aA.out 9
   go_wp2
   go_meet
   case rel => exact ⟨_, (true), q3_5, H', ⟨by first | omega | exact Nat.le_refl _⟩, ⟨q3_1⟩, ⟨q3_2⟩, ⟨q3_0⟩⟩
  ·replace c6 := Bool.eq_false_iff.mpr c6
   subst c6
   rw [if_neg (show ¬ (false = true) by decide)] at H
   replace H := Option.bind_eq_some_iff.mp H
   obtain ⟨cE, A90, H⟩ := H
   (try dsimp only at H)
   have A9 := Aside0.mk A90
   clear A90
   by_cases c10 : cE = true
   ·subst c10
    rw [if_pos rfl] at H
    by_cases c11 : fA < 1
    ·rw [if_pos c11] at H
     have DA : decide (fA < 1) = true := decide_eq_true c11
     clear c11
     (first | rw [DA] | (simp only [i64_w, i32_w]; rw [DA]) | skip)
     have H' := Aside0.mk H
     clear H
     have VG := bA.out
     have WG := iA.out
     have FA : w5.cell? ⟨dA, 0, none⟩ = some (.int .i64 fA) := (blk_cell aA.out 0).trans rfl
     have GA : w5.cell? ⟨dA, 1, none⟩ = some (.int .i64 jA) := (blk_cell aA.out 1).trans rfl
     have IA : w5.cell? ⟨dA, 2, none⟩ = some (.int .i64 kA) := (blk_cell aA.out 2).trans rfl
     have JA : w5.cell? ⟨dA, 3, none⟩ = some (.int .i64 gA) := (blk_cell aA.out 3).trans rfl
     have KA : w5.cell? ⟨dA, 4, none⟩ = some (.int .i64 hA) := (blk_cell aA.out 4).trans rfl
     have LA : w5.cell? ⟨dA, 5, none⟩ = some (.int .i64 lA) := (blk_cell aA.out 5).trans rfl
     have MA : w5.cell? ⟨dA, 6, none⟩ = some (.int .i64 mA) := (blk_cell aA.out 6).trans rfl
     have NA : w5.cell? ⟨dA, 7, none⟩ = some (.int .i64 nA) := (blk_cell aA.out 7).trans rfl
     have OA : w5.cell? ⟨dA, 8, none⟩ = some (.int .i64 oA) := (blk_cell aA.out 8).trans rfl
     have PA : w5.cell? ⟨dA, 9, none⟩ = some (.bool false) := (blk_cell aA.out 9).trans rfl
     have QA := blk_frozen aA.out 0
     have RA := blk_frozen aA.out 1
     have SA := blk_frozen aA.out 2
     have TA := blk_frozen aA.out 3
     have UA := blk_frozen aA.out 4
     have VA := blk_frozen aA.out 5
     have WA := blk_frozen aA.out 6
     have XA := blk_frozen aA.out 7
     have YA := blk_frozen aA.out 8
     have ZA := blk_frozen aA.out 9
     go_wp2_with (first | (go_at_call 75; (with_reducible refine (spec_l04Size.calls a0 true _ A9.out).mono ?_); rintro e w' ⟨rfl, ⟨nd, rfl⟩⟩))
     go_meet
     case rel => exact ⟨_, (true), q3_5, H', ⟨by first | omega | exact Nat.le_refl _⟩, ⟨q3_1⟩, ⟨q3_2⟩, ⟨q3_0⟩⟩
    ·rw [if_neg c11] at H
     have DA : decide (fA < 1) = false := decide_eq_false c11
     clear c11
     (first | rw [DA] | (simp only [i64_w, i32_w]; rw [DA]) | skip)
     by_cases c14 : fA > 2
     ·rw [if_pos c14] at H
      have LD : decide (2 < fA) = true := decide_eq_true c14
      clear c14
      have H' := Aside0.mk H
      clear H
      have XG := bA.out
      have YG := iA.out
      have aB : w5.cell? ⟨dA, 0, none⟩ = some (.int .i64 fA) := (blk_cell aA.out 0).trans rfl
      have bB : w5.cell? ⟨dA, 1, none⟩ = some (.int .i64 jA) := (blk_cell aA.out 1).trans rfl
      have cB : w5.cell? ⟨dA, 2, none⟩ = some (.int .i64 kA) := (blk_cell aA.out 2).trans rfl
      have dB : w5.cell? ⟨dA, 3, none⟩ = some (.int .i64 gA) := (blk_cell aA.out 3).trans rfl
      have eB : w5.cell? ⟨dA, 4, none⟩ = some (.int .i64 hA) := (blk_cell aA.out 4).trans rfl
      have fB : w5.cell? ⟨dA, 5, none⟩ = some (.int .i64 lA) := (blk_cell aA.out 5).trans rfl
      have gB : w5.cell? ⟨dA, 6, none⟩ = some (.int .i64 mA) := (blk_cell aA.out 6).trans rfl
      have hB : w5.cell? ⟨dA, 7, none⟩ = some (.int .i64 nA) := (blk_cell aA.out 7).trans rfl
      have iB : w5.cell? ⟨dA, 8, none⟩ = some (.int .i64 oA) := (blk_cell aA.out 8).trans rfl
      have jB : w5.cell? ⟨dA, 9, none⟩ = some (.bool false) := (blk_cell aA.out 9).trans rfl
      have kB := blk_frozen aA.out 0
      have lB := blk_frozen aA.out 1
      have mB := blk_frozen aA.out 2
      have nB := blk_frozen aA.out 3
      have oB := blk_frozen aA.out 4
      have pB := blk_frozen aA.out 5
      have qB := blk_frozen aA.out 6
      have rB := blk_frozen aA.out 7
      have sB := blk_frozen aA.out 8
      have tB := blk_frozen aA.out 9
      go_wp2_with (first | (go_at_call 75; (with_reducible refine (spec_l04Size.calls a0 true _ A9.out).mono ?_); rintro e w' ⟨rfl, ⟨nd, rfl⟩⟩))
      go_meet
      case rel => exact ⟨_, (true), q3_5, H', ⟨by first | omega | exact Nat.le_refl _⟩, ⟨q3_1⟩, ⟨q3_2⟩, ⟨q3_0⟩⟩
     ·rw [if_neg c14] at H
      have LD : decide (2 < fA) = false := decide_eq_false c14
      clear c14
      by_cases c17 : gA < 0
      ·rw [if_pos c17] at H
       have MD : decide (gA < 0) = true := decide_eq_true c17
       clear c17
       have H' := Aside0.mk H
       clear H
       have ZG := bA.out
       have aH := iA.out
       have uB : w5.cell? ⟨dA, 0, none⟩ = some (.int .i64 fA) := (blk_cell aA.out 0).trans rfl
       have vB : w5.cell? ⟨dA, 1, none⟩ = some (.int .i64 jA) := (blk_cell aA.out 1).trans rfl
       have wB : w5.cell? ⟨dA, 2, none⟩ = some (.int .i64 kA) := (blk_cell aA.out 2).trans rfl
       have xB : w5.cell? ⟨dA, 3, none⟩ = some (.int .i64 gA) := (blk_cell aA.out 3).trans rfl
       have yB : w5.cell? ⟨dA, 4, none⟩ = some (.int .i64 hA) := (blk_cell aA.out 4).trans rfl
       have zB : w5.cell? ⟨dA, 5, none⟩ = some (.int .i64 lA) := (blk_cell aA.out 5).trans rfl
       have AB : w5.cell? ⟨dA, 6, none⟩ = some (.int .i64 mA) := (blk_cell aA.out 6).trans rfl
       have BB : w5.cell? ⟨dA, 7, none⟩ = some (.int .i64 nA) := (blk_cell aA.out 7).trans rfl
       have CB : w5.cell? ⟨dA, 8, none⟩ = some (.int .i64 oA) := (blk_cell aA.out 8).trans rfl
       have DB : w5.cell? ⟨dA, 9, none⟩ = some (.bool false) := (blk_cell aA.out 9).trans rfl
       have EB := blk_frozen aA.out 0
       have FB := blk_frozen aA.out 1
       have GB := blk_frozen aA.out 2
       have IB := blk_frozen aA.out 3
       have JB := blk_frozen aA.out 4
       have KB := blk_frozen aA.out 5
       have LB := blk_frozen aA.out 6
       have MB := blk_frozen aA.out 7
       have NB := blk_frozen aA.out 8
       have OB := blk_frozen aA.out 9
       go_wp2_with (first | (go_at_call 75; (with_reducible refine (spec_l04Size.calls a0 true _ A9.out).mono ?_); rintro e w' ⟨rfl, ⟨nd, rfl⟩⟩))
       go_meet
       case rel => exact ⟨_, (true), q3_5, H', ⟨by first | omega | exact Nat.le_refl _⟩, ⟨q3_1⟩, ⟨q3_2⟩, ⟨q3_0⟩⟩
      ·rw [if_neg c17] at H
       have MD : decide (gA < 0) = false := decide_eq_false c17
       clear c17
       have H' := Aside0.mk H
       clear H
       have bH := bA.out
       have cH := iA.out
       have PB : w5.cell? ⟨dA, 0, none⟩ = some (.int .i64 fA) := (blk_cell aA.out 0).trans rfl
       have QB : w5.cell? ⟨dA, 1, none⟩ = some (.int .i64 jA) := (blk_cell aA.out 1).trans rfl
       have RB : w5.cell? ⟨dA, 2, none⟩ = some (.int .i64 kA) := (blk_cell aA.out 2).trans rfl
       have SB : w5.cell? ⟨dA, 3, none⟩ = some (.int .i64 gA) := (blk_cell aA.out 3).trans rfl
       have TB : w5.cell? ⟨dA, 4, none⟩ = some (.int .i64 hA) := (blk_cell aA.out 4).trans rfl
       have UB : w5.cell? ⟨dA, 5, none⟩ = some (.int .i64 lA) := (blk_cell aA.out 5).trans rfl
       have VB : w5.cell? ⟨dA, 6, none⟩ = some (.int .i64 mA) := (blk_cell aA.out 6).trans rfl
       have WB : w5.cell? ⟨dA, 7, none⟩ = some (.int .i64 nA) := (blk_cell aA.out 7).trans rfl
       have XB : w5.cell? ⟨dA, 8, none⟩ = some (.int .i64 oA) := (blk_cell aA.out 8).trans rfl
       have YB : w5.cell? ⟨dA, 9, none⟩ = some (.bool false) := (blk_cell aA.out 9).trans rfl
       have ZB := blk_frozen aA.out 0
       have aC := blk_frozen aA.out 1
       have bC := blk_frozen aA.out 2
       have cC := blk_frozen aA.out 3
       have dC := blk_frozen aA.out 4
       have eC := blk_frozen aA.out 5
       have fC := blk_frozen aA.out 6
       have gC := blk_frozen aA.out 7
       have hC := blk_frozen aA.out 8
       have iC := blk_frozen aA.out 9
       go_wp2_with (first | (go_at_call 75; (with_reducible refine (spec_l04Size.calls a0 true _ A9.out).mono ?_); rintro e w' ⟨rfl, ⟨nd, rfl⟩⟩))
       go_meet
       case rel => exact ⟨_, (decide (gA > 4)), q3_5, H', ⟨by first | omega | exact Nat.le_refl _⟩, ⟨q3_1⟩, ⟨q3_2⟩, ⟨q3_0⟩⟩
   ·replace c10 := Bool.eq_false_iff.mpr c10
    subst c10
    rw [if_neg (show ¬ (false = true) by decide)] at H
    have H' := Aside0.mk H
    clear H
    have dH := bA.out
    have eH := iA.out
    have jC : w5.cell? ⟨dA, 0, none⟩ = some (.int .i64 fA) := (blk_cell aA.out 0).trans rfl
    have kC : w5.cell? ⟨dA, 1, none⟩ = some (.int .i64 jA) := (blk_cell aA.out 1).trans rfl
    have lC : w5.cell? ⟨dA, 2, none⟩ = some (.int .i64 kA) := (blk_cell aA.out 2).trans rfl
    have mC : w5.cell? ⟨dA, 3, none⟩ = some (.int .i64 gA) := (blk_cell aA.out 3).trans rfl
    have nC : w5.cell? ⟨dA, 4, none⟩ = some (.int .i64 hA) := (blk_cell aA.out 4).trans rfl
    have oC : w5.cell? ⟨dA, 5, none⟩ = some (.int .i64 lA) := (blk_cell aA.out 5).trans rfl
    have pC : w5.cell? ⟨dA, 6, none⟩ = some (.int .i64 mA) := (blk_cell aA.out 6).trans rfl
    have qC : w5.cell? ⟨dA, 7, none⟩ = some (.int .i64 nA) := (blk_cell aA.out 7).trans rfl
    have rC : w5.cell? ⟨dA, 8, none⟩ = some (.int .i64 oA) := (blk_cell aA.out 8).trans rfl
    have sC : w5.cell? ⟨dA, 9, none⟩ = some (.bool false) := (blk_cell aA.out 9).trans rfl
    have tC := blk_frozen aA.out 0
    have uC := blk_frozen aA.out 1
    have vC := blk_frozen aA.out 2
    have wC := blk_frozen aA.out 3
    have xC := blk_frozen aA.out 4
    have yC := blk_frozen aA.out 5
    have zC := blk_frozen aA.out 6
    have AC := blk_frozen aA.out 7
    have BC := blk_frozen aA.out 8
    have CC := blk_frozen aA.out 9
    go_wp2_with (first | (go_at_call 75; (with_reducible refine (spec_l04Size.calls a0 false _ A9.out).mono ?_); rintro e w' ⟨rfl, ⟨nd, rfl⟩⟩))
    go_meet
    case rel => exact ⟨_, (true), q3_5, H', ⟨by first | omega | exact Nat.le_refl _⟩, ⟨q3_1⟩, ⟨q3_2⟩, ⟨q3_0⟩⟩
 case rest =>
  clear HC3
  (try clear c1); (try clear c2); (try clear p2); (try clear c4); (try clear c6); (try clear c7); (try clear c10); (try clear c11); (try clear DA); (try clear c12); (try clear c14); (try clear LD); (try clear c15); (try clear c17); (try clear MD); (try clear c18); (try clear c20); (try clear c22); (try clear FA); (try clear GA); (try clear IA); (try clear JA); (try clear KA); (try clear LA); (try clear MA); (try clear NA); (try clear OA); (try clear PA); (try clear aB); (try clear bB); (try clear cB); (try clear dB); (try clear eB); (try clear fB); (try clear gB); (try clear hB); (try clear iB); (try clear jB); (try clear uB); (try clear vB); (try clear wB); (try clear xB); (try clear yB); (try clear zB); (try clear AB); (try clear BB); (try clear CB); (try clear DB); (try clear PB); (try clear QB); (try clear RB); (try clear SB); (try clear TB); (try clear UB); (try clear VB); (try clear WB); (try clear XB); (try clear YB); (try clear jC); (try clear kC); (try clear lC); (try clear mC); (try clear nC); (try clear oC); (try clear pC); (try clear qC); (try clear rC); (try clear sC); (try clear FC); (try clear GC); (try clear HC); (try clear IC); (try clear JC); (try clear KC); (try clear LC); (try clear MC); (try clear NC); (try clear OC); (try clear QA); (try clear RA); (try clear SA); (try clear TA); (try clear UA); (try clear VA); (try clear WA); (try clear XA); (try clear YA); (try clear ZA); (try clear kB); (try clear lB); (try clear mB); (try clear nB); (try clear oB); (try clear pB); (try clear qB); (try clear rB); (try clear sB); (try clear tB); (try clear EB); (try clear FB); (try clear GB); (try clear IB); (try clear JB); (try clear KB); (try clear LB); (try clear MB); (try clear NB); (try clear OB); (try clear ZB); (try clear aC); (try clear bC); (try clear cC); (try clear dC); (try clear eC); (try clear fC); (try clear gC); (try clear hC); (try clear iC); (try clear tC); (try clear uC); (try clear vC); (try clear wC); (try clear xC); (try clear yC); (try clear zC); (try clear AC); (try clear BC); (try clear CC); (try clear PC); (try clear QC); (try clear RC); (try clear SC); (try clear TC); (try clear UC); (try clear VC); (try clear WC); (try clear XC); (try clear YC)
  obtain ⟨kq, ND, rfl, HA, HJ2, aA, eA, HB⟩ := hcut
  cases kq with
  | zero => exact absurd HA.out (by simp [spec_RiAct.j0])
  | succ kj2 =>
   have H := HA.out
   clear HA
   simp only [spec_RiAct.j0] at H
   by_cases c24 : ND = true
   ·subst c24
    rw [if_pos rfl] at H
    simp only [Option.some.injEq, Prod.mk.injEq] at H
    obtain ⟨rfl, rfl, rfl, rfl, rfl⟩ := H
    have fH := iA.out
    have gH := bA.out
    have ZC : wc.cell? ⟨cA, 0, none⟩ = some (.int .i64 0) := (blk_cell eA.out 0).trans rfl
    have aD : wc.cell? ⟨cA, 1, none⟩ = some (.int .i64 0) := (blk_cell eA.out 1).trans rfl
    have bD : wc.cell? ⟨cA, 2, none⟩ = some (.int .i64 0) := (blk_cell eA.out 2).trans rfl
    have cD : wc.cell? ⟨cA, 3, none⟩ = some (.int .i64 0) := (blk_cell eA.out 3).trans rfl
    have dD := blk_frozen eA.out 0
    have eD := blk_frozen eA.out 1
    have fD := blk_frozen eA.out 2
    have gD := blk_frozen eA.out 3
    go_wp2
    refine bodyPost_ret (results_ct rfl _ _ cA 37 #[.int .i64 0, .int .i64 0, .int .i64 0, .int .i64 0] (0, 0) _ rfl (by (with_reducible repeat (first | refine blk_drewN ?_ _ | refine blk_drew ?_ | refine blk_alloc ?_ _)); refine blk_put (cs := #[.int .i64 0, .int .i64 0, .int .i64 0, .int .i64 0]) ?_ 3 _ rfl; (with_reducible repeat (first | refine blk_drewN ?_ _ | refine blk_drew ?_ | refine blk_alloc ?_ _)); refine blk_put (cs := #[.int .i64 0, .int .i64 0, .int .i64 0, .int .i64 0]) ?_ 2 _ rfl; (with_reducible repeat (first | refine blk_drewN ?_ _ | refine blk_drew ?_ | refine blk_alloc ?_ _)); refine blk_put (cs := #[.int .i64 0, .int .i64 0, .int .i64 0, .int .i64 0]) ?_ 1 _ rfl; (with_reducible repeat (first | refine blk_drewN ?_ _ | refine blk_drew ?_ | refine blk_alloc ?_ _)); refine blk_put (cs := #[.int .i64 0, .int .i64 0, .int .i64 0, .int .i64 0]) ?_ 0 _ rfl; (with_reducible repeat (first | refine blk_drewN ?_ _ | refine blk_drew ?_ | refine blk_alloc ?_ _)); exact eA.out) Try.underlying37 rfl q3_6) rfl ?_
    exact ⟨q3_4, q3_0⟩
   ·replace c24 := Bool.eq_false_iff.mpr c24
    subst c24
    rw [if_neg (show ¬ (false = true) by decide)] at H
    have HC27 := Aside0.mk H
    clear H
    have hH := bA.out
    have iH := iA.out
    have hD : wc.cell? ⟨dA, 0, none⟩ = some (.int .i64 fA) := (blk_cell aA.out 0).trans rfl
    have iD : wc.cell? ⟨dA, 1, none⟩ = some (.int .i64 jA) := (blk_cell aA.out 1).trans rfl
    have jD : wc.cell? ⟨dA, 2, none⟩ = some (.int .i64 kA) := (blk_cell aA.out 2).trans rfl
    have kD : wc.cell? ⟨dA, 3, none⟩ = some (.int .i64 gA) := (blk_cell aA.out 3).trans rfl
    have lD : wc.cell? ⟨dA, 4, none⟩ = some (.int .i64 hA) := (blk_cell aA.out 4).trans rfl
    have mD : wc.cell? ⟨dA, 5, none⟩ = some (.int .i64 lA) := (blk_cell aA.out 5).trans rfl
    have nD : wc.cell? ⟨dA, 6, none⟩ = some (.int .i64 mA) := (blk_cell aA.out 6).trans rfl
    have oD : wc.cell? ⟨dA, 7, none⟩ = some (.int .i64 nA) := (blk_cell aA.out 7).trans rfl
    have pD : wc.cell? ⟨dA, 8, none⟩ = some (.int .i64 oA) := (blk_cell aA.out 8).trans rfl
    have qD : wc.cell? ⟨dA, 9, none⟩ = some (.bool qA) := (blk_cell aA.out 9).trans rfl
    have rD := blk_frozen aA.out 0
    have sD := blk_frozen aA.out 1
    have tD := blk_frozen aA.out 2
    have uD := blk_frozen aA.out 3
    have vD := blk_frozen aA.out 4
    have wD := blk_frozen aA.out 5
    have xD := blk_frozen aA.out 6
    have yD := blk_frozen aA.out 7
    have zD := blk_frozen aA.out 8
    have AD := blk_frozen aA.out 9
    go_upto_if 44 with (fail)
    go_cut [44] (fun v44 wc => ∃ (kq : Nat) (BD : Bool), v44 = .bool BD ∧ Aside0 (spec_RiAct.j1 kq a0 (wrap64 (fA - 1)) (wrap64 ((wrap64 (10 * fA)) + gA)) BD fA jA kA gA hA lA mA nA oA qA = some (r1, r2, r3, r4, r5)) ∧ Aside0 (kq ≤ kj2) ∧ Aside0 (wc.heap[dA]? = some (.cells #[.int .i64 fA, .int .i64 jA, .int .i64 kA, .int .i64 gA, .int .i64 hA, .int .i64 lA, .int .i64 mA, .int .i64 nA, .int .i64 oA, .bool qA] 23 (0, 0))) ∧ Aside0 (wc.heap[cA]? = some (.cells #[.int .i64 0, .int .i64 0, .int .i64 0, .int .i64 0] 37 (0, 0))) ∧ Aside0 (Below w.heap.size w wc))
    case first =>
     have H := HC27.out
     clear HC27
     by_cases c30 : (wrap64 ((wrap64 (10 * fA)) + gA)) = 10
     ·rw [if_pos c30] at H
      have EA : ((wrap64 ((wrap64 (10 * fA)) + gA)) == 10) = true := beq_iff_eq.mpr c30
      have OD : ((wrap64 ((wrap64 (10 * fA)) + gA)) != 10) = false := bne_eq_false_iff_eq.mpr c30
      clear c30
      (first | rw [EA] | (simp only [i64_w, i32_w]; rw [EA]) | skip)
      have H' := Aside0.mk H
      clear H
      go_wp2
      go_meet
      case rel => exact ⟨_, (((wrap64 ((wrap64 (10 * fA)) + gA)) == 10)), q3_5, H', ⟨by have := HJ2.out; first | omega | exact Nat.le_refl _⟩, ⟨q3_1⟩, ⟨q3_2⟩, ⟨q3_0⟩⟩
     ·rw [if_neg c30] at H
      have EA : ((wrap64 ((wrap64 (10 * fA)) + gA)) == 10) = false := beq_eq_false_iff_ne.mpr c30
      have OD : ((wrap64 ((wrap64 (10 * fA)) + gA)) != 10) = true := bne_iff_ne.mpr c30
      (first | rw [EA] | (simp only [i64_w, i32_w]; rw [EA]) | skip)
      have H' := Aside0.mk H
      clear H
      go_wp2
      go_meet
      case rel => exact ⟨_, (((wrap64 ((wrap64 (10 * fA)) + gA)) == 20)), q3_5, H', ⟨by have := HJ2.out; first | omega | exact Nat.le_refl _⟩, ⟨q3_1⟩, ⟨q3_2⟩, ⟨q3_0⟩⟩
    case rest =>
     clear HC27
     (try clear c1); (try clear c2); (try clear p2); (try clear c3); (try clear c4); (try clear c6); (try clear p6); (try clear c7); (try clear c10); (try clear c11); (try clear DA); (try clear c12); (try clear c14); (try clear LD); (try clear c15); (try clear c17); (try clear MD); (try clear c18); (try clear c20); (try clear c22); (try clear c24); (try clear c25); (try clear c28); (try clear c30); (try clear EA); (try clear OD); (try clear FA); (try clear GA); (try clear IA); (try clear JA); (try clear KA); (try clear LA); (try clear MA); (try clear NA); (try clear OA); (try clear PA); (try clear aB); (try clear bB); (try clear cB); (try clear dB); (try clear eB); (try clear fB); (try clear gB); (try clear hB); (try clear iB); (try clear jB); (try clear uB); (try clear vB); (try clear wB); (try clear xB); (try clear yB); (try clear zB); (try clear AB); (try clear BB); (try clear CB); (try clear DB); (try clear PB); (try clear QB); (try clear RB); (try clear SB); (try clear TB); (try clear UB); (try clear VB); (try clear WB); (try clear XB); (try clear YB); (try clear jC); (try clear kC); (try clear lC); (try clear mC); (try clear nC); (try clear oC); (try clear pC); (try clear qC); (try clear rC); (try clear sC); (try clear ZC); (try clear aD); (try clear bD); (try clear cD); (try clear hD); (try clear iD); (try clear jD); (try clear kD); (try clear lD); (try clear mD); (try clear nD); (try clear oD); (try clear pD); (try clear qD); (try clear FC); (try clear GC); (try clear HC); (try clear IC); (try clear JC); (try clear KC); (try clear LC); (try clear MC); (try clear NC); (try clear OC); (try clear QA); (try clear RA); (try clear SA); (try clear TA); (try clear UA); (try clear VA); (try clear WA); (try clear XA); (try clear YA); (try clear ZA); (try clear kB); (try clear lB); (try clear mB); (try clear nB); (try clear oB); (try clear pB); (try clear qB); (try clear rB); (try clear sB); (try clear tB); (try clear EB); (try clear FB); (try clear GB); (try clear IB); (try clear JB); (try clear KB); (try clear LB); (try clear MB); (try clear NB); (try clear OB); (try clear ZB); (try clear aC); (try clear bC); (try clear cC); (try clear dC); (try clear eC); (try clear fC); (try clear gC); (try clear hC); (try clear iC); (try clear tC); (try clear uC); (try clear vC); (try clear wC); (try clear xC); (try clear yC); (try clear zC); (try clear AC); (try clear BC); (try clear CC); (try clear dD); (try clear eD); (try clear fD); (try clear gD); (try clear rD); (try clear sD); (try clear tD); (try clear uD); (try clear vD); (try clear wD); (try clear xD); (try clear yD); (try clear zD); (try clear AD); (try clear PC); (try clear QC); (try clear RC); (try clear SC); (try clear TC); (try clear UC); (try clear VC); (try clear WC); (try clear XC); (try clear YC); (try clear p2)
     obtain ⟨kq, BD, rfl, HA, HJ26, aA, eA, HB⟩ := hcut
     cases kq with
     | zero => exact absurd HA.out (by simp [spec_RiAct.j1])
     | succ kj26 =>
      have H := HA.out
      clear HA
      simp only [spec_RiAct.j1] at H
      by_cases c31 : BD = true
      ·subst c31
       rw [if_pos rfl] at H
       replace H := Option.bind_eq_some_iff.mp H
       obtain ⟨⟨dE, lE, WE, fF, JG⟩, A320, H⟩ := H
       (try dsimp only at H)
       have A32 := Aside0.mk A320
       clear A320
       simp only [Option.some.injEq, Prod.mk.injEq] at H
       obtain ⟨rfl, rfl, rfl, rfl, rfl⟩ := H
       go_wp2_with (first | ((with_reducible refine gate_callee (f := 53) rfl ?_); refine goesL_ (some 48) rfl rfl Try.func53 q3_6 rfl #[.int .i64 (wrap64 (fA - 1))] rfl q3_3 ?_; (with_reducible refine (spec_l03Load.calls (wrap64 (fA - 1)) dE lE WE fF JG _ A32.out).mono ?_); rintro e sF ⟨rfl, hb⟩; refine ⟨_, rfl, ?_⟩; have AA := Aside0.mk (blk_below (g := dA) (o := .cells #[.int .i64 fA, .int .i64 jA, .int .i64 kA, .int .i64 gA, .int .i64 hA, .int .i64 lA, .int .i64 mA, .int .i64 nA, .int .i64 oA, .bool qA] 23 (0, 0)) q3_1 hb); have BA := Aside0.mk (blk_below (g := cA) (o := .cells #[.int .i64 0, .int .i64 0, .int .i64 0, .int .i64 0] 37 (0, 0)) q3_2 hb); have CA := Aside0.mk (below_step q3_0 hb); clear aA eA HB; have aA := AA; have eA := BA; have HB := CA; clear AA BA CA; (try clear hb); (try clear hb2); (try clear hk); (try clear hi); have jH := iA.out; have kH := bA.out; have PD : sF.cell? ⟨cA, 0, none⟩ = some (.int .i64 0) := (blk_cell eA.out 0).trans rfl; have QD : sF.cell? ⟨cA, 1, none⟩ = some (.int .i64 0) := (blk_cell eA.out 1).trans rfl; have RD : sF.cell? ⟨cA, 2, none⟩ = some (.int .i64 0) := (blk_cell eA.out 2).trans rfl; have SD : sF.cell? ⟨cA, 3, none⟩ = some (.int .i64 0) := (blk_cell eA.out 3).trans rfl; have TD := blk_frozen eA.out 0; have UD := blk_frozen eA.out 1; have VD := blk_frozen eA.out 2; have WD := blk_frozen eA.out 3))
       refine bodyPost_ret (results_ct rfl _ _ cA 37 #[.int .i64 dE, .int .i64 lE, .int .i64 WE, .int .i64 fF] (0, 0) _ rfl (by (with_reducible repeat (first | refine blk_drewN ?_ _ | refine blk_drew ?_ | refine blk_alloc ?_ _)); refine blk_put (cs := #[.int .i64 dE, .int .i64 lE, .int .i64 WE, .int .i64 0]) ?_ 3 _ rfl; (with_reducible repeat (first | refine blk_drewN ?_ _ | refine blk_drew ?_ | refine blk_alloc ?_ _)); refine blk_put (cs := #[.int .i64 dE, .int .i64 lE, .int .i64 0, .int .i64 0]) ?_ 2 _ rfl; (with_reducible repeat (first | refine blk_drewN ?_ _ | refine blk_drew ?_ | refine blk_alloc ?_ _)); refine blk_put (cs := #[.int .i64 dE, .int .i64 0, .int .i64 0, .int .i64 0]) ?_ 1 _ rfl; (with_reducible repeat (first | refine blk_drewN ?_ _ | refine blk_drew ?_ | refine blk_alloc ?_ _)); refine blk_put (cs := #[.int .i64 0, .int .i64 0, .int .i64 0, .int .i64 0]) ?_ 0 _ rfl; (with_reducible repeat (first | refine blk_drewN ?_ _ | refine blk_drew ?_ | refine blk_alloc ?_ _)); exact eA.out) Try.underlying37 rfl q3_6) rfl ?_
       exact ⟨q3_4, q3_0⟩
      ·replace c31 := Bool.eq_false_iff.mpr c31
       subst c31
       rw [if_neg (show ¬ (false = true) by decide)] at H
       have HC36 := Aside0.mk H
       clear H
       go_upto_if 51 with (fail)
       go_cut [51] (fun v51 wc => ∃ (kq : Nat) (CD : Bool), v51 = .bool CD ∧ Aside0 (spec_RiAct.j2 kq a0 (wrap64 (fA - 1)) (wrap64 ((wrap64 (10 * fA)) + gA)) CD fA jA kA gA hA lA mA nA oA qA = some (r1, r2, r3, r4, r5)) ∧ Aside0 (kq ≤ kj26) ∧ Aside0 (wc.heap[dA]? = some (.cells #[.int .i64 fA, .int .i64 jA, .int .i64 kA, .int .i64 gA, .int .i64 hA, .int .i64 lA, .int .i64 mA, .int .i64 nA, .int .i64 oA, .bool qA] 23 (0, 0))) ∧ Aside0 (wc.heap[cA]? = some (.cells #[.int .i64 0, .int .i64 0, .int .i64 0, .int .i64 0] 37 (0, 0))) ∧ Aside0 (Below w.heap.size w wc))
       case first =>
        have H := HC36.out
        clear HC36
        by_cases c37 : (wrap64 ((wrap64 (10 * fA)) + gA)) = 11
        ·rw [if_pos c37] at H
         have DC : ((wrap64 ((wrap64 (10 * fA)) + gA)) == 11) = true := beq_iff_eq.mpr c37
         have eE : ((wrap64 ((wrap64 (10 * fA)) + gA)) != 11) = false := bne_eq_false_iff_eq.mpr c37
         clear c37
         (first | rw [DC] | (simp only [i64_w, i32_w]; rw [DC]) | skip)
         have H' := Aside0.mk H
         clear H
         go_wp2
         go_meet
         case rel => exact ⟨_, (((wrap64 ((wrap64 (10 * fA)) + gA)) == 11)), q3_5, H', ⟨by have := HJ2.out; have := HJ26.out; first | omega | exact Nat.le_refl _⟩, ⟨q3_1⟩, ⟨q3_2⟩, ⟨q3_0⟩⟩
        ·rw [if_neg c37] at H
         have DC : ((wrap64 ((wrap64 (10 * fA)) + gA)) == 11) = false := beq_eq_false_iff_ne.mpr c37
         have eE : ((wrap64 ((wrap64 (10 * fA)) + gA)) != 11) = true := bne_iff_ne.mpr c37
         (first | rw [DC] | (simp only [i64_w, i32_w]; rw [DC]) | skip)
         have H' := Aside0.mk H
         clear H
         go_wp2
         go_meet
         case rel => exact ⟨_, (((wrap64 ((wrap64 (10 * fA)) + gA)) == 21)), q3_5, H', ⟨by have := HJ2.out; have := HJ26.out; first | omega | exact Nat.le_refl _⟩, ⟨q3_1⟩, ⟨q3_2⟩, ⟨q3_0⟩⟩
       case rest =>
        clear HC36
        (try clear c1); (try clear c2); (try clear p2); (try clear c3); (try clear c4); (try clear c5); (try clear c6); (try clear p6); (try clear c7); (try clear c10); (try clear c11); (try clear DA); (try clear c12); (try clear c14); (try clear LD); (try clear c15); (try clear c17); (try clear MD); (try clear c18); (try clear c20); (try clear c22); (try clear c24); (try clear c25); (try clear c28); (try clear c30); (try clear EA); (try clear OD); (try clear c31); (try clear c34); (try clear c37); (try clear DC); (try clear eE); (try clear FA); (try clear GA); (try clear IA); (try clear JA); (try clear KA); (try clear LA); (try clear MA); (try clear NA); (try clear OA); (try clear PA); (try clear aB); (try clear bB); (try clear cB); (try clear dB); (try clear eB); (try clear fB); (try clear gB); (try clear hB); (try clear iB); (try clear jB); (try clear uB); (try clear vB); (try clear wB); (try clear xB); (try clear yB); (try clear zB); (try clear AB); (try clear BB); (try clear CB); (try clear DB); (try clear PB); (try clear QB); (try clear RB); (try clear SB); (try clear TB); (try clear UB); (try clear VB); (try clear WB); (try clear XB); (try clear YB); (try clear jC); (try clear kC); (try clear lC); (try clear mC); (try clear nC); (try clear oC); (try clear pC); (try clear qC); (try clear rC); (try clear sC); (try clear ZC); (try clear aD); (try clear bD); (try clear cD); (try clear hD); (try clear iD); (try clear jD); (try clear kD); (try clear lD); (try clear mD); (try clear nD); (try clear oD); (try clear pD); (try clear qD); (try clear PD); (try clear QD); (try clear RD); (try clear SD); (try clear FC); (try clear GC); (try clear HC); (try clear IC); (try clear JC); (try clear KC); (try clear LC); (try clear MC); (try clear NC); (try clear OC); (try clear QA); (try clear RA); (try clear SA); (try clear TA); (try clear UA); (try clear VA); (try clear WA); (try clear XA); (try clear YA); (try clear ZA); (try clear kB); (try clear lB); (try clear mB); (try clear nB); (try clear oB); (try clear pB); (try clear qB); (try clear rB); (try clear sB); (try clear tB); (try clear EB); (try clear FB); (try clear GB); (try clear IB); (try clear JB); (try clear KB); (try clear LB); (try clear MB); (try clear NB); (try clear OB); (try clear ZB); (try clear aC); (try clear bC); (try clear cC); (try clear dC); (try clear eC); (try clear fC); (try clear gC); (try clear hC); (try clear iC); (try clear tC); (try clear uC); (try clear vC); (try clear wC); (try clear xC); (try clear yC); (try clear zC); (try clear AC); (try clear BC); (try clear CC); (try clear dD); (try clear eD); (try clear fD); (try clear gD); (try clear rD); (try clear sD); (try clear tD); (try clear uD); (try clear vD); (try clear wD); (try clear xD); (try clear yD); (try clear zD); (try clear AD); (try clear TD); (try clear UD); (try clear VD); (try clear WD); (try clear PC); (try clear QC); (try clear RC); (try clear SC); (try clear TC); (try clear UC); (try clear VC); (try clear WC); (try clear XC); (try clear YC); (try clear p2); (try clear p6)
        obtain ⟨kq, CD, rfl, HA, HJ35, aA, eA, HB⟩ := hcut
        cases kq with
        | zero => exact absurd HA.out (by simp [spec_RiAct.j2])
        | succ kj35 =>
         have H := HA.out
         clear HA
         simp only [spec_RiAct.j2] at H
         by_cases c38 : CD = true
         ·subst c38
          rw [if_pos rfl] at H
          replace H := Option.bind_eq_some_iff.mp H
          obtain ⟨XD, A390, H⟩ := H
          (try dsimp only at H)
          have A39 := Aside0.mk A390
          clear A390
          replace H := Option.bind_eq_some_iff.mp H
          obtain ⟨⟨fE, mE, XE, gF, KG⟩, A400, H⟩ := H
          (try dsimp only at H)
          have A40 := Aside0.mk A400
          clear A400
          simp only [Option.some.injEq, Prod.mk.injEq] at H
          obtain ⟨rfl, rfl, rfl, rfl, rfl⟩ := H
          have lH := bA.out
          have mH := iA.out
          have nE : wc.cell? ⟨dA, 0, none⟩ = some (.int .i64 fA) := (blk_cell aA.out 0).trans rfl
          have oE : wc.cell? ⟨dA, 1, none⟩ = some (.int .i64 jA) := (blk_cell aA.out 1).trans rfl
          have pE : wc.cell? ⟨dA, 2, none⟩ = some (.int .i64 kA) := (blk_cell aA.out 2).trans rfl
          have qE : wc.cell? ⟨dA, 3, none⟩ = some (.int .i64 gA) := (blk_cell aA.out 3).trans rfl
          have rE : wc.cell? ⟨dA, 4, none⟩ = some (.int .i64 hA) := (blk_cell aA.out 4).trans rfl
          have sE : wc.cell? ⟨dA, 5, none⟩ = some (.int .i64 lA) := (blk_cell aA.out 5).trans rfl
          have tE : wc.cell? ⟨dA, 6, none⟩ = some (.int .i64 mA) := (blk_cell aA.out 6).trans rfl
          have uE : wc.cell? ⟨dA, 7, none⟩ = some (.int .i64 nA) := (blk_cell aA.out 7).trans rfl
          have vE : wc.cell? ⟨dA, 8, none⟩ = some (.int .i64 oA) := (blk_cell aA.out 8).trans rfl
          have wE : wc.cell? ⟨dA, 9, none⟩ = some (.bool qA) := (blk_cell aA.out 9).trans rfl
          have xE := blk_frozen aA.out 0
          have yE := blk_frozen aA.out 1
          have zE := blk_frozen aA.out 2
          have AE := blk_frozen aA.out 3
          have BE := blk_frozen aA.out 4
          have CE := blk_frozen aA.out 5
          have DE := blk_frozen aA.out 6
          have EE := blk_frozen aA.out 7
          have FE := blk_frozen aA.out 8
          have GE := blk_frozen aA.out 9
          go_wp2_with (first | ((with_reducible refine gate_callee (f := 76) rfl ?_); refine goesL_ (some 57) rfl rfl Try.func76 q3_6 rfl #[.int .i64 a0, .int .i64 hA] rfl q3_3 ?_; (with_reducible refine (spec_l04Seq.calls a0 hA XD _ A39.out).mono ?_); rintro e w' ⟨rfl, ⟨nd, rfl⟩⟩; refine ⟨_, rfl, ?_⟩; (try (rw [drewN_self wc]; generalize hq_ : World.drewN wc _ = wc; have AA : Aside0 (wc.heap[dA]? = some (.cells #[.int .i64 fA, .int .i64 jA, .int .i64 kA, .int .i64 gA, .int .i64 hA, .int .i64 lA, .int .i64 mA, .int .i64 nA, .int .i64 oA, .bool qA] 23 (0, 0))) := ⟨by rw [← hq_]; exact q3_1⟩; have BA : Aside0 (wc.heap[cA]? = some (.cells #[.int .i64 0, .int .i64 0, .int .i64 0, .int .i64 0] 37 (0, 0))) := ⟨by rw [← hq_]; exact q3_2⟩; have CA : Aside0 (Below w.heap.size w wc) := ⟨by rw [← hq_]; exact q3_0⟩; clear aA eA HB hq_; have aA := AA; have eA := BA; have HB := CA; clear AA BA CA))) | ((with_reducible refine gate_callee (f := 53) rfl ?_); refine goesL_ (some 58) rfl rfl Try.func53 q3_6 rfl #[.int .i64 XD] rfl q3_3 ?_; (with_reducible refine (spec_l03Load.calls XD fE mE XE gF KG _ A40.out).mono ?_); rintro e tF ⟨rfl, hb⟩; refine ⟨_, rfl, ?_⟩; have AA := Aside0.mk (blk_below (g := dA) (o := .cells #[.int .i64 fA, .int .i64 jA, .int .i64 kA, .int .i64 gA, .int .i64 hA, .int .i64 lA, .int .i64 mA, .int .i64 nA, .int .i64 oA, .bool qA] 23 (0, 0)) q3_1 hb); have BA := Aside0.mk (blk_below (g := cA) (o := .cells #[.int .i64 0, .int .i64 0, .int .i64 0, .int .i64 0] 37 (0, 0)) q3_2 hb); have CA := Aside0.mk (below_step q3_0 hb); clear aA eA HB; have aA := AA; have eA := BA; have HB := CA; clear AA BA CA; (try clear hb); (try clear hb2); (try clear hk); (try clear hi); have HE : tF.cell? ⟨cA, 0, none⟩ = some (.int .i64 0) := (blk_cell eA.out 0).trans rfl; have IE : tF.cell? ⟨cA, 1, none⟩ = some (.int .i64 0) := (blk_cell eA.out 1).trans rfl; have JE : tF.cell? ⟨cA, 2, none⟩ = some (.int .i64 0) := (blk_cell eA.out 2).trans rfl; have KE : tF.cell? ⟨cA, 3, none⟩ = some (.int .i64 0) := (blk_cell eA.out 3).trans rfl; have LE := blk_frozen eA.out 0; have ME := blk_frozen eA.out 1; have NE := blk_frozen eA.out 2; have OE := blk_frozen eA.out 3))
          refine bodyPost_ret (results_ct rfl _ _ cA 37 #[.int .i64 fE, .int .i64 mE, .int .i64 XE, .int .i64 gF] (0, 0) _ rfl (by (with_reducible repeat (first | refine blk_drewN ?_ _ | refine blk_drew ?_ | refine blk_alloc ?_ _)); refine blk_put (cs := #[.int .i64 fE, .int .i64 mE, .int .i64 XE, .int .i64 0]) ?_ 3 _ rfl; (with_reducible repeat (first | refine blk_drewN ?_ _ | refine blk_drew ?_ | refine blk_alloc ?_ _)); refine blk_put (cs := #[.int .i64 fE, .int .i64 mE, .int .i64 0, .int .i64 0]) ?_ 2 _ rfl; (with_reducible repeat (first | refine blk_drewN ?_ _ | refine blk_drew ?_ | refine blk_alloc ?_ _)); refine blk_put (cs := #[.int .i64 fE, .int .i64 0, .int .i64 0, .int .i64 0]) ?_ 1 _ rfl; (with_reducible repeat (first | refine blk_drewN ?_ _ | refine blk_drew ?_ | refine blk_alloc ?_ _)); refine blk_put (cs := #[.int .i64 0, .int .i64 0, .int .i64 0, .int .i64 0]) ?_ 0 _ rfl; (with_reducible repeat (first | refine blk_drewN ?_ _ | refine blk_drew ?_ | refine blk_alloc ?_ _)); exact eA.out) Try.underlying37 rfl q3_6) rfl ?_
          exact ⟨q3_4, q3_0⟩
         ·replace c38 := Bool.eq_false_iff.mpr c38
          subst c38
          rw [if_neg (show ¬ (false = true) by decide)] at H
          have HC45 := Aside0.mk H
          clear H
          go_upto_if 61 with (fail)
          go_cut [61] (fun v61 wc => ∃ (kq : Nat) (DD : Bool), v61 = .bool DD ∧ Aside0 (spec_RiAct.j3 kq a0 (wrap64 (fA - 1)) (wrap64 ((wrap64 (10 * fA)) + gA)) DD fA jA kA gA hA lA mA nA oA qA = some (r1, r2, r3, r4, r5)) ∧ Aside0 (kq ≤ kj35) ∧ Aside0 (wc.heap[dA]? = some (.cells #[.int .i64 fA, .int .i64 jA, .int .i64 kA, .int .i64 gA, .int .i64 hA, .int .i64 lA, .int .i64 mA, .int .i64 nA, .int .i64 oA, .bool qA] 23 (0, 0))) ∧ Aside0 (wc.heap[cA]? = some (.cells #[.int .i64 0, .int .i64 0, .int .i64 0, .int .i64 0] 37 (0, 0))) ∧ Aside0 (Below w.heap.size w wc))
          case first =>
           have H := HC45.out
           clear HC45
           by_cases c46 : (wrap64 ((wrap64 (10 * fA)) + gA)) = 12
           ·rw [if_pos c46] at H
            have EC : ((wrap64 ((wrap64 (10 * fA)) + gA)) == 12) = true := beq_iff_eq.mpr c46
            have VE : ((wrap64 ((wrap64 (10 * fA)) + gA)) != 12) = false := bne_eq_false_iff_eq.mpr c46
            clear c46
            (first | rw [EC] | (simp only [i64_w, i32_w]; rw [EC]) | skip)
            have H' := Aside0.mk H
            clear H
            go_wp2
            go_meet
            case rel => exact ⟨_, (((wrap64 ((wrap64 (10 * fA)) + gA)) == 12)), q3_5, H', ⟨by have := HJ2.out; have := HJ26.out; have := HJ35.out; first | omega | exact Nat.le_refl _⟩, ⟨q3_1⟩, ⟨q3_2⟩, ⟨q3_0⟩⟩
           ·rw [if_neg c46] at H
            have EC : ((wrap64 ((wrap64 (10 * fA)) + gA)) == 12) = false := beq_eq_false_iff_ne.mpr c46
            have VE : ((wrap64 ((wrap64 (10 * fA)) + gA)) != 12) = true := bne_iff_ne.mpr c46
            (first | rw [EC] | (simp only [i64_w, i32_w]; rw [EC]) | skip)
            have H' := Aside0.mk H
            clear H
            go_wp2
            go_meet
            case rel => exact ⟨_, (((wrap64 ((wrap64 (10 * fA)) + gA)) == 22)), q3_5, H', ⟨by have := HJ2.out; have := HJ26.out; have := HJ35.out; first | omega | exact Nat.le_refl _⟩, ⟨q3_1⟩, ⟨q3_2⟩, ⟨q3_0⟩⟩
          case rest =>
           clear HC45
           (try clear c1); (try clear c2); (try clear p2); (try clear c3); (try clear c4); (try clear c5); (try clear c6); (try clear p6); (try clear c7); (try clear c10); (try clear c11); (try clear DA); (try clear c12); (try clear c14); (try clear LD); (try clear c15); (try clear c17); (try clear MD); (try clear c18); (try clear c20); (try clear c22); (try clear c24); (try clear c25); (try clear c28); (try clear c30); (try clear EA); (try clear OD); (try clear c31); (try clear c34); (try clear c37); (try clear DC); (try clear eE); (try clear c38); (try clear c41); (try clear c46); (try clear EC); (try clear VE); (try clear FA); (try clear GA); (try clear IA); (try clear JA); (try clear KA); (try clear LA); (try clear MA); (try clear NA); (try clear OA); (try clear PA); (try clear aB); (try clear bB); (try clear cB); (try clear dB); (try clear eB); (try clear fB); (try clear gB); (try clear hB); (try clear iB); (try clear jB); (try clear uB); (try clear vB); (try clear wB); (try clear xB); (try clear yB); (try clear zB); (try clear AB); (try clear BB); (try clear CB); (try clear DB); (try clear PB); (try clear QB); (try clear RB); (try clear SB); (try clear TB); (try clear UB); (try clear VB); (try clear WB); (try clear XB); (try clear YB); (try clear jC); (try clear kC); (try clear lC); (try clear mC); (try clear nC); (try clear oC); (try clear pC); (try clear qC); (try clear rC); (try clear sC); (try clear ZC); (try clear aD); (try clear bD); (try clear cD); (try clear hD); (try clear iD); (try clear jD); (try clear kD); (try clear lD); (try clear mD); (try clear nD); (try clear oD); (try clear pD); (try clear qD); (try clear PD); (try clear QD); (try clear RD); (try clear SD); (try clear nE); (try clear oE); (try clear pE); (try clear qE); (try clear rE); (try clear sE); (try clear tE); (try clear uE); (try clear vE); (try clear wE); (try clear HE); (try clear IE); (try clear JE); (try clear KE); (try clear FC); (try clear GC); (try clear HC); (try clear IC); (try clear JC); (try clear KC); (try clear LC); (try clear MC); (try clear NC); (try clear OC); (try clear QA); (try clear RA); (try clear SA); (try clear TA); (try clear UA); (try clear VA); (try clear WA); (try clear XA); (try clear YA); (try clear ZA); (try clear kB); (try clear lB); (try clear mB); (try clear nB); (try clear oB); (try clear pB); (try clear qB); (try clear rB); (try clear sB); (try clear tB); (try clear EB); (try clear FB); (try clear GB); (try clear IB); (try clear JB); (try clear KB); (try clear LB); (try clear MB); (try clear NB); (try clear OB); (try clear ZB); (try clear aC); (try clear bC); (try clear cC); (try clear dC); (try clear eC); (try clear fC); (try clear gC); (try clear hC); (try clear iC); (try clear tC); (try clear uC); (try clear vC); (try clear wC); (try clear xC); (try clear yC); (try clear zC); (try clear AC); (try clear BC); (try clear CC); (try clear dD); (try clear eD); (try clear fD); (try clear gD); (try clear rD); (try clear sD); (try clear tD); (try clear uD); (try clear vD); (try clear wD); (try clear xD); (try clear yD); (try clear zD); (try clear AD); (try clear TD); (try clear UD); (try clear VD); (try clear WD); (try clear xE); (try clear yE); (try clear zE); (try clear AE); (try clear BE); (try clear CE); (try clear DE); (try clear EE); (try clear FE); (try clear GE); (try clear LE); (try clear ME); (try clear NE); (try clear OE); (try clear PC); (try clear QC); (try clear RC); (try clear SC); (try clear TC); (try clear UC); (try clear VC); (try clear WC); (try clear XC); (try clear YC); (try clear p2); (try clear p6)
           obtain ⟨kq, DD, rfl, HA, HJ44, aA, eA, HB⟩ := hcut
           cases kq with
           | zero => exact absurd HA.out (by simp [spec_RiAct.j3])
           | succ kj44 =>
            have H := HA.out
            clear HA
            simp only [spec_RiAct.j3] at H
            by_cases c47 : DD = true
            ·subst c47
             rw [if_pos rfl] at H
             replace H := Option.bind_eq_some_iff.mp H
             obtain ⟨⟨gE, PE, YE, hF, LG⟩, A480, H⟩ := H
             (try dsimp only at H)
             have A48 := Aside0.mk A480
             clear A480
             simp only [Option.some.injEq, Prod.mk.injEq] at H
             obtain ⟨rfl, rfl, rfl, rfl, rfl⟩ := H
             have nH := bA.out
             have oH := iA.out
             have uF : wc.cell? ⟨dA, 0, none⟩ = some (.int .i64 fA) := (blk_cell aA.out 0).trans rfl
             have vF : wc.cell? ⟨dA, 1, none⟩ = some (.int .i64 jA) := (blk_cell aA.out 1).trans rfl
             have wF : wc.cell? ⟨dA, 2, none⟩ = some (.int .i64 kA) := (blk_cell aA.out 2).trans rfl
             have xF : wc.cell? ⟨dA, 3, none⟩ = some (.int .i64 gA) := (blk_cell aA.out 3).trans rfl
             have yF : wc.cell? ⟨dA, 4, none⟩ = some (.int .i64 hA) := (blk_cell aA.out 4).trans rfl
             have zF : wc.cell? ⟨dA, 5, none⟩ = some (.int .i64 lA) := (blk_cell aA.out 5).trans rfl
             have AF : wc.cell? ⟨dA, 6, none⟩ = some (.int .i64 mA) := (blk_cell aA.out 6).trans rfl
             have BF : wc.cell? ⟨dA, 7, none⟩ = some (.int .i64 nA) := (blk_cell aA.out 7).trans rfl
             have CF : wc.cell? ⟨dA, 8, none⟩ = some (.int .i64 oA) := (blk_cell aA.out 8).trans rfl
             have DF : wc.cell? ⟨dA, 9, none⟩ = some (.bool qA) := (blk_cell aA.out 9).trans rfl
             have EF := blk_frozen aA.out 0
             have FF := blk_frozen aA.out 1
             have GF := blk_frozen aA.out 2
             have HF := blk_frozen aA.out 3
             have IF := blk_frozen aA.out 4
             have JF := blk_frozen aA.out 5
             have KF := blk_frozen aA.out 6
             have LF := blk_frozen aA.out 7
             have MF := blk_frozen aA.out 8
             have NF := blk_frozen aA.out 9
             go_wp2_with (first | ((with_reducible refine gate_callee (f := 59) rfl ?_); refine goesL_ (some 70) rfl rfl Try.func59 q3_6 rfl #[.int .i64 (wrap64 (fA - 1)), .int .i64 hA, .int .i64 (wrap64 (hA + 1))] rfl q3_3 ?_; (with_reducible refine (spec_l03Cas.calls (wrap64 (fA - 1)) hA (wrap64 (hA + 1)) gE PE YE hF LG _ A48.out).mono ?_); rintro e OF ⟨rfl, hb⟩; refine ⟨_, rfl, ?_⟩; have AA := Aside0.mk (blk_below (g := dA) (o := .cells #[.int .i64 fA, .int .i64 jA, .int .i64 kA, .int .i64 gA, .int .i64 hA, .int .i64 lA, .int .i64 mA, .int .i64 nA, .int .i64 oA, .bool qA] 23 (0, 0)) q3_1 hb); have BA := Aside0.mk (blk_below (g := cA) (o := .cells #[.int .i64 0, .int .i64 0, .int .i64 0, .int .i64 0] 37 (0, 0)) q3_2 hb); have CA := Aside0.mk (below_step q3_0 hb); clear aA eA HB; have aA := AA; have eA := BA; have HB := CA; clear AA BA CA; (try clear hb); (try clear hb2); (try clear hk); (try clear hi); have PF : OF.cell? ⟨cA, 0, none⟩ = some (.int .i64 0) := (blk_cell eA.out 0).trans rfl; have QF : OF.cell? ⟨cA, 1, none⟩ = some (.int .i64 0) := (blk_cell eA.out 1).trans rfl; have RF : OF.cell? ⟨cA, 2, none⟩ = some (.int .i64 0) := (blk_cell eA.out 2).trans rfl; have SF : OF.cell? ⟨cA, 3, none⟩ = some (.int .i64 0) := (blk_cell eA.out 3).trans rfl; have TF := blk_frozen eA.out 0; have UF := blk_frozen eA.out 1; have VF := blk_frozen eA.out 2; have WF := blk_frozen eA.out 3))
             refine bodyPost_ret (results_ct rfl _ _ cA 37 #[.int .i64 gE, .int .i64 PE, .int .i64 YE, .int .i64 hF] (0, 0) _ rfl (by (with_reducible repeat (first | refine blk_drewN ?_ _ | refine blk_drew ?_ | refine blk_alloc ?_ _)); refine blk_put (cs := #[.int .i64 gE, .int .i64 PE, .int .i64 YE, .int .i64 0]) ?_ 3 _ rfl; (with_reducible repeat (first | refine blk_drewN ?_ _ | refine blk_drew ?_ | refine blk_alloc ?_ _)); refine blk_put (cs := #[.int .i64 gE, .int .i64 PE, .int .i64 0, .int .i64 0]) ?_ 2 _ rfl; (with_reducible repeat (first | refine blk_drewN ?_ _ | refine blk_drew ?_ | refine blk_alloc ?_ _)); refine blk_put (cs := #[.int .i64 gE, .int .i64 0, .int .i64 0, .int .i64 0]) ?_ 1 _ rfl; (with_reducible repeat (first | refine blk_drewN ?_ _ | refine blk_drew ?_ | refine blk_alloc ?_ _)); refine blk_put (cs := #[.int .i64 0, .int .i64 0, .int .i64 0, .int .i64 0]) ?_ 0 _ rfl; (with_reducible repeat (first | refine blk_drewN ?_ _ | refine blk_drew ?_ | refine blk_alloc ?_ _)); exact eA.out) Try.underlying37 rfl q3_6) rfl ?_
             exact ⟨q3_4, q3_0⟩
            ·replace c47 := Bool.eq_false_iff.mpr c47
             subst c47
             rw [if_neg (show ¬ (false = true) by decide)] at H
             by_cases c53 : (wrap64 ((wrap64 (10 * fA)) + gA)) = 13
             ·rw [if_pos c53] at H
              have iF : ((wrap64 ((wrap64 (10 * fA)) + gA)) == 13) = true := beq_iff_eq.mpr c53
              have jF : ((wrap64 ((wrap64 (10 * fA)) + gA)) != 13) = false := bne_eq_false_iff_eq.mpr c53
              clear c53
              replace H := Option.bind_eq_some_iff.mp H
              obtain ⟨YD, A540, H⟩ := H
              (try dsimp only at H)
              have A54 := Aside0.mk A540
              clear A540
              replace H := Option.bind_eq_some_iff.mp H
              obtain ⟨⟨hE, QE, ZE, kF, MG⟩, A550, H⟩ := H
              (try dsimp only at H)
              have A55 := Aside0.mk A550
              clear A550
              simp only [Option.some.injEq, Prod.mk.injEq] at H
              obtain ⟨rfl, rfl, rfl, rfl, rfl⟩ := H
              try go_wp2
              have AA := Aside0.mk (blk_drew aA.out)
              have BA := Aside0.mk (blk_drew eA.out)
              have CA := Aside0.mk (below_drew1 HB.out)
              clear aA eA HB
              have aA := AA
              have eA := BA
              have HB := CA
              clear AA BA CA
              refine start_ (n := 12) (S := fun w' => w'.cell? ⟨dA, 0, none⟩ = some (.int .i64 fA) ∧ w'.cell? ⟨dA, 1, none⟩ = some (.int .i64 jA) ∧ w'.cell? ⟨dA, 2, none⟩ = some (.int .i64 kA) ∧ w'.cell? ⟨dA, 3, none⟩ = some (.int .i64 gA) ∧ w'.cell? ⟨dA, 4, none⟩ = some (.int .i64 hA) ∧ w'.cell? ⟨dA, 5, none⟩ = some (.int .i64 lA) ∧ w'.cell? ⟨dA, 6, none⟩ = some (.int .i64 mA) ∧ w'.cell? ⟨dA, 7, none⟩ = some (.int .i64 nA) ∧ w'.cell? ⟨dA, 8, none⟩ = some (.int .i64 oA) ∧ w'.cell? ⟨dA, 9, none⟩ = some (.bool qA)) (ds := []) #[F,F,F,F,F,F,F,F,F,F,F,F] q3_6 rfl rfl ⟨(blk_cell aA.out 0).trans rfl, (blk_cell aA.out 1).trans rfl, (blk_cell aA.out 2).trans rfl, (blk_cell aA.out 3).trans rfl, (blk_cell aA.out 4).trans rfl, (blk_cell aA.out 5).trans rfl, (blk_cell aA.out 6).trans rfl, (blk_cell aA.out 7).trans rfl, (blk_cell aA.out 8).trans rfl, (blk_cell aA.out 9).trans rfl⟩ (fun hHeld => ?_); refine with_tabW spec_RiAct.tab15 spec_RiAct.bits15 (fun HT_ HW_ => ?_)
              generalize wc.drew = RH at aA eA HB hHeld ⊢
              refine q3_p 0 75 #[T,F,F,F,F,F,F,F,F,F,F,F] ?_
              refine q3_p 1 76 #[T,T,F,F,F,F,F,F,F,F,F,F] ?_
              refine q3_p 5 80 #[T,T,F,F,F,T,F,F,F,F,F,F] ?_
              refine take_ (i := 2) (N := some 77) (v := ?_) (a' := ?_) #[T,T,T,F,F,T,F,F,F,F,F,F] rfl rfl (take_ofW HT_.out HW_.out q3_6) (fun _ _ _ h => h) (Or.inl ⟨by rfl, ?_⟩) hHeld ?_ ?_
              rotate_left
              ·rintro w' ⟨s0, s1, s2, s3, s4, s5, s6, s7, s8, s9⟩
               go_simp
               with_reducible rfl
              rotate_left
              ·simp only [Act.put, List.setIfInBounds_toArray, List.set_cons_zero, List.set_cons_succ, i64_w, i32_w]
               rfl
              refine take_ (i := 6) (N := some 81) (v := ?_) (a' := ?_) #[T,T,T,F,F,T,T,F,F,F,F,F] rfl rfl (take_ofW HT_.out HW_.out q3_6) (fun _ _ _ h => h) (Or.inl ⟨by rfl, ?_⟩) hHeld ?_ ?_
              rotate_left
              ·rintro w' ⟨s0, s1, s2, s3, s4, s5, s6, s7, s8, s9⟩
               go_simp
               with_reducible rfl
              rotate_left
              ·simp only [Act.put, List.setIfInBounds_toArray, List.set_cons_zero, List.set_cons_succ, i64_w, i32_w]
               rfl
              refine one_ (i := 3) (N := some 78) #[T,T,T,T,F,T,T,F,F,F,F,F] rfl rfl (one_of HT_.out q3_6) (by decide) (fun K hK => ?_)
              refine goes_ Try.func76 q3_6 rfl #[.int .i64 a0, .int .i64 hA] (by rfl) rfl rfl q3_3 ?_
              with_reducible refine (spec_l04Seq.calls a0 hA YD _ A54.out).mono ?_
              rintro e w' ⟨rfl, ⟨nd, rfl⟩⟩
              refine ⟨_, rfl, ?_⟩
              refine hK.out _ _ ⟨(blk_cell aA.out 0).trans rfl, (blk_cell aA.out 1).trans rfl, (blk_cell aA.out 2).trans rfl, (blk_cell aA.out 3).trans rfl, (blk_cell aA.out 4).trans rfl, (blk_cell aA.out 5).trans rfl, (blk_cell aA.out 6).trans rfl, (blk_cell aA.out 7).trans rfl, (blk_cell aA.out 8).trans rfl, (blk_cell aA.out 9).trans rfl⟩ (fun hHeld => ?_)
              clear hK K
              refine norm_ (a' := ?_) ?_ ?_
              rotate_left
              ·show Act.put _ (some 78) _ = _
               simp only [Act.put, List.setIfInBounds_toArray, List.set_cons_zero, List.set_cons_succ, i64_w, i32_w]
               rfl
              refine q3_p 4 79 #[T,T,T,T,T,T,T,F,F,F,F,F] ?_
              refine one_ (i := 7) (N := some 82) #[T,T,T,T,T,T,T,T,F,F,F,F] rfl rfl (one_of HT_.out q3_6) (by decide) (fun K hK => ?_)
              refine goes_ Try.func56 q3_6 rfl #[.int .i64 (wrap64 (YD + 1)), .int .i64 jA] (by rfl) rfl rfl q3_3 ?_
              with_reducible refine (spec_l03Store.calls (wrap64 (YD + 1)) jA hE QE ZE kF MG _ A55.out).mono ?_
              rintro e XF ⟨rfl, hb⟩
              refine ⟨_, rfl, ?_⟩
              have AA := Aside0.mk (blk_below (g := dA) (o := .cells #[.int .i64 fA, .int .i64 jA, .int .i64 kA, .int .i64 gA, .int .i64 hA, .int .i64 lA, .int .i64 mA, .int .i64 nA, .int .i64 oA, .bool qA] 23 (0, 0)) q3_1 hb)
              have BA := Aside0.mk (blk_below (g := cA) (o := .cells #[.int .i64 0, .int .i64 0, .int .i64 0, .int .i64 0] 37 (0, 0)) q3_2 hb)
              have CA := Aside0.mk (below_step q3_0 hb)
              clear aA eA HB
              have aA := AA
              have eA := BA
              have HB := CA
              clear AA BA CA
              (try clear hb)
              (try clear hb2)
              (try clear hk)
              (try clear hi)
              refine hK.out _ _ ⟨(blk_cell aA.out 0).trans rfl, (blk_cell aA.out 1).trans rfl, (blk_cell aA.out 2).trans rfl, (blk_cell aA.out 3).trans rfl, (blk_cell aA.out 4).trans rfl, (blk_cell aA.out 5).trans rfl, (blk_cell aA.out 6).trans rfl, (blk_cell aA.out 7).trans rfl, (blk_cell aA.out 8).trans rfl, (blk_cell aA.out 9).trans rfl⟩ (fun hHeld => ?_)
              clear hK K
              refine norm_ (a' := ?_) ?_ ?_
              rotate_left
              ·show Act.put _ (some 82) _ = _
               simp only [Act.put, List.setIfInBounds_toArray, List.set_cons_zero, List.set_cons_succ, i64_w, i32_w]
               rfl
              refine q3_p 8 83 #[T,T,T,T,T,T,T,T,T,F,F,F] ?_
              refine q3_p 9 84 #[T,T,T,T,T,T,T,T,T,T,F,F] ?_
              refine one_ (i := 10) (N := none) #[T,T,T,T,T,T,T,T,T,T,T,F] rfl rfl (one_of HT_.out q3_6) (by decide) (fun K hK => ?_)
              have FH : XF.cell? ⟨cA, 0, none⟩ = some (.int .i64 0) := (blk_cell eA.out 0).trans rfl
              have pH := blk_frozen eA.out 0
              have YF := bA.out
              have ZF := iA.out
              have GH : XF.cell? ⟨cA, 1, none⟩ = some (.int .i64 0) := (blk_cell eA.out 1).trans rfl
              have qH := blk_frozen eA.out 1
              have HH : XF.cell? ⟨cA, 2, none⟩ = some (.int .i64 0) := (blk_cell eA.out 2).trans rfl
              have rH := blk_frozen eA.out 2
              have IH : XF.cell? ⟨cA, 3, none⟩ = some (.int .i64 0) := (blk_cell eA.out 3).trans rfl
              have sH := blk_frozen eA.out 3
              refine skip_ (w1 := ?_) (by rfl) rfl ?_ ?_
              rotate_left
              ·go_simp
               rfl
              refine hK.out _ _ ⟨((cell_far (p := ⟨cA, _, none⟩) bA.out _).trans (((cell_far (p := ⟨cA, _, none⟩) bA.out _).trans (((cell_far (p := ⟨cA, _, none⟩) bA.out _).trans (((cell_far (p := ⟨cA, _, none⟩) bA.out _).trans (hHeld.1)))))))), ((cell_far (p := ⟨cA, _, none⟩) bA.out _).trans (((cell_far (p := ⟨cA, _, none⟩) bA.out _).trans (((cell_far (p := ⟨cA, _, none⟩) bA.out _).trans (((cell_far (p := ⟨cA, _, none⟩) bA.out _).trans (hHeld.2.1)))))))), ((cell_far (p := ⟨cA, _, none⟩) bA.out _).trans (((cell_far (p := ⟨cA, _, none⟩) bA.out _).trans (((cell_far (p := ⟨cA, _, none⟩) bA.out _).trans (((cell_far (p := ⟨cA, _, none⟩) bA.out _).trans (hHeld.2.2.1)))))))), ((cell_far (p := ⟨cA, _, none⟩) bA.out _).trans (((cell_far (p := ⟨cA, _, none⟩) bA.out _).trans (((cell_far (p := ⟨cA, _, none⟩) bA.out _).trans (((cell_far (p := ⟨cA, _, none⟩) bA.out _).trans (hHeld.2.2.2.1)))))))), ((cell_far (p := ⟨cA, _, none⟩) bA.out _).trans (((cell_far (p := ⟨cA, _, none⟩) bA.out _).trans (((cell_far (p := ⟨cA, _, none⟩) bA.out _).trans (((cell_far (p := ⟨cA, _, none⟩) bA.out _).trans (hHeld.2.2.2.2.1)))))))), ((cell_far (p := ⟨cA, _, none⟩) bA.out _).trans (((cell_far (p := ⟨cA, _, none⟩) bA.out _).trans (((cell_far (p := ⟨cA, _, none⟩) bA.out _).trans (((cell_far (p := ⟨cA, _, none⟩) bA.out _).trans (hHeld.2.2.2.2.2.1)))))))), ((cell_far (p := ⟨cA, _, none⟩) bA.out _).trans (((cell_far (p := ⟨cA, _, none⟩) bA.out _).trans (((cell_far (p := ⟨cA, _, none⟩) bA.out _).trans (((cell_far (p := ⟨cA, _, none⟩) bA.out _).trans (hHeld.2.2.2.2.2.2.1)))))))), ((cell_far (p := ⟨cA, _, none⟩) bA.out _).trans (((cell_far (p := ⟨cA, _, none⟩) bA.out _).trans (((cell_far (p := ⟨cA, _, none⟩) bA.out _).trans (((cell_far (p := ⟨cA, _, none⟩) bA.out _).trans (hHeld.2.2.2.2.2.2.2.1)))))))), ((cell_far (p := ⟨cA, _, none⟩) bA.out _).trans (((cell_far (p := ⟨cA, _, none⟩) bA.out _).trans (((cell_far (p := ⟨cA, _, none⟩) bA.out _).trans (((cell_far (p := ⟨cA, _, none⟩) bA.out _).trans (hHeld.2.2.2.2.2.2.2.2.1)))))))), ((cell_far (p := ⟨cA, _, none⟩) bA.out _).trans (((cell_far (p := ⟨cA, _, none⟩) bA.out _).trans (((cell_far (p := ⟨cA, _, none⟩) bA.out _).trans (((cell_far (p := ⟨cA, _, none⟩) bA.out _).trans (hHeld.2.2.2.2.2.2.2.2.2))))))))⟩ (fun hHeld => ?_)
              clear hK K
              refine q3_p 11 5 #[T,T,T,T,T,T,T,T,T,T,T,T] ?_
              refine done_ (done_of HT_.out q3_6) ?_
              try go_wp2
              refine bodyPost_ret (results_ct rfl _ _ cA 37 #[.int .i64 hE, .int .i64 QE, .int .i64 ZE, .int .i64 kF] (0, 0) _ rfl (by (with_reducible repeat (first | refine blk_drewN ?_ _ | refine blk_drew ?_ | refine blk_alloc ?_ _)); refine blk_put (cs := #[.int .i64 hE, .int .i64 QE, .int .i64 ZE, .int .i64 0]) ?_ 3 _ rfl; (with_reducible repeat (first | refine blk_drewN ?_ _ | refine blk_drew ?_ | refine blk_alloc ?_ _)); refine blk_put (cs := #[.int .i64 hE, .int .i64 QE, .int .i64 0, .int .i64 0]) ?_ 2 _ rfl; (with_reducible repeat (first | refine blk_drewN ?_ _ | refine blk_drew ?_ | refine blk_alloc ?_ _)); refine blk_put (cs := #[.int .i64 hE, .int .i64 0, .int .i64 0, .int .i64 0]) ?_ 1 _ rfl; (with_reducible repeat (first | refine blk_drewN ?_ _ | refine blk_drew ?_ | refine blk_alloc ?_ _)); refine blk_put (cs := #[.int .i64 0, .int .i64 0, .int .i64 0, .int .i64 0]) ?_ 0 _ rfl; (with_reducible repeat (first | refine blk_drewN ?_ _ | refine blk_drew ?_ | refine blk_alloc ?_ _)); exact eA.out) Try.underlying37 rfl q3_6) rfl ?_
              exact ⟨q3_4, q3_0⟩
             ·rw [if_neg c53] at H
              have iF : ((wrap64 ((wrap64 (10 * fA)) + gA)) == 13) = false := beq_eq_false_iff_ne.mpr c53
              have jF : ((wrap64 ((wrap64 (10 * fA)) + gA)) != 13) = true := bne_iff_ne.mpr c53
              by_cases c62 : (wrap64 ((wrap64 (10 * fA)) + gA)) = 23
              ·rw [if_pos c62] at H
               have lF : ((wrap64 ((wrap64 (10 * fA)) + gA)) == 23) = true := beq_iff_eq.mpr c62
               have mF : ((wrap64 ((wrap64 (10 * fA)) + gA)) != 23) = false := bne_eq_false_iff_eq.mpr c62
               clear c62
               replace H := Option.bind_eq_some_iff.mp H
               obtain ⟨ZD, A630, H⟩ := H
               (try dsimp only at H)
               have A63 := Aside0.mk A630
               clear A630
               replace H := Option.bind_eq_some_iff.mp H
               obtain ⟨⟨iE, RE, aF, nF, NG⟩, A640, H⟩ := H
               (try dsimp only at H)
               have A64 := Aside0.mk A640
               clear A640
               simp only [Option.some.injEq, Prod.mk.injEq] at H
               obtain ⟨rfl, rfl, rfl, rfl, rfl⟩ := H
               have tH := bA.out
               have uH := iA.out
               have aG : wc.cell? ⟨dA, 0, none⟩ = some (.int .i64 fA) := (blk_cell aA.out 0).trans rfl
               have bG : wc.cell? ⟨dA, 1, none⟩ = some (.int .i64 jA) := (blk_cell aA.out 1).trans rfl
               have cG : wc.cell? ⟨dA, 2, none⟩ = some (.int .i64 kA) := (blk_cell aA.out 2).trans rfl
               have dG : wc.cell? ⟨dA, 3, none⟩ = some (.int .i64 gA) := (blk_cell aA.out 3).trans rfl
               have eG : wc.cell? ⟨dA, 4, none⟩ = some (.int .i64 hA) := (blk_cell aA.out 4).trans rfl
               have fG : wc.cell? ⟨dA, 5, none⟩ = some (.int .i64 lA) := (blk_cell aA.out 5).trans rfl
               have gG : wc.cell? ⟨dA, 6, none⟩ = some (.int .i64 mA) := (blk_cell aA.out 6).trans rfl
               have hG : wc.cell? ⟨dA, 7, none⟩ = some (.int .i64 nA) := (blk_cell aA.out 7).trans rfl
               have iG : wc.cell? ⟨dA, 8, none⟩ = some (.int .i64 oA) := (blk_cell aA.out 8).trans rfl
               have jG : wc.cell? ⟨dA, 9, none⟩ = some (.bool qA) := (blk_cell aA.out 9).trans rfl
               have kG := blk_frozen aA.out 0
               have lG := blk_frozen aA.out 1
               have mG := blk_frozen aA.out 2
               have nG := blk_frozen aA.out 3
               have oG := blk_frozen aA.out 4
               have pG := blk_frozen aA.out 5
               have qG := blk_frozen aA.out 6
               have rG := blk_frozen aA.out 7
               have sG := blk_frozen aA.out 8
               have tG := blk_frozen aA.out 9
               go_wp2_with (first | ((with_reducible refine gate_callee (f := 76) rfl ?_); refine goesL_ (some 90) rfl rfl Try.func76 q3_6 rfl #[.int .i64 a0, .int .i64 hA] rfl q3_3 ?_; (with_reducible refine (spec_l04Seq.calls a0 hA ZD _ A63.out).mono ?_); rintro e w' ⟨rfl, ⟨nd, rfl⟩⟩; refine ⟨_, rfl, ?_⟩; (try (rw [drewN_self wc]; generalize hq_ : World.drewN wc _ = wc; have AA : Aside0 (wc.heap[dA]? = some (.cells #[.int .i64 fA, .int .i64 jA, .int .i64 kA, .int .i64 gA, .int .i64 hA, .int .i64 lA, .int .i64 mA, .int .i64 nA, .int .i64 oA, .bool qA] 23 (0, 0))) := ⟨by rw [← hq_]; exact q3_1⟩; have BA : Aside0 (wc.heap[cA]? = some (.cells #[.int .i64 0, .int .i64 0, .int .i64 0, .int .i64 0] 37 (0, 0))) := ⟨by rw [← hq_]; exact q3_2⟩; have CA : Aside0 (Below w.heap.size w wc) := ⟨by rw [← hq_]; exact q3_0⟩; clear aA eA HB hq_; have aA := AA; have eA := BA; have HB := CA; clear AA BA CA))) | ((with_reducible refine gate_callee (f := 53) rfl ?_); refine goesL_ (some 92) rfl rfl Try.func53 q3_6 rfl #[.int .i64 (wrap64 (ZD + 1))] rfl q3_3 ?_; (with_reducible refine (spec_l03Load.calls (wrap64 (ZD + 1)) iE RE aF nF NG _ A64.out).mono ?_); rintro e uG ⟨rfl, hb⟩; refine ⟨_, rfl, ?_⟩; have AA := Aside0.mk (blk_below (g := dA) (o := .cells #[.int .i64 fA, .int .i64 jA, .int .i64 kA, .int .i64 gA, .int .i64 hA, .int .i64 lA, .int .i64 mA, .int .i64 nA, .int .i64 oA, .bool qA] 23 (0, 0)) q3_1 hb); have BA := Aside0.mk (blk_below (g := cA) (o := .cells #[.int .i64 0, .int .i64 0, .int .i64 0, .int .i64 0] 37 (0, 0)) q3_2 hb); have CA := Aside0.mk (below_step q3_0 hb); clear aA eA HB; have aA := AA; have eA := BA; have HB := CA; clear AA BA CA; (try clear hb); (try clear hb2); (try clear hk); (try clear hi); have vG : uG.cell? ⟨cA, 0, none⟩ = some (.int .i64 0) := (blk_cell eA.out 0).trans rfl; have wG : uG.cell? ⟨cA, 1, none⟩ = some (.int .i64 0) := (blk_cell eA.out 1).trans rfl; have xG : uG.cell? ⟨cA, 2, none⟩ = some (.int .i64 0) := (blk_cell eA.out 2).trans rfl; have yG : uG.cell? ⟨cA, 3, none⟩ = some (.int .i64 0) := (blk_cell eA.out 3).trans rfl; have zG := blk_frozen eA.out 0; have AG := blk_frozen eA.out 1; have BG := blk_frozen eA.out 2; have CG := blk_frozen eA.out 3))
               refine bodyPost_ret (results_ct rfl _ _ cA 37 #[.int .i64 iE, .int .i64 RE, .int .i64 aF, .int .i64 nF] (0, 0) _ rfl (by (with_reducible repeat (first | refine blk_drewN ?_ _ | refine blk_drew ?_ | refine blk_alloc ?_ _)); refine blk_put (cs := #[.int .i64 iE, .int .i64 RE, .int .i64 aF, .int .i64 0]) ?_ 3 _ rfl; (with_reducible repeat (first | refine blk_drewN ?_ _ | refine blk_drew ?_ | refine blk_alloc ?_ _)); refine blk_put (cs := #[.int .i64 iE, .int .i64 RE, .int .i64 0, .int .i64 0]) ?_ 2 _ rfl; (with_reducible repeat (first | refine blk_drewN ?_ _ | refine blk_drew ?_ | refine blk_alloc ?_ _)); refine blk_put (cs := #[.int .i64 iE, .int .i64 0, .int .i64 0, .int .i64 0]) ?_ 1 _ rfl; (with_reducible repeat (first | refine blk_drewN ?_ _ | refine blk_drew ?_ | refine blk_alloc ?_ _)); refine blk_put (cs := #[.int .i64 0, .int .i64 0, .int .i64 0, .int .i64 0]) ?_ 0 _ rfl; (with_reducible repeat (first | refine blk_drewN ?_ _ | refine blk_drew ?_ | refine blk_alloc ?_ _)); exact eA.out) Try.underlying37 rfl q3_6) rfl ?_
               exact ⟨q3_4, q3_0⟩
              ·rw [if_neg c62] at H
               have lF : ((wrap64 ((wrap64 (10 * fA)) + gA)) == 23) = false := beq_eq_false_iff_ne.mpr c62
               have mF : ((wrap64 ((wrap64 (10 * fA)) + gA)) != 23) = true := bne_iff_ne.mpr c62
               by_cases c69 : (wrap64 ((wrap64 (10 * fA)) + gA)) = 14
               ·rw [if_pos c69] at H
                have oF : ((wrap64 ((wrap64 (10 * fA)) + gA)) == 14) = true := beq_iff_eq.mpr c69
                have pF : ((wrap64 ((wrap64 (10 * fA)) + gA)) != 14) = false := bne_eq_false_iff_eq.mpr c69
                clear c69
                replace H := Option.bind_eq_some_iff.mp H
                obtain ⟨aE, A700, H⟩ := H
                (try dsimp only at H)
                have A70 := Aside0.mk A700
                clear A700
                replace H := Option.bind_eq_some_iff.mp H
                obtain ⟨⟨jE, SE, bF, qF, OG⟩, A710, H⟩ := H
                (try dsimp only at H)
                have A71 := Aside0.mk A710
                clear A710
                simp only [Option.some.injEq, Prod.mk.injEq] at H
                obtain ⟨rfl, rfl, rfl, rfl, rfl⟩ := H
                try go_wp2
                have AA := Aside0.mk (blk_drew aA.out)
                have BA := Aside0.mk (blk_drew eA.out)
                have CA := Aside0.mk (below_drew1 HB.out)
                clear aA eA HB
                have aA := AA
                have eA := BA
                have HB := CA
                clear AA BA CA
                refine start_ (n := 12) (S := fun w' => w'.cell? ⟨dA, 0, none⟩ = some (.int .i64 fA) ∧ w'.cell? ⟨dA, 1, none⟩ = some (.int .i64 jA) ∧ w'.cell? ⟨dA, 2, none⟩ = some (.int .i64 kA) ∧ w'.cell? ⟨dA, 3, none⟩ = some (.int .i64 gA) ∧ w'.cell? ⟨dA, 4, none⟩ = some (.int .i64 hA) ∧ w'.cell? ⟨dA, 5, none⟩ = some (.int .i64 lA) ∧ w'.cell? ⟨dA, 6, none⟩ = some (.int .i64 mA) ∧ w'.cell? ⟨dA, 7, none⟩ = some (.int .i64 nA) ∧ w'.cell? ⟨dA, 8, none⟩ = some (.int .i64 oA) ∧ w'.cell? ⟨dA, 9, none⟩ = some (.bool qA)) (ds := []) #[F,F,F,F,F,F,F,F,F,F,F,F] q3_6 rfl rfl ⟨(blk_cell aA.out 0).trans rfl, (blk_cell aA.out 1).trans rfl, (blk_cell aA.out 2).trans rfl, (blk_cell aA.out 3).trans rfl, (blk_cell aA.out 4).trans rfl, (blk_cell aA.out 5).trans rfl, (blk_cell aA.out 6).trans rfl, (blk_cell aA.out 7).trans rfl, (blk_cell aA.out 8).trans rfl, (blk_cell aA.out 9).trans rfl⟩ (fun hHeld => ?_); refine with_tabW spec_RiAct.tab19 spec_RiAct.bits19 (fun HT_ HW_ => ?_)
                generalize wc.drew = SH at aA eA HB hHeld ⊢
                refine q3_p 0 97 #[T,F,F,F,F,F,F,F,F,F,F,F] ?_
                refine q3_p 1 98 #[T,T,F,F,F,F,F,F,F,F,F,F] ?_
                refine q3_p 4 101 #[T,T,F,F,T,F,F,F,F,F,F,F] ?_
                refine take_ (i := 2) (N := some 99) (v := ?_) (a' := ?_) #[T,T,T,F,T,F,F,F,F,F,F,F] rfl rfl (take_ofW HT_.out HW_.out q3_6) (fun _ _ _ h => h) (Or.inl ⟨by rfl, ?_⟩) hHeld ?_ ?_
                rotate_left
                ·rintro w' ⟨s0, s1, s2, s3, s4, s5, s6, s7, s8, s9⟩
                 go_simp
                 with_reducible rfl
                rotate_left
                ·simp only [Act.put, List.setIfInBounds_toArray, List.set_cons_zero, List.set_cons_succ, i64_w, i32_w]
                 rfl
                refine take_ (i := 5) (N := some 102) (v := ?_) (a' := ?_) #[T,T,T,F,T,T,F,F,F,F,F,F] rfl rfl (take_ofW HT_.out HW_.out q3_6) (fun _ _ _ h => h) (Or.inl ⟨by rfl, ?_⟩) hHeld ?_ ?_
                rotate_left
                ·rintro w' ⟨s0, s1, s2, s3, s4, s5, s6, s7, s8, s9⟩
                 go_simp
                 with_reducible rfl
                rotate_left
                ·simp only [Act.put, List.setIfInBounds_toArray, List.set_cons_zero, List.set_cons_succ, i64_w, i32_w]
                 rfl
                refine q3_p 6 103 #[T,T,T,F,T,T,T,F,F,F,F,F] ?_
                refine one_ (i := 3) (N := some 100) #[T,T,T,T,T,T,T,F,F,F,F,F] rfl rfl (one_of HT_.out q3_6) (by decide) (fun K hK => ?_)
                refine goes_ Try.func76 q3_6 rfl #[.int .i64 a0, .int .i64 hA] (by rfl) rfl rfl q3_3 ?_
                with_reducible refine (spec_l04Seq.calls a0 hA aE _ A70.out).mono ?_
                rintro e w' ⟨rfl, ⟨nd, rfl⟩⟩
                refine ⟨_, rfl, ?_⟩
                refine hK.out _ _ ⟨(blk_cell aA.out 0).trans rfl, (blk_cell aA.out 1).trans rfl, (blk_cell aA.out 2).trans rfl, (blk_cell aA.out 3).trans rfl, (blk_cell aA.out 4).trans rfl, (blk_cell aA.out 5).trans rfl, (blk_cell aA.out 6).trans rfl, (blk_cell aA.out 7).trans rfl, (blk_cell aA.out 8).trans rfl, (blk_cell aA.out 9).trans rfl⟩ (fun hHeld => ?_)
                clear hK K
                refine norm_ (a' := ?_) ?_ ?_
                rotate_left
                ·show Act.put _ (some 100) _ = _
                 simp only [Act.put, List.setIfInBounds_toArray, List.set_cons_zero, List.set_cons_succ, i64_w, i32_w]
                 rfl
                refine one_ (i := 7) (N := some 104) #[T,T,T,T,T,T,T,T,F,F,F,F] rfl rfl (one_of HT_.out q3_6) (by decide) (fun K hK => ?_)
                refine goes_ Try.func56 q3_6 rfl #[.int .i64 aE, .int .i64 (wrap64 (hA + 1))] (by rfl) rfl rfl q3_3 ?_
                with_reducible refine (spec_l03Store.calls aE (wrap64 (hA + 1)) jE SE bF qF OG _ A71.out).mono ?_
                rintro e DG ⟨rfl, hb⟩
                refine ⟨_, rfl, ?_⟩
                have AA := Aside0.mk (blk_below (g := dA) (o := .cells #[.int .i64 fA, .int .i64 jA, .int .i64 kA, .int .i64 gA, .int .i64 hA, .int .i64 lA, .int .i64 mA, .int .i64 nA, .int .i64 oA, .bool qA] 23 (0, 0)) q3_1 hb)
                have BA := Aside0.mk (blk_below (g := cA) (o := .cells #[.int .i64 0, .int .i64 0, .int .i64 0, .int .i64 0] 37 (0, 0)) q3_2 hb)
                have CA := Aside0.mk (below_step q3_0 hb)
                clear aA eA HB
                have aA := AA
                have eA := BA
                have HB := CA
                clear AA BA CA
                (try clear hb)
                (try clear hb2)
                (try clear hk)
                (try clear hi)
                refine hK.out _ _ ⟨(blk_cell aA.out 0).trans rfl, (blk_cell aA.out 1).trans rfl, (blk_cell aA.out 2).trans rfl, (blk_cell aA.out 3).trans rfl, (blk_cell aA.out 4).trans rfl, (blk_cell aA.out 5).trans rfl, (blk_cell aA.out 6).trans rfl, (blk_cell aA.out 7).trans rfl, (blk_cell aA.out 8).trans rfl, (blk_cell aA.out 9).trans rfl⟩ (fun hHeld => ?_)
                clear hK K
                refine norm_ (a' := ?_) ?_ ?_
                rotate_left
                ·show Act.put _ (some 104) _ = _
                 simp only [Act.put, List.setIfInBounds_toArray, List.set_cons_zero, List.set_cons_succ, i64_w, i32_w]
                 rfl
                refine q3_p 8 105 #[T,T,T,T,T,T,T,T,T,F,F,F] ?_
                refine q3_p 9 106 #[T,T,T,T,T,T,T,T,T,T,F,F] ?_
                refine one_ (i := 10) (N := none) #[T,T,T,T,T,T,T,T,T,T,T,F] rfl rfl (one_of HT_.out q3_6) (by decide) (fun K hK => ?_)
                have JH : DG.cell? ⟨cA, 0, none⟩ = some (.int .i64 0) := (blk_cell eA.out 0).trans rfl
                have vH := blk_frozen eA.out 0
                have EG := bA.out
                have FG := iA.out
                have KH : DG.cell? ⟨cA, 1, none⟩ = some (.int .i64 0) := (blk_cell eA.out 1).trans rfl
                have wH := blk_frozen eA.out 1
                have LH : DG.cell? ⟨cA, 2, none⟩ = some (.int .i64 0) := (blk_cell eA.out 2).trans rfl
                have xH := blk_frozen eA.out 2
                have MH : DG.cell? ⟨cA, 3, none⟩ = some (.int .i64 0) := (blk_cell eA.out 3).trans rfl
                have yH := blk_frozen eA.out 3
                refine skip_ (w1 := ?_) (by rfl) rfl ?_ ?_
                rotate_left
                ·go_simp
                 rfl
                refine hK.out _ _ ⟨((cell_far (p := ⟨cA, _, none⟩) bA.out _).trans (((cell_far (p := ⟨cA, _, none⟩) bA.out _).trans (((cell_far (p := ⟨cA, _, none⟩) bA.out _).trans (((cell_far (p := ⟨cA, _, none⟩) bA.out _).trans (hHeld.1)))))))), ((cell_far (p := ⟨cA, _, none⟩) bA.out _).trans (((cell_far (p := ⟨cA, _, none⟩) bA.out _).trans (((cell_far (p := ⟨cA, _, none⟩) bA.out _).trans (((cell_far (p := ⟨cA, _, none⟩) bA.out _).trans (hHeld.2.1)))))))), ((cell_far (p := ⟨cA, _, none⟩) bA.out _).trans (((cell_far (p := ⟨cA, _, none⟩) bA.out _).trans (((cell_far (p := ⟨cA, _, none⟩) bA.out _).trans (((cell_far (p := ⟨cA, _, none⟩) bA.out _).trans (hHeld.2.2.1)))))))), ((cell_far (p := ⟨cA, _, none⟩) bA.out _).trans (((cell_far (p := ⟨cA, _, none⟩) bA.out _).trans (((cell_far (p := ⟨cA, _, none⟩) bA.out _).trans (((cell_far (p := ⟨cA, _, none⟩) bA.out _).trans (hHeld.2.2.2.1)))))))), ((cell_far (p := ⟨cA, _, none⟩) bA.out _).trans (((cell_far (p := ⟨cA, _, none⟩) bA.out _).trans (((cell_far (p := ⟨cA, _, none⟩) bA.out _).trans (((cell_far (p := ⟨cA, _, none⟩) bA.out _).trans (hHeld.2.2.2.2.1)))))))), ((cell_far (p := ⟨cA, _, none⟩) bA.out _).trans (((cell_far (p := ⟨cA, _, none⟩) bA.out _).trans (((cell_far (p := ⟨cA, _, none⟩) bA.out _).trans (((cell_far (p := ⟨cA, _, none⟩) bA.out _).trans (hHeld.2.2.2.2.2.1)))))))), ((cell_far (p := ⟨cA, _, none⟩) bA.out _).trans (((cell_far (p := ⟨cA, _, none⟩) bA.out _).trans (((cell_far (p := ⟨cA, _, none⟩) bA.out _).trans (((cell_far (p := ⟨cA, _, none⟩) bA.out _).trans (hHeld.2.2.2.2.2.2.1)))))))), ((cell_far (p := ⟨cA, _, none⟩) bA.out _).trans (((cell_far (p := ⟨cA, _, none⟩) bA.out _).trans (((cell_far (p := ⟨cA, _, none⟩) bA.out _).trans (((cell_far (p := ⟨cA, _, none⟩) bA.out _).trans (hHeld.2.2.2.2.2.2.2.1)))))))), ((cell_far (p := ⟨cA, _, none⟩) bA.out _).trans (((cell_far (p := ⟨cA, _, none⟩) bA.out _).trans (((cell_far (p := ⟨cA, _, none⟩) bA.out _).trans (((cell_far (p := ⟨cA, _, none⟩) bA.out _).trans (hHeld.2.2.2.2.2.2.2.2.1)))))))), ((cell_far (p := ⟨cA, _, none⟩) bA.out _).trans (((cell_far (p := ⟨cA, _, none⟩) bA.out _).trans (((cell_far (p := ⟨cA, _, none⟩) bA.out _).trans (((cell_far (p := ⟨cA, _, none⟩) bA.out _).trans (hHeld.2.2.2.2.2.2.2.2.2))))))))⟩ (fun hHeld => ?_)
                clear hK K
                refine q3_p 11 5 #[T,T,T,T,T,T,T,T,T,T,T,T] ?_
                refine done_ (done_of HT_.out q3_6) ?_
                try go_wp2
                refine bodyPost_ret (results_ct rfl _ _ cA 37 #[.int .i64 jE, .int .i64 SE, .int .i64 bF, .int .i64 qF] (0, 0) _ rfl (by (with_reducible repeat (first | refine blk_drewN ?_ _ | refine blk_drew ?_ | refine blk_alloc ?_ _)); refine blk_put (cs := #[.int .i64 jE, .int .i64 SE, .int .i64 bF, .int .i64 0]) ?_ 3 _ rfl; (with_reducible repeat (first | refine blk_drewN ?_ _ | refine blk_drew ?_ | refine blk_alloc ?_ _)); refine blk_put (cs := #[.int .i64 jE, .int .i64 SE, .int .i64 0, .int .i64 0]) ?_ 2 _ rfl; (with_reducible repeat (first | refine blk_drewN ?_ _ | refine blk_drew ?_ | refine blk_alloc ?_ _)); refine blk_put (cs := #[.int .i64 jE, .int .i64 0, .int .i64 0, .int .i64 0]) ?_ 1 _ rfl; (with_reducible repeat (first | refine blk_drewN ?_ _ | refine blk_drew ?_ | refine blk_alloc ?_ _)); refine blk_put (cs := #[.int .i64 0, .int .i64 0, .int .i64 0, .int .i64 0]) ?_ 0 _ rfl; (with_reducible repeat (first | refine blk_drewN ?_ _ | refine blk_drew ?_ | refine blk_alloc ?_ _)); exact eA.out) Try.underlying37 rfl q3_6) rfl ?_
                exact ⟨q3_4, q3_0⟩
               ·rw [if_neg c69] at H
                have oF : ((wrap64 ((wrap64 (10 * fA)) + gA)) == 14) = false := beq_eq_false_iff_ne.mpr c69
                have pF : ((wrap64 ((wrap64 (10 * fA)) + gA)) != 14) = true := bne_iff_ne.mpr c69
                replace H := Option.bind_eq_some_iff.mp H
                obtain ⟨bE, A780, H⟩ := H
                (try dsimp only at H)
                have A78 := Aside0.mk A780
                clear A780
                replace H := Option.bind_eq_some_iff.mp H
                obtain ⟨⟨kE, TE, cF, rF, PG⟩, A790, H⟩ := H
                (try dsimp only at H)
                have A79 := Aside0.mk A790
                clear A790
                simp only [Option.some.injEq, Prod.mk.injEq] at H
                obtain ⟨rfl, rfl, rfl, rfl, rfl⟩ := H
                try go_wp2
                have AA := Aside0.mk (blk_drew aA.out)
                have BA := Aside0.mk (blk_drew eA.out)
                have CA := Aside0.mk (below_drew1 HB.out)
                clear aA eA HB
                have aA := AA
                have eA := BA
                have HB := CA
                clear AA BA CA
                refine start_ (n := 13) (S := fun w' => w'.cell? ⟨dA, 0, none⟩ = some (.int .i64 fA) ∧ w'.cell? ⟨dA, 1, none⟩ = some (.int .i64 jA) ∧ w'.cell? ⟨dA, 2, none⟩ = some (.int .i64 kA) ∧ w'.cell? ⟨dA, 3, none⟩ = some (.int .i64 gA) ∧ w'.cell? ⟨dA, 4, none⟩ = some (.int .i64 hA) ∧ w'.cell? ⟨dA, 5, none⟩ = some (.int .i64 lA) ∧ w'.cell? ⟨dA, 6, none⟩ = some (.int .i64 mA) ∧ w'.cell? ⟨dA, 7, none⟩ = some (.int .i64 nA) ∧ w'.cell? ⟨dA, 8, none⟩ = some (.int .i64 oA) ∧ w'.cell? ⟨dA, 9, none⟩ = some (.bool qA)) (ds := []) #[F,F,F,F,F,F,F,F,F,F,F,F,F] q3_6 rfl rfl ⟨(blk_cell aA.out 0).trans rfl, (blk_cell aA.out 1).trans rfl, (blk_cell aA.out 2).trans rfl, (blk_cell aA.out 3).trans rfl, (blk_cell aA.out 4).trans rfl, (blk_cell aA.out 5).trans rfl, (blk_cell aA.out 6).trans rfl, (blk_cell aA.out 7).trans rfl, (blk_cell aA.out 8).trans rfl, (blk_cell aA.out 9).trans rfl⟩ (fun hHeld => ?_); refine with_tabW spec_RiAct.tab20 spec_RiAct.bits20 (fun HT_ HW_ => ?_)
                generalize wc.drew = TH at aA eA HB hHeld ⊢
                refine q3_p 0 107 #[T,F,F,F,F,F,F,F,F,F,F,F,F] ?_
                refine q3_p 1 108 #[T,T,F,F,F,F,F,F,F,F,F,F,F] ?_
                refine q3_p 4 111 #[T,T,F,F,T,F,F,F,F,F,F,F,F] ?_
                refine q3_p 6 113 #[T,T,F,F,T,F,T,F,F,F,F,F,F] ?_
                refine take_ (i := 2) (N := some 109) (v := ?_) (a' := ?_) #[T,T,T,F,T,F,T,F,F,F,F,F,F] rfl rfl (take_ofW HT_.out HW_.out q3_6) (fun _ _ _ h => h) (Or.inl ⟨by rfl, ?_⟩) hHeld ?_ ?_
                rotate_left
                ·rintro w' ⟨s0, s1, s2, s3, s4, s5, s6, s7, s8, s9⟩
                 go_simp
                 with_reducible rfl
                rotate_left
                ·simp only [Act.put, List.setIfInBounds_toArray, List.set_cons_zero, List.set_cons_succ, i64_w, i32_w]
                 rfl
                refine take_ (i := 5) (N := some 112) (v := ?_) (a' := ?_) #[T,T,T,F,T,T,T,F,F,F,F,F,F] rfl rfl (take_ofW HT_.out HW_.out q3_6) (fun _ _ _ h => h) (Or.inl ⟨by rfl, ?_⟩) hHeld ?_ ?_
                rotate_left
                ·rintro w' ⟨s0, s1, s2, s3, s4, s5, s6, s7, s8, s9⟩
                 go_simp
                 with_reducible rfl
                rotate_left
                ·simp only [Act.put, List.setIfInBounds_toArray, List.set_cons_zero, List.set_cons_succ, i64_w, i32_w]
                 rfl
                refine q3_p 7 114 #[T,T,T,F,T,T,T,T,F,F,F,F,F] ?_
                refine one_ (i := 3) (N := some 110) #[T,T,T,T,T,T,T,T,F,F,F,F,F] rfl rfl (one_of HT_.out q3_6) (by decide) (fun K hK => ?_)
                refine goes_ Try.func76 q3_6 rfl #[.int .i64 a0, .int .i64 hA] (by rfl) rfl rfl q3_3 ?_
                with_reducible refine (spec_l04Seq.calls a0 hA bE _ A78.out).mono ?_
                rintro e w' ⟨rfl, ⟨nd, rfl⟩⟩
                refine ⟨_, rfl, ?_⟩
                refine hK.out _ _ ⟨(blk_cell aA.out 0).trans rfl, (blk_cell aA.out 1).trans rfl, (blk_cell aA.out 2).trans rfl, (blk_cell aA.out 3).trans rfl, (blk_cell aA.out 4).trans rfl, (blk_cell aA.out 5).trans rfl, (blk_cell aA.out 6).trans rfl, (blk_cell aA.out 7).trans rfl, (blk_cell aA.out 8).trans rfl, (blk_cell aA.out 9).trans rfl⟩ (fun hHeld => ?_)
                clear hK K
                refine norm_ (a' := ?_) ?_ ?_
                rotate_left
                ·show Act.put _ (some 110) _ = _
                 simp only [Act.put, List.setIfInBounds_toArray, List.set_cons_zero, List.set_cons_succ, i64_w, i32_w]
                 rfl
                refine one_ (i := 8) (N := some 115) #[T,T,T,T,T,T,T,T,T,F,F,F,F] rfl rfl (one_of HT_.out q3_6) (by decide) (fun K hK => ?_)
                refine goes_ Try.func56 q3_6 rfl #[.int .i64 bE, .int .i64 (wrap64 (hA + a0))] (by rfl) rfl rfl q3_3 ?_
                with_reducible refine (spec_l03Store.calls bE (wrap64 (hA + a0)) kE TE cF rF PG _ A79.out).mono ?_
                rintro e GG ⟨rfl, hb⟩
                refine ⟨_, rfl, ?_⟩
                have AA := Aside0.mk (blk_below (g := dA) (o := .cells #[.int .i64 fA, .int .i64 jA, .int .i64 kA, .int .i64 gA, .int .i64 hA, .int .i64 lA, .int .i64 mA, .int .i64 nA, .int .i64 oA, .bool qA] 23 (0, 0)) q3_1 hb)
                have BA := Aside0.mk (blk_below (g := cA) (o := .cells #[.int .i64 0, .int .i64 0, .int .i64 0, .int .i64 0] 37 (0, 0)) q3_2 hb)
                have CA := Aside0.mk (below_step q3_0 hb)
                clear aA eA HB
                have aA := AA
                have eA := BA
                have HB := CA
                clear AA BA CA
                (try clear hb)
                (try clear hb2)
                (try clear hk)
                (try clear hi)
                refine hK.out _ _ ⟨(blk_cell aA.out 0).trans rfl, (blk_cell aA.out 1).trans rfl, (blk_cell aA.out 2).trans rfl, (blk_cell aA.out 3).trans rfl, (blk_cell aA.out 4).trans rfl, (blk_cell aA.out 5).trans rfl, (blk_cell aA.out 6).trans rfl, (blk_cell aA.out 7).trans rfl, (blk_cell aA.out 8).trans rfl, (blk_cell aA.out 9).trans rfl⟩ (fun hHeld => ?_)
                clear hK K
                refine norm_ (a' := ?_) ?_ ?_
                rotate_left
                ·show Act.put _ (some 115) _ = _
                 simp only [Act.put, List.setIfInBounds_toArray, List.set_cons_zero, List.set_cons_succ, i64_w, i32_w]
                 rfl
                refine q3_p 9 116 #[T,T,T,T,T,T,T,T,T,T,F,F,F] ?_
                refine q3_p 10 117 #[T,T,T,T,T,T,T,T,T,T,T,F,F] ?_
                refine one_ (i := 11) (N := none) #[T,T,T,T,T,T,T,T,T,T,T,T,F] rfl rfl (one_of HT_.out q3_6) (by decide) (fun K hK => ?_)
                have NH : GG.cell? ⟨cA, 0, none⟩ = some (.int .i64 0) := (blk_cell eA.out 0).trans rfl
                have zH := blk_frozen eA.out 0
                have HG := bA.out
                have IG := iA.out
                have OH : GG.cell? ⟨cA, 1, none⟩ = some (.int .i64 0) := (blk_cell eA.out 1).trans rfl
                have AH := blk_frozen eA.out 1
                have PH : GG.cell? ⟨cA, 2, none⟩ = some (.int .i64 0) := (blk_cell eA.out 2).trans rfl
                have BH := blk_frozen eA.out 2
                have QH : GG.cell? ⟨cA, 3, none⟩ = some (.int .i64 0) := (blk_cell eA.out 3).trans rfl
                have CH := blk_frozen eA.out 3
                refine skip_ (w1 := ?_) (by rfl) rfl ?_ ?_
                rotate_left
                ·go_simp
                 rfl
                refine hK.out _ _ ⟨((cell_far (p := ⟨cA, _, none⟩) bA.out _).trans (((cell_far (p := ⟨cA, _, none⟩) bA.out _).trans (((cell_far (p := ⟨cA, _, none⟩) bA.out _).trans (((cell_far (p := ⟨cA, _, none⟩) bA.out _).trans (hHeld.1)))))))), ((cell_far (p := ⟨cA, _, none⟩) bA.out _).trans (((cell_far (p := ⟨cA, _, none⟩) bA.out _).trans (((cell_far (p := ⟨cA, _, none⟩) bA.out _).trans (((cell_far (p := ⟨cA, _, none⟩) bA.out _).trans (hHeld.2.1)))))))), ((cell_far (p := ⟨cA, _, none⟩) bA.out _).trans (((cell_far (p := ⟨cA, _, none⟩) bA.out _).trans (((cell_far (p := ⟨cA, _, none⟩) bA.out _).trans (((cell_far (p := ⟨cA, _, none⟩) bA.out _).trans (hHeld.2.2.1)))))))), ((cell_far (p := ⟨cA, _, none⟩) bA.out _).trans (((cell_far (p := ⟨cA, _, none⟩) bA.out _).trans (((cell_far (p := ⟨cA, _, none⟩) bA.out _).trans (((cell_far (p := ⟨cA, _, none⟩) bA.out _).trans (hHeld.2.2.2.1)))))))), ((cell_far (p := ⟨cA, _, none⟩) bA.out _).trans (((cell_far (p := ⟨cA, _, none⟩) bA.out _).trans (((cell_far (p := ⟨cA, _, none⟩) bA.out _).trans (((cell_far (p := ⟨cA, _, none⟩) bA.out _).trans (hHeld.2.2.2.2.1)))))))), ((cell_far (p := ⟨cA, _, none⟩) bA.out _).trans (((cell_far (p := ⟨cA, _, none⟩) bA.out _).trans (((cell_far (p := ⟨cA, _, none⟩) bA.out _).trans (((cell_far (p := ⟨cA, _, none⟩) bA.out _).trans (hHeld.2.2.2.2.2.1)))))))), ((cell_far (p := ⟨cA, _, none⟩) bA.out _).trans (((cell_far (p := ⟨cA, _, none⟩) bA.out _).trans (((cell_far (p := ⟨cA, _, none⟩) bA.out _).trans (((cell_far (p := ⟨cA, _, none⟩) bA.out _).trans (hHeld.2.2.2.2.2.2.1)))))))), ((cell_far (p := ⟨cA, _, none⟩) bA.out _).trans (((cell_far (p := ⟨cA, _, none⟩) bA.out _).trans (((cell_far (p := ⟨cA, _, none⟩) bA.out _).trans (((cell_far (p := ⟨cA, _, none⟩) bA.out _).trans (hHeld.2.2.2.2.2.2.2.1)))))))), ((cell_far (p := ⟨cA, _, none⟩) bA.out _).trans (((cell_far (p := ⟨cA, _, none⟩) bA.out _).trans (((cell_far (p := ⟨cA, _, none⟩) bA.out _).trans (((cell_far (p := ⟨cA, _, none⟩) bA.out _).trans (hHeld.2.2.2.2.2.2.2.2.1)))))))), ((cell_far (p := ⟨cA, _, none⟩) bA.out _).trans (((cell_far (p := ⟨cA, _, none⟩) bA.out _).trans (((cell_far (p := ⟨cA, _, none⟩) bA.out _).trans (((cell_far (p := ⟨cA, _, none⟩) bA.out _).trans (hHeld.2.2.2.2.2.2.2.2.2))))))))⟩ (fun hHeld => ?_)
                clear hK K
                refine q3_p 12 5 #[T,T,T,T,T,T,T,T,T,T,T,T,T] ?_
                refine done_ (done_of HT_.out q3_6) ?_
                try go_wp2
                refine bodyPost_ret (results_ct rfl _ _ cA 37 #[.int .i64 kE, .int .i64 TE, .int .i64 cF, .int .i64 rF] (0, 0) _ rfl (by (with_reducible repeat (first | refine blk_drewN ?_ _ | refine blk_drew ?_ | refine blk_alloc ?_ _)); refine blk_put (cs := #[.int .i64 kE, .int .i64 TE, .int .i64 cF, .int .i64 0]) ?_ 3 _ rfl; (with_reducible repeat (first | refine blk_drewN ?_ _ | refine blk_drew ?_ | refine blk_alloc ?_ _)); refine blk_put (cs := #[.int .i64 kE, .int .i64 TE, .int .i64 0, .int .i64 0]) ?_ 2 _ rfl; (with_reducible repeat (first | refine blk_drewN ?_ _ | refine blk_drew ?_ | refine blk_alloc ?_ _)); refine blk_put (cs := #[.int .i64 kE, .int .i64 0, .int .i64 0, .int .i64 0]) ?_ 1 _ rfl; (with_reducible repeat (first | refine blk_drewN ?_ _ | refine blk_drew ?_ | refine blk_alloc ?_ _)); refine blk_put (cs := #[.int .i64 0, .int .i64 0, .int .i64 0, .int .i64 0]) ?_ 0 _ rfl; (with_reducible repeat (first | refine blk_drewN ?_ _ | refine blk_drew ?_ | refine blk_alloc ?_ _)); exact eA.out) Try.underlying37 rfl q3_6) rfl ?_
                exact ⟨q3_4, q3_0⟩

end Go.Proofs.Ytfahmmlkcmadeaa.PFnExactRiStep
