-- Written by the session's own patched copy of the printer (wip/patch_print.py).
import Derived.Test.YtfahmmlkcmadeaaPFnExactStStepx0
import Derived.Test.YtfahmmlkcmadeaaPFnExactStStepx1
import Derived.Test.YtfahmmlkcmadeaaPFnExactStStepx2
namespace Go.Proofs.Ytfahmmlkcmadeaa.PFnExactStStep
open Go.RowKit Go.Proofs.YtfahmmlkcmadeaaW.PrintWords Go.Proofs.YtfahmmlkcmadeaaW.PrintLast Go.Proofs.YtfahmmlkcmadeaaW.PrintMore
attribute [local go_sem] max2_int min2_int max_two min_two max_three min_three max_four min_four   -- for this text's walks alone
set_option linter.unusedVariables false
set_option linter.unusedSimpArgs false

theorem q3_0 {p : Prop} (h : p := by repeat (first | (with_reducible first | exact HB.out | apply below_alloc | apply pw_below_drewN | apply below_drew1 | refine below_set ?_ mI.out | refine below_set ?_ xI.out) | exact HB.out)) : p := h
theorem q3_1 {p : Prop} (h : p := by (with_reducible repeat (first | refine blk_drewN ?_ _ | refine blk_drew ?_ | refine blk_alloc ?_ _)); exact aA.out) : p := h
theorem q3_2 {p : Prop} (h : p := by (with_reducible repeat (first | refine blk_drewN ?_ _ | refine blk_drew ?_ | refine blk_alloc ?_ _)); exact cA.out) : p := h
theorem q3_3 {p : Prop} (h : p := by (try simp only [List.map_toArray, List.map_cons, List.map_nil]); first | done | rfl | (simp only [List.length_drop, List.length_take]; rfl)) : p := h
theorem q3_4 {p : Prop} (h : p := by (with_reducible repeat (first | refine blk_drewN ?_ _ | refine blk_drew ?_ | refine blk_alloc ?_ _)); refine blk_put (cs := #[.int .i64 0, .int .i64 0, .int .i64 0, .int .i64 0]) ?_ 3 _ rfl; (with_reducible repeat (first | refine blk_drewN ?_ _ | refine blk_drew ?_ | refine blk_alloc ?_ _)); refine blk_put (cs := #[.int .i64 0, .int .i64 0, .int .i64 0, .int .i64 0]) ?_ 2 _ rfl; (with_reducible repeat (first | refine blk_drewN ?_ _ | refine blk_drew ?_ | refine blk_alloc ?_ _)); refine blk_put (cs := #[.int .i64 0, .int .i64 0, .int .i64 0, .int .i64 0]) ?_ 1 _ rfl; (with_reducible repeat (first | refine blk_drewN ?_ _ | refine blk_drew ?_ | refine blk_alloc ?_ _)); refine blk_put (cs := #[.int .i64 0, .int .i64 0, .int .i64 0, .int .i64 0]) ?_ 0 _ rfl; (with_reducible repeat (first | refine blk_drewN ?_ _ | refine blk_drew ?_ | refine blk_alloc ?_ _)); exact cA.out) : p := h
theorem q3_5 {p : Prop} (h : p := by first | rfl | (simp [errW_none, errW_some] <;> rfl) | (simp [*, errW_none, errW_some] <;> rfl)) : p := h
theorem q3_6 {p : Prop} (h : p := by first | rfl | (simp; done) | (simp [*]; done)) : p := h
theorem q3_7 {p : Prop} (h : p := by repeat (first | (with_reducible first | exact HB.out | apply below_alloc | apply pw_below_drewN | apply below_drew1 | refine below_set ?_ mI.out) | exact HB.out)) : p := h
theorem q3_8 {p : Prop} (h : p := by repeat (first | (with_reducible first | exact HB.out | apply below_alloc | apply pw_below_drewN | apply below_drew1) | exact HB.out)) : p := h
theorem q3_9 {p : Prop} (h : p := by kernel_rfl) : p := h
/-! ### spec_StAct: function 23 -/
mutual
def spec_StAct.j0 : Nat → Int → Bool → Int → Int → Int → Int → Int → Int → Int → Int → Int → Bool → Option (Int × Int × Int × Int × Bool)
 | 0, _, _, _, _, _, _, _, _, _, _, _, _ => none
 | k + 1, x0, x38, rA, uA, vA, qA, wA, tA, sA, xA, yA, zA => if x38 = true then (some (0, 0, 0, 0, false)) else ((spec_l03Place.f rA uA vA qA wA tA sA xA yA zA).bind fun DA => (if rA = 2 then (spec_StAct.j1 k x0 DA (qA == 0) rA uA vA qA wA tA sA xA yA zA) else (spec_StAct.j1 k x0 DA false rA uA vA qA wA tA sA xA yA zA)))
def spec_StAct.j1 : Nat → Int → Int → Bool → Int → Int → Int → Int → Int → Int → Int → Int → Int → Bool → Option (Int × Int × Int × Int × Bool)
 | 0, _, _, _, _, _, _, _, _, _, _, _, _, _ => none
 | k + 1, x0, x6, x49, rA, uA, vA, qA, wA, tA, sA, xA, yA, zA => if x49 = true then ((spec_l03Load.f 0).bind fun uE => (some (uE.1, uE.2.1, uE.2.2.1, uE.2.2.2.1, uE.2.2.2.2))) else ((spec_l01In.f x6 0 (wrap64 (x0 - 1))).bind fun rI => (if rI = true then ((spec_l03Word.f sA).bind fun DE => (if qA = 0 then ((spec_l03Load.f 0).bind fun vE => (some (vE.1, vE.2.1, vE.2.2.1, vE.2.2.2.1, vE.2.2.2.2))) else (if qA = 1 then (spec_StAct.j2 k x6 DE.1 DE.2 (rA == 1) rA uA vA qA wA tA sA xA yA zA) else (spec_StAct.j2 k x6 DE.1 DE.2 false rA uA vA qA wA tA sA xA yA zA)))) else (some (0, 0, 0, 0, false))))
def spec_StAct.j2 : Nat → Int → Int → Int → Bool → Int → Int → Int → Int → Int → Int → Int → Int → Int → Bool → Option (Int × Int × Int × Int × Bool)
 | 0, _, _, _, _, _, _, _, _, _, _, _, _, _, _ => none
 | k + 1, x6, x7, x8, x72, rA, uA, vA, qA, wA, tA, sA, xA, yA, zA => if x72 = true then ((spec_l03Store.f (wrap64 (1 + x6)) x8).bind fun wE => (some (wE.1, wE.2.1, wE.2.2.1, wE.2.2.2.1, wE.2.2.2.2))) else (if qA = 1 then ((spec_l03Load.f (wrap64 (1 + x6))).bind fun xE => (some (xE.1, xE.2.1, xE.2.2.1, xE.2.2.2.1, xE.2.2.2.2))) else (if rA = 1 then (spec_StAct.j3 k x7 (wrap64 (x6 + 1)) rA uA vA qA wA tA sA xA yA zA) else (spec_StAct.j3 k x7 tA rA uA vA qA wA tA sA xA yA zA)))
def spec_StAct.j3 : Nat → Int → Int → Int → Int → Int → Int → Int → Int → Int → Int → Int → Bool → Option (Int × Int × Int × Int × Bool)
 | 0, _, _, _, _, _, _, _, _, _, _, _, _ => none
 | k + 1, x7, x9, rA, uA, vA, qA, wA, tA, sA, xA, yA, zA => (spec_NextTag.f x7).bind fun yE => ((spec_Pack.f yE x9).bind fun nI => (if nI.2 = true then ((spec_l03Cas.f 0 sA nI.1).bind fun zE => (some (zE.1, zE.2.1, zE.2.2.1, zE.2.2.2.1, zE.2.2.2.2))) else (some (0, 0, 0, 0, false))))
end
def spec_StAct.f (k : Nat) (a0 : Int) (fA : Int) (kA : Int) (lA : Int) (eA : Int) (mA : Int) (jA : Int) (iA : Int) (nA : Int) (oA : Int) (pA : Bool) : Option (Int × Int × Int × Int × Bool) := if pA = true then (spec_StAct.j0 k a0 true fA kA lA eA mA jA iA nA oA pA) else ((spec_l03Size.f a0).bind fun SG => (if SG = true then (if fA < 1 then (spec_StAct.j0 k a0 true fA kA lA eA mA jA iA nA oA pA) else (if fA > 2 then (spec_StAct.j0 k a0 true fA kA lA eA mA jA iA nA oA pA) else (if eA < 0 then (spec_StAct.j0 k a0 true fA kA lA eA mA jA iA nA oA pA) else (spec_StAct.j0 k a0 (decide (eA > 2)) fA kA lA eA mA jA iA nA oA pA)))) else (spec_StAct.j0 k a0 true fA kA lA eA mA jA iA nA oA pA)))
theorem spec_StAct.mono_l : ∀ k, (∀ y0 y1 y2 y3 y4 y5 y6 y7 y8 y9 y10 y11, LeO (spec_StAct.j0 k y0 y1 y2 y3 y4 y5 y6 y7 y8 y9 y10 y11) (spec_StAct.j0 (k + 1) y0 y1 y2 y3 y4 y5 y6 y7 y8 y9 y10 y11)) ∧ (∀ y0 y1 y2 y3 y4 y5 y6 y7 y8 y9 y10 y11 y12, LeO (spec_StAct.j1 k y0 y1 y2 y3 y4 y5 y6 y7 y8 y9 y10 y11 y12) (spec_StAct.j1 (k + 1) y0 y1 y2 y3 y4 y5 y6 y7 y8 y9 y10 y11 y12)) ∧ (∀ y0 y1 y2 y3 y4 y5 y6 y7 y8 y9 y10 y11 y12 y13, LeO (spec_StAct.j2 k y0 y1 y2 y3 y4 y5 y6 y7 y8 y9 y10 y11 y12 y13) (spec_StAct.j2 (k + 1) y0 y1 y2 y3 y4 y5 y6 y7 y8 y9 y10 y11 y12 y13)) ∧ (∀ y0 y1 y2 y3 y4 y5 y6 y7 y8 y9 y10 y11, LeO (spec_StAct.j3 k y0 y1 y2 y3 y4 y5 y6 y7 y8 y9 y10 y11) (spec_StAct.j3 (k + 1) y0 y1 y2 y3 y4 y5 y6 y7 y8 y9 y10 y11))
 | 0 => ⟨fun _ _ _ _ _ _ _ _ _ _ _ _ r h => by simp [spec_StAct.j0] at h, fun _ _ _ _ _ _ _ _ _ _ _ _ _ r h => by simp [spec_StAct.j1] at h, fun _ _ _ _ _ _ _ _ _ _ _ _ _ _ r h => by simp [spec_StAct.j2] at h, fun _ _ _ _ _ _ _ _ _ _ _ _ r h => by simp [spec_StAct.j3] at h⟩
 | k + 1 => by
  obtain ⟨ih0, ih1, ih2, ih3⟩ := spec_StAct.mono_l k
  refine ⟨?_, ?_, ?_, ?_⟩
  ·intro y0 y1 y2 y3 y4 y5 y6 y7 y8 y9 y10 y11
   unfold spec_StAct.j0
   repeat' first
   | (with_reducible exact ih0 _ _ _ _ _ _ _ _ _ _ _ _)
   | (with_reducible exact ih1 _ _ _ _ _ _ _ _ _ _ _ _ _)
   | (with_reducible exact ih2 _ _ _ _ _ _ _ _ _ _ _ _ _ _)
   | (with_reducible exact ih3 _ _ _ _ _ _ _ _ _ _ _ _)
   | (with_reducible exact LeO.refl _)
   | (with_reducible exact LeO.none _)
   | (with_reducible refine LeO.ite ?_ ?_)
   | (with_reducible refine LeO.bind ?_ (fun _ => ?_))
   | exact ih0 _ _ _ _ _ _ _ _ _ _ _ _
   | exact ih1 _ _ _ _ _ _ _ _ _ _ _ _ _
   | exact ih2 _ _ _ _ _ _ _ _ _ _ _ _ _ _
   | exact ih3 _ _ _ _ _ _ _ _ _ _ _ _
   | exact LeO.none _
   | refine LeO.ite ?_ ?_
   | refine LeO.bind ?_ (fun _ => ?_)
  ·intro y0 y1 y2 y3 y4 y5 y6 y7 y8 y9 y10 y11 y12
   unfold spec_StAct.j1
   repeat' first
   | (with_reducible exact ih0 _ _ _ _ _ _ _ _ _ _ _ _)
   | (with_reducible exact ih1 _ _ _ _ _ _ _ _ _ _ _ _ _)
   | (with_reducible exact ih2 _ _ _ _ _ _ _ _ _ _ _ _ _ _)
   | (with_reducible exact ih3 _ _ _ _ _ _ _ _ _ _ _ _)
   | (with_reducible exact LeO.refl _)
   | (with_reducible exact LeO.none _)
   | (with_reducible refine LeO.ite ?_ ?_)
   | (with_reducible refine LeO.bind ?_ (fun _ => ?_))
   | exact ih0 _ _ _ _ _ _ _ _ _ _ _ _
   | exact ih1 _ _ _ _ _ _ _ _ _ _ _ _ _
   | exact ih2 _ _ _ _ _ _ _ _ _ _ _ _ _ _
   | exact ih3 _ _ _ _ _ _ _ _ _ _ _ _
   | exact LeO.none _
   | refine LeO.ite ?_ ?_
   | refine LeO.bind ?_ (fun _ => ?_)
  ·intro y0 y1 y2 y3 y4 y5 y6 y7 y8 y9 y10 y11 y12 y13
   unfold spec_StAct.j2
   repeat' first
   | (with_reducible exact ih0 _ _ _ _ _ _ _ _ _ _ _ _)
   | (with_reducible exact ih1 _ _ _ _ _ _ _ _ _ _ _ _ _)
   | (with_reducible exact ih2 _ _ _ _ _ _ _ _ _ _ _ _ _ _)
   | (with_reducible exact ih3 _ _ _ _ _ _ _ _ _ _ _ _)
   | (with_reducible exact LeO.refl _)
   | (with_reducible exact LeO.none _)
   | (with_reducible refine LeO.ite ?_ ?_)
   | (with_reducible refine LeO.bind ?_ (fun _ => ?_))
   | exact ih0 _ _ _ _ _ _ _ _ _ _ _ _
   | exact ih1 _ _ _ _ _ _ _ _ _ _ _ _ _
   | exact ih2 _ _ _ _ _ _ _ _ _ _ _ _ _ _
   | exact ih3 _ _ _ _ _ _ _ _ _ _ _ _
   | exact LeO.none _
   | refine LeO.ite ?_ ?_
   | refine LeO.bind ?_ (fun _ => ?_)
  ·intro y0 y1 y2 y3 y4 y5 y6 y7 y8 y9 y10 y11
   unfold spec_StAct.j3
   repeat' first
   | (with_reducible exact ih0 _ _ _ _ _ _ _ _ _ _ _ _)
   | (with_reducible exact ih1 _ _ _ _ _ _ _ _ _ _ _ _ _)
   | (with_reducible exact ih2 _ _ _ _ _ _ _ _ _ _ _ _ _ _)
   | (with_reducible exact ih3 _ _ _ _ _ _ _ _ _ _ _ _)
   | (with_reducible exact LeO.refl _)
   | (with_reducible exact LeO.none _)
   | (with_reducible refine LeO.ite ?_ ?_)
   | (with_reducible refine LeO.bind ?_ (fun _ => ?_))
   | exact ih0 _ _ _ _ _ _ _ _ _ _ _ _
   | exact ih1 _ _ _ _ _ _ _ _ _ _ _ _ _
   | exact ih2 _ _ _ _ _ _ _ _ _ _ _ _ _ _
   | exact ih3 _ _ _ _ _ _ _ _ _ _ _ _
   | exact LeO.none _
   | refine LeO.ite ?_ ?_
   | refine LeO.bind ?_ (fun _ => ?_)
theorem spec_StAct.mono : ∀ a0 a1 a2 a3 a4 a5 a6 a7 a8 a9 a10 k, LeO (spec_StAct.f k a0 a1 a2 a3 a4 a5 a6 a7 a8 a9 a10) (spec_StAct.f (k + 1) a0 a1 a2 a3 a4 a5 a6 a7 a8 a9 a10) := by
 intro a0 a1 a2 a3 a4 a5 a6 a7 a8 a9 a10 k
 obtain ⟨ih0, ih1, ih2, ih3⟩ := spec_StAct.mono_l k
 unfold spec_StAct.f
 repeat' first
   | (with_reducible exact ih0 _ _ _ _ _ _ _ _ _ _ _ _)
   | (with_reducible exact ih1 _ _ _ _ _ _ _ _ _ _ _ _ _)
   | (with_reducible exact ih2 _ _ _ _ _ _ _ _ _ _ _ _ _ _)
   | (with_reducible exact ih3 _ _ _ _ _ _ _ _ _ _ _ _)
   | (with_reducible exact LeO.refl _)
   | (with_reducible exact LeO.none _)
   | (with_reducible refine LeO.ite ?_ ?_)
   | (with_reducible refine LeO.bind ?_ (fun _ => ?_))
   | exact ih0 _ _ _ _ _ _ _ _ _ _ _ _
   | exact ih1 _ _ _ _ _ _ _ _ _ _ _ _ _
   | exact ih2 _ _ _ _ _ _ _ _ _ _ _ _ _ _
   | exact ih3 _ _ _ _ _ _ _ _ _ _ _ _
   | exact LeO.none _
   | refine LeO.ite ?_ ?_
   | refine LeO.bind ?_ (fun _ => ?_)
set_option maxHeartbeats 8000000 in
set_option maxRecDepth 100000 in
theorem spec_StAct.calls (k : Nat) (a0 : Int) (fA : Int) (kA : Int) (lA : Int) (eA : Int) (mA : Int) (jA : Int) (iA : Int) (nA : Int) (oA : Int) (pA : Bool) (r1 : Int) (r2 : Int) (r3 : Int) (r4 : Int) (r5 : Bool) (w : World) (h : spec_StAct.f k a0 fA kA lA eA mA jA iA nA oA pA = some (r1, r2, r3, r4, r5)) :
  Calls Try.prog 23 #[.int .i64 a0, .agg #[.int .i64 fA, .int .i64 kA, .int .i64 lA, .int .i64 eA, .int .i64 mA, .int .i64 jA, .int .i64 iA, .int .i64 nA, .int .i64 oA, .bool pA]] w fun e w' => e = .returned (.tuple #[.agg #[.int .i64 r1, .int .i64 r2, .int .i64 r3, .int .i64 r4], .bool r5]) ∧ Below w.heap.size w w' := by
 have hu23 := Try.underlying23
 have hu37 := Try.underlying37
 have HB := Aside0.mk (Below.refl w.heap.size w)
 have H : (if pA = true then (spec_StAct.j0 k a0 true fA kA lA eA mA jA iA nA oA pA) else ((spec_l03Size.f a0).bind fun SG => (if SG = true then (if fA < 1 then (spec_StAct.j0 k a0 true fA kA lA eA mA jA iA nA oA pA) else (if fA > 2 then (spec_StAct.j0 k a0 true fA kA lA eA mA jA iA nA oA pA) else (if eA < 0 then (spec_StAct.j0 k a0 true fA kA lA eA mA jA iA nA oA pA) else (spec_StAct.j0 k a0 (decide (eA > 2)) fA kA lA eA mA jA iA nA oA pA)))) else (spec_StAct.j0 k a0 true fA kA lA eA mA jA iA nA oA pA)))) = some (r1, r2, r3, r4, r5) := h
 clear h
 have HC3 := Aside0.mk H
 clear H
 go_enter Try.func23, Try.ntmps23
 go_upto_region 1 with (first | ((with_reducible refine gate_dst (N := 3) rfl ?_); refine box_event ?hg (N := 3) ?hd (cs := #[.int .i64 fA, .int .i64 kA, .int .i64 lA, .int .i64 eA, .int .i64 mA, .int .i64 jA, .int .i64 iA, .int .i64 nA, .int .i64 oA, .bool pA]) (t := 23) ?hr ?_; (case hd => rfl); (case hg => rfl); (case hr => first | (go_simp; done) | (go_simp; rfl)); intro bA hg w4 hbox hb; have AA := Aside0.mk (below_step q3_8 hb); have BA := Aside0.mk (hbox); have CA := Aside0.mk ((by rw [hg]; exact (below_size q3_8) : w.heap.size ≤ bA)); have yI := Aside0.mk ((by rw [hg]; exact (below_size q3_8) : w.heap.size ≤ bA)); clear HB; have HB := AA; have aA := BA; have HJ := CA; have mI := yI; clear AA BA CA yI; clear hb hbox hg) | ((with_reducible refine gate_dst (N := 4) rfl ?_); refine box_event ?hg (N := 4) ?hd (cs := #[.int .i64 0, .int .i64 0, .int .i64 0, .int .i64 0]) (t := 37) ?hr ?_; (case hd => rfl); (case hg => rfl); (case hr => first | (go_simp; done) | (go_simp; rfl)); intro dA hg w5 hbox hb; have AA := Aside0.mk (blk_below (g := bA) (o := .cells #[.int .i64 fA, .int .i64 kA, .int .i64 lA, .int .i64 eA, .int .i64 mA, .int .i64 jA, .int .i64 iA, .int .i64 nA, .int .i64 oA, .bool pA] 23 (0, 0)) q3_1 hb); have BA := Aside0.mk (below_step q3_7 hb); have CA := Aside0.mk (hbox); have yI := Aside0.mk ((by rw [hg]; exact (below_size q3_7) : w.heap.size ≤ dA)); have IJ := Aside0.mk ((by rw [hg]; exact (below_size q3_7) : w.heap.size ≤ dA)); have JJ := Aside0.mk ((by rw [hg]; exact Nat.ne_of_lt (blk_lt (g := bA) (o := .cells #[.int .i64 fA, .int .i64 kA, .int .i64 lA, .int .i64 eA, .int .i64 mA, .int .i64 jA, .int .i64 iA, .int .i64 nA, .int .i64 oA, .bool pA] 23 (0, 0)) q3_1) : bA ≠ dA)); have KJ := Aside0.mk ((by rw [hg]; exact Nat.ne_of_gt (blk_lt (g := bA) (o := .cells #[.int .i64 fA, .int .i64 kA, .int .i64 lA, .int .i64 eA, .int .i64 mA, .int .i64 jA, .int .i64 iA, .int .i64 nA, .int .i64 oA, .bool pA] 23 (0, 0)) q3_1) : dA ≠ bA)); clear aA HB; have aA := AA; have HB := BA; have cA := CA; have LJ := yI; have xI := IJ; have gA := JJ; have hA := KJ; clear AA BA CA yI IJ JJ KJ; clear hb hbox hg))
 (try simp only [Act.put, List.setIfInBounds_toArray, List.set_cons_zero, List.set_cons_succ])
 go_cut [38] (fun v38 wc => ∃ (kq : Nat) (EE : Bool), v38 = .bool EE ∧ Aside0 (spec_StAct.j0 kq a0 EE fA kA lA eA mA jA iA nA oA pA = some (r1, r2, r3, r4, r5)) ∧ Aside0 (kq ≤ k) ∧ Aside0 (wc.heap[bA]? = some (.cells #[.int .i64 fA, .int .i64 kA, .int .i64 lA, .int .i64 eA, .int .i64 mA, .int .i64 jA, .int .i64 iA, .int .i64 nA, .int .i64 oA, .bool pA] 23 (0, 0))) ∧ Aside0 (wc.heap[dA]? = some (.cells #[.int .i64 0, .int .i64 0, .int .i64 0, .int .i64 0] 37 (0, 0))) ∧ Aside0 (Below w.heap.size w wc))
 case first =>
  have H := HC3.out
  clear HC3
  by_cases c6 : pA = true
  ·subst c6
   rw [if_pos rfl] at H
   have H' := Aside0.mk H
   clear H
   have AK := gA.out
   have BK := hA.out
   have IC : w5.cell? ⟨bA, 0, none⟩ = some (.int .i64 fA) := (blk_cell aA.out 0).trans rfl
   have JC : w5.cell? ⟨bA, 1, none⟩ = some (.int .i64 kA) := (blk_cell aA.out 1).trans rfl
   have KC : w5.cell? ⟨bA, 2, none⟩ = some (.int .i64 lA) := (blk_cell aA.out 2).trans rfl
   have LC : w5.cell? ⟨bA, 3, none⟩ = some (.int .i64 eA) := (blk_cell aA.out 3).trans rfl
   have MC : w5.cell? ⟨bA, 4, none⟩ = some (.int .i64 mA) := (blk_cell aA.out 4).trans rfl
   have NC : w5.cell? ⟨bA, 5, none⟩ = some (.int .i64 jA) := (blk_cell aA.out 5).trans rfl
   have OC : w5.cell? ⟨bA, 6, none⟩ = some (.int .i64 iA) := (blk_cell aA.out 6).trans rfl
   have PC : w5.cell? ⟨bA, 7, none⟩ = some (.int .i64 nA) := (blk_cell aA.out 7).trans rfl
   have QC : w5.cell? ⟨bA, 8, none⟩ = some (.int .i64 oA) := (blk_cell aA.out 8).trans rfl
   have RC : w5.cell? ⟨bA, 9, none⟩ = some (.bool true) := (blk_cell aA.out 9).trans rfl
   have SC := blk_frozen aA.out 0
   have TC := blk_frozen aA.out 1
   have UC := blk_frozen aA.out 2
   have VC := blk_frozen aA.out 3
   have WC := blk_frozen aA.out 4
   have XC := blk_frozen aA.out 5
   have YC := blk_frozen aA.out 6
   have ZC := blk_frozen aA.out 7
   have aD := blk_frozen aA.out 8
   have bD := blk_frozen aA.out 9
   go_wp2
   go_meet
   case rel => exact ⟨_, (true), q3_6, H', ⟨by first | omega | exact Nat.le_refl _⟩, ⟨q3_1⟩, ⟨q3_2⟩, ⟨q3_0⟩⟩
  ·replace c6 := Bool.eq_false_iff.mpr c6
   subst c6
   rw [if_neg (show ¬ (false = true) by decide)] at H
   replace H := Option.bind_eq_some_iff.mp H
   obtain ⟨SG, A90, H⟩ := H
   (try dsimp only at H)
   have A9 := Aside0.mk A90
   clear A90
   by_cases c10 : SG = true
   ·subst c10
    rw [if_pos rfl] at H
    by_cases c11 : fA < 1
    ·rw [if_pos c11] at H
     have EA : decide (fA < 1) = true := decide_eq_true c11
     clear c11
     (first | rw [EA] | (simp only [i64_w, i32_w]; rw [EA]) | skip)
     have H' := Aside0.mk H
     clear H
     have MJ := gA.out
     have NJ := hA.out
     have GA : w5.cell? ⟨bA, 0, none⟩ = some (.int .i64 fA) := (blk_cell aA.out 0).trans rfl
     have IA : w5.cell? ⟨bA, 1, none⟩ = some (.int .i64 kA) := (blk_cell aA.out 1).trans rfl
     have JA : w5.cell? ⟨bA, 2, none⟩ = some (.int .i64 lA) := (blk_cell aA.out 2).trans rfl
     have KA : w5.cell? ⟨bA, 3, none⟩ = some (.int .i64 eA) := (blk_cell aA.out 3).trans rfl
     have LA : w5.cell? ⟨bA, 4, none⟩ = some (.int .i64 mA) := (blk_cell aA.out 4).trans rfl
     have MA : w5.cell? ⟨bA, 5, none⟩ = some (.int .i64 jA) := (blk_cell aA.out 5).trans rfl
     have NA : w5.cell? ⟨bA, 6, none⟩ = some (.int .i64 iA) := (blk_cell aA.out 6).trans rfl
     have OA : w5.cell? ⟨bA, 7, none⟩ = some (.int .i64 nA) := (blk_cell aA.out 7).trans rfl
     have PA : w5.cell? ⟨bA, 8, none⟩ = some (.int .i64 oA) := (blk_cell aA.out 8).trans rfl
     have QA : w5.cell? ⟨bA, 9, none⟩ = some (.bool false) := (blk_cell aA.out 9).trans rfl
     have RA := blk_frozen aA.out 0
     have SA := blk_frozen aA.out 1
     have TA := blk_frozen aA.out 2
     have UA := blk_frozen aA.out 3
     have VA := blk_frozen aA.out 4
     have WA := blk_frozen aA.out 5
     have XA := blk_frozen aA.out 6
     have YA := blk_frozen aA.out 7
     have ZA := blk_frozen aA.out 8
     have aB := blk_frozen aA.out 9
     go_wp2_with (first | (go_at_call 49; (with_reducible refine (spec_l03Size.calls a0 true _ A9.out).mono ?_); rintro e w' ⟨rfl, ⟨nd, rfl⟩⟩))
     go_meet
     case rel => exact ⟨_, (true), q3_6, H', ⟨by first | omega | exact Nat.le_refl _⟩, ⟨q3_1⟩, ⟨q3_2⟩, ⟨q3_0⟩⟩
    ·rw [if_neg c11] at H
     have EA : decide (fA < 1) = false := decide_eq_false c11
     clear c11
     (first | rw [EA] | (simp only [i64_w, i32_w]; rw [EA]) | skip)
     by_cases c14 : fA > 2
     ·rw [if_pos c14] at H
      have AE : decide (2 < fA) = true := decide_eq_true c14
      clear c14
      have H' := Aside0.mk H
      clear H
      have OJ := gA.out
      have PJ := hA.out
      have bB : w5.cell? ⟨bA, 0, none⟩ = some (.int .i64 fA) := (blk_cell aA.out 0).trans rfl
      have cB : w5.cell? ⟨bA, 1, none⟩ = some (.int .i64 kA) := (blk_cell aA.out 1).trans rfl
      have dB : w5.cell? ⟨bA, 2, none⟩ = some (.int .i64 lA) := (blk_cell aA.out 2).trans rfl
      have eB : w5.cell? ⟨bA, 3, none⟩ = some (.int .i64 eA) := (blk_cell aA.out 3).trans rfl
      have fB : w5.cell? ⟨bA, 4, none⟩ = some (.int .i64 mA) := (blk_cell aA.out 4).trans rfl
      have gB : w5.cell? ⟨bA, 5, none⟩ = some (.int .i64 jA) := (blk_cell aA.out 5).trans rfl
      have hB : w5.cell? ⟨bA, 6, none⟩ = some (.int .i64 iA) := (blk_cell aA.out 6).trans rfl
      have iB : w5.cell? ⟨bA, 7, none⟩ = some (.int .i64 nA) := (blk_cell aA.out 7).trans rfl
      have jB : w5.cell? ⟨bA, 8, none⟩ = some (.int .i64 oA) := (blk_cell aA.out 8).trans rfl
      have kB : w5.cell? ⟨bA, 9, none⟩ = some (.bool false) := (blk_cell aA.out 9).trans rfl
      have lB := blk_frozen aA.out 0
      have mB := blk_frozen aA.out 1
      have nB := blk_frozen aA.out 2
      have oB := blk_frozen aA.out 3
      have pB := blk_frozen aA.out 4
      have qB := blk_frozen aA.out 5
      have rB := blk_frozen aA.out 6
      have sB := blk_frozen aA.out 7
      have tB := blk_frozen aA.out 8
      have uB := blk_frozen aA.out 9
      go_wp2_with (first | (go_at_call 49; (with_reducible refine (spec_l03Size.calls a0 true _ A9.out).mono ?_); rintro e w' ⟨rfl, ⟨nd, rfl⟩⟩))
      go_meet
      case rel => exact ⟨_, (true), q3_6, H', ⟨by first | omega | exact Nat.le_refl _⟩, ⟨q3_1⟩, ⟨q3_2⟩, ⟨q3_0⟩⟩
     ·rw [if_neg c14] at H
      have AE : decide (2 < fA) = false := decide_eq_false c14
      clear c14
      by_cases c17 : eA < 0
      ·rw [if_pos c17] at H
       have BE : decide (eA < 0) = true := decide_eq_true c17
       clear c17
       have H' := Aside0.mk H
       clear H
       have QJ := gA.out
       have RJ := hA.out
       have vB : w5.cell? ⟨bA, 0, none⟩ = some (.int .i64 fA) := (blk_cell aA.out 0).trans rfl
       have wB : w5.cell? ⟨bA, 1, none⟩ = some (.int .i64 kA) := (blk_cell aA.out 1).trans rfl
       have xB : w5.cell? ⟨bA, 2, none⟩ = some (.int .i64 lA) := (blk_cell aA.out 2).trans rfl
       have yB : w5.cell? ⟨bA, 3, none⟩ = some (.int .i64 eA) := (blk_cell aA.out 3).trans rfl
       have zB : w5.cell? ⟨bA, 4, none⟩ = some (.int .i64 mA) := (blk_cell aA.out 4).trans rfl
       have AB : w5.cell? ⟨bA, 5, none⟩ = some (.int .i64 jA) := (blk_cell aA.out 5).trans rfl
       have BB : w5.cell? ⟨bA, 6, none⟩ = some (.int .i64 iA) := (blk_cell aA.out 6).trans rfl
       have CB : w5.cell? ⟨bA, 7, none⟩ = some (.int .i64 nA) := (blk_cell aA.out 7).trans rfl
       have DB : w5.cell? ⟨bA, 8, none⟩ = some (.int .i64 oA) := (blk_cell aA.out 8).trans rfl
       have EB : w5.cell? ⟨bA, 9, none⟩ = some (.bool false) := (blk_cell aA.out 9).trans rfl
       have FB := blk_frozen aA.out 0
       have GB := blk_frozen aA.out 1
       have IB := blk_frozen aA.out 2
       have JB := blk_frozen aA.out 3
       have KB := blk_frozen aA.out 4
       have LB := blk_frozen aA.out 5
       have MB := blk_frozen aA.out 6
       have NB := blk_frozen aA.out 7
       have OB := blk_frozen aA.out 8
       have PB := blk_frozen aA.out 9
       go_wp2_with (first | (go_at_call 49; (with_reducible refine (spec_l03Size.calls a0 true _ A9.out).mono ?_); rintro e w' ⟨rfl, ⟨nd, rfl⟩⟩))
       go_meet
       case rel => exact ⟨_, (true), q3_6, H', ⟨by first | omega | exact Nat.le_refl _⟩, ⟨q3_1⟩, ⟨q3_2⟩, ⟨q3_0⟩⟩
      ·rw [if_neg c17] at H
       have BE : decide (eA < 0) = false := decide_eq_false c17
       clear c17
       have H' := Aside0.mk H
       clear H
       have SJ := gA.out
       have TJ := hA.out
       have QB : w5.cell? ⟨bA, 0, none⟩ = some (.int .i64 fA) := (blk_cell aA.out 0).trans rfl
       have RB : w5.cell? ⟨bA, 1, none⟩ = some (.int .i64 kA) := (blk_cell aA.out 1).trans rfl
       have SB : w5.cell? ⟨bA, 2, none⟩ = some (.int .i64 lA) := (blk_cell aA.out 2).trans rfl
       have TB : w5.cell? ⟨bA, 3, none⟩ = some (.int .i64 eA) := (blk_cell aA.out 3).trans rfl
       have UB : w5.cell? ⟨bA, 4, none⟩ = some (.int .i64 mA) := (blk_cell aA.out 4).trans rfl
       have VB : w5.cell? ⟨bA, 5, none⟩ = some (.int .i64 jA) := (blk_cell aA.out 5).trans rfl
       have WB : w5.cell? ⟨bA, 6, none⟩ = some (.int .i64 iA) := (blk_cell aA.out 6).trans rfl
       have XB : w5.cell? ⟨bA, 7, none⟩ = some (.int .i64 nA) := (blk_cell aA.out 7).trans rfl
       have YB : w5.cell? ⟨bA, 8, none⟩ = some (.int .i64 oA) := (blk_cell aA.out 8).trans rfl
       have ZB : w5.cell? ⟨bA, 9, none⟩ = some (.bool false) := (blk_cell aA.out 9).trans rfl
       have aC := blk_frozen aA.out 0
       have bC := blk_frozen aA.out 1
       have cC := blk_frozen aA.out 2
       have dC := blk_frozen aA.out 3
       have eC := blk_frozen aA.out 4
       have fC := blk_frozen aA.out 5
       have gC := blk_frozen aA.out 6
       have hC := blk_frozen aA.out 7
       have iC := blk_frozen aA.out 8
       have jC := blk_frozen aA.out 9
       go_wp2_with (first | (go_at_call 49; (with_reducible refine (spec_l03Size.calls a0 true _ A9.out).mono ?_); rintro e w' ⟨rfl, ⟨nd, rfl⟩⟩))
       go_meet
       case rel => exact ⟨_, (decide (eA > 2)), q3_6, H', ⟨by first | omega | exact Nat.le_refl _⟩, ⟨q3_1⟩, ⟨q3_2⟩, ⟨q3_0⟩⟩
   ·replace c10 := Bool.eq_false_iff.mpr c10
    subst c10
    rw [if_neg (show ¬ (false = true) by decide)] at H
    have H' := Aside0.mk H
    clear H
    have UJ := gA.out
    have VJ := hA.out
    have kC : w5.cell? ⟨bA, 0, none⟩ = some (.int .i64 fA) := (blk_cell aA.out 0).trans rfl
    have lC : w5.cell? ⟨bA, 1, none⟩ = some (.int .i64 kA) := (blk_cell aA.out 1).trans rfl
    have mC : w5.cell? ⟨bA, 2, none⟩ = some (.int .i64 lA) := (blk_cell aA.out 2).trans rfl
    have nC : w5.cell? ⟨bA, 3, none⟩ = some (.int .i64 eA) := (blk_cell aA.out 3).trans rfl
    have oC : w5.cell? ⟨bA, 4, none⟩ = some (.int .i64 mA) := (blk_cell aA.out 4).trans rfl
    have pC : w5.cell? ⟨bA, 5, none⟩ = some (.int .i64 jA) := (blk_cell aA.out 5).trans rfl
    have qC : w5.cell? ⟨bA, 6, none⟩ = some (.int .i64 iA) := (blk_cell aA.out 6).trans rfl
    have rC : w5.cell? ⟨bA, 7, none⟩ = some (.int .i64 nA) := (blk_cell aA.out 7).trans rfl
    have sC : w5.cell? ⟨bA, 8, none⟩ = some (.int .i64 oA) := (blk_cell aA.out 8).trans rfl
    have tC : w5.cell? ⟨bA, 9, none⟩ = some (.bool false) := (blk_cell aA.out 9).trans rfl
    have uC := blk_frozen aA.out 0
    have vC := blk_frozen aA.out 1
    have wC := blk_frozen aA.out 2
    have xC := blk_frozen aA.out 3
    have yC := blk_frozen aA.out 4
    have zC := blk_frozen aA.out 5
    have AC := blk_frozen aA.out 6
    have BC := blk_frozen aA.out 7
    have CC := blk_frozen aA.out 8
    have DC := blk_frozen aA.out 9
    go_wp2_with (first | (go_at_call 49; (with_reducible refine (spec_l03Size.calls a0 false _ A9.out).mono ?_); rintro e w' ⟨rfl, ⟨nd, rfl⟩⟩))
    go_meet
    case rel => exact ⟨_, (true), q3_6, H', ⟨by first | omega | exact Nat.le_refl _⟩, ⟨q3_1⟩, ⟨q3_2⟩, ⟨q3_0⟩⟩
 case rest =>
  clear HC3
  (try clear c1); (try clear c2); (try clear p2); (try clear c6); (try clear c7); (try clear c10); (try clear c11); (try clear EA); (try clear c12); (try clear c14); (try clear AE); (try clear c15); (try clear c17); (try clear BE); (try clear c18); (try clear c20); (try clear c22); (try clear c23); (try clear GA); (try clear IA); (try clear JA); (try clear KA); (try clear LA); (try clear MA); (try clear NA); (try clear OA); (try clear PA); (try clear QA); (try clear bB); (try clear cB); (try clear dB); (try clear eB); (try clear fB); (try clear gB); (try clear hB); (try clear iB); (try clear jB); (try clear kB); (try clear vB); (try clear wB); (try clear xB); (try clear yB); (try clear zB); (try clear AB); (try clear BB); (try clear CB); (try clear DB); (try clear EB); (try clear QB); (try clear RB); (try clear SB); (try clear TB); (try clear UB); (try clear VB); (try clear WB); (try clear XB); (try clear YB); (try clear ZB); (try clear kC); (try clear lC); (try clear mC); (try clear nC); (try clear oC); (try clear pC); (try clear qC); (try clear rC); (try clear sC); (try clear tC); (try clear IC); (try clear JC); (try clear KC); (try clear LC); (try clear MC); (try clear NC); (try clear OC); (try clear PC); (try clear QC); (try clear RC); (try clear RA); (try clear SA); (try clear TA); (try clear UA); (try clear VA); (try clear WA); (try clear XA); (try clear YA); (try clear ZA); (try clear aB); (try clear lB); (try clear mB); (try clear nB); (try clear oB); (try clear pB); (try clear qB); (try clear rB); (try clear sB); (try clear tB); (try clear uB); (try clear FB); (try clear GB); (try clear IB); (try clear JB); (try clear KB); (try clear LB); (try clear MB); (try clear NB); (try clear OB); (try clear PB); (try clear aC); (try clear bC); (try clear cC); (try clear dC); (try clear eC); (try clear fC); (try clear gC); (try clear hC); (try clear iC); (try clear jC); (try clear uC); (try clear vC); (try clear wC); (try clear xC); (try clear yC); (try clear zC); (try clear AC); (try clear BC); (try clear CC); (try clear DC); (try clear SC); (try clear TC); (try clear UC); (try clear VC); (try clear WC); (try clear XC); (try clear YC); (try clear ZC); (try clear aD); (try clear bD)
  obtain ⟨kq, EE, rfl, HA, HJ2, aA, cA, HB⟩ := hcut
  cases kq with
  | zero => exact absurd HA.out (by simp [spec_StAct.j0])
  | succ kj2 =>
   have H := HA.out
   clear HA
   simp only [spec_StAct.j0] at H
   by_cases c24 : EE = true
   ·subst c24
    rw [if_pos rfl] at H
    simp only [Option.some.injEq, Prod.mk.injEq] at H
    obtain ⟨rfl, rfl, rfl, rfl, rfl⟩ := H
    have WJ := hA.out
    have XJ := gA.out
    have cD : wc.cell? ⟨dA, 0, none⟩ = some (.int .i64 0) := (blk_cell cA.out 0).trans rfl
    have dD : wc.cell? ⟨dA, 1, none⟩ = some (.int .i64 0) := (blk_cell cA.out 1).trans rfl
    have eD : wc.cell? ⟨dA, 2, none⟩ = some (.int .i64 0) := (blk_cell cA.out 2).trans rfl
    have fD : wc.cell? ⟨dA, 3, none⟩ = some (.int .i64 0) := (blk_cell cA.out 3).trans rfl
    have gD := blk_frozen cA.out 0
    have hD := blk_frozen cA.out 1
    have iD := blk_frozen cA.out 2
    have jD := blk_frozen cA.out 3
    go_wp2
    refine bodyPost_ret (results_ct rfl _ _ dA 37 #[.int .i64 0, .int .i64 0, .int .i64 0, .int .i64 0] (0, 0) _ rfl q3_4 Try.underlying37 rfl q3_9) rfl ?_
    exact ⟨q3_5, q3_0⟩
   ·replace c24 := Bool.eq_false_iff.mpr c24
    subst c24
    rw [if_neg (show ¬ (false = true) by decide)] at H
    replace H := Option.bind_eq_some_iff.mp H
    obtain ⟨DA, A270, H⟩ := H
    (try dsimp only at H)
    have A27 := Aside0.mk A270
    clear A270
    have HC28 := Aside0.mk H
    clear H
    have YJ := gA.out
    have ZJ := hA.out
    have kD : wc.cell? ⟨bA, 0, none⟩ = some (.int .i64 fA) := (blk_cell aA.out 0).trans rfl
    have lD : wc.cell? ⟨bA, 1, none⟩ = some (.int .i64 kA) := (blk_cell aA.out 1).trans rfl
    have mD : wc.cell? ⟨bA, 2, none⟩ = some (.int .i64 lA) := (blk_cell aA.out 2).trans rfl
    have nD : wc.cell? ⟨bA, 3, none⟩ = some (.int .i64 eA) := (blk_cell aA.out 3).trans rfl
    have oD : wc.cell? ⟨bA, 4, none⟩ = some (.int .i64 mA) := (blk_cell aA.out 4).trans rfl
    have pD : wc.cell? ⟨bA, 5, none⟩ = some (.int .i64 jA) := (blk_cell aA.out 5).trans rfl
    have qD : wc.cell? ⟨bA, 6, none⟩ = some (.int .i64 iA) := (blk_cell aA.out 6).trans rfl
    have rD : wc.cell? ⟨bA, 7, none⟩ = some (.int .i64 nA) := (blk_cell aA.out 7).trans rfl
    have sD : wc.cell? ⟨bA, 8, none⟩ = some (.int .i64 oA) := (blk_cell aA.out 8).trans rfl
    have tD : wc.cell? ⟨bA, 9, none⟩ = some (.bool pA) := (blk_cell aA.out 9).trans rfl
    have uD := blk_frozen aA.out 0
    have vD := blk_frozen aA.out 1
    have wD := blk_frozen aA.out 2
    have xD := blk_frozen aA.out 3
    have yD := blk_frozen aA.out 4
    have zD := blk_frozen aA.out 5
    have AD := blk_frozen aA.out 6
    have BD := blk_frozen aA.out 7
    have CD := blk_frozen aA.out 8
    have DD := blk_frozen aA.out 9
    go_upto_region 4 with (first | ((with_reducible refine gate_callee (f := 52) rfl ?_); refine goesL_ (some 41) rfl rfl Try.func52 q3_9 rfl #[.agg #[.int .i64 fA, .int .i64 kA, .int .i64 lA, .int .i64 eA, .int .i64 mA, .int .i64 jA, .int .i64 iA, .int .i64 nA, .int .i64 oA, .bool pA]] rfl q3_3 ?_; (with_reducible refine (spec_l03Place.calls fA kA lA eA mA jA iA nA oA pA DA _ A27.out).mono ?_); rintro e GC ⟨rfl, hb⟩; refine ⟨_, rfl, ?_⟩; have AA := Aside0.mk (blk_below (g := bA) (o := .cells #[.int .i64 fA, .int .i64 kA, .int .i64 lA, .int .i64 eA, .int .i64 mA, .int .i64 jA, .int .i64 iA, .int .i64 nA, .int .i64 oA, .bool pA] 23 (0, 0)) q3_1 hb); have BA := Aside0.mk (blk_below (g := dA) (o := .cells #[.int .i64 0, .int .i64 0, .int .i64 0, .int .i64 0] 37 (0, 0)) q3_2 hb); have CA := Aside0.mk (below_step q3_0 hb); clear aA cA HB; have aA := AA; have cA := BA; have HB := CA; clear AA BA CA; (try clear hb); (try clear hb2); (try clear hk); (try clear hi)))
    (try simp only [Act.put, List.setIfInBounds_toArray, List.set_cons_zero, List.set_cons_succ])
    go_cut [49] (fun v49 wc => ∃ (kq : Nat) (ED : Bool), v49 = .bool ED ∧ Aside0 (spec_StAct.j1 kq a0 DA ED fA kA lA eA mA jA iA nA oA pA = some (r1, r2, r3, r4, r5)) ∧ Aside0 (kq ≤ kj2) ∧ Aside0 (wc.heap[bA]? = some (.cells #[.int .i64 fA, .int .i64 kA, .int .i64 lA, .int .i64 eA, .int .i64 mA, .int .i64 jA, .int .i64 iA, .int .i64 nA, .int .i64 oA, .bool pA] 23 (0, 0))) ∧ Aside0 (wc.heap[dA]? = some (.cells #[.int .i64 0, .int .i64 0, .int .i64 0, .int .i64 0] 37 (0, 0))) ∧ Aside0 (Below w.heap.size w wc))
    case first =>
     have H := HC28.out
     clear HC28
     by_cases c32 : fA = 2
     ·rw [if_pos c32] at H
      have FA : (fA == 2) = true := beq_iff_eq.mpr c32
      have FE : (fA != 2) = false := bne_eq_false_iff_eq.mpr c32
      clear c32
      (first | rw [FA] | (simp only [i64_w, i32_w]; rw [FA]) | skip)
      have H' := Aside0.mk H
      clear H
      have aK := gA.out
      have bK := hA.out
      have FD : GC.cell? ⟨bA, 0, none⟩ = some (.int .i64 fA) := (blk_cell aA.out 0).trans rfl
      have GD : GC.cell? ⟨bA, 1, none⟩ = some (.int .i64 kA) := (blk_cell aA.out 1).trans rfl
      have HD : GC.cell? ⟨bA, 2, none⟩ = some (.int .i64 lA) := (blk_cell aA.out 2).trans rfl
      have ID : GC.cell? ⟨bA, 3, none⟩ = some (.int .i64 eA) := (blk_cell aA.out 3).trans rfl
      have JD : GC.cell? ⟨bA, 4, none⟩ = some (.int .i64 mA) := (blk_cell aA.out 4).trans rfl
      have KD : GC.cell? ⟨bA, 5, none⟩ = some (.int .i64 jA) := (blk_cell aA.out 5).trans rfl
      have LD : GC.cell? ⟨bA, 6, none⟩ = some (.int .i64 iA) := (blk_cell aA.out 6).trans rfl
      have MD : GC.cell? ⟨bA, 7, none⟩ = some (.int .i64 nA) := (blk_cell aA.out 7).trans rfl
      have ND : GC.cell? ⟨bA, 8, none⟩ = some (.int .i64 oA) := (blk_cell aA.out 8).trans rfl
      have OD : GC.cell? ⟨bA, 9, none⟩ = some (.bool pA) := (blk_cell aA.out 9).trans rfl
      have PD := blk_frozen aA.out 0
      have QD := blk_frozen aA.out 1
      have RD := blk_frozen aA.out 2
      have SD := blk_frozen aA.out 3
      have TD := blk_frozen aA.out 4
      have UD := blk_frozen aA.out 5
      have VD := blk_frozen aA.out 6
      have WD := blk_frozen aA.out 7
      have XD := blk_frozen aA.out 8
      have YD := blk_frozen aA.out 9
      go_wp2
      go_meet
      case rel => exact ⟨_, ((eA == 0)), q3_6, H', ⟨by have := HJ2.out; first | omega | exact Nat.le_refl _⟩, ⟨q3_1⟩, ⟨q3_2⟩, ⟨q3_0⟩⟩
     ·rw [if_neg c32] at H
      have FA : (fA == 2) = false := beq_eq_false_iff_ne.mpr c32
      have FE : (fA != 2) = true := bne_iff_ne.mpr c32
      (first | rw [FA] | (simp only [i64_w, i32_w]; rw [FA]) | skip)
      have H' := Aside0.mk H
      clear H
      have cK := gA.out
      have dK := hA.out
      have ZD : GC.cell? ⟨bA, 0, none⟩ = some (.int .i64 fA) := (blk_cell aA.out 0).trans rfl
      have aE : GC.cell? ⟨bA, 1, none⟩ = some (.int .i64 kA) := (blk_cell aA.out 1).trans rfl
      have bE : GC.cell? ⟨bA, 2, none⟩ = some (.int .i64 lA) := (blk_cell aA.out 2).trans rfl
      have cE : GC.cell? ⟨bA, 3, none⟩ = some (.int .i64 eA) := (blk_cell aA.out 3).trans rfl
      have dE : GC.cell? ⟨bA, 4, none⟩ = some (.int .i64 mA) := (blk_cell aA.out 4).trans rfl
      have eE : GC.cell? ⟨bA, 5, none⟩ = some (.int .i64 jA) := (blk_cell aA.out 5).trans rfl
      have fE : GC.cell? ⟨bA, 6, none⟩ = some (.int .i64 iA) := (blk_cell aA.out 6).trans rfl
      have gE : GC.cell? ⟨bA, 7, none⟩ = some (.int .i64 nA) := (blk_cell aA.out 7).trans rfl
      have hE : GC.cell? ⟨bA, 8, none⟩ = some (.int .i64 oA) := (blk_cell aA.out 8).trans rfl
      have iE : GC.cell? ⟨bA, 9, none⟩ = some (.bool pA) := (blk_cell aA.out 9).trans rfl
      have jE := blk_frozen aA.out 0
      have kE := blk_frozen aA.out 1
      have lE := blk_frozen aA.out 2
      have mE := blk_frozen aA.out 3
      have nE := blk_frozen aA.out 4
      have oE := blk_frozen aA.out 5
      have pE := blk_frozen aA.out 6
      have qE := blk_frozen aA.out 7
      have rE := blk_frozen aA.out 8
      have sE := blk_frozen aA.out 9
      go_wp2
      go_meet
      case rel => exact ⟨_, (false), q3_6, H', ⟨by have := HJ2.out; first | omega | exact Nat.le_refl _⟩, ⟨q3_1⟩, ⟨q3_2⟩, ⟨q3_0⟩⟩
    case rest =>
     clear HC28
     (try clear c1); (try clear c2); (try clear p2); (try clear c3); (try clear c5); (try clear c6); (try clear c7); (try clear c10); (try clear c11); (try clear EA); (try clear c12); (try clear c14); (try clear AE); (try clear c15); (try clear c17); (try clear BE); (try clear c18); (try clear c20); (try clear c22); (try clear c23); (try clear c24); (try clear c25); (try clear c29); (try clear c32); (try clear FA); (try clear FE); (try clear c33); (try clear c35); (try clear GA); (try clear IA); (try clear JA); (try clear KA); (try clear LA); (try clear MA); (try clear NA); (try clear OA); (try clear PA); (try clear QA); (try clear bB); (try clear cB); (try clear dB); (try clear eB); (try clear fB); (try clear gB); (try clear hB); (try clear iB); (try clear jB); (try clear kB); (try clear vB); (try clear wB); (try clear xB); (try clear yB); (try clear zB); (try clear AB); (try clear BB); (try clear CB); (try clear DB); (try clear EB); (try clear QB); (try clear RB); (try clear SB); (try clear TB); (try clear UB); (try clear VB); (try clear WB); (try clear XB); (try clear YB); (try clear ZB); (try clear kC); (try clear lC); (try clear mC); (try clear nC); (try clear oC); (try clear pC); (try clear qC); (try clear rC); (try clear sC); (try clear tC); (try clear cD); (try clear dD); (try clear eD); (try clear fD); (try clear kD); (try clear lD); (try clear mD); (try clear nD); (try clear oD); (try clear pD); (try clear qD); (try clear rD); (try clear sD); (try clear tD); (try clear FD); (try clear GD); (try clear HD); (try clear ID); (try clear JD); (try clear KD); (try clear LD); (try clear MD); (try clear ND); (try clear OD); (try clear ZD); (try clear aE); (try clear bE); (try clear cE); (try clear dE); (try clear eE); (try clear fE); (try clear gE); (try clear hE); (try clear iE); (try clear IC); (try clear JC); (try clear KC); (try clear LC); (try clear MC); (try clear NC); (try clear OC); (try clear PC); (try clear QC); (try clear RC); (try clear RA); (try clear SA); (try clear TA); (try clear UA); (try clear VA); (try clear WA); (try clear XA); (try clear YA); (try clear ZA); (try clear aB); (try clear lB); (try clear mB); (try clear nB); (try clear oB); (try clear pB); (try clear qB); (try clear rB); (try clear sB); (try clear tB); (try clear uB); (try clear FB); (try clear GB); (try clear IB); (try clear JB); (try clear KB); (try clear LB); (try clear MB); (try clear NB); (try clear OB); (try clear PB); (try clear aC); (try clear bC); (try clear cC); (try clear dC); (try clear eC); (try clear fC); (try clear gC); (try clear hC); (try clear iC); (try clear jC); (try clear uC); (try clear vC); (try clear wC); (try clear xC); (try clear yC); (try clear zC); (try clear AC); (try clear BC); (try clear CC); (try clear DC); (try clear gD); (try clear hD); (try clear iD); (try clear jD); (try clear uD); (try clear vD); (try clear wD); (try clear xD); (try clear yD); (try clear zD); (try clear AD); (try clear BD); (try clear CD); (try clear DD); (try clear PD); (try clear QD); (try clear RD); (try clear SD); (try clear TD); (try clear UD); (try clear VD); (try clear WD); (try clear XD); (try clear YD); (try clear jE); (try clear kE); (try clear lE); (try clear mE); (try clear nE); (try clear oE); (try clear pE); (try clear qE); (try clear rE); (try clear sE); (try clear SC); (try clear TC); (try clear UC); (try clear VC); (try clear WC); (try clear XC); (try clear YC); (try clear ZC); (try clear aD); (try clear bD); (try clear p2)
     obtain ⟨kq, ED, rfl, HA, HJ27, aA, cA, HB⟩ := hcut
     cases kq with
     | zero => exact absurd HA.out (by simp [spec_StAct.j1])
     | succ kj27 =>
      have H := HA.out
      clear HA
      simp only [spec_StAct.j1] at H
      by_cases c37 : ED = true
      ·subst c37
       rw [if_pos rfl] at H
       replace H := Option.bind_eq_some_iff.mp H
       obtain ⟨⟨TG, cH, sI, zI, BJ⟩, A380, H⟩ := H
       (try dsimp only at H)
       have A38 := Aside0.mk A380
       clear A380
       simp only [Option.some.injEq, Prod.mk.injEq] at H
       obtain ⟨rfl, rfl, rfl, rfl, rfl⟩ := H
       go_wp2_with (first | ((with_reducible refine gate_callee (f := 53) rfl ?_); refine goesL_ (some 50) rfl rfl Try.func53 q3_9 rfl #[.int .i64 0] rfl q3_3 ?_; (with_reducible refine (spec_l03Load.calls 0 TG cH sI zI BJ _ A38.out).mono ?_); rintro e EI ⟨rfl, hb⟩; refine ⟨_, rfl, ?_⟩; have AA := Aside0.mk (blk_below (g := bA) (o := .cells #[.int .i64 fA, .int .i64 kA, .int .i64 lA, .int .i64 eA, .int .i64 mA, .int .i64 jA, .int .i64 iA, .int .i64 nA, .int .i64 oA, .bool pA] 23 (0, 0)) q3_1 hb); have BA := Aside0.mk (blk_below (g := dA) (o := .cells #[.int .i64 0, .int .i64 0, .int .i64 0, .int .i64 0] 37 (0, 0)) q3_2 hb); have CA := Aside0.mk (below_step q3_0 hb); clear aA cA HB; have aA := AA; have cA := BA; have HB := CA; clear AA BA CA; (try clear hb); (try clear hb2); (try clear hk); (try clear hi); have eK := hA.out; have fK := gA.out; have GE : EI.cell? ⟨dA, 0, none⟩ = some (.int .i64 0) := (blk_cell cA.out 0).trans rfl; have HE : EI.cell? ⟨dA, 1, none⟩ = some (.int .i64 0) := (blk_cell cA.out 1).trans rfl; have IE : EI.cell? ⟨dA, 2, none⟩ = some (.int .i64 0) := (blk_cell cA.out 2).trans rfl; have JE : EI.cell? ⟨dA, 3, none⟩ = some (.int .i64 0) := (blk_cell cA.out 3).trans rfl; have KE := blk_frozen cA.out 0; have LE := blk_frozen cA.out 1; have ME := blk_frozen cA.out 2; have NE := blk_frozen cA.out 3))
       refine bodyPost_ret (results_ct rfl _ _ dA 37 #[.int .i64 TG, .int .i64 cH, .int .i64 sI, .int .i64 zI] (0, 0) _ rfl (by (with_reducible repeat (first | refine blk_drewN ?_ _ | refine blk_drew ?_ | refine blk_alloc ?_ _)); refine blk_put (cs := #[.int .i64 TG, .int .i64 cH, .int .i64 sI, .int .i64 0]) ?_ 3 _ rfl; (with_reducible repeat (first | refine blk_drewN ?_ _ | refine blk_drew ?_ | refine blk_alloc ?_ _)); refine blk_put (cs := #[.int .i64 TG, .int .i64 cH, .int .i64 0, .int .i64 0]) ?_ 2 _ rfl; (with_reducible repeat (first | refine blk_drewN ?_ _ | refine blk_drew ?_ | refine blk_alloc ?_ _)); refine blk_put (cs := #[.int .i64 TG, .int .i64 0, .int .i64 0, .int .i64 0]) ?_ 1 _ rfl; (with_reducible repeat (first | refine blk_drewN ?_ _ | refine blk_drew ?_ | refine blk_alloc ?_ _)); refine blk_put (cs := #[.int .i64 0, .int .i64 0, .int .i64 0, .int .i64 0]) ?_ 0 _ rfl; (with_reducible repeat (first | refine blk_drewN ?_ _ | refine blk_drew ?_ | refine blk_alloc ?_ _)); exact cA.out) Try.underlying37 rfl q3_9) rfl ?_
       exact ⟨q3_5, q3_0⟩
      ·replace c37 := Bool.eq_false_iff.mpr c37
       subst c37
       rw [if_neg (show ¬ (false = true) by decide)] at H
       replace H := Option.bind_eq_some_iff.mp H
       obtain ⟨rI, A420, H⟩ := H
       (try dsimp only at H)
       have A42 := Aside0.mk A420
       clear A420
       by_cases c43 : rI = true
       ·subst c43
        rw [if_pos rfl] at H
        replace H := Option.bind_eq_some_iff.mp H
        obtain ⟨⟨CE, UG⟩, A440, H⟩ := H
        (try dsimp only at H)
        have A44 := Aside0.mk A440
        clear A440
        by_cases c45 : eA = 0
        ·rw [if_pos c45] at H
         have VG : (eA == 0) = true := beq_iff_eq.mpr c45
         have WG : (eA != 0) = false := bne_eq_false_iff_eq.mpr c45
         clear c45
         replace H := Option.bind_eq_some_iff.mp H
         obtain ⟨⟨XG, dH, tI, AI, CJ⟩, A460, H⟩ := H
         (try dsimp only at H)
         have A46 := Aside0.mk A460
         clear A460
         simp only [Option.some.injEq, Prod.mk.injEq] at H
         obtain ⟨rfl, rfl, rfl, rfl, rfl⟩ := H
         go_wp2_with (first | ((with_reducible refine gate_callee (f := 54) rfl ?_); refine goesL_ (some 56) rfl rfl Try.func54 q3_9 rfl #[.int .i64 DA, .int .i64 0, .int .i64 (wrap64 (a0 - 1))] rfl q3_3 ?_; (with_reducible refine (spec_l01In.calls DA 0 (wrap64 (a0 - 1)) true _ A42.out).mono ?_); rintro e w' ⟨rfl, ⟨nd, rfl⟩⟩; refine ⟨_, rfl, ?_⟩; (try (rw [drewN_self wc]; generalize hq_ : World.drewN wc _ = wc; have AA : Aside0 (wc.heap[bA]? = some (.cells #[.int .i64 fA, .int .i64 kA, .int .i64 lA, .int .i64 eA, .int .i64 mA, .int .i64 jA, .int .i64 iA, .int .i64 nA, .int .i64 oA, .bool pA] 23 (0, 0))) := ⟨by rw [← hq_]; exact q3_1⟩; have BA : Aside0 (wc.heap[dA]? = some (.cells #[.int .i64 0, .int .i64 0, .int .i64 0, .int .i64 0] 37 (0, 0))) := ⟨by rw [← hq_]; exact q3_2⟩; have CA : Aside0 (Below w.heap.size w wc) := ⟨by rw [← hq_]; exact q3_0⟩; clear aA cA HB hq_; have aA := AA; have cA := BA; have HB := CA; clear AA BA CA)); have gK := gA.out; have hK := hA.out; have OE : wc.cell? ⟨bA, 0, none⟩ = some (.int .i64 fA) := (blk_cell aA.out 0).trans rfl; have PE : wc.cell? ⟨bA, 1, none⟩ = some (.int .i64 kA) := (blk_cell aA.out 1).trans rfl; have QE : wc.cell? ⟨bA, 2, none⟩ = some (.int .i64 lA) := (blk_cell aA.out 2).trans rfl; have RE : wc.cell? ⟨bA, 3, none⟩ = some (.int .i64 eA) := (blk_cell aA.out 3).trans rfl; have SE : wc.cell? ⟨bA, 4, none⟩ = some (.int .i64 mA) := (blk_cell aA.out 4).trans rfl; have TE : wc.cell? ⟨bA, 5, none⟩ = some (.int .i64 jA) := (blk_cell aA.out 5).trans rfl; have UE : wc.cell? ⟨bA, 6, none⟩ = some (.int .i64 iA) := (blk_cell aA.out 6).trans rfl; have VE : wc.cell? ⟨bA, 7, none⟩ = some (.int .i64 nA) := (blk_cell aA.out 7).trans rfl; have WE : wc.cell? ⟨bA, 8, none⟩ = some (.int .i64 oA) := (blk_cell aA.out 8).trans rfl; have XE : wc.cell? ⟨bA, 9, none⟩ = some (.bool pA) := (blk_cell aA.out 9).trans rfl; have YE := blk_frozen aA.out 0; have ZE := blk_frozen aA.out 1; have aF := blk_frozen aA.out 2; have bF := blk_frozen aA.out 3; have cF := blk_frozen aA.out 4; have dF := blk_frozen aA.out 5; have eF := blk_frozen aA.out 6; have fF := blk_frozen aA.out 7; have gF := blk_frozen aA.out 8; have hF := blk_frozen aA.out 9) | ((with_reducible refine gate_callee (f := 55) rfl ?_); refine goesL_ (some 62) rfl rfl Try.func55 q3_9 rfl #[.int .i64 iA] rfl q3_3 ?_; (with_reducible refine (spec_l03Word.calls iA CE UG _ A44.out).mono ?_); rintro e w' ⟨rfl, ⟨nd, rfl⟩⟩; refine ⟨_, rfl, ?_⟩; (try (rw [drewN_self wc]; generalize hq_ : World.drewN wc _ = wc; have AA : Aside0 (wc.heap[bA]? = some (.cells #[.int .i64 fA, .int .i64 kA, .int .i64 lA, .int .i64 eA, .int .i64 mA, .int .i64 jA, .int .i64 iA, .int .i64 nA, .int .i64 oA, .bool pA] 23 (0, 0))) := ⟨by rw [← hq_]; exact q3_1⟩; have BA : Aside0 (wc.heap[dA]? = some (.cells #[.int .i64 0, .int .i64 0, .int .i64 0, .int .i64 0] 37 (0, 0))) := ⟨by rw [← hq_]; exact q3_2⟩; have CA : Aside0 (Below w.heap.size w wc) := ⟨by rw [← hq_]; exact q3_0⟩; clear aA cA HB hq_; have aA := AA; have cA := BA; have HB := CA; clear AA BA CA)); have iF : wc.cell? ⟨bA, 0, none⟩ = some (.int .i64 fA) := (blk_cell aA.out 0).trans rfl; have jF : wc.cell? ⟨bA, 1, none⟩ = some (.int .i64 kA) := (blk_cell aA.out 1).trans rfl; have kF : wc.cell? ⟨bA, 2, none⟩ = some (.int .i64 lA) := (blk_cell aA.out 2).trans rfl; have lF : wc.cell? ⟨bA, 3, none⟩ = some (.int .i64 eA) := (blk_cell aA.out 3).trans rfl; have mF : wc.cell? ⟨bA, 4, none⟩ = some (.int .i64 mA) := (blk_cell aA.out 4).trans rfl; have nF : wc.cell? ⟨bA, 5, none⟩ = some (.int .i64 jA) := (blk_cell aA.out 5).trans rfl; have oF : wc.cell? ⟨bA, 6, none⟩ = some (.int .i64 iA) := (blk_cell aA.out 6).trans rfl; have pF : wc.cell? ⟨bA, 7, none⟩ = some (.int .i64 nA) := (blk_cell aA.out 7).trans rfl; have qF : wc.cell? ⟨bA, 8, none⟩ = some (.int .i64 oA) := (blk_cell aA.out 8).trans rfl; have rF : wc.cell? ⟨bA, 9, none⟩ = some (.bool pA) := (blk_cell aA.out 9).trans rfl; have sF := blk_frozen aA.out 0; have tF := blk_frozen aA.out 1; have uF := blk_frozen aA.out 2; have vF := blk_frozen aA.out 3; have wF := blk_frozen aA.out 4; have xF := blk_frozen aA.out 5; have yF := blk_frozen aA.out 6; have zF := blk_frozen aA.out 7; have AF := blk_frozen aA.out 8; have BF := blk_frozen aA.out 9) | ((with_reducible refine gate_callee (f := 53) rfl ?_); refine goesL_ (some 69) rfl rfl Try.func53 q3_9 rfl #[.int .i64 0] rfl q3_3 ?_; (with_reducible refine (spec_l03Load.calls 0 XG dH tI AI CJ _ A46.out).mono ?_); rintro e FI ⟨rfl, hb⟩; refine ⟨_, rfl, ?_⟩; have AA := Aside0.mk (blk_below (g := bA) (o := .cells #[.int .i64 fA, .int .i64 kA, .int .i64 lA, .int .i64 eA, .int .i64 mA, .int .i64 jA, .int .i64 iA, .int .i64 nA, .int .i64 oA, .bool pA] 23 (0, 0)) q3_1 hb); have BA := Aside0.mk (blk_below (g := dA) (o := .cells #[.int .i64 0, .int .i64 0, .int .i64 0, .int .i64 0] 37 (0, 0)) q3_2 hb); have CA := Aside0.mk (below_step q3_0 hb); clear aA cA HB; have aA := AA; have cA := BA; have HB := CA; clear AA BA CA; (try clear hb); (try clear hb2); (try clear hk); (try clear hi); have CF : FI.cell? ⟨dA, 0, none⟩ = some (.int .i64 0) := (blk_cell cA.out 0).trans rfl; have DF : FI.cell? ⟨dA, 1, none⟩ = some (.int .i64 0) := (blk_cell cA.out 1).trans rfl; have EF : FI.cell? ⟨dA, 2, none⟩ = some (.int .i64 0) := (blk_cell cA.out 2).trans rfl; have FF : FI.cell? ⟨dA, 3, none⟩ = some (.int .i64 0) := (blk_cell cA.out 3).trans rfl; have GF := blk_frozen cA.out 0; have HF := blk_frozen cA.out 1; have IF := blk_frozen cA.out 2; have JF := blk_frozen cA.out 3))
         refine bodyPost_ret (results_ct rfl _ _ dA 37 #[.int .i64 XG, .int .i64 dH, .int .i64 tI, .int .i64 AI] (0, 0) _ rfl (by (with_reducible repeat (first | refine blk_drewN ?_ _ | refine blk_drew ?_ | refine blk_alloc ?_ _)); refine blk_put (cs := #[.int .i64 XG, .int .i64 dH, .int .i64 tI, .int .i64 0]) ?_ 3 _ rfl; (with_reducible repeat (first | refine blk_drewN ?_ _ | refine blk_drew ?_ | refine blk_alloc ?_ _)); refine blk_put (cs := #[.int .i64 XG, .int .i64 dH, .int .i64 0, .int .i64 0]) ?_ 2 _ rfl; (with_reducible repeat (first | refine blk_drewN ?_ _ | refine blk_drew ?_ | refine blk_alloc ?_ _)); refine blk_put (cs := #[.int .i64 XG, .int .i64 0, .int .i64 0, .int .i64 0]) ?_ 1 _ rfl; (with_reducible repeat (first | refine blk_drewN ?_ _ | refine blk_drew ?_ | refine blk_alloc ?_ _)); refine blk_put (cs := #[.int .i64 0, .int .i64 0, .int .i64 0, .int .i64 0]) ?_ 0 _ rfl; (with_reducible repeat (first | refine blk_drewN ?_ _ | refine blk_drew ?_ | refine blk_alloc ?_ _)); exact cA.out) Try.underlying37 rfl q3_9) rfl ?_
         exact ⟨q3_5, q3_0⟩
        ·rw [if_neg c45] at H
         have VG : (eA == 0) = false := beq_eq_false_iff_ne.mpr c45
         have WG : (eA != 0) = true := bne_iff_ne.mpr c45
         have HC52 := Aside0.mk H
         clear H
         go_upto_region 11 with (first | ((with_reducible refine gate_callee (f := 54) rfl ?_); refine goesL_ (some 56) rfl rfl Try.func54 q3_9 rfl #[.int .i64 DA, .int .i64 0, .int .i64 (wrap64 (a0 - 1))] rfl q3_3 ?_; (with_reducible refine (spec_l01In.calls DA 0 (wrap64 (a0 - 1)) true _ A42.out).mono ?_); rintro e w' ⟨rfl, ⟨nd, rfl⟩⟩; refine ⟨_, rfl, ?_⟩; have iK := gA.out; have jK := hA.out; have KF : wc.cell? ⟨bA, 0, none⟩ = some (.int .i64 fA) := (blk_cell aA.out 0).trans rfl; have LF : wc.cell? ⟨bA, 1, none⟩ = some (.int .i64 kA) := (blk_cell aA.out 1).trans rfl; have MF : wc.cell? ⟨bA, 2, none⟩ = some (.int .i64 lA) := (blk_cell aA.out 2).trans rfl; have NF : wc.cell? ⟨bA, 3, none⟩ = some (.int .i64 eA) := (blk_cell aA.out 3).trans rfl; have OF : wc.cell? ⟨bA, 4, none⟩ = some (.int .i64 mA) := (blk_cell aA.out 4).trans rfl; have PF : wc.cell? ⟨bA, 5, none⟩ = some (.int .i64 jA) := (blk_cell aA.out 5).trans rfl; have QF : wc.cell? ⟨bA, 6, none⟩ = some (.int .i64 iA) := (blk_cell aA.out 6).trans rfl; have RF : wc.cell? ⟨bA, 7, none⟩ = some (.int .i64 nA) := (blk_cell aA.out 7).trans rfl; have SF : wc.cell? ⟨bA, 8, none⟩ = some (.int .i64 oA) := (blk_cell aA.out 8).trans rfl; have TF : wc.cell? ⟨bA, 9, none⟩ = some (.bool pA) := (blk_cell aA.out 9).trans rfl; have UF := blk_frozen aA.out 0; have VF := blk_frozen aA.out 1; have WF := blk_frozen aA.out 2; have XF := blk_frozen aA.out 3; have YF := blk_frozen aA.out 4; have ZF := blk_frozen aA.out 5; have aG := blk_frozen aA.out 6; have bG := blk_frozen aA.out 7; have cG := blk_frozen aA.out 8; have dG := blk_frozen aA.out 9) | ((with_reducible refine gate_callee (f := 55) rfl ?_); refine goesL_ (some 62) rfl rfl Try.func55 q3_9 rfl #[.int .i64 iA] rfl q3_3 ?_; (with_reducible refine (spec_l03Word.calls iA CE UG _ A44.out).mono ?_); rintro e w' ⟨rfl, ⟨nd, rfl⟩⟩; refine ⟨_, rfl, ?_⟩))
         (try simp only [Act.put, List.setIfInBounds_toArray, List.set_cons_zero, List.set_cons_succ])
         go_cut [72] (fun v72 wc => ∃ (kq : Nat) (tE : Bool), v72 = .bool tE ∧ Aside0 (spec_StAct.j2 kq DA CE UG tE fA kA lA eA mA jA iA nA oA pA = some (r1, r2, r3, r4, r5)) ∧ Aside0 (kq ≤ kj27) ∧ Aside0 (wc.heap[bA]? = some (.cells #[.int .i64 fA, .int .i64 kA, .int .i64 lA, .int .i64 eA, .int .i64 mA, .int .i64 jA, .int .i64 iA, .int .i64 nA, .int .i64 oA, .bool pA] 23 (0, 0))) ∧ Aside0 (wc.heap[dA]? = some (.cells #[.int .i64 0, .int .i64 0, .int .i64 0, .int .i64 0] 37 (0, 0))) ∧ Aside0 (Below w.heap.size w wc))
         case first =>
          have H := HC52.out
          clear HC52
          by_cases c55 : eA = 1
          ·rw [if_pos c55] at H
           have EC : (eA == 1) = true := beq_iff_eq.mpr c55
           have YG : (eA != 1) = false := bne_eq_false_iff_eq.mpr c55
           clear c55
           (first | rw [EC] | (simp only [i64_w, i32_w]; rw [EC]) | skip)
           have H' := Aside0.mk H
           clear H
           have kK := gA.out
           have lK := hA.out
           have eG : wc.cell? ⟨bA, 0, none⟩ = some (.int .i64 fA) := (blk_cell aA.out 0).trans rfl
           have fG : wc.cell? ⟨bA, 1, none⟩ = some (.int .i64 kA) := (blk_cell aA.out 1).trans rfl
           have gG : wc.cell? ⟨bA, 2, none⟩ = some (.int .i64 lA) := (blk_cell aA.out 2).trans rfl
           have hG : wc.cell? ⟨bA, 3, none⟩ = some (.int .i64 eA) := (blk_cell aA.out 3).trans rfl
           have iG : wc.cell? ⟨bA, 4, none⟩ = some (.int .i64 mA) := (blk_cell aA.out 4).trans rfl
           have jG : wc.cell? ⟨bA, 5, none⟩ = some (.int .i64 jA) := (blk_cell aA.out 5).trans rfl
           have kG : wc.cell? ⟨bA, 6, none⟩ = some (.int .i64 iA) := (blk_cell aA.out 6).trans rfl
           have lG : wc.cell? ⟨bA, 7, none⟩ = some (.int .i64 nA) := (blk_cell aA.out 7).trans rfl
           have mG : wc.cell? ⟨bA, 8, none⟩ = some (.int .i64 oA) := (blk_cell aA.out 8).trans rfl
           have nG : wc.cell? ⟨bA, 9, none⟩ = some (.bool pA) := (blk_cell aA.out 9).trans rfl
           have oG := blk_frozen aA.out 0
           have pG := blk_frozen aA.out 1
           have qG := blk_frozen aA.out 2
           have rG := blk_frozen aA.out 3
           have sG := blk_frozen aA.out 4
           have tG := blk_frozen aA.out 5
           have uG := blk_frozen aA.out 6
           have vG := blk_frozen aA.out 7
           have wG := blk_frozen aA.out 8
           have xG := blk_frozen aA.out 9
           go_wp2
           go_meet
           case rel => exact ⟨_, ((fA == 1)), q3_6, H', ⟨by have := HJ2.out; have := HJ27.out; first | omega | exact Nat.le_refl _⟩, ⟨q3_1⟩, ⟨q3_2⟩, ⟨q3_0⟩⟩
          ·rw [if_neg c55] at H
           have EC : (eA == 1) = false := beq_eq_false_iff_ne.mpr c55
           have YG : (eA != 1) = true := bne_iff_ne.mpr c55
           (first | rw [EC] | (simp only [i64_w, i32_w]; rw [EC]) | skip)
           have H' := Aside0.mk H
           clear H
           have mK := gA.out
           have nK := hA.out
           have yG : wc.cell? ⟨bA, 0, none⟩ = some (.int .i64 fA) := (blk_cell aA.out 0).trans rfl
           have zG : wc.cell? ⟨bA, 1, none⟩ = some (.int .i64 kA) := (blk_cell aA.out 1).trans rfl
           have AG : wc.cell? ⟨bA, 2, none⟩ = some (.int .i64 lA) := (blk_cell aA.out 2).trans rfl
           have BG : wc.cell? ⟨bA, 3, none⟩ = some (.int .i64 eA) := (blk_cell aA.out 3).trans rfl
           have CG : wc.cell? ⟨bA, 4, none⟩ = some (.int .i64 mA) := (blk_cell aA.out 4).trans rfl
           have DG : wc.cell? ⟨bA, 5, none⟩ = some (.int .i64 jA) := (blk_cell aA.out 5).trans rfl
           have EG : wc.cell? ⟨bA, 6, none⟩ = some (.int .i64 iA) := (blk_cell aA.out 6).trans rfl
           have FG : wc.cell? ⟨bA, 7, none⟩ = some (.int .i64 nA) := (blk_cell aA.out 7).trans rfl
           have GG : wc.cell? ⟨bA, 8, none⟩ = some (.int .i64 oA) := (blk_cell aA.out 8).trans rfl
           have HG : wc.cell? ⟨bA, 9, none⟩ = some (.bool pA) := (blk_cell aA.out 9).trans rfl
           have IG := blk_frozen aA.out 0
           have JG := blk_frozen aA.out 1
           have KG := blk_frozen aA.out 2
           have LG := blk_frozen aA.out 3
           have MG := blk_frozen aA.out 4
           have NG := blk_frozen aA.out 5
           have OG := blk_frozen aA.out 6
           have PG := blk_frozen aA.out 7
           have QG := blk_frozen aA.out 8
           have RG := blk_frozen aA.out 9
           go_wp2
           go_meet
           case rel => exact ⟨_, (false), q3_6, H', ⟨by have := HJ2.out; have := HJ27.out; first | omega | exact Nat.le_refl _⟩, ⟨q3_1⟩, ⟨q3_2⟩, ⟨q3_0⟩⟩
         case rest =>
          clear HC52
          (try clear c1); (try clear c2); (try clear p2); (try clear c3); (try clear c4); (try clear c5); (try clear c6); (try clear p6); (try clear c7); (try clear c10); (try clear c11); (try clear EA); (try clear c12); (try clear c14); (try clear AE); (try clear c15); (try clear c17); (try clear BE); (try clear c18); (try clear c20); (try clear c22); (try clear c23); (try clear c24); (try clear c25); (try clear c29); (try clear c32); (try clear FA); (try clear FE); (try clear c33); (try clear c35); (try clear c37); (try clear c40); (try clear c43); (try clear c45); (try clear VG); (try clear WG); (try clear c47); (try clear c52); (try clear c53); (try clear c54); (try clear c55); (try clear EC); (try clear YG); (try clear c56); (try clear c58); (try clear GA); (try clear IA); (try clear JA); (try clear KA); (try clear LA); (try clear MA); (try clear NA); (try clear OA); (try clear PA); (try clear QA); (try clear bB); (try clear cB); (try clear dB); (try clear eB); (try clear fB); (try clear gB); (try clear hB); (try clear iB); (try clear jB); (try clear kB); (try clear vB); (try clear wB); (try clear xB); (try clear yB); (try clear zB); (try clear AB); (try clear BB); (try clear CB); (try clear DB); (try clear EB); (try clear QB); (try clear RB); (try clear SB); (try clear TB); (try clear UB); (try clear VB); (try clear WB); (try clear XB); (try clear YB); (try clear ZB); (try clear kC); (try clear lC); (try clear mC); (try clear nC); (try clear oC); (try clear pC); (try clear qC); (try clear rC); (try clear sC); (try clear tC); (try clear cD); (try clear dD); (try clear eD); (try clear fD); (try clear kD); (try clear lD); (try clear mD); (try clear nD); (try clear oD); (try clear pD); (try clear qD); (try clear rD); (try clear sD); (try clear tD); (try clear FD); (try clear GD); (try clear HD); (try clear ID); (try clear JD); (try clear KD); (try clear LD); (try clear MD); (try clear ND); (try clear OD); (try clear ZD); (try clear aE); (try clear bE); (try clear cE); (try clear dE); (try clear eE); (try clear fE); (try clear gE); (try clear hE); (try clear iE); (try clear GE); (try clear HE); (try clear IE); (try clear JE); (try clear OE); (try clear PE); (try clear QE); (try clear RE); (try clear SE); (try clear TE); (try clear UE); (try clear VE); (try clear WE); (try clear XE); (try clear iF); (try clear jF); (try clear kF); (try clear lF); (try clear mF); (try clear nF); (try clear oF); (try clear pF); (try clear qF); (try clear rF); (try clear CF); (try clear DF); (try clear EF); (try clear FF); (try clear KF); (try clear LF); (try clear MF); (try clear NF); (try clear OF); (try clear PF); (try clear QF); (try clear RF); (try clear SF); (try clear TF); (try clear eG); (try clear fG); (try clear gG); (try clear hG); (try clear iG); (try clear jG); (try clear kG); (try clear lG); (try clear mG); (try clear nG); (try clear yG); (try clear zG); (try clear AG); (try clear BG); (try clear CG); (try clear DG); (try clear EG); (try clear FG); (try clear GG); (try clear HG); (try clear IC); (try clear JC); (try clear KC); (try clear LC); (try clear MC); (try clear NC); (try clear OC); (try clear PC); (try clear QC); (try clear RC); (try clear RA); (try clear SA); (try clear TA); (try clear UA); (try clear VA); (try clear WA); (try clear XA); (try clear YA); (try clear ZA); (try clear aB); (try clear lB); (try clear mB); (try clear nB); (try clear oB); (try clear pB); (try clear qB); (try clear rB); (try clear sB); (try clear tB); (try clear uB); (try clear FB); (try clear GB); (try clear IB); (try clear JB); (try clear KB); (try clear LB); (try clear MB); (try clear NB); (try clear OB); (try clear PB); (try clear aC); (try clear bC); (try clear cC); (try clear dC); (try clear eC); (try clear fC); (try clear gC); (try clear hC); (try clear iC); (try clear jC); (try clear uC); (try clear vC); (try clear wC); (try clear xC); (try clear yC); (try clear zC); (try clear AC); (try clear BC); (try clear CC); (try clear DC); (try clear gD); (try clear hD); (try clear iD); (try clear jD); (try clear uD); (try clear vD); (try clear wD); (try clear xD); (try clear yD); (try clear zD); (try clear AD); (try clear BD); (try clear CD); (try clear DD); (try clear PD); (try clear QD); (try clear RD); (try clear SD); (try clear TD); (try clear UD); (try clear VD); (try clear WD); (try clear XD); (try clear YD); (try clear jE); (try clear kE); (try clear lE); (try clear mE); (try clear nE); (try clear oE); (try clear pE); (try clear qE); (try clear rE); (try clear sE); (try clear KE); (try clear LE); (try clear ME); (try clear NE); (try clear YE); (try clear ZE); (try clear aF); (try clear bF); (try clear cF); (try clear dF); (try clear eF); (try clear fF); (try clear gF); (try clear hF); (try clear sF); (try clear tF); (try clear uF); (try clear vF); (try clear wF); (try clear xF); (try clear yF); (try clear zF); (try clear AF); (try clear BF); (try clear GF); (try clear HF); (try clear IF); (try clear JF); (try clear UF); (try clear VF); (try clear WF); (try clear XF); (try clear YF); (try clear ZF); (try clear aG); (try clear bG); (try clear cG); (try clear dG); (try clear oG); (try clear pG); (try clear qG); (try clear rG); (try clear sG); (try clear tG); (try clear uG); (try clear vG); (try clear wG); (try clear xG); (try clear IG); (try clear JG); (try clear KG); (try clear LG); (try clear MG); (try clear NG); (try clear OG); (try clear PG); (try clear QG); (try clear RG); (try clear SC); (try clear TC); (try clear UC); (try clear VC); (try clear WC); (try clear XC); (try clear YC); (try clear ZC); (try clear aD); (try clear bD); (try clear p2)
          obtain ⟨kq, tE, rfl, HA, HJ51, aA, cA, HB⟩ := hcut
          cases kq with
          | zero => exact absurd HA.out (by simp [spec_StAct.j2])
          | succ kj51 =>
           have H := HA.out
           clear HA
           simp only [spec_StAct.j2] at H
           by_cases c60 : tE = true
           ·subst c60
            rw [if_pos rfl] at H
            replace H := Option.bind_eq_some_iff.mp H
            obtain ⟨⟨ZG, eH, uI, BI, DJ⟩, A610, H⟩ := H
            (try dsimp only at H)
            have A61 := Aside0.mk A610
            clear A610
            simp only [Option.some.injEq, Prod.mk.injEq] at H
            obtain ⟨rfl, rfl, rfl, rfl, rfl⟩ := H
            go_wp2_with (first | ((with_reducible refine gate_callee (f := 56) rfl ?_); refine goesL_ (some 84) rfl rfl Try.func56 q3_9 rfl #[.int .i64 (wrap64 (1 + DA)), .int .i64 UG] rfl q3_3 ?_; (with_reducible refine (spec_l03Store.calls (wrap64 (1 + DA)) UG ZG eH uI BI DJ _ A61.out).mono ?_); rintro e GI ⟨rfl, hb⟩; refine ⟨_, rfl, ?_⟩; have AA := Aside0.mk (blk_below (g := bA) (o := .cells #[.int .i64 fA, .int .i64 kA, .int .i64 lA, .int .i64 eA, .int .i64 mA, .int .i64 jA, .int .i64 iA, .int .i64 nA, .int .i64 oA, .bool pA] 23 (0, 0)) q3_1 hb); have BA := Aside0.mk (blk_below (g := dA) (o := .cells #[.int .i64 0, .int .i64 0, .int .i64 0, .int .i64 0] 37 (0, 0)) q3_2 hb); have CA := Aside0.mk (below_step q3_0 hb); clear aA cA HB; have aA := AA; have cA := BA; have HB := CA; clear AA BA CA; (try clear hb); (try clear hb2); (try clear hk); (try clear hi); have oK := hA.out; have pK := gA.out; have fH : GI.cell? ⟨dA, 0, none⟩ = some (.int .i64 0) := (blk_cell cA.out 0).trans rfl; have gH : GI.cell? ⟨dA, 1, none⟩ = some (.int .i64 0) := (blk_cell cA.out 1).trans rfl; have hH : GI.cell? ⟨dA, 2, none⟩ = some (.int .i64 0) := (blk_cell cA.out 2).trans rfl; have iH : GI.cell? ⟨dA, 3, none⟩ = some (.int .i64 0) := (blk_cell cA.out 3).trans rfl; have jH := blk_frozen cA.out 0; have kH := blk_frozen cA.out 1; have lH := blk_frozen cA.out 2; have mH := blk_frozen cA.out 3))
            refine bodyPost_ret (results_ct rfl _ _ dA 37 #[.int .i64 ZG, .int .i64 eH, .int .i64 uI, .int .i64 BI] (0, 0) _ rfl (by (with_reducible repeat (first | refine blk_drewN ?_ _ | refine blk_drew ?_ | refine blk_alloc ?_ _)); refine blk_put (cs := #[.int .i64 ZG, .int .i64 eH, .int .i64 uI, .int .i64 0]) ?_ 3 _ rfl; (with_reducible repeat (first | refine blk_drewN ?_ _ | refine blk_drew ?_ | refine blk_alloc ?_ _)); refine blk_put (cs := #[.int .i64 ZG, .int .i64 eH, .int .i64 0, .int .i64 0]) ?_ 2 _ rfl; (with_reducible repeat (first | refine blk_drewN ?_ _ | refine blk_drew ?_ | refine blk_alloc ?_ _)); refine blk_put (cs := #[.int .i64 ZG, .int .i64 0, .int .i64 0, .int .i64 0]) ?_ 1 _ rfl; (with_reducible repeat (first | refine blk_drewN ?_ _ | refine blk_drew ?_ | refine blk_alloc ?_ _)); refine blk_put (cs := #[.int .i64 0, .int .i64 0, .int .i64 0, .int .i64 0]) ?_ 0 _ rfl; (with_reducible repeat (first | refine blk_drewN ?_ _ | refine blk_drew ?_ | refine blk_alloc ?_ _)); exact cA.out) Try.underlying37 rfl q3_9) rfl ?_
            exact ⟨q3_5, q3_0⟩
           ·replace c60 := Bool.eq_false_iff.mpr c60
            subst c60
            rw [if_neg (show ¬ (false = true) by decide)] at H
            by_cases c65 : eA = 1
            ·rw [if_pos c65] at H
             have oI : (eA == 1) = true := beq_iff_eq.mpr c65
             have pI : (eA != 1) = false := bne_eq_false_iff_eq.mpr c65
             clear c65
             replace H := Option.bind_eq_some_iff.mp H
             obtain ⟨⟨aH, nH, vI, CI, EJ⟩, A660, H⟩ := H
             (try dsimp only at H)
             have A66 := Aside0.mk A660
             clear A660
             simp only [Option.some.injEq, Prod.mk.injEq] at H
             obtain ⟨rfl, rfl, rfl, rfl, rfl⟩ := H
             have qK := gA.out
             have rK := hA.out
             have oH : wc.cell? ⟨bA, 0, none⟩ = some (.int .i64 fA) := (blk_cell aA.out 0).trans rfl
             have pH : wc.cell? ⟨bA, 1, none⟩ = some (.int .i64 kA) := (blk_cell aA.out 1).trans rfl
             have qH : wc.cell? ⟨bA, 2, none⟩ = some (.int .i64 lA) := (blk_cell aA.out 2).trans rfl
             have rH : wc.cell? ⟨bA, 3, none⟩ = some (.int .i64 eA) := (blk_cell aA.out 3).trans rfl
             have sH : wc.cell? ⟨bA, 4, none⟩ = some (.int .i64 mA) := (blk_cell aA.out 4).trans rfl
             have tH : wc.cell? ⟨bA, 5, none⟩ = some (.int .i64 jA) := (blk_cell aA.out 5).trans rfl
             have uH : wc.cell? ⟨bA, 6, none⟩ = some (.int .i64 iA) := (blk_cell aA.out 6).trans rfl
             have vH : wc.cell? ⟨bA, 7, none⟩ = some (.int .i64 nA) := (blk_cell aA.out 7).trans rfl
             have wH : wc.cell? ⟨bA, 8, none⟩ = some (.int .i64 oA) := (blk_cell aA.out 8).trans rfl
             have xH : wc.cell? ⟨bA, 9, none⟩ = some (.bool pA) := (blk_cell aA.out 9).trans rfl
             have yH := blk_frozen aA.out 0
             have zH := blk_frozen aA.out 1
             have AH := blk_frozen aA.out 2
             have BH := blk_frozen aA.out 3
             have CH := blk_frozen aA.out 4
             have DH := blk_frozen aA.out 5
             have EH := blk_frozen aA.out 6
             have FH := blk_frozen aA.out 7
             have GH := blk_frozen aA.out 8
             have HH := blk_frozen aA.out 9
             go_wp2_with (first | ((with_reducible refine gate_callee (f := 53) rfl ?_); refine goesL_ (some 93) rfl rfl Try.func53 q3_9 rfl #[.int .i64 (wrap64 (1 + DA))] rfl q3_3 ?_; (with_reducible refine (spec_l03Load.calls (wrap64 (1 + DA)) aH nH vI CI EJ _ A66.out).mono ?_); rintro e HI ⟨rfl, hb⟩; refine ⟨_, rfl, ?_⟩; have AA := Aside0.mk (blk_below (g := bA) (o := .cells #[.int .i64 fA, .int .i64 kA, .int .i64 lA, .int .i64 eA, .int .i64 mA, .int .i64 jA, .int .i64 iA, .int .i64 nA, .int .i64 oA, .bool pA] 23 (0, 0)) q3_1 hb); have BA := Aside0.mk (blk_below (g := dA) (o := .cells #[.int .i64 0, .int .i64 0, .int .i64 0, .int .i64 0] 37 (0, 0)) q3_2 hb); have CA := Aside0.mk (below_step q3_0 hb); clear aA cA HB; have aA := AA; have cA := BA; have HB := CA; clear AA BA CA; (try clear hb); (try clear hb2); (try clear hk); (try clear hi); have IH : HI.cell? ⟨dA, 0, none⟩ = some (.int .i64 0) := (blk_cell cA.out 0).trans rfl; have JH : HI.cell? ⟨dA, 1, none⟩ = some (.int .i64 0) := (blk_cell cA.out 1).trans rfl; have KH : HI.cell? ⟨dA, 2, none⟩ = some (.int .i64 0) := (blk_cell cA.out 2).trans rfl; have LH : HI.cell? ⟨dA, 3, none⟩ = some (.int .i64 0) := (blk_cell cA.out 3).trans rfl; have MH := blk_frozen cA.out 0; have NH := blk_frozen cA.out 1; have OH := blk_frozen cA.out 2; have PH := blk_frozen cA.out 3))
             refine bodyPost_ret (results_ct rfl _ _ dA 37 #[.int .i64 aH, .int .i64 nH, .int .i64 vI, .int .i64 CI] (0, 0) _ rfl (by (with_reducible repeat (first | refine blk_drewN ?_ _ | refine blk_drew ?_ | refine blk_alloc ?_ _)); refine blk_put (cs := #[.int .i64 aH, .int .i64 nH, .int .i64 vI, .int .i64 0]) ?_ 3 _ rfl; (with_reducible repeat (first | refine blk_drewN ?_ _ | refine blk_drew ?_ | refine blk_alloc ?_ _)); refine blk_put (cs := #[.int .i64 aH, .int .i64 nH, .int .i64 0, .int .i64 0]) ?_ 2 _ rfl; (with_reducible repeat (first | refine blk_drewN ?_ _ | refine blk_drew ?_ | refine blk_alloc ?_ _)); refine blk_put (cs := #[.int .i64 aH, .int .i64 0, .int .i64 0, .int .i64 0]) ?_ 1 _ rfl; (with_reducible repeat (first | refine blk_drewN ?_ _ | refine blk_drew ?_ | refine blk_alloc ?_ _)); refine blk_put (cs := #[.int .i64 0, .int .i64 0, .int .i64 0, .int .i64 0]) ?_ 0 _ rfl; (with_reducible repeat (first | refine blk_drewN ?_ _ | refine blk_drew ?_ | refine blk_alloc ?_ _)); exact cA.out) Try.underlying37 rfl q3_9) rfl ?_
             exact ⟨q3_5, q3_0⟩
            ·rw [if_neg c65] at H
             have oI : (eA == 1) = false := beq_eq_false_iff_ne.mpr c65
             have pI : (eA != 1) = true := bne_iff_ne.mpr c65
             have HC71 := Aside0.mk H
             clear H
             have sK := gA.out
             have tK := hA.out
             have QH : wc.cell? ⟨bA, 0, none⟩ = some (.int .i64 fA) := (blk_cell aA.out 0).trans rfl
             have RH : wc.cell? ⟨bA, 1, none⟩ = some (.int .i64 kA) := (blk_cell aA.out 1).trans rfl
             have SH : wc.cell? ⟨bA, 2, none⟩ = some (.int .i64 lA) := (blk_cell aA.out 2).trans rfl
             have TH : wc.cell? ⟨bA, 3, none⟩ = some (.int .i64 eA) := (blk_cell aA.out 3).trans rfl
             have UH : wc.cell? ⟨bA, 4, none⟩ = some (.int .i64 mA) := (blk_cell aA.out 4).trans rfl
             have VH : wc.cell? ⟨bA, 5, none⟩ = some (.int .i64 jA) := (blk_cell aA.out 5).trans rfl
             have WH : wc.cell? ⟨bA, 6, none⟩ = some (.int .i64 iA) := (blk_cell aA.out 6).trans rfl
             have XH : wc.cell? ⟨bA, 7, none⟩ = some (.int .i64 nA) := (blk_cell aA.out 7).trans rfl
             have YH : wc.cell? ⟨bA, 8, none⟩ = some (.int .i64 oA) := (blk_cell aA.out 8).trans rfl
             have ZH : wc.cell? ⟨bA, 9, none⟩ = some (.bool pA) := (blk_cell aA.out 9).trans rfl
             have aI := blk_frozen aA.out 0
             have bI := blk_frozen aA.out 1
             have cI := blk_frozen aA.out 2
             have dI := blk_frozen aA.out 3
             have eI := blk_frozen aA.out 4
             have fI := blk_frozen aA.out 5
             have gI := blk_frozen aA.out 6
             have hI := blk_frozen aA.out 7
             have iI := blk_frozen aA.out 8
             have jI := blk_frozen aA.out 9
             go_upto_if 100 with (fail)
             go_cut [9] (fun v9 wc => ∃ (kq : Nat) (FC : Int), v9 = .int .i64 FC ∧ Aside0 (spec_StAct.j3 kq CE FC fA kA lA eA mA jA iA nA oA pA = some (r1, r2, r3, r4, r5)) ∧ Aside0 (kq ≤ kj51) ∧ Aside0 (wc.heap[bA]? = some (.cells #[.int .i64 fA, .int .i64 kA, .int .i64 lA, .int .i64 eA, .int .i64 mA, .int .i64 jA, .int .i64 iA, .int .i64 nA, .int .i64 oA, .bool pA] 23 (0, 0))) ∧ Aside0 (wc.heap[dA]? = some (.cells #[.int .i64 0, .int .i64 0, .int .i64 0, .int .i64 0] 37 (0, 0))) ∧ Aside0 (Below w.heap.size w wc))
             case first =>
              have H := HC71.out
              clear HC71
              by_cases c74 : fA = 1
              ·rw [if_pos c74] at H
               have HC : (fA == 1) = true := beq_iff_eq.mpr c74
               have qI : (fA != 1) = false := bne_eq_false_iff_eq.mpr c74
               clear c74
               (first | rw [HC] | (simp only [i64_w, i32_w]; rw [HC]) | skip)
               have H' := Aside0.mk H
               clear H
               go_wp2
               go_meet
               case rel => exact ⟨_, (wrap64 (DA + 1)), q3_6, H', ⟨by have := HJ2.out; have := HJ27.out; have := HJ51.out; first | omega | exact Nat.le_refl _⟩, ⟨q3_1⟩, ⟨q3_2⟩, ⟨q3_0⟩⟩
              ·rw [if_neg c74] at H
               have HC : (fA == 1) = false := beq_eq_false_iff_ne.mpr c74
               have qI : (fA != 1) = true := bne_iff_ne.mpr c74
               (first | rw [HC] | (simp only [i64_w, i32_w]; rw [HC]) | skip)
               have H' := Aside0.mk H
               clear H
               go_wp2
               go_meet
               case rel => exact ⟨_, (jA), q3_6, H', ⟨by have := HJ2.out; have := HJ27.out; have := HJ51.out; first | omega | exact Nat.le_refl _⟩, ⟨q3_1⟩, ⟨q3_2⟩, ⟨q3_0⟩⟩
             case rest =>
              clear HC71
              (try clear c1); (try clear c2); (try clear p2); (try clear c3); (try clear c4); (try clear c5); (try clear c6); (try clear p6); (try clear c7); (try clear c10); (try clear c11); (try clear EA); (try clear c12); (try clear c14); (try clear AE); (try clear c15); (try clear c17); (try clear BE); (try clear c18); (try clear c20); (try clear c22); (try clear c23); (try clear c24); (try clear c25); (try clear c29); (try clear c32); (try clear FA); (try clear FE); (try clear c33); (try clear c35); (try clear c37); (try clear c40); (try clear c43); (try clear c45); (try clear VG); (try clear WG); (try clear c47); (try clear c52); (try clear c53); (try clear c54); (try clear c55); (try clear EC); (try clear YG); (try clear c56); (try clear c58); (try clear c60); (try clear c63); (try clear p64); (try clear c65); (try clear oI); (try clear pI); (try clear c67); (try clear c72); (try clear c74); (try clear HC); (try clear qI); (try clear GA); (try clear IA); (try clear JA); (try clear KA); (try clear LA); (try clear MA); (try clear NA); (try clear OA); (try clear PA); (try clear QA); (try clear bB); (try clear cB); (try clear dB); (try clear eB); (try clear fB); (try clear gB); (try clear hB); (try clear iB); (try clear jB); (try clear kB); (try clear vB); (try clear wB); (try clear xB); (try clear yB); (try clear zB); (try clear AB); (try clear BB); (try clear CB); (try clear DB); (try clear EB); (try clear QB); (try clear RB); (try clear SB); (try clear TB); (try clear UB); (try clear VB); (try clear WB); (try clear XB); (try clear YB); (try clear ZB); (try clear kC); (try clear lC); (try clear mC); (try clear nC); (try clear oC); (try clear pC); (try clear qC); (try clear rC); (try clear sC); (try clear tC); (try clear cD); (try clear dD); (try clear eD); (try clear fD); (try clear kD); (try clear lD); (try clear mD); (try clear nD); (try clear oD); (try clear pD); (try clear qD); (try clear rD); (try clear sD); (try clear tD); (try clear FD); (try clear GD); (try clear HD); (try clear ID); (try clear JD); (try clear KD); (try clear LD); (try clear MD); (try clear ND); (try clear OD); (try clear ZD); (try clear aE); (try clear bE); (try clear cE); (try clear dE); (try clear eE); (try clear fE); (try clear gE); (try clear hE); (try clear iE); (try clear GE); (try clear HE); (try clear IE); (try clear JE); (try clear OE); (try clear PE); (try clear QE); (try clear RE); (try clear SE); (try clear TE); (try clear UE); (try clear VE); (try clear WE); (try clear XE); (try clear iF); (try clear jF); (try clear kF); (try clear lF); (try clear mF); (try clear nF); (try clear oF); (try clear pF); (try clear qF); (try clear rF); (try clear CF); (try clear DF); (try clear EF); (try clear FF); (try clear KF); (try clear LF); (try clear MF); (try clear NF); (try clear OF); (try clear PF); (try clear QF); (try clear RF); (try clear SF); (try clear TF); (try clear eG); (try clear fG); (try clear gG); (try clear hG); (try clear iG); (try clear jG); (try clear kG); (try clear lG); (try clear mG); (try clear nG); (try clear yG); (try clear zG); (try clear AG); (try clear BG); (try clear CG); (try clear DG); (try clear EG); (try clear FG); (try clear GG); (try clear HG); (try clear fH); (try clear gH); (try clear hH); (try clear iH); (try clear oH); (try clear pH); (try clear qH); (try clear rH); (try clear sH); (try clear tH); (try clear uH); (try clear vH); (try clear wH); (try clear xH); (try clear IH); (try clear JH); (try clear KH); (try clear LH); (try clear QH); (try clear RH); (try clear SH); (try clear TH); (try clear UH); (try clear VH); (try clear WH); (try clear XH); (try clear YH); (try clear ZH); (try clear IC); (try clear JC); (try clear KC); (try clear LC); (try clear MC); (try clear NC); (try clear OC); (try clear PC); (try clear QC); (try clear RC); (try clear RA); (try clear SA); (try clear TA); (try clear UA); (try clear VA); (try clear WA); (try clear XA); (try clear YA); (try clear ZA); (try clear aB); (try clear lB); (try clear mB); (try clear nB); (try clear oB); (try clear pB); (try clear qB); (try clear rB); (try clear sB); (try clear tB); (try clear uB); (try clear FB); (try clear GB); (try clear IB); (try clear JB); (try clear KB); (try clear LB); (try clear MB); (try clear NB); (try clear OB); (try clear PB); (try clear aC); (try clear bC); (try clear cC); (try clear dC); (try clear eC); (try clear fC); (try clear gC); (try clear hC); (try clear iC); (try clear jC); (try clear uC); (try clear vC); (try clear wC); (try clear xC); (try clear yC); (try clear zC); (try clear AC); (try clear BC); (try clear CC); (try clear DC); (try clear gD); (try clear hD); (try clear iD); (try clear jD); (try clear uD); (try clear vD); (try clear wD); (try clear xD); (try clear yD); (try clear zD); (try clear AD); (try clear BD); (try clear CD); (try clear DD); (try clear PD); (try clear QD); (try clear RD); (try clear SD); (try clear TD); (try clear UD); (try clear VD); (try clear WD); (try clear XD); (try clear YD); (try clear jE); (try clear kE); (try clear lE); (try clear mE); (try clear nE); (try clear oE); (try clear pE); (try clear qE); (try clear rE); (try clear sE); (try clear KE); (try clear LE); (try clear ME); (try clear NE); (try clear YE); (try clear ZE); (try clear aF); (try clear bF); (try clear cF); (try clear dF); (try clear eF); (try clear fF); (try clear gF); (try clear hF); (try clear sF); (try clear tF); (try clear uF); (try clear vF); (try clear wF); (try clear xF); (try clear yF); (try clear zF); (try clear AF); (try clear BF); (try clear GF); (try clear HF); (try clear IF); (try clear JF); (try clear UF); (try clear VF); (try clear WF); (try clear XF); (try clear YF); (try clear ZF); (try clear aG); (try clear bG); (try clear cG); (try clear dG); (try clear oG); (try clear pG); (try clear qG); (try clear rG); (try clear sG); (try clear tG); (try clear uG); (try clear vG); (try clear wG); (try clear xG); (try clear IG); (try clear JG); (try clear KG); (try clear LG); (try clear MG); (try clear NG); (try clear OG); (try clear PG); (try clear QG); (try clear RG); (try clear jH); (try clear kH); (try clear lH); (try clear mH); (try clear yH); (try clear zH); (try clear AH); (try clear BH); (try clear CH); (try clear DH); (try clear EH); (try clear FH); (try clear GH); (try clear HH); (try clear MH); (try clear NH); (try clear OH); (try clear PH); (try clear aI); (try clear bI); (try clear cI); (try clear dI); (try clear eI); (try clear fI); (try clear gI); (try clear hI); (try clear iI); (try clear jI); (try clear SC); (try clear TC); (try clear UC); (try clear VC); (try clear WC); (try clear XC); (try clear YC); (try clear ZC); (try clear aD); (try clear bD); (try clear p2); (try clear p6)
              obtain ⟨kq, FC, rfl, HA, HJ70, aA, cA, HB⟩ := hcut
              cases kq with
              | zero => exact absurd HA.out (by simp [spec_StAct.j3])
              | succ kj70 =>
               have H := HA.out
               clear HA
               simp only [spec_StAct.j3] at H
               replace H := Option.bind_eq_some_iff.mp H
               obtain ⟨yE, A750, H⟩ := H
               (try dsimp only at H)
               have A75 := Aside0.mk A750
               clear A750
               replace H := Option.bind_eq_some_iff.mp H
               obtain ⟨⟨kI, FJ⟩, A760, H⟩ := H
               (try dsimp only at H)
               have A76 := Aside0.mk A760
               clear A760
               by_cases c77 : FJ = true
               ·subst c77
                rw [if_pos rfl] at H
                replace H := Option.bind_eq_some_iff.mp H
                obtain ⟨⟨bH, lI, wI, DI, GJ⟩, A780, H⟩ := H
                (try dsimp only at H)
                have A78 := Aside0.mk A780
                clear A780
                simp only [Option.some.injEq, Prod.mk.injEq] at H
                obtain ⟨rfl, rfl, rfl, rfl, rfl⟩ := H
                go_wp2_with (first | ((with_reducible refine gate_callee (f := 58) rfl ?_); refine goesL_ (some 105) rfl rfl Try.func58 q3_9 rfl #[.int .i64 CE] rfl q3_3 ?_; (with_reducible refine (spec_NextTag.calls CE yE _ A75.out).mono ?_); rintro e w' ⟨rfl, ⟨nd, rfl⟩⟩; refine ⟨_, rfl, ?_⟩; (try (rw [drewN_self wc]; generalize hq_ : World.drewN wc _ = wc; have AA : Aside0 (wc.heap[bA]? = some (.cells #[.int .i64 fA, .int .i64 kA, .int .i64 lA, .int .i64 eA, .int .i64 mA, .int .i64 jA, .int .i64 iA, .int .i64 nA, .int .i64 oA, .bool pA] 23 (0, 0))) := ⟨by rw [← hq_]; exact q3_1⟩; have BA : Aside0 (wc.heap[dA]? = some (.cells #[.int .i64 0, .int .i64 0, .int .i64 0, .int .i64 0] 37 (0, 0))) := ⟨by rw [← hq_]; exact q3_2⟩; have CA : Aside0 (Below w.heap.size w wc) := ⟨by rw [← hq_]; exact q3_0⟩; clear aA cA HB hq_; have aA := AA; have cA := BA; have HB := CA; clear AA BA CA))) | ((with_reducible refine gate_callee (f := 57) rfl ?_); refine goesL_ (some 107) rfl rfl Try.func57 q3_9 rfl #[.int .i64 yE, .int .i64 FC] rfl q3_3 ?_; (with_reducible refine (spec_Pack.calls yE FC kI true _ A76.out).mono ?_); rintro e w' ⟨rfl, ⟨nd, rfl⟩⟩; refine ⟨_, rfl, ?_⟩; (try (rw [drewN_self wc]; generalize hq_ : World.drewN wc _ = wc; have AA : Aside0 (wc.heap[bA]? = some (.cells #[.int .i64 fA, .int .i64 kA, .int .i64 lA, .int .i64 eA, .int .i64 mA, .int .i64 jA, .int .i64 iA, .int .i64 nA, .int .i64 oA, .bool pA] 23 (0, 0))) := ⟨by rw [← hq_]; exact q3_1⟩; have BA : Aside0 (wc.heap[dA]? = some (.cells #[.int .i64 0, .int .i64 0, .int .i64 0, .int .i64 0] 37 (0, 0))) := ⟨by rw [← hq_]; exact q3_2⟩; have CA : Aside0 (Below w.heap.size w wc) := ⟨by rw [← hq_]; exact q3_0⟩; clear aA cA HB hq_; have aA := AA; have cA := BA; have HB := CA; clear AA BA CA)); have uK := gA.out; have vK := hA.out; have II : wc.cell? ⟨bA, 0, none⟩ = some (.int .i64 fA) := (blk_cell aA.out 0).trans rfl; have JI : wc.cell? ⟨bA, 1, none⟩ = some (.int .i64 kA) := (blk_cell aA.out 1).trans rfl; have KI : wc.cell? ⟨bA, 2, none⟩ = some (.int .i64 lA) := (blk_cell aA.out 2).trans rfl; have LI : wc.cell? ⟨bA, 3, none⟩ = some (.int .i64 eA) := (blk_cell aA.out 3).trans rfl; have MI : wc.cell? ⟨bA, 4, none⟩ = some (.int .i64 mA) := (blk_cell aA.out 4).trans rfl; have NI : wc.cell? ⟨bA, 5, none⟩ = some (.int .i64 jA) := (blk_cell aA.out 5).trans rfl; have OI : wc.cell? ⟨bA, 6, none⟩ = some (.int .i64 iA) := (blk_cell aA.out 6).trans rfl; have PI : wc.cell? ⟨bA, 7, none⟩ = some (.int .i64 nA) := (blk_cell aA.out 7).trans rfl; have QI : wc.cell? ⟨bA, 8, none⟩ = some (.int .i64 oA) := (blk_cell aA.out 8).trans rfl; have RI : wc.cell? ⟨bA, 9, none⟩ = some (.bool pA) := (blk_cell aA.out 9).trans rfl; have SI := blk_frozen aA.out 0; have TI := blk_frozen aA.out 1; have UI := blk_frozen aA.out 2; have VI := blk_frozen aA.out 3; have WI := blk_frozen aA.out 4; have XI := blk_frozen aA.out 5; have YI := blk_frozen aA.out 6; have ZI := blk_frozen aA.out 7; have aJ := blk_frozen aA.out 8; have bJ := blk_frozen aA.out 9) | ((with_reducible refine gate_callee (f := 59) rfl ?_); refine goesL_ (some 116) rfl rfl Try.func59 q3_9 rfl #[.int .i64 0, .int .i64 iA, .int .i64 kI] rfl q3_3 ?_; (with_reducible refine (spec_l03Cas.calls 0 iA kI bH lI wI DI GJ _ A78.out).mono ?_); rintro e cJ ⟨rfl, hb⟩; refine ⟨_, rfl, ?_⟩; have AA := Aside0.mk (blk_below (g := bA) (o := .cells #[.int .i64 fA, .int .i64 kA, .int .i64 lA, .int .i64 eA, .int .i64 mA, .int .i64 jA, .int .i64 iA, .int .i64 nA, .int .i64 oA, .bool pA] 23 (0, 0)) q3_1 hb); have BA := Aside0.mk (blk_below (g := dA) (o := .cells #[.int .i64 0, .int .i64 0, .int .i64 0, .int .i64 0] 37 (0, 0)) q3_2 hb); have CA := Aside0.mk (below_step q3_0 hb); clear aA cA HB; have aA := AA; have cA := BA; have HB := CA; clear AA BA CA; (try clear hb); (try clear hb2); (try clear hk); (try clear hi); have dJ : cJ.cell? ⟨dA, 0, none⟩ = some (.int .i64 0) := (blk_cell cA.out 0).trans rfl; have eJ : cJ.cell? ⟨dA, 1, none⟩ = some (.int .i64 0) := (blk_cell cA.out 1).trans rfl; have fJ : cJ.cell? ⟨dA, 2, none⟩ = some (.int .i64 0) := (blk_cell cA.out 2).trans rfl; have gJ : cJ.cell? ⟨dA, 3, none⟩ = some (.int .i64 0) := (blk_cell cA.out 3).trans rfl; have hJ := blk_frozen cA.out 0; have iJ := blk_frozen cA.out 1; have jJ := blk_frozen cA.out 2; have kJ := blk_frozen cA.out 3))
                refine bodyPost_ret (results_ct rfl _ _ dA 37 #[.int .i64 bH, .int .i64 lI, .int .i64 wI, .int .i64 DI] (0, 0) _ rfl (by (with_reducible repeat (first | refine blk_drewN ?_ _ | refine blk_drew ?_ | refine blk_alloc ?_ _)); refine blk_put (cs := #[.int .i64 bH, .int .i64 lI, .int .i64 wI, .int .i64 0]) ?_ 3 _ rfl; (with_reducible repeat (first | refine blk_drewN ?_ _ | refine blk_drew ?_ | refine blk_alloc ?_ _)); refine blk_put (cs := #[.int .i64 bH, .int .i64 lI, .int .i64 0, .int .i64 0]) ?_ 2 _ rfl; (with_reducible repeat (first | refine blk_drewN ?_ _ | refine blk_drew ?_ | refine blk_alloc ?_ _)); refine blk_put (cs := #[.int .i64 bH, .int .i64 0, .int .i64 0, .int .i64 0]) ?_ 1 _ rfl; (with_reducible repeat (first | refine blk_drewN ?_ _ | refine blk_drew ?_ | refine blk_alloc ?_ _)); refine blk_put (cs := #[.int .i64 0, .int .i64 0, .int .i64 0, .int .i64 0]) ?_ 0 _ rfl; (with_reducible repeat (first | refine blk_drewN ?_ _ | refine blk_drew ?_ | refine blk_alloc ?_ _)); exact cA.out) Try.underlying37 rfl q3_9) rfl ?_
                exact ⟨q3_5, q3_0⟩
               ·replace c77 := Bool.eq_false_iff.mpr c77
                subst c77
                rw [if_neg (show ¬ (false = true) by decide)] at H
                simp only [Option.some.injEq, Prod.mk.injEq] at H
                obtain ⟨rfl, rfl, rfl, rfl, rfl⟩ := H
                go_wp2_with (first | ((with_reducible refine gate_callee (f := 58) rfl ?_); refine goesL_ (some 105) rfl rfl Try.func58 q3_9 rfl #[.int .i64 CE] rfl q3_3 ?_; (with_reducible refine (spec_NextTag.calls CE yE _ A75.out).mono ?_); rintro e w' ⟨rfl, ⟨nd, rfl⟩⟩; refine ⟨_, rfl, ?_⟩; (try (rw [drewN_self wc]; generalize hq_ : World.drewN wc _ = wc; have AA : Aside0 (wc.heap[bA]? = some (.cells #[.int .i64 fA, .int .i64 kA, .int .i64 lA, .int .i64 eA, .int .i64 mA, .int .i64 jA, .int .i64 iA, .int .i64 nA, .int .i64 oA, .bool pA] 23 (0, 0))) := ⟨by rw [← hq_]; exact q3_1⟩; have BA : Aside0 (wc.heap[dA]? = some (.cells #[.int .i64 0, .int .i64 0, .int .i64 0, .int .i64 0] 37 (0, 0))) := ⟨by rw [← hq_]; exact q3_2⟩; have CA : Aside0 (Below w.heap.size w wc) := ⟨by rw [← hq_]; exact q3_0⟩; clear aA cA HB hq_; have aA := AA; have cA := BA; have HB := CA; clear AA BA CA))) | ((with_reducible refine gate_callee (f := 57) rfl ?_); refine goesL_ (some 107) rfl rfl Try.func57 q3_9 rfl #[.int .i64 yE, .int .i64 FC] rfl q3_3 ?_; (with_reducible refine (spec_Pack.calls yE FC kI false _ A76.out).mono ?_); rintro e w' ⟨rfl, ⟨nd, rfl⟩⟩; refine ⟨_, rfl, ?_⟩; (try (rw [drewN_self wc]; generalize hq_ : World.drewN wc _ = wc; have AA : Aside0 (wc.heap[bA]? = some (.cells #[.int .i64 fA, .int .i64 kA, .int .i64 lA, .int .i64 eA, .int .i64 mA, .int .i64 jA, .int .i64 iA, .int .i64 nA, .int .i64 oA, .bool pA] 23 (0, 0))) := ⟨by rw [← hq_]; exact q3_1⟩; have BA : Aside0 (wc.heap[dA]? = some (.cells #[.int .i64 0, .int .i64 0, .int .i64 0, .int .i64 0] 37 (0, 0))) := ⟨by rw [← hq_]; exact q3_2⟩; have CA : Aside0 (Below w.heap.size w wc) := ⟨by rw [← hq_]; exact q3_0⟩; clear aA cA HB hq_; have aA := AA; have cA := BA; have HB := CA; clear AA BA CA)); have wK := hA.out; have xK := gA.out; have lJ : wc.cell? ⟨dA, 0, none⟩ = some (.int .i64 0) := (blk_cell cA.out 0).trans rfl; have mJ : wc.cell? ⟨dA, 1, none⟩ = some (.int .i64 0) := (blk_cell cA.out 1).trans rfl; have nJ : wc.cell? ⟨dA, 2, none⟩ = some (.int .i64 0) := (blk_cell cA.out 2).trans rfl; have oJ : wc.cell? ⟨dA, 3, none⟩ = some (.int .i64 0) := (blk_cell cA.out 3).trans rfl; have pJ := blk_frozen cA.out 0; have qJ := blk_frozen cA.out 1; have rJ := blk_frozen cA.out 2; have sJ := blk_frozen cA.out 3))
                refine bodyPost_ret (results_ct rfl _ _ dA 37 #[.int .i64 0, .int .i64 0, .int .i64 0, .int .i64 0] (0, 0) _ rfl q3_4 Try.underlying37 rfl q3_9) rfl ?_
                exact ⟨q3_5, q3_0⟩
       ·replace c43 := Bool.eq_false_iff.mpr c43
        subst c43
        rw [if_neg (show ¬ (false = true) by decide)] at H
        simp only [Option.some.injEq, Prod.mk.injEq] at H
        obtain ⟨rfl, rfl, rfl, rfl, rfl⟩ := H
        go_wp2_with (first | ((with_reducible refine gate_callee (f := 54) rfl ?_); refine goesL_ (some 56) rfl rfl Try.func54 q3_9 rfl #[.int .i64 DA, .int .i64 0, .int .i64 (wrap64 (a0 - 1))] rfl q3_3 ?_; (with_reducible refine (spec_l01In.calls DA 0 (wrap64 (a0 - 1)) false _ A42.out).mono ?_); rintro e w' ⟨rfl, ⟨nd, rfl⟩⟩; refine ⟨_, rfl, ?_⟩; (try (rw [drewN_self wc]; generalize hq_ : World.drewN wc _ = wc; have AA : Aside0 (wc.heap[bA]? = some (.cells #[.int .i64 fA, .int .i64 kA, .int .i64 lA, .int .i64 eA, .int .i64 mA, .int .i64 jA, .int .i64 iA, .int .i64 nA, .int .i64 oA, .bool pA] 23 (0, 0))) := ⟨by rw [← hq_]; exact q3_1⟩; have BA : Aside0 (wc.heap[dA]? = some (.cells #[.int .i64 0, .int .i64 0, .int .i64 0, .int .i64 0] 37 (0, 0))) := ⟨by rw [← hq_]; exact q3_2⟩; have CA : Aside0 (Below w.heap.size w wc) := ⟨by rw [← hq_]; exact q3_0⟩; clear aA cA HB hq_; have aA := AA; have cA := BA; have HB := CA; clear AA BA CA)); have yK := hA.out; have zK := gA.out; have tJ : wc.cell? ⟨dA, 0, none⟩ = some (.int .i64 0) := (blk_cell cA.out 0).trans rfl; have uJ : wc.cell? ⟨dA, 1, none⟩ = some (.int .i64 0) := (blk_cell cA.out 1).trans rfl; have vJ : wc.cell? ⟨dA, 2, none⟩ = some (.int .i64 0) := (blk_cell cA.out 2).trans rfl; have wJ : wc.cell? ⟨dA, 3, none⟩ = some (.int .i64 0) := (blk_cell cA.out 3).trans rfl; have xJ := blk_frozen cA.out 0; have yJ := blk_frozen cA.out 1; have zJ := blk_frozen cA.out 2; have AJ := blk_frozen cA.out 3))
        refine bodyPost_ret (results_ct rfl _ _ dA 37 #[.int .i64 0, .int .i64 0, .int .i64 0, .int .i64 0] (0, 0) _ rfl q3_4 Try.underlying37 rfl q3_9) rfl ?_
        exact ⟨q3_5, q3_0⟩

end Go.Proofs.Ytfahmmlkcmadeaa.PFnExactStStep
