-- Written by the session's own patched copy of the printer (wip/patch_print.py).
import Derived.Test.YtfahmmlkcmadeaaPFnStackOnex0
import Derived.Test.YtfahmmlkcmadeaaPFnStackOnex1
namespace Go.Proofs.Ytfahmmlkcmadeaa.PFnStackOne
open Go.RowKit Go.Proofs.YtfahmmlkcmadeaaW.PrintWords Go.Proofs.YtfahmmlkcmadeaaW.PrintLast Go.Proofs.YtfahmmlkcmadeaaW.PrintMore
attribute [local go_sem] max2_int min2_int max_two min_two max_three min_three max_four min_four   -- for this text's walks alone
set_option linter.unusedVariables false
set_option linter.unusedSimpArgs false

theorem q2_0 {p : Prop} (h : p := by repeat (first | (with_reducible first | exact HB.out | apply below_alloc | apply pw_below_drewN | apply below_drew1 | refine below_set ?_ xI.out | refine below_set ?_ EI.out) | exact HB.out)) : p := h
theorem q2_1 {p : Prop} (h : p := by (with_reducible repeat (first | refine blk_drewN ?_ _ | refine blk_drew ?_ | refine blk_alloc ?_ _)); exact aA.out) : p := h
theorem q2_2 {p : Prop} (h : p := by (with_reducible repeat (first | refine blk_drewN ?_ _ | refine blk_drew ?_ | refine blk_alloc ?_ _)); exact cA.out) : p := h
theorem q2_3 {p : Prop} (h : p := by (with_reducible repeat (first | refine blk_drewN ?_ _ | refine blk_drew ?_ | refine blk_alloc ?_ _)); refine blk_put (cs := #[.int .i64 0, .int .i64 0, .int .i64 0, .int .i64 0]) ?_ 3 _ rfl; (with_reducible repeat (first | refine blk_drewN ?_ _ | refine blk_drew ?_ | refine blk_alloc ?_ _)); refine blk_put (cs := #[.int .i64 0, .int .i64 0, .int .i64 0, .int .i64 0]) ?_ 2 _ rfl; (with_reducible repeat (first | refine blk_drewN ?_ _ | refine blk_drew ?_ | refine blk_alloc ?_ _)); refine blk_put (cs := #[.int .i64 0, .int .i64 0, .int .i64 0, .int .i64 0]) ?_ 1 _ rfl; (with_reducible repeat (first | refine blk_drewN ?_ _ | refine blk_drew ?_ | refine blk_alloc ?_ _)); refine blk_put (cs := #[.int .i64 0, .int .i64 0, .int .i64 0, .int .i64 0]) ?_ 0 _ rfl; (with_reducible repeat (first | refine blk_drewN ?_ _ | refine blk_drew ?_ | refine blk_alloc ?_ _)); exact cA.out) : p := h
theorem q2_4 {p : Prop} (h : p := by first | rfl | (simp; done) | (simp [*]; done)) : p := h
theorem q2_5 {p : Prop} (h : p := by first | rfl | (simp [errW_none, errW_some] <;> rfl) | (simp [*, errW_none, errW_some] <;> rfl)) : p := h
theorem q2_6 {p : Prop} (h : p := by (try simp only [List.map_toArray, List.map_cons, List.map_nil]); first | done | rfl | (simp only [List.length_drop, List.length_take]; rfl)) : p := h
theorem q2_7 {p : Prop} (h : p := by repeat (first | (with_reducible first | exact HB.out | apply below_alloc | apply pw_below_drewN | apply below_drew1 | refine below_set ?_ xI.out) | exact HB.out)) : p := h
theorem q2_8 {p : Prop} (h : p := by have := HJ3.out; first | omega | exact Nat.le_refl _) : p := h
theorem q2_9 {p : Prop} (h : p := by repeat (first | (with_reducible first | exact HB.out | apply below_alloc | apply pw_below_drewN | apply below_drew1) | exact HB.out)) : p := h
/-! ### impl_StAct: function 25 -/
mutual
def impl_StAct.j0 : Nat → Int → Int → Int → Bool → Int → Int → Int → Int → Int → Int → Int → Int → Int → Bool → Option (Int × Int × Int × Int × Bool)
 | 0, _, _, _, _, _, _, _, _, _, _, _, _, _, _ => none
 | k + 1, x0, x6, x7, x35, pA, sA, vA, qA, wA, tA, uA, xA, yA, zA => if x35 = true then (some (0, 0, 0, 0, false)) else (if pA = 1 then ((impl_within.f sA 0 (wrap64 (x0 - 1))).bind fun CI => (if CI = true then (if pA = 2 then (if qA > 0 then ((impl_within.f x6 0 (wrap64 (x0 - 1))).bind fun LG => (impl_StAct.j1 k x6 x7 (!LG) pA sA vA qA wA tA uA xA yA zA)) else (impl_StAct.j1 k x6 x7 false pA sA vA qA wA tA uA xA yA zA)) else (impl_StAct.j1 k x6 x7 false pA sA vA qA wA tA uA xA yA zA)) else (impl_StAct.j1 k x6 x7 true pA sA vA qA wA tA uA xA yA zA))) else (if pA = 2 then (if qA > 0 then ((impl_within.f x6 0 (wrap64 (x0 - 1))).bind fun MG => (impl_StAct.j1 k x6 x7 (!MG) pA sA vA qA wA tA uA xA yA zA)) else (impl_StAct.j1 k x6 x7 false pA sA vA qA wA tA uA xA yA zA)) else (impl_StAct.j1 k x6 x7 false pA sA vA qA wA tA uA xA yA zA)))
def impl_StAct.j1 : Nat → Int → Int → Bool → Int → Int → Int → Int → Int → Int → Int → Int → Int → Bool → Option (Int × Int × Int × Int × Bool)
 | 0, _, _, _, _, _, _, _, _, _, _, _, _, _ => none
 | k + 1, x6, x7, x64, pA, sA, vA, qA, wA, tA, uA, xA, yA, zA => if x64 = true then (some (0, 0, 0, 0, false)) else (if pA = 1 then (impl_StAct.j2 k x6 x7 (wrap64 (sA + 1)) pA sA vA qA wA tA uA xA yA zA) else (impl_StAct.j2 k x6 x7 tA pA sA vA qA wA tA uA xA yA zA))
def impl_StAct.j2 : Nat → Int → Int → Int → Int → Int → Int → Int → Int → Int → Int → Int → Int → Bool → Option (Int × Int × Int × Int × Bool)
 | 0, _, _, _, _, _, _, _, _, _, _, _, _, _ => none
 | k + 1, x6, x7, x8, pA, sA, vA, qA, wA, tA, uA, xA, yA, zA => if qA = 0 then (some (1, 0, 0, 0, true)) else (if qA = 1 then (impl_StAct.j3 k x6 x7 x8 (pA == 1) pA sA vA qA wA tA uA xA yA zA) else (impl_StAct.j3 k x6 x7 x8 false pA sA vA qA wA tA uA xA yA zA))
def impl_StAct.j3 : Nat → Int → Int → Int → Bool → Int → Int → Int → Int → Int → Int → Int → Int → Int → Bool → Option (Int × Int × Int × Int × Bool)
 | 0, _, _, _, _, _, _, _, _, _, _, _, _, _, _ => none
 | k + 1, x6, x7, x8, x79, pA, sA, vA, qA, wA, tA, uA, xA, yA, zA => if x79 = true then (some (2, wrap64 (1 + sA), wrap64 (x6 + 1), 0, true)) else (if qA = 1 then (some (1, wrap64 (1 + x6), 0, 0, true)) else ((impl_NextTag.f x7).bind fun zF => ((impl_Pack.f zF x8).bind fun yI => (if yI.2 = true then (some (3, 0, uA, yI.1, true)) else (some (0, 0, 0, 0, false))))))
end
def impl_StAct.f (k : Nat) (a0 : Int) (fA : Int) (iA : Int) (lA : Int) (gA : Int) (mA : Int) (kA : Int) (jA : Int) (nA : Int) (oA : Int) (rA : Bool) : Option (Int × Int × Int × Int × Bool) := (impl_top.f jA).bind fun AA => (if rA = true then (impl_StAct.j0 k a0 AA.1 AA.2 true fA iA lA gA mA kA jA nA oA rA) else ((impl_within.f a0 1 16).bind fun IG => (if IG = true then ((impl_within.f fA 1 2).bind fun JG => (if JG = true then ((impl_within.f gA 0 2).bind fun HG => (impl_StAct.j0 k a0 AA.1 AA.2 (!HG) fA iA lA gA mA kA jA nA oA rA)) else (impl_StAct.j0 k a0 AA.1 AA.2 true fA iA lA gA mA kA jA nA oA rA))) else (impl_StAct.j0 k a0 AA.1 AA.2 true fA iA lA gA mA kA jA nA oA rA))))
theorem impl_StAct.mono_l : ∀ k, (∀ y0 y1 y2 y3 y4 y5 y6 y7 y8 y9 y10 y11 y12 y13, LeO (impl_StAct.j0 k y0 y1 y2 y3 y4 y5 y6 y7 y8 y9 y10 y11 y12 y13) (impl_StAct.j0 (k + 1) y0 y1 y2 y3 y4 y5 y6 y7 y8 y9 y10 y11 y12 y13)) ∧ (∀ y0 y1 y2 y3 y4 y5 y6 y7 y8 y9 y10 y11 y12, LeO (impl_StAct.j1 k y0 y1 y2 y3 y4 y5 y6 y7 y8 y9 y10 y11 y12) (impl_StAct.j1 (k + 1) y0 y1 y2 y3 y4 y5 y6 y7 y8 y9 y10 y11 y12)) ∧ (∀ y0 y1 y2 y3 y4 y5 y6 y7 y8 y9 y10 y11 y12, LeO (impl_StAct.j2 k y0 y1 y2 y3 y4 y5 y6 y7 y8 y9 y10 y11 y12) (impl_StAct.j2 (k + 1) y0 y1 y2 y3 y4 y5 y6 y7 y8 y9 y10 y11 y12)) ∧ (∀ y0 y1 y2 y3 y4 y5 y6 y7 y8 y9 y10 y11 y12 y13, LeO (impl_StAct.j3 k y0 y1 y2 y3 y4 y5 y6 y7 y8 y9 y10 y11 y12 y13) (impl_StAct.j3 (k + 1) y0 y1 y2 y3 y4 y5 y6 y7 y8 y9 y10 y11 y12 y13))
 | 0 => ⟨fun _ _ _ _ _ _ _ _ _ _ _ _ _ _ r h => by simp [impl_StAct.j0] at h, fun _ _ _ _ _ _ _ _ _ _ _ _ _ r h => by simp [impl_StAct.j1] at h, fun _ _ _ _ _ _ _ _ _ _ _ _ _ r h => by simp [impl_StAct.j2] at h, fun _ _ _ _ _ _ _ _ _ _ _ _ _ _ r h => by simp [impl_StAct.j3] at h⟩
 | k + 1 => by
  obtain ⟨ih0, ih1, ih2, ih3⟩ := impl_StAct.mono_l k
  refine ⟨?_, ?_, ?_, ?_⟩
  ·intro y0 y1 y2 y3 y4 y5 y6 y7 y8 y9 y10 y11 y12 y13
   unfold impl_StAct.j0
   repeat' first
   | (with_reducible exact ih0 _ _ _ _ _ _ _ _ _ _ _ _ _ _)
   | (with_reducible exact ih1 _ _ _ _ _ _ _ _ _ _ _ _ _)
   | (with_reducible exact ih2 _ _ _ _ _ _ _ _ _ _ _ _ _)
   | (with_reducible exact ih3 _ _ _ _ _ _ _ _ _ _ _ _ _ _)
   | (with_reducible exact LeO.refl _)
   | (with_reducible exact LeO.none _)
   | (with_reducible refine LeO.ite ?_ ?_)
   | (with_reducible refine LeO.bind ?_ (fun _ => ?_))
   | exact ih0 _ _ _ _ _ _ _ _ _ _ _ _ _ _
   | exact ih1 _ _ _ _ _ _ _ _ _ _ _ _ _
   | exact ih2 _ _ _ _ _ _ _ _ _ _ _ _ _
   | exact ih3 _ _ _ _ _ _ _ _ _ _ _ _ _ _
   | exact LeO.none _
   | refine LeO.ite ?_ ?_
   | refine LeO.bind ?_ (fun _ => ?_)
  ·intro y0 y1 y2 y3 y4 y5 y6 y7 y8 y9 y10 y11 y12
   unfold impl_StAct.j1
   repeat' first
   | (with_reducible exact ih0 _ _ _ _ _ _ _ _ _ _ _ _ _ _)
   | (with_reducible exact ih1 _ _ _ _ _ _ _ _ _ _ _ _ _)
   | (with_reducible exact ih2 _ _ _ _ _ _ _ _ _ _ _ _ _)
   | (with_reducible exact ih3 _ _ _ _ _ _ _ _ _ _ _ _ _ _)
   | (with_reducible exact LeO.refl _)
   | (with_reducible exact LeO.none _)
   | (with_reducible refine LeO.ite ?_ ?_)
   | (with_reducible refine LeO.bind ?_ (fun _ => ?_))
   | exact ih0 _ _ _ _ _ _ _ _ _ _ _ _ _ _
   | exact ih1 _ _ _ _ _ _ _ _ _ _ _ _ _
   | exact ih2 _ _ _ _ _ _ _ _ _ _ _ _ _
   | exact ih3 _ _ _ _ _ _ _ _ _ _ _ _ _ _
   | exact LeO.none _
   | refine LeO.ite ?_ ?_
   | refine LeO.bind ?_ (fun _ => ?_)
  ·intro y0 y1 y2 y3 y4 y5 y6 y7 y8 y9 y10 y11 y12
   unfold impl_StAct.j2
   repeat' first
   | (with_reducible exact ih0 _ _ _ _ _ _ _ _ _ _ _ _ _ _)
   | (with_reducible exact ih1 _ _ _ _ _ _ _ _ _ _ _ _ _)
   | (with_reducible exact ih2 _ _ _ _ _ _ _ _ _ _ _ _ _)
   | (with_reducible exact ih3 _ _ _ _ _ _ _ _ _ _ _ _ _ _)
   | (with_reducible exact LeO.refl _)
   | (with_reducible exact LeO.none _)
   | (with_reducible refine LeO.ite ?_ ?_)
   | (with_reducible refine LeO.bind ?_ (fun _ => ?_))
   | exact ih0 _ _ _ _ _ _ _ _ _ _ _ _ _ _
   | exact ih1 _ _ _ _ _ _ _ _ _ _ _ _ _
   | exact ih2 _ _ _ _ _ _ _ _ _ _ _ _ _
   | exact ih3 _ _ _ _ _ _ _ _ _ _ _ _ _ _
   | exact LeO.none _
   | refine LeO.ite ?_ ?_
   | refine LeO.bind ?_ (fun _ => ?_)
  ·intro y0 y1 y2 y3 y4 y5 y6 y7 y8 y9 y10 y11 y12 y13
   unfold impl_StAct.j3
   repeat' first
   | (with_reducible exact ih0 _ _ _ _ _ _ _ _ _ _ _ _ _ _)
   | (with_reducible exact ih1 _ _ _ _ _ _ _ _ _ _ _ _ _)
   | (with_reducible exact ih2 _ _ _ _ _ _ _ _ _ _ _ _ _)
   | (with_reducible exact ih3 _ _ _ _ _ _ _ _ _ _ _ _ _ _)
   | (with_reducible exact LeO.refl _)
   | (with_reducible exact LeO.none _)
   | (with_reducible refine LeO.ite ?_ ?_)
   | (with_reducible refine LeO.bind ?_ (fun _ => ?_))
   | exact ih0 _ _ _ _ _ _ _ _ _ _ _ _ _ _
   | exact ih1 _ _ _ _ _ _ _ _ _ _ _ _ _
   | exact ih2 _ _ _ _ _ _ _ _ _ _ _ _ _
   | exact ih3 _ _ _ _ _ _ _ _ _ _ _ _ _ _
   | exact LeO.none _
   | refine LeO.ite ?_ ?_
   | refine LeO.bind ?_ (fun _ => ?_)
theorem impl_StAct.mono : ∀ a0 a1 a2 a3 a4 a5 a6 a7 a8 a9 a10 k, LeO (impl_StAct.f k a0 a1 a2 a3 a4 a5 a6 a7 a8 a9 a10) (impl_StAct.f (k + 1) a0 a1 a2 a3 a4 a5 a6 a7 a8 a9 a10) := by
 intro a0 a1 a2 a3 a4 a5 a6 a7 a8 a9 a10 k
 obtain ⟨ih0, ih1, ih2, ih3⟩ := impl_StAct.mono_l k
 unfold impl_StAct.f
 repeat' first
   | (with_reducible exact ih0 _ _ _ _ _ _ _ _ _ _ _ _ _ _)
   | (with_reducible exact ih1 _ _ _ _ _ _ _ _ _ _ _ _ _)
   | (with_reducible exact ih2 _ _ _ _ _ _ _ _ _ _ _ _ _)
   | (with_reducible exact ih3 _ _ _ _ _ _ _ _ _ _ _ _ _ _)
   | (with_reducible exact LeO.refl _)
   | (with_reducible exact LeO.none _)
   | (with_reducible refine LeO.ite ?_ ?_)
   | (with_reducible refine LeO.bind ?_ (fun _ => ?_))
   | exact ih0 _ _ _ _ _ _ _ _ _ _ _ _ _ _
   | exact ih1 _ _ _ _ _ _ _ _ _ _ _ _ _
   | exact ih2 _ _ _ _ _ _ _ _ _ _ _ _ _
   | exact ih3 _ _ _ _ _ _ _ _ _ _ _ _ _ _
   | exact LeO.none _
   | refine LeO.ite ?_ ?_
   | refine LeO.bind ?_ (fun _ => ?_)
set_option maxHeartbeats 8000000 in
set_option maxRecDepth 100000 in
theorem impl_StAct.calls (k : Nat) (a0 : Int) (fA : Int) (iA : Int) (lA : Int) (gA : Int) (mA : Int) (kA : Int) (jA : Int) (nA : Int) (oA : Int) (rA : Bool) (r1 : Int) (r2 : Int) (r3 : Int) (r4 : Int) (r5 : Bool) (w : World) (h : impl_StAct.f k a0 fA iA lA gA mA kA jA nA oA rA = some (r1, r2, r3, r4, r5)) :
  Calls Try.prog 25 #[.int .i64 a0, .agg #[.int .i64 fA, .int .i64 iA, .int .i64 lA, .int .i64 gA, .int .i64 mA, .int .i64 kA, .int .i64 jA, .int .i64 nA, .int .i64 oA, .bool rA]] w fun e w' => e = .returned (.tuple #[.agg #[.int .i64 r1, .int .i64 r2, .int .i64 r3, .int .i64 r4], .bool r5]) ∧ Below w.heap.size w w' := by
 have hu23 := Try.underlying23
 have hu37 := Try.underlying37
 have HB := Aside0.mk (Below.refl w.heap.size w)
 have H : ((impl_top.f jA).bind fun AA => (if rA = true then (impl_StAct.j0 k a0 AA.1 AA.2 true fA iA lA gA mA kA jA nA oA rA) else ((impl_within.f a0 1 16).bind fun IG => (if IG = true then ((impl_within.f fA 1 2).bind fun JG => (if JG = true then ((impl_within.f gA 0 2).bind fun HG => (impl_StAct.j0 k a0 AA.1 AA.2 (!HG) fA iA lA gA mA kA jA nA oA rA)) else (impl_StAct.j0 k a0 AA.1 AA.2 true fA iA lA gA mA kA jA nA oA rA))) else (impl_StAct.j0 k a0 AA.1 AA.2 true fA iA lA gA mA kA jA nA oA rA))))) = some (r1, r2, r3, r4, r5) := h
 clear h
 replace H := Option.bind_eq_some_iff.mp H
 obtain ⟨⟨DA, kC⟩, A30, H⟩ := H
 (try dsimp only at H)
 have A3 := Aside0.mk A30
 clear A30
 have HC4 := Aside0.mk H
 clear H
 go_enter Try.func25, Try.ntmps25
 go_upto_region 2 with (first | ((with_reducible refine gate_dst (N := 3) rfl ?_); refine box_event ?hg (N := 3) ?hd (cs := #[.int .i64 fA, .int .i64 iA, .int .i64 lA, .int .i64 gA, .int .i64 mA, .int .i64 kA, .int .i64 jA, .int .i64 nA, .int .i64 oA, .bool rA]) (t := 23) ?hr ?_; (case hd => rfl); (case hg => rfl); (case hr => first | (go_simp; done) | (go_simp; rfl)); intro bA hg w5 hbox hb; have AF := Aside0.mk (below_step q2_9 hb); have BF := Aside0.mk (hbox); have CF := Aside0.mk ((by rw [hg]; exact (below_size q2_9) : w.heap.size ≤ bA)); have FI := Aside0.mk ((by rw [hg]; exact (below_size q2_9) : w.heap.size ≤ bA)); clear HB; have HB := AF; have aA := BF; have lL := CF; have xI := FI; clear AF BF CF FI; clear hb hbox hg) | ((with_reducible refine gate_dst (N := 4) rfl ?_); refine box_event ?hg (N := 4) ?hd (cs := #[.int .i64 0, .int .i64 0, .int .i64 0, .int .i64 0]) (t := 37) ?hr ?_; (case hd => rfl); (case hg => rfl); (case hr => first | (go_simp; done) | (go_simp; rfl)); intro hA hg w6 hbox hb; have AF := Aside0.mk (blk_below (g := bA) (o := .cells #[.int .i64 fA, .int .i64 iA, .int .i64 lA, .int .i64 gA, .int .i64 mA, .int .i64 kA, .int .i64 jA, .int .i64 nA, .int .i64 oA, .bool rA] 23 (0, 0)) q2_1 hb); have BF := Aside0.mk (below_step q2_7 hb); have CF := Aside0.mk (hbox); have FI := Aside0.mk ((by rw [hg]; exact (below_size q2_7) : w.heap.size ≤ hA)); have mL := Aside0.mk ((by rw [hg]; exact (below_size q2_7) : w.heap.size ≤ hA)); have nL := Aside0.mk ((by rw [hg]; exact Nat.ne_of_lt (blk_lt (g := bA) (o := .cells #[.int .i64 fA, .int .i64 iA, .int .i64 lA, .int .i64 gA, .int .i64 mA, .int .i64 kA, .int .i64 jA, .int .i64 nA, .int .i64 oA, .bool rA] 23 (0, 0)) q2_1) : bA ≠ hA)); have oL := Aside0.mk ((by rw [hg]; exact Nat.ne_of_gt (blk_lt (g := bA) (o := .cells #[.int .i64 fA, .int .i64 iA, .int .i64 lA, .int .i64 gA, .int .i64 mA, .int .i64 kA, .int .i64 jA, .int .i64 nA, .int .i64 oA, .bool rA] 23 (0, 0)) q2_1) : hA ≠ bA)); clear aA HB; have aA := AF; have HB := BF; have cA := CF; have pL := FI; have EI := mL; have dA := nL; have eA := oL; clear AF BF CF FI mL nL oL; clear hb hbox hg; have kM := dA.out; have lM := eA.out; have lC : w6.cell? ⟨bA, 0, none⟩ = some (.int .i64 fA) := (blk_cell aA.out 0).trans rfl; have mC : w6.cell? ⟨bA, 1, none⟩ = some (.int .i64 iA) := (blk_cell aA.out 1).trans rfl; have nC : w6.cell? ⟨bA, 2, none⟩ = some (.int .i64 lA) := (blk_cell aA.out 2).trans rfl; have oC : w6.cell? ⟨bA, 3, none⟩ = some (.int .i64 gA) := (blk_cell aA.out 3).trans rfl; have pC : w6.cell? ⟨bA, 4, none⟩ = some (.int .i64 mA) := (blk_cell aA.out 4).trans rfl; have qC : w6.cell? ⟨bA, 5, none⟩ = some (.int .i64 kA) := (blk_cell aA.out 5).trans rfl; have rC : w6.cell? ⟨bA, 6, none⟩ = some (.int .i64 jA) := (blk_cell aA.out 6).trans rfl; have sC : w6.cell? ⟨bA, 7, none⟩ = some (.int .i64 nA) := (blk_cell aA.out 7).trans rfl; have tC : w6.cell? ⟨bA, 8, none⟩ = some (.int .i64 oA) := (blk_cell aA.out 8).trans rfl; have uC : w6.cell? ⟨bA, 9, none⟩ = some (.bool rA) := (blk_cell aA.out 9).trans rfl; have vC := blk_frozen aA.out 0; have wC := blk_frozen aA.out 1; have xC := blk_frozen aA.out 2; have yC := blk_frozen aA.out 3; have zC := blk_frozen aA.out 4; have AC := blk_frozen aA.out 5; have BC := blk_frozen aA.out 6; have CC := blk_frozen aA.out 7; have DC := blk_frozen aA.out 8; have EC := blk_frozen aA.out 9) | ((with_reducible refine gate_callee (f := 60) rfl ?_); refine goesL_ (some 14) rfl rfl Try.func60 (by kernel_rfl) rfl #[.int .i64 jA] rfl q2_6 ?_; (with_reducible refine (impl_top.calls jA DA kC _ A3.out).mono ?_); rintro e w' ⟨rfl, ⟨nd, rfl⟩⟩; refine ⟨_, rfl, ?_⟩))
 (try simp only [Act.put, List.setIfInBounds_toArray, List.set_cons_zero, List.set_cons_succ])
 go_cut [35] (fun v35 wc => ∃ (kq : Nat) (DF : Bool), v35 = .bool DF ∧ Aside0 (impl_StAct.j0 kq a0 DA kC DF fA iA lA gA mA kA jA nA oA rA = some (r1, r2, r3, r4, r5)) ∧ Aside0 (kq ≤ k) ∧ Aside0 (wc.heap[bA]? = some (.cells #[.int .i64 fA, .int .i64 iA, .int .i64 lA, .int .i64 gA, .int .i64 mA, .int .i64 kA, .int .i64 jA, .int .i64 nA, .int .i64 oA, .bool rA] 23 (0, 0))) ∧ Aside0 (wc.heap[hA]? = some (.cells #[.int .i64 0, .int .i64 0, .int .i64 0, .int .i64 0] 37 (0, 0))) ∧ Aside0 (Below w.heap.size w wc))
 case first =>
  have H := HC4.out
  clear HC4
  by_cases c9 : rA = true
  ·subst c9
   rw [if_pos rfl] at H
   have H' := Aside0.mk H
   clear H
   have qL := dA.out
   have rL := eA.out
   have EA : w6.cell? ⟨bA, 0, none⟩ = some (.int .i64 fA) := (blk_cell aA.out 0).trans rfl
   have FA : w6.cell? ⟨bA, 1, none⟩ = some (.int .i64 iA) := (blk_cell aA.out 1).trans rfl
   have GA : w6.cell? ⟨bA, 2, none⟩ = some (.int .i64 lA) := (blk_cell aA.out 2).trans rfl
   have IA : w6.cell? ⟨bA, 3, none⟩ = some (.int .i64 gA) := (blk_cell aA.out 3).trans rfl
   have JA : w6.cell? ⟨bA, 4, none⟩ = some (.int .i64 mA) := (blk_cell aA.out 4).trans rfl
   have KA : w6.cell? ⟨bA, 5, none⟩ = some (.int .i64 kA) := (blk_cell aA.out 5).trans rfl
   have LA : w6.cell? ⟨bA, 6, none⟩ = some (.int .i64 jA) := (blk_cell aA.out 6).trans rfl
   have MA : w6.cell? ⟨bA, 7, none⟩ = some (.int .i64 nA) := (blk_cell aA.out 7).trans rfl
   have NA : w6.cell? ⟨bA, 8, none⟩ = some (.int .i64 oA) := (blk_cell aA.out 8).trans rfl
   have OA : w6.cell? ⟨bA, 9, none⟩ = some (.bool true) := (blk_cell aA.out 9).trans rfl
   have PA := blk_frozen aA.out 0
   have QA := blk_frozen aA.out 1
   have RA := blk_frozen aA.out 2
   have SA := blk_frozen aA.out 3
   have TA := blk_frozen aA.out 4
   have UA := blk_frozen aA.out 5
   have VA := blk_frozen aA.out 6
   have WA := blk_frozen aA.out 7
   have XA := blk_frozen aA.out 8
   have YA := blk_frozen aA.out 9
   go_wp2
   go_meet
   case rel => exact ⟨_, (true), q2_4, H', ⟨by first | omega | exact Nat.le_refl _⟩, ⟨q2_1⟩, ⟨q2_2⟩, ⟨q2_0⟩⟩
  ·replace c9 := Bool.eq_false_iff.mpr c9
   subst c9
   rw [if_neg (show ¬ (false = true) by decide)] at H
   replace H := Option.bind_eq_some_iff.mp H
   obtain ⟨IG, A120, H⟩ := H
   (try dsimp only at H)
   have A12 := Aside0.mk A120
   clear A120
   by_cases c13 : IG = true
   ·subst c13
    rw [if_pos rfl] at H
    replace H := Option.bind_eq_some_iff.mp H
    obtain ⟨JG, A140, H⟩ := H
    (try dsimp only at H)
    have A14 := Aside0.mk A140
    clear A140
    by_cases c15 : JG = true
    ·subst c15
     rw [if_pos rfl] at H
     replace H := Option.bind_eq_some_iff.mp H
     obtain ⟨HG, A160, H⟩ := H
     (try dsimp only at H)
     have A16 := Aside0.mk A160
     clear A160
     have H' := Aside0.mk H
     clear H
     have sL := dA.out
     have tL := eA.out
     have ZA : w6.cell? ⟨bA, 0, none⟩ = some (.int .i64 fA) := (blk_cell aA.out 0).trans rfl
     have aB : w6.cell? ⟨bA, 1, none⟩ = some (.int .i64 iA) := (blk_cell aA.out 1).trans rfl
     have bB : w6.cell? ⟨bA, 2, none⟩ = some (.int .i64 lA) := (blk_cell aA.out 2).trans rfl
     have cB : w6.cell? ⟨bA, 3, none⟩ = some (.int .i64 gA) := (blk_cell aA.out 3).trans rfl
     have dB : w6.cell? ⟨bA, 4, none⟩ = some (.int .i64 mA) := (blk_cell aA.out 4).trans rfl
     have eB : w6.cell? ⟨bA, 5, none⟩ = some (.int .i64 kA) := (blk_cell aA.out 5).trans rfl
     have fB : w6.cell? ⟨bA, 6, none⟩ = some (.int .i64 jA) := (blk_cell aA.out 6).trans rfl
     have gB : w6.cell? ⟨bA, 7, none⟩ = some (.int .i64 nA) := (blk_cell aA.out 7).trans rfl
     have hB : w6.cell? ⟨bA, 8, none⟩ = some (.int .i64 oA) := (blk_cell aA.out 8).trans rfl
     have iB : w6.cell? ⟨bA, 9, none⟩ = some (.bool false) := (blk_cell aA.out 9).trans rfl
     have jB := blk_frozen aA.out 0
     have kB := blk_frozen aA.out 1
     have lB := blk_frozen aA.out 2
     have mB := blk_frozen aA.out 3
     have nB := blk_frozen aA.out 4
     have oB := blk_frozen aA.out 5
     have pB := blk_frozen aA.out 6
     have qB := blk_frozen aA.out 7
     have rB := blk_frozen aA.out 8
     have sB := blk_frozen aA.out 9
     go_wp2_with (first | (go_at_call 51; (with_reducible refine (impl_within.calls a0 1 16 true _ A12.out).mono ?_); rintro e w' ⟨rfl, ⟨nd, rfl⟩⟩) | (go_at_call 51; (with_reducible refine (impl_within.calls fA 1 2 true _ A14.out).mono ?_); rintro e w' ⟨rfl, ⟨nd, rfl⟩⟩) | (go_at_call 51; (with_reducible refine (impl_within.calls gA 0 2 HG _ A16.out).mono ?_); rintro e w' ⟨rfl, ⟨nd, rfl⟩⟩))
     go_meet
     case rel => exact ⟨_, (!HG), q2_4, H', ⟨by first | omega | exact Nat.le_refl _⟩, ⟨q2_1⟩, ⟨q2_2⟩, ⟨q2_0⟩⟩
    ·replace c15 := Bool.eq_false_iff.mpr c15
     subst c15
     rw [if_neg (show ¬ (false = true) by decide)] at H
     have H' := Aside0.mk H
     clear H
     have uL := dA.out
     have vL := eA.out
     have tB : w6.cell? ⟨bA, 0, none⟩ = some (.int .i64 fA) := (blk_cell aA.out 0).trans rfl
     have uB : w6.cell? ⟨bA, 1, none⟩ = some (.int .i64 iA) := (blk_cell aA.out 1).trans rfl
     have vB : w6.cell? ⟨bA, 2, none⟩ = some (.int .i64 lA) := (blk_cell aA.out 2).trans rfl
     have wB : w6.cell? ⟨bA, 3, none⟩ = some (.int .i64 gA) := (blk_cell aA.out 3).trans rfl
     have xB : w6.cell? ⟨bA, 4, none⟩ = some (.int .i64 mA) := (blk_cell aA.out 4).trans rfl
     have yB : w6.cell? ⟨bA, 5, none⟩ = some (.int .i64 kA) := (blk_cell aA.out 5).trans rfl
     have zB : w6.cell? ⟨bA, 6, none⟩ = some (.int .i64 jA) := (blk_cell aA.out 6).trans rfl
     have AB : w6.cell? ⟨bA, 7, none⟩ = some (.int .i64 nA) := (blk_cell aA.out 7).trans rfl
     have BB : w6.cell? ⟨bA, 8, none⟩ = some (.int .i64 oA) := (blk_cell aA.out 8).trans rfl
     have CB : w6.cell? ⟨bA, 9, none⟩ = some (.bool false) := (blk_cell aA.out 9).trans rfl
     have DB := blk_frozen aA.out 0
     have EB := blk_frozen aA.out 1
     have FB := blk_frozen aA.out 2
     have GB := blk_frozen aA.out 3
     have IB := blk_frozen aA.out 4
     have JB := blk_frozen aA.out 5
     have KB := blk_frozen aA.out 6
     have LB := blk_frozen aA.out 7
     have MB := blk_frozen aA.out 8
     have NB := blk_frozen aA.out 9
     go_wp2_with (first | (go_at_call 51; (with_reducible refine (impl_within.calls a0 1 16 true _ A12.out).mono ?_); rintro e w' ⟨rfl, ⟨nd, rfl⟩⟩) | (go_at_call 51; (with_reducible refine (impl_within.calls fA 1 2 false _ A14.out).mono ?_); rintro e w' ⟨rfl, ⟨nd, rfl⟩⟩))
     go_meet
     case rel => exact ⟨_, (true), q2_4, H', ⟨by first | omega | exact Nat.le_refl _⟩, ⟨q2_1⟩, ⟨q2_2⟩, ⟨q2_0⟩⟩
   ·replace c13 := Bool.eq_false_iff.mpr c13
    subst c13
    rw [if_neg (show ¬ (false = true) by decide)] at H
    have H' := Aside0.mk H
    clear H
    have wL := dA.out
    have xL := eA.out
    have OB : w6.cell? ⟨bA, 0, none⟩ = some (.int .i64 fA) := (blk_cell aA.out 0).trans rfl
    have PB : w6.cell? ⟨bA, 1, none⟩ = some (.int .i64 iA) := (blk_cell aA.out 1).trans rfl
    have QB : w6.cell? ⟨bA, 2, none⟩ = some (.int .i64 lA) := (blk_cell aA.out 2).trans rfl
    have RB : w6.cell? ⟨bA, 3, none⟩ = some (.int .i64 gA) := (blk_cell aA.out 3).trans rfl
    have SB : w6.cell? ⟨bA, 4, none⟩ = some (.int .i64 mA) := (blk_cell aA.out 4).trans rfl
    have TB : w6.cell? ⟨bA, 5, none⟩ = some (.int .i64 kA) := (blk_cell aA.out 5).trans rfl
    have UB : w6.cell? ⟨bA, 6, none⟩ = some (.int .i64 jA) := (blk_cell aA.out 6).trans rfl
    have VB : w6.cell? ⟨bA, 7, none⟩ = some (.int .i64 nA) := (blk_cell aA.out 7).trans rfl
    have WB : w6.cell? ⟨bA, 8, none⟩ = some (.int .i64 oA) := (blk_cell aA.out 8).trans rfl
    have XB : w6.cell? ⟨bA, 9, none⟩ = some (.bool false) := (blk_cell aA.out 9).trans rfl
    have YB := blk_frozen aA.out 0
    have ZB := blk_frozen aA.out 1
    have aC := blk_frozen aA.out 2
    have bC := blk_frozen aA.out 3
    have cC := blk_frozen aA.out 4
    have dC := blk_frozen aA.out 5
    have eC := blk_frozen aA.out 6
    have fC := blk_frozen aA.out 7
    have gC := blk_frozen aA.out 8
    have hC := blk_frozen aA.out 9
    go_wp2_with (first | (go_at_call 51; (with_reducible refine (impl_within.calls a0 1 16 false _ A12.out).mono ?_); rintro e w' ⟨rfl, ⟨nd, rfl⟩⟩))
    go_meet
    case rel => exact ⟨_, (true), q2_4, H', ⟨by first | omega | exact Nat.le_refl _⟩, ⟨q2_1⟩, ⟨q2_2⟩, ⟨q2_0⟩⟩
 case rest =>
  clear HC4
  (try clear c1); (try clear c2); (try clear p2); (try clear c6); (try clear c7); (try clear c9); (try clear c10); (try clear c13); (try clear c15); (try clear c17); (try clear c19); (try clear c21); (try clear EA); (try clear FA); (try clear GA); (try clear IA); (try clear JA); (try clear KA); (try clear LA); (try clear MA); (try clear NA); (try clear OA); (try clear ZA); (try clear aB); (try clear bB); (try clear cB); (try clear dB); (try clear eB); (try clear fB); (try clear gB); (try clear hB); (try clear iB); (try clear tB); (try clear uB); (try clear vB); (try clear wB); (try clear xB); (try clear yB); (try clear zB); (try clear AB); (try clear BB); (try clear CB); (try clear OB); (try clear PB); (try clear QB); (try clear RB); (try clear SB); (try clear TB); (try clear UB); (try clear VB); (try clear WB); (try clear XB); (try clear lC); (try clear mC); (try clear nC); (try clear oC); (try clear pC); (try clear qC); (try clear rC); (try clear sC); (try clear tC); (try clear uC); (try clear PA); (try clear QA); (try clear RA); (try clear SA); (try clear TA); (try clear UA); (try clear VA); (try clear WA); (try clear XA); (try clear YA); (try clear jB); (try clear kB); (try clear lB); (try clear mB); (try clear nB); (try clear oB); (try clear pB); (try clear qB); (try clear rB); (try clear sB); (try clear DB); (try clear EB); (try clear FB); (try clear GB); (try clear IB); (try clear JB); (try clear KB); (try clear LB); (try clear MB); (try clear NB); (try clear YB); (try clear ZB); (try clear aC); (try clear bC); (try clear cC); (try clear dC); (try clear eC); (try clear fC); (try clear gC); (try clear hC); (try clear vC); (try clear wC); (try clear xC); (try clear yC); (try clear zC); (try clear AC); (try clear BC); (try clear CC); (try clear DC); (try clear EC)
  obtain ⟨kq, DF, rfl, HA, HJ3, aA, cA, HB⟩ := hcut
  cases kq with
  | zero => exact absurd HA.out (by simp [impl_StAct.j0])
  | succ kj3 =>
   have H := HA.out
   clear HA
   simp only [impl_StAct.j0] at H
   by_cases c23 : DF = true
   ·subst c23
    rw [if_pos rfl] at H
    simp only [Option.some.injEq, Prod.mk.injEq] at H
    obtain ⟨rfl, rfl, rfl, rfl, rfl⟩ := H
    have yL := eA.out
    have zL := dA.out
    have FC : wc.cell? ⟨hA, 0, none⟩ = some (.int .i64 0) := (blk_cell cA.out 0).trans rfl
    have GC : wc.cell? ⟨hA, 1, none⟩ = some (.int .i64 0) := (blk_cell cA.out 1).trans rfl
    have HC : wc.cell? ⟨hA, 2, none⟩ = some (.int .i64 0) := (blk_cell cA.out 2).trans rfl
    have IC : wc.cell? ⟨hA, 3, none⟩ = some (.int .i64 0) := (blk_cell cA.out 3).trans rfl
    have JC := blk_frozen cA.out 0
    have KC := blk_frozen cA.out 1
    have LC := blk_frozen cA.out 2
    have MC := blk_frozen cA.out 3
    go_wp2
    refine bodyPost_ret (results_ct rfl _ _ hA 37 #[.int .i64 0, .int .i64 0, .int .i64 0, .int .i64 0] (0, 0) _ rfl q2_3 Try.underlying37 rfl (by kernel_rfl)) rfl ?_
    exact ⟨q2_5, q2_0⟩
   ·replace c23 := Bool.eq_false_iff.mpr c23
    subst c23
    rw [if_neg (show ¬ (false = true) by decide)] at H
    have HC26 := Aside0.mk H
    clear H
    go_upto_region 4 with (fail)
    go_cut [64] (fun v64 wc => ∃ (kq : Nat) (NC : Bool), v64 = .bool NC ∧ Aside0 (impl_StAct.j1 kq DA kC NC fA iA lA gA mA kA jA nA oA rA = some (r1, r2, r3, r4, r5)) ∧ Aside0 (kq ≤ kj3) ∧ Aside0 (wc.heap[bA]? = some (.cells #[.int .i64 fA, .int .i64 iA, .int .i64 lA, .int .i64 gA, .int .i64 mA, .int .i64 kA, .int .i64 jA, .int .i64 nA, .int .i64 oA, .bool rA] 23 (0, 0))) ∧ Aside0 (wc.heap[hA]? = some (.cells #[.int .i64 0, .int .i64 0, .int .i64 0, .int .i64 0] 37 (0, 0))) ∧ Aside0 (Below w.heap.size w wc))
    case first =>
     have H := HC26.out
     clear HC26
     by_cases c27 : fA = 1
     ·rw [if_pos c27] at H
      have BA : (fA == 1) = true := beq_iff_eq.mpr c27
      have EF : (fA != 1) = false := bne_eq_false_iff_eq.mpr c27
      clear c27
      (first | rw [BA] | (simp only [i64_w, i32_w]; rw [BA]) | skip)
      replace H := Option.bind_eq_some_iff.mp H
      obtain ⟨CI, A280, H⟩ := H
      (try dsimp only at H)
      have A28 := Aside0.mk A280
      clear A280
      by_cases c29 : CI = true
      ·subst c29
       rw [if_pos rfl] at H
       by_cases c30 : fA = 2
       ·rw [if_pos c30] at H
        have FF : (fA == 2) = true := beq_iff_eq.mpr c30
        have GF : (fA != 2) = false := bne_eq_false_iff_eq.mpr c30
        clear c30
        by_cases c31 : gA > 0
        ·rw [if_pos c31] at H
         have HF : decide (0 < gA) = true := decide_eq_true c31
         clear c31
         replace H := Option.bind_eq_some_iff.mp H
         obtain ⟨LG, A320, H⟩ := H
         (try dsimp only at H)
         have A32 := Aside0.mk A320
         clear A320
         have H' := Aside0.mk H
         clear H
         have AL := dA.out
         have BL := eA.out
         have OC : wc.cell? ⟨bA, 0, none⟩ = some (.int .i64 fA) := (blk_cell aA.out 0).trans rfl
         have PC : wc.cell? ⟨bA, 1, none⟩ = some (.int .i64 iA) := (blk_cell aA.out 1).trans rfl
         have QC : wc.cell? ⟨bA, 2, none⟩ = some (.int .i64 lA) := (blk_cell aA.out 2).trans rfl
         have RC : wc.cell? ⟨bA, 3, none⟩ = some (.int .i64 gA) := (blk_cell aA.out 3).trans rfl
         have SC : wc.cell? ⟨bA, 4, none⟩ = some (.int .i64 mA) := (blk_cell aA.out 4).trans rfl
         have TC : wc.cell? ⟨bA, 5, none⟩ = some (.int .i64 kA) := (blk_cell aA.out 5).trans rfl
         have UC : wc.cell? ⟨bA, 6, none⟩ = some (.int .i64 jA) := (blk_cell aA.out 6).trans rfl
         have VC : wc.cell? ⟨bA, 7, none⟩ = some (.int .i64 nA) := (blk_cell aA.out 7).trans rfl
         have WC : wc.cell? ⟨bA, 8, none⟩ = some (.int .i64 oA) := (blk_cell aA.out 8).trans rfl
         have XC : wc.cell? ⟨bA, 9, none⟩ = some (.bool rA) := (blk_cell aA.out 9).trans rfl
         have YC := blk_frozen aA.out 0
         have ZC := blk_frozen aA.out 1
         have aD := blk_frozen aA.out 2
         have bD := blk_frozen aA.out 3
         have cD := blk_frozen aA.out 4
         have dD := blk_frozen aA.out 5
         have eD := blk_frozen aA.out 6
         have fD := blk_frozen aA.out 7
         have gD := blk_frozen aA.out 8
         have hD := blk_frozen aA.out 9
         go_wp2_with (first | (go_at_call 51; (with_reducible refine (impl_within.calls iA 0 (wrap64 (a0 - 1)) true _ A28.out).mono ?_); rintro e w' ⟨rfl, ⟨nd, rfl⟩⟩) | (go_at_call 51; (with_reducible refine (impl_within.calls DA 0 (wrap64 (a0 - 1)) LG _ A32.out).mono ?_); rintro e w' ⟨rfl, ⟨nd, rfl⟩⟩))
         go_meet
         case rel => exact ⟨_, (!LG), q2_4, H', ⟨q2_8⟩, ⟨q2_1⟩, ⟨q2_2⟩, ⟨q2_0⟩⟩
        ·rw [if_neg c31] at H
         have HF : decide (0 < gA) = false := decide_eq_false c31
         clear c31
         have H' := Aside0.mk H
         clear H
         have CL := dA.out
         have DL := eA.out
         have iD : wc.cell? ⟨bA, 0, none⟩ = some (.int .i64 fA) := (blk_cell aA.out 0).trans rfl
         have jD : wc.cell? ⟨bA, 1, none⟩ = some (.int .i64 iA) := (blk_cell aA.out 1).trans rfl
         have kD : wc.cell? ⟨bA, 2, none⟩ = some (.int .i64 lA) := (blk_cell aA.out 2).trans rfl
         have lD : wc.cell? ⟨bA, 3, none⟩ = some (.int .i64 gA) := (blk_cell aA.out 3).trans rfl
         have mD : wc.cell? ⟨bA, 4, none⟩ = some (.int .i64 mA) := (blk_cell aA.out 4).trans rfl
         have nD : wc.cell? ⟨bA, 5, none⟩ = some (.int .i64 kA) := (blk_cell aA.out 5).trans rfl
         have oD : wc.cell? ⟨bA, 6, none⟩ = some (.int .i64 jA) := (blk_cell aA.out 6).trans rfl
         have pD : wc.cell? ⟨bA, 7, none⟩ = some (.int .i64 nA) := (blk_cell aA.out 7).trans rfl
         have qD : wc.cell? ⟨bA, 8, none⟩ = some (.int .i64 oA) := (blk_cell aA.out 8).trans rfl
         have rD : wc.cell? ⟨bA, 9, none⟩ = some (.bool rA) := (blk_cell aA.out 9).trans rfl
         have sD := blk_frozen aA.out 0
         have tD := blk_frozen aA.out 1
         have uD := blk_frozen aA.out 2
         have vD := blk_frozen aA.out 3
         have wD := blk_frozen aA.out 4
         have xD := blk_frozen aA.out 5
         have yD := blk_frozen aA.out 6
         have zD := blk_frozen aA.out 7
         have AD := blk_frozen aA.out 8
         have BD := blk_frozen aA.out 9
         go_wp2_with (first | (go_at_call 51; (with_reducible refine (impl_within.calls iA 0 (wrap64 (a0 - 1)) true _ A28.out).mono ?_); rintro e w' ⟨rfl, ⟨nd, rfl⟩⟩))
         go_meet
         case rel => exact ⟨_, (false), q2_4, H', ⟨q2_8⟩, ⟨q2_1⟩, ⟨q2_2⟩, ⟨q2_0⟩⟩
       ·rw [if_neg c30] at H
        have FF : (fA == 2) = false := beq_eq_false_iff_ne.mpr c30
        have GF : (fA != 2) = true := bne_iff_ne.mpr c30
        have H' := Aside0.mk H
        clear H
        have EL := dA.out
        have FL := eA.out
        have CD : wc.cell? ⟨bA, 0, none⟩ = some (.int .i64 fA) := (blk_cell aA.out 0).trans rfl
        have DD : wc.cell? ⟨bA, 1, none⟩ = some (.int .i64 iA) := (blk_cell aA.out 1).trans rfl
        have ED : wc.cell? ⟨bA, 2, none⟩ = some (.int .i64 lA) := (blk_cell aA.out 2).trans rfl
        have FD : wc.cell? ⟨bA, 3, none⟩ = some (.int .i64 gA) := (blk_cell aA.out 3).trans rfl
        have GD : wc.cell? ⟨bA, 4, none⟩ = some (.int .i64 mA) := (blk_cell aA.out 4).trans rfl
        have HD : wc.cell? ⟨bA, 5, none⟩ = some (.int .i64 kA) := (blk_cell aA.out 5).trans rfl
        have ID : wc.cell? ⟨bA, 6, none⟩ = some (.int .i64 jA) := (blk_cell aA.out 6).trans rfl
        have JD : wc.cell? ⟨bA, 7, none⟩ = some (.int .i64 nA) := (blk_cell aA.out 7).trans rfl
        have KD : wc.cell? ⟨bA, 8, none⟩ = some (.int .i64 oA) := (blk_cell aA.out 8).trans rfl
        have LD : wc.cell? ⟨bA, 9, none⟩ = some (.bool rA) := (blk_cell aA.out 9).trans rfl
        have MD := blk_frozen aA.out 0
        have ND := blk_frozen aA.out 1
        have OD := blk_frozen aA.out 2
        have PD := blk_frozen aA.out 3
        have QD := blk_frozen aA.out 4
        have RD := blk_frozen aA.out 5
        have SD := blk_frozen aA.out 6
        have TD := blk_frozen aA.out 7
        have UD := blk_frozen aA.out 8
        have VD := blk_frozen aA.out 9
        go_wp2_with (first | (go_at_call 51; (with_reducible refine (impl_within.calls iA 0 (wrap64 (a0 - 1)) true _ A28.out).mono ?_); rintro e w' ⟨rfl, ⟨nd, rfl⟩⟩))
        go_meet
        case rel => exact ⟨_, (false), q2_4, H', ⟨q2_8⟩, ⟨q2_1⟩, ⟨q2_2⟩, ⟨q2_0⟩⟩
      ·replace c29 := Bool.eq_false_iff.mpr c29
       subst c29
       rw [if_neg (show ¬ (false = true) by decide)] at H
       have H' := Aside0.mk H
       clear H
       have GL := dA.out
       have HL := eA.out
       have WD : wc.cell? ⟨bA, 0, none⟩ = some (.int .i64 fA) := (blk_cell aA.out 0).trans rfl
       have XD : wc.cell? ⟨bA, 1, none⟩ = some (.int .i64 iA) := (blk_cell aA.out 1).trans rfl
       have YD : wc.cell? ⟨bA, 2, none⟩ = some (.int .i64 lA) := (blk_cell aA.out 2).trans rfl
       have ZD : wc.cell? ⟨bA, 3, none⟩ = some (.int .i64 gA) := (blk_cell aA.out 3).trans rfl
       have aE : wc.cell? ⟨bA, 4, none⟩ = some (.int .i64 mA) := (blk_cell aA.out 4).trans rfl
       have bE : wc.cell? ⟨bA, 5, none⟩ = some (.int .i64 kA) := (blk_cell aA.out 5).trans rfl
       have cE : wc.cell? ⟨bA, 6, none⟩ = some (.int .i64 jA) := (blk_cell aA.out 6).trans rfl
       have dE : wc.cell? ⟨bA, 7, none⟩ = some (.int .i64 nA) := (blk_cell aA.out 7).trans rfl
       have eE : wc.cell? ⟨bA, 8, none⟩ = some (.int .i64 oA) := (blk_cell aA.out 8).trans rfl
       have fE : wc.cell? ⟨bA, 9, none⟩ = some (.bool rA) := (blk_cell aA.out 9).trans rfl
       have gE := blk_frozen aA.out 0
       have hE := blk_frozen aA.out 1
       have iE := blk_frozen aA.out 2
       have jE := blk_frozen aA.out 3
       have kE := blk_frozen aA.out 4
       have lE := blk_frozen aA.out 5
       have mE := blk_frozen aA.out 6
       have nE := blk_frozen aA.out 7
       have oE := blk_frozen aA.out 8
       have pE := blk_frozen aA.out 9
       go_wp2_with (first | (go_at_call 51; (with_reducible refine (impl_within.calls iA 0 (wrap64 (a0 - 1)) false _ A28.out).mono ?_); rintro e w' ⟨rfl, ⟨nd, rfl⟩⟩))
       go_meet
       case rel => exact ⟨_, (true), q2_4, H', ⟨q2_8⟩, ⟨q2_1⟩, ⟨q2_2⟩, ⟨q2_0⟩⟩
     ·rw [if_neg c27] at H
      have BA : (fA == 1) = false := beq_eq_false_iff_ne.mpr c27
      have EF : (fA != 1) = true := bne_iff_ne.mpr c27
      (first | rw [BA] | (simp only [i64_w, i32_w]; rw [BA]) | skip)
      by_cases c41 : fA = 2
      ·rw [if_pos c41] at H
       have IF : (fA == 2) = true := beq_iff_eq.mpr c41
       have JF : (fA != 2) = false := bne_eq_false_iff_eq.mpr c41
       clear c41
       by_cases c42 : gA > 0
       ·rw [if_pos c42] at H
        have KF : decide (0 < gA) = true := decide_eq_true c42
        clear c42
        replace H := Option.bind_eq_some_iff.mp H
        obtain ⟨MG, A430, H⟩ := H
        (try dsimp only at H)
        have A43 := Aside0.mk A430
        clear A430
        have H' := Aside0.mk H
        clear H
        have IL := dA.out
        have JL := eA.out
        have qE : wc.cell? ⟨bA, 0, none⟩ = some (.int .i64 fA) := (blk_cell aA.out 0).trans rfl
        have rE : wc.cell? ⟨bA, 1, none⟩ = some (.int .i64 iA) := (blk_cell aA.out 1).trans rfl
        have sE : wc.cell? ⟨bA, 2, none⟩ = some (.int .i64 lA) := (blk_cell aA.out 2).trans rfl
        have tE : wc.cell? ⟨bA, 3, none⟩ = some (.int .i64 gA) := (blk_cell aA.out 3).trans rfl
        have uE : wc.cell? ⟨bA, 4, none⟩ = some (.int .i64 mA) := (blk_cell aA.out 4).trans rfl
        have vE : wc.cell? ⟨bA, 5, none⟩ = some (.int .i64 kA) := (blk_cell aA.out 5).trans rfl
        have wE : wc.cell? ⟨bA, 6, none⟩ = some (.int .i64 jA) := (blk_cell aA.out 6).trans rfl
        have xE : wc.cell? ⟨bA, 7, none⟩ = some (.int .i64 nA) := (blk_cell aA.out 7).trans rfl
        have yE : wc.cell? ⟨bA, 8, none⟩ = some (.int .i64 oA) := (blk_cell aA.out 8).trans rfl
        have zE : wc.cell? ⟨bA, 9, none⟩ = some (.bool rA) := (blk_cell aA.out 9).trans rfl
        have AE := blk_frozen aA.out 0
        have BE := blk_frozen aA.out 1
        have CE := blk_frozen aA.out 2
        have DE := blk_frozen aA.out 3
        have EE := blk_frozen aA.out 4
        have FE := blk_frozen aA.out 5
        have GE := blk_frozen aA.out 6
        have HE := blk_frozen aA.out 7
        have IE := blk_frozen aA.out 8
        have JE := blk_frozen aA.out 9
        go_wp2_with (first | (go_at_call 51; (with_reducible refine (impl_within.calls DA 0 (wrap64 (a0 - 1)) MG _ A43.out).mono ?_); rintro e w' ⟨rfl, ⟨nd, rfl⟩⟩))
        go_meet
        case rel => exact ⟨_, (!MG), q2_4, H', ⟨q2_8⟩, ⟨q2_1⟩, ⟨q2_2⟩, ⟨q2_0⟩⟩
       ·rw [if_neg c42] at H
        have KF : decide (0 < gA) = false := decide_eq_false c42
        clear c42
        have H' := Aside0.mk H
        clear H
        have KL := dA.out
        have LL := eA.out
        have KE : wc.cell? ⟨bA, 0, none⟩ = some (.int .i64 fA) := (blk_cell aA.out 0).trans rfl
        have LE : wc.cell? ⟨bA, 1, none⟩ = some (.int .i64 iA) := (blk_cell aA.out 1).trans rfl
        have ME : wc.cell? ⟨bA, 2, none⟩ = some (.int .i64 lA) := (blk_cell aA.out 2).trans rfl
        have NE : wc.cell? ⟨bA, 3, none⟩ = some (.int .i64 gA) := (blk_cell aA.out 3).trans rfl
        have OE : wc.cell? ⟨bA, 4, none⟩ = some (.int .i64 mA) := (blk_cell aA.out 4).trans rfl
        have PE : wc.cell? ⟨bA, 5, none⟩ = some (.int .i64 kA) := (blk_cell aA.out 5).trans rfl
        have QE : wc.cell? ⟨bA, 6, none⟩ = some (.int .i64 jA) := (blk_cell aA.out 6).trans rfl
        have RE : wc.cell? ⟨bA, 7, none⟩ = some (.int .i64 nA) := (blk_cell aA.out 7).trans rfl
        have SE : wc.cell? ⟨bA, 8, none⟩ = some (.int .i64 oA) := (blk_cell aA.out 8).trans rfl
        have TE : wc.cell? ⟨bA, 9, none⟩ = some (.bool rA) := (blk_cell aA.out 9).trans rfl
        have UE := blk_frozen aA.out 0
        have VE := blk_frozen aA.out 1
        have WE := blk_frozen aA.out 2
        have XE := blk_frozen aA.out 3
        have YE := blk_frozen aA.out 4
        have ZE := blk_frozen aA.out 5
        have aF := blk_frozen aA.out 6
        have bF := blk_frozen aA.out 7
        have cF := blk_frozen aA.out 8
        have dF := blk_frozen aA.out 9
        go_wp2
        go_meet
        case rel => exact ⟨_, (false), q2_4, H', ⟨q2_8⟩, ⟨q2_1⟩, ⟨q2_2⟩, ⟨q2_0⟩⟩
      ·rw [if_neg c41] at H
       have IF : (fA == 2) = false := beq_eq_false_iff_ne.mpr c41
       have JF : (fA != 2) = true := bne_iff_ne.mpr c41
       have H' := Aside0.mk H
       clear H
       have ML := dA.out
       have NL := eA.out
       have eF : wc.cell? ⟨bA, 0, none⟩ = some (.int .i64 fA) := (blk_cell aA.out 0).trans rfl
       have fF : wc.cell? ⟨bA, 1, none⟩ = some (.int .i64 iA) := (blk_cell aA.out 1).trans rfl
       have gF : wc.cell? ⟨bA, 2, none⟩ = some (.int .i64 lA) := (blk_cell aA.out 2).trans rfl
       have hF : wc.cell? ⟨bA, 3, none⟩ = some (.int .i64 gA) := (blk_cell aA.out 3).trans rfl
       have iF : wc.cell? ⟨bA, 4, none⟩ = some (.int .i64 mA) := (blk_cell aA.out 4).trans rfl
       have jF : wc.cell? ⟨bA, 5, none⟩ = some (.int .i64 kA) := (blk_cell aA.out 5).trans rfl
       have kF : wc.cell? ⟨bA, 6, none⟩ = some (.int .i64 jA) := (blk_cell aA.out 6).trans rfl
       have lF : wc.cell? ⟨bA, 7, none⟩ = some (.int .i64 nA) := (blk_cell aA.out 7).trans rfl
       have mF : wc.cell? ⟨bA, 8, none⟩ = some (.int .i64 oA) := (blk_cell aA.out 8).trans rfl
       have nF : wc.cell? ⟨bA, 9, none⟩ = some (.bool rA) := (blk_cell aA.out 9).trans rfl
       have oF := blk_frozen aA.out 0
       have pF := blk_frozen aA.out 1
       have qF := blk_frozen aA.out 2
       have rF := blk_frozen aA.out 3
       have sF := blk_frozen aA.out 4
       have tF := blk_frozen aA.out 5
       have uF := blk_frozen aA.out 6
       have vF := blk_frozen aA.out 7
       have wF := blk_frozen aA.out 8
       have xF := blk_frozen aA.out 9
       go_wp2
       go_meet
       case rel => exact ⟨_, (false), q2_4, H', ⟨q2_8⟩, ⟨q2_1⟩, ⟨q2_2⟩, ⟨q2_0⟩⟩
    case rest =>
     clear HC26
     (try clear c1); (try clear c2); (try clear p2); (try clear c3); (try clear c4); (try clear c6); (try clear p6); (try clear c7); (try clear c9); (try clear c10); (try clear c13); (try clear c15); (try clear c17); (try clear c19); (try clear c21); (try clear c23); (try clear c24); (try clear c25); (try clear c27); (try clear BA); (try clear EF); (try clear c29); (try clear c30); (try clear FF); (try clear GF); (try clear c31); (try clear HF); (try clear c33); (try clear c35); (try clear c37); (try clear c39); (try clear c41); (try clear IF); (try clear JF); (try clear c42); (try clear KF); (try clear c44); (try clear c46); (try clear c48); (try clear EA); (try clear FA); (try clear GA); (try clear IA); (try clear JA); (try clear KA); (try clear LA); (try clear MA); (try clear NA); (try clear OA); (try clear ZA); (try clear aB); (try clear bB); (try clear cB); (try clear dB); (try clear eB); (try clear fB); (try clear gB); (try clear hB); (try clear iB); (try clear tB); (try clear uB); (try clear vB); (try clear wB); (try clear xB); (try clear yB); (try clear zB); (try clear AB); (try clear BB); (try clear CB); (try clear OB); (try clear PB); (try clear QB); (try clear RB); (try clear SB); (try clear TB); (try clear UB); (try clear VB); (try clear WB); (try clear XB); (try clear FC); (try clear GC); (try clear HC); (try clear IC); (try clear OC); (try clear PC); (try clear QC); (try clear RC); (try clear SC); (try clear TC); (try clear UC); (try clear VC); (try clear WC); (try clear XC); (try clear iD); (try clear jD); (try clear kD); (try clear lD); (try clear mD); (try clear nD); (try clear oD); (try clear pD); (try clear qD); (try clear rD); (try clear CD); (try clear DD); (try clear ED); (try clear FD); (try clear GD); (try clear HD); (try clear ID); (try clear JD); (try clear KD); (try clear LD); (try clear WD); (try clear XD); (try clear YD); (try clear ZD); (try clear aE); (try clear bE); (try clear cE); (try clear dE); (try clear eE); (try clear fE); (try clear qE); (try clear rE); (try clear sE); (try clear tE); (try clear uE); (try clear vE); (try clear wE); (try clear xE); (try clear yE); (try clear zE); (try clear KE); (try clear LE); (try clear ME); (try clear NE); (try clear OE); (try clear PE); (try clear QE); (try clear RE); (try clear SE); (try clear TE); (try clear eF); (try clear fF); (try clear gF); (try clear hF); (try clear iF); (try clear jF); (try clear kF); (try clear lF); (try clear mF); (try clear nF); (try clear lC); (try clear mC); (try clear nC); (try clear oC); (try clear pC); (try clear qC); (try clear rC); (try clear sC); (try clear tC); (try clear uC); (try clear PA); (try clear QA); (try clear RA); (try clear SA); (try clear TA); (try clear UA); (try clear VA); (try clear WA); (try clear XA); (try clear YA); (try clear jB); (try clear kB); (try clear lB); (try clear mB); (try clear nB); (try clear oB); (try clear pB); (try clear qB); (try clear rB); (try clear sB); (try clear DB); (try clear EB); (try clear FB); (try clear GB); (try clear IB); (try clear JB); (try clear KB); (try clear LB); (try clear MB); (try clear NB); (try clear YB); (try clear ZB); (try clear aC); (try clear bC); (try clear cC); (try clear dC); (try clear eC); (try clear fC); (try clear gC); (try clear hC); (try clear JC); (try clear KC); (try clear LC); (try clear MC); (try clear YC); (try clear ZC); (try clear aD); (try clear bD); (try clear cD); (try clear dD); (try clear eD); (try clear fD); (try clear gD); (try clear hD); (try clear sD); (try clear tD); (try clear uD); (try clear vD); (try clear wD); (try clear xD); (try clear yD); (try clear zD); (try clear AD); (try clear BD); (try clear MD); (try clear ND); (try clear OD); (try clear PD); (try clear QD); (try clear RD); (try clear SD); (try clear TD); (try clear UD); (try clear VD); (try clear gE); (try clear hE); (try clear iE); (try clear jE); (try clear kE); (try clear lE); (try clear mE); (try clear nE); (try clear oE); (try clear pE); (try clear AE); (try clear BE); (try clear CE); (try clear DE); (try clear EE); (try clear FE); (try clear GE); (try clear HE); (try clear IE); (try clear JE); (try clear UE); (try clear VE); (try clear WE); (try clear XE); (try clear YE); (try clear ZE); (try clear aF); (try clear bF); (try clear cF); (try clear dF); (try clear oF); (try clear pF); (try clear qF); (try clear rF); (try clear sF); (try clear tF); (try clear uF); (try clear vF); (try clear wF); (try clear xF); (try clear vC); (try clear wC); (try clear xC); (try clear yC); (try clear zC); (try clear AC); (try clear BC); (try clear CC); (try clear DC); (try clear EC); (try clear p2)
     obtain ⟨kq, NC, rfl, HA, HJ25, aA, cA, HB⟩ := hcut
     cases kq with
     | zero => exact absurd HA.out (by simp [impl_StAct.j1])
     | succ kj25 =>
      have H := HA.out
      clear HA
      simp only [impl_StAct.j1] at H
      by_cases c50 : NC = true
      ·subst c50
       rw [if_pos rfl] at H
       simp only [Option.some.injEq, Prod.mk.injEq] at H
       obtain ⟨rfl, rfl, rfl, rfl, rfl⟩ := H
       have OL := eA.out
       have PL := dA.out
       have LF : wc.cell? ⟨hA, 0, none⟩ = some (.int .i64 0) := (blk_cell cA.out 0).trans rfl
       have MF : wc.cell? ⟨hA, 1, none⟩ = some (.int .i64 0) := (blk_cell cA.out 1).trans rfl
       have NF : wc.cell? ⟨hA, 2, none⟩ = some (.int .i64 0) := (blk_cell cA.out 2).trans rfl
       have OF : wc.cell? ⟨hA, 3, none⟩ = some (.int .i64 0) := (blk_cell cA.out 3).trans rfl
       have PF := blk_frozen cA.out 0
       have QF := blk_frozen cA.out 1
       have RF := blk_frozen cA.out 2
       have SF := blk_frozen cA.out 3
       go_wp2
       refine bodyPost_ret (results_ct rfl _ _ hA 37 #[.int .i64 0, .int .i64 0, .int .i64 0, .int .i64 0] (0, 0) _ rfl q2_3 Try.underlying37 rfl (by kernel_rfl)) rfl ?_
       exact ⟨q2_5, q2_0⟩
      ·replace c50 := Bool.eq_false_iff.mpr c50
       subst c50
       rw [if_neg (show ¬ (false = true) by decide)] at H
       have HC53 := Aside0.mk H
       clear H
       have QL := dA.out
       have RL := eA.out
       have TF : wc.cell? ⟨bA, 0, none⟩ = some (.int .i64 fA) := (blk_cell aA.out 0).trans rfl
       have UF : wc.cell? ⟨bA, 1, none⟩ = some (.int .i64 iA) := (blk_cell aA.out 1).trans rfl
       have VF : wc.cell? ⟨bA, 2, none⟩ = some (.int .i64 lA) := (blk_cell aA.out 2).trans rfl
       have WF : wc.cell? ⟨bA, 3, none⟩ = some (.int .i64 gA) := (blk_cell aA.out 3).trans rfl
       have XF : wc.cell? ⟨bA, 4, none⟩ = some (.int .i64 mA) := (blk_cell aA.out 4).trans rfl
       have YF : wc.cell? ⟨bA, 5, none⟩ = some (.int .i64 kA) := (blk_cell aA.out 5).trans rfl
       have ZF : wc.cell? ⟨bA, 6, none⟩ = some (.int .i64 jA) := (blk_cell aA.out 6).trans rfl
       have aG : wc.cell? ⟨bA, 7, none⟩ = some (.int .i64 nA) := (blk_cell aA.out 7).trans rfl
       have bG : wc.cell? ⟨bA, 8, none⟩ = some (.int .i64 oA) := (blk_cell aA.out 8).trans rfl
       have cG : wc.cell? ⟨bA, 9, none⟩ = some (.bool rA) := (blk_cell aA.out 9).trans rfl
       have dG := blk_frozen aA.out 0
       have eG := blk_frozen aA.out 1
       have fG := blk_frozen aA.out 2
       have gG := blk_frozen aA.out 3
       have hG := blk_frozen aA.out 4
       have iG := blk_frozen aA.out 5
       have jG := blk_frozen aA.out 6
       have kG := blk_frozen aA.out 7
       have lG := blk_frozen aA.out 8
       have mG := blk_frozen aA.out 9
       go_upto_if 70 with (fail)
       go_cut [8] (fun v8 wc => ∃ (kq : Nat) (CA : Int), v8 = .int .i64 CA ∧ Aside0 (impl_StAct.j2 kq DA kC CA fA iA lA gA mA kA jA nA oA rA = some (r1, r2, r3, r4, r5)) ∧ Aside0 (kq ≤ kj25) ∧ Aside0 (wc.heap[bA]? = some (.cells #[.int .i64 fA, .int .i64 iA, .int .i64 lA, .int .i64 gA, .int .i64 mA, .int .i64 kA, .int .i64 jA, .int .i64 nA, .int .i64 oA, .bool rA] 23 (0, 0))) ∧ Aside0 (wc.heap[hA]? = some (.cells #[.int .i64 0, .int .i64 0, .int .i64 0, .int .i64 0] 37 (0, 0))) ∧ Aside0 (Below w.heap.size w wc))
       case first =>
        have H := HC53.out
        clear HC53
        by_cases c56 : fA = 1
        ·rw [if_pos c56] at H
         have iC : (fA == 1) = true := beq_iff_eq.mpr c56
         have KG : (fA != 1) = false := bne_eq_false_iff_eq.mpr c56
         clear c56
         (first | rw [iC] | (simp only [i64_w, i32_w]; rw [iC]) | skip)
         have H' := Aside0.mk H
         clear H
         have SL := dA.out
         have TL := eA.out
         have nG : wc.cell? ⟨bA, 0, none⟩ = some (.int .i64 fA) := (blk_cell aA.out 0).trans rfl
         have oG : wc.cell? ⟨bA, 1, none⟩ = some (.int .i64 iA) := (blk_cell aA.out 1).trans rfl
         have pG : wc.cell? ⟨bA, 2, none⟩ = some (.int .i64 lA) := (blk_cell aA.out 2).trans rfl
         have qG : wc.cell? ⟨bA, 3, none⟩ = some (.int .i64 gA) := (blk_cell aA.out 3).trans rfl
         have rG : wc.cell? ⟨bA, 4, none⟩ = some (.int .i64 mA) := (blk_cell aA.out 4).trans rfl
         have sG : wc.cell? ⟨bA, 5, none⟩ = some (.int .i64 kA) := (blk_cell aA.out 5).trans rfl
         have tG : wc.cell? ⟨bA, 6, none⟩ = some (.int .i64 jA) := (blk_cell aA.out 6).trans rfl
         have uG : wc.cell? ⟨bA, 7, none⟩ = some (.int .i64 nA) := (blk_cell aA.out 7).trans rfl
         have vG : wc.cell? ⟨bA, 8, none⟩ = some (.int .i64 oA) := (blk_cell aA.out 8).trans rfl
         have wG : wc.cell? ⟨bA, 9, none⟩ = some (.bool rA) := (blk_cell aA.out 9).trans rfl
         have xG := blk_frozen aA.out 0
         have yG := blk_frozen aA.out 1
         have zG := blk_frozen aA.out 2
         have AG := blk_frozen aA.out 3
         have BG := blk_frozen aA.out 4
         have CG := blk_frozen aA.out 5
         have DG := blk_frozen aA.out 6
         have EG := blk_frozen aA.out 7
         have FG := blk_frozen aA.out 8
         have GG := blk_frozen aA.out 9
         go_wp2
         go_meet
         case rel => exact ⟨_, (wrap64 (iA + 1)), q2_4, H', ⟨by have := HJ3.out; have := HJ25.out; first | omega | exact Nat.le_refl _⟩, ⟨q2_1⟩, ⟨q2_2⟩, ⟨q2_0⟩⟩
        ·rw [if_neg c56] at H
         have iC : (fA == 1) = false := beq_eq_false_iff_ne.mpr c56
         have KG : (fA != 1) = true := bne_iff_ne.mpr c56
         (first | rw [iC] | (simp only [i64_w, i32_w]; rw [iC]) | skip)
         have H' := Aside0.mk H
         clear H
         go_wp2
         go_meet
         case rel => exact ⟨_, (kA), q2_4, H', ⟨by have := HJ3.out; have := HJ25.out; first | omega | exact Nat.le_refl _⟩, ⟨q2_1⟩, ⟨q2_2⟩, ⟨q2_0⟩⟩
       case rest =>
        clear HC53
        (try clear c1); (try clear c2); (try clear p2); (try clear c3); (try clear c4); (try clear c5); (try clear c6); (try clear p6); (try clear c7); (try clear c9); (try clear c10); (try clear c13); (try clear c15); (try clear c17); (try clear c19); (try clear c21); (try clear c23); (try clear c24); (try clear c25); (try clear c27); (try clear BA); (try clear EF); (try clear c29); (try clear c30); (try clear FF); (try clear GF); (try clear c31); (try clear HF); (try clear c33); (try clear c35); (try clear c37); (try clear c39); (try clear c41); (try clear IF); (try clear JF); (try clear c42); (try clear KF); (try clear c44); (try clear c46); (try clear c48); (try clear c50); (try clear c51); (try clear c54); (try clear c56); (try clear iC); (try clear KG); (try clear c57); (try clear EA); (try clear FA); (try clear GA); (try clear IA); (try clear JA); (try clear KA); (try clear LA); (try clear MA); (try clear NA); (try clear OA); (try clear ZA); (try clear aB); (try clear bB); (try clear cB); (try clear dB); (try clear eB); (try clear fB); (try clear gB); (try clear hB); (try clear iB); (try clear tB); (try clear uB); (try clear vB); (try clear wB); (try clear xB); (try clear yB); (try clear zB); (try clear AB); (try clear BB); (try clear CB); (try clear OB); (try clear PB); (try clear QB); (try clear RB); (try clear SB); (try clear TB); (try clear UB); (try clear VB); (try clear WB); (try clear XB); (try clear FC); (try clear GC); (try clear HC); (try clear IC); (try clear OC); (try clear PC); (try clear QC); (try clear RC); (try clear SC); (try clear TC); (try clear UC); (try clear VC); (try clear WC); (try clear XC); (try clear iD); (try clear jD); (try clear kD); (try clear lD); (try clear mD); (try clear nD); (try clear oD); (try clear pD); (try clear qD); (try clear rD); (try clear CD); (try clear DD); (try clear ED); (try clear FD); (try clear GD); (try clear HD); (try clear ID); (try clear JD); (try clear KD); (try clear LD); (try clear WD); (try clear XD); (try clear YD); (try clear ZD); (try clear aE); (try clear bE); (try clear cE); (try clear dE); (try clear eE); (try clear fE); (try clear qE); (try clear rE); (try clear sE); (try clear tE); (try clear uE); (try clear vE); (try clear wE); (try clear xE); (try clear yE); (try clear zE); (try clear KE); (try clear LE); (try clear ME); (try clear NE); (try clear OE); (try clear PE); (try clear QE); (try clear RE); (try clear SE); (try clear TE); (try clear eF); (try clear fF); (try clear gF); (try clear hF); (try clear iF); (try clear jF); (try clear kF); (try clear lF); (try clear mF); (try clear nF); (try clear LF); (try clear MF); (try clear NF); (try clear OF); (try clear TF); (try clear UF); (try clear VF); (try clear WF); (try clear XF); (try clear YF); (try clear ZF); (try clear aG); (try clear bG); (try clear cG); (try clear nG); (try clear oG); (try clear pG); (try clear qG); (try clear rG); (try clear sG); (try clear tG); (try clear uG); (try clear vG); (try clear wG); (try clear lC); (try clear mC); (try clear nC); (try clear oC); (try clear pC); (try clear qC); (try clear rC); (try clear sC); (try clear tC); (try clear uC); (try clear PA); (try clear QA); (try clear RA); (try clear SA); (try clear TA); (try clear UA); (try clear VA); (try clear WA); (try clear XA); (try clear YA); (try clear jB); (try clear kB); (try clear lB); (try clear mB); (try clear nB); (try clear oB); (try clear pB); (try clear qB); (try clear rB); (try clear sB); (try clear DB); (try clear EB); (try clear FB); (try clear GB); (try clear IB); (try clear JB); (try clear KB); (try clear LB); (try clear MB); (try clear NB); (try clear YB); (try clear ZB); (try clear aC); (try clear bC); (try clear cC); (try clear dC); (try clear eC); (try clear fC); (try clear gC); (try clear hC); (try clear JC); (try clear KC); (try clear LC); (try clear MC); (try clear YC); (try clear ZC); (try clear aD); (try clear bD); (try clear cD); (try clear dD); (try clear eD); (try clear fD); (try clear gD); (try clear hD); (try clear sD); (try clear tD); (try clear uD); (try clear vD); (try clear wD); (try clear xD); (try clear yD); (try clear zD); (try clear AD); (try clear BD); (try clear MD); (try clear ND); (try clear OD); (try clear PD); (try clear QD); (try clear RD); (try clear SD); (try clear TD); (try clear UD); (try clear VD); (try clear gE); (try clear hE); (try clear iE); (try clear jE); (try clear kE); (try clear lE); (try clear mE); (try clear nE); (try clear oE); (try clear pE); (try clear AE); (try clear BE); (try clear CE); (try clear DE); (try clear EE); (try clear FE); (try clear GE); (try clear HE); (try clear IE); (try clear JE); (try clear UE); (try clear VE); (try clear WE); (try clear XE); (try clear YE); (try clear ZE); (try clear aF); (try clear bF); (try clear cF); (try clear dF); (try clear oF); (try clear pF); (try clear qF); (try clear rF); (try clear sF); (try clear tF); (try clear uF); (try clear vF); (try clear wF); (try clear xF); (try clear PF); (try clear QF); (try clear RF); (try clear SF); (try clear dG); (try clear eG); (try clear fG); (try clear gG); (try clear hG); (try clear iG); (try clear jG); (try clear kG); (try clear lG); (try clear mG); (try clear xG); (try clear yG); (try clear zG); (try clear AG); (try clear BG); (try clear CG); (try clear DG); (try clear EG); (try clear FG); (try clear GG); (try clear vC); (try clear wC); (try clear xC); (try clear yC); (try clear zC); (try clear AC); (try clear BC); (try clear CC); (try clear DC); (try clear EC); (try clear p2); (try clear p6)
        obtain ⟨kq, CA, rfl, HA, HJ52, aA, cA, HB⟩ := hcut
        cases kq with
        | zero => exact absurd HA.out (by simp [impl_StAct.j2])
        | succ kj52 =>
         have H := HA.out
         clear HA
         simp only [impl_StAct.j2] at H
         by_cases c59 : gA = 0
         ·rw [if_pos c59] at H
          have zI : (gA == 0) = true := beq_iff_eq.mpr c59
          have AI : (gA != 0) = false := bne_eq_false_iff_eq.mpr c59
          clear c59
          simp only [Option.some.injEq, Prod.mk.injEq] at H
          obtain ⟨rfl, rfl, rfl, rfl, rfl⟩ := H
          have UL := dA.out
          have VL := eA.out
          have NG : wc.cell? ⟨bA, 0, none⟩ = some (.int .i64 fA) := (blk_cell aA.out 0).trans rfl
          have OG : wc.cell? ⟨bA, 1, none⟩ = some (.int .i64 iA) := (blk_cell aA.out 1).trans rfl
          have PG : wc.cell? ⟨bA, 2, none⟩ = some (.int .i64 lA) := (blk_cell aA.out 2).trans rfl
          have QG : wc.cell? ⟨bA, 3, none⟩ = some (.int .i64 gA) := (blk_cell aA.out 3).trans rfl
          have RG : wc.cell? ⟨bA, 4, none⟩ = some (.int .i64 mA) := (blk_cell aA.out 4).trans rfl
          have SG : wc.cell? ⟨bA, 5, none⟩ = some (.int .i64 kA) := (blk_cell aA.out 5).trans rfl
          have TG : wc.cell? ⟨bA, 6, none⟩ = some (.int .i64 jA) := (blk_cell aA.out 6).trans rfl
          have UG : wc.cell? ⟨bA, 7, none⟩ = some (.int .i64 nA) := (blk_cell aA.out 7).trans rfl
          have VG : wc.cell? ⟨bA, 8, none⟩ = some (.int .i64 oA) := (blk_cell aA.out 8).trans rfl
          have WG : wc.cell? ⟨bA, 9, none⟩ = some (.bool rA) := (blk_cell aA.out 9).trans rfl
          have XG := blk_frozen aA.out 0
          have YG := blk_frozen aA.out 1
          have ZG := blk_frozen aA.out 2
          have aH := blk_frozen aA.out 3
          have bH := blk_frozen aA.out 4
          have cH := blk_frozen aA.out 5
          have dH := blk_frozen aA.out 6
          have eH := blk_frozen aA.out 7
          have fH := blk_frozen aA.out 8
          have gH := blk_frozen aA.out 9
          have hH : wc.cell? ⟨hA, 0, none⟩ = some (.int .i64 0) := (blk_cell cA.out 0).trans rfl
          have iH : wc.cell? ⟨hA, 1, none⟩ = some (.int .i64 0) := (blk_cell cA.out 1).trans rfl
          have jH : wc.cell? ⟨hA, 2, none⟩ = some (.int .i64 0) := (blk_cell cA.out 2).trans rfl
          have kH : wc.cell? ⟨hA, 3, none⟩ = some (.int .i64 0) := (blk_cell cA.out 3).trans rfl
          have lH := blk_frozen cA.out 0
          have mH := blk_frozen cA.out 1
          have nH := blk_frozen cA.out 2
          have oH := blk_frozen cA.out 3
          go_wp2
          refine bodyPost_ret (results_ct rfl _ _ hA 37 #[.int .i64 1, .int .i64 0, .int .i64 0, .int .i64 0] (0, 0) _ rfl (by (with_reducible repeat (first | refine blk_drewN ?_ _ | refine blk_drew ?_ | refine blk_alloc ?_ _)); refine blk_put (cs := #[.int .i64 1, .int .i64 0, .int .i64 0, .int .i64 0]) ?_ 3 _ rfl; (with_reducible repeat (first | refine blk_drewN ?_ _ | refine blk_drew ?_ | refine blk_alloc ?_ _)); refine blk_put (cs := #[.int .i64 1, .int .i64 0, .int .i64 0, .int .i64 0]) ?_ 2 _ rfl; (with_reducible repeat (first | refine blk_drewN ?_ _ | refine blk_drew ?_ | refine blk_alloc ?_ _)); refine blk_put (cs := #[.int .i64 1, .int .i64 0, .int .i64 0, .int .i64 0]) ?_ 1 _ rfl; (with_reducible repeat (first | refine blk_drewN ?_ _ | refine blk_drew ?_ | refine blk_alloc ?_ _)); refine blk_put (cs := #[.int .i64 0, .int .i64 0, .int .i64 0, .int .i64 0]) ?_ 0 _ rfl; (with_reducible repeat (first | refine blk_drewN ?_ _ | refine blk_drew ?_ | refine blk_alloc ?_ _)); exact cA.out) Try.underlying37 rfl (by kernel_rfl)) rfl ?_
          exact ⟨q2_5, q2_0⟩
         ·rw [if_neg c59] at H
          have zI : (gA == 0) = false := beq_eq_false_iff_ne.mpr c59
          have AI : (gA != 0) = true := bne_iff_ne.mpr c59
          have HC63 := Aside0.mk H
          clear H
          have WL := dA.out
          have XL := eA.out
          have pH : wc.cell? ⟨bA, 0, none⟩ = some (.int .i64 fA) := (blk_cell aA.out 0).trans rfl
          have qH : wc.cell? ⟨bA, 1, none⟩ = some (.int .i64 iA) := (blk_cell aA.out 1).trans rfl
          have rH : wc.cell? ⟨bA, 2, none⟩ = some (.int .i64 lA) := (blk_cell aA.out 2).trans rfl
          have sH : wc.cell? ⟨bA, 3, none⟩ = some (.int .i64 gA) := (blk_cell aA.out 3).trans rfl
          have tH : wc.cell? ⟨bA, 4, none⟩ = some (.int .i64 mA) := (blk_cell aA.out 4).trans rfl
          have uH : wc.cell? ⟨bA, 5, none⟩ = some (.int .i64 kA) := (blk_cell aA.out 5).trans rfl
          have vH : wc.cell? ⟨bA, 6, none⟩ = some (.int .i64 jA) := (blk_cell aA.out 6).trans rfl
          have wH : wc.cell? ⟨bA, 7, none⟩ = some (.int .i64 nA) := (blk_cell aA.out 7).trans rfl
          have xH : wc.cell? ⟨bA, 8, none⟩ = some (.int .i64 oA) := (blk_cell aA.out 8).trans rfl
          have yH : wc.cell? ⟨bA, 9, none⟩ = some (.bool rA) := (blk_cell aA.out 9).trans rfl
          have zH := blk_frozen aA.out 0
          have AH := blk_frozen aA.out 1
          have BH := blk_frozen aA.out 2
          have CH := blk_frozen aA.out 3
          have DH := blk_frozen aA.out 4
          have EH := blk_frozen aA.out 5
          have FH := blk_frozen aA.out 6
          have GH := blk_frozen aA.out 7
          have HH := blk_frozen aA.out 8
          have IH := blk_frozen aA.out 9
          go_upto_region 11 with (fail)
          go_cut [79] (fun v79 wc => ∃ (kq : Nat) (yF : Bool), v79 = .bool yF ∧ Aside0 (impl_StAct.j3 kq DA kC CA yF fA iA lA gA mA kA jA nA oA rA = some (r1, r2, r3, r4, r5)) ∧ Aside0 (kq ≤ kj52) ∧ Aside0 (wc.heap[bA]? = some (.cells #[.int .i64 fA, .int .i64 iA, .int .i64 lA, .int .i64 gA, .int .i64 mA, .int .i64 kA, .int .i64 jA, .int .i64 nA, .int .i64 oA, .bool rA] 23 (0, 0))) ∧ Aside0 (wc.heap[hA]? = some (.cells #[.int .i64 0, .int .i64 0, .int .i64 0, .int .i64 0] 37 (0, 0))) ∧ Aside0 (Below w.heap.size w wc))
          case first =>
           have H := HC63.out
           clear HC63
           by_cases c66 : gA = 1
           ·rw [if_pos c66] at H
            have jC : (gA == 1) = true := beq_iff_eq.mpr c66
            have BI : (gA != 1) = false := bne_eq_false_iff_eq.mpr c66
            clear c66
            (first | rw [jC] | (simp only [i64_w, i32_w]; rw [jC]) | skip)
            have H' := Aside0.mk H
            clear H
            have YL := dA.out
            have ZL := eA.out
            have JH : wc.cell? ⟨bA, 0, none⟩ = some (.int .i64 fA) := (blk_cell aA.out 0).trans rfl
            have KH : wc.cell? ⟨bA, 1, none⟩ = some (.int .i64 iA) := (blk_cell aA.out 1).trans rfl
            have LH : wc.cell? ⟨bA, 2, none⟩ = some (.int .i64 lA) := (blk_cell aA.out 2).trans rfl
            have MH : wc.cell? ⟨bA, 3, none⟩ = some (.int .i64 gA) := (blk_cell aA.out 3).trans rfl
            have NH : wc.cell? ⟨bA, 4, none⟩ = some (.int .i64 mA) := (blk_cell aA.out 4).trans rfl
            have OH : wc.cell? ⟨bA, 5, none⟩ = some (.int .i64 kA) := (blk_cell aA.out 5).trans rfl
            have PH : wc.cell? ⟨bA, 6, none⟩ = some (.int .i64 jA) := (blk_cell aA.out 6).trans rfl
            have QH : wc.cell? ⟨bA, 7, none⟩ = some (.int .i64 nA) := (blk_cell aA.out 7).trans rfl
            have RH : wc.cell? ⟨bA, 8, none⟩ = some (.int .i64 oA) := (blk_cell aA.out 8).trans rfl
            have SH : wc.cell? ⟨bA, 9, none⟩ = some (.bool rA) := (blk_cell aA.out 9).trans rfl
            have TH := blk_frozen aA.out 0
            have UH := blk_frozen aA.out 1
            have VH := blk_frozen aA.out 2
            have WH := blk_frozen aA.out 3
            have XH := blk_frozen aA.out 4
            have YH := blk_frozen aA.out 5
            have ZH := blk_frozen aA.out 6
            have aI := blk_frozen aA.out 7
            have bI := blk_frozen aA.out 8
            have cI := blk_frozen aA.out 9
            go_wp2
            go_meet
            case rel => exact ⟨_, ((fA == 1)), q2_4, H', ⟨by have := HJ3.out; have := HJ25.out; have := HJ52.out; first | omega | exact Nat.le_refl _⟩, ⟨q2_1⟩, ⟨q2_2⟩, ⟨q2_0⟩⟩
           ·rw [if_neg c66] at H
            have jC : (gA == 1) = false := beq_eq_false_iff_ne.mpr c66
            have BI : (gA != 1) = true := bne_iff_ne.mpr c66
            (first | rw [jC] | (simp only [i64_w, i32_w]; rw [jC]) | skip)
            have H' := Aside0.mk H
            clear H
            have aM := dA.out
            have bM := eA.out
            have dI : wc.cell? ⟨bA, 0, none⟩ = some (.int .i64 fA) := (blk_cell aA.out 0).trans rfl
            have eI : wc.cell? ⟨bA, 1, none⟩ = some (.int .i64 iA) := (blk_cell aA.out 1).trans rfl
            have fI : wc.cell? ⟨bA, 2, none⟩ = some (.int .i64 lA) := (blk_cell aA.out 2).trans rfl
            have gI : wc.cell? ⟨bA, 3, none⟩ = some (.int .i64 gA) := (blk_cell aA.out 3).trans rfl
            have hI : wc.cell? ⟨bA, 4, none⟩ = some (.int .i64 mA) := (blk_cell aA.out 4).trans rfl
            have iI : wc.cell? ⟨bA, 5, none⟩ = some (.int .i64 kA) := (blk_cell aA.out 5).trans rfl
            have jI : wc.cell? ⟨bA, 6, none⟩ = some (.int .i64 jA) := (blk_cell aA.out 6).trans rfl
            have kI : wc.cell? ⟨bA, 7, none⟩ = some (.int .i64 nA) := (blk_cell aA.out 7).trans rfl
            have lI : wc.cell? ⟨bA, 8, none⟩ = some (.int .i64 oA) := (blk_cell aA.out 8).trans rfl
            have mI : wc.cell? ⟨bA, 9, none⟩ = some (.bool rA) := (blk_cell aA.out 9).trans rfl
            have nI := blk_frozen aA.out 0
            have oI := blk_frozen aA.out 1
            have pI := blk_frozen aA.out 2
            have qI := blk_frozen aA.out 3
            have rI := blk_frozen aA.out 4
            have sI := blk_frozen aA.out 5
            have tI := blk_frozen aA.out 6
            have uI := blk_frozen aA.out 7
            have vI := blk_frozen aA.out 8
            have wI := blk_frozen aA.out 9
            go_wp2
            go_meet
            case rel => exact ⟨_, (false), q2_4, H', ⟨by have := HJ3.out; have := HJ25.out; have := HJ52.out; first | omega | exact Nat.le_refl _⟩, ⟨q2_1⟩, ⟨q2_2⟩, ⟨q2_0⟩⟩
          case rest =>
           clear HC63
           (try clear c1); (try clear c2); (try clear p2); (try clear c3); (try clear c4); (try clear c5); (try clear c6); (try clear p6); (try clear c7); (try clear c9); (try clear c10); (try clear c13); (try clear c15); (try clear c17); (try clear c19); (try clear c21); (try clear c23); (try clear c24); (try clear c25); (try clear c27); (try clear BA); (try clear EF); (try clear c29); (try clear c30); (try clear FF); (try clear GF); (try clear c31); (try clear HF); (try clear c33); (try clear c35); (try clear c37); (try clear c39); (try clear c41); (try clear IF); (try clear JF); (try clear c42); (try clear KF); (try clear c44); (try clear c46); (try clear c48); (try clear c50); (try clear c51); (try clear c54); (try clear c56); (try clear iC); (try clear KG); (try clear c57); (try clear c59); (try clear zI); (try clear AI); (try clear c60); (try clear c64); (try clear p64); (try clear c66); (try clear jC); (try clear BI); (try clear c67); (try clear c69); (try clear EA); (try clear FA); (try clear GA); (try clear IA); (try clear JA); (try clear KA); (try clear LA); (try clear MA); (try clear NA); (try clear OA); (try clear ZA); (try clear aB); (try clear bB); (try clear cB); (try clear dB); (try clear eB); (try clear fB); (try clear gB); (try clear hB); (try clear iB); (try clear tB); (try clear uB); (try clear vB); (try clear wB); (try clear xB); (try clear yB); (try clear zB); (try clear AB); (try clear BB); (try clear CB); (try clear OB); (try clear PB); (try clear QB); (try clear RB); (try clear SB); (try clear TB); (try clear UB); (try clear VB); (try clear WB); (try clear XB); (try clear FC); (try clear GC); (try clear HC); (try clear IC); (try clear OC); (try clear PC); (try clear QC); (try clear RC); (try clear SC); (try clear TC); (try clear UC); (try clear VC); (try clear WC); (try clear XC); (try clear iD); (try clear jD); (try clear kD); (try clear lD); (try clear mD); (try clear nD); (try clear oD); (try clear pD); (try clear qD); (try clear rD); (try clear CD); (try clear DD); (try clear ED); (try clear FD); (try clear GD); (try clear HD); (try clear ID); (try clear JD); (try clear KD); (try clear LD); (try clear WD); (try clear XD); (try clear YD); (try clear ZD); (try clear aE); (try clear bE); (try clear cE); (try clear dE); (try clear eE); (try clear fE); (try clear qE); (try clear rE); (try clear sE); (try clear tE); (try clear uE); (try clear vE); (try clear wE); (try clear xE); (try clear yE); (try clear zE); (try clear KE); (try clear LE); (try clear ME); (try clear NE); (try clear OE); (try clear PE); (try clear QE); (try clear RE); (try clear SE); (try clear TE); (try clear eF); (try clear fF); (try clear gF); (try clear hF); (try clear iF); (try clear jF); (try clear kF); (try clear lF); (try clear mF); (try clear nF); (try clear LF); (try clear MF); (try clear NF); (try clear OF); (try clear TF); (try clear UF); (try clear VF); (try clear WF); (try clear XF); (try clear YF); (try clear ZF); (try clear aG); (try clear bG); (try clear cG); (try clear nG); (try clear oG); (try clear pG); (try clear qG); (try clear rG); (try clear sG); (try clear tG); (try clear uG); (try clear vG); (try clear wG); (try clear NG); (try clear OG); (try clear PG); (try clear QG); (try clear RG); (try clear SG); (try clear TG); (try clear UG); (try clear VG); (try clear WG); (try clear hH); (try clear iH); (try clear jH); (try clear kH); (try clear pH); (try clear qH); (try clear rH); (try clear sH); (try clear tH); (try clear uH); (try clear vH); (try clear wH); (try clear xH); (try clear yH); (try clear JH); (try clear KH); (try clear LH); (try clear MH); (try clear NH); (try clear OH); (try clear PH); (try clear QH); (try clear RH); (try clear SH); (try clear dI); (try clear eI); (try clear fI); (try clear gI); (try clear hI); (try clear iI); (try clear jI); (try clear kI); (try clear lI); (try clear mI); (try clear lC); (try clear mC); (try clear nC); (try clear oC); (try clear pC); (try clear qC); (try clear rC); (try clear sC); (try clear tC); (try clear uC); (try clear PA); (try clear QA); (try clear RA); (try clear SA); (try clear TA); (try clear UA); (try clear VA); (try clear WA); (try clear XA); (try clear YA); (try clear jB); (try clear kB); (try clear lB); (try clear mB); (try clear nB); (try clear oB); (try clear pB); (try clear qB); (try clear rB); (try clear sB); (try clear DB); (try clear EB); (try clear FB); (try clear GB); (try clear IB); (try clear JB); (try clear KB); (try clear LB); (try clear MB); (try clear NB); (try clear YB); (try clear ZB); (try clear aC); (try clear bC); (try clear cC); (try clear dC); (try clear eC); (try clear fC); (try clear gC); (try clear hC); (try clear JC); (try clear KC); (try clear LC); (try clear MC); (try clear YC); (try clear ZC); (try clear aD); (try clear bD); (try clear cD); (try clear dD); (try clear eD); (try clear fD); (try clear gD); (try clear hD); (try clear sD); (try clear tD); (try clear uD); (try clear vD); (try clear wD); (try clear xD); (try clear yD); (try clear zD); (try clear AD); (try clear BD); (try clear MD); (try clear ND); (try clear OD); (try clear PD); (try clear QD); (try clear RD); (try clear SD); (try clear TD); (try clear UD); (try clear VD); (try clear gE); (try clear hE); (try clear iE); (try clear jE); (try clear kE); (try clear lE); (try clear mE); (try clear nE); (try clear oE); (try clear pE); (try clear AE); (try clear BE); (try clear CE); (try clear DE); (try clear EE); (try clear FE); (try clear GE); (try clear HE); (try clear IE); (try clear JE); (try clear UE); (try clear VE); (try clear WE); (try clear XE); (try clear YE); (try clear ZE); (try clear aF); (try clear bF); (try clear cF); (try clear dF); (try clear oF); (try clear pF); (try clear qF); (try clear rF); (try clear sF); (try clear tF); (try clear uF); (try clear vF); (try clear wF); (try clear xF); (try clear PF); (try clear QF); (try clear RF); (try clear SF); (try clear dG); (try clear eG); (try clear fG); (try clear gG); (try clear hG); (try clear iG); (try clear jG); (try clear kG); (try clear lG); (try clear mG); (try clear xG); (try clear yG); (try clear zG); (try clear AG); (try clear BG); (try clear CG); (try clear DG); (try clear EG); (try clear FG); (try clear GG); (try clear XG); (try clear YG); (try clear ZG); (try clear aH); (try clear bH); (try clear cH); (try clear dH); (try clear eH); (try clear fH); (try clear gH); (try clear lH); (try clear mH); (try clear nH); (try clear oH); (try clear zH); (try clear AH); (try clear BH); (try clear CH); (try clear DH); (try clear EH); (try clear FH); (try clear GH); (try clear HH); (try clear IH); (try clear TH); (try clear UH); (try clear VH); (try clear WH); (try clear XH); (try clear YH); (try clear ZH); (try clear aI); (try clear bI); (try clear cI); (try clear nI); (try clear oI); (try clear pI); (try clear qI); (try clear rI); (try clear sI); (try clear tI); (try clear uI); (try clear vI); (try clear wI); (try clear vC); (try clear wC); (try clear xC); (try clear yC); (try clear zC); (try clear AC); (try clear BC); (try clear CC); (try clear DC); (try clear EC); (try clear p2); (try clear p6)
           obtain ⟨kq, yF, rfl, HA, HJ62, aA, cA, HB⟩ := hcut
           cases kq with
           | zero => exact absurd HA.out (by simp [impl_StAct.j3])
           | succ kj62 =>
            have H := HA.out
            clear HA
            simp only [impl_StAct.j3] at H
            by_cases c71 : yF = true
            ·subst c71
             rw [if_pos rfl] at H
             simp only [Option.some.injEq, Prod.mk.injEq] at H
             obtain ⟨rfl, rfl, rfl, rfl, rfl⟩ := H
             have cM := dA.out
             have dM := eA.out
             have II : wc.cell? ⟨bA, 0, none⟩ = some (.int .i64 fA) := (blk_cell aA.out 0).trans rfl
             have JI : wc.cell? ⟨bA, 1, none⟩ = some (.int .i64 iA) := (blk_cell aA.out 1).trans rfl
             have KI : wc.cell? ⟨bA, 2, none⟩ = some (.int .i64 lA) := (blk_cell aA.out 2).trans rfl
             have LI : wc.cell? ⟨bA, 3, none⟩ = some (.int .i64 gA) := (blk_cell aA.out 3).trans rfl
             have MI : wc.cell? ⟨bA, 4, none⟩ = some (.int .i64 mA) := (blk_cell aA.out 4).trans rfl
             have NI : wc.cell? ⟨bA, 5, none⟩ = some (.int .i64 kA) := (blk_cell aA.out 5).trans rfl
             have OI : wc.cell? ⟨bA, 6, none⟩ = some (.int .i64 jA) := (blk_cell aA.out 6).trans rfl
             have PI : wc.cell? ⟨bA, 7, none⟩ = some (.int .i64 nA) := (blk_cell aA.out 7).trans rfl
             have QI : wc.cell? ⟨bA, 8, none⟩ = some (.int .i64 oA) := (blk_cell aA.out 8).trans rfl
             have RI : wc.cell? ⟨bA, 9, none⟩ = some (.bool rA) := (blk_cell aA.out 9).trans rfl
             have SI := blk_frozen aA.out 0
             have TI := blk_frozen aA.out 1
             have UI := blk_frozen aA.out 2
             have VI := blk_frozen aA.out 3
             have WI := blk_frozen aA.out 4
             have XI := blk_frozen aA.out 5
             have YI := blk_frozen aA.out 6
             have ZI := blk_frozen aA.out 7
             have aJ := blk_frozen aA.out 8
             have bJ := blk_frozen aA.out 9
             have cJ : wc.cell? ⟨hA, 0, none⟩ = some (.int .i64 0) := (blk_cell cA.out 0).trans rfl
             have dJ : wc.cell? ⟨hA, 1, none⟩ = some (.int .i64 0) := (blk_cell cA.out 1).trans rfl
             have eJ : wc.cell? ⟨hA, 2, none⟩ = some (.int .i64 0) := (blk_cell cA.out 2).trans rfl
             have fJ : wc.cell? ⟨hA, 3, none⟩ = some (.int .i64 0) := (blk_cell cA.out 3).trans rfl
             have gJ := blk_frozen cA.out 0
             have hJ := blk_frozen cA.out 1
             have iJ := blk_frozen cA.out 2
             have jJ := blk_frozen cA.out 3
             go_wp2
             refine bodyPost_ret (results_ct rfl _ _ hA 37 #[.int .i64 2, .int .i64 (wrap64 (1 + iA)), .int .i64 (wrap64 (DA + 1)), .int .i64 0] (0, 0) _ rfl (by (with_reducible repeat (first | refine blk_drewN ?_ _ | refine blk_drew ?_ | refine blk_alloc ?_ _)); refine blk_put (cs := #[.int .i64 2, .int .i64 (wrap64 (1 + iA)), .int .i64 (wrap64 (DA + 1)), .int .i64 0]) ?_ 3 _ rfl; (with_reducible repeat (first | refine blk_drewN ?_ _ | refine blk_drew ?_ | refine blk_alloc ?_ _)); refine blk_put (cs := #[.int .i64 2, .int .i64 (wrap64 (1 + iA)), .int .i64 0, .int .i64 0]) ?_ 2 _ rfl; (with_reducible repeat (first | refine blk_drewN ?_ _ | refine blk_drew ?_ | refine blk_alloc ?_ _)); refine blk_put (cs := #[.int .i64 2, .int .i64 0, .int .i64 0, .int .i64 0]) ?_ 1 _ rfl; (with_reducible repeat (first | refine blk_drewN ?_ _ | refine blk_drew ?_ | refine blk_alloc ?_ _)); refine blk_put (cs := #[.int .i64 0, .int .i64 0, .int .i64 0, .int .i64 0]) ?_ 0 _ rfl; (with_reducible repeat (first | refine blk_drewN ?_ _ | refine blk_drew ?_ | refine blk_alloc ?_ _)); exact cA.out) Try.underlying37 rfl (by kernel_rfl)) rfl ?_
             exact ⟨q2_5, q2_0⟩
            ·replace c71 := Bool.eq_false_iff.mpr c71
             subst c71
             rw [if_neg (show ¬ (false = true) by decide)] at H
             by_cases c75 : gA = 1
             ·rw [if_pos c75] at H
              have GI : (gA == 1) = true := beq_iff_eq.mpr c75
              have HI : (gA != 1) = false := bne_eq_false_iff_eq.mpr c75
              clear c75
              simp only [Option.some.injEq, Prod.mk.injEq] at H
              obtain ⟨rfl, rfl, rfl, rfl, rfl⟩ := H
              have eM := dA.out
              have fM := eA.out
              have kJ : wc.cell? ⟨bA, 0, none⟩ = some (.int .i64 fA) := (blk_cell aA.out 0).trans rfl
              have lJ : wc.cell? ⟨bA, 1, none⟩ = some (.int .i64 iA) := (blk_cell aA.out 1).trans rfl
              have mJ : wc.cell? ⟨bA, 2, none⟩ = some (.int .i64 lA) := (blk_cell aA.out 2).trans rfl
              have nJ : wc.cell? ⟨bA, 3, none⟩ = some (.int .i64 gA) := (blk_cell aA.out 3).trans rfl
              have oJ : wc.cell? ⟨bA, 4, none⟩ = some (.int .i64 mA) := (blk_cell aA.out 4).trans rfl
              have pJ : wc.cell? ⟨bA, 5, none⟩ = some (.int .i64 kA) := (blk_cell aA.out 5).trans rfl
              have qJ : wc.cell? ⟨bA, 6, none⟩ = some (.int .i64 jA) := (blk_cell aA.out 6).trans rfl
              have rJ : wc.cell? ⟨bA, 7, none⟩ = some (.int .i64 nA) := (blk_cell aA.out 7).trans rfl
              have sJ : wc.cell? ⟨bA, 8, none⟩ = some (.int .i64 oA) := (blk_cell aA.out 8).trans rfl
              have tJ : wc.cell? ⟨bA, 9, none⟩ = some (.bool rA) := (blk_cell aA.out 9).trans rfl
              have uJ := blk_frozen aA.out 0
              have vJ := blk_frozen aA.out 1
              have wJ := blk_frozen aA.out 2
              have xJ := blk_frozen aA.out 3
              have yJ := blk_frozen aA.out 4
              have zJ := blk_frozen aA.out 5
              have AJ := blk_frozen aA.out 6
              have BJ := blk_frozen aA.out 7
              have CJ := blk_frozen aA.out 8
              have DJ := blk_frozen aA.out 9
              have EJ : wc.cell? ⟨hA, 0, none⟩ = some (.int .i64 0) := (blk_cell cA.out 0).trans rfl
              have FJ : wc.cell? ⟨hA, 1, none⟩ = some (.int .i64 0) := (blk_cell cA.out 1).trans rfl
              have GJ : wc.cell? ⟨hA, 2, none⟩ = some (.int .i64 0) := (blk_cell cA.out 2).trans rfl
              have HJ : wc.cell? ⟨hA, 3, none⟩ = some (.int .i64 0) := (blk_cell cA.out 3).trans rfl
              have IJ := blk_frozen cA.out 0
              have JJ := blk_frozen cA.out 1
              have KJ := blk_frozen cA.out 2
              have LJ := blk_frozen cA.out 3
              go_wp2
              refine bodyPost_ret (results_ct rfl _ _ hA 37 #[.int .i64 1, .int .i64 (wrap64 (1 + DA)), .int .i64 0, .int .i64 0] (0, 0) _ rfl (by (with_reducible repeat (first | refine blk_drewN ?_ _ | refine blk_drew ?_ | refine blk_alloc ?_ _)); refine blk_put (cs := #[.int .i64 1, .int .i64 (wrap64 (1 + DA)), .int .i64 0, .int .i64 0]) ?_ 3 _ rfl; (with_reducible repeat (first | refine blk_drewN ?_ _ | refine blk_drew ?_ | refine blk_alloc ?_ _)); refine blk_put (cs := #[.int .i64 1, .int .i64 (wrap64 (1 + DA)), .int .i64 0, .int .i64 0]) ?_ 2 _ rfl; (with_reducible repeat (first | refine blk_drewN ?_ _ | refine blk_drew ?_ | refine blk_alloc ?_ _)); refine blk_put (cs := #[.int .i64 1, .int .i64 0, .int .i64 0, .int .i64 0]) ?_ 1 _ rfl; (with_reducible repeat (first | refine blk_drewN ?_ _ | refine blk_drew ?_ | refine blk_alloc ?_ _)); refine blk_put (cs := #[.int .i64 0, .int .i64 0, .int .i64 0, .int .i64 0]) ?_ 0 _ rfl; (with_reducible repeat (first | refine blk_drewN ?_ _ | refine blk_drew ?_ | refine blk_alloc ?_ _)); exact cA.out) Try.underlying37 rfl (by kernel_rfl)) rfl ?_
              exact ⟨q2_5, q2_0⟩
             ·rw [if_neg c75] at H
              have GI : (gA == 1) = false := beq_eq_false_iff_ne.mpr c75
              have HI : (gA != 1) = true := bne_iff_ne.mpr c75
              replace H := Option.bind_eq_some_iff.mp H
              obtain ⟨zF, A790, H⟩ := H
              (try dsimp only at H)
              have A79 := Aside0.mk A790
              clear A790
              replace H := Option.bind_eq_some_iff.mp H
              obtain ⟨⟨DI, kL⟩, A800, H⟩ := H
              (try dsimp only at H)
              have A80 := Aside0.mk A800
              clear A800
              by_cases c81 : kL = true
              ·subst c81
               rw [if_pos rfl] at H
               simp only [Option.some.injEq, Prod.mk.injEq] at H
               obtain ⟨rfl, rfl, rfl, rfl, rfl⟩ := H
               have gM := dA.out
               have hM := eA.out
               have MJ : wc.cell? ⟨bA, 0, none⟩ = some (.int .i64 fA) := (blk_cell aA.out 0).trans rfl
               have NJ : wc.cell? ⟨bA, 1, none⟩ = some (.int .i64 iA) := (blk_cell aA.out 1).trans rfl
               have OJ : wc.cell? ⟨bA, 2, none⟩ = some (.int .i64 lA) := (blk_cell aA.out 2).trans rfl
               have PJ : wc.cell? ⟨bA, 3, none⟩ = some (.int .i64 gA) := (blk_cell aA.out 3).trans rfl
               have QJ : wc.cell? ⟨bA, 4, none⟩ = some (.int .i64 mA) := (blk_cell aA.out 4).trans rfl
               have RJ : wc.cell? ⟨bA, 5, none⟩ = some (.int .i64 kA) := (blk_cell aA.out 5).trans rfl
               have SJ : wc.cell? ⟨bA, 6, none⟩ = some (.int .i64 jA) := (blk_cell aA.out 6).trans rfl
               have TJ : wc.cell? ⟨bA, 7, none⟩ = some (.int .i64 nA) := (blk_cell aA.out 7).trans rfl
               have UJ : wc.cell? ⟨bA, 8, none⟩ = some (.int .i64 oA) := (blk_cell aA.out 8).trans rfl
               have VJ : wc.cell? ⟨bA, 9, none⟩ = some (.bool rA) := (blk_cell aA.out 9).trans rfl
               have WJ := blk_frozen aA.out 0
               have XJ := blk_frozen aA.out 1
               have YJ := blk_frozen aA.out 2
               have ZJ := blk_frozen aA.out 3
               have aK := blk_frozen aA.out 4
               have bK := blk_frozen aA.out 5
               have cK := blk_frozen aA.out 6
               have dK := blk_frozen aA.out 7
               have eK := blk_frozen aA.out 8
               have fK := blk_frozen aA.out 9
               go_wp2_with (first | ((with_reducible refine gate_callee (f := 62) rfl ?_); refine goesL_ (some 103) rfl rfl Try.func62 (by kernel_rfl) rfl #[.int .i64 kC] rfl q2_6 ?_; (with_reducible refine (impl_NextTag.calls kC zF _ A79.out).mono ?_); rintro e w' ⟨rfl, ⟨nd, rfl⟩⟩; refine ⟨_, rfl, ?_⟩; (try (rw [drewN_self wc]; generalize hq_ : World.drewN wc _ = wc; have AF : Aside0 (wc.heap[bA]? = some (.cells #[.int .i64 fA, .int .i64 iA, .int .i64 lA, .int .i64 gA, .int .i64 mA, .int .i64 kA, .int .i64 jA, .int .i64 nA, .int .i64 oA, .bool rA] 23 (0, 0))) := ⟨by rw [← hq_]; exact q2_1⟩; have BF : Aside0 (wc.heap[hA]? = some (.cells #[.int .i64 0, .int .i64 0, .int .i64 0, .int .i64 0] 37 (0, 0))) := ⟨by rw [← hq_]; exact q2_2⟩; have CF : Aside0 (Below w.heap.size w wc) := ⟨by rw [← hq_]; exact q2_0⟩; clear aA cA HB hq_; have aA := AF; have cA := BF; have HB := CF; clear AF BF CF))) | ((with_reducible refine gate_callee (f := 61) rfl ?_); refine goesL_ (some 105) rfl rfl Try.func61 (by kernel_rfl) rfl #[.int .i64 zF, .int .i64 CA] rfl q2_6 ?_; (with_reducible refine (impl_Pack.calls zF CA DI true _ A80.out).mono ?_); rintro e w' ⟨rfl, ⟨nd, rfl⟩⟩; refine ⟨_, rfl, ?_⟩; (try (rw [drewN_self wc]; generalize hq_ : World.drewN wc _ = wc; have AF : Aside0 (wc.heap[bA]? = some (.cells #[.int .i64 fA, .int .i64 iA, .int .i64 lA, .int .i64 gA, .int .i64 mA, .int .i64 kA, .int .i64 jA, .int .i64 nA, .int .i64 oA, .bool rA] 23 (0, 0))) := ⟨by rw [← hq_]; exact q2_1⟩; have BF : Aside0 (wc.heap[hA]? = some (.cells #[.int .i64 0, .int .i64 0, .int .i64 0, .int .i64 0] 37 (0, 0))) := ⟨by rw [← hq_]; exact q2_2⟩; have CF : Aside0 (Below w.heap.size w wc) := ⟨by rw [← hq_]; exact q2_0⟩; clear aA cA HB hq_; have aA := AF; have cA := BF; have HB := CF; clear AF BF CF)); have gK : wc.cell? ⟨bA, 0, none⟩ = some (.int .i64 fA) := (blk_cell aA.out 0).trans rfl; have hK : wc.cell? ⟨bA, 1, none⟩ = some (.int .i64 iA) := (blk_cell aA.out 1).trans rfl; have iK : wc.cell? ⟨bA, 2, none⟩ = some (.int .i64 lA) := (blk_cell aA.out 2).trans rfl; have jK : wc.cell? ⟨bA, 3, none⟩ = some (.int .i64 gA) := (blk_cell aA.out 3).trans rfl; have kK : wc.cell? ⟨bA, 4, none⟩ = some (.int .i64 mA) := (blk_cell aA.out 4).trans rfl; have lK : wc.cell? ⟨bA, 5, none⟩ = some (.int .i64 kA) := (blk_cell aA.out 5).trans rfl; have mK : wc.cell? ⟨bA, 6, none⟩ = some (.int .i64 jA) := (blk_cell aA.out 6).trans rfl; have nK : wc.cell? ⟨bA, 7, none⟩ = some (.int .i64 nA) := (blk_cell aA.out 7).trans rfl; have oK : wc.cell? ⟨bA, 8, none⟩ = some (.int .i64 oA) := (blk_cell aA.out 8).trans rfl; have pK : wc.cell? ⟨bA, 9, none⟩ = some (.bool rA) := (blk_cell aA.out 9).trans rfl; have qK := blk_frozen aA.out 0; have rK := blk_frozen aA.out 1; have sK := blk_frozen aA.out 2; have tK := blk_frozen aA.out 3; have uK := blk_frozen aA.out 4; have vK := blk_frozen aA.out 5; have wK := blk_frozen aA.out 6; have xK := blk_frozen aA.out 7; have yK := blk_frozen aA.out 8; have zK := blk_frozen aA.out 9; have AK : wc.cell? ⟨hA, 0, none⟩ = some (.int .i64 0) := (blk_cell cA.out 0).trans rfl; have BK : wc.cell? ⟨hA, 1, none⟩ = some (.int .i64 0) := (blk_cell cA.out 1).trans rfl; have CK : wc.cell? ⟨hA, 2, none⟩ = some (.int .i64 0) := (blk_cell cA.out 2).trans rfl; have DK : wc.cell? ⟨hA, 3, none⟩ = some (.int .i64 0) := (blk_cell cA.out 3).trans rfl; have EK := blk_frozen cA.out 0; have FK := blk_frozen cA.out 1; have GK := blk_frozen cA.out 2; have HK := blk_frozen cA.out 3))
               refine bodyPost_ret (results_ct rfl _ _ hA 37 #[.int .i64 3, .int .i64 0, .int .i64 jA, .int .i64 DI] (0, 0) _ rfl (by (with_reducible repeat (first | refine blk_drewN ?_ _ | refine blk_drew ?_ | refine blk_alloc ?_ _)); refine blk_put (cs := #[.int .i64 3, .int .i64 0, .int .i64 jA, .int .i64 0]) ?_ 3 _ rfl; (with_reducible repeat (first | refine blk_drewN ?_ _ | refine blk_drew ?_ | refine blk_alloc ?_ _)); refine blk_put (cs := #[.int .i64 3, .int .i64 0, .int .i64 0, .int .i64 0]) ?_ 2 _ rfl; (with_reducible repeat (first | refine blk_drewN ?_ _ | refine blk_drew ?_ | refine blk_alloc ?_ _)); refine blk_put (cs := #[.int .i64 3, .int .i64 0, .int .i64 0, .int .i64 0]) ?_ 1 _ rfl; (with_reducible repeat (first | refine blk_drewN ?_ _ | refine blk_drew ?_ | refine blk_alloc ?_ _)); refine blk_put (cs := #[.int .i64 0, .int .i64 0, .int .i64 0, .int .i64 0]) ?_ 0 _ rfl; (with_reducible repeat (first | refine blk_drewN ?_ _ | refine blk_drew ?_ | refine blk_alloc ?_ _)); exact cA.out) Try.underlying37 rfl (by kernel_rfl)) rfl ?_
               exact ⟨q2_5, q2_0⟩
              ·replace c81 := Bool.eq_false_iff.mpr c81
               subst c81
               rw [if_neg (show ¬ (false = true) by decide)] at H
               simp only [Option.some.injEq, Prod.mk.injEq] at H
               obtain ⟨rfl, rfl, rfl, rfl, rfl⟩ := H
               have iM := dA.out
               have jM := eA.out
               have IK : wc.cell? ⟨bA, 0, none⟩ = some (.int .i64 fA) := (blk_cell aA.out 0).trans rfl
               have JK : wc.cell? ⟨bA, 1, none⟩ = some (.int .i64 iA) := (blk_cell aA.out 1).trans rfl
               have KK : wc.cell? ⟨bA, 2, none⟩ = some (.int .i64 lA) := (blk_cell aA.out 2).trans rfl
               have LK : wc.cell? ⟨bA, 3, none⟩ = some (.int .i64 gA) := (blk_cell aA.out 3).trans rfl
               have MK : wc.cell? ⟨bA, 4, none⟩ = some (.int .i64 mA) := (blk_cell aA.out 4).trans rfl
               have NK : wc.cell? ⟨bA, 5, none⟩ = some (.int .i64 kA) := (blk_cell aA.out 5).trans rfl
               have OK : wc.cell? ⟨bA, 6, none⟩ = some (.int .i64 jA) := (blk_cell aA.out 6).trans rfl
               have PK : wc.cell? ⟨bA, 7, none⟩ = some (.int .i64 nA) := (blk_cell aA.out 7).trans rfl
               have QK : wc.cell? ⟨bA, 8, none⟩ = some (.int .i64 oA) := (blk_cell aA.out 8).trans rfl
               have RK : wc.cell? ⟨bA, 9, none⟩ = some (.bool rA) := (blk_cell aA.out 9).trans rfl
               have SK := blk_frozen aA.out 0
               have TK := blk_frozen aA.out 1
               have UK := blk_frozen aA.out 2
               have VK := blk_frozen aA.out 3
               have WK := blk_frozen aA.out 4
               have XK := blk_frozen aA.out 5
               have YK := blk_frozen aA.out 6
               have ZK := blk_frozen aA.out 7
               have aL := blk_frozen aA.out 8
               have bL := blk_frozen aA.out 9
               go_wp2_with (first | ((with_reducible refine gate_callee (f := 62) rfl ?_); refine goesL_ (some 103) rfl rfl Try.func62 (by kernel_rfl) rfl #[.int .i64 kC] rfl q2_6 ?_; (with_reducible refine (impl_NextTag.calls kC zF _ A79.out).mono ?_); rintro e w' ⟨rfl, ⟨nd, rfl⟩⟩; refine ⟨_, rfl, ?_⟩; (try (rw [drewN_self wc]; generalize hq_ : World.drewN wc _ = wc; have AF : Aside0 (wc.heap[bA]? = some (.cells #[.int .i64 fA, .int .i64 iA, .int .i64 lA, .int .i64 gA, .int .i64 mA, .int .i64 kA, .int .i64 jA, .int .i64 nA, .int .i64 oA, .bool rA] 23 (0, 0))) := ⟨by rw [← hq_]; exact q2_1⟩; have BF : Aside0 (wc.heap[hA]? = some (.cells #[.int .i64 0, .int .i64 0, .int .i64 0, .int .i64 0] 37 (0, 0))) := ⟨by rw [← hq_]; exact q2_2⟩; have CF : Aside0 (Below w.heap.size w wc) := ⟨by rw [← hq_]; exact q2_0⟩; clear aA cA HB hq_; have aA := AF; have cA := BF; have HB := CF; clear AF BF CF))) | ((with_reducible refine gate_callee (f := 61) rfl ?_); refine goesL_ (some 105) rfl rfl Try.func61 (by kernel_rfl) rfl #[.int .i64 zF, .int .i64 CA] rfl q2_6 ?_; (with_reducible refine (impl_Pack.calls zF CA DI false _ A80.out).mono ?_); rintro e w' ⟨rfl, ⟨nd, rfl⟩⟩; refine ⟨_, rfl, ?_⟩; (try (rw [drewN_self wc]; generalize hq_ : World.drewN wc _ = wc; have AF : Aside0 (wc.heap[bA]? = some (.cells #[.int .i64 fA, .int .i64 iA, .int .i64 lA, .int .i64 gA, .int .i64 mA, .int .i64 kA, .int .i64 jA, .int .i64 nA, .int .i64 oA, .bool rA] 23 (0, 0))) := ⟨by rw [← hq_]; exact q2_1⟩; have BF : Aside0 (wc.heap[hA]? = some (.cells #[.int .i64 0, .int .i64 0, .int .i64 0, .int .i64 0] 37 (0, 0))) := ⟨by rw [← hq_]; exact q2_2⟩; have CF : Aside0 (Below w.heap.size w wc) := ⟨by rw [← hq_]; exact q2_0⟩; clear aA cA HB hq_; have aA := AF; have cA := BF; have HB := CF; clear AF BF CF)); have cL : wc.cell? ⟨hA, 0, none⟩ = some (.int .i64 0) := (blk_cell cA.out 0).trans rfl; have dL : wc.cell? ⟨hA, 1, none⟩ = some (.int .i64 0) := (blk_cell cA.out 1).trans rfl; have eL : wc.cell? ⟨hA, 2, none⟩ = some (.int .i64 0) := (blk_cell cA.out 2).trans rfl; have fL : wc.cell? ⟨hA, 3, none⟩ = some (.int .i64 0) := (blk_cell cA.out 3).trans rfl; have gL := blk_frozen cA.out 0; have hL := blk_frozen cA.out 1; have iL := blk_frozen cA.out 2; have jL := blk_frozen cA.out 3))
               refine bodyPost_ret (results_ct rfl _ _ hA 37 #[.int .i64 0, .int .i64 0, .int .i64 0, .int .i64 0] (0, 0) _ rfl q2_3 Try.underlying37 rfl (by kernel_rfl)) rfl ?_
               exact ⟨q2_5, q2_0⟩

end Go.Proofs.Ytfahmmlkcmadeaa.PFnStackOne
