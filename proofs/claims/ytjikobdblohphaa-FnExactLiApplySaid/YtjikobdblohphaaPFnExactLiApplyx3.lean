-- Written by the session's own patched copy of the printer (wip/patch_print.py).
import Derived.Test.YtjikobdblohphaaPFnExactLiApplyx0
import Derived.Test.YtjikobdblohphaaPFnExactLiApplyx1
import Derived.Test.YtjikobdblohphaaPFnExactLiApplyx2
namespace Go.Proofs.Ytjikobdblohphaa.PFnExactLiApply
open Go.RowKit Go.Proofs.YtjikobdblohphaaW.PrintWords Go.Proofs.YtjikobdblohphaaW.PrintLast Go.Proofs.YtjikobdblohphaaW.PrintMore
attribute [local go_sem] max2_int min2_int max_two min_two max_three min_three max_four min_four   -- for this text's walks alone
set_option linter.unusedVariables false
set_option linter.unusedSimpArgs false

theorem q3_0 {p : Prop} (h : p := by repeat (first | (with_reducible first | exact HB.out | apply below_alloc | apply pw_below_drewN | apply below_drew1 | refine below_set ?_ HF.out) | exact HB.out)) : p := h
theorem q3_1 {p : Prop} (h : p := by (with_reducible repeat (first | refine blk_drewN ?_ _ | refine blk_drew ?_ | refine blk_alloc ?_ _)); exact aA.out) : p := h
theorem q3_2 {p : Prop} (h : p := by (with_reducible repeat (first | apply Kd.R_alloc | apply Kd.R_drewN | apply Kd.R_drew)); exact cD.out) : p := h
theorem q3_3 {p : Prop} (h : p := by first | rfl | (simp [errW_none, errW_some] <;> rfl) | (simp [*, errW_none, errW_some] <;> rfl)) : p := h
theorem q3_4 {p : Prop} (h : p := by first | exact Kd.R_nil _ _ _ _ _ | exact Kd.N_nil _ _ _ _ _ | exact Kd.V_nil _ _ _ _ _ | exact Kd.Q_nil _ _ _ _ _ | exact Kd.S_nil _ _ _ _ _) : p := h
theorem q3_5 {p : Prop} (h : p := by first | rfl | (simp; done) | (simp [*]; done)) : p := h
theorem q3_6 {p : Prop} (h : p := by repeat (first | exact (Kd.C_below HR0.out HB.out) | (with_reducible refine Kd.C_alloc ?_ _) | (with_reducible refine Kd.C_drewN ?_ _) | (with_reducible refine Kd.C_drew ?_))) : p := h
theorem q3_7 {p : Prop} (h : p := by (try simp only [List.map_toArray, List.map_cons, List.map_nil]); first | done | rfl | (simp only [List.length_drop, List.length_take]; rfl)) : p := h
theorem q3_8 {p : Prop} (h : p := by repeat (first | (with_reducible first | exact HB.out | apply below_alloc | apply pw_below_drewN | apply below_drew1) | exact HB.out)) : p := h
theorem q3_9 {p : Prop} (h : p := by (with_reducible repeat (first | apply Kd.R_alloc | apply Kd.R_drewN | apply Kd.R_drew)); exact IF.out) : p := h
/-! ### spec_LiApply: function 36 -/
mutual
def spec_LiApply.j0 : Nat → List Int → Bool → List Int → Bool → Int → Int → Int → Int → Int → Int → Int → Int → Option (List Int × Bool)
 | 0, _, _, _, _, _, _, _, _, _, _, _, _ => none
 | k + 1, x0, x6, x7, x15, nA, kA, mA, lA, oA, pA, qA, rA => if x15 = true then ((spec_l08With.f k x0 mA).bind fun FF => (some (FF, true))) else (if kA = 2 then (if lA = 1 then (spec_LiApply.j1 k x0 x6 x7 x6 nA kA mA lA oA pA qA rA) else (spec_LiApply.j1 k x0 x6 x7 false nA kA mA lA oA pA qA rA)) else (spec_LiApply.j1 k x0 x6 x7 false nA kA mA lA oA pA qA rA))
def spec_LiApply.j1 : Nat → List Int → Bool → List Int → Bool → Int → Int → Int → Int → Int → Int → Int → Int → Option (List Int × Bool)
 | 0, _, _, _, _, _, _, _, _, _, _, _, _ => none
 | k + 1, x0, x6, x7, x32, nA, kA, mA, lA, oA, pA, qA, rA => if x32 = true then ((spec_l08But.f k x0 mA).bind fun GF => (some (GF, true))) else (if kA = 3 then (if lA = 1 then (spec_LiApply.j2 k x6 x7 x6 nA kA mA lA oA pA qA rA) else (spec_LiApply.j2 k x6 x7 false nA kA mA lA oA pA qA rA)) else (spec_LiApply.j2 k x6 x7 false nA kA mA lA oA pA qA rA))
def spec_LiApply.j2 : Nat → Bool → List Int → Bool → Int → Int → Int → Int → Int → Int → Int → Int → Option (List Int × Bool)
 | 0, _, _, _, _, _, _, _, _, _, _, _ => none
 | k + 1, x6, x7, x48, nA, kA, mA, lA, oA, pA, qA, rA => if x48 = true then (some (x7, true)) else (if kA = 1 then (if lA = 4 then (spec_LiApply.j3 k x6 x7 x6 nA kA mA lA oA pA qA rA) else (spec_LiApply.j3 k x6 x7 false nA kA mA lA oA pA qA rA)) else (spec_LiApply.j3 k x6 x7 false nA kA mA lA oA pA qA rA))
def spec_LiApply.j3 : Nat → Bool → List Int → Bool → Int → Int → Int → Int → Int → Int → Int → Int → Option (List Int × Bool)
 | 0, _, _, _, _, _, _, _, _, _, _, _ => none
 | k + 1, x6, x7, x61, nA, kA, mA, lA, oA, pA, qA, rA => if x61 = true then (some (x7, true)) else (if kA = 2 then (if lA = 4 then (if x6 = true then (some (([] : List Int), false)) else (some (x7, true))) else (some (([] : List Int), false))) else (if kA = 3 then (if lA = 4 then (if x6 = true then (some (([] : List Int), false)) else (some (x7, true))) else (some (([] : List Int), false))) else (some (([] : List Int), false))))
end
def spec_LiApply.f (k : Nat) (l0 : List Int) (fA : Int) (cA : Int) (eA : Int) (dA : Int) (gA : Int) (hA : Int) (iA : Int) (jA : Int) : Option (List Int × Bool) := (spec_l03Has.f k l0 eA).bind fun sA => ((some (([] : List Int) : List Int)).bind fun y142 => (if y142.length + l0.length < 17592186044416 then ((some (y142 ++ l0 : List Int)).bind fun y145 => (if cA = 1 then (if dA = 1 then (spec_LiApply.j0 k l0 sA y145 (!sA) fA cA eA dA gA hA iA jA) else (spec_LiApply.j0 k l0 sA y145 false fA cA eA dA gA hA iA jA)) else (spec_LiApply.j0 k l0 sA y145 false fA cA eA dA gA hA iA jA))) else (none)))
theorem spec_LiApply.mono_l : ∀ k, (∀ y0 y1 y2 y3 y4 y5 y6 y7 y8 y9 y10 y11, LeO (spec_LiApply.j0 k y0 y1 y2 y3 y4 y5 y6 y7 y8 y9 y10 y11) (spec_LiApply.j0 (k + 1) y0 y1 y2 y3 y4 y5 y6 y7 y8 y9 y10 y11)) ∧ (∀ y0 y1 y2 y3 y4 y5 y6 y7 y8 y9 y10 y11, LeO (spec_LiApply.j1 k y0 y1 y2 y3 y4 y5 y6 y7 y8 y9 y10 y11) (spec_LiApply.j1 (k + 1) y0 y1 y2 y3 y4 y5 y6 y7 y8 y9 y10 y11)) ∧ (∀ y0 y1 y2 y3 y4 y5 y6 y7 y8 y9 y10, LeO (spec_LiApply.j2 k y0 y1 y2 y3 y4 y5 y6 y7 y8 y9 y10) (spec_LiApply.j2 (k + 1) y0 y1 y2 y3 y4 y5 y6 y7 y8 y9 y10)) ∧ (∀ y0 y1 y2 y3 y4 y5 y6 y7 y8 y9 y10, LeO (spec_LiApply.j3 k y0 y1 y2 y3 y4 y5 y6 y7 y8 y9 y10) (spec_LiApply.j3 (k + 1) y0 y1 y2 y3 y4 y5 y6 y7 y8 y9 y10))
 | 0 => ⟨fun _ _ _ _ _ _ _ _ _ _ _ _ r h => by simp [spec_LiApply.j0] at h, fun _ _ _ _ _ _ _ _ _ _ _ _ r h => by simp [spec_LiApply.j1] at h, fun _ _ _ _ _ _ _ _ _ _ _ r h => by simp [spec_LiApply.j2] at h, fun _ _ _ _ _ _ _ _ _ _ _ r h => by simp [spec_LiApply.j3] at h⟩
 | k + 1 => by
  obtain ⟨ih0, ih1, ih2, ih3⟩ := spec_LiApply.mono_l k
  refine ⟨?_, ?_, ?_, ?_⟩
  ·intro y0 y1 y2 y3 y4 y5 y6 y7 y8 y9 y10 y11
   unfold spec_LiApply.j0
   repeat' first
   | (with_reducible exact ih0 _ _ _ _ _ _ _ _ _ _ _ _)
   | (with_reducible exact ih1 _ _ _ _ _ _ _ _ _ _ _ _)
   | (with_reducible exact ih2 _ _ _ _ _ _ _ _ _ _ _)
   | (with_reducible exact ih3 _ _ _ _ _ _ _ _ _ _ _)
   | (with_reducible exact spec_l03Has.mono _ _ _)
   | (with_reducible exact spec_l08But.mono _ _ _)
   | (with_reducible exact spec_l08With.mono _ _ _)
   | (with_reducible exact LeO.refl _)
   | (with_reducible exact LeO.none _)
   | (with_reducible refine LeO.ite ?_ ?_)
   | (with_reducible refine LeO.bind ?_ (fun _ => ?_))
   | exact ih0 _ _ _ _ _ _ _ _ _ _ _ _
   | exact ih1 _ _ _ _ _ _ _ _ _ _ _ _
   | exact ih2 _ _ _ _ _ _ _ _ _ _ _
   | exact ih3 _ _ _ _ _ _ _ _ _ _ _
   | exact spec_l03Has.mono _ _ _
   | exact spec_l08But.mono _ _ _
   | exact spec_l08With.mono _ _ _
   | exact LeO.none _
   | refine LeO.ite ?_ ?_
   | refine LeO.bind ?_ (fun _ => ?_)
  ·intro y0 y1 y2 y3 y4 y5 y6 y7 y8 y9 y10 y11
   unfold spec_LiApply.j1
   repeat' first
   | (with_reducible exact ih0 _ _ _ _ _ _ _ _ _ _ _ _)
   | (with_reducible exact ih1 _ _ _ _ _ _ _ _ _ _ _ _)
   | (with_reducible exact ih2 _ _ _ _ _ _ _ _ _ _ _)
   | (with_reducible exact ih3 _ _ _ _ _ _ _ _ _ _ _)
   | (with_reducible exact spec_l03Has.mono _ _ _)
   | (with_reducible exact spec_l08But.mono _ _ _)
   | (with_reducible exact spec_l08With.mono _ _ _)
   | (with_reducible exact LeO.refl _)
   | (with_reducible exact LeO.none _)
   | (with_reducible refine LeO.ite ?_ ?_)
   | (with_reducible refine LeO.bind ?_ (fun _ => ?_))
   | exact ih0 _ _ _ _ _ _ _ _ _ _ _ _
   | exact ih1 _ _ _ _ _ _ _ _ _ _ _ _
   | exact ih2 _ _ _ _ _ _ _ _ _ _ _
   | exact ih3 _ _ _ _ _ _ _ _ _ _ _
   | exact spec_l03Has.mono _ _ _
   | exact spec_l08But.mono _ _ _
   | exact spec_l08With.mono _ _ _
   | exact LeO.none _
   | refine LeO.ite ?_ ?_
   | refine LeO.bind ?_ (fun _ => ?_)
  ·intro y0 y1 y2 y3 y4 y5 y6 y7 y8 y9 y10
   unfold spec_LiApply.j2
   repeat' first
   | (with_reducible exact ih0 _ _ _ _ _ _ _ _ _ _ _ _)
   | (with_reducible exact ih1 _ _ _ _ _ _ _ _ _ _ _ _)
   | (with_reducible exact ih2 _ _ _ _ _ _ _ _ _ _ _)
   | (with_reducible exact ih3 _ _ _ _ _ _ _ _ _ _ _)
   | (with_reducible exact spec_l03Has.mono _ _ _)
   | (with_reducible exact spec_l08But.mono _ _ _)
   | (with_reducible exact spec_l08With.mono _ _ _)
   | (with_reducible exact LeO.refl _)
   | (with_reducible exact LeO.none _)
   | (with_reducible refine LeO.ite ?_ ?_)
   | (with_reducible refine LeO.bind ?_ (fun _ => ?_))
   | exact ih0 _ _ _ _ _ _ _ _ _ _ _ _
   | exact ih1 _ _ _ _ _ _ _ _ _ _ _ _
   | exact ih2 _ _ _ _ _ _ _ _ _ _ _
   | exact ih3 _ _ _ _ _ _ _ _ _ _ _
   | exact spec_l03Has.mono _ _ _
   | exact spec_l08But.mono _ _ _
   | exact spec_l08With.mono _ _ _
   | exact LeO.none _
   | refine LeO.ite ?_ ?_
   | refine LeO.bind ?_ (fun _ => ?_)
  ·intro y0 y1 y2 y3 y4 y5 y6 y7 y8 y9 y10
   unfold spec_LiApply.j3
   repeat' first
   | (with_reducible exact ih0 _ _ _ _ _ _ _ _ _ _ _ _)
   | (with_reducible exact ih1 _ _ _ _ _ _ _ _ _ _ _ _)
   | (with_reducible exact ih2 _ _ _ _ _ _ _ _ _ _ _)
   | (with_reducible exact ih3 _ _ _ _ _ _ _ _ _ _ _)
   | (with_reducible exact spec_l03Has.mono _ _ _)
   | (with_reducible exact spec_l08But.mono _ _ _)
   | (with_reducible exact spec_l08With.mono _ _ _)
   | (with_reducible exact LeO.refl _)
   | (with_reducible exact LeO.none _)
   | (with_reducible refine LeO.ite ?_ ?_)
   | (with_reducible refine LeO.bind ?_ (fun _ => ?_))
   | exact ih0 _ _ _ _ _ _ _ _ _ _ _ _
   | exact ih1 _ _ _ _ _ _ _ _ _ _ _ _
   | exact ih2 _ _ _ _ _ _ _ _ _ _ _
   | exact ih3 _ _ _ _ _ _ _ _ _ _ _
   | exact spec_l03Has.mono _ _ _
   | exact spec_l08But.mono _ _ _
   | exact spec_l08With.mono _ _ _
   | exact LeO.none _
   | refine LeO.ite ?_ ?_
   | refine LeO.bind ?_ (fun _ => ?_)
theorem spec_LiApply.mono : ∀ a0 a1 a2 a3 a4 a5 a6 a7 a8 k, LeO (spec_LiApply.f k a0 a1 a2 a3 a4 a5 a6 a7 a8) (spec_LiApply.f (k + 1) a0 a1 a2 a3 a4 a5 a6 a7 a8) := by
 intro a0 a1 a2 a3 a4 a5 a6 a7 a8 k
 obtain ⟨ih0, ih1, ih2, ih3⟩ := spec_LiApply.mono_l k
 unfold spec_LiApply.f
 repeat' first
   | (with_reducible exact ih0 _ _ _ _ _ _ _ _ _ _ _ _)
   | (with_reducible exact ih1 _ _ _ _ _ _ _ _ _ _ _ _)
   | (with_reducible exact ih2 _ _ _ _ _ _ _ _ _ _ _)
   | (with_reducible exact ih3 _ _ _ _ _ _ _ _ _ _ _)
   | (with_reducible exact spec_l03Has.mono _ _ _)
   | (with_reducible exact spec_l08But.mono _ _ _)
   | (with_reducible exact spec_l08With.mono _ _ _)
   | (with_reducible exact LeO.refl _)
   | (with_reducible exact LeO.none _)
   | (with_reducible refine LeO.ite ?_ ?_)
   | (with_reducible refine LeO.bind ?_ (fun _ => ?_))
   | exact ih0 _ _ _ _ _ _ _ _ _ _ _ _
   | exact ih1 _ _ _ _ _ _ _ _ _ _ _ _
   | exact ih2 _ _ _ _ _ _ _ _ _ _ _
   | exact ih3 _ _ _ _ _ _ _ _ _ _ _
   | exact spec_l03Has.mono _ _ _
   | exact spec_l08But.mono _ _ _
   | exact spec_l08With.mono _ _ _
   | exact LeO.none _
   | refine LeO.ite ?_ ?_
   | refine LeO.bind ?_ (fun _ => ?_)
set_option maxHeartbeats 8000000 in
set_option maxRecDepth 100000 in
theorem spec_LiApply.calls (k : Nat) (A0 : Option Addr) (c0 : Nat) (l0 : List Int) (fA : Int) (cA : Int) (eA : Int) (dA : Int) (gA : Int) (hA : Int) (iA : Int) (jA : Int) (r1 : List Int) (r2 : Bool) (w : World) (hr0 : Kd.C (Kd.int .i64) w A0 l0.length l0) (hc0 : l0.length ≤ c0) (h : spec_LiApply.f k l0 fA cA eA dA gA hA iA jA = some (r1, r2)) :
  Calls Try.prog 36 #[.slice A0 l0.length c0, .agg #[.int .i64 fA, .int .i64 cA, .int .i64 eA, .int .i64 dA, .int .i64 gA, .int .i64 hA, .int .i64 iA, .int .i64 jA]] w fun e w' => ∃ v0_ : Value, e = .returned (.tuple #[v0_, .bool r2]) ∧ Kd.R (Kd.int .i64) 3 w' w.heap.size (fun _ => True) v0_ r1 ∧ Below w.heap.size w w' := by
 have hu58 := Try.underlying58
 have HR0 := Aside0.mk hr0
 have HC0 := Aside0.mk hc0
 clear hr0 hc0
 have HB := Aside0.mk (Below.refl w.heap.size w)
 have H : ((spec_l03Has.f k l0 eA).bind fun sA => ((some (([] : List Int) : List Int)).bind fun y142 => (if y142.length + l0.length < 17592186044416 then ((some (y142 ++ l0 : List Int)).bind fun y145 => (if cA = 1 then (if dA = 1 then (spec_LiApply.j0 k l0 sA y145 (!sA) fA cA eA dA gA hA iA jA) else (spec_LiApply.j0 k l0 sA y145 false fA cA eA dA gA hA iA jA)) else (spec_LiApply.j0 k l0 sA y145 false fA cA eA dA gA hA iA jA))) else (none)))) = some (r1, r2) := h
 clear h
 replace H := Option.bind_eq_some_iff.mp H
 obtain ⟨sA, A30, H⟩ := H
 (try dsimp only at H)
 have A3 := Aside0.mk A30
 clear A30
 obtain ⟨y142, hy142⟩ : ∃ y_ : List Int, y_ = (([] : List Int)) := ⟨_, rfl⟩
 replace H : (if y142.length + l0.length < 17592186044416 then ((some (y142 ++ l0 : List Int)).bind fun y145 => (if cA = 1 then (if dA = 1 then (spec_LiApply.j0 k l0 sA y145 (!sA) fA cA eA dA gA hA iA jA) else (spec_LiApply.j0 k l0 sA y145 false fA cA eA dA gA hA iA jA)) else (spec_LiApply.j0 k l0 sA y145 false fA cA eA dA gA hA iA jA))) else (none)) = some (r1, r2) := by first | (rw [hy142]; with_reducible exact H) | (have H2_ := (Option.bind_some _ _).symm.trans H; rw [hy142]; with_reducible exact H2_) | (have H2_ := (Option.bind_some _ _).symm.trans H; with_reducible exact H2_) | with_reducible exact H | (rw [hy142]; exact H) | exact H
 have Ny142 := Aside0.mk hy142
 clear hy142
 by_cases c4 : y142.length + l0.length < 17592186044416
 ·rw [if_pos c4] at H
  have LMc4 := Aside0.mk c4
  clear c4
  obtain ⟨y145, hy145⟩ : ∃ y_ : List Int, y_ = (y142 ++ l0) := ⟨_, rfl⟩
  replace H : (if cA = 1 then (if dA = 1 then (spec_LiApply.j0 k l0 sA y145 (!sA) fA cA eA dA gA hA iA jA) else (spec_LiApply.j0 k l0 sA y145 false fA cA eA dA gA hA iA jA)) else (spec_LiApply.j0 k l0 sA y145 false fA cA eA dA gA hA iA jA)) = some (r1, r2) := by first | (rw [hy145]; with_reducible exact H) | (have H2_ := (Option.bind_some _ _).symm.trans H; rw [hy145]; with_reducible exact H2_) | (have H2_ := (Option.bind_some _ _).symm.trans H; with_reducible exact H2_) | with_reducible exact H | (rw [hy145]; exact H) | exact H
  have Ny145 := Aside0.mk hy145
  clear hy145
  have HC5 := Aside0.mk H
  clear H
  go_enter Try.func36, Try.ntmps36
  go_upto_region 3 with (first | ((with_reducible refine gate_dst (N := 3) rfl ?_); refine box_event ?hg (N := 3) ?hd (cs := #[.int .i64 fA, .int .i64 cA, .int .i64 eA, .int .i64 dA, .int .i64 gA, .int .i64 hA, .int .i64 iA, .int .i64 jA]) (t := 58) ?hr ?_; (case hd => rfl); (case hg => rfl); (case hr => first | (go_simp; done) | (go_simp; rfl)); intro bA hg w6 hbox hb; have gD := Aside0.mk (below_step q3_8 hb); have hD := Aside0.mk (hbox); have iD := Aside0.mk ((by rw [hg]; exact (below_size q3_8) : w.heap.size ≤ bA)); have BF := Aside0.mk ((by rw [hg]; exact (below_size q3_8) : w.heap.size ≤ bA)); clear HB; have HB := gD; have aA := hD; have cI := iD; have HF := BF; clear gD hD iD BF; clear hb hbox hg; have wB : w6.cell? ⟨bA, 0, none⟩ = some (.int .i64 fA) := (blk_cell aA.out 0).trans rfl; have xB : w6.cell? ⟨bA, 1, none⟩ = some (.int .i64 cA) := (blk_cell aA.out 1).trans rfl; have yB : w6.cell? ⟨bA, 2, none⟩ = some (.int .i64 eA) := (blk_cell aA.out 2).trans rfl; have zB : w6.cell? ⟨bA, 3, none⟩ = some (.int .i64 dA) := (blk_cell aA.out 3).trans rfl; have AB : w6.cell? ⟨bA, 4, none⟩ = some (.int .i64 gA) := (blk_cell aA.out 4).trans rfl; have BB : w6.cell? ⟨bA, 5, none⟩ = some (.int .i64 hA) := (blk_cell aA.out 5).trans rfl; have CB : w6.cell? ⟨bA, 6, none⟩ = some (.int .i64 iA) := (blk_cell aA.out 6).trans rfl; have DB : w6.cell? ⟨bA, 7, none⟩ = some (.int .i64 jA) := (blk_cell aA.out 7).trans rfl; have EB := blk_frozen aA.out 0; have FB := blk_frozen aA.out 1; have GB := blk_frozen aA.out 2; have IB := blk_frozen aA.out 3; have JB := blk_frozen aA.out 4; have KB := blk_frozen aA.out 5; have LB := blk_frozen aA.out 6; have MB := blk_frozen aA.out 7) | ((with_reducible refine gate_callee (f := 66) rfl ?_); refine goesL_ (some 11) rfl rfl Try.func66 (by kernel_rfl) rfl #[.slice A0 l0.length c0, .int .i64 eA] rfl q3_7 ?_; (with_reducible refine (spec_l03Has.calls k _ _ l0 eA sA _ ?side1 ?side2 A3.out).mono ?_); (case side1 => exact q3_6); (case side2 => exact HC0.out); rintro e w' ⟨rfl, ⟨nd, rfl⟩⟩; refine ⟨_, rfl, ?_⟩) | ((with_reducible refine gate_dst (N := 12) rfl ?_); refine Kd.R_lit (Kd.int .i64) _ 3 ?hg (N := 12) ?hd (xs := ([] : List Int)) (inner := []) (ok := fun _ => True) (okp := fun _ => True) ?hr ?hp (fun _ hk => hk) trivial (Below.refl _ _) (Nat.le_refl _) (by simp) ?_; (case hd => rfl); (case hg => rfl); (case hr => first | (go_simp; done) | (go_simp; rfl)); (case hp => exact (Reps.none _ _)); intro bI w8 ho9 hb hg_ hnew_; clear hg_ hnew_; (first | rw [← Ny142.out] at ho9 | (simp only [Int.reduceToNat] at ho9; rw [← Ny142.out] at ho9)); have gD := Aside0.mk (Kd.R_lower ho9 (below_size q3_0)); have hD := Aside0.mk (blk_below (g := bA) (o := .cells #[.int .i64 fA, .int .i64 cA, .int .i64 eA, .int .i64 dA, .int .i64 gA, .int .i64 hA, .int .i64 iA, .int .i64 jA] 58 (0, 0)) q3_1 hb); have iD := Aside0.mk (below_step q3_0 hb); clear aA HB; have zE := gD; have aA := hD; have HB := iD; clear gD hD iD; clear hb ho9) | ((with_reducible refine gate_builtin (b := .append) (xs := #[.tmp 12, .tmp 13]) rfl ?_); at_builtin; refine Kd.R_append_rows (Kd.int .i64) (w0 := w) w.heap.size rfl (.tmp 12) (.tmp 13) 27 3 (.int .i64 0) 8 rfl Try.underlying27 info3 rfl (by decide) (by omega) bI y142 l0 _ _ _ (fun _ => True) (fun _ => False) rfl rfl ?aO ?aR (fun _ _ h => h) (fun _ h => h.elim) ?aF ?aB ?aS ?aL ?_; (case aR => repeat (first | exact (Kd.C_below HR0.out HB.out) | (with_reducible refine Kd.C_alloc ?_ _) | (with_reducible refine Kd.C_drewN ?_ _) | (with_reducible refine Kd.C_drew ?_))); (case aB => exact q3_0); (case aF => exact (fun _ _ => trivial)); (case aO => exact (by (with_reducible repeat (first | apply Kd.R_alloc | apply Kd.R_drewN | apply Kd.R_drew)); exact zE.out)); (case aS => exact (below_size q3_0)); (case aL => have := LMc4.out; omega); intro DE vA ho hb hg hat; rw [← Ny145.out] at ho; have gD := Aside0.mk (blk_grown (g := bA) (o := .cells #[.int .i64 fA, .int .i64 cA, .int .i64 eA, .int .i64 dA, .int .i64 gA, .int .i64 hA, .int .i64 iA, .int .i64 jA] 58 (0, 0)) q3_1 hg (Kd.R_ne zE.out aA.out (by decide))); have hD := Aside0.mk (hb); have iD := Aside0.mk (ho); clear aA HB zE; have aA := gD; have HB := hD; have IF := iD; clear gD hD iD; clear ho hb hg hat))
  (try simp only [Act.put, List.setIfInBounds_toArray, List.set_cons_zero, List.set_cons_succ])
  go_cut [15] (fun v15 wc => ∃ (kq : Nat) (jD : Bool), v15 = .bool jD ∧ Aside0 (spec_LiApply.j0 kq l0 sA y145 jD fA cA eA dA gA hA iA jA = some (r1, r2)) ∧ Aside0 (kq ≤ k) ∧ Aside0 (Kd.R (Kd.int .i64) 3 wc w.heap.size (fun _ => True) DE y145) ∧ Aside0 (wc.heap[bA]? = some (.cells #[.int .i64 fA, .int .i64 cA, .int .i64 eA, .int .i64 dA, .int .i64 gA, .int .i64 hA, .int .i64 iA, .int .i64 jA] 58 (0, 0))) ∧ Aside0 (Below w.heap.size w wc))
  case first =>
   have H := HC5.out
   clear HC5
   by_cases c11 : cA = 1
   ·rw [if_pos c11] at H
    have tA : (cA == 1) = true := beq_iff_eq.mpr c11
    have dD : (cA != 1) = false := bne_eq_false_iff_eq.mpr c11
    clear c11
    (first | rw [tA] | (simp only [i64_w, i32_w]; rw [tA]) | skip)
    by_cases c12 : dA = 1
    ·rw [if_pos c12] at H
     have eD : (dA == 1) = true := beq_iff_eq.mpr c12
     have fD : (dA != 1) = false := bne_eq_false_iff_eq.mpr c12
     clear c12
     have H' := Aside0.mk H
     clear H
     have wA : vA.cell? ⟨bA, 0, none⟩ = some (.int .i64 fA) := (blk_cell aA.out 0).trans rfl
     have xA : vA.cell? ⟨bA, 1, none⟩ = some (.int .i64 cA) := (blk_cell aA.out 1).trans rfl
     have yA : vA.cell? ⟨bA, 2, none⟩ = some (.int .i64 eA) := (blk_cell aA.out 2).trans rfl
     have zA : vA.cell? ⟨bA, 3, none⟩ = some (.int .i64 dA) := (blk_cell aA.out 3).trans rfl
     have AA : vA.cell? ⟨bA, 4, none⟩ = some (.int .i64 gA) := (blk_cell aA.out 4).trans rfl
     have BA : vA.cell? ⟨bA, 5, none⟩ = some (.int .i64 hA) := (blk_cell aA.out 5).trans rfl
     have CA : vA.cell? ⟨bA, 6, none⟩ = some (.int .i64 iA) := (blk_cell aA.out 6).trans rfl
     have DA : vA.cell? ⟨bA, 7, none⟩ = some (.int .i64 jA) := (blk_cell aA.out 7).trans rfl
     have EA := blk_frozen aA.out 0
     have FA := blk_frozen aA.out 1
     have GA := blk_frozen aA.out 2
     have IA := blk_frozen aA.out 3
     have JA := blk_frozen aA.out 4
     have KA := blk_frozen aA.out 5
     have LA := blk_frozen aA.out 6
     have MA := blk_frozen aA.out 7
     go_wp2
     go_meet
     case rel => exact ⟨_, (!sA), q3_5, H', ⟨by first | omega | exact Nat.le_refl _⟩, ⟨q3_9⟩, ⟨q3_1⟩, ⟨q3_0⟩⟩
    ·rw [if_neg c12] at H
     have eD : (dA == 1) = false := beq_eq_false_iff_ne.mpr c12
     have fD : (dA != 1) = true := bne_iff_ne.mpr c12
     have H' := Aside0.mk H
     clear H
     have NA : vA.cell? ⟨bA, 0, none⟩ = some (.int .i64 fA) := (blk_cell aA.out 0).trans rfl
     have OA : vA.cell? ⟨bA, 1, none⟩ = some (.int .i64 cA) := (blk_cell aA.out 1).trans rfl
     have PA : vA.cell? ⟨bA, 2, none⟩ = some (.int .i64 eA) := (blk_cell aA.out 2).trans rfl
     have QA : vA.cell? ⟨bA, 3, none⟩ = some (.int .i64 dA) := (blk_cell aA.out 3).trans rfl
     have RA : vA.cell? ⟨bA, 4, none⟩ = some (.int .i64 gA) := (blk_cell aA.out 4).trans rfl
     have SA : vA.cell? ⟨bA, 5, none⟩ = some (.int .i64 hA) := (blk_cell aA.out 5).trans rfl
     have TA : vA.cell? ⟨bA, 6, none⟩ = some (.int .i64 iA) := (blk_cell aA.out 6).trans rfl
     have UA : vA.cell? ⟨bA, 7, none⟩ = some (.int .i64 jA) := (blk_cell aA.out 7).trans rfl
     have VA := blk_frozen aA.out 0
     have WA := blk_frozen aA.out 1
     have XA := blk_frozen aA.out 2
     have YA := blk_frozen aA.out 3
     have ZA := blk_frozen aA.out 4
     have bB := blk_frozen aA.out 5
     have cB := blk_frozen aA.out 6
     have dB := blk_frozen aA.out 7
     go_wp2
     go_meet
     case rel => exact ⟨_, (false), q3_5, H', ⟨by first | omega | exact Nat.le_refl _⟩, ⟨q3_9⟩, ⟨q3_1⟩, ⟨q3_0⟩⟩
   ·rw [if_neg c11] at H
    have tA : (cA == 1) = false := beq_eq_false_iff_ne.mpr c11
    have dD : (cA != 1) = true := bne_iff_ne.mpr c11
    (first | rw [tA] | (simp only [i64_w, i32_w]; rw [tA]) | skip)
    have H' := Aside0.mk H
    clear H
    have eB : vA.cell? ⟨bA, 0, none⟩ = some (.int .i64 fA) := (blk_cell aA.out 0).trans rfl
    have fB : vA.cell? ⟨bA, 1, none⟩ = some (.int .i64 cA) := (blk_cell aA.out 1).trans rfl
    have gB : vA.cell? ⟨bA, 2, none⟩ = some (.int .i64 eA) := (blk_cell aA.out 2).trans rfl
    have hB : vA.cell? ⟨bA, 3, none⟩ = some (.int .i64 dA) := (blk_cell aA.out 3).trans rfl
    have iB : vA.cell? ⟨bA, 4, none⟩ = some (.int .i64 gA) := (blk_cell aA.out 4).trans rfl
    have jB : vA.cell? ⟨bA, 5, none⟩ = some (.int .i64 hA) := (blk_cell aA.out 5).trans rfl
    have kB : vA.cell? ⟨bA, 6, none⟩ = some (.int .i64 iA) := (blk_cell aA.out 6).trans rfl
    have lB : vA.cell? ⟨bA, 7, none⟩ = some (.int .i64 jA) := (blk_cell aA.out 7).trans rfl
    have mB := blk_frozen aA.out 0
    have nB := blk_frozen aA.out 1
    have oB := blk_frozen aA.out 2
    have pB := blk_frozen aA.out 3
    have qB := blk_frozen aA.out 4
    have rB := blk_frozen aA.out 5
    have sB := blk_frozen aA.out 6
    have tB := blk_frozen aA.out 7
    go_wp2
    go_meet
    case rel => exact ⟨_, (false), q3_5, H', ⟨by first | omega | exact Nat.le_refl _⟩, ⟨q3_9⟩, ⟨q3_1⟩, ⟨q3_0⟩⟩
  case rest =>
   clear HC5
   (try clear c1); (try clear p2); (try clear c3); (try clear c4); (try clear c6); (try clear c11); (try clear tA); (try clear dD); (try clear c12); (try clear eD); (try clear fD); (try clear wA); (try clear xA); (try clear yA); (try clear zA); (try clear AA); (try clear BA); (try clear CA); (try clear DA); (try clear NA); (try clear OA); (try clear PA); (try clear QA); (try clear RA); (try clear SA); (try clear TA); (try clear UA); (try clear eB); (try clear fB); (try clear gB); (try clear hB); (try clear iB); (try clear jB); (try clear kB); (try clear lB); (try clear wB); (try clear xB); (try clear yB); (try clear zB); (try clear AB); (try clear BB); (try clear CB); (try clear DB); (try clear EA); (try clear FA); (try clear GA); (try clear IA); (try clear JA); (try clear KA); (try clear LA); (try clear MA); (try clear VA); (try clear WA); (try clear XA); (try clear YA); (try clear ZA); (try clear bB); (try clear cB); (try clear dB); (try clear mB); (try clear nB); (try clear oB); (try clear pB); (try clear qB); (try clear rB); (try clear sB); (try clear tB); (try clear EB); (try clear FB); (try clear GB); (try clear IB); (try clear JB); (try clear KB); (try clear LB); (try clear MB)
   obtain ⟨kq, jD, rfl, HA, HJ4, cD, aA, HB⟩ := hcut
   cases kq with
   | zero => exact absurd HA.out (by simp [spec_LiApply.j0])
   | succ kj4 =>
    have H := HA.out
    clear HA
    simp only [spec_LiApply.j0] at H
    by_cases c16 : jD = true
    ·subst c16
     rw [if_pos rfl] at H
     replace H := Option.bind_eq_some_iff.mp H
     obtain ⟨FF, A170, H⟩ := H
     (try dsimp only at H)
     have A17 := Aside0.mk A170
     clear A170
     simp only [Option.some.injEq, Prod.mk.injEq] at H
     obtain ⟨rfl, rfl⟩ := H
     have NB : wc.cell? ⟨bA, 0, none⟩ = some (.int .i64 fA) := (blk_cell aA.out 0).trans rfl
     have OB : wc.cell? ⟨bA, 1, none⟩ = some (.int .i64 cA) := (blk_cell aA.out 1).trans rfl
     have PB : wc.cell? ⟨bA, 2, none⟩ = some (.int .i64 eA) := (blk_cell aA.out 2).trans rfl
     have QB : wc.cell? ⟨bA, 3, none⟩ = some (.int .i64 dA) := (blk_cell aA.out 3).trans rfl
     have RB : wc.cell? ⟨bA, 4, none⟩ = some (.int .i64 gA) := (blk_cell aA.out 4).trans rfl
     have SB : wc.cell? ⟨bA, 5, none⟩ = some (.int .i64 hA) := (blk_cell aA.out 5).trans rfl
     have TB : wc.cell? ⟨bA, 6, none⟩ = some (.int .i64 iA) := (blk_cell aA.out 6).trans rfl
     have UB : wc.cell? ⟨bA, 7, none⟩ = some (.int .i64 jA) := (blk_cell aA.out 7).trans rfl
     have VB := blk_frozen aA.out 0
     have WB := blk_frozen aA.out 1
     have XB := blk_frozen aA.out 2
     have YB := blk_frozen aA.out 3
     have ZB := blk_frozen aA.out 4
     have aC := blk_frozen aA.out 5
     have bC := blk_frozen aA.out 6
     have cC := blk_frozen aA.out 7
     go_wp2_with (first | ((with_reducible refine gate_callee (f := 69) rfl ?_); refine goesL_ (some 31) rfl rfl Try.func69 (by kernel_rfl) rfl #[.slice A0 l0.length c0, .int .i64 eA] rfl q3_7 ?_; (with_reducible refine (spec_l08With.calls kj4 _ _ l0 eA FF _ ?side1 ?side2 A17.out).mono ?_); (case side1 => exact q3_6); (case side2 => exact HC0.out); rintro e fI ⟨dI, rfl, ho0, hb⟩; refine ⟨_, rfl, ?_⟩; have gD := Aside0.mk (Kd.R_elder' q3_2 (Kd.R_base ho0) hb); have hD := Aside0.mk (Kd.R_lower (Kd.R_new' ho0 (Kd.R_lt q3_2)) (below_size q3_0)); have iD := Aside0.mk (blk_below (g := bA) (o := .cells #[.int .i64 fA, .int .i64 cA, .int .i64 eA, .int .i64 dA, .int .i64 gA, .int .i64 hA, .int .i64 iA, .int .i64 jA] 58 (0, 0)) q3_1 hb); have BF := Aside0.mk (below_step q3_0 hb); clear cD aA HB; have cD := gD; have JF := hD; have aA := iD; have HB := BF; clear gD hD iD BF; (try clear hb); (try clear hb2); (try clear hk); (try clear hi); (try clear ho0)))
     go_ret2
     exact ⟨_, q3_3, by (with_reducible repeat (first | apply Kd.R_alloc | apply Kd.R_drewN | apply Kd.R_drew)); exact Kd.R_mono JF.out (fun _ hk => trivial), q3_0⟩
    ·replace c16 := Bool.eq_false_iff.mpr c16
     subst c16
     rw [if_neg (show ¬ (false = true) by decide)] at H
     have HC20 := Aside0.mk H
     clear H
     go_upto_region 5 with (fail)
     go_cut [32] (fun v32 wc => ∃ (kq : Nat) (dC : Bool), v32 = .bool dC ∧ Aside0 (spec_LiApply.j1 kq l0 sA y145 dC fA cA eA dA gA hA iA jA = some (r1, r2)) ∧ Aside0 (kq ≤ kj4) ∧ Aside0 (Kd.R (Kd.int .i64) 3 wc w.heap.size (fun _ => True) DE y145) ∧ Aside0 (wc.heap[bA]? = some (.cells #[.int .i64 fA, .int .i64 cA, .int .i64 eA, .int .i64 dA, .int .i64 gA, .int .i64 hA, .int .i64 iA, .int .i64 jA] 58 (0, 0))) ∧ Aside0 (Below w.heap.size w wc))
     case first =>
      have H := HC20.out
      clear HC20
      by_cases c21 : cA = 2
      ·rw [if_pos c21] at H
       have uA : (cA == 2) = true := beq_iff_eq.mpr c21
       have kD : (cA != 2) = false := bne_eq_false_iff_eq.mpr c21
       clear c21
       (first | rw [uA] | (simp only [i64_w, i32_w]; rw [uA]) | skip)
       by_cases c22 : dA = 1
       ·rw [if_pos c22] at H
        have lD : (dA == 1) = true := beq_iff_eq.mpr c22
        have mD : (dA != 1) = false := bne_eq_false_iff_eq.mpr c22
        clear c22
        have H' := Aside0.mk H
        clear H
        have eC : wc.cell? ⟨bA, 0, none⟩ = some (.int .i64 fA) := (blk_cell aA.out 0).trans rfl
        have fC : wc.cell? ⟨bA, 1, none⟩ = some (.int .i64 cA) := (blk_cell aA.out 1).trans rfl
        have gC : wc.cell? ⟨bA, 2, none⟩ = some (.int .i64 eA) := (blk_cell aA.out 2).trans rfl
        have hC : wc.cell? ⟨bA, 3, none⟩ = some (.int .i64 dA) := (blk_cell aA.out 3).trans rfl
        have iC : wc.cell? ⟨bA, 4, none⟩ = some (.int .i64 gA) := (blk_cell aA.out 4).trans rfl
        have jC : wc.cell? ⟨bA, 5, none⟩ = some (.int .i64 hA) := (blk_cell aA.out 5).trans rfl
        have kC : wc.cell? ⟨bA, 6, none⟩ = some (.int .i64 iA) := (blk_cell aA.out 6).trans rfl
        have lC : wc.cell? ⟨bA, 7, none⟩ = some (.int .i64 jA) := (blk_cell aA.out 7).trans rfl
        have mC := blk_frozen aA.out 0
        have nC := blk_frozen aA.out 1
        have oC := blk_frozen aA.out 2
        have pC := blk_frozen aA.out 3
        have qC := blk_frozen aA.out 4
        have rC := blk_frozen aA.out 5
        have sC := blk_frozen aA.out 6
        have tC := blk_frozen aA.out 7
        go_wp2
        go_meet
        case rel => exact ⟨_, (sA), q3_5, H', ⟨by have := HJ4.out; first | omega | exact Nat.le_refl _⟩, ⟨q3_2⟩, ⟨q3_1⟩, ⟨q3_0⟩⟩
       ·rw [if_neg c22] at H
        have lD : (dA == 1) = false := beq_eq_false_iff_ne.mpr c22
        have mD : (dA != 1) = true := bne_iff_ne.mpr c22
        have H' := Aside0.mk H
        clear H
        have uC : wc.cell? ⟨bA, 0, none⟩ = some (.int .i64 fA) := (blk_cell aA.out 0).trans rfl
        have vC : wc.cell? ⟨bA, 1, none⟩ = some (.int .i64 cA) := (blk_cell aA.out 1).trans rfl
        have wC : wc.cell? ⟨bA, 2, none⟩ = some (.int .i64 eA) := (blk_cell aA.out 2).trans rfl
        have xC : wc.cell? ⟨bA, 3, none⟩ = some (.int .i64 dA) := (blk_cell aA.out 3).trans rfl
        have yC : wc.cell? ⟨bA, 4, none⟩ = some (.int .i64 gA) := (blk_cell aA.out 4).trans rfl
        have zC : wc.cell? ⟨bA, 5, none⟩ = some (.int .i64 hA) := (blk_cell aA.out 5).trans rfl
        have AC : wc.cell? ⟨bA, 6, none⟩ = some (.int .i64 iA) := (blk_cell aA.out 6).trans rfl
        have BC : wc.cell? ⟨bA, 7, none⟩ = some (.int .i64 jA) := (blk_cell aA.out 7).trans rfl
        have CC := blk_frozen aA.out 0
        have DC := blk_frozen aA.out 1
        have EC := blk_frozen aA.out 2
        have FC := blk_frozen aA.out 3
        have GC := blk_frozen aA.out 4
        have HC := blk_frozen aA.out 5
        have IC := blk_frozen aA.out 6
        have JC := blk_frozen aA.out 7
        go_wp2
        go_meet
        case rel => exact ⟨_, (false), q3_5, H', ⟨by have := HJ4.out; first | omega | exact Nat.le_refl _⟩, ⟨q3_2⟩, ⟨q3_1⟩, ⟨q3_0⟩⟩
      ·rw [if_neg c21] at H
       have uA : (cA == 2) = false := beq_eq_false_iff_ne.mpr c21
       have kD : (cA != 2) = true := bne_iff_ne.mpr c21
       (first | rw [uA] | (simp only [i64_w, i32_w]; rw [uA]) | skip)
       have H' := Aside0.mk H
       clear H
       have KC : wc.cell? ⟨bA, 0, none⟩ = some (.int .i64 fA) := (blk_cell aA.out 0).trans rfl
       have LC : wc.cell? ⟨bA, 1, none⟩ = some (.int .i64 cA) := (blk_cell aA.out 1).trans rfl
       have MC : wc.cell? ⟨bA, 2, none⟩ = some (.int .i64 eA) := (blk_cell aA.out 2).trans rfl
       have NC : wc.cell? ⟨bA, 3, none⟩ = some (.int .i64 dA) := (blk_cell aA.out 3).trans rfl
       have OC : wc.cell? ⟨bA, 4, none⟩ = some (.int .i64 gA) := (blk_cell aA.out 4).trans rfl
       have PC : wc.cell? ⟨bA, 5, none⟩ = some (.int .i64 hA) := (blk_cell aA.out 5).trans rfl
       have QC : wc.cell? ⟨bA, 6, none⟩ = some (.int .i64 iA) := (blk_cell aA.out 6).trans rfl
       have RC : wc.cell? ⟨bA, 7, none⟩ = some (.int .i64 jA) := (blk_cell aA.out 7).trans rfl
       have SC := blk_frozen aA.out 0
       have TC := blk_frozen aA.out 1
       have UC := blk_frozen aA.out 2
       have VC := blk_frozen aA.out 3
       have WC := blk_frozen aA.out 4
       have XC := blk_frozen aA.out 5
       have YC := blk_frozen aA.out 6
       have ZC := blk_frozen aA.out 7
       go_wp2
       go_meet
       case rel => exact ⟨_, (false), q3_5, H', ⟨by have := HJ4.out; first | omega | exact Nat.le_refl _⟩, ⟨q3_2⟩, ⟨q3_1⟩, ⟨q3_0⟩⟩
     case rest =>
      clear HC20
      (try clear c1); (try clear c2); (try clear p2); (try clear c3); (try clear c4); (try clear c6); (try clear c11); (try clear tA); (try clear dD); (try clear c12); (try clear eD); (try clear fD); (try clear c16); (try clear c21); (try clear uA); (try clear kD); (try clear c22); (try clear lD); (try clear mD); (try clear wA); (try clear xA); (try clear yA); (try clear zA); (try clear AA); (try clear BA); (try clear CA); (try clear DA); (try clear NA); (try clear OA); (try clear PA); (try clear QA); (try clear RA); (try clear SA); (try clear TA); (try clear UA); (try clear eB); (try clear fB); (try clear gB); (try clear hB); (try clear iB); (try clear jB); (try clear kB); (try clear lB); (try clear NB); (try clear OB); (try clear PB); (try clear QB); (try clear RB); (try clear SB); (try clear TB); (try clear UB); (try clear eC); (try clear fC); (try clear gC); (try clear hC); (try clear iC); (try clear jC); (try clear kC); (try clear lC); (try clear uC); (try clear vC); (try clear wC); (try clear xC); (try clear yC); (try clear zC); (try clear AC); (try clear BC); (try clear KC); (try clear LC); (try clear MC); (try clear NC); (try clear OC); (try clear PC); (try clear QC); (try clear RC); (try clear wB); (try clear xB); (try clear yB); (try clear zB); (try clear AB); (try clear BB); (try clear CB); (try clear DB); (try clear EA); (try clear FA); (try clear GA); (try clear IA); (try clear JA); (try clear KA); (try clear LA); (try clear MA); (try clear VA); (try clear WA); (try clear XA); (try clear YA); (try clear ZA); (try clear bB); (try clear cB); (try clear dB); (try clear mB); (try clear nB); (try clear oB); (try clear pB); (try clear qB); (try clear rB); (try clear sB); (try clear tB); (try clear VB); (try clear WB); (try clear XB); (try clear YB); (try clear ZB); (try clear aC); (try clear bC); (try clear cC); (try clear mC); (try clear nC); (try clear oC); (try clear pC); (try clear qC); (try clear rC); (try clear sC); (try clear tC); (try clear CC); (try clear DC); (try clear EC); (try clear FC); (try clear GC); (try clear HC); (try clear IC); (try clear JC); (try clear SC); (try clear TC); (try clear UC); (try clear VC); (try clear WC); (try clear XC); (try clear YC); (try clear ZC); (try clear EB); (try clear FB); (try clear GB); (try clear IB); (try clear JB); (try clear KB); (try clear LB); (try clear MB); (try clear p2)
      obtain ⟨kq, dC, rfl, HA, HJ19, cD, aA, HB⟩ := hcut
      cases kq with
      | zero => exact absurd HA.out (by simp [spec_LiApply.j1])
      | succ kj19 =>
       have H := HA.out
       clear HA
       simp only [spec_LiApply.j1] at H
       by_cases c26 : dC = true
       ·subst c26
        rw [if_pos rfl] at H
        replace H := Option.bind_eq_some_iff.mp H
        obtain ⟨GF, A270, H⟩ := H
        (try dsimp only at H)
        have A27 := Aside0.mk A270
        clear A270
        simp only [Option.some.injEq, Prod.mk.injEq] at H
        obtain ⟨rfl, rfl⟩ := H
        have nD : wc.cell? ⟨bA, 0, none⟩ = some (.int .i64 fA) := (blk_cell aA.out 0).trans rfl
        have oD : wc.cell? ⟨bA, 1, none⟩ = some (.int .i64 cA) := (blk_cell aA.out 1).trans rfl
        have pD : wc.cell? ⟨bA, 2, none⟩ = some (.int .i64 eA) := (blk_cell aA.out 2).trans rfl
        have qD : wc.cell? ⟨bA, 3, none⟩ = some (.int .i64 dA) := (blk_cell aA.out 3).trans rfl
        have rD : wc.cell? ⟨bA, 4, none⟩ = some (.int .i64 gA) := (blk_cell aA.out 4).trans rfl
        have sD : wc.cell? ⟨bA, 5, none⟩ = some (.int .i64 hA) := (blk_cell aA.out 5).trans rfl
        have tD : wc.cell? ⟨bA, 6, none⟩ = some (.int .i64 iA) := (blk_cell aA.out 6).trans rfl
        have uD : wc.cell? ⟨bA, 7, none⟩ = some (.int .i64 jA) := (blk_cell aA.out 7).trans rfl
        have vD := blk_frozen aA.out 0
        have wD := blk_frozen aA.out 1
        have xD := blk_frozen aA.out 2
        have yD := blk_frozen aA.out 3
        have zD := blk_frozen aA.out 4
        have AD := blk_frozen aA.out 5
        have BD := blk_frozen aA.out 6
        have CD := blk_frozen aA.out 7
        go_wp2_with (first | ((with_reducible refine gate_callee (f := 70) rfl ?_); refine goesL_ (some 47) rfl rfl Try.func70 (by kernel_rfl) rfl #[.slice A0 l0.length c0, .int .i64 eA] rfl q3_7 ?_; (with_reducible refine (spec_l08But.calls kj19 _ _ l0 eA GF _ ?side1 ?side2 A27.out).mono ?_); (case side1 => exact q3_6); (case side2 => exact HC0.out); rintro e gI ⟨eI, rfl, ho0, hb⟩; refine ⟨_, rfl, ?_⟩; have gD := Aside0.mk (Kd.R_elder' q3_2 (Kd.R_base ho0) hb); have hD := Aside0.mk (Kd.R_lower (Kd.R_new' ho0 (Kd.R_lt q3_2)) (below_size q3_0)); have iD := Aside0.mk (blk_below (g := bA) (o := .cells #[.int .i64 fA, .int .i64 cA, .int .i64 eA, .int .i64 dA, .int .i64 gA, .int .i64 hA, .int .i64 iA, .int .i64 jA] 58 (0, 0)) q3_1 hb); have BF := Aside0.mk (below_step q3_0 hb); clear cD aA HB; have cD := gD; have KF := hD; have aA := iD; have HB := BF; clear gD hD iD BF; (try clear hb); (try clear hb2); (try clear hk); (try clear hi); (try clear ho0)))
        go_ret2
        exact ⟨_, q3_3, by (with_reducible repeat (first | apply Kd.R_alloc | apply Kd.R_drewN | apply Kd.R_drew)); exact Kd.R_mono KF.out (fun _ hk => trivial), q3_0⟩
       ·replace c26 := Bool.eq_false_iff.mpr c26
        subst c26
        rw [if_neg (show ¬ (false = true) by decide)] at H
        have HC30 := Aside0.mk H
        clear H
        go_upto_region 7 with (fail)
        go_cut [48] (fun v48 wc => ∃ (kq : Nat) (aD : Bool), v48 = .bool aD ∧ Aside0 (spec_LiApply.j2 kq sA y145 aD fA cA eA dA gA hA iA jA = some (r1, r2)) ∧ Aside0 (kq ≤ kj19) ∧ Aside0 (Kd.R (Kd.int .i64) 3 wc w.heap.size (fun _ => True) DE y145) ∧ Aside0 (wc.heap[bA]? = some (.cells #[.int .i64 fA, .int .i64 cA, .int .i64 eA, .int .i64 dA, .int .i64 gA, .int .i64 hA, .int .i64 iA, .int .i64 jA] 58 (0, 0))) ∧ Aside0 (Below w.heap.size w wc))
        case first =>
         have H := HC30.out
         clear HC30
         by_cases c31 : cA = 3
         ·rw [if_pos c31] at H
          have uB : (cA == 3) = true := beq_iff_eq.mpr c31
          have AE : (cA != 3) = false := bne_eq_false_iff_eq.mpr c31
          clear c31
          (first | rw [uB] | (simp only [i64_w, i32_w]; rw [uB]) | skip)
          by_cases c32 : dA = 1
          ·rw [if_pos c32] at H
           have BE : (dA == 1) = true := beq_iff_eq.mpr c32
           have CE : (dA != 1) = false := bne_eq_false_iff_eq.mpr c32
           clear c32
           have H' := Aside0.mk H
           clear H
           have DD : wc.cell? ⟨bA, 0, none⟩ = some (.int .i64 fA) := (blk_cell aA.out 0).trans rfl
           have ED : wc.cell? ⟨bA, 1, none⟩ = some (.int .i64 cA) := (blk_cell aA.out 1).trans rfl
           have FD : wc.cell? ⟨bA, 2, none⟩ = some (.int .i64 eA) := (blk_cell aA.out 2).trans rfl
           have GD : wc.cell? ⟨bA, 3, none⟩ = some (.int .i64 dA) := (blk_cell aA.out 3).trans rfl
           have HD : wc.cell? ⟨bA, 4, none⟩ = some (.int .i64 gA) := (blk_cell aA.out 4).trans rfl
           have ID : wc.cell? ⟨bA, 5, none⟩ = some (.int .i64 hA) := (blk_cell aA.out 5).trans rfl
           have JD : wc.cell? ⟨bA, 6, none⟩ = some (.int .i64 iA) := (blk_cell aA.out 6).trans rfl
           have KD : wc.cell? ⟨bA, 7, none⟩ = some (.int .i64 jA) := (blk_cell aA.out 7).trans rfl
           have LD := blk_frozen aA.out 0
           have MD := blk_frozen aA.out 1
           have ND := blk_frozen aA.out 2
           have OD := blk_frozen aA.out 3
           have PD := blk_frozen aA.out 4
           have QD := blk_frozen aA.out 5
           have RD := blk_frozen aA.out 6
           have SD := blk_frozen aA.out 7
           go_wp2
           go_meet
           case rel => exact ⟨_, (sA), q3_5, H', ⟨by have := HJ4.out; have := HJ19.out; first | omega | exact Nat.le_refl _⟩, ⟨q3_2⟩, ⟨q3_1⟩, ⟨q3_0⟩⟩
          ·rw [if_neg c32] at H
           have BE : (dA == 1) = false := beq_eq_false_iff_ne.mpr c32
           have CE : (dA != 1) = true := bne_iff_ne.mpr c32
           have H' := Aside0.mk H
           clear H
           have TD : wc.cell? ⟨bA, 0, none⟩ = some (.int .i64 fA) := (blk_cell aA.out 0).trans rfl
           have UD : wc.cell? ⟨bA, 1, none⟩ = some (.int .i64 cA) := (blk_cell aA.out 1).trans rfl
           have VD : wc.cell? ⟨bA, 2, none⟩ = some (.int .i64 eA) := (blk_cell aA.out 2).trans rfl
           have WD : wc.cell? ⟨bA, 3, none⟩ = some (.int .i64 dA) := (blk_cell aA.out 3).trans rfl
           have XD : wc.cell? ⟨bA, 4, none⟩ = some (.int .i64 gA) := (blk_cell aA.out 4).trans rfl
           have YD : wc.cell? ⟨bA, 5, none⟩ = some (.int .i64 hA) := (blk_cell aA.out 5).trans rfl
           have ZD : wc.cell? ⟨bA, 6, none⟩ = some (.int .i64 iA) := (blk_cell aA.out 6).trans rfl
           have aE : wc.cell? ⟨bA, 7, none⟩ = some (.int .i64 jA) := (blk_cell aA.out 7).trans rfl
           have bE := blk_frozen aA.out 0
           have cE := blk_frozen aA.out 1
           have dE := blk_frozen aA.out 2
           have eE := blk_frozen aA.out 3
           have fE := blk_frozen aA.out 4
           have gE := blk_frozen aA.out 5
           have hE := blk_frozen aA.out 6
           have iE := blk_frozen aA.out 7
           go_wp2
           go_meet
           case rel => exact ⟨_, (false), q3_5, H', ⟨by have := HJ4.out; have := HJ19.out; first | omega | exact Nat.le_refl _⟩, ⟨q3_2⟩, ⟨q3_1⟩, ⟨q3_0⟩⟩
         ·rw [if_neg c31] at H
          have uB : (cA == 3) = false := beq_eq_false_iff_ne.mpr c31
          have AE : (cA != 3) = true := bne_iff_ne.mpr c31
          (first | rw [uB] | (simp only [i64_w, i32_w]; rw [uB]) | skip)
          have H' := Aside0.mk H
          clear H
          have jE : wc.cell? ⟨bA, 0, none⟩ = some (.int .i64 fA) := (blk_cell aA.out 0).trans rfl
          have kE : wc.cell? ⟨bA, 1, none⟩ = some (.int .i64 cA) := (blk_cell aA.out 1).trans rfl
          have lE : wc.cell? ⟨bA, 2, none⟩ = some (.int .i64 eA) := (blk_cell aA.out 2).trans rfl
          have mE : wc.cell? ⟨bA, 3, none⟩ = some (.int .i64 dA) := (blk_cell aA.out 3).trans rfl
          have nE : wc.cell? ⟨bA, 4, none⟩ = some (.int .i64 gA) := (blk_cell aA.out 4).trans rfl
          have oE : wc.cell? ⟨bA, 5, none⟩ = some (.int .i64 hA) := (blk_cell aA.out 5).trans rfl
          have pE : wc.cell? ⟨bA, 6, none⟩ = some (.int .i64 iA) := (blk_cell aA.out 6).trans rfl
          have qE : wc.cell? ⟨bA, 7, none⟩ = some (.int .i64 jA) := (blk_cell aA.out 7).trans rfl
          have rE := blk_frozen aA.out 0
          have sE := blk_frozen aA.out 1
          have tE := blk_frozen aA.out 2
          have uE := blk_frozen aA.out 3
          have vE := blk_frozen aA.out 4
          have wE := blk_frozen aA.out 5
          have xE := blk_frozen aA.out 6
          have yE := blk_frozen aA.out 7
          go_wp2
          go_meet
          case rel => exact ⟨_, (false), q3_5, H', ⟨by have := HJ4.out; have := HJ19.out; first | omega | exact Nat.le_refl _⟩, ⟨q3_2⟩, ⟨q3_1⟩, ⟨q3_0⟩⟩
        case rest =>
         clear HC30
         (try clear c1); (try clear c2); (try clear p2); (try clear c3); (try clear c4); (try clear c6); (try clear c7); (try clear c11); (try clear tA); (try clear dD); (try clear c12); (try clear eD); (try clear fD); (try clear c16); (try clear c21); (try clear uA); (try clear kD); (try clear c22); (try clear lD); (try clear mD); (try clear c26); (try clear c31); (try clear uB); (try clear AE); (try clear c32); (try clear BE); (try clear CE); (try clear wA); (try clear xA); (try clear yA); (try clear zA); (try clear AA); (try clear BA); (try clear CA); (try clear DA); (try clear NA); (try clear OA); (try clear PA); (try clear QA); (try clear RA); (try clear SA); (try clear TA); (try clear UA); (try clear eB); (try clear fB); (try clear gB); (try clear hB); (try clear iB); (try clear jB); (try clear kB); (try clear lB); (try clear NB); (try clear OB); (try clear PB); (try clear QB); (try clear RB); (try clear SB); (try clear TB); (try clear UB); (try clear eC); (try clear fC); (try clear gC); (try clear hC); (try clear iC); (try clear jC); (try clear kC); (try clear lC); (try clear uC); (try clear vC); (try clear wC); (try clear xC); (try clear yC); (try clear zC); (try clear AC); (try clear BC); (try clear KC); (try clear LC); (try clear MC); (try clear NC); (try clear OC); (try clear PC); (try clear QC); (try clear RC); (try clear nD); (try clear oD); (try clear pD); (try clear qD); (try clear rD); (try clear sD); (try clear tD); (try clear uD); (try clear DD); (try clear ED); (try clear FD); (try clear GD); (try clear HD); (try clear ID); (try clear JD); (try clear KD); (try clear TD); (try clear UD); (try clear VD); (try clear WD); (try clear XD); (try clear YD); (try clear ZD); (try clear aE); (try clear jE); (try clear kE); (try clear lE); (try clear mE); (try clear nE); (try clear oE); (try clear pE); (try clear qE); (try clear wB); (try clear xB); (try clear yB); (try clear zB); (try clear AB); (try clear BB); (try clear CB); (try clear DB); (try clear EA); (try clear FA); (try clear GA); (try clear IA); (try clear JA); (try clear KA); (try clear LA); (try clear MA); (try clear VA); (try clear WA); (try clear XA); (try clear YA); (try clear ZA); (try clear bB); (try clear cB); (try clear dB); (try clear mB); (try clear nB); (try clear oB); (try clear pB); (try clear qB); (try clear rB); (try clear sB); (try clear tB); (try clear VB); (try clear WB); (try clear XB); (try clear YB); (try clear ZB); (try clear aC); (try clear bC); (try clear cC); (try clear mC); (try clear nC); (try clear oC); (try clear pC); (try clear qC); (try clear rC); (try clear sC); (try clear tC); (try clear CC); (try clear DC); (try clear EC); (try clear FC); (try clear GC); (try clear HC); (try clear IC); (try clear JC); (try clear SC); (try clear TC); (try clear UC); (try clear VC); (try clear WC); (try clear XC); (try clear YC); (try clear ZC); (try clear vD); (try clear wD); (try clear xD); (try clear yD); (try clear zD); (try clear AD); (try clear BD); (try clear CD); (try clear LD); (try clear MD); (try clear ND); (try clear OD); (try clear PD); (try clear QD); (try clear RD); (try clear SD); (try clear bE); (try clear cE); (try clear dE); (try clear eE); (try clear fE); (try clear gE); (try clear hE); (try clear iE); (try clear rE); (try clear sE); (try clear tE); (try clear uE); (try clear vE); (try clear wE); (try clear xE); (try clear yE); (try clear EB); (try clear FB); (try clear GB); (try clear IB); (try clear JB); (try clear KB); (try clear LB); (try clear MB); (try clear p2)
         obtain ⟨kq, aD, rfl, HA, HJ29, cD, aA, HB⟩ := hcut
         cases kq with
         | zero => exact absurd HA.out (by simp [spec_LiApply.j2])
         | succ kj29 =>
          have H := HA.out
          clear HA
          simp only [spec_LiApply.j2] at H
          by_cases c36 : aD = true
          ·subst c36
           rw [if_pos rfl] at H
           simp only [Option.some.injEq, Prod.mk.injEq] at H
           obtain ⟨rfl, rfl⟩ := H
           go_wp2
           go_ret2
           exact ⟨_, q3_3, q3_2, q3_0⟩
          ·replace c36 := Bool.eq_false_iff.mpr c36
           subst c36
           rw [if_neg (show ¬ (false = true) by decide)] at H
           have HC37 := Aside0.mk H
           clear H
           go_upto_region 9 with (fail)
           go_cut [61] (fun v61 wc => ∃ (kq : Nat) (bD : Bool), v61 = .bool bD ∧ Aside0 (spec_LiApply.j3 kq sA y145 bD fA cA eA dA gA hA iA jA = some (r1, r2)) ∧ Aside0 (kq ≤ kj29) ∧ Aside0 (Kd.R (Kd.int .i64) 3 wc w.heap.size (fun _ => True) DE y145) ∧ Aside0 (wc.heap[bA]? = some (.cells #[.int .i64 fA, .int .i64 cA, .int .i64 eA, .int .i64 dA, .int .i64 gA, .int .i64 hA, .int .i64 iA, .int .i64 jA] 58 (0, 0))) ∧ Aside0 (Below w.heap.size w wc))
           case first =>
            have H := HC37.out
            clear HC37
            by_cases c38 : cA = 1
            ·rw [if_pos c38] at H
             have vB : (cA == 1) = true := beq_iff_eq.mpr c38
             have CF : (cA != 1) = false := bne_eq_false_iff_eq.mpr c38
             clear c38
             (first | rw [vB] | (simp only [i64_w, i32_w]; rw [vB]) | skip)
             by_cases c39 : dA = 4
             ·rw [if_pos c39] at H
              have DF : (dA == 4) = true := beq_iff_eq.mpr c39
              have EF : (dA != 4) = false := bne_eq_false_iff_eq.mpr c39
              clear c39
              have H' := Aside0.mk H
              clear H
              have EE : wc.cell? ⟨bA, 0, none⟩ = some (.int .i64 fA) := (blk_cell aA.out 0).trans rfl
              have FE : wc.cell? ⟨bA, 1, none⟩ = some (.int .i64 cA) := (blk_cell aA.out 1).trans rfl
              have GE : wc.cell? ⟨bA, 2, none⟩ = some (.int .i64 eA) := (blk_cell aA.out 2).trans rfl
              have HE : wc.cell? ⟨bA, 3, none⟩ = some (.int .i64 dA) := (blk_cell aA.out 3).trans rfl
              have IE : wc.cell? ⟨bA, 4, none⟩ = some (.int .i64 gA) := (blk_cell aA.out 4).trans rfl
              have JE : wc.cell? ⟨bA, 5, none⟩ = some (.int .i64 hA) := (blk_cell aA.out 5).trans rfl
              have KE : wc.cell? ⟨bA, 6, none⟩ = some (.int .i64 iA) := (blk_cell aA.out 6).trans rfl
              have LE : wc.cell? ⟨bA, 7, none⟩ = some (.int .i64 jA) := (blk_cell aA.out 7).trans rfl
              have ME := blk_frozen aA.out 0
              have NE := blk_frozen aA.out 1
              have OE := blk_frozen aA.out 2
              have PE := blk_frozen aA.out 3
              have QE := blk_frozen aA.out 4
              have RE := blk_frozen aA.out 5
              have SE := blk_frozen aA.out 6
              have TE := blk_frozen aA.out 7
              go_wp2
              go_meet
              case rel => exact ⟨_, (sA), q3_5, H', ⟨by have := HJ4.out; have := HJ19.out; have := HJ29.out; first | omega | exact Nat.le_refl _⟩, ⟨q3_2⟩, ⟨q3_1⟩, ⟨q3_0⟩⟩
             ·rw [if_neg c39] at H
              have DF : (dA == 4) = false := beq_eq_false_iff_ne.mpr c39
              have EF : (dA != 4) = true := bne_iff_ne.mpr c39
              have H' := Aside0.mk H
              clear H
              have UE : wc.cell? ⟨bA, 0, none⟩ = some (.int .i64 fA) := (blk_cell aA.out 0).trans rfl
              have VE : wc.cell? ⟨bA, 1, none⟩ = some (.int .i64 cA) := (blk_cell aA.out 1).trans rfl
              have WE : wc.cell? ⟨bA, 2, none⟩ = some (.int .i64 eA) := (blk_cell aA.out 2).trans rfl
              have XE : wc.cell? ⟨bA, 3, none⟩ = some (.int .i64 dA) := (blk_cell aA.out 3).trans rfl
              have YE : wc.cell? ⟨bA, 4, none⟩ = some (.int .i64 gA) := (blk_cell aA.out 4).trans rfl
              have ZE : wc.cell? ⟨bA, 5, none⟩ = some (.int .i64 hA) := (blk_cell aA.out 5).trans rfl
              have bF : wc.cell? ⟨bA, 6, none⟩ = some (.int .i64 iA) := (blk_cell aA.out 6).trans rfl
              have cF : wc.cell? ⟨bA, 7, none⟩ = some (.int .i64 jA) := (blk_cell aA.out 7).trans rfl
              have dF := blk_frozen aA.out 0
              have eF := blk_frozen aA.out 1
              have fF := blk_frozen aA.out 2
              have gF := blk_frozen aA.out 3
              have hF := blk_frozen aA.out 4
              have iF := blk_frozen aA.out 5
              have jF := blk_frozen aA.out 6
              have kF := blk_frozen aA.out 7
              go_wp2
              go_meet
              case rel => exact ⟨_, (false), q3_5, H', ⟨by have := HJ4.out; have := HJ19.out; have := HJ29.out; first | omega | exact Nat.le_refl _⟩, ⟨q3_2⟩, ⟨q3_1⟩, ⟨q3_0⟩⟩
            ·rw [if_neg c38] at H
             have vB : (cA == 1) = false := beq_eq_false_iff_ne.mpr c38
             have CF : (cA != 1) = true := bne_iff_ne.mpr c38
             (first | rw [vB] | (simp only [i64_w, i32_w]; rw [vB]) | skip)
             have H' := Aside0.mk H
             clear H
             have lF : wc.cell? ⟨bA, 0, none⟩ = some (.int .i64 fA) := (blk_cell aA.out 0).trans rfl
             have mF : wc.cell? ⟨bA, 1, none⟩ = some (.int .i64 cA) := (blk_cell aA.out 1).trans rfl
             have nF : wc.cell? ⟨bA, 2, none⟩ = some (.int .i64 eA) := (blk_cell aA.out 2).trans rfl
             have oF : wc.cell? ⟨bA, 3, none⟩ = some (.int .i64 dA) := (blk_cell aA.out 3).trans rfl
             have pF : wc.cell? ⟨bA, 4, none⟩ = some (.int .i64 gA) := (blk_cell aA.out 4).trans rfl
             have qF : wc.cell? ⟨bA, 5, none⟩ = some (.int .i64 hA) := (blk_cell aA.out 5).trans rfl
             have rF : wc.cell? ⟨bA, 6, none⟩ = some (.int .i64 iA) := (blk_cell aA.out 6).trans rfl
             have sF : wc.cell? ⟨bA, 7, none⟩ = some (.int .i64 jA) := (blk_cell aA.out 7).trans rfl
             have tF := blk_frozen aA.out 0
             have uF := blk_frozen aA.out 1
             have vF := blk_frozen aA.out 2
             have wF := blk_frozen aA.out 3
             have xF := blk_frozen aA.out 4
             have yF := blk_frozen aA.out 5
             have zF := blk_frozen aA.out 6
             have AF := blk_frozen aA.out 7
             go_wp2
             go_meet
             case rel => exact ⟨_, (false), q3_5, H', ⟨by have := HJ4.out; have := HJ19.out; have := HJ29.out; first | omega | exact Nat.le_refl _⟩, ⟨q3_2⟩, ⟨q3_1⟩, ⟨q3_0⟩⟩
           case rest =>
            clear HC37
            (try clear c1); (try clear c2); (try clear p2); (try clear c3); (try clear c4); (try clear c6); (try clear c7); (try clear c11); (try clear tA); (try clear dD); (try clear c12); (try clear eD); (try clear fD); (try clear c16); (try clear c21); (try clear uA); (try clear kD); (try clear c22); (try clear lD); (try clear mD); (try clear c26); (try clear c31); (try clear uB); (try clear AE); (try clear c32); (try clear BE); (try clear CE); (try clear c36); (try clear c38); (try clear vB); (try clear CF); (try clear c39); (try clear DF); (try clear EF); (try clear wA); (try clear xA); (try clear yA); (try clear zA); (try clear AA); (try clear BA); (try clear CA); (try clear DA); (try clear NA); (try clear OA); (try clear PA); (try clear QA); (try clear RA); (try clear SA); (try clear TA); (try clear UA); (try clear eB); (try clear fB); (try clear gB); (try clear hB); (try clear iB); (try clear jB); (try clear kB); (try clear lB); (try clear NB); (try clear OB); (try clear PB); (try clear QB); (try clear RB); (try clear SB); (try clear TB); (try clear UB); (try clear eC); (try clear fC); (try clear gC); (try clear hC); (try clear iC); (try clear jC); (try clear kC); (try clear lC); (try clear uC); (try clear vC); (try clear wC); (try clear xC); (try clear yC); (try clear zC); (try clear AC); (try clear BC); (try clear KC); (try clear LC); (try clear MC); (try clear NC); (try clear OC); (try clear PC); (try clear QC); (try clear RC); (try clear nD); (try clear oD); (try clear pD); (try clear qD); (try clear rD); (try clear sD); (try clear tD); (try clear uD); (try clear DD); (try clear ED); (try clear FD); (try clear GD); (try clear HD); (try clear ID); (try clear JD); (try clear KD); (try clear TD); (try clear UD); (try clear VD); (try clear WD); (try clear XD); (try clear YD); (try clear ZD); (try clear aE); (try clear jE); (try clear kE); (try clear lE); (try clear mE); (try clear nE); (try clear oE); (try clear pE); (try clear qE); (try clear EE); (try clear FE); (try clear GE); (try clear HE); (try clear IE); (try clear JE); (try clear KE); (try clear LE); (try clear UE); (try clear VE); (try clear WE); (try clear XE); (try clear YE); (try clear ZE); (try clear bF); (try clear cF); (try clear lF); (try clear mF); (try clear nF); (try clear oF); (try clear pF); (try clear qF); (try clear rF); (try clear sF); (try clear wB); (try clear xB); (try clear yB); (try clear zB); (try clear AB); (try clear BB); (try clear CB); (try clear DB); (try clear EA); (try clear FA); (try clear GA); (try clear IA); (try clear JA); (try clear KA); (try clear LA); (try clear MA); (try clear VA); (try clear WA); (try clear XA); (try clear YA); (try clear ZA); (try clear bB); (try clear cB); (try clear dB); (try clear mB); (try clear nB); (try clear oB); (try clear pB); (try clear qB); (try clear rB); (try clear sB); (try clear tB); (try clear VB); (try clear WB); (try clear XB); (try clear YB); (try clear ZB); (try clear aC); (try clear bC); (try clear cC); (try clear mC); (try clear nC); (try clear oC); (try clear pC); (try clear qC); (try clear rC); (try clear sC); (try clear tC); (try clear CC); (try clear DC); (try clear EC); (try clear FC); (try clear GC); (try clear HC); (try clear IC); (try clear JC); (try clear SC); (try clear TC); (try clear UC); (try clear VC); (try clear WC); (try clear XC); (try clear YC); (try clear ZC); (try clear vD); (try clear wD); (try clear xD); (try clear yD); (try clear zD); (try clear AD); (try clear BD); (try clear CD); (try clear LD); (try clear MD); (try clear ND); (try clear OD); (try clear PD); (try clear QD); (try clear RD); (try clear SD); (try clear bE); (try clear cE); (try clear dE); (try clear eE); (try clear fE); (try clear gE); (try clear hE); (try clear iE); (try clear rE); (try clear sE); (try clear tE); (try clear uE); (try clear vE); (try clear wE); (try clear xE); (try clear yE); (try clear ME); (try clear NE); (try clear OE); (try clear PE); (try clear QE); (try clear RE); (try clear SE); (try clear TE); (try clear dF); (try clear eF); (try clear fF); (try clear gF); (try clear hF); (try clear iF); (try clear jF); (try clear kF); (try clear tF); (try clear uF); (try clear vF); (try clear wF); (try clear xF); (try clear yF); (try clear zF); (try clear AF); (try clear EB); (try clear FB); (try clear GB); (try clear IB); (try clear JB); (try clear KB); (try clear LB); (try clear MB); (try clear p2)
            obtain ⟨kq, bD, rfl, HA, HJ36, cD, aA, HB⟩ := hcut
            cases kq with
            | zero => exact absurd HA.out (by simp [spec_LiApply.j3])
            | succ kj36 =>
             have H := HA.out
             clear HA
             simp only [spec_LiApply.j3] at H
             by_cases c43 : bD = true
             ·subst c43
              rw [if_pos rfl] at H
              simp only [Option.some.injEq, Prod.mk.injEq] at H
              obtain ⟨rfl, rfl⟩ := H
              go_wp2
              go_ret2
              exact ⟨_, q3_3, q3_2, q3_0⟩
             ·replace c43 := Bool.eq_false_iff.mpr c43
              subst c43
              rw [if_neg (show ¬ (false = true) by decide)] at H
              by_cases c44 : cA = 2
              ·rw [if_pos c44] at H
               have LF : (cA == 2) = true := beq_iff_eq.mpr c44
               have MF : (cA != 2) = false := bne_eq_false_iff_eq.mpr c44
               clear c44
               by_cases c45 : dA = 4
               ·rw [if_pos c45] at H
                have NF : (dA == 4) = true := beq_iff_eq.mpr c45
                have OF : (dA != 4) = false := bne_eq_false_iff_eq.mpr c45
                clear c45
                by_cases c46 : sA = true
                ·subst c46
                 rw [if_pos rfl] at H
                 simp only [Option.some.injEq, Prod.mk.injEq] at H
                 obtain ⟨rfl, rfl⟩ := H
                 have TF : wc.cell? ⟨bA, 0, none⟩ = some (.int .i64 fA) := (blk_cell aA.out 0).trans rfl
                 have UF : wc.cell? ⟨bA, 1, none⟩ = some (.int .i64 cA) := (blk_cell aA.out 1).trans rfl
                 have VF : wc.cell? ⟨bA, 2, none⟩ = some (.int .i64 eA) := (blk_cell aA.out 2).trans rfl
                 have WF : wc.cell? ⟨bA, 3, none⟩ = some (.int .i64 dA) := (blk_cell aA.out 3).trans rfl
                 have XF : wc.cell? ⟨bA, 4, none⟩ = some (.int .i64 gA) := (blk_cell aA.out 4).trans rfl
                 have YF : wc.cell? ⟨bA, 5, none⟩ = some (.int .i64 hA) := (blk_cell aA.out 5).trans rfl
                 have ZF : wc.cell? ⟨bA, 6, none⟩ = some (.int .i64 iA) := (blk_cell aA.out 6).trans rfl
                 have aG : wc.cell? ⟨bA, 7, none⟩ = some (.int .i64 jA) := (blk_cell aA.out 7).trans rfl
                 have bG := blk_frozen aA.out 0
                 have cG := blk_frozen aA.out 1
                 have dG := blk_frozen aA.out 2
                 have eG := blk_frozen aA.out 3
                 have fG := blk_frozen aA.out 4
                 have gG := blk_frozen aA.out 5
                 have hG := blk_frozen aA.out 6
                 have iG := blk_frozen aA.out 7
                 go_wp2
                 go_ret2
                 exact ⟨_, q3_3, q3_4, q3_0⟩
                ·replace c46 := Bool.eq_false_iff.mpr c46
                 subst c46
                 rw [if_neg (show ¬ (false = true) by decide)] at H
                 simp only [Option.some.injEq, Prod.mk.injEq] at H
                 obtain ⟨rfl, rfl⟩ := H
                 have jG : wc.cell? ⟨bA, 0, none⟩ = some (.int .i64 fA) := (blk_cell aA.out 0).trans rfl
                 have kG : wc.cell? ⟨bA, 1, none⟩ = some (.int .i64 cA) := (blk_cell aA.out 1).trans rfl
                 have lG : wc.cell? ⟨bA, 2, none⟩ = some (.int .i64 eA) := (blk_cell aA.out 2).trans rfl
                 have mG : wc.cell? ⟨bA, 3, none⟩ = some (.int .i64 dA) := (blk_cell aA.out 3).trans rfl
                 have nG : wc.cell? ⟨bA, 4, none⟩ = some (.int .i64 gA) := (blk_cell aA.out 4).trans rfl
                 have oG : wc.cell? ⟨bA, 5, none⟩ = some (.int .i64 hA) := (blk_cell aA.out 5).trans rfl
                 have pG : wc.cell? ⟨bA, 6, none⟩ = some (.int .i64 iA) := (blk_cell aA.out 6).trans rfl
                 have qG : wc.cell? ⟨bA, 7, none⟩ = some (.int .i64 jA) := (blk_cell aA.out 7).trans rfl
                 have rG := blk_frozen aA.out 0
                 have sG := blk_frozen aA.out 1
                 have tG := blk_frozen aA.out 2
                 have uG := blk_frozen aA.out 3
                 have vG := blk_frozen aA.out 4
                 have wG := blk_frozen aA.out 5
                 have xG := blk_frozen aA.out 6
                 have yG := blk_frozen aA.out 7
                 go_wp2
                 go_ret2
                 exact ⟨_, q3_3, q3_2, q3_0⟩
               ·rw [if_neg c45] at H
                have NF : (dA == 4) = false := beq_eq_false_iff_ne.mpr c45
                have OF : (dA != 4) = true := bne_iff_ne.mpr c45
                simp only [Option.some.injEq, Prod.mk.injEq] at H
                obtain ⟨rfl, rfl⟩ := H
                have zG : wc.cell? ⟨bA, 0, none⟩ = some (.int .i64 fA) := (blk_cell aA.out 0).trans rfl
                have AG : wc.cell? ⟨bA, 1, none⟩ = some (.int .i64 cA) := (blk_cell aA.out 1).trans rfl
                have BG : wc.cell? ⟨bA, 2, none⟩ = some (.int .i64 eA) := (blk_cell aA.out 2).trans rfl
                have CG : wc.cell? ⟨bA, 3, none⟩ = some (.int .i64 dA) := (blk_cell aA.out 3).trans rfl
                have DG : wc.cell? ⟨bA, 4, none⟩ = some (.int .i64 gA) := (blk_cell aA.out 4).trans rfl
                have EG : wc.cell? ⟨bA, 5, none⟩ = some (.int .i64 hA) := (blk_cell aA.out 5).trans rfl
                have FG : wc.cell? ⟨bA, 6, none⟩ = some (.int .i64 iA) := (blk_cell aA.out 6).trans rfl
                have GG : wc.cell? ⟨bA, 7, none⟩ = some (.int .i64 jA) := (blk_cell aA.out 7).trans rfl
                have HG := blk_frozen aA.out 0
                have IG := blk_frozen aA.out 1
                have JG := blk_frozen aA.out 2
                have KG := blk_frozen aA.out 3
                have LG := blk_frozen aA.out 4
                have MG := blk_frozen aA.out 5
                have NG := blk_frozen aA.out 6
                have OG := blk_frozen aA.out 7
                go_wp2
                go_ret2
                exact ⟨_, q3_3, q3_4, q3_0⟩
              ·rw [if_neg c44] at H
               have LF : (cA == 2) = false := beq_eq_false_iff_ne.mpr c44
               have MF : (cA != 2) = true := bne_iff_ne.mpr c44
               by_cases c50 : cA = 3
               ·rw [if_pos c50] at H
                have PF : (cA == 3) = true := beq_iff_eq.mpr c50
                have QF : (cA != 3) = false := bne_eq_false_iff_eq.mpr c50
                clear c50
                by_cases c51 : dA = 4
                ·rw [if_pos c51] at H
                 have RF : (dA == 4) = true := beq_iff_eq.mpr c51
                 have SF : (dA != 4) = false := bne_eq_false_iff_eq.mpr c51
                 clear c51
                 by_cases c52 : sA = true
                 ·subst c52
                  rw [if_pos rfl] at H
                  simp only [Option.some.injEq, Prod.mk.injEq] at H
                  obtain ⟨rfl, rfl⟩ := H
                  have PG : wc.cell? ⟨bA, 0, none⟩ = some (.int .i64 fA) := (blk_cell aA.out 0).trans rfl
                  have QG : wc.cell? ⟨bA, 1, none⟩ = some (.int .i64 cA) := (blk_cell aA.out 1).trans rfl
                  have RG : wc.cell? ⟨bA, 2, none⟩ = some (.int .i64 eA) := (blk_cell aA.out 2).trans rfl
                  have SG : wc.cell? ⟨bA, 3, none⟩ = some (.int .i64 dA) := (blk_cell aA.out 3).trans rfl
                  have TG : wc.cell? ⟨bA, 4, none⟩ = some (.int .i64 gA) := (blk_cell aA.out 4).trans rfl
                  have UG : wc.cell? ⟨bA, 5, none⟩ = some (.int .i64 hA) := (blk_cell aA.out 5).trans rfl
                  have VG : wc.cell? ⟨bA, 6, none⟩ = some (.int .i64 iA) := (blk_cell aA.out 6).trans rfl
                  have WG : wc.cell? ⟨bA, 7, none⟩ = some (.int .i64 jA) := (blk_cell aA.out 7).trans rfl
                  have XG := blk_frozen aA.out 0
                  have YG := blk_frozen aA.out 1
                  have ZG := blk_frozen aA.out 2
                  have aH := blk_frozen aA.out 3
                  have bH := blk_frozen aA.out 4
                  have cH := blk_frozen aA.out 5
                  have dH := blk_frozen aA.out 6
                  have eH := blk_frozen aA.out 7
                  go_wp2
                  go_ret2
                  exact ⟨_, q3_3, q3_4, q3_0⟩
                 ·replace c52 := Bool.eq_false_iff.mpr c52
                  subst c52
                  rw [if_neg (show ¬ (false = true) by decide)] at H
                  simp only [Option.some.injEq, Prod.mk.injEq] at H
                  obtain ⟨rfl, rfl⟩ := H
                  have fH : wc.cell? ⟨bA, 0, none⟩ = some (.int .i64 fA) := (blk_cell aA.out 0).trans rfl
                  have gH : wc.cell? ⟨bA, 1, none⟩ = some (.int .i64 cA) := (blk_cell aA.out 1).trans rfl
                  have hH : wc.cell? ⟨bA, 2, none⟩ = some (.int .i64 eA) := (blk_cell aA.out 2).trans rfl
                  have iH : wc.cell? ⟨bA, 3, none⟩ = some (.int .i64 dA) := (blk_cell aA.out 3).trans rfl
                  have jH : wc.cell? ⟨bA, 4, none⟩ = some (.int .i64 gA) := (blk_cell aA.out 4).trans rfl
                  have kH : wc.cell? ⟨bA, 5, none⟩ = some (.int .i64 hA) := (blk_cell aA.out 5).trans rfl
                  have lH : wc.cell? ⟨bA, 6, none⟩ = some (.int .i64 iA) := (blk_cell aA.out 6).trans rfl
                  have mH : wc.cell? ⟨bA, 7, none⟩ = some (.int .i64 jA) := (blk_cell aA.out 7).trans rfl
                  have nH := blk_frozen aA.out 0
                  have oH := blk_frozen aA.out 1
                  have pH := blk_frozen aA.out 2
                  have qH := blk_frozen aA.out 3
                  have rH := blk_frozen aA.out 4
                  have sH := blk_frozen aA.out 5
                  have tH := blk_frozen aA.out 6
                  have uH := blk_frozen aA.out 7
                  go_wp2
                  go_ret2
                  exact ⟨_, q3_3, q3_2, q3_0⟩
                ·rw [if_neg c51] at H
                 have RF : (dA == 4) = false := beq_eq_false_iff_ne.mpr c51
                 have SF : (dA != 4) = true := bne_iff_ne.mpr c51
                 simp only [Option.some.injEq, Prod.mk.injEq] at H
                 obtain ⟨rfl, rfl⟩ := H
                 have vH : wc.cell? ⟨bA, 0, none⟩ = some (.int .i64 fA) := (blk_cell aA.out 0).trans rfl
                 have wH : wc.cell? ⟨bA, 1, none⟩ = some (.int .i64 cA) := (blk_cell aA.out 1).trans rfl
                 have xH : wc.cell? ⟨bA, 2, none⟩ = some (.int .i64 eA) := (blk_cell aA.out 2).trans rfl
                 have yH : wc.cell? ⟨bA, 3, none⟩ = some (.int .i64 dA) := (blk_cell aA.out 3).trans rfl
                 have zH : wc.cell? ⟨bA, 4, none⟩ = some (.int .i64 gA) := (blk_cell aA.out 4).trans rfl
                 have AH : wc.cell? ⟨bA, 5, none⟩ = some (.int .i64 hA) := (blk_cell aA.out 5).trans rfl
                 have BH : wc.cell? ⟨bA, 6, none⟩ = some (.int .i64 iA) := (blk_cell aA.out 6).trans rfl
                 have CH : wc.cell? ⟨bA, 7, none⟩ = some (.int .i64 jA) := (blk_cell aA.out 7).trans rfl
                 have DH := blk_frozen aA.out 0
                 have EH := blk_frozen aA.out 1
                 have FH := blk_frozen aA.out 2
                 have GH := blk_frozen aA.out 3
                 have HH := blk_frozen aA.out 4
                 have IH := blk_frozen aA.out 5
                 have JH := blk_frozen aA.out 6
                 have KH := blk_frozen aA.out 7
                 go_wp2
                 go_ret2
                 exact ⟨_, q3_3, q3_4, q3_0⟩
               ·rw [if_neg c50] at H
                have PF : (cA == 3) = false := beq_eq_false_iff_ne.mpr c50
                have QF : (cA != 3) = true := bne_iff_ne.mpr c50
                simp only [Option.some.injEq, Prod.mk.injEq] at H
                obtain ⟨rfl, rfl⟩ := H
                have LH : wc.cell? ⟨bA, 0, none⟩ = some (.int .i64 fA) := (blk_cell aA.out 0).trans rfl
                have MH : wc.cell? ⟨bA, 1, none⟩ = some (.int .i64 cA) := (blk_cell aA.out 1).trans rfl
                have NH : wc.cell? ⟨bA, 2, none⟩ = some (.int .i64 eA) := (blk_cell aA.out 2).trans rfl
                have OH : wc.cell? ⟨bA, 3, none⟩ = some (.int .i64 dA) := (blk_cell aA.out 3).trans rfl
                have PH : wc.cell? ⟨bA, 4, none⟩ = some (.int .i64 gA) := (blk_cell aA.out 4).trans rfl
                have QH : wc.cell? ⟨bA, 5, none⟩ = some (.int .i64 hA) := (blk_cell aA.out 5).trans rfl
                have RH : wc.cell? ⟨bA, 6, none⟩ = some (.int .i64 iA) := (blk_cell aA.out 6).trans rfl
                have SH : wc.cell? ⟨bA, 7, none⟩ = some (.int .i64 jA) := (blk_cell aA.out 7).trans rfl
                have TH := blk_frozen aA.out 0
                have UH := blk_frozen aA.out 1
                have VH := blk_frozen aA.out 2
                have WH := blk_frozen aA.out 3
                have XH := blk_frozen aA.out 4
                have YH := blk_frozen aA.out 5
                have ZH := blk_frozen aA.out 6
                have aI := blk_frozen aA.out 7
                go_wp2
                go_ret2
                exact ⟨_, q3_3, q3_4, q3_0⟩
 ·rw [if_neg c4] at H
  exact absurd H (by simp)

end Go.Proofs.Ytjikobdblohphaa.PFnExactLiApply
