-- Written by the session's own patched copy of the printer (wip/patch_print.py).
import Derived.Test.YtjikobdblohphaaPFnExactLiApplyx0
import Derived.Test.YtjikobdblohphaaPFnExactLiApplyx1
import Derived.Test.YtjikobdblohphaaPFnExactLiApplyx3
import Derived.Test.YtjikobdblohphaaPFnExactLiApplyx4
namespace Go.Proofs.Ytjikobdblohphaa.PFnExactLiApply
open Go.RowKit Go.Proofs.YtjikobdblohphaaW.PrintWords Go.Proofs.YtjikobdblohphaaW.PrintLast Go.Proofs.YtjikobdblohphaaW.PrintMore
attribute [local go_sem] max2_int min2_int max_two min_two max_three min_three max_four min_four   -- for this text's walks alone
set_option linter.unusedVariables false
set_option linter.unusedSimpArgs false

theorem q5_p {P : Program} {ops : Array Oper} {Q : Exit → Act → World → Prop} {md : Region.Mode} {S : World → Prop} {ds : List Nat} (i n : Nat) {oi : Oper} {v : Value} {fuel : Nat} {l : Array Bool} {a : Act} {w : World} (l' : Array Bool) {a' : Act} (h : wpAnyLast P md ops Q S ds fuel l' a' w) (hi : ops[i]? = some oi := by rfl) (hN : oi.dst = some n := by rfl) (hc : anyB md ops l l' i = true := by exact any_of HT_.out (by kernel_rfl)) (hQ : ∀ c a w, Q (.panic c) (a.put oi.dst v) w → Q (.panic c) a w := by exact fun _ _ _ h => h) (hy : Yields P ops oi v a := by refine Or.inl ⟨by rfl, ?_⟩; intro w'; go_simp; with_reducible rfl) (ha : a.put (some n) v = a' := by simp only [Act.put, List.setIfInBounds_toArray, List.set_cons_zero, List.set_cons_succ, i64_w, i32_w]; rfl) : wpAnyLast P md ops Q S ds (fuel + 1) l a w := pure_ (N := some n) l' hi hN hc hQ hy ha h
theorem q5_u {P : Program} {ops : Array Oper} {Q : Exit → Act → World → Prop} {md : Region.Mode} {S : World → Prop} {ds : List Nat} (i n : Nat) {oi : Oper} {fuel : Nat} {l : Array Bool} {a : Act} {w : World} (l' : Array Bool) {a' : Act} (h : wpAnyLast P md ops Q S ds fuel l' a' w) (hi : ops[i]? = some oi := by rfl) (hN : oi.dst = some n := by rfl) (hc : anyB md ops l l' i = true := by exact any_of HT_.out (by kernel_rfl)) (hQ : ∀ c a w, Q (.panic c) (a.put oi.dst undef) w → Q (.panic c) a w := by exact fun _ _ _ h => h) (hy : Yields P ops oi undef a := by exact Or.inr ⟨by rfl, rfl⟩) (ha : a.put (some n) undef = a' := by simp only [Act.put, List.setIfInBounds_toArray, List.set_cons_zero, List.set_cons_succ, i64_w, i32_w]; rfl) : wpAnyLast P md ops Q S ds (fuel + 1) l a w := pure_ (N := some n) l' hi hN hc hQ hy ha h
open Bool renaming true → T, false → F
theorem q5_0 {p : Prop} (h : p := by repeat (first | (with_reducible first | exact HB.out | apply below_alloc | apply pw_below_drewN | apply below_drew1 | refine below_set ?_ GB.out) | exact HB.out)) : p := h
theorem q5_1 {p : Prop} (h : p := by (try simp only [List.map_toArray, List.map_cons, List.map_nil]); first | done | rfl | (simp only [List.length_drop, List.length_take]; rfl)) : p := h
theorem q5_2 {p : Prop} (h : p := by (with_reducible repeat (first | refine blk_drewN ?_ _ | refine blk_drew ?_ | refine blk_alloc ?_ _)); exact aA.out) : p := h
theorem q5_3 {p : Prop} (h : p := by (with_reducible repeat (first | apply Kd.R_alloc | apply Kd.R_drewN | apply Kd.R_drew)); exact rA.out) : p := h
theorem q5_4 {p : Prop} (h : p := by (with_reducible repeat (first | apply Kd.R_alloc | apply Kd.R_drewN | apply Kd.R_drew)); exact lA.out) : p := h
theorem q5_5 {p : Prop} (h : p := by (with_reducible repeat (first | apply Kd.R_alloc | apply Kd.R_drewN | apply Kd.R_drew)); exact kA.out) : p := h
theorem q5_6 {p : Prop} (h : p := by repeat (first | (with_reducible first | exact HB.out | apply below_alloc | apply pw_below_drewN | apply below_drew1) | exact HB.out)) : p := h
theorem q5_7 {p : Prop} (h : p := by repeat (first | exact (Kd.C_below HR0.out HB.out) | (with_reducible refine Kd.C_alloc ?_ _) | (with_reducible refine Kd.C_drewN ?_ _) | (with_reducible refine Kd.C_drew ?_))) : p := h
theorem q5_8 {p : Prop} (h : p := by (with_reducible repeat (first | apply Kd.R_alloc | apply Kd.R_drewN | apply Kd.R_drew)); exact xA.out) : p := h
theorem q5_9 {p : Prop} (h : p := by repeat (first | exact (Kd.R_reads' kA.out).2.2 | (with_reducible refine Kd.C_alloc ?_ _) | (with_reducible refine Kd.C_drewN ?_ _) | (with_reducible refine Kd.C_drew ?_))) : p := h
theorem q5_10 {p : Prop} (h : p := by kernel_rfl) : p := h
theorem q5_11 {p : Prop} (h : p := by (with_reducible repeat (first | apply Kd.R_alloc | apply Kd.R_drewN | apply Kd.R_drew)); exact yA.out) : p := h
/-! ### laws_FnExactLiApply: function 9 -/
mutual
def laws_FnExactLiApply.j0 : Nat → List Int → List Int → Bool → List Int → List Int → Bool → Bool → Int → Int → Int → Int → Int → Int → Int → Int → Option (Bool)
 | 0, _, _, _, _, _, _, _, _, _, _, _, _, _, _, _ => none
 | k + 1, x0, x5, x6, x7, x8, x9, x43, zA, AA, BA, CA, DA, EA, FA, GA => if x43 = true then (some false) else ((laws_toIntS.f k x0).bind fun sB => ((laws_eqIntS.f k x7 sB).bind fun OB => (if OB = true then ((laws_markIntS.f k x7 1).bind fun sC => (if sC.1 < 0 then (laws_FnExactLiApply.j1 k x0 x5 x6 x8 true zA AA BA CA DA EA FA GA) else ((laws_eqIntS.f k x8 x5).bind fun PB => (if PB = true then (laws_FnExactLiApply.j1 k x0 x5 x6 x8 (x9 != x6) zA AA BA CA DA EA FA GA) else (laws_FnExactLiApply.j1 k x0 x5 x6 x8 true zA AA BA CA DA EA FA GA))))) else (some false))))
def laws_FnExactLiApply.j1 : Nat → List Int → List Int → Bool → List Int → Bool → Int → Int → Int → Int → Int → Int → Int → Int → Option (Bool)
 | 0, _, _, _, _, _, _, _, _, _, _, _, _, _ => none
 | k + 1, x0, x5, x6, x8, x64, zA, AA, BA, CA, DA, EA, FA, GA => if x64 = true then (some false) else ((laws_markIntS.f k x8 1).bind fun UA => ((laws_heldIntS.f k UA.2 1).bind fun KA => (if KA < 0 then (some false) else (if KA = UA.1 then ((laws_toIntS.f k x0).bind fun yB => ((laws_toFact.f zA AA BA CA DA EA FA GA).bind fun IA => ((impl_LiApply.f yB IA.1 IA.2.1 IA.2.2.1 IA.2.2.2.1 IA.2.2.2.2.1 IA.2.2.2.2.2.1 IA.2.2.2.2.2.2.1 IA.2.2.2.2.2.2.2).bind fun IB => ((laws_eqIntS.f k IB.1 x5).bind fun QB => (if QB = true then (laws_FnExactLiApply.j2 k UA.2 UA.1 (IB.2 != x6)) else (laws_FnExactLiApply.j2 k UA.2 UA.1 true)))))) else (some false)))))
def laws_FnExactLiApply.j2 : Nat → List Int → Int → Bool → Option (Bool)
 | 0, _, _, _ => none
 | k + 1, x8, x11, x92 => if x92 = true then (some false) else ((laws_heldIntS.f k x8 1).bind fun LA => (if LA < 0 then (some false) else (if LA = x11 then (some true) else (some false))))
end
def laws_FnExactLiApply.f (k : Nat) (l0 : List Int) (cA : Int) (dA : Int) (eA : Int) (fA : Int) (gA : Int) (hA : Int) (iA : Int) (jA : Int) : Option (Bool) := if (l0.length : Int) > 1048576 then (some true) else ((laws_toIntS.f k l0).bind fun tB => ((laws_toFact.f cA dA eA fA gA hA iA jA).bind fun mA => ((spec_LiApply.f k tB mA.1 mA.2.1 mA.2.2.1 mA.2.2.2.1 mA.2.2.2.2.1 mA.2.2.2.2.2.1 mA.2.2.2.2.2.2.1 mA.2.2.2.2.2.2.2).bind fun tA => ((laws_toIntS.f k l0).bind fun oA => ((laws_toFact.f cA dA eA fA gA hA iA jA).bind fun nA => ((impl_LiApply.f oA nA.1 nA.2.1 nA.2.2.1 nA.2.2.2.1 nA.2.2.2.2.1 nA.2.2.2.2.2.1 nA.2.2.2.2.2.2.1 nA.2.2.2.2.2.2.2).bind fun uA => ((laws_eqIntS.f k uA.1 tA.1).bind fun zB => (if zB = true then (laws_FnExactLiApply.j0 k l0 tA.1 tA.2 oA uA.1 uA.2 (uA.2 != tA.2) cA dA eA fA gA hA iA jA) else (laws_FnExactLiApply.j0 k l0 tA.1 tA.2 oA uA.1 uA.2 true cA dA eA fA gA hA iA jA)))))))))
theorem laws_FnExactLiApply.mono_l : ∀ k, (∀ y0 y1 y2 y3 y4 y5 y6 y7 y8 y9 y10 y11 y12 y13 y14, LeO (laws_FnExactLiApply.j0 k y0 y1 y2 y3 y4 y5 y6 y7 y8 y9 y10 y11 y12 y13 y14) (laws_FnExactLiApply.j0 (k + 1) y0 y1 y2 y3 y4 y5 y6 y7 y8 y9 y10 y11 y12 y13 y14)) ∧ (∀ y0 y1 y2 y3 y4 y5 y6 y7 y8 y9 y10 y11 y12, LeO (laws_FnExactLiApply.j1 k y0 y1 y2 y3 y4 y5 y6 y7 y8 y9 y10 y11 y12) (laws_FnExactLiApply.j1 (k + 1) y0 y1 y2 y3 y4 y5 y6 y7 y8 y9 y10 y11 y12)) ∧ (∀ y0 y1 y2, LeO (laws_FnExactLiApply.j2 k y0 y1 y2) (laws_FnExactLiApply.j2 (k + 1) y0 y1 y2))
 | 0 => ⟨fun _ _ _ _ _ _ _ _ _ _ _ _ _ _ _ r h => by simp [laws_FnExactLiApply.j0] at h, fun _ _ _ _ _ _ _ _ _ _ _ _ _ r h => by simp [laws_FnExactLiApply.j1] at h, fun _ _ _ r h => by simp [laws_FnExactLiApply.j2] at h⟩
 | k + 1 => by
  obtain ⟨ih0, ih1, ih2⟩ := laws_FnExactLiApply.mono_l k
  refine ⟨?_, ?_, ?_⟩
  ·intro y0 y1 y2 y3 y4 y5 y6 y7 y8 y9 y10 y11 y12 y13 y14
   unfold laws_FnExactLiApply.j0
   repeat' first
   | (with_reducible exact ih0 _ _ _ _ _ _ _ _ _ _ _ _ _ _ _)
   | (with_reducible exact ih1 _ _ _ _ _ _ _ _ _ _ _ _ _)
   | (with_reducible exact ih2 _ _ _)
   | (with_reducible exact laws_eqIntS.mono _ _ _)
   | (with_reducible exact laws_heldIntS.mono _ _ _)
   | (with_reducible exact laws_markIntS.mono _ _ _)
   | (with_reducible exact laws_toIntS.mono _ _)
   | (with_reducible exact spec_LiApply.mono _ _ _ _ _ _ _ _ _ _)
   | (with_reducible exact LeO.refl _)
   | (with_reducible exact LeO.none _)
   | (with_reducible refine LeO.ite ?_ ?_)
   | (with_reducible refine LeO.bind ?_ (fun _ => ?_))
   | exact ih0 _ _ _ _ _ _ _ _ _ _ _ _ _ _ _
   | exact ih1 _ _ _ _ _ _ _ _ _ _ _ _ _
   | exact ih2 _ _ _
   | exact laws_eqIntS.mono _ _ _
   | exact laws_heldIntS.mono _ _ _
   | exact laws_markIntS.mono _ _ _
   | exact laws_toIntS.mono _ _
   | exact spec_LiApply.mono _ _ _ _ _ _ _ _ _ _
   | exact LeO.none _
   | refine LeO.ite ?_ ?_
   | refine LeO.bind ?_ (fun _ => ?_)
  ·intro y0 y1 y2 y3 y4 y5 y6 y7 y8 y9 y10 y11 y12
   unfold laws_FnExactLiApply.j1
   repeat' first
   | (with_reducible exact ih0 _ _ _ _ _ _ _ _ _ _ _ _ _ _ _)
   | (with_reducible exact ih1 _ _ _ _ _ _ _ _ _ _ _ _ _)
   | (with_reducible exact ih2 _ _ _)
   | (with_reducible exact laws_eqIntS.mono _ _ _)
   | (with_reducible exact laws_heldIntS.mono _ _ _)
   | (with_reducible exact laws_markIntS.mono _ _ _)
   | (with_reducible exact laws_toIntS.mono _ _)
   | (with_reducible exact spec_LiApply.mono _ _ _ _ _ _ _ _ _ _)
   | (with_reducible exact LeO.refl _)
   | (with_reducible exact LeO.none _)
   | (with_reducible refine LeO.ite ?_ ?_)
   | (with_reducible refine LeO.bind ?_ (fun _ => ?_))
   | exact ih0 _ _ _ _ _ _ _ _ _ _ _ _ _ _ _
   | exact ih1 _ _ _ _ _ _ _ _ _ _ _ _ _
   | exact ih2 _ _ _
   | exact laws_eqIntS.mono _ _ _
   | exact laws_heldIntS.mono _ _ _
   | exact laws_markIntS.mono _ _ _
   | exact laws_toIntS.mono _ _
   | exact spec_LiApply.mono _ _ _ _ _ _ _ _ _ _
   | exact LeO.none _
   | refine LeO.ite ?_ ?_
   | refine LeO.bind ?_ (fun _ => ?_)
  ·intro y0 y1 y2
   unfold laws_FnExactLiApply.j2
   repeat' first
   | (with_reducible exact ih0 _ _ _ _ _ _ _ _ _ _ _ _ _ _ _)
   | (with_reducible exact ih1 _ _ _ _ _ _ _ _ _ _ _ _ _)
   | (with_reducible exact ih2 _ _ _)
   | (with_reducible exact laws_eqIntS.mono _ _ _)
   | (with_reducible exact laws_heldIntS.mono _ _ _)
   | (with_reducible exact laws_markIntS.mono _ _ _)
   | (with_reducible exact laws_toIntS.mono _ _)
   | (with_reducible exact spec_LiApply.mono _ _ _ _ _ _ _ _ _ _)
   | (with_reducible exact LeO.refl _)
   | (with_reducible exact LeO.none _)
   | (with_reducible refine LeO.ite ?_ ?_)
   | (with_reducible refine LeO.bind ?_ (fun _ => ?_))
   | exact ih0 _ _ _ _ _ _ _ _ _ _ _ _ _ _ _
   | exact ih1 _ _ _ _ _ _ _ _ _ _ _ _ _
   | exact ih2 _ _ _
   | exact laws_eqIntS.mono _ _ _
   | exact laws_heldIntS.mono _ _ _
   | exact laws_markIntS.mono _ _ _
   | exact laws_toIntS.mono _ _
   | exact spec_LiApply.mono _ _ _ _ _ _ _ _ _ _
   | exact LeO.none _
   | refine LeO.ite ?_ ?_
   | refine LeO.bind ?_ (fun _ => ?_)
theorem laws_FnExactLiApply.mono : ∀ a0 a1 a2 a3 a4 a5 a6 a7 a8 k, LeO (laws_FnExactLiApply.f k a0 a1 a2 a3 a4 a5 a6 a7 a8) (laws_FnExactLiApply.f (k + 1) a0 a1 a2 a3 a4 a5 a6 a7 a8) := by
 intro a0 a1 a2 a3 a4 a5 a6 a7 a8 k
 obtain ⟨ih0, ih1, ih2⟩ := laws_FnExactLiApply.mono_l k
 unfold laws_FnExactLiApply.f
 repeat' first
   | (with_reducible exact ih0 _ _ _ _ _ _ _ _ _ _ _ _ _ _ _)
   | (with_reducible exact ih1 _ _ _ _ _ _ _ _ _ _ _ _ _)
   | (with_reducible exact ih2 _ _ _)
   | (with_reducible exact laws_eqIntS.mono _ _ _)
   | (with_reducible exact laws_heldIntS.mono _ _ _)
   | (with_reducible exact laws_markIntS.mono _ _ _)
   | (with_reducible exact laws_toIntS.mono _ _)
   | (with_reducible exact spec_LiApply.mono _ _ _ _ _ _ _ _ _ _)
   | (with_reducible exact LeO.refl _)
   | (with_reducible exact LeO.none _)
   | (with_reducible refine LeO.ite ?_ ?_)
   | (with_reducible refine LeO.bind ?_ (fun _ => ?_))
   | exact ih0 _ _ _ _ _ _ _ _ _ _ _ _ _ _ _
   | exact ih1 _ _ _ _ _ _ _ _ _ _ _ _ _
   | exact ih2 _ _ _
   | exact laws_eqIntS.mono _ _ _
   | exact laws_heldIntS.mono _ _ _
   | exact laws_markIntS.mono _ _ _
   | exact laws_toIntS.mono _ _
   | exact spec_LiApply.mono _ _ _ _ _ _ _ _ _ _
   | exact LeO.none _
   | refine LeO.ite ?_ ?_
   | refine LeO.bind ?_ (fun _ => ?_)
def laws_FnExactLiApply.T3 : Bool × List (List Nat × List Nat) := (true, [([], []), ([0], [0]), ([], []), ([2, 1], [2]), ([1, 3, 3], [1, 3]), ([4], [4]), ([5], [5]), ([5], [5]), ([6, 4, 0, 1, 2, 3, 4, 5, 6], [6]), ([7, 8, 0, 1, 2, 3, 4, 5, 6, 7, 8], [7])])
def laws_FnExactLiApply.B3 : List Nat := [0, 1, 0, 7, 15, 31, 63, 63, 127, 511]
theorem laws_FnExactLiApply.tab3 : rtab .any (opsOf Try.f9 3) = laws_FnExactLiApply.T3 := by kernel_rfl
theorem laws_FnExactLiApply.bits3 : waitsOk laws_FnExactLiApply.T3.2 laws_FnExactLiApply.B3 = true := by kernel_rfl
def laws_FnExactLiApply.T22 : Bool × List (List Nat × List Nat) := (true, [([], []), ([0], [0]), ([], []), ([2, 1], [2]), ([1, 3, 3], [1, 3]), ([4], [4]), ([5], [5]), ([5], [5]), ([6, 4, 0, 1, 2, 3, 4, 5, 6], [6]), ([7, 8, 0, 1, 2, 3, 4, 5, 6, 7, 8], [7])])
def laws_FnExactLiApply.B22 : List Nat := [0, 1, 0, 7, 15, 31, 63, 63, 127, 511]
theorem laws_FnExactLiApply.tab22 : rtab .any (opsOf Try.f9 22) = laws_FnExactLiApply.T22 := by kernel_rfl
theorem laws_FnExactLiApply.bits22 : waitsOk laws_FnExactLiApply.T22.2 laws_FnExactLiApply.B22 = true := by kernel_rfl
set_option maxHeartbeats 8000000 in
set_option maxRecDepth 100000 in
theorem laws_FnExactLiApply.calls (k : Nat) (A0 : Option Addr) (c0 : Nat) (l0 : List Int) (cA : Int) (dA : Int) (eA : Int) (fA : Int) (gA : Int) (hA : Int) (iA : Int) (jA : Int) (r_ : Bool) (w : World) (hr0 : Kd.C (Kd.int .i64) w A0 l0.length l0) (hc0 : l0.length ≤ c0) (h : laws_FnExactLiApply.f k l0 cA dA eA fA gA hA iA jA = some true) :
  Calls Try.prog 9 #[.slice A0 l0.length c0, .agg #[.int .i64 cA, .int .i64 dA, .int .i64 eA, .int .i64 fA, .int .i64 gA, .int .i64 hA, .int .i64 iA, .int .i64 jA]] w fun e w' => e = .returned (.bool true) ∧ Below w.heap.size w w' := by
 have hu54 := Try.underlying54
 have HR0 := Aside0.mk hr0
 have HC0 := Aside0.mk hc0
 clear hr0 hc0
 have HB := Aside0.mk (Below.refl w.heap.size w)
 have H : (if (l0.length : Int) > 1048576 then (some true) else ((laws_toIntS.f k l0).bind fun tB => ((laws_toFact.f cA dA eA fA gA hA iA jA).bind fun mA => ((spec_LiApply.f k tB mA.1 mA.2.1 mA.2.2.1 mA.2.2.2.1 mA.2.2.2.2.1 mA.2.2.2.2.2.1 mA.2.2.2.2.2.2.1 mA.2.2.2.2.2.2.2).bind fun tA => ((laws_toIntS.f k l0).bind fun oA => ((laws_toFact.f cA dA eA fA gA hA iA jA).bind fun nA => ((impl_LiApply.f oA nA.1 nA.2.1 nA.2.2.1 nA.2.2.2.1 nA.2.2.2.2.1 nA.2.2.2.2.2.1 nA.2.2.2.2.2.2.1 nA.2.2.2.2.2.2.2).bind fun uA => ((laws_eqIntS.f k uA.1 tA.1).bind fun zB => (if zB = true then (laws_FnExactLiApply.j0 k l0 tA.1 tA.2 oA uA.1 uA.2 (uA.2 != tA.2) cA dA eA fA gA hA iA jA) else (laws_FnExactLiApply.j0 k l0 tA.1 tA.2 oA uA.1 uA.2 true cA dA eA fA gA hA iA jA)))))))))) = some true := h
 clear h
 by_cases c3 : (l0.length : Int) > 1048576
 ·rw [if_pos c3] at H
  have CB : decide (1048576 < (l0.length : Int)) = true := decide_eq_true c3
  have DB : decide (1048576 < l0.length) = true := decide_eq_true (by omega)
  clear c3 H
  (try clear H)
  go_enter Try.func9, Try.ntmps9
  go_wp2_with (first | ((with_reducible refine gate_dst (N := 3) rfl ?_); refine box_event ?hg (N := 3) ?hd (cs := #[.int .i64 cA, .int .i64 dA, .int .i64 eA, .int .i64 fA, .int .i64 gA, .int .i64 hA, .int .i64 iA, .int .i64 jA]) (t := 54) ?hr ?_; (case hd => rfl); (case hg => rfl); (case hr => first | (go_simp; done) | (go_simp; rfl)); intro bA hg w4 hbox hb; have pA := Aside0.mk (below_step q5_6 hb); have qA := Aside0.mk (hbox); have sA := Aside0.mk ((by rw [hg]; exact (below_size q5_6) : w.heap.size ≤ bA)); have vA := Aside0.mk ((by rw [hg]; exact (below_size q5_6) : w.heap.size ≤ bA)); clear HB; have HB := pA; have aA := qA; have tC := sA; have GB := vA; clear pA qA sA vA; clear hb hbox hg))
  go_ret
  exact ⟨by first | rfl | (simp [errW_none, errW_some] <;> rfl) | (simp [*, errW_none, errW_some] <;> rfl), q5_0⟩
 ·rw [if_neg c3] at H
  have CB : decide (1048576 < (l0.length : Int)) = false := decide_eq_false c3
  have DB : decide (1048576 < l0.length) = false := decide_eq_false (by omega)
  clear c3
  replace H := Option.bind_eq_some_iff.mp H
  obtain ⟨tB, A50, H⟩ := H
  (try dsimp only at H)
  have A5 := Aside0.mk A50
  clear A50
  replace H := Option.bind_eq_some_iff.mp H
  obtain ⟨⟨RB, SB, TB, UB, VB, WB, XB, YB⟩, A60, H⟩ := H
  (try dsimp only at H)
  have A6 := Aside0.mk A60
  clear A60
  replace H := Option.bind_eq_some_iff.mp H
  obtain ⟨⟨NA, xB⟩, A70, H⟩ := H
  (try dsimp only at H)
  have A7 := Aside0.mk A70
  clear A70
  replace H := Option.bind_eq_some_iff.mp H
  obtain ⟨oA, A80, H⟩ := H
  (try dsimp only at H)
  have A8 := Aside0.mk A80
  clear A80
  replace H := Option.bind_eq_some_iff.mp H
  obtain ⟨⟨ZB, aC, bC, cC, dC, eC, fC, gC⟩, A90, H⟩ := H
  (try dsimp only at H)
  have A9 := Aside0.mk A90
  clear A90
  replace H := Option.bind_eq_some_iff.mp H
  obtain ⟨⟨wA, EB⟩, A100, H⟩ := H
  (try dsimp only at H)
  have A10 := Aside0.mk A100
  clear A100
  have HC11 := Aside0.mk H
  clear H
  go_enter Try.func9, Try.ntmps9
  try go_wp2_with (first | ((with_reducible refine gate_dst (N := 3) rfl ?_); refine box_event ?hg (N := 3) ?hd (cs := #[.int .i64 cA, .int .i64 dA, .int .i64 eA, .int .i64 fA, .int .i64 gA, .int .i64 hA, .int .i64 iA, .int .i64 jA]) (t := 54) ?hr ?_; (case hd => rfl); (case hg => rfl); (case hr => first | (go_simp; done) | (go_simp; rfl)); intro bA hg WC hbox hb; have pA := Aside0.mk (below_step q5_6 hb); have qA := Aside0.mk (hbox); have sA := Aside0.mk ((by rw [hg]; exact (below_size q5_6) : w.heap.size ≤ bA)); have vA := Aside0.mk ((by rw [hg]; exact (below_size q5_6) : w.heap.size ≤ bA)); clear HB; have HB := pA; have aA := qA; have tC := sA; have GB := vA; clear pA qA sA vA; clear hb hbox hg))
  have pA := Aside0.mk (blk_drew aA.out)
  have qA := Aside0.mk (below_drew1 HB.out)
  clear aA HB
  have aA := pA
  have HB := qA
  clear pA qA
  refine start_ (n := 10) (S := fun w' => w'.cell? ⟨bA, 0, none⟩ = some (.int .i64 cA) ∧ w'.cell? ⟨bA, 1, none⟩ = some (.int .i64 dA) ∧ w'.cell? ⟨bA, 2, none⟩ = some (.int .i64 eA) ∧ w'.cell? ⟨bA, 3, none⟩ = some (.int .i64 fA) ∧ w'.cell? ⟨bA, 4, none⟩ = some (.int .i64 gA) ∧ w'.cell? ⟨bA, 5, none⟩ = some (.int .i64 hA) ∧ w'.cell? ⟨bA, 6, none⟩ = some (.int .i64 iA) ∧ w'.cell? ⟨bA, 7, none⟩ = some (.int .i64 jA)) (ds := []) #[F,F,F,F,F,F,F,F,F,F] q5_10 rfl rfl ⟨(blk_cell aA.out 0).trans rfl, (blk_cell aA.out 1).trans rfl, (blk_cell aA.out 2).trans rfl, (blk_cell aA.out 3).trans rfl, (blk_cell aA.out 4).trans rfl, (blk_cell aA.out 5).trans rfl, (blk_cell aA.out 6).trans rfl, (blk_cell aA.out 7).trans rfl⟩ (fun hHeld => ?_); refine with_tabW laws_FnExactLiApply.tab3 laws_FnExactLiApply.bits3 (fun HT_ HW_ => ?_)
  generalize WC.drew = gD at aA HB hHeld ⊢
  refine q5_p 0 19 #[T,F,F,F,F,F,F,F,F,F] ?_
  refine take_ (i := 2) (N := some 21) (v := ?_) (a' := ?_) #[T,F,T,F,F,F,F,F,F,F] rfl rfl (take_ofW HT_.out HW_.out q5_10) (fun _ _ _ h => h) (Or.inl ⟨by rfl, ?_⟩) hHeld ?_ ?_
  rotate_left
  ·rintro w' ⟨s0, s1, s2, s3, s4, s5, s6, s7⟩
   go_simp
   with_reducible rfl
  rotate_left
  ·simp only [Act.put, List.setIfInBounds_toArray, List.set_cons_zero, List.set_cons_succ, i64_w, i32_w]
   rfl
  refine one_ (i := 1) (N := some 20) #[T,T,T,F,F,F,F,F,F,F] rfl rfl (one_of HT_.out q5_10) (by decide) (fun K hK => ?_)
  refine goes_ Try.func33 q5_10 rfl #[.slice A0 l0.length c0] (by rfl) rfl rfl q5_1 ?_
  with_reducible refine (laws_toIntS.calls k _ _ l0 tB _ ?side1 ?side2 A5.out).mono ?_
  (case side1 => exact q5_7)
  (case side2 => exact HC0.out)
  rintro e hD ⟨XC, rfl, ho0, hb⟩
  refine ⟨_, rfl, ?_⟩
  have pA := Aside0.mk (Kd.R_lower ho0 (below_size q5_0))
  have qA := Aside0.mk (blk_below (g := bA) (o := .cells #[.int .i64 cA, .int .i64 dA, .int .i64 eA, .int .i64 fA, .int .i64 gA, .int .i64 hA, .int .i64 iA, .int .i64 jA] 54 (0, 0)) q5_2 hb)
  have sA := Aside0.mk (below_step q5_0 hb)
  clear aA HB
  have rA := pA
  have aA := qA
  have HB := sA
  clear pA qA sA
  (try clear hb)
  (try clear hb2)
  (try clear hk)
  (try clear hi)
  (try clear ho0)
  refine hK.out _ _ ⟨(blk_cell aA.out 0).trans rfl, (blk_cell aA.out 1).trans rfl, (blk_cell aA.out 2).trans rfl, (blk_cell aA.out 3).trans rfl, (blk_cell aA.out 4).trans rfl, (blk_cell aA.out 5).trans rfl, (blk_cell aA.out 6).trans rfl, (blk_cell aA.out 7).trans rfl⟩ (fun hHeld => ?_)
  clear hK K
  refine norm_ (a' := ?_) ?_ ?_
  rotate_left
  ·show Act.put _ (some 20) _ = _
   simp only [Act.put, List.setIfInBounds_toArray, List.set_cons_zero, List.set_cons_succ, i64_w, i32_w]
   rfl
  refine one_ (i := 3) (N := some 22) #[T,T,T,T,F,F,F,F,F,F] rfl rfl (one_of HT_.out q5_10) (by decide) (fun K hK => ?_)
  refine goes_ Try.func34 q5_10 rfl #[.agg #[.int .i64 cA, .int .i64 dA, .int .i64 eA, .int .i64 fA, .int .i64 gA, .int .i64 hA, .int .i64 iA, .int .i64 jA]] (by rfl) rfl rfl q5_1 ?_
  with_reducible refine (laws_toFact.calls cA dA eA fA gA hA iA jA RB SB TB UB VB WB XB YB _ A6.out).mono ?_
  rintro e iD ⟨rfl, hb⟩
  refine ⟨_, rfl, ?_⟩
  have pA := Aside0.mk (Kd.R_below q5_3 hb)
  have qA := Aside0.mk (blk_below (g := bA) (o := .cells #[.int .i64 cA, .int .i64 dA, .int .i64 eA, .int .i64 fA, .int .i64 gA, .int .i64 hA, .int .i64 iA, .int .i64 jA] 54 (0, 0)) q5_2 hb)
  have sA := Aside0.mk (below_step q5_0 hb)
  clear rA aA HB
  have rA := pA
  have aA := qA
  have HB := sA
  clear pA qA sA
  (try clear hb)
  (try clear hb2)
  (try clear hk)
  (try clear hi)
  obtain ⟨AC, BC, uC⟩ := Kd.R_slice rA.out
  (first | subst uC | (injection uC with f1_ f2_ f3_; have f4_ := f1_.symm; have f5_ := f3_.symm; clear f1_ f2_ f3_; subst f4_; subst f5_))
  refine hK.out _ _ ⟨(blk_cell aA.out 0).trans rfl, (blk_cell aA.out 1).trans rfl, (blk_cell aA.out 2).trans rfl, (blk_cell aA.out 3).trans rfl, (blk_cell aA.out 4).trans rfl, (blk_cell aA.out 5).trans rfl, (blk_cell aA.out 6).trans rfl, (blk_cell aA.out 7).trans rfl⟩ (fun hHeld => ?_)
  clear hK K
  refine norm_ (a' := ?_) ?_ ?_
  rotate_left
  ·show Act.put _ (some 22) _ = _
   simp only [Act.put, List.setIfInBounds_toArray, List.set_cons_zero, List.set_cons_succ, i64_w, i32_w]
   rfl
  refine one_ (i := 4) (N := some 23) #[T,T,T,T,T,F,F,F,F,F] rfl rfl (one_of HT_.out q5_10) (by decide) (fun K hK => ?_)
  refine goes_ Try.func36 q5_10 rfl #[.slice AC tB.length BC, .agg #[.int .i64 RB, .int .i64 SB, .int .i64 TB, .int .i64 UB, .int .i64 VB, .int .i64 WB, .int .i64 XB, .int .i64 YB]] (by rfl) rfl rfl q5_1 ?_
  with_reducible refine (spec_LiApply.calls k _ _ tB RB SB TB UB VB WB XB YB NA xB _ ?side1 ?side2 A7.out).mono ?_
  (case side1 => repeat (first | exact (Kd.R_reads' rA.out).2.2 | (with_reducible refine Kd.C_alloc ?_ _) | (with_reducible refine Kd.C_drewN ?_ _) | (with_reducible refine Kd.C_drew ?_)))
  (case side2 => exact (Kd.R_reads' rA.out).2.1)
  rintro e jD ⟨WA, rfl, ho0, hb⟩
  refine ⟨_, rfl, ?_⟩
  have pA := Aside0.mk (Kd.R_elder' q5_3 (Kd.R_base ho0) hb)
  have qA := Aside0.mk (Kd.R_lower (Kd.R_new' ho0 (Kd.R_lt q5_3)) (below_size q5_0))
  have sA := Aside0.mk (blk_below (g := bA) (o := .cells #[.int .i64 cA, .int .i64 dA, .int .i64 eA, .int .i64 fA, .int .i64 gA, .int .i64 hA, .int .i64 iA, .int .i64 jA] 54 (0, 0)) q5_2 hb)
  have vA := Aside0.mk (below_step q5_0 hb)
  clear rA aA HB
  have rA := pA
  have xA := qA
  have aA := sA
  have HB := vA
  clear pA qA sA vA
  (try clear hb)
  (try clear hb2)
  (try clear hk)
  (try clear hi)
  (try clear ho0)
  refine hK.out _ _ ⟨(blk_cell aA.out 0).trans rfl, (blk_cell aA.out 1).trans rfl, (blk_cell aA.out 2).trans rfl, (blk_cell aA.out 3).trans rfl, (blk_cell aA.out 4).trans rfl, (blk_cell aA.out 5).trans rfl, (blk_cell aA.out 6).trans rfl, (blk_cell aA.out 7).trans rfl⟩ (fun hHeld => ?_)
  clear hK K
  refine norm_ (a' := ?_) ?_ ?_
  rotate_left
  ·show Act.put _ (some 23) _ = _
   simp only [Act.put, List.setIfInBounds_toArray, List.set_cons_zero, List.set_cons_succ, i64_w, i32_w]
   rfl
  refine q5_p 5 18 #[T,T,T,T,T,T,F,F,F,F] ?_
  refine q5_p 6 24 #[T,T,T,T,T,T,T,F,F,F] ?_
  refine q5_p 7 25 #[T,T,T,T,T,T,T,T,F,F] ?_
  refine q5_p 8 5 #[T,T,T,T,T,T,T,T,T,F] ?_
  refine q5_p 9 6 #[T,T,T,T,T,T,T,T,T,T] ?_
  refine done_ (done_of HT_.out q5_10) ?_
  go_upto_region 6 with (first | ((with_reducible refine gate_callee (f := 33) rfl ?_); refine goesL_ (some 27) rfl rfl Try.func33 q5_10 rfl #[.slice A0 l0.length c0] rfl q5_1 ?_; (with_reducible refine (laws_toIntS.calls k _ _ l0 oA _ ?side1 ?side2 A8.out).mono ?_); (case side1 => exact q5_7); (case side2 => exact HC0.out); rintro e JB ⟨YC, rfl, ho0, hb⟩; refine ⟨_, rfl, ?_⟩; have pA := Aside0.mk (Kd.R_elder' q5_3 (Kd.R_base ho0) hb); have qA := Aside0.mk (Kd.R_elder' q5_8 (Kd.R_base ho0) hb); have sA := Aside0.mk (Kd.R_lower (Kd.R_new' (Kd.R_new' ho0 (Kd.R_lt q5_3)) (Kd.R_lt q5_8)) (below_size q5_0)); have vA := Aside0.mk (blk_below (g := bA) (o := .cells #[.int .i64 cA, .int .i64 dA, .int .i64 eA, .int .i64 fA, .int .i64 gA, .int .i64 hA, .int .i64 iA, .int .i64 jA] 54 (0, 0)) q5_2 hb); have OA := Aside0.mk (below_step q5_0 hb); clear rA xA aA HB; have rA := pA; have xA := qA; have yA := sA; have aA := vA; have HB := OA; clear pA qA sA vA OA; (try clear hb); (try clear hb2); (try clear hk); (try clear hi); (try clear ho0); have XA : JB.cell? ⟨bA, 0, none⟩ = some (.int .i64 cA) := (blk_cell aA.out 0).trans rfl; have YA : JB.cell? ⟨bA, 1, none⟩ = some (.int .i64 dA) := (blk_cell aA.out 1).trans rfl; have ZA : JB.cell? ⟨bA, 2, none⟩ = some (.int .i64 eA) := (blk_cell aA.out 2).trans rfl; have aB : JB.cell? ⟨bA, 3, none⟩ = some (.int .i64 fA) := (blk_cell aA.out 3).trans rfl; have bB : JB.cell? ⟨bA, 4, none⟩ = some (.int .i64 gA) := (blk_cell aA.out 4).trans rfl; have cB : JB.cell? ⟨bA, 5, none⟩ = some (.int .i64 hA) := (blk_cell aA.out 5).trans rfl; have dB : JB.cell? ⟨bA, 6, none⟩ = some (.int .i64 iA) := (blk_cell aA.out 6).trans rfl; have eB : JB.cell? ⟨bA, 7, none⟩ = some (.int .i64 jA) := (blk_cell aA.out 7).trans rfl; have fB := blk_frozen aA.out 0; have gB := blk_frozen aA.out 1; have hB := blk_frozen aA.out 2; have iB := blk_frozen aA.out 3; have jB := blk_frozen aA.out 4; have kB := blk_frozen aA.out 5; have lB := blk_frozen aA.out 6; have mB := blk_frozen aA.out 7) | ((with_reducible refine gate_callee (f := 34) rfl ?_); refine goesL_ (some 31) rfl rfl Try.func34 q5_10 rfl #[.agg #[.int .i64 cA, .int .i64 dA, .int .i64 eA, .int .i64 fA, .int .i64 gA, .int .i64 hA, .int .i64 iA, .int .i64 jA]] rfl q5_1 ?_; (with_reducible refine (laws_toFact.calls cA dA eA fA gA hA iA jA ZB aC bC cC dC eC fC gC _ A9.out).mono ?_); rintro e kD ⟨rfl, hb⟩; refine ⟨_, rfl, ?_⟩; have pA := Aside0.mk (Kd.R_below q5_3 hb); have qA := Aside0.mk (Kd.R_below q5_8 hb); have sA := Aside0.mk (Kd.R_below q5_11 hb); have vA := Aside0.mk (blk_below (g := bA) (o := .cells #[.int .i64 cA, .int .i64 dA, .int .i64 eA, .int .i64 fA, .int .i64 gA, .int .i64 hA, .int .i64 iA, .int .i64 jA] 54 (0, 0)) q5_2 hb); have OA := Aside0.mk (below_step q5_0 hb); clear rA xA yA aA HB; have rA := pA; have xA := qA; have yA := sA; have aA := vA; have HB := OA; clear pA qA sA vA OA; (try clear hb); (try clear hb2); (try clear hk); (try clear hi); obtain ⟨PA, QA, CC⟩ := Kd.R_slice yA.out; subst CC) | ((with_reducible refine gate_callee (f := 37) rfl ?_); refine goesL_ (some 32) rfl rfl Try.func37 q5_10 rfl #[.slice PA oA.length QA, .agg #[.int .i64 ZB, .int .i64 aC, .int .i64 bC, .int .i64 cC, .int .i64 dC, .int .i64 eC, .int .i64 fC, .int .i64 gC]] rfl q5_1 ?_; (with_reducible refine (impl_LiApply.calls _ _ oA ZB aC bC cC dC eC fC gC wA EB _ ?side1 ?side2 A10.out).mono ?_); (case side1 => repeat (first | exact (Kd.R_reads' yA.out).2.2 | (with_reducible refine Kd.C_alloc ?_ _) | (with_reducible refine Kd.C_drewN ?_ _) | (with_reducible refine Kd.C_drew ?_))); (case side2 => exact (Kd.R_reads' yA.out).2.1); rintro e lD ⟨uB, rfl, ho0, hb⟩; refine ⟨_, rfl, ?_⟩; have pA := Aside0.mk (Kd.R_elder' q5_3 (Kd.R_base ho0) hb); have qA := Aside0.mk (Kd.R_elder' q5_8 (Kd.R_base ho0) hb); have sA := Aside0.mk (Kd.R_elder' q5_11 (Kd.R_base ho0) hb); have vA := Aside0.mk (Kd.R_lower (Kd.R_new' (Kd.R_new' (Kd.R_new' ho0 (Kd.R_lt q5_3)) (Kd.R_lt q5_8)) (Kd.R_lt q5_11)) (below_size q5_0)); have OA := Aside0.mk (blk_below (g := bA) (o := .cells #[.int .i64 cA, .int .i64 dA, .int .i64 eA, .int .i64 fA, .int .i64 gA, .int .i64 hA, .int .i64 iA, .int .i64 jA] 54 (0, 0)) q5_2 hb); have AB := Aside0.mk (below_step q5_0 hb); clear rA xA yA aA HB; have rA := pA; have xA := qA; have yA := sA; have wB := vA; have aA := OA; have HB := AB; clear pA qA sA vA OA AB; (try clear hb); (try clear hb2); (try clear hk); (try clear hi); (try clear ho0)))
  (try simp only [Act.put, List.setIfInBounds_toArray, List.set_cons_zero, List.set_cons_succ])
  go_cut [43] (fun v43 wc => ∃ (kq : Nat) (nB : Bool), v43 = .bool nB ∧ Aside0 (laws_FnExactLiApply.j0 kq l0 NA xB oA wA EB nB cA dA eA fA gA hA iA jA = some true) ∧ Aside0 (kq ≤ k) ∧ Aside0 (Kd.R (Kd.int .i64) 3 wc w.heap.size (fun k_ => some k_ ≠ ((.slice PA oA.length QA) : Value).ownBlock ∧ some k_ ≠ (uB : Value).ownBlock) WA NA) ∧ Aside0 (Kd.R (Kd.int .i64) 3 wc w.heap.size (fun k_ => some k_ ≠ (WA : Value).ownBlock ∧ some k_ ≠ (uB : Value).ownBlock) (.slice PA oA.length QA) oA) ∧ Aside0 (Kd.R (Kd.int .i64) 3 wc w.heap.size (fun k_ => some k_ ≠ (WA : Value).ownBlock ∧ some k_ ≠ ((.slice PA oA.length QA) : Value).ownBlock) uB wA) ∧ Aside0 (wc.heap[bA]? = some (.cells #[.int .i64 cA, .int .i64 dA, .int .i64 eA, .int .i64 fA, .int .i64 gA, .int .i64 hA, .int .i64 iA, .int .i64 jA] 54 (0, 0))) ∧ Aside0 (Below w.heap.size w wc))
  case first =>
   have H := HC11.out
   clear HC11
   replace H := Option.bind_eq_some_iff.mp H
   obtain ⟨zB, A230, H⟩ := H
   (try dsimp only at H)
   have A23 := Aside0.mk A230
   clear A230
   by_cases c24 : zB = true
   ·subst c24
    rw [if_pos rfl] at H
    have H' := Aside0.mk H
    clear H
    obtain ⟨DC, EC, FC⟩ := Kd.R_slice wB.out
    subst FC
    obtain ⟨GC, HC, IC⟩ := Kd.R_slice xA.out
    subst IC
    go_wp2_with (first | ((with_reducible refine gate_callee (f := 29) rfl ?_); refine goesL_ (some 37) rfl rfl Try.func29 q5_10 rfl #[.slice DC wA.length EC, .slice GC NA.length HC] rfl q5_1 ?_; (with_reducible refine (laws_eqIntS.calls k _ _ wA _ _ NA true _ ?side1 ?side2 ?side3 ?side4 A23.out).mono ?_); (case side1 => repeat (first | exact (Kd.R_reads' wB.out).2.2 | (with_reducible refine Kd.C_alloc ?_ _) | (with_reducible refine Kd.C_drewN ?_ _) | (with_reducible refine Kd.C_drew ?_))); (case side2 => exact (Kd.R_reads' wB.out).2.1); (case side3 => repeat (first | exact (Kd.R_reads' xA.out).2.2 | (with_reducible refine Kd.C_alloc ?_ _) | (with_reducible refine Kd.C_drewN ?_ _) | (with_reducible refine Kd.C_drew ?_))); (case side4 => exact (Kd.R_reads' xA.out).2.1); rintro e w' ⟨rfl, ⟨nd, rfl⟩⟩; refine ⟨_, rfl, ?_⟩))
    go_meet
    case rel => exact ⟨_, ((EB != xB)), (by first | rfl | (simp; done) | (simp [*]; done)), H', ⟨by first | omega | exact Nat.le_refl _⟩, ⟨by (with_reducible repeat (first | apply Kd.R_alloc | apply Kd.R_drewN | apply Kd.R_drew)); exact Kd.R_mono xA.out (fun _ hk => ⟨hk.1.2, hk.2⟩)⟩, ⟨by (with_reducible repeat (first | apply Kd.R_alloc | apply Kd.R_drewN | apply Kd.R_drew)); exact Kd.R_mono yA.out (fun _ hk => ⟨hk.1.2, hk.2⟩)⟩, ⟨by (with_reducible repeat (first | apply Kd.R_alloc | apply Kd.R_drewN | apply Kd.R_drew)); exact Kd.R_mono wB.out (fun _ hk => ⟨hk.1.2, hk.2⟩)⟩, ⟨q5_2⟩, ⟨q5_0⟩⟩
   ·replace c24 := Bool.eq_false_iff.mpr c24
    subst c24
    rw [if_neg (show ¬ (false = true) by decide)] at H
    exact absurd H (by rcases k with _ | _ <;> simp [laws_FnExactLiApply.j0])
  case rest =>
   clear HC11
   (try clear c2); (try clear p2); (try clear c3); (try clear CB); (try clear DB); (try clear c9); (try clear c24); (try clear XA); (try clear YA); (try clear ZA); (try clear aB); (try clear bB); (try clear cB); (try clear dB); (try clear eB); (try clear fB); (try clear gB); (try clear hB); (try clear iB); (try clear jB); (try clear kB); (try clear lB); (try clear mB)
   obtain ⟨kq, nB, rfl, HA, HJ10, lA, RA, kA, aA, HB⟩ := hcut
   cases kq with
   | zero => exact absurd HA.out (by simp [laws_FnExactLiApply.j0])
   | succ kj10 =>
    have H := HA.out
    clear HA
    simp only [laws_FnExactLiApply.j0] at H
    by_cases c27 : nB = true
    ·subst c27
     rw [if_pos rfl] at H
     exact absurd H (by simp)
    ·replace c27 := Bool.eq_false_iff.mpr c27
     subst c27
     rw [if_neg (show ¬ (false = true) by decide)] at H
     replace H := Option.bind_eq_some_iff.mp H
     obtain ⟨sB, A280, H⟩ := H
     (try dsimp only at H)
     have A28 := Aside0.mk A280
     clear A280
     replace H := Option.bind_eq_some_iff.mp H
     obtain ⟨OB, A290, H⟩ := H
     (try dsimp only at H)
     have A29 := Aside0.mk A290
     clear A290
     by_cases c30 : OB = true
     ·subst c30
      rw [if_pos rfl] at H
      replace H := Option.bind_eq_some_iff.mp H
      obtain ⟨⟨FB, JC⟩, A310, H⟩ := H
      (try dsimp only at H)
      have A31 := Aside0.mk A310
      clear A310
      have HC32 := Aside0.mk H
      clear H
      go_upto_region 12 with (first | ((with_reducible refine gate_callee (f := 33) rfl ?_); refine goesL_ (some 46) rfl rfl Try.func33 q5_10 rfl #[.slice A0 l0.length c0] rfl q5_1 ?_; (with_reducible refine (laws_toIntS.calls kj10 _ _ l0 sB _ ?side1 ?side2 A28.out).mono ?_); (case side1 => exact q5_7); (case side2 => exact HC0.out); rintro e mD ⟨ZC, rfl, ho0, hb⟩; refine ⟨_, rfl, ?_⟩; have pA := Aside0.mk (Kd.R_elder' q5_4 (Kd.R_base ho0) hb); have qA := Aside0.mk (Kd.R_elder' (by (with_reducible repeat (first | apply Kd.R_alloc | apply Kd.R_drewN | apply Kd.R_drew)); exact RA.out) (Kd.R_base ho0) hb); have sA := Aside0.mk (Kd.R_elder' q5_5 (Kd.R_base ho0) hb); have vA := Aside0.mk (Kd.R_lower (Kd.R_new' (Kd.R_new' (Kd.R_new' ho0 (Kd.R_lt q5_4)) (Kd.R_lt (by (with_reducible repeat (first | apply Kd.R_alloc | apply Kd.R_drewN | apply Kd.R_drew)); exact RA.out))) (Kd.R_lt q5_5)) (below_size q5_0)); have OA := Aside0.mk (blk_below (g := bA) (o := .cells #[.int .i64 cA, .int .i64 dA, .int .i64 eA, .int .i64 fA, .int .i64 gA, .int .i64 hA, .int .i64 iA, .int .i64 jA] 54 (0, 0)) q5_2 hb); have AB := Aside0.mk (below_step q5_0 hb); clear lA RA kA aA HB; have lA := pA; have RA := qA; have kA := sA; have VA := vA; have aA := OA; have HB := AB; clear pA qA sA vA OA AB; (try clear hb); (try clear hb2); (try clear hk); (try clear hi); (try clear ho0); obtain ⟨hC, iC, KC⟩ := Kd.R_slice VA.out; subst KC) | ((with_reducible refine gate_callee (f := 29) rfl ?_); refine goesL_ (some 47) rfl rfl Try.func29 q5_10 rfl #[.slice PA oA.length QA, .slice hC sB.length iC] rfl q5_1 ?_; (with_reducible refine (laws_eqIntS.calls kj10 _ _ oA _ _ sB true _ ?side1 ?side2 ?side3 ?side4 A29.out).mono ?_); (case side1 => repeat (first | exact (Kd.R_reads' RA.out).2.2 | (with_reducible refine Kd.C_alloc ?_ _) | (with_reducible refine Kd.C_drewN ?_ _) | (with_reducible refine Kd.C_drew ?_))); (case side2 => exact (Kd.R_reads' RA.out).2.1); (case side3 => repeat (first | exact (Kd.R_reads' VA.out).2.2 | (with_reducible refine Kd.C_alloc ?_ _) | (with_reducible refine Kd.C_drewN ?_ _) | (with_reducible refine Kd.C_drew ?_))); (case side4 => exact (Kd.R_reads' VA.out).2.1); rintro e w' ⟨rfl, ⟨nd, rfl⟩⟩; refine ⟨_, rfl, ?_⟩) | ((with_reducible refine gate_callee (f := 30) rfl ?_); refine goesL_ (some 51) rfl rfl Try.func30 q5_10 rfl #[.slice PA oA.length QA, .int .i64 1] rfl q5_1 ?_; (with_reducible refine (laws_markIntS.calls kj10 (fun k_ => some k_ = (.slice PA oA.length QA : Value).ownBlock) (.slice PA oA.length QA) oA 1 FB JC w _ ?side1 ?side2 A31.out).mono ?_); (case side1 => exact q5_0); (case side2 => exact Kd.R_tight rfl RA.out); rintro e nD ⟨rfl, hy0, hb, hkp⟩; refine ⟨_, rfl, ?_⟩; have pA := Aside0.mk (Kd.R_mono (ok' := fun k_ => some k_ ≠ (.slice PA oA.length QA : Value).ownBlock ∧ some k_ ≠ (uB : Value).ownBlock ∧ some k_ ≠ (.slice hC sB.length iC : Value).ownBlock) (Kd.R_keptB (lA.out) hkp (fun k_ hk_ hs_ => (hk_.1.1) hs_)) (fun k_ hk_ => ⟨hk_.1.1.1, hk_.1.1.2, hk_.1.2⟩)); have qA := Aside0.mk (Kd.R_reok rfl hy0 (fun k_ e_ => RA.out.1 k_ e_)); have sA := Aside0.mk (Kd.R_mono (ok' := fun k_ => some k_ ≠ (WA : Value).ownBlock ∧ some k_ ≠ (.slice PA oA.length QA : Value).ownBlock ∧ some k_ ≠ (.slice hC sB.length iC : Value).ownBlock) (Kd.R_keptB (kA.out) hkp (fun k_ hk_ hs_ => (hk_.1.2) hs_)) (fun k_ hk_ => ⟨hk_.1.1.1, hk_.1.1.2, hk_.1.2⟩)); have vA := Aside0.mk (blk_kept q5_2 hkp (fun hs_ => (fun e_ => (Kd.R_ne RA.out aA.out (by decide)) e_) hs_)); have OA := Aside0.mk (Kd.R_mono (ok' := fun k_ => some k_ ≠ (WA : Value).ownBlock ∧ some k_ ≠ (.slice PA oA.length QA : Value).ownBlock ∧ some k_ ≠ (uB : Value).ownBlock) (Kd.R_keptB (VA.out) hkp (fun k_ hk_ hs_ => (hk_.1.2) hs_)) (fun k_ hk_ => ⟨hk_.1.1.1.2, hk_.1.1.2, hk_.1.2⟩)); have AB := Aside0.mk (hb); clear lA RA kA aA VA HB; have lA := pA; have RA := qA; have kA := sA; have aA := vA; have VA := OA; have HB := AB; clear pA qA sA vA OA AB; (try clear hb); (try clear hkp); (try clear hy0)))
      (try simp only [Act.put, List.setIfInBounds_toArray, List.set_cons_zero, List.set_cons_succ])
      go_cut [64] (fun v64 wc => ∃ (kq : Nat) (oB : Bool), v64 = .bool oB ∧ Aside0 (laws_FnExactLiApply.j1 kq l0 NA xB wA oB cA dA eA fA gA hA iA jA = some true) ∧ Aside0 (kq ≤ kj10) ∧ Aside0 (Kd.R (Kd.int .i64) 3 wc w.heap.size (fun k_ => some k_ ≠ (uB : Value).ownBlock) WA NA) ∧ Aside0 (Kd.R (Kd.int .i64) 3 wc w.heap.size (fun k_ => some k_ ≠ (WA : Value).ownBlock) uB wA) ∧ Aside0 (wc.heap[bA]? = some (.cells #[.int .i64 cA, .int .i64 dA, .int .i64 eA, .int .i64 fA, .int .i64 gA, .int .i64 hA, .int .i64 iA, .int .i64 jA] 54 (0, 0))) ∧ Aside0 (Below w.heap.size w wc))
      case first =>
       have H := HC32.out
       clear HC32
       by_cases c36 : FB < 0
       ·rw [if_pos c36] at H
        have SA : decide (FB < 0) = true := decide_eq_true c36
        clear c36
        (first | rw [SA] | (simp only [i64_w, i32_w]; rw [SA]) | skip)
        exact absurd H (by rcases kj10 with _ | _ <;> simp [laws_FnExactLiApply.j1])
       ·rw [if_neg c36] at H
        have SA : decide (FB < 0) = false := decide_eq_false c36
        clear c36
        (first | rw [SA] | (simp only [i64_w, i32_w]; rw [SA]) | skip)
        replace H := Option.bind_eq_some_iff.mp H
        obtain ⟨PB, A370, H⟩ := H
        (try dsimp only at H)
        have A37 := Aside0.mk A370
        clear A370
        by_cases c38 : PB = true
        ·subst c38
         rw [if_pos rfl] at H
         have H' := Aside0.mk H
         clear H
         obtain ⟨aD, bD, LC⟩ := Kd.R_slice kA.out
         subst LC
         obtain ⟨cD, dD, MC⟩ := Kd.R_slice lA.out
         subst MC
         go_wp2_with (first | (go_at_call 29; (with_reducible refine (laws_eqIntS.calls kj10 _ _ wA _ _ NA true _ ?side1 ?side2 ?side3 ?side4 A37.out).mono ?_); (case side1 => exact q5_9); (case side2 => exact (Kd.R_reads' kA.out).2.1); (case side3 => repeat (first | exact (Kd.R_reads' lA.out).2.2 | (with_reducible refine Kd.C_alloc ?_ _) | (with_reducible refine Kd.C_drewN ?_ _) | (with_reducible refine Kd.C_drew ?_))); (case side4 => exact (Kd.R_reads' lA.out).2.1); rintro e w' ⟨rfl, ⟨nd, rfl⟩⟩))
         go_meet
         case rel => exact ⟨_, ((EB != xB)), (by first | rfl | (simp; done) | (simp [*]; done)), H', ⟨by have := HJ10.out; first | omega | exact Nat.le_refl _⟩, ⟨by (with_reducible repeat (first | apply Kd.R_alloc | apply Kd.R_drewN | apply Kd.R_drew)); exact Kd.R_mono lA.out (fun _ hk => hk.2.1)⟩, ⟨by (with_reducible repeat (first | apply Kd.R_alloc | apply Kd.R_drewN | apply Kd.R_drew)); exact Kd.R_mono kA.out (fun _ hk => hk.1)⟩, ⟨q5_2⟩, ⟨q5_0⟩⟩
        ·replace c38 := Bool.eq_false_iff.mpr c38
         subst c38
         rw [if_neg (show ¬ (false = true) by decide)] at H
         exact absurd H (by rcases kj10 with _ | _ <;> simp [laws_FnExactLiApply.j1])
      case rest =>
       clear HC32
       (try clear c2); (try clear p2); (try clear c3); (try clear CB); (try clear DB); (try clear c9); (try clear c24); (try clear c27); (try clear c29); (try clear c30); (try clear c33); (try clear c34); (try clear c36); (try clear SA); (try clear c37); (try clear c38); (try clear XA); (try clear YA); (try clear ZA); (try clear aB); (try clear bB); (try clear cB); (try clear dB); (try clear eB); (try clear fB); (try clear gB); (try clear hB); (try clear iB); (try clear jB); (try clear kB); (try clear lB); (try clear mB); (try clear p2)
       obtain ⟨kq, oB, rfl, HA, HJ31, lA, kA, aA, HB⟩ := hcut
       cases kq with
       | zero => exact absurd HA.out (by simp [laws_FnExactLiApply.j1])
       | succ kj31 =>
        have H := HA.out
        clear HA
        simp only [laws_FnExactLiApply.j1] at H
        by_cases c41 : oB = true
        ·subst c41
         rw [if_pos rfl] at H
         exact absurd H (by simp)
        ·replace c41 := Bool.eq_false_iff.mpr c41
         subst c41
         rw [if_neg (show ¬ (false = true) by decide)] at H
         replace H := Option.bind_eq_some_iff.mp H
         obtain ⟨⟨MA, TA⟩, A420, H⟩ := H
         (try dsimp only at H)
         have A42 := Aside0.mk A420
         clear A420
         replace H := Option.bind_eq_some_iff.mp H
         obtain ⟨KA, A430, H⟩ := H
         (try dsimp only at H)
         have A43 := Aside0.mk A430
         clear A430
         by_cases c44 : KA < 0
         ·rw [if_pos c44] at H
          have KB : decide (KA < 0) = true := decide_eq_true c44
          clear c44
          exact absurd H (by simp)
         ·rw [if_neg c44] at H
          have KB : decide (KA < 0) = false := decide_eq_false c44
          clear c44
          by_cases c45 : KA = MA
          ·rw [if_pos c45] at H
           have LB : (KA == MA) = true := beq_iff_eq.mpr c45
           have MB : (KA != MA) = false := bne_eq_false_iff_eq.mpr c45
           clear c45
           replace H := Option.bind_eq_some_iff.mp H
           obtain ⟨yB, A460, H⟩ := H
           (try dsimp only at H)
           have A46 := Aside0.mk A460
           clear A460
           replace H := Option.bind_eq_some_iff.mp H
           obtain ⟨⟨jC, kC, lC, mC, nC, oC, pC, qC⟩, A470, H⟩ := H
           (try dsimp only at H)
           have A47 := Aside0.mk A470
           clear A470
           replace H := Option.bind_eq_some_iff.mp H
           obtain ⟨⟨rC, vC⟩, A480, H⟩ := H
           (try dsimp only at H)
           have A48 := Aside0.mk A480
           clear A480
           have HC49 := Aside0.mk H
           clear H
           obtain ⟨pB, qB, NC⟩ := Kd.R_slice kA.out
           subst NC
           try go_wp2_with (first | ((with_reducible refine gate_callee (f := 30) rfl ?_); refine goesL_ (some 67) rfl rfl Try.func30 q5_10 rfl #[.slice pB wA.length qB, .int .i64 1] rfl q5_1 ?_; (with_reducible refine (laws_markIntS.calls kj31 (fun k_ => some k_ = (.slice pB wA.length qB : Value).ownBlock) (.slice pB wA.length qB) wA 1 MA TA w _ ?side1 ?side2 A42.out).mono ?_); (case side1 => exact q5_0); (case side2 => exact Kd.R_tight rfl kA.out); rintro e NB ⟨rfl, hy0, hb, hkp⟩; refine ⟨_, rfl, ?_⟩; have pA := Aside0.mk (Kd.R_mono (ok' := fun k_ => some k_ ≠ (.slice pB wA.length qB : Value).ownBlock) (Kd.R_keptB (lA.out) hkp (fun k_ hk_ hs_ => (hk_) hs_)) (fun k_ hk_ => hk_.1)); have qA := Aside0.mk (Kd.R_reok rfl hy0 (fun k_ e_ => kA.out.1 k_ e_)); have sA := Aside0.mk (blk_kept q5_2 hkp (fun hs_ => (fun e_ => (Kd.R_ne kA.out aA.out (by decide)) e_) hs_)); have vA := Aside0.mk (hb); clear lA kA aA HB; have lA := pA; have kA := qA; have aA := sA; have HB := vA; clear pA qA sA vA; (try clear hb); (try clear hkp); (try clear hy0)) | ((with_reducible refine gate_callee (f := 31) rfl ?_); refine goesL_ (some 70) rfl rfl Try.func31 q5_10 rfl #[.slice pB TA.length qB, .int .i64 1] rfl (by (try simp only [List.map_toArray, List.map_cons, List.map_nil]); first | done | (rw [show TA.length = wA.length from (Kd.R_reads' kA.out).1.symm] <;> rfl) | rfl | (simp only [List.length_drop, List.length_take]; rfl)) ?_; (with_reducible refine (laws_heldIntS.calls kj31 _ _ TA 1 KA _ ?side1 ?side2 A43.out).mono ?_); (case side1 => exact q5_9); (case side2 => rw [show TA.length = wA.length from (Kd.R_reads' kA.out).1.symm]; exact (Kd.R_reads' kA.out).2.1); rintro e w' ⟨rfl, ⟨nd, rfl⟩⟩; refine ⟨_, rfl, ?_⟩))
           (try (rw [drewN_self NB]; generalize hq_ : World.drewN NB _ = NB; have pA : Aside0 (Kd.R (Kd.int .i64) 3 NB w.heap.size (fun k_ => some k_ ≠ (.slice pB wA.length qB : Value).ownBlock) WA NA) := ⟨by rw [← hq_]; exact q5_4⟩; have qA : Aside0 (Kd.R (Kd.int .i64) 3 NB w.heap.size (fun k_ => some k_ ≠ (WA : Value).ownBlock) (.slice pB wA.length qB) TA) := ⟨by rw [← hq_]; exact q5_5⟩; have sA : Aside0 (NB.heap[bA]? = some (.cells #[.int .i64 cA, .int .i64 dA, .int .i64 eA, .int .i64 fA, .int .i64 gA, .int .i64 hA, .int .i64 iA, .int .i64 jA] 54 (0, 0))) := ⟨by rw [← hq_]; exact q5_2⟩; have vA : Aside0 (Below w.heap.size w NB) := ⟨by rw [← hq_]; exact q5_0⟩; clear lA kA aA HB hq_; have lA := pA; have kA := qA; have aA := sA; have HB := vA; clear pA qA sA vA))
           have pA := Aside0.mk (Kd.R_drew lA.out)
           have qA := Aside0.mk (Kd.R_drew kA.out)
           have sA := Aside0.mk (blk_drew aA.out)
           have vA := Aside0.mk (below_drew1 HB.out)
           clear lA kA aA HB
           have lA := pA
           have kA := qA
           have aA := sA
           have HB := vA
           clear pA qA sA vA
           refine start_ (n := 10) (S := fun w' => w'.cell? ⟨bA, 0, none⟩ = some (.int .i64 cA) ∧ w'.cell? ⟨bA, 1, none⟩ = some (.int .i64 dA) ∧ w'.cell? ⟨bA, 2, none⟩ = some (.int .i64 eA) ∧ w'.cell? ⟨bA, 3, none⟩ = some (.int .i64 fA) ∧ w'.cell? ⟨bA, 4, none⟩ = some (.int .i64 gA) ∧ w'.cell? ⟨bA, 5, none⟩ = some (.int .i64 hA) ∧ w'.cell? ⟨bA, 6, none⟩ = some (.int .i64 iA) ∧ w'.cell? ⟨bA, 7, none⟩ = some (.int .i64 jA)) (ds := []) #[F,F,F,F,F,F,F,F,F,F] q5_10 rfl rfl ⟨(blk_cell aA.out 0).trans rfl, (blk_cell aA.out 1).trans rfl, (blk_cell aA.out 2).trans rfl, (blk_cell aA.out 3).trans rfl, (blk_cell aA.out 4).trans rfl, (blk_cell aA.out 5).trans rfl, (blk_cell aA.out 6).trans rfl, (blk_cell aA.out 7).trans rfl⟩ (fun hHeld => ?_); refine with_tabW laws_FnExactLiApply.tab22 laws_FnExactLiApply.bits22 (fun HT_ HW_ => ?_)
           generalize NB.drew = oD at lA kA aA HB hHeld ⊢
           refine q5_p 0 77 #[T,F,F,F,F,F,F,F,F,F] ?_
           refine take_ (i := 2) (N := some 79) (v := ?_) (a' := ?_) #[T,F,T,F,F,F,F,F,F,F] rfl rfl (take_ofW HT_.out HW_.out q5_10) (fun _ _ _ h => h) (Or.inl ⟨by rfl, ?_⟩) hHeld ?_ ?_
           rotate_left
           ·rintro w' ⟨s0, s1, s2, s3, s4, s5, s6, s7⟩
            go_simp
            with_reducible rfl
           rotate_left
           ·simp only [Act.put, List.setIfInBounds_toArray, List.set_cons_zero, List.set_cons_succ, i64_w, i32_w]
            rfl
           refine one_ (i := 1) (N := some 78) #[T,T,T,F,F,F,F,F,F,F] rfl rfl (one_of HT_.out q5_10) (by decide) (fun K hK => ?_)
           refine goes_ Try.func33 q5_10 rfl #[.slice A0 l0.length c0] (by rfl) rfl rfl q5_1 ?_
           with_reducible refine (laws_toIntS.calls kj31 _ _ l0 yB _ ?side1 ?side2 A46.out).mono ?_
           (case side1 => exact q5_7)
           (case side2 => exact HC0.out)
           rintro e pD ⟨eD, rfl, ho0, hb⟩
           refine ⟨_, rfl, ?_⟩
           have pA := Aside0.mk (Kd.R_elder' q5_4 (Kd.R_base ho0) hb)
           have qA := Aside0.mk (Kd.R_elder' q5_5 (Kd.R_base ho0) hb)
           have sA := Aside0.mk (Kd.R_lower (Kd.R_new' (Kd.R_new' ho0 (Kd.R_lt q5_4)) (Kd.R_lt q5_5)) (below_size q5_0))
           have vA := Aside0.mk (blk_below (g := bA) (o := .cells #[.int .i64 cA, .int .i64 dA, .int .i64 eA, .int .i64 fA, .int .i64 gA, .int .i64 hA, .int .i64 iA, .int .i64 jA] 54 (0, 0)) q5_2 hb)
           have OA := Aside0.mk (below_step q5_0 hb)
           clear lA kA aA HB
           have lA := pA
           have kA := qA
           have JA := sA
           have aA := vA
           have HB := OA
           clear pA qA sA vA OA
           (try clear hb)
           (try clear hb2)
           (try clear hk)
           (try clear hi)
           (try clear ho0)
           refine hK.out _ _ ⟨(blk_cell aA.out 0).trans rfl, (blk_cell aA.out 1).trans rfl, (blk_cell aA.out 2).trans rfl, (blk_cell aA.out 3).trans rfl, (blk_cell aA.out 4).trans rfl, (blk_cell aA.out 5).trans rfl, (blk_cell aA.out 6).trans rfl, (blk_cell aA.out 7).trans rfl⟩ (fun hHeld => ?_)
           clear hK K
           refine norm_ (a' := ?_) ?_ ?_
           rotate_left
           ·show Act.put _ (some 78) _ = _
            simp only [Act.put, List.setIfInBounds_toArray, List.set_cons_zero, List.set_cons_succ, i64_w, i32_w]
            rfl
           refine one_ (i := 3) (N := some 80) #[T,T,T,T,F,F,F,F,F,F] rfl rfl (one_of HT_.out q5_10) (by decide) (fun K hK => ?_)
           refine goes_ Try.func34 q5_10 rfl #[.agg #[.int .i64 cA, .int .i64 dA, .int .i64 eA, .int .i64 fA, .int .i64 gA, .int .i64 hA, .int .i64 iA, .int .i64 jA]] (by rfl) rfl rfl q5_1 ?_
           with_reducible refine (laws_toFact.calls cA dA eA fA gA hA iA jA jC kC lC mC nC oC pC qC _ A47.out).mono ?_
           rintro e qD ⟨rfl, hb⟩
           refine ⟨_, rfl, ?_⟩
           have pA := Aside0.mk (Kd.R_below q5_4 hb)
           have qA := Aside0.mk (Kd.R_below q5_5 hb)
           have sA := Aside0.mk (Kd.R_below (by (with_reducible repeat (first | apply Kd.R_alloc | apply Kd.R_drewN | apply Kd.R_drew)); exact JA.out) hb)
           have vA := Aside0.mk (blk_below (g := bA) (o := .cells #[.int .i64 cA, .int .i64 dA, .int .i64 eA, .int .i64 fA, .int .i64 gA, .int .i64 hA, .int .i64 iA, .int .i64 jA] 54 (0, 0)) q5_2 hb)
           have OA := Aside0.mk (below_step q5_0 hb)
           clear lA kA JA aA HB
           have lA := pA
           have kA := qA
           have JA := sA
           have aA := vA
           have HB := OA
           clear pA qA sA vA OA
           (try clear hb)
           (try clear hb2)
           (try clear hk)
           (try clear hi)
           obtain ⟨OC, PC, wC⟩ := Kd.R_slice JA.out
           (first | subst wC | (injection wC with f1_ f2_ f3_; have f4_ := f1_.symm; have f5_ := f3_.symm; clear f1_ f2_ f3_; subst f4_; subst f5_))
           refine hK.out _ _ ⟨(blk_cell aA.out 0).trans rfl, (blk_cell aA.out 1).trans rfl, (blk_cell aA.out 2).trans rfl, (blk_cell aA.out 3).trans rfl, (blk_cell aA.out 4).trans rfl, (blk_cell aA.out 5).trans rfl, (blk_cell aA.out 6).trans rfl, (blk_cell aA.out 7).trans rfl⟩ (fun hHeld => ?_)
           clear hK K
           refine norm_ (a' := ?_) ?_ ?_
           rotate_left
           ·show Act.put _ (some 80) _ = _
            simp only [Act.put, List.setIfInBounds_toArray, List.set_cons_zero, List.set_cons_succ, i64_w, i32_w]
            rfl
           refine one_ (i := 4) (N := some 81) #[T,T,T,T,T,F,F,F,F,F] rfl rfl (one_of HT_.out q5_10) (by decide) (fun K hK => ?_)
           refine goes_ Try.func37 q5_10 rfl #[.slice OC yB.length PC, .agg #[.int .i64 jC, .int .i64 kC, .int .i64 lC, .int .i64 mC, .int .i64 nC, .int .i64 oC, .int .i64 pC, .int .i64 qC]] (by rfl) rfl rfl q5_1 ?_
           with_reducible refine (impl_LiApply.calls _ _ yB jC kC lC mC nC oC pC qC rC vC _ ?side1 ?side2 A48.out).mono ?_
           (case side1 => repeat (first | exact (Kd.R_reads' JA.out).2.2 | (with_reducible refine Kd.C_alloc ?_ _) | (with_reducible refine Kd.C_drewN ?_ _) | (with_reducible refine Kd.C_drew ?_)))
           (case side2 => exact (Kd.R_reads' JA.out).2.1)
           rintro e rD ⟨fD, rfl, ho0, hb⟩
           refine ⟨_, rfl, ?_⟩
           have pA := Aside0.mk (Kd.R_elder' q5_4 (Kd.R_base ho0) hb)
           have qA := Aside0.mk (Kd.R_elder' q5_5 (Kd.R_base ho0) hb)
           have vA := Aside0.mk (Kd.R_lower (Kd.R_new' (Kd.R_new' (Kd.R_new' ho0 (Kd.R_lt q5_4)) (Kd.R_lt q5_5)) (Kd.R_lt (by (with_reducible repeat (first | apply Kd.R_alloc | apply Kd.R_drewN | apply Kd.R_drew)); exact JA.out))) (below_size q5_0))
           have OA := Aside0.mk (blk_below (g := bA) (o := .cells #[.int .i64 cA, .int .i64 dA, .int .i64 eA, .int .i64 fA, .int .i64 gA, .int .i64 hA, .int .i64 iA, .int .i64 jA] 54 (0, 0)) q5_2 hb)
           have AB := Aside0.mk (below_step q5_0 hb)
           clear lA kA JA aA HB
           have lA := pA
           have kA := qA
           have BB := vA
           have aA := OA
           have HB := AB
           clear pA qA vA OA AB
           (try clear hb)
           (try clear hb2)
           (try clear hk)
           (try clear hi)
           (try clear ho0)
           refine hK.out _ _ ⟨(blk_cell aA.out 0).trans rfl, (blk_cell aA.out 1).trans rfl, (blk_cell aA.out 2).trans rfl, (blk_cell aA.out 3).trans rfl, (blk_cell aA.out 4).trans rfl, (blk_cell aA.out 5).trans rfl, (blk_cell aA.out 6).trans rfl, (blk_cell aA.out 7).trans rfl⟩ (fun hHeld => ?_)
           clear hK K
           refine norm_ (a' := ?_) ?_ ?_
           rotate_left
           ·show Act.put _ (some 81) _ = _
            simp only [Act.put, List.setIfInBounds_toArray, List.set_cons_zero, List.set_cons_succ, i64_w, i32_w]
            rfl
           refine q5_p 5 76 #[T,T,T,T,T,T,F,F,F,F] ?_
           refine q5_p 6 82 #[T,T,T,T,T,T,T,F,F,F] ?_
           refine q5_p 7 83 #[T,T,T,T,T,T,T,T,F,F] ?_
           refine q5_p 8 13 #[T,T,T,T,T,T,T,T,T,F] ?_
           refine q5_p 9 14 #[T,T,T,T,T,T,T,T,T,T] ?_
           refine done_ (done_of HT_.out q5_10) ?_
           go_upto_region 23 with (fail)
           go_cut [92] (fun v92 wc => ∃ (kq : Nat) (rB : Bool), v92 = .bool rB ∧ Aside0 (laws_FnExactLiApply.j2 kq TA MA rB = some true) ∧ Aside0 (kq ≤ kj31) ∧ Aside0 (Kd.R (Kd.int .i64) 3 wc w.heap.size (fun _ => True) (.slice pB wA.length qB) TA) ∧ Aside0 (wc.heap[bA]? = some (.cells #[.int .i64 cA, .int .i64 dA, .int .i64 eA, .int .i64 fA, .int .i64 gA, .int .i64 hA, .int .i64 iA, .int .i64 jA] 54 (0, 0))) ∧ Aside0 (Below w.heap.size w wc))
           case first =>
            have H := HC49.out
            clear HC49
            replace H := Option.bind_eq_some_iff.mp H
            obtain ⟨QB, A570, H⟩ := H
            (try dsimp only at H)
            have A57 := Aside0.mk A570
            clear A570
            by_cases c58 : QB = true
            ·subst c58
             rw [if_pos rfl] at H
             have H' := Aside0.mk H
             clear H
             obtain ⟨QC, RC, SC⟩ := Kd.R_slice BB.out
             subst SC
             obtain ⟨TC, UC, VC⟩ := Kd.R_slice lA.out
             subst VC
             go_wp2_with (first | ((with_reducible refine gate_callee (f := 29) rfl ?_); refine goesL_ (some 86) rfl rfl Try.func29 q5_10 rfl #[.slice QC rC.length RC, .slice TC NA.length UC] rfl q5_1 ?_; (with_reducible refine (laws_eqIntS.calls kj31 _ _ rC _ _ NA true _ ?side1 ?side2 ?side3 ?side4 A57.out).mono ?_); (case side1 => repeat (first | exact (Kd.R_reads' BB.out).2.2 | (with_reducible refine Kd.C_alloc ?_ _) | (with_reducible refine Kd.C_drewN ?_ _) | (with_reducible refine Kd.C_drew ?_))); (case side2 => exact (Kd.R_reads' BB.out).2.1); (case side3 => repeat (first | exact (Kd.R_reads' lA.out).2.2 | (with_reducible refine Kd.C_alloc ?_ _) | (with_reducible refine Kd.C_drewN ?_ _) | (with_reducible refine Kd.C_drew ?_))); (case side4 => exact (Kd.R_reads' lA.out).2.1); rintro e w' ⟨rfl, ⟨nd, rfl⟩⟩; refine ⟨_, rfl, ?_⟩))
             go_meet
             case rel => exact ⟨_, ((vC != xB)), (by first | rfl | (simp; done) | (simp [*]; done)), H', ⟨by have := HJ10.out; have := HJ31.out; first | omega | exact Nat.le_refl _⟩, ⟨by (with_reducible repeat (first | apply Kd.R_alloc | apply Kd.R_drewN | apply Kd.R_drew)); exact Kd.R_mono kA.out (fun _ hk => trivial)⟩, ⟨q5_2⟩, ⟨q5_0⟩⟩
            ·replace c58 := Bool.eq_false_iff.mpr c58
             subst c58
             rw [if_neg (show ¬ (false = true) by decide)] at H
             exact absurd H (by rcases kj31 with _ | _ <;> simp [laws_FnExactLiApply.j2])
           case rest =>
            clear HC49
            (try clear c2); (try clear p2); (try clear c3); (try clear CB); (try clear DB); (try clear c4); (try clear c5); (try clear c9); (try clear c24); (try clear c27); (try clear c29); (try clear c30); (try clear c31); (try clear c33); (try clear c34); (try clear c36); (try clear SA); (try clear c37); (try clear c38); (try clear c41); (try clear c44); (try clear KB); (try clear c45); (try clear LB); (try clear MB); (try clear c58); (try clear XA); (try clear YA); (try clear ZA); (try clear aB); (try clear bB); (try clear cB); (try clear dB); (try clear eB); (try clear fB); (try clear gB); (try clear hB); (try clear iB); (try clear jB); (try clear kB); (try clear lB); (try clear mB); (try clear p2)
            obtain ⟨kq, rB, rfl, HA, HJ48, kA, aA, HB⟩ := hcut
            have vB := (Kd.R_reads' kA.out).1
            rw [vB] at kA
            (try simp only [vB])
            (try simp only [vB] at aA)
            cases kq with
            | zero => exact absurd HA.out (by simp [laws_FnExactLiApply.j2])
            | succ kj48 =>
             have H := HA.out
             clear HA
             simp only [laws_FnExactLiApply.j2] at H
             by_cases c61 : rB = true
             ·subst c61
              rw [if_pos rfl] at H
              exact absurd H (by simp)
             ·replace c61 := Bool.eq_false_iff.mpr c61
              subst c61
              rw [if_neg (show ¬ (false = true) by decide)] at H
              replace H := Option.bind_eq_some_iff.mp H
              obtain ⟨LA, A620, H⟩ := H
              (try dsimp only at H)
              have A62 := Aside0.mk A620
              clear A620
              by_cases c63 : LA < 0
              ·rw [if_pos c63] at H
               have xC : decide (LA < 0) = true := decide_eq_true c63
               clear c63
               exact absurd H (by simp)
              ·rw [if_neg c63] at H
               have xC : decide (LA < 0) = false := decide_eq_false c63
               clear c63
               by_cases c64 : LA = MA
               ·rw [if_pos c64] at H
                have yC : (LA == MA) = true := beq_iff_eq.mpr c64
                have zC : (LA != MA) = false := bne_eq_false_iff_eq.mpr c64
                clear c64 H
                (try clear H)
                go_wp2_with (first | ((with_reducible refine gate_callee (f := 31) rfl ?_); refine goesL_ (some 95) rfl rfl Try.func31 q5_10 rfl #[.slice pB TA.length qB, .int .i64 1] rfl q5_1 ?_; (with_reducible refine (laws_heldIntS.calls kj48 _ _ TA 1 LA _ ?side1 ?side2 A62.out).mono ?_); (case side1 => exact q5_9); (case side2 => exact (Kd.R_reads' kA.out).2.1); rintro e w' ⟨rfl, ⟨nd, rfl⟩⟩; refine ⟨_, rfl, ?_⟩))
                go_ret
                exact ⟨by first | rfl | (simp [errW_none, errW_some] <;> rfl) | (simp [*, errW_none, errW_some] <;> rfl), q5_0⟩
               ·rw [if_neg c64] at H
                have yC : (LA == MA) = false := beq_eq_false_iff_ne.mpr c64
                have zC : (LA != MA) = true := bne_iff_ne.mpr c64
                exact absurd H (by simp)
          ·rw [if_neg c45] at H
           have LB : (KA == MA) = false := beq_eq_false_iff_ne.mpr c45
           have MB : (KA != MA) = true := bne_iff_ne.mpr c45
           exact absurd H (by simp)
     ·replace c30 := Bool.eq_false_iff.mpr c30
      subst c30
      rw [if_neg (show ¬ (false = true) by decide)] at H
      exact absurd H (by simp)

/-! What the arguments hold: each number fits, each length is one. -/
/-- THE ONE PURE STATEMENT of laws_FnExactLiApply. -/
def laws_FnExactLiApply.Pure : Prop := ∀ (l0 : List Int) (cA : Int) (dA : Int) (eA : Int) (fA : Int) (gA : Int) (hA : Int) (iA : Int) (jA : Int), (l0.length ≤ maxLen ∧ ∀ y ∈ l0, (Lit.int .i64 y).wf = true) → ((Lit.int .i64 cA).wf = true ∧ (Lit.int .i64 dA).wf = true ∧ (Lit.int .i64 eA).wf = true ∧ (Lit.int .i64 fA).wf = true ∧ (Lit.int .i64 gA).wf = true ∧ (Lit.int .i64 hA).wf = true ∧ (Lit.int .i64 iA).wf = true ∧ (Lit.int .i64 jA).wf = true) → ∃ k, laws_FnExactLiApply.f k l0 cA dA eA fA gA hA iA jA = some true

end Go.Proofs.Ytjikobdblohphaa.PFnExactLiApply
