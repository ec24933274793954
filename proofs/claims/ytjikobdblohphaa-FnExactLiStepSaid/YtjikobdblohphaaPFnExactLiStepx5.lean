-- Written by the session's own patched copy of the printer (wip/patch_print.py).
import Derived.Test.YtjikobdblohphaaPFnExactLiStepx0
import Derived.Test.YtjikobdblohphaaPFnExactLiStepx3
namespace Go.Proofs.Ytjikobdblohphaa.PFnExactLiStep
open Go.RowKit Go.Proofs.YtjikobdblohphaaW.PrintWords Go.Proofs.YtjikobdblohphaaW.PrintLast Go.Proofs.YtjikobdblohphaaW.PrintMore
attribute [local go_sem] max2_int min2_int max_two min_two max_three min_three max_four min_four   -- for this text's walks alone
set_option linter.unusedVariables false
set_option linter.unusedSimpArgs false

theorem Z5b {w : World} {g : Nat} {t : TypeId} {cs : Array Value} (h : w.heap[g]? = some (.cells cs t (0, 0))) (i : Nat) (v : Value) (e : cs[i]? = some v := by rfl) : w.cell? ⟨g, i, none⟩ = some v := (blk_cell h i).trans e
theorem Z5c {p : Prop} (h : p) : Aside0 p := ⟨h⟩
theorem Z5a {w : World} {g : Nat} {t : TypeId} {cs : Array Value} (h : w.heap[g]? = some (.cells cs t (0, 0))) (i : Nat) : w.frozen? ⟨g, i, none⟩ = false := blk_frozen h i
theorem Z5d {p : Prop} (h : p := by repeat (first | (with_reducible first | exact HB.out | apply below_alloc | apply pw_below_drewN | apply below_drew1 | refine below_set ?_ OC.out | refine below_set ?_ TG.out) | exact HB.out)) : p := h
theorem Z5e {p : Prop} (h : p := by (with_reducible repeat (first | refine blk_drewN ?_ _ | refine blk_drew ?_ | refine blk_alloc ?_ _)); exact aA.out) : p := h
theorem Z5f {p : Prop} (h : p := by (with_reducible repeat (first | refine blk_drewN ?_ _ | refine blk_drew ?_ | refine blk_alloc ?_ _)); exact bA.out) : p := h
theorem Z5i {p : Prop} (h : p := by repeat (first | (with_reducible first | exact HB.out | apply below_alloc | apply pw_below_drewN | apply below_drew1 | refine below_set ?_ OC.out) | exact HB.out)) : p := h
theorem Z5h {p : Prop} (h : p := by repeat (first | (with_reducible first | exact HB.out | apply below_alloc | apply pw_below_drewN | apply below_drew1) | exact HB.out)) : p := h
theorem Z5g {p : Prop} (h : p := by first | rfl | (simp [errW_none, errW_some] <;> rfl) | (simp [*, errW_none, errW_some] <;> rfl)) : p := h
theorem Z5j {p : Prop} (h : p := by (try simp only [List.map_toArray, List.map_cons, List.map_nil]); first | done | rfl | (simp only [List.length_drop, List.length_take]; rfl)) : p := h
theorem Z5k {p : Prop} (h : p := by rw [hg]; exact Nat.ne_of_lt (blk_lt (g := qA) (o := .cells #[.int .i64 cA, .int .i64 dA, .int .i64 eA, .int .i64 nA, .int .i64 jA, .int .i64 gA, .int .i64 iA, .int .i64 kA, .int .i64 fA, .bool mA] 23 (0, 0)) Z5e)) : p := h
theorem Z5l {p : Prop} (h : p := by rw [hg]; exact Nat.ne_of_gt (blk_lt (g := qA) (o := .cells #[.int .i64 cA, .int .i64 dA, .int .i64 eA, .int .i64 nA, .int .i64 jA, .int .i64 gA, .int .i64 iA, .int .i64 kA, .int .i64 fA, .bool mA] 23 (0, 0)) Z5e)) : p := h
/-! ### spec_l05Key: function 58 -/
mutual
def spec_l05Key.j0 : Nat → Bool → Int → Int → Int → Int → Int → Int → Int → Int → Int → Bool → Option (Int × Int × Int × Int × Int × Int × Int × Int × Int × Bool)
 | 0, _, _, _, _, _, _, _, _, _, _, _ => none
 | k + 1, x17, pA, rA, tA, zA, uA, vA, wA, xA, sA, yA => if x17 = true then ((spec_l05End.f pA rA tA zA uA vA wA xA sA yA 1).bind fun AA => (some (AA.1, AA.2.1, AA.2.2.1, AA.2.2.2.1, AA.2.2.2.2.1, AA.2.2.2.2.2.1, AA.2.2.2.2.2.2.1, AA.2.2.2.2.2.2.2.1, AA.2.2.2.2.2.2.2.2.1, AA.2.2.2.2.2.2.2.2.2))) else (if pA = 3 then ((spec_l05End.f pA rA tA zA uA vA wA xA sA yA 4).bind fun BA => (some (BA.1, BA.2.1, BA.2.2.1, BA.2.2.2.1, BA.2.2.2.2.1, BA.2.2.2.2.2.1, BA.2.2.2.2.2.2.1, BA.2.2.2.2.2.2.2.1, BA.2.2.2.2.2.2.2.2.1, BA.2.2.2.2.2.2.2.2.2))) else (if pA = 1 then (spec_l05Key.j1 k (decide (sA > rA)) pA rA tA zA uA vA wA xA sA yA) else (spec_l05Key.j1 k false pA rA tA zA uA vA wA xA sA yA)))
def spec_l05Key.j1 : Nat → Bool → Int → Int → Int → Int → Int → Int → Int → Int → Int → Bool → Option (Int × Int × Int × Int × Int × Int × Int × Int × Int × Bool)
 | 0, _, _, _, _, _, _, _, _, _, _, _ => none
 | k + 1, x42, pA, rA, tA, zA, uA, vA, wA, xA, sA, yA => if x42 = true then (some (pA, rA, tA, 4, uA, vA, wA, xA, sA, yA)) else (if pA = 2 then (if sA = rA then (some (pA, rA, tA, 7, uA, vA, wA, xA, sA, yA)) else ((spec_l05End.f pA rA tA zA uA vA wA xA sA yA 4).bind fun CA => (some (CA.1, CA.2.1, CA.2.2.1, CA.2.2.2.1, CA.2.2.2.2.1, CA.2.2.2.2.2.1, CA.2.2.2.2.2.2.1, CA.2.2.2.2.2.2.2.1, CA.2.2.2.2.2.2.2.2.1, CA.2.2.2.2.2.2.2.2.2)))) else ((spec_l05End.f pA rA tA zA uA vA wA xA sA yA 4).bind fun DA => (some (DA.1, DA.2.1, DA.2.2.1, DA.2.2.2.1, DA.2.2.2.2.1, DA.2.2.2.2.2.1, DA.2.2.2.2.2.2.1, DA.2.2.2.2.2.2.2.1, DA.2.2.2.2.2.2.2.2.1, DA.2.2.2.2.2.2.2.2.2))))
end
def spec_l05Key.f (k : Nat) (cA : Int) (dA : Int) (eA : Int) (nA : Int) (jA : Int) (gA : Int) (iA : Int) (kA : Int) (fA : Int) (mA : Bool) : Option (Int × Int × Int × Int × Int × Int × Int × Int × Int × Bool) := if fA < dA then ((spec_l05Node.f gA).bind fun IA => (some (cA, dA, eA, 0, wrap64 (2 + (wrap64 (2 * IA))), gA, iA, kA, fA, mA))) else (if cA = 3 then (if fA = dA then (spec_l05Key.j0 k ((Int.tmod iA 2) == 0) cA dA eA nA jA gA iA kA fA mA) else (spec_l05Key.j0 k false cA dA eA nA jA gA iA kA fA mA)) else (spec_l05Key.j0 k false cA dA eA nA jA gA iA kA fA mA))
theorem spec_l05Key.mono_l : ∀ k, (∀ y0 y1 y2 y3 y4 y5 y6 y7 y8 y9 y10, LeO (spec_l05Key.j0 k y0 y1 y2 y3 y4 y5 y6 y7 y8 y9 y10) (spec_l05Key.j0 (k + 1) y0 y1 y2 y3 y4 y5 y6 y7 y8 y9 y10)) ∧ (∀ y0 y1 y2 y3 y4 y5 y6 y7 y8 y9 y10, LeO (spec_l05Key.j1 k y0 y1 y2 y3 y4 y5 y6 y7 y8 y9 y10) (spec_l05Key.j1 (k + 1) y0 y1 y2 y3 y4 y5 y6 y7 y8 y9 y10))
 | 0 => ⟨fun _ _ _ _ _ _ _ _ _ _ _ r h => by simp [spec_l05Key.j0] at h, fun _ _ _ _ _ _ _ _ _ _ _ r h => by simp [spec_l05Key.j1] at h⟩
 | k + 1 => by
  obtain ⟨ih0, ih1⟩ := spec_l05Key.mono_l k
  refine ⟨?_, ?_⟩
  ·intro y0 y1 y2 y3 y4 y5 y6 y7 y8 y9 y10
   unfold spec_l05Key.j0
   repeat' first
   | (with_reducible exact ih0 _ _ _ _ _ _ _ _ _ _ _)
   | (with_reducible exact ih1 _ _ _ _ _ _ _ _ _ _ _)
   | (with_reducible exact LeO.refl _)
   | (with_reducible exact LeO.none _)
   | (with_reducible refine LeO.ite ?_ ?_)
   | (with_reducible refine LeO.bind ?_ (fun _ => ?_))
   | exact ih0 _ _ _ _ _ _ _ _ _ _ _
   | exact ih1 _ _ _ _ _ _ _ _ _ _ _
   | exact LeO.none _
   | refine LeO.ite ?_ ?_
   | refine LeO.bind ?_ (fun _ => ?_)
  ·intro y0 y1 y2 y3 y4 y5 y6 y7 y8 y9 y10
   unfold spec_l05Key.j1
   repeat' first
   | (with_reducible exact ih0 _ _ _ _ _ _ _ _ _ _ _)
   | (with_reducible exact ih1 _ _ _ _ _ _ _ _ _ _ _)
   | (with_reducible exact LeO.refl _)
   | (with_reducible exact LeO.none _)
   | (with_reducible refine LeO.ite ?_ ?_)
   | (with_reducible refine LeO.bind ?_ (fun _ => ?_))
   | exact ih0 _ _ _ _ _ _ _ _ _ _ _
   | exact ih1 _ _ _ _ _ _ _ _ _ _ _
   | exact LeO.none _
   | refine LeO.ite ?_ ?_
   | refine LeO.bind ?_ (fun _ => ?_)
theorem spec_l05Key.mono : ∀ a0 a1 a2 a3 a4 a5 a6 a7 a8 a9 k, LeO (spec_l05Key.f k a0 a1 a2 a3 a4 a5 a6 a7 a8 a9) (spec_l05Key.f (k + 1) a0 a1 a2 a3 a4 a5 a6 a7 a8 a9) := by
 intro a0 a1 a2 a3 a4 a5 a6 a7 a8 a9 k
 obtain ⟨ih0, ih1⟩ := spec_l05Key.mono_l k
 unfold spec_l05Key.f
 repeat' first
   | (with_reducible exact ih0 _ _ _ _ _ _ _ _ _ _ _)
   | (with_reducible exact ih1 _ _ _ _ _ _ _ _ _ _ _)
   | (with_reducible exact LeO.refl _)
   | (with_reducible exact LeO.none _)
   | (with_reducible refine LeO.ite ?_ ?_)
   | (with_reducible refine LeO.bind ?_ (fun _ => ?_))
   | exact ih0 _ _ _ _ _ _ _ _ _ _ _
   | exact ih1 _ _ _ _ _ _ _ _ _ _ _
   | exact LeO.none _
   | refine LeO.ite ?_ ?_
   | refine LeO.bind ?_ (fun _ => ?_)
set_option maxHeartbeats 8000000 in
set_option maxRecDepth 100000 in
theorem spec_l05Key.calls (k : Nat) (cA : Int) (dA : Int) (eA : Int) (nA : Int) (jA : Int) (gA : Int) (iA : Int) (kA : Int) (fA : Int) (mA : Bool) (r1 : Int) (r2 : Int) (r3 : Int) (r4 : Int) (r5 : Int) (r6 : Int) (r7 : Int) (r8 : Int) (r9 : Int) (r10 : Bool) (w : World) (h : spec_l05Key.f k cA dA eA nA jA gA iA kA fA mA = some (r1, r2, r3, r4, r5, r6, r7, r8, r9, r10)) :
  Calls Try.prog 58 #[.agg #[.int .i64 cA, .int .i64 dA, .int .i64 eA, .int .i64 nA, .int .i64 jA, .int .i64 gA, .int .i64 iA, .int .i64 kA, .int .i64 fA, .bool mA]] w fun e w' => e = .returned (.agg #[.int .i64 r1, .int .i64 r2, .int .i64 r3, .int .i64 r4, .int .i64 r5, .int .i64 r6, .int .i64 r7, .int .i64 r8, .int .i64 r9, .bool r10]) ∧ Below w.heap.size w w' := by
 have hu23 := Try.underlying23
 have HB := Z5c (Below.refl w.heap.size w)
 have H : (if fA < dA then ((spec_l05Node.f gA).bind fun IA => (some (cA, dA, eA, 0, wrap64 (2 + (wrap64 (2 * IA))), gA, iA, kA, fA, mA))) else (if cA = 3 then (if fA = dA then (spec_l05Key.j0 k ((Int.tmod iA 2) == 0) cA dA eA nA jA gA iA kA fA mA) else (spec_l05Key.j0 k false cA dA eA nA jA gA iA kA fA mA)) else (spec_l05Key.j0 k false cA dA eA nA jA gA iA kA fA mA))) = some (r1, r2, r3, r4, r5, r6, r7, r8, r9, r10) := h
 clear h
 by_cases c2 : fA < dA
 ·rw [if_pos c2] at H
  have XG : decide (fA < dA) = true := decide_eq_true c2
  clear c2
  replace H := Option.bind_eq_some_iff.mp H
  obtain ⟨IA, A30, H⟩ := H
  (try dsimp only at H)
  have A3 := Z5c A30
  clear A30
  simp only [Option.some.injEq, Prod.mk.injEq] at H
  obtain ⟨rfl, rfl, rfl, rfl, rfl, rfl, rfl, rfl, rfl, rfl⟩ := H
  go_enter Try.func58, Try.ntmps58
  go_wp2_with (first | ((with_reducible refine gate_dst (N := 1) rfl ?_); refine box_event ?hg (N := 1) ?hd (cs := #[.int .i64 cA, .int .i64 dA, .int .i64 eA, .int .i64 nA, .int .i64 jA, .int .i64 gA, .int .i64 iA, .int .i64 kA, .int .i64 fA, .bool mA]) (t := 23) ?hr ?_; (case hd => rfl); (case hg => rfl); (case hr => first | (go_simp; done) | (go_simp; rfl)); intro qA hg w4 hbox hb; have EA := Z5c (below_step Z5h hb); have FA := Z5c (hbox); have GA := Z5c ((by rw [hg]; exact (below_size Z5h) : w.heap.size ≤ qA)); have PC := Z5c ((by rw [hg]; exact (below_size Z5h) : w.heap.size ≤ qA)); clear HB; have HB := EA; have aA := FA; have cH := GA; have OC := PC; clear EA FA GA PC; clear hb hbox hg) | ((with_reducible refine gate_dst (N := 2) rfl ?_); refine box_event ?hg (N := 2) ?hd (cs := #[.int .i64 0, .int .i64 0, .int .i64 0, .int .i64 0, .int .i64 0, .int .i64 0, .int .i64 0, .int .i64 0, .int .i64 0, .bool false]) (t := 23) ?hr ?_; (case hd => rfl); (case hg => rfl); (case hr => first | (go_simp; done) | (go_simp; rfl)); intro oA hg w5 hbox hb; have EA := Z5c (blk_below (g := qA) (o := .cells #[.int .i64 cA, .int .i64 dA, .int .i64 eA, .int .i64 nA, .int .i64 jA, .int .i64 gA, .int .i64 iA, .int .i64 kA, .int .i64 fA, .bool mA] 23 (0, 0)) Z5e hb); have FA := Z5c (below_step Z5i hb); have GA := Z5c (hbox); have PC := Z5c ((by rw [hg]; exact (below_size Z5i) : w.heap.size ≤ oA)); have dH := Z5c ((by rw [hg]; exact (below_size Z5i) : w.heap.size ≤ oA)); have eH := Z5c ((Z5k : qA ≠ oA)); have fH := Z5c ((Z5l : oA ≠ qA)); clear aA HB; have aA := EA; have HB := FA; have bA := GA; have gH := PC; have TG := dH; have lA := eH; have hA := fH; clear EA FA GA PC dH eH fH; clear hb hbox hg; have TK := lA.out; have UK := hA.out; have QC := Z5b aA.out 0 (.int .i64 cA); have RC := Z5b aA.out 1 (.int .i64 dA); have SC := Z5b aA.out 2 (.int .i64 eA); have TC := Z5b aA.out 3 (.int .i64 nA); have UC := Z5b aA.out 4 (.int .i64 jA); have VC := Z5b aA.out 5 (.int .i64 gA); have WC := Z5b aA.out 6 (.int .i64 iA); have XC := Z5b aA.out 7 (.int .i64 kA); have YC := Z5b aA.out 8 (.int .i64 fA); have ZC := Z5b aA.out 9 (.bool mA); have aD := Z5a aA.out 0; have bD := Z5a aA.out 1; have cD := Z5a aA.out 2; have dD := Z5a aA.out 3; have eD := Z5a aA.out 4; have fD := Z5a aA.out 5; have gD := Z5a aA.out 6; have hD := Z5a aA.out 7; have iD := Z5a aA.out 8; have jD := Z5a aA.out 9) | ((with_reducible refine gate_callee (f := 45) rfl ?_); refine goesL_ (some 11) rfl rfl Try.func45 (by kernel_rfl) rfl #[.int .i64 gA] rfl Z5j ?_; (with_reducible refine (spec_l05Node.calls gA IA _ A3.out).mono ?_); rintro e w' ⟨rfl, ⟨nd, rfl⟩⟩; refine ⟨_, rfl, ?_⟩; (try (rw [drewN_self w5]; generalize hq_ : World.drewN w5 _ = w5; have EA : Aside0 (w5.heap[qA]? = some (.cells #[.int .i64 cA, .int .i64 dA, .int .i64 eA, .int .i64 nA, .int .i64 jA, .int .i64 gA, .int .i64 iA, .int .i64 kA, .int .i64 fA, .bool mA] 23 (0, 0))) := ⟨by rw [← hq_]; exact Z5e⟩; have FA : Aside0 (w5.heap[oA]? = some (.cells #[.int .i64 0, .int .i64 0, .int .i64 0, .int .i64 0, .int .i64 0, .int .i64 0, .int .i64 0, .int .i64 0, .int .i64 0, .bool false] 23 (0, 0))) := ⟨by rw [← hq_]; exact Z5f⟩; have GA : Aside0 (Below w.heap.size w w5) := ⟨by rw [← hq_]; exact Z5d⟩; clear aA bA HB hq_; have aA := EA; have bA := FA; have HB := GA; clear EA FA GA)); have kD := Z5b aA.out 0 (.int .i64 cA); have lD := Z5b aA.out 1 (.int .i64 dA); have mD := Z5b aA.out 2 (.int .i64 eA); have nD := Z5b aA.out 3 (.int .i64 nA); have oD := Z5b aA.out 4 (.int .i64 jA); have pD := Z5b aA.out 5 (.int .i64 gA); have qD := Z5b aA.out 6 (.int .i64 iA); have rD := Z5b aA.out 7 (.int .i64 kA); have sD := Z5b aA.out 8 (.int .i64 fA); have tD := Z5b aA.out 9 (.bool mA); have uD := Z5a aA.out 0; have vD := Z5a aA.out 1; have wD := Z5a aA.out 2; have xD := Z5a aA.out 3; have yD := Z5a aA.out 4; have zD := Z5a aA.out 5; have AD := Z5a aA.out 6; have BD := Z5a aA.out 7; have CD := Z5a aA.out 8; have DD := Z5a aA.out 9; have ED := Z5b bA.out 0 (.int .i64 0); have FD := Z5b bA.out 1 (.int .i64 0); have GD := Z5b bA.out 2 (.int .i64 0); have HD := Z5b bA.out 3 (.int .i64 0); have ID := Z5b bA.out 4 (.int .i64 0); have JD := Z5b bA.out 5 (.int .i64 0); have KD := Z5b bA.out 6 (.int .i64 0); have LD := Z5b bA.out 7 (.int .i64 0); have MD := Z5b bA.out 8 (.int .i64 0); have ND := Z5b bA.out 9 (.bool false); have OD := Z5a bA.out 0; have PD := Z5a bA.out 1; have QD := Z5a bA.out 2; have RD := Z5a bA.out 3; have SD := Z5a bA.out 4; have TD := Z5a bA.out 5; have UD := Z5a bA.out 6; have VD := Z5a bA.out 7; have WD := Z5a bA.out 8; have XD := Z5a bA.out 9))
  refine bodyPost_ret (results_cell_row rfl _ _ oA 23 #[.int .i64 cA, .int .i64 dA, .int .i64 eA, .int .i64 0, .int .i64 (wrap64 (2 + (wrap64 (2 * IA)))), .int .i64 gA, .int .i64 iA, .int .i64 kA, .int .i64 fA, .bool mA] (0, 0) _ rfl (by (with_reducible repeat (first | refine blk_drewN ?_ _ | refine blk_drew ?_ | refine blk_alloc ?_ _)); refine blk_put (cs := #[.int .i64 cA, .int .i64 dA, .int .i64 eA, .int .i64 0, .int .i64 (wrap64 (2 + (wrap64 (2 * IA)))), .int .i64 gA, .int .i64 iA, .int .i64 kA, .int .i64 fA, .bool false]) ?_ 9 _ rfl; (with_reducible repeat (first | refine blk_drewN ?_ _ | refine blk_drew ?_ | refine blk_alloc ?_ _)); refine blk_put (cs := #[.int .i64 cA, .int .i64 dA, .int .i64 eA, .int .i64 0, .int .i64 (wrap64 (2 + (wrap64 (2 * IA)))), .int .i64 gA, .int .i64 iA, .int .i64 kA, .int .i64 0, .bool false]) ?_ 8 _ rfl; (with_reducible repeat (first | refine blk_drewN ?_ _ | refine blk_drew ?_ | refine blk_alloc ?_ _)); refine blk_put (cs := #[.int .i64 cA, .int .i64 dA, .int .i64 eA, .int .i64 0, .int .i64 (wrap64 (2 + (wrap64 (2 * IA)))), .int .i64 gA, .int .i64 iA, .int .i64 0, .int .i64 0, .bool false]) ?_ 7 _ rfl; (with_reducible repeat (first | refine blk_drewN ?_ _ | refine blk_drew ?_ | refine blk_alloc ?_ _)); refine blk_put (cs := #[.int .i64 cA, .int .i64 dA, .int .i64 eA, .int .i64 0, .int .i64 (wrap64 (2 + (wrap64 (2 * IA)))), .int .i64 gA, .int .i64 0, .int .i64 0, .int .i64 0, .bool false]) ?_ 6 _ rfl; (with_reducible repeat (first | refine blk_drewN ?_ _ | refine blk_drew ?_ | refine blk_alloc ?_ _)); refine blk_put (cs := #[.int .i64 cA, .int .i64 dA, .int .i64 eA, .int .i64 0, .int .i64 (wrap64 (2 + (wrap64 (2 * IA)))), .int .i64 0, .int .i64 0, .int .i64 0, .int .i64 0, .bool false]) ?_ 5 _ rfl; (with_reducible repeat (first | refine blk_drewN ?_ _ | refine blk_drew ?_ | refine blk_alloc ?_ _)); refine blk_put (cs := #[.int .i64 cA, .int .i64 dA, .int .i64 eA, .int .i64 0, .int .i64 0, .int .i64 0, .int .i64 0, .int .i64 0, .int .i64 0, .bool false]) ?_ 4 _ rfl; (with_reducible repeat (first | refine blk_drewN ?_ _ | refine blk_drew ?_ | refine blk_alloc ?_ _)); refine blk_put (cs := #[.int .i64 cA, .int .i64 dA, .int .i64 eA, .int .i64 0, .int .i64 0, .int .i64 0, .int .i64 0, .int .i64 0, .int .i64 0, .bool false]) ?_ 3 _ rfl; (with_reducible repeat (first | refine blk_drewN ?_ _ | refine blk_drew ?_ | refine blk_alloc ?_ _)); refine blk_put (cs := #[.int .i64 cA, .int .i64 dA, .int .i64 0, .int .i64 0, .int .i64 0, .int .i64 0, .int .i64 0, .int .i64 0, .int .i64 0, .bool false]) ?_ 2 _ rfl; (with_reducible repeat (first | refine blk_drewN ?_ _ | refine blk_drew ?_ | refine blk_alloc ?_ _)); refine blk_put (cs := #[.int .i64 cA, .int .i64 0, .int .i64 0, .int .i64 0, .int .i64 0, .int .i64 0, .int .i64 0, .int .i64 0, .int .i64 0, .bool false]) ?_ 1 _ rfl; (with_reducible repeat (first | refine blk_drewN ?_ _ | refine blk_drew ?_ | refine blk_alloc ?_ _)); refine blk_put (cs := #[.int .i64 0, .int .i64 0, .int .i64 0, .int .i64 0, .int .i64 0, .int .i64 0, .int .i64 0, .int .i64 0, .int .i64 0, .bool false]) ?_ 0 _ rfl; (iterate 2 ((with_reducible repeat (first | refine blk_drewN ?_ _ | refine blk_drew ?_ | refine blk_alloc ?_ _)); refine blk_far ?_ hA.out _)); (with_reducible repeat (first | refine blk_drewN ?_ _ | refine blk_drew ?_ | refine blk_alloc ?_ _)); exact bA.out) Try.underlying23 rfl (by kernel_rfl)) rfl ?_
  exact ⟨Z5g, Z5d⟩
 ·rw [if_neg c2] at H
  have XG : decide (fA < dA) = false := decide_eq_false c2
  clear c2
  have HC10 := Z5c H
  clear H
  go_enter Try.func58, Try.ntmps58
  go_upto_region 5 with (first | ((with_reducible refine gate_dst (N := 1) rfl ?_); refine box_event ?hg (N := 1) ?hd (cs := #[.int .i64 cA, .int .i64 dA, .int .i64 eA, .int .i64 nA, .int .i64 jA, .int .i64 gA, .int .i64 iA, .int .i64 kA, .int .i64 fA, .bool mA]) (t := 23) ?hr ?_; (case hd => rfl); (case hg => rfl); (case hr => first | (go_simp; done) | (go_simp; rfl)); intro qA hg VK hbox hb; have EA := Z5c (below_step Z5h hb); have FA := Z5c (hbox); have GA := Z5c ((by rw [hg]; exact (below_size Z5h) : w.heap.size ≤ qA)); have PC := Z5c ((by rw [hg]; exact (below_size Z5h) : w.heap.size ≤ qA)); clear HB; have HB := EA; have aA := FA; have cH := GA; have OC := PC; clear EA FA GA PC; clear hb hbox hg) | ((with_reducible refine gate_dst (N := 2) rfl ?_); refine box_event ?hg (N := 2) ?hd (cs := #[.int .i64 0, .int .i64 0, .int .i64 0, .int .i64 0, .int .i64 0, .int .i64 0, .int .i64 0, .int .i64 0, .int .i64 0, .bool false]) (t := 23) ?hr ?_; (case hd => rfl); (case hg => rfl); (case hr => first | (go_simp; done) | (go_simp; rfl)); intro oA hg WK hbox hb; have EA := Z5c (blk_below (g := qA) (o := .cells #[.int .i64 cA, .int .i64 dA, .int .i64 eA, .int .i64 nA, .int .i64 jA, .int .i64 gA, .int .i64 iA, .int .i64 kA, .int .i64 fA, .bool mA] 23 (0, 0)) Z5e hb); have FA := Z5c (below_step Z5i hb); have GA := Z5c (hbox); have PC := Z5c ((by rw [hg]; exact (below_size Z5i) : w.heap.size ≤ oA)); have dH := Z5c ((by rw [hg]; exact (below_size Z5i) : w.heap.size ≤ oA)); have eH := Z5c ((Z5k : qA ≠ oA)); have fH := Z5c ((Z5l : oA ≠ qA)); clear aA HB; have aA := EA; have HB := FA; have bA := GA; have gH := PC; have TG := dH; have lA := eH; have hA := fH; clear EA FA GA PC dH eH fH; clear hb hbox hg; have tK := lA.out; have uK := hA.out; have gB := Z5b aA.out 0 (.int .i64 cA); have hB := Z5b aA.out 1 (.int .i64 dA); have iB := Z5b aA.out 2 (.int .i64 eA); have jB := Z5b aA.out 3 (.int .i64 nA); have kB := Z5b aA.out 4 (.int .i64 jA); have lB := Z5b aA.out 5 (.int .i64 gA); have mB := Z5b aA.out 6 (.int .i64 iA); have nB := Z5b aA.out 7 (.int .i64 kA); have oB := Z5b aA.out 8 (.int .i64 fA); have pB := Z5b aA.out 9 (.bool mA); have qB := Z5a aA.out 0; have rB := Z5a aA.out 1; have sB := Z5a aA.out 2; have tB := Z5a aA.out 3; have uB := Z5a aA.out 4; have vB := Z5a aA.out 5; have wB := Z5a aA.out 6; have xB := Z5a aA.out 7; have yB := Z5a aA.out 8; have zB := Z5a aA.out 9))
  (try simp only [Act.put, List.setIfInBounds_toArray, List.set_cons_zero, List.set_cons_succ])
  go_cut [17] (fun v17 wc => ∃ (kq : Nat) (AB : Bool), v17 = .bool AB ∧ Aside0 (spec_l05Key.j0 kq AB cA dA eA nA jA gA iA kA fA mA = some (r1, r2, r3, r4, r5, r6, r7, r8, r9, r10)) ∧ Aside0 (kq ≤ k) ∧ Aside0 (wc.heap[qA]? = some (.cells #[.int .i64 cA, .int .i64 dA, .int .i64 eA, .int .i64 nA, .int .i64 jA, .int .i64 gA, .int .i64 iA, .int .i64 kA, .int .i64 fA, .bool mA] 23 (0, 0))) ∧ Aside0 (wc.heap[oA]? = some (.cells #[.int .i64 0, .int .i64 0, .int .i64 0, .int .i64 0, .int .i64 0, .int .i64 0, .int .i64 0, .int .i64 0, .int .i64 0, .bool false] 23 (0, 0))) ∧ Aside0 (Below w.heap.size w wc))
  case first =>
   have H := HC10.out
   clear HC10
   by_cases c15 : cA = 3
   ·rw [if_pos c15] at H
    have JA : (cA == 3) = true := beq_iff_eq.mpr c15
    have YD : (cA != 3) = false := bne_eq_false_iff_eq.mpr c15
    clear c15
    (first | rw [JA] | (simp only [i64_w, i32_w]; rw [JA]) | skip)
    by_cases c16 : fA = dA
    ·rw [if_pos c16] at H
     have ZD : (fA == dA) = true := beq_iff_eq.mpr c16
     have aE : (fA != dA) = false := bne_eq_false_iff_eq.mpr c16
     clear c16
     have H' := Z5c H
     clear H
     have vK := lA.out
     have wK := hA.out
     have BB := Z5b aA.out 0 (.int .i64 cA)
     have CB := Z5b aA.out 1 (.int .i64 dA)
     have DB := Z5b aA.out 2 (.int .i64 eA)
     have EB := Z5b aA.out 3 (.int .i64 nA)
     have FB := Z5b aA.out 4 (.int .i64 jA)
     have GB := Z5b aA.out 5 (.int .i64 gA)
     have IB := Z5b aA.out 6 (.int .i64 iA)
     have JB := Z5b aA.out 7 (.int .i64 kA)
     have KB := Z5b aA.out 8 (.int .i64 fA)
     have LB := Z5b aA.out 9 (.bool mA)
     have MB := Z5a aA.out 0
     have NB := Z5a aA.out 1
     have OB := Z5a aA.out 2
     have PB := Z5a aA.out 3
     have QB := Z5a aA.out 4
     have RB := Z5a aA.out 5
     have SB := Z5a aA.out 6
     have TB := Z5a aA.out 7
     have UB := Z5a aA.out 8
     have VB := Z5a aA.out 9
     go_wp2
     go_meet
     case rel => exact ⟨_, (((Int.tmod iA 2) == 0)), (by first | rfl | (simp; done) | (simp [*]; done)), H', ⟨by first | omega | exact Nat.le_refl _⟩, ⟨Z5e⟩, ⟨Z5f⟩, ⟨Z5d⟩⟩
    ·rw [if_neg c16] at H
     have ZD : (fA == dA) = false := beq_eq_false_iff_ne.mpr c16
     have aE : (fA != dA) = true := bne_iff_ne.mpr c16
     have H' := Z5c H
     clear H
     have xK := lA.out
     have yK := hA.out
     have WB := Z5b aA.out 0 (.int .i64 cA)
     have XB := Z5b aA.out 1 (.int .i64 dA)
     have YB := Z5b aA.out 2 (.int .i64 eA)
     have ZB := Z5b aA.out 3 (.int .i64 nA)
     have aC := Z5b aA.out 4 (.int .i64 jA)
     have bC := Z5b aA.out 5 (.int .i64 gA)
     have cC := Z5b aA.out 6 (.int .i64 iA)
     have dC := Z5b aA.out 7 (.int .i64 kA)
     have eC := Z5b aA.out 8 (.int .i64 fA)
     have fC := Z5b aA.out 9 (.bool mA)
     have gC := Z5a aA.out 0
     have hC := Z5a aA.out 1
     have iC := Z5a aA.out 2
     have jC := Z5a aA.out 3
     have kC := Z5a aA.out 4
     have lC := Z5a aA.out 5
     have mC := Z5a aA.out 6
     have nC := Z5a aA.out 7
     have oC := Z5a aA.out 8
     have pC := Z5a aA.out 9
     go_wp2
     go_meet
     case rel => exact ⟨_, (false), (by first | rfl | (simp; done) | (simp [*]; done)), H', ⟨by first | omega | exact Nat.le_refl _⟩, ⟨Z5e⟩, ⟨Z5f⟩, ⟨Z5d⟩⟩
   ·rw [if_neg c15] at H
    have JA : (cA == 3) = false := beq_eq_false_iff_ne.mpr c15
    have YD : (cA != 3) = true := bne_iff_ne.mpr c15
    (first | rw [JA] | (simp only [i64_w, i32_w]; rw [JA]) | skip)
    have H' := Z5c H
    clear H
    have zK := lA.out
    have AK := hA.out
    have qC := Z5b aA.out 0 (.int .i64 cA)
    have rC := Z5b aA.out 1 (.int .i64 dA)
    have sC := Z5b aA.out 2 (.int .i64 eA)
    have tC := Z5b aA.out 3 (.int .i64 nA)
    have uC := Z5b aA.out 4 (.int .i64 jA)
    have vC := Z5b aA.out 5 (.int .i64 gA)
    have wC := Z5b aA.out 6 (.int .i64 iA)
    have xC := Z5b aA.out 7 (.int .i64 kA)
    have yC := Z5b aA.out 8 (.int .i64 fA)
    have zC := Z5b aA.out 9 (.bool mA)
    have AC := Z5a aA.out 0
    have BC := Z5a aA.out 1
    have CC := Z5a aA.out 2
    have DC := Z5a aA.out 3
    have EC := Z5a aA.out 4
    have FC := Z5a aA.out 5
    have GC := Z5a aA.out 6
    have HC := Z5a aA.out 7
    have IC := Z5a aA.out 8
    have JC := Z5a aA.out 9
    go_wp2
    go_meet
    case rel => exact ⟨_, (false), (by first | rfl | (simp; done) | (simp [*]; done)), H', ⟨by first | omega | exact Nat.le_refl _⟩, ⟨Z5e⟩, ⟨Z5f⟩, ⟨Z5d⟩⟩
  case rest =>
   clear HC10
   (try clear c1); (try clear c2); (try clear XG); (try clear p2); (try clear c4); (try clear c5); (try clear c6); (try clear p6); (try clear c13); (try clear c15); (try clear JA); (try clear YD); (try clear c16); (try clear ZD); (try clear aE); (try clear c17); (try clear c19); (try clear c21); (try clear gB); (try clear hB); (try clear iB); (try clear jB); (try clear kB); (try clear lB); (try clear mB); (try clear nB); (try clear oB); (try clear pB); (try clear BB); (try clear CB); (try clear DB); (try clear EB); (try clear FB); (try clear GB); (try clear IB); (try clear JB); (try clear KB); (try clear LB); (try clear WB); (try clear XB); (try clear YB); (try clear ZB); (try clear aC); (try clear bC); (try clear cC); (try clear dC); (try clear eC); (try clear fC); (try clear qC); (try clear rC); (try clear sC); (try clear tC); (try clear uC); (try clear vC); (try clear wC); (try clear xC); (try clear yC); (try clear zC); (try clear QC); (try clear RC); (try clear SC); (try clear TC); (try clear UC); (try clear VC); (try clear WC); (try clear XC); (try clear YC); (try clear ZC); (try clear kD); (try clear lD); (try clear mD); (try clear nD); (try clear oD); (try clear pD); (try clear qD); (try clear rD); (try clear sD); (try clear tD); (try clear ED); (try clear FD); (try clear GD); (try clear HD); (try clear ID); (try clear JD); (try clear KD); (try clear LD); (try clear MD); (try clear ND); (try clear qB); (try clear rB); (try clear sB); (try clear tB); (try clear uB); (try clear vB); (try clear wB); (try clear xB); (try clear yB); (try clear zB); (try clear MB); (try clear NB); (try clear OB); (try clear PB); (try clear QB); (try clear RB); (try clear SB); (try clear TB); (try clear UB); (try clear VB); (try clear gC); (try clear hC); (try clear iC); (try clear jC); (try clear kC); (try clear lC); (try clear mC); (try clear nC); (try clear oC); (try clear pC); (try clear AC); (try clear BC); (try clear CC); (try clear DC); (try clear EC); (try clear FC); (try clear GC); (try clear HC); (try clear IC); (try clear JC); (try clear aD); (try clear bD); (try clear cD); (try clear dD); (try clear eD); (try clear fD); (try clear gD); (try clear hD); (try clear iD); (try clear jD); (try clear uD); (try clear vD); (try clear wD); (try clear xD); (try clear yD); (try clear zD); (try clear AD); (try clear BD); (try clear CD); (try clear DD); (try clear OD); (try clear PD); (try clear QD); (try clear RD); (try clear SD); (try clear TD); (try clear UD); (try clear VD); (try clear WD); (try clear XD)
   obtain ⟨kq, AB, rfl, HA, HJ9, aA, bA, HB⟩ := hcut
   cases kq with
   | zero => exact absurd HA.out (by simp [spec_l05Key.j0])
   | succ kj9 =>
    have H := HA.out
    clear HA
    simp only [spec_l05Key.j0] at H
    by_cases c23 : AB = true
    ·subst c23
     rw [if_pos rfl] at H
     replace H := Option.bind_eq_some_iff.mp H
     obtain ⟨⟨KA, OA, TA, YA, cB, KC, bE, fE, YG, hH⟩, A240, H⟩ := H
     (try dsimp only at H)
     have A24 := Z5c A240
     clear A240
     simp only [Option.some.injEq, Prod.mk.injEq] at H
     obtain ⟨rfl, rfl, rfl, rfl, rfl, rfl, rfl, rfl, rfl, rfl⟩ := H
     have BK := lA.out
     have CK := hA.out
     have gE := Z5b aA.out 0 (.int .i64 cA)
     have hE := Z5b aA.out 1 (.int .i64 dA)
     have iE := Z5b aA.out 2 (.int .i64 eA)
     have jE := Z5b aA.out 3 (.int .i64 nA)
     have kE := Z5b aA.out 4 (.int .i64 jA)
     have lE := Z5b aA.out 5 (.int .i64 gA)
     have mE := Z5b aA.out 6 (.int .i64 iA)
     have nE := Z5b aA.out 7 (.int .i64 kA)
     have oE := Z5b aA.out 8 (.int .i64 fA)
     have pE := Z5b aA.out 9 (.bool mA)
     have qE := Z5a aA.out 0
     have rE := Z5a aA.out 1
     have sE := Z5a aA.out 2
     have tE := Z5a aA.out 3
     have uE := Z5a aA.out 4
     have vE := Z5a aA.out 5
     have wE := Z5a aA.out 6
     have xE := Z5a aA.out 7
     have yE := Z5a aA.out 8
     have zE := Z5a aA.out 9
     go_wp2_with (first | ((with_reducible refine gate_callee (f := 60) rfl ?_); refine goesL_ (some 35) rfl rfl Try.func60 (by kernel_rfl) rfl #[.agg #[.int .i64 cA, .int .i64 dA, .int .i64 eA, .int .i64 nA, .int .i64 jA, .int .i64 gA, .int .i64 iA, .int .i64 kA, .int .i64 fA, .bool mA], .int .i64 1] rfl Z5j ?_; (with_reducible refine (spec_l05End.calls cA dA eA nA jA gA iA kA fA mA 1 KA OA TA YA cB KC bE fE YG hH _ A24.out).mono ?_); rintro e XK ⟨rfl, hb⟩; refine ⟨_, rfl, ?_⟩; have EA := Z5c (blk_below (g := qA) (o := .cells #[.int .i64 cA, .int .i64 dA, .int .i64 eA, .int .i64 nA, .int .i64 jA, .int .i64 gA, .int .i64 iA, .int .i64 kA, .int .i64 fA, .bool mA] 23 (0, 0)) Z5e hb); have FA := Z5c (blk_below (g := oA) (o := .cells #[.int .i64 0, .int .i64 0, .int .i64 0, .int .i64 0, .int .i64 0, .int .i64 0, .int .i64 0, .int .i64 0, .int .i64 0, .bool false] 23 (0, 0)) Z5f hb); have GA := Z5c (below_step Z5d hb); clear aA bA HB; have aA := EA; have bA := FA; have HB := GA; clear EA FA GA; (try clear hb); (try clear hb2); (try clear hk); (try clear hi); have AE := Z5b bA.out 0 (.int .i64 0); have BE := Z5b bA.out 1 (.int .i64 0); have CE := Z5b bA.out 2 (.int .i64 0); have DE := Z5b bA.out 3 (.int .i64 0); have EE := Z5b bA.out 4 (.int .i64 0); have FE := Z5b bA.out 5 (.int .i64 0); have GE := Z5b bA.out 6 (.int .i64 0); have HE := Z5b bA.out 7 (.int .i64 0); have IE := Z5b bA.out 8 (.int .i64 0); have JE := Z5b bA.out 9 (.bool false); have KE := Z5a bA.out 0; have LE := Z5a bA.out 1; have ME := Z5a bA.out 2; have NE := Z5a bA.out 3; have OE := Z5a bA.out 4; have PE := Z5a bA.out 5; have QE := Z5a bA.out 6; have RE := Z5a bA.out 7; have SE := Z5a bA.out 8; have TE := Z5a bA.out 9))
     refine bodyPost_ret (results_cell_row rfl _ _ oA 23 #[.int .i64 KA, .int .i64 OA, .int .i64 TA, .int .i64 YA, .int .i64 cB, .int .i64 KC, .int .i64 bE, .int .i64 fE, .int .i64 YG, .bool hH] (0, 0) _ rfl (by (with_reducible repeat (first | refine blk_drewN ?_ _ | refine blk_drew ?_ | refine blk_alloc ?_ _)); refine blk_put (cs := #[.int .i64 KA, .int .i64 OA, .int .i64 TA, .int .i64 YA, .int .i64 cB, .int .i64 KC, .int .i64 bE, .int .i64 fE, .int .i64 YG, .bool false]) ?_ 9 _ rfl; (with_reducible repeat (first | refine blk_drewN ?_ _ | refine blk_drew ?_ | refine blk_alloc ?_ _)); refine blk_put (cs := #[.int .i64 KA, .int .i64 OA, .int .i64 TA, .int .i64 YA, .int .i64 cB, .int .i64 KC, .int .i64 bE, .int .i64 fE, .int .i64 0, .bool false]) ?_ 8 _ rfl; (with_reducible repeat (first | refine blk_drewN ?_ _ | refine blk_drew ?_ | refine blk_alloc ?_ _)); refine blk_put (cs := #[.int .i64 KA, .int .i64 OA, .int .i64 TA, .int .i64 YA, .int .i64 cB, .int .i64 KC, .int .i64 bE, .int .i64 0, .int .i64 0, .bool false]) ?_ 7 _ rfl; (with_reducible repeat (first | refine blk_drewN ?_ _ | refine blk_drew ?_ | refine blk_alloc ?_ _)); refine blk_put (cs := #[.int .i64 KA, .int .i64 OA, .int .i64 TA, .int .i64 YA, .int .i64 cB, .int .i64 KC, .int .i64 0, .int .i64 0, .int .i64 0, .bool false]) ?_ 6 _ rfl; (with_reducible repeat (first | refine blk_drewN ?_ _ | refine blk_drew ?_ | refine blk_alloc ?_ _)); refine blk_put (cs := #[.int .i64 KA, .int .i64 OA, .int .i64 TA, .int .i64 YA, .int .i64 cB, .int .i64 0, .int .i64 0, .int .i64 0, .int .i64 0, .bool false]) ?_ 5 _ rfl; (with_reducible repeat (first | refine blk_drewN ?_ _ | refine blk_drew ?_ | refine blk_alloc ?_ _)); refine blk_put (cs := #[.int .i64 KA, .int .i64 OA, .int .i64 TA, .int .i64 YA, .int .i64 0, .int .i64 0, .int .i64 0, .int .i64 0, .int .i64 0, .bool false]) ?_ 4 _ rfl; (with_reducible repeat (first | refine blk_drewN ?_ _ | refine blk_drew ?_ | refine blk_alloc ?_ _)); refine blk_put (cs := #[.int .i64 KA, .int .i64 OA, .int .i64 TA, .int .i64 0, .int .i64 0, .int .i64 0, .int .i64 0, .int .i64 0, .int .i64 0, .bool false]) ?_ 3 _ rfl; (with_reducible repeat (first | refine blk_drewN ?_ _ | refine blk_drew ?_ | refine blk_alloc ?_ _)); refine blk_put (cs := #[.int .i64 KA, .int .i64 OA, .int .i64 0, .int .i64 0, .int .i64 0, .int .i64 0, .int .i64 0, .int .i64 0, .int .i64 0, .bool false]) ?_ 2 _ rfl; (with_reducible repeat (first | refine blk_drewN ?_ _ | refine blk_drew ?_ | refine blk_alloc ?_ _)); refine blk_put (cs := #[.int .i64 KA, .int .i64 0, .int .i64 0, .int .i64 0, .int .i64 0, .int .i64 0, .int .i64 0, .int .i64 0, .int .i64 0, .bool false]) ?_ 1 _ rfl; (with_reducible repeat (first | refine blk_drewN ?_ _ | refine blk_drew ?_ | refine blk_alloc ?_ _)); refine blk_put (cs := #[.int .i64 0, .int .i64 0, .int .i64 0, .int .i64 0, .int .i64 0, .int .i64 0, .int .i64 0, .int .i64 0, .int .i64 0, .bool false]) ?_ 0 _ rfl; (with_reducible repeat (first | refine blk_drewN ?_ _ | refine blk_drew ?_ | refine blk_alloc ?_ _)); exact bA.out) Try.underlying23 rfl (by kernel_rfl)) rfl ?_
     exact ⟨Z5g, Z5d⟩
    ·replace c23 := Bool.eq_false_iff.mpr c23
     subst c23
     rw [if_neg (show ¬ (false = true) by decide)] at H
     by_cases c29 : cA = 3
     ·rw [if_pos c29] at H
      have UG : (cA == 3) = true := beq_iff_eq.mpr c29
      have VG : (cA != 3) = false := bne_eq_false_iff_eq.mpr c29
      clear c29
      replace H := Option.bind_eq_some_iff.mp H
      obtain ⟨⟨LA, PA, UA, ZA, dB, LC, cE, UE, ZG, iH⟩, A300, H⟩ := H
      (try dsimp only at H)
      have A30 := Z5c A300
      clear A300
      simp only [Option.some.injEq, Prod.mk.injEq] at H
      obtain ⟨rfl, rfl, rfl, rfl, rfl, rfl, rfl, rfl, rfl, rfl⟩ := H
      have DK := lA.out
      have EK := hA.out
      have VE := Z5b aA.out 0 (.int .i64 cA)
      have WE := Z5b aA.out 1 (.int .i64 dA)
      have XE := Z5b aA.out 2 (.int .i64 eA)
      have YE := Z5b aA.out 3 (.int .i64 nA)
      have ZE := Z5b aA.out 4 (.int .i64 jA)
      have aF := Z5b aA.out 5 (.int .i64 gA)
      have bF := Z5b aA.out 6 (.int .i64 iA)
      have cF := Z5b aA.out 7 (.int .i64 kA)
      have dF := Z5b aA.out 8 (.int .i64 fA)
      have eF := Z5b aA.out 9 (.bool mA)
      have fF := Z5a aA.out 0
      have gF := Z5a aA.out 1
      have hF := Z5a aA.out 2
      have iF := Z5a aA.out 3
      have jF := Z5a aA.out 4
      have kF := Z5a aA.out 5
      have lF := Z5a aA.out 6
      have mF := Z5a aA.out 7
      have nF := Z5a aA.out 8
      have oF := Z5a aA.out 9
      go_wp2_with (first | ((with_reducible refine gate_callee (f := 60) rfl ?_); refine goesL_ (some 41) rfl rfl Try.func60 (by kernel_rfl) rfl #[.agg #[.int .i64 cA, .int .i64 dA, .int .i64 eA, .int .i64 nA, .int .i64 jA, .int .i64 gA, .int .i64 iA, .int .i64 kA, .int .i64 fA, .bool mA], .int .i64 4] rfl Z5j ?_; (with_reducible refine (spec_l05End.calls cA dA eA nA jA gA iA kA fA mA 4 LA PA UA ZA dB LC cE UE ZG iH _ A30.out).mono ?_); rintro e YK ⟨rfl, hb⟩; refine ⟨_, rfl, ?_⟩; have EA := Z5c (blk_below (g := qA) (o := .cells #[.int .i64 cA, .int .i64 dA, .int .i64 eA, .int .i64 nA, .int .i64 jA, .int .i64 gA, .int .i64 iA, .int .i64 kA, .int .i64 fA, .bool mA] 23 (0, 0)) Z5e hb); have FA := Z5c (blk_below (g := oA) (o := .cells #[.int .i64 0, .int .i64 0, .int .i64 0, .int .i64 0, .int .i64 0, .int .i64 0, .int .i64 0, .int .i64 0, .int .i64 0, .bool false] 23 (0, 0)) Z5f hb); have GA := Z5c (below_step Z5d hb); clear aA bA HB; have aA := EA; have bA := FA; have HB := GA; clear EA FA GA; (try clear hb); (try clear hb2); (try clear hk); (try clear hi); have pF := Z5b bA.out 0 (.int .i64 0); have qF := Z5b bA.out 1 (.int .i64 0); have rF := Z5b bA.out 2 (.int .i64 0); have sF := Z5b bA.out 3 (.int .i64 0); have tF := Z5b bA.out 4 (.int .i64 0); have uF := Z5b bA.out 5 (.int .i64 0); have vF := Z5b bA.out 6 (.int .i64 0); have wF := Z5b bA.out 7 (.int .i64 0); have xF := Z5b bA.out 8 (.int .i64 0); have yF := Z5b bA.out 9 (.bool false); have zF := Z5a bA.out 0; have AF := Z5a bA.out 1; have BF := Z5a bA.out 2; have CF := Z5a bA.out 3; have DF := Z5a bA.out 4; have EF := Z5a bA.out 5; have FF := Z5a bA.out 6; have GF := Z5a bA.out 7; have HF := Z5a bA.out 8; have IF := Z5a bA.out 9))
      refine bodyPost_ret (results_cell_row rfl _ _ oA 23 #[.int .i64 LA, .int .i64 PA, .int .i64 UA, .int .i64 ZA, .int .i64 dB, .int .i64 LC, .int .i64 cE, .int .i64 UE, .int .i64 ZG, .bool iH] (0, 0) _ rfl (by (with_reducible repeat (first | refine blk_drewN ?_ _ | refine blk_drew ?_ | refine blk_alloc ?_ _)); refine blk_put (cs := #[.int .i64 LA, .int .i64 PA, .int .i64 UA, .int .i64 ZA, .int .i64 dB, .int .i64 LC, .int .i64 cE, .int .i64 UE, .int .i64 ZG, .bool false]) ?_ 9 _ rfl; (with_reducible repeat (first | refine blk_drewN ?_ _ | refine blk_drew ?_ | refine blk_alloc ?_ _)); refine blk_put (cs := #[.int .i64 LA, .int .i64 PA, .int .i64 UA, .int .i64 ZA, .int .i64 dB, .int .i64 LC, .int .i64 cE, .int .i64 UE, .int .i64 0, .bool false]) ?_ 8 _ rfl; (with_reducible repeat (first | refine blk_drewN ?_ _ | refine blk_drew ?_ | refine blk_alloc ?_ _)); refine blk_put (cs := #[.int .i64 LA, .int .i64 PA, .int .i64 UA, .int .i64 ZA, .int .i64 dB, .int .i64 LC, .int .i64 cE, .int .i64 0, .int .i64 0, .bool false]) ?_ 7 _ rfl; (with_reducible repeat (first | refine blk_drewN ?_ _ | refine blk_drew ?_ | refine blk_alloc ?_ _)); refine blk_put (cs := #[.int .i64 LA, .int .i64 PA, .int .i64 UA, .int .i64 ZA, .int .i64 dB, .int .i64 LC, .int .i64 0, .int .i64 0, .int .i64 0, .bool false]) ?_ 6 _ rfl; (with_reducible repeat (first | refine blk_drewN ?_ _ | refine blk_drew ?_ | refine blk_alloc ?_ _)); refine blk_put (cs := #[.int .i64 LA, .int .i64 PA, .int .i64 UA, .int .i64 ZA, .int .i64 dB, .int .i64 0, .int .i64 0, .int .i64 0, .int .i64 0, .bool false]) ?_ 5 _ rfl; (with_reducible repeat (first | refine blk_drewN ?_ _ | refine blk_drew ?_ | refine blk_alloc ?_ _)); refine blk_put (cs := #[.int .i64 LA, .int .i64 PA, .int .i64 UA, .int .i64 ZA, .int .i64 0, .int .i64 0, .int .i64 0, .int .i64 0, .int .i64 0, .bool false]) ?_ 4 _ rfl; (with_reducible repeat (first | refine blk_drewN ?_ _ | refine blk_drew ?_ | refine blk_alloc ?_ _)); refine blk_put (cs := #[.int .i64 LA, .int .i64 PA, .int .i64 UA, .int .i64 0, .int .i64 0, .int .i64 0, .int .i64 0, .int .i64 0, .int .i64 0, .bool false]) ?_ 3 _ rfl; (with_reducible repeat (first | refine blk_drewN ?_ _ | refine blk_drew ?_ | refine blk_alloc ?_ _)); refine blk_put (cs := #[.int .i64 LA, .int .i64 PA, .int .i64 0, .int .i64 0, .int .i64 0, .int .i64 0, .int .i64 0, .int .i64 0, .int .i64 0, .bool false]) ?_ 2 _ rfl; (with_reducible repeat (first | refine blk_drewN ?_ _ | refine blk_drew ?_ | refine blk_alloc ?_ _)); refine blk_put (cs := #[.int .i64 LA, .int .i64 0, .int .i64 0, .int .i64 0, .int .i64 0, .int .i64 0, .int .i64 0, .int .i64 0, .int .i64 0, .bool false]) ?_ 1 _ rfl; (with_reducible repeat (first | refine blk_drewN ?_ _ | refine blk_drew ?_ | refine blk_alloc ?_ _)); refine blk_put (cs := #[.int .i64 0, .int .i64 0, .int .i64 0, .int .i64 0, .int .i64 0, .int .i64 0, .int .i64 0, .int .i64 0, .int .i64 0, .bool false]) ?_ 0 _ rfl; (with_reducible repeat (first | refine blk_drewN ?_ _ | refine blk_drew ?_ | refine blk_alloc ?_ _)); exact bA.out) Try.underlying23 rfl (by kernel_rfl)) rfl ?_
      exact ⟨Z5g, Z5d⟩
     ·rw [if_neg c29] at H
      have UG : (cA == 3) = false := beq_eq_false_iff_ne.mpr c29
      have VG : (cA != 3) = true := bne_iff_ne.mpr c29
      have HC35 := Z5c H
      clear H
      have FK := lA.out
      have GK := hA.out
      have JF := Z5b aA.out 0 (.int .i64 cA)
      have KF := Z5b aA.out 1 (.int .i64 dA)
      have LF := Z5b aA.out 2 (.int .i64 eA)
      have MF := Z5b aA.out 3 (.int .i64 nA)
      have NF := Z5b aA.out 4 (.int .i64 jA)
      have OF := Z5b aA.out 5 (.int .i64 gA)
      have PF := Z5b aA.out 6 (.int .i64 iA)
      have QF := Z5b aA.out 7 (.int .i64 kA)
      have RF := Z5b aA.out 8 (.int .i64 fA)
      have SF := Z5b aA.out 9 (.bool mA)
      have TF := Z5a aA.out 0
      have UF := Z5a aA.out 1
      have VF := Z5a aA.out 2
      have WF := Z5a aA.out 3
      have XF := Z5a aA.out 4
      have YF := Z5a aA.out 5
      have ZF := Z5a aA.out 6
      have aG := Z5a aA.out 7
      have bG := Z5a aA.out 8
      have cG := Z5a aA.out 9
      go_upto_region 9 with (fail)
      go_cut [42] (fun v42 wc => ∃ (kq : Nat) (VA : Bool), v42 = .bool VA ∧ Aside0 (spec_l05Key.j1 kq VA cA dA eA nA jA gA iA kA fA mA = some (r1, r2, r3, r4, r5, r6, r7, r8, r9, r10)) ∧ Aside0 (kq ≤ kj9) ∧ Aside0 (wc.heap[qA]? = some (.cells #[.int .i64 cA, .int .i64 dA, .int .i64 eA, .int .i64 nA, .int .i64 jA, .int .i64 gA, .int .i64 iA, .int .i64 kA, .int .i64 fA, .bool mA] 23 (0, 0))) ∧ Aside0 (wc.heap[oA]? = some (.cells #[.int .i64 0, .int .i64 0, .int .i64 0, .int .i64 0, .int .i64 0, .int .i64 0, .int .i64 0, .int .i64 0, .int .i64 0, .bool false] 23 (0, 0))) ∧ Aside0 (Below w.heap.size w wc))
      case first =>
       have H := HC35.out
       clear HC35
       by_cases c38 : cA = 1
       ·rw [if_pos c38] at H
        have SA : (cA == 1) = true := beq_iff_eq.mpr c38
        have WG : (cA != 1) = false := bne_eq_false_iff_eq.mpr c38
        clear c38
        (first | rw [SA] | (simp only [i64_w, i32_w]; rw [SA]) | skip)
        have H' := Z5c H
        clear H
        have HK := lA.out
        have IK := hA.out
        have dG := Z5b aA.out 0 (.int .i64 cA)
        have eG := Z5b aA.out 1 (.int .i64 dA)
        have fG := Z5b aA.out 2 (.int .i64 eA)
        have gG := Z5b aA.out 3 (.int .i64 nA)
        have hG := Z5b aA.out 4 (.int .i64 jA)
        have iG := Z5b aA.out 5 (.int .i64 gA)
        have jG := Z5b aA.out 6 (.int .i64 iA)
        have kG := Z5b aA.out 7 (.int .i64 kA)
        have lG := Z5b aA.out 8 (.int .i64 fA)
        have mG := Z5b aA.out 9 (.bool mA)
        have nG := Z5a aA.out 0
        have oG := Z5a aA.out 1
        have pG := Z5a aA.out 2
        have qG := Z5a aA.out 3
        have rG := Z5a aA.out 4
        have sG := Z5a aA.out 5
        have tG := Z5a aA.out 6
        have uG := Z5a aA.out 7
        have vG := Z5a aA.out 8
        have wG := Z5a aA.out 9
        go_wp2
        go_meet
        case rel => exact ⟨_, (decide (fA > dA)), (by first | rfl | (simp; done) | (simp [*]; done)), H', ⟨by have := HJ9.out; first | omega | exact Nat.le_refl _⟩, ⟨Z5e⟩, ⟨Z5f⟩, ⟨Z5d⟩⟩
       ·rw [if_neg c38] at H
        have SA : (cA == 1) = false := beq_eq_false_iff_ne.mpr c38
        have WG : (cA != 1) = true := bne_iff_ne.mpr c38
        (first | rw [SA] | (simp only [i64_w, i32_w]; rw [SA]) | skip)
        have H' := Z5c H
        clear H
        have JK := lA.out
        have KK := hA.out
        have xG := Z5b aA.out 0 (.int .i64 cA)
        have yG := Z5b aA.out 1 (.int .i64 dA)
        have zG := Z5b aA.out 2 (.int .i64 eA)
        have AG := Z5b aA.out 3 (.int .i64 nA)
        have BG := Z5b aA.out 4 (.int .i64 jA)
        have CG := Z5b aA.out 5 (.int .i64 gA)
        have DG := Z5b aA.out 6 (.int .i64 iA)
        have EG := Z5b aA.out 7 (.int .i64 kA)
        have FG := Z5b aA.out 8 (.int .i64 fA)
        have GG := Z5b aA.out 9 (.bool mA)
        have HG := Z5a aA.out 0
        have IG := Z5a aA.out 1
        have JG := Z5a aA.out 2
        have KG := Z5a aA.out 3
        have LG := Z5a aA.out 4
        have MG := Z5a aA.out 5
        have NG := Z5a aA.out 6
        have OG := Z5a aA.out 7
        have PG := Z5a aA.out 8
        have QG := Z5a aA.out 9
        go_wp2
        go_meet
        case rel => exact ⟨_, (false), (by first | rfl | (simp; done) | (simp [*]; done)), H', ⟨by have := HJ9.out; first | omega | exact Nat.le_refl _⟩, ⟨Z5e⟩, ⟨Z5f⟩, ⟨Z5d⟩⟩
      case rest =>
       clear HC35
       (try clear c1); (try clear c2); (try clear XG); (try clear p2); (try clear c3); (try clear c4); (try clear c5); (try clear c6); (try clear p6); (try clear c13); (try clear c15); (try clear JA); (try clear YD); (try clear c16); (try clear ZD); (try clear aE); (try clear c17); (try clear c19); (try clear c21); (try clear c23); (try clear c25); (try clear c29); (try clear UG); (try clear VG); (try clear c31); (try clear c36); (try clear c38); (try clear SA); (try clear WG); (try clear c39); (try clear c41); (try clear gB); (try clear hB); (try clear iB); (try clear jB); (try clear kB); (try clear lB); (try clear mB); (try clear nB); (try clear oB); (try clear pB); (try clear BB); (try clear CB); (try clear DB); (try clear EB); (try clear FB); (try clear GB); (try clear IB); (try clear JB); (try clear KB); (try clear LB); (try clear WB); (try clear XB); (try clear YB); (try clear ZB); (try clear aC); (try clear bC); (try clear cC); (try clear dC); (try clear eC); (try clear fC); (try clear qC); (try clear rC); (try clear sC); (try clear tC); (try clear uC); (try clear vC); (try clear wC); (try clear xC); (try clear yC); (try clear zC); (try clear gE); (try clear hE); (try clear iE); (try clear jE); (try clear kE); (try clear lE); (try clear mE); (try clear nE); (try clear oE); (try clear pE); (try clear AE); (try clear BE); (try clear CE); (try clear DE); (try clear EE); (try clear FE); (try clear GE); (try clear HE); (try clear IE); (try clear JE); (try clear VE); (try clear WE); (try clear XE); (try clear YE); (try clear ZE); (try clear aF); (try clear bF); (try clear cF); (try clear dF); (try clear eF); (try clear pF); (try clear qF); (try clear rF); (try clear sF); (try clear tF); (try clear uF); (try clear vF); (try clear wF); (try clear xF); (try clear yF); (try clear JF); (try clear KF); (try clear LF); (try clear MF); (try clear NF); (try clear OF); (try clear PF); (try clear QF); (try clear RF); (try clear SF); (try clear dG); (try clear eG); (try clear fG); (try clear gG); (try clear hG); (try clear iG); (try clear jG); (try clear kG); (try clear lG); (try clear mG); (try clear xG); (try clear yG); (try clear zG); (try clear AG); (try clear BG); (try clear CG); (try clear DG); (try clear EG); (try clear FG); (try clear GG); (try clear QC); (try clear RC); (try clear SC); (try clear TC); (try clear UC); (try clear VC); (try clear WC); (try clear XC); (try clear YC); (try clear ZC); (try clear kD); (try clear lD); (try clear mD); (try clear nD); (try clear oD); (try clear pD); (try clear qD); (try clear rD); (try clear sD); (try clear tD); (try clear ED); (try clear FD); (try clear GD); (try clear HD); (try clear ID); (try clear JD); (try clear KD); (try clear LD); (try clear MD); (try clear ND); (try clear qB); (try clear rB); (try clear sB); (try clear tB); (try clear uB); (try clear vB); (try clear wB); (try clear xB); (try clear yB); (try clear zB); (try clear MB); (try clear NB); (try clear OB); (try clear PB); (try clear QB); (try clear RB); (try clear SB); (try clear TB); (try clear UB); (try clear VB); (try clear gC); (try clear hC); (try clear iC); (try clear jC); (try clear kC); (try clear lC); (try clear mC); (try clear nC); (try clear oC); (try clear pC); (try clear AC); (try clear BC); (try clear CC); (try clear DC); (try clear EC); (try clear FC); (try clear GC); (try clear HC); (try clear IC); (try clear JC); (try clear qE); (try clear rE); (try clear sE); (try clear tE); (try clear uE); (try clear vE); (try clear wE); (try clear xE); (try clear yE); (try clear zE); (try clear KE); (try clear LE); (try clear ME); (try clear NE); (try clear OE); (try clear PE); (try clear QE); (try clear RE); (try clear SE); (try clear TE); (try clear fF); (try clear gF); (try clear hF); (try clear iF); (try clear jF); (try clear kF); (try clear lF); (try clear mF); (try clear nF); (try clear oF); (try clear zF); (try clear AF); (try clear BF); (try clear CF); (try clear DF); (try clear EF); (try clear FF); (try clear GF); (try clear HF); (try clear IF); (try clear TF); (try clear UF); (try clear VF); (try clear WF); (try clear XF); (try clear YF); (try clear ZF); (try clear aG); (try clear bG); (try clear cG); (try clear nG); (try clear oG); (try clear pG); (try clear qG); (try clear rG); (try clear sG); (try clear tG); (try clear uG); (try clear vG); (try clear wG); (try clear HG); (try clear IG); (try clear JG); (try clear KG); (try clear LG); (try clear MG); (try clear NG); (try clear OG); (try clear PG); (try clear QG); (try clear aD); (try clear bD); (try clear cD); (try clear dD); (try clear eD); (try clear fD); (try clear gD); (try clear hD); (try clear iD); (try clear jD); (try clear uD); (try clear vD); (try clear wD); (try clear xD); (try clear yD); (try clear zD); (try clear AD); (try clear BD); (try clear CD); (try clear DD); (try clear OD); (try clear PD); (try clear QD); (try clear RD); (try clear SD); (try clear TD); (try clear UD); (try clear VD); (try clear WD); (try clear XD); (try clear p2); (try clear p6)
       obtain ⟨kq, VA, rfl, HA, HJ34, aA, bA, HB⟩ := hcut
       cases kq with
       | zero => exact absurd HA.out (by simp [spec_l05Key.j1])
       | succ kj34 =>
        have H := HA.out
        clear HA
        simp only [spec_l05Key.j1] at H
        by_cases c43 : VA = true
        ·subst c43
         rw [if_pos rfl] at H
         simp only [Option.some.injEq, Prod.mk.injEq] at H
         obtain ⟨rfl, rfl, rfl, rfl, rfl, rfl, rfl, rfl, rfl, rfl⟩ := H
         have LK := lA.out
         have MK := hA.out
         have pH := Z5b aA.out 0 (.int .i64 cA)
         have qH := Z5b aA.out 1 (.int .i64 dA)
         have rH := Z5b aA.out 2 (.int .i64 eA)
         have sH := Z5b aA.out 3 (.int .i64 nA)
         have tH := Z5b aA.out 4 (.int .i64 jA)
         have uH := Z5b aA.out 5 (.int .i64 gA)
         have vH := Z5b aA.out 6 (.int .i64 iA)
         have wH := Z5b aA.out 7 (.int .i64 kA)
         have xH := Z5b aA.out 8 (.int .i64 fA)
         have yH := Z5b aA.out 9 (.bool mA)
         have zH := Z5a aA.out 0
         have AH := Z5a aA.out 1
         have BH := Z5a aA.out 2
         have CH := Z5a aA.out 3
         have DH := Z5a aA.out 4
         have EH := Z5a aA.out 5
         have FH := Z5a aA.out 6
         have GH := Z5a aA.out 7
         have HH := Z5a aA.out 8
         have IH := Z5a aA.out 9
         have JH := Z5b bA.out 0 (.int .i64 0)
         have KH := Z5b bA.out 1 (.int .i64 0)
         have LH := Z5b bA.out 2 (.int .i64 0)
         have MH := Z5b bA.out 3 (.int .i64 0)
         have NH := Z5b bA.out 4 (.int .i64 0)
         have OH := Z5b bA.out 5 (.int .i64 0)
         have PH := Z5b bA.out 6 (.int .i64 0)
         have QH := Z5b bA.out 7 (.int .i64 0)
         have RH := Z5b bA.out 8 (.int .i64 0)
         have SH := Z5b bA.out 9 (.bool false)
         have TH := Z5a bA.out 0
         have UH := Z5a bA.out 1
         have VH := Z5a bA.out 2
         have WH := Z5a bA.out 3
         have XH := Z5a bA.out 4
         have YH := Z5a bA.out 5
         have ZH := Z5a bA.out 6
         have aI := Z5a bA.out 7
         have bI := Z5a bA.out 8
         have cI := Z5a bA.out 9
         go_wp2
         refine bodyPost_ret (results_cell_row rfl _ _ oA 23 #[.int .i64 cA, .int .i64 dA, .int .i64 eA, .int .i64 4, .int .i64 jA, .int .i64 gA, .int .i64 iA, .int .i64 kA, .int .i64 fA, .bool mA] (0, 0) _ rfl (by (with_reducible repeat (first | refine blk_drewN ?_ _ | refine blk_drew ?_ | refine blk_alloc ?_ _)); refine blk_put (cs := #[.int .i64 cA, .int .i64 dA, .int .i64 eA, .int .i64 4, .int .i64 jA, .int .i64 gA, .int .i64 iA, .int .i64 kA, .int .i64 fA, .bool false]) ?_ 9 _ rfl; (with_reducible repeat (first | refine blk_drewN ?_ _ | refine blk_drew ?_ | refine blk_alloc ?_ _)); refine blk_put (cs := #[.int .i64 cA, .int .i64 dA, .int .i64 eA, .int .i64 4, .int .i64 jA, .int .i64 gA, .int .i64 iA, .int .i64 kA, .int .i64 0, .bool false]) ?_ 8 _ rfl; (with_reducible repeat (first | refine blk_drewN ?_ _ | refine blk_drew ?_ | refine blk_alloc ?_ _)); refine blk_put (cs := #[.int .i64 cA, .int .i64 dA, .int .i64 eA, .int .i64 4, .int .i64 jA, .int .i64 gA, .int .i64 iA, .int .i64 0, .int .i64 0, .bool false]) ?_ 7 _ rfl; (with_reducible repeat (first | refine blk_drewN ?_ _ | refine blk_drew ?_ | refine blk_alloc ?_ _)); refine blk_put (cs := #[.int .i64 cA, .int .i64 dA, .int .i64 eA, .int .i64 4, .int .i64 jA, .int .i64 gA, .int .i64 0, .int .i64 0, .int .i64 0, .bool false]) ?_ 6 _ rfl; (with_reducible repeat (first | refine blk_drewN ?_ _ | refine blk_drew ?_ | refine blk_alloc ?_ _)); refine blk_put (cs := #[.int .i64 cA, .int .i64 dA, .int .i64 eA, .int .i64 4, .int .i64 jA, .int .i64 0, .int .i64 0, .int .i64 0, .int .i64 0, .bool false]) ?_ 5 _ rfl; (with_reducible repeat (first | refine blk_drewN ?_ _ | refine blk_drew ?_ | refine blk_alloc ?_ _)); refine blk_put (cs := #[.int .i64 cA, .int .i64 dA, .int .i64 eA, .int .i64 4, .int .i64 0, .int .i64 0, .int .i64 0, .int .i64 0, .int .i64 0, .bool false]) ?_ 4 _ rfl; (with_reducible repeat (first | refine blk_drewN ?_ _ | refine blk_drew ?_ | refine blk_alloc ?_ _)); refine blk_put (cs := #[.int .i64 cA, .int .i64 dA, .int .i64 eA, .int .i64 0, .int .i64 0, .int .i64 0, .int .i64 0, .int .i64 0, .int .i64 0, .bool false]) ?_ 3 _ rfl; (with_reducible repeat (first | refine blk_drewN ?_ _ | refine blk_drew ?_ | refine blk_alloc ?_ _)); refine blk_put (cs := #[.int .i64 cA, .int .i64 dA, .int .i64 0, .int .i64 0, .int .i64 0, .int .i64 0, .int .i64 0, .int .i64 0, .int .i64 0, .bool false]) ?_ 2 _ rfl; (with_reducible repeat (first | refine blk_drewN ?_ _ | refine blk_drew ?_ | refine blk_alloc ?_ _)); refine blk_put (cs := #[.int .i64 cA, .int .i64 0, .int .i64 0, .int .i64 0, .int .i64 0, .int .i64 0, .int .i64 0, .int .i64 0, .int .i64 0, .bool false]) ?_ 1 _ rfl; (with_reducible repeat (first | refine blk_drewN ?_ _ | refine blk_drew ?_ | refine blk_alloc ?_ _)); refine blk_put (cs := #[.int .i64 0, .int .i64 0, .int .i64 0, .int .i64 0, .int .i64 0, .int .i64 0, .int .i64 0, .int .i64 0, .int .i64 0, .bool false]) ?_ 0 _ rfl; (with_reducible repeat (first | refine blk_drewN ?_ _ | refine blk_drew ?_ | refine blk_alloc ?_ _)); refine blk_far ?_ hA.out _; (with_reducible repeat (first | refine blk_drewN ?_ _ | refine blk_drew ?_ | refine blk_alloc ?_ _)); exact bA.out) Try.underlying23 rfl (by kernel_rfl)) rfl ?_
         exact ⟨Z5g, Z5d⟩
        ·replace c43 := Bool.eq_false_iff.mpr c43
         subst c43
         rw [if_neg (show ¬ (false = true) by decide)] at H
         by_cases c47 : cA = 2
         ·rw [if_pos c47] at H
          have jH : (cA == 2) = true := beq_iff_eq.mpr c47
          have kH : (cA != 2) = false := bne_eq_false_iff_eq.mpr c47
          clear c47
          by_cases c48 : fA = dA
          ·rw [if_pos c48] at H
           have lH : (fA == dA) = true := beq_iff_eq.mpr c48
           have mH : (fA != dA) = false := bne_eq_false_iff_eq.mpr c48
           clear c48
           simp only [Option.some.injEq, Prod.mk.injEq] at H
           obtain ⟨rfl, rfl, rfl, rfl, rfl, rfl, rfl, rfl, rfl, rfl⟩ := H
           have NK := lA.out
           have OK := hA.out
           have dI := Z5b aA.out 0 (.int .i64 cA)
           have eI := Z5b aA.out 1 (.int .i64 dA)
           have fI := Z5b aA.out 2 (.int .i64 eA)
           have gI := Z5b aA.out 3 (.int .i64 nA)
           have hI := Z5b aA.out 4 (.int .i64 jA)
           have iI := Z5b aA.out 5 (.int .i64 gA)
           have jI := Z5b aA.out 6 (.int .i64 iA)
           have kI := Z5b aA.out 7 (.int .i64 kA)
           have lI := Z5b aA.out 8 (.int .i64 fA)
           have mI := Z5b aA.out 9 (.bool mA)
           have nI := Z5a aA.out 0
           have oI := Z5a aA.out 1
           have pI := Z5a aA.out 2
           have qI := Z5a aA.out 3
           have rI := Z5a aA.out 4
           have sI := Z5a aA.out 5
           have tI := Z5a aA.out 6
           have uI := Z5a aA.out 7
           have vI := Z5a aA.out 8
           have wI := Z5a aA.out 9
           have xI := Z5b bA.out 0 (.int .i64 0)
           have yI := Z5b bA.out 1 (.int .i64 0)
           have zI := Z5b bA.out 2 (.int .i64 0)
           have AI := Z5b bA.out 3 (.int .i64 0)
           have BI := Z5b bA.out 4 (.int .i64 0)
           have CI := Z5b bA.out 5 (.int .i64 0)
           have DI := Z5b bA.out 6 (.int .i64 0)
           have EI := Z5b bA.out 7 (.int .i64 0)
           have FI := Z5b bA.out 8 (.int .i64 0)
           have GI := Z5b bA.out 9 (.bool false)
           have HI := Z5a bA.out 0
           have II := Z5a bA.out 1
           have JI := Z5a bA.out 2
           have KI := Z5a bA.out 3
           have LI := Z5a bA.out 4
           have MI := Z5a bA.out 5
           have NI := Z5a bA.out 6
           have OI := Z5a bA.out 7
           have PI := Z5a bA.out 8
           have QI := Z5a bA.out 9
           go_wp2
           refine bodyPost_ret (results_cell_row rfl _ _ oA 23 #[.int .i64 cA, .int .i64 dA, .int .i64 eA, .int .i64 7, .int .i64 jA, .int .i64 gA, .int .i64 iA, .int .i64 kA, .int .i64 fA, .bool mA] (0, 0) _ rfl (by (with_reducible repeat (first | refine blk_drewN ?_ _ | refine blk_drew ?_ | refine blk_alloc ?_ _)); refine blk_put (cs := #[.int .i64 cA, .int .i64 dA, .int .i64 eA, .int .i64 7, .int .i64 jA, .int .i64 gA, .int .i64 iA, .int .i64 kA, .int .i64 fA, .bool false]) ?_ 9 _ rfl; (with_reducible repeat (first | refine blk_drewN ?_ _ | refine blk_drew ?_ | refine blk_alloc ?_ _)); refine blk_put (cs := #[.int .i64 cA, .int .i64 dA, .int .i64 eA, .int .i64 7, .int .i64 jA, .int .i64 gA, .int .i64 iA, .int .i64 kA, .int .i64 0, .bool false]) ?_ 8 _ rfl; (with_reducible repeat (first | refine blk_drewN ?_ _ | refine blk_drew ?_ | refine blk_alloc ?_ _)); refine blk_put (cs := #[.int .i64 cA, .int .i64 dA, .int .i64 eA, .int .i64 7, .int .i64 jA, .int .i64 gA, .int .i64 iA, .int .i64 0, .int .i64 0, .bool false]) ?_ 7 _ rfl; (with_reducible repeat (first | refine blk_drewN ?_ _ | refine blk_drew ?_ | refine blk_alloc ?_ _)); refine blk_put (cs := #[.int .i64 cA, .int .i64 dA, .int .i64 eA, .int .i64 7, .int .i64 jA, .int .i64 gA, .int .i64 0, .int .i64 0, .int .i64 0, .bool false]) ?_ 6 _ rfl; (with_reducible repeat (first | refine blk_drewN ?_ _ | refine blk_drew ?_ | refine blk_alloc ?_ _)); refine blk_put (cs := #[.int .i64 cA, .int .i64 dA, .int .i64 eA, .int .i64 7, .int .i64 jA, .int .i64 0, .int .i64 0, .int .i64 0, .int .i64 0, .bool false]) ?_ 5 _ rfl; (with_reducible repeat (first | refine blk_drewN ?_ _ | refine blk_drew ?_ | refine blk_alloc ?_ _)); refine blk_put (cs := #[.int .i64 cA, .int .i64 dA, .int .i64 eA, .int .i64 7, .int .i64 0, .int .i64 0, .int .i64 0, .int .i64 0, .int .i64 0, .bool false]) ?_ 4 _ rfl; (with_reducible repeat (first | refine blk_drewN ?_ _ | refine blk_drew ?_ | refine blk_alloc ?_ _)); refine blk_put (cs := #[.int .i64 cA, .int .i64 dA, .int .i64 eA, .int .i64 0, .int .i64 0, .int .i64 0, .int .i64 0, .int .i64 0, .int .i64 0, .bool false]) ?_ 3 _ rfl; (with_reducible repeat (first | refine blk_drewN ?_ _ | refine blk_drew ?_ | refine blk_alloc ?_ _)); refine blk_put (cs := #[.int .i64 cA, .int .i64 dA, .int .i64 0, .int .i64 0, .int .i64 0, .int .i64 0, .int .i64 0, .int .i64 0, .int .i64 0, .bool false]) ?_ 2 _ rfl; (with_reducible repeat (first | refine blk_drewN ?_ _ | refine blk_drew ?_ | refine blk_alloc ?_ _)); refine blk_put (cs := #[.int .i64 cA, .int .i64 0, .int .i64 0, .int .i64 0, .int .i64 0, .int .i64 0, .int .i64 0, .int .i64 0, .int .i64 0, .bool false]) ?_ 1 _ rfl; (with_reducible repeat (first | refine blk_drewN ?_ _ | refine blk_drew ?_ | refine blk_alloc ?_ _)); refine blk_put (cs := #[.int .i64 0, .int .i64 0, .int .i64 0, .int .i64 0, .int .i64 0, .int .i64 0, .int .i64 0, .int .i64 0, .int .i64 0, .bool false]) ?_ 0 _ rfl; (with_reducible repeat (first | refine blk_drewN ?_ _ | refine blk_drew ?_ | refine blk_alloc ?_ _)); refine blk_far ?_ hA.out _; (with_reducible repeat (first | refine blk_drewN ?_ _ | refine blk_drew ?_ | refine blk_alloc ?_ _)); exact bA.out) Try.underlying23 rfl (by kernel_rfl)) rfl ?_
           exact ⟨Z5g, Z5d⟩
          ·rw [if_neg c48] at H
           have lH : (fA == dA) = false := beq_eq_false_iff_ne.mpr c48
           have mH : (fA != dA) = true := bne_iff_ne.mpr c48
           replace H := Option.bind_eq_some_iff.mp H
           obtain ⟨⟨MA, QA, WA, aB, eB, MC, dE, RG, aH, nH⟩, A520, H⟩ := H
           (try dsimp only at H)
           have A52 := Z5c A520
           clear A520
           simp only [Option.some.injEq, Prod.mk.injEq] at H
           obtain ⟨rfl, rfl, rfl, rfl, rfl, rfl, rfl, rfl, rfl, rfl⟩ := H
           have PK := lA.out
           have QK := hA.out
           have RI := Z5b aA.out 0 (.int .i64 cA)
           have SI := Z5b aA.out 1 (.int .i64 dA)
           have TI := Z5b aA.out 2 (.int .i64 eA)
           have UI := Z5b aA.out 3 (.int .i64 nA)
           have VI := Z5b aA.out 4 (.int .i64 jA)
           have WI := Z5b aA.out 5 (.int .i64 gA)
           have XI := Z5b aA.out 6 (.int .i64 iA)
           have YI := Z5b aA.out 7 (.int .i64 kA)
           have ZI := Z5b aA.out 8 (.int .i64 fA)
           have aJ := Z5b aA.out 9 (.bool mA)
           have bJ := Z5a aA.out 0
           have cJ := Z5a aA.out 1
           have dJ := Z5a aA.out 2
           have eJ := Z5a aA.out 3
           have fJ := Z5a aA.out 4
           have gJ := Z5a aA.out 5
           have hJ := Z5a aA.out 6
           have iJ := Z5a aA.out 7
           have jJ := Z5a aA.out 8
           have kJ := Z5a aA.out 9
           go_wp2_with (first | ((with_reducible refine gate_callee (f := 60) rfl ?_); refine goesL_ (some 69) rfl rfl Try.func60 (by kernel_rfl) rfl #[.agg #[.int .i64 cA, .int .i64 dA, .int .i64 eA, .int .i64 nA, .int .i64 jA, .int .i64 gA, .int .i64 iA, .int .i64 kA, .int .i64 fA, .bool mA], .int .i64 4] rfl Z5j ?_; (with_reducible refine (spec_l05End.calls cA dA eA nA jA gA iA kA fA mA 4 MA QA WA aB eB MC dE RG aH nH _ A52.out).mono ?_); rintro e ZK ⟨rfl, hb⟩; refine ⟨_, rfl, ?_⟩; have EA := Z5c (blk_below (g := qA) (o := .cells #[.int .i64 cA, .int .i64 dA, .int .i64 eA, .int .i64 nA, .int .i64 jA, .int .i64 gA, .int .i64 iA, .int .i64 kA, .int .i64 fA, .bool mA] 23 (0, 0)) Z5e hb); have FA := Z5c (blk_below (g := oA) (o := .cells #[.int .i64 0, .int .i64 0, .int .i64 0, .int .i64 0, .int .i64 0, .int .i64 0, .int .i64 0, .int .i64 0, .int .i64 0, .bool false] 23 (0, 0)) Z5f hb); have GA := Z5c (below_step Z5d hb); clear aA bA HB; have aA := EA; have bA := FA; have HB := GA; clear EA FA GA; (try clear hb); (try clear hb2); (try clear hk); (try clear hi); have lJ := Z5b bA.out 0 (.int .i64 0); have mJ := Z5b bA.out 1 (.int .i64 0); have nJ := Z5b bA.out 2 (.int .i64 0); have oJ := Z5b bA.out 3 (.int .i64 0); have pJ := Z5b bA.out 4 (.int .i64 0); have qJ := Z5b bA.out 5 (.int .i64 0); have rJ := Z5b bA.out 6 (.int .i64 0); have sJ := Z5b bA.out 7 (.int .i64 0); have tJ := Z5b bA.out 8 (.int .i64 0); have uJ := Z5b bA.out 9 (.bool false); have vJ := Z5a bA.out 0; have wJ := Z5a bA.out 1; have xJ := Z5a bA.out 2; have yJ := Z5a bA.out 3; have zJ := Z5a bA.out 4; have AJ := Z5a bA.out 5; have BJ := Z5a bA.out 6; have CJ := Z5a bA.out 7; have DJ := Z5a bA.out 8; have EJ := Z5a bA.out 9))
           refine bodyPost_ret (results_cell_row rfl _ _ oA 23 #[.int .i64 MA, .int .i64 QA, .int .i64 WA, .int .i64 aB, .int .i64 eB, .int .i64 MC, .int .i64 dE, .int .i64 RG, .int .i64 aH, .bool nH] (0, 0) _ rfl (by (with_reducible repeat (first | refine blk_drewN ?_ _ | refine blk_drew ?_ | refine blk_alloc ?_ _)); refine blk_put (cs := #[.int .i64 MA, .int .i64 QA, .int .i64 WA, .int .i64 aB, .int .i64 eB, .int .i64 MC, .int .i64 dE, .int .i64 RG, .int .i64 aH, .bool false]) ?_ 9 _ rfl; (with_reducible repeat (first | refine blk_drewN ?_ _ | refine blk_drew ?_ | refine blk_alloc ?_ _)); refine blk_put (cs := #[.int .i64 MA, .int .i64 QA, .int .i64 WA, .int .i64 aB, .int .i64 eB, .int .i64 MC, .int .i64 dE, .int .i64 RG, .int .i64 0, .bool false]) ?_ 8 _ rfl; (with_reducible repeat (first | refine blk_drewN ?_ _ | refine blk_drew ?_ | refine blk_alloc ?_ _)); refine blk_put (cs := #[.int .i64 MA, .int .i64 QA, .int .i64 WA, .int .i64 aB, .int .i64 eB, .int .i64 MC, .int .i64 dE, .int .i64 0, .int .i64 0, .bool false]) ?_ 7 _ rfl; (with_reducible repeat (first | refine blk_drewN ?_ _ | refine blk_drew ?_ | refine blk_alloc ?_ _)); refine blk_put (cs := #[.int .i64 MA, .int .i64 QA, .int .i64 WA, .int .i64 aB, .int .i64 eB, .int .i64 MC, .int .i64 0, .int .i64 0, .int .i64 0, .bool false]) ?_ 6 _ rfl; (with_reducible repeat (first | refine blk_drewN ?_ _ | refine blk_drew ?_ | refine blk_alloc ?_ _)); refine blk_put (cs := #[.int .i64 MA, .int .i64 QA, .int .i64 WA, .int .i64 aB, .int .i64 eB, .int .i64 0, .int .i64 0, .int .i64 0, .int .i64 0, .bool false]) ?_ 5 _ rfl; (with_reducible repeat (first | refine blk_drewN ?_ _ | refine blk_drew ?_ | refine blk_alloc ?_ _)); refine blk_put (cs := #[.int .i64 MA, .int .i64 QA, .int .i64 WA, .int .i64 aB, .int .i64 0, .int .i64 0, .int .i64 0, .int .i64 0, .int .i64 0, .bool false]) ?_ 4 _ rfl; (with_reducible repeat (first | refine blk_drewN ?_ _ | refine blk_drew ?_ | refine blk_alloc ?_ _)); refine blk_put (cs := #[.int .i64 MA, .int .i64 QA, .int .i64 WA, .int .i64 0, .int .i64 0, .int .i64 0, .int .i64 0, .int .i64 0, .int .i64 0, .bool false]) ?_ 3 _ rfl; (with_reducible repeat (first | refine blk_drewN ?_ _ | refine blk_drew ?_ | refine blk_alloc ?_ _)); refine blk_put (cs := #[.int .i64 MA, .int .i64 QA, .int .i64 0, .int .i64 0, .int .i64 0, .int .i64 0, .int .i64 0, .int .i64 0, .int .i64 0, .bool false]) ?_ 2 _ rfl; (with_reducible repeat (first | refine blk_drewN ?_ _ | refine blk_drew ?_ | refine blk_alloc ?_ _)); refine blk_put (cs := #[.int .i64 MA, .int .i64 0, .int .i64 0, .int .i64 0, .int .i64 0, .int .i64 0, .int .i64 0, .int .i64 0, .int .i64 0, .bool false]) ?_ 1 _ rfl; (with_reducible repeat (first | refine blk_drewN ?_ _ | refine blk_drew ?_ | refine blk_alloc ?_ _)); refine blk_put (cs := #[.int .i64 0, .int .i64 0, .int .i64 0, .int .i64 0, .int .i64 0, .int .i64 0, .int .i64 0, .int .i64 0, .int .i64 0, .bool false]) ?_ 0 _ rfl; (with_reducible repeat (first | refine blk_drewN ?_ _ | refine blk_drew ?_ | refine blk_alloc ?_ _)); exact bA.out) Try.underlying23 rfl (by kernel_rfl)) rfl ?_
           exact ⟨Z5g, Z5d⟩
         ·rw [if_neg c47] at H
          have jH : (cA == 2) = false := beq_eq_false_iff_ne.mpr c47
          have kH : (cA != 2) = true := bne_iff_ne.mpr c47
          replace H := Option.bind_eq_some_iff.mp H
          obtain ⟨⟨NA, RA, XA, bB, fB, NC, eE, SG, bH, oH⟩, A570, H⟩ := H
          (try dsimp only at H)
          have A57 := Z5c A570
          clear A570
          simp only [Option.some.injEq, Prod.mk.injEq] at H
          obtain ⟨rfl, rfl, rfl, rfl, rfl, rfl, rfl, rfl, rfl, rfl⟩ := H
          have RK := lA.out
          have SK := hA.out
          have FJ := Z5b aA.out 0 (.int .i64 cA)
          have GJ := Z5b aA.out 1 (.int .i64 dA)
          have HJ := Z5b aA.out 2 (.int .i64 eA)
          have IJ := Z5b aA.out 3 (.int .i64 nA)
          have JJ := Z5b aA.out 4 (.int .i64 jA)
          have KJ := Z5b aA.out 5 (.int .i64 gA)
          have LJ := Z5b aA.out 6 (.int .i64 iA)
          have MJ := Z5b aA.out 7 (.int .i64 kA)
          have NJ := Z5b aA.out 8 (.int .i64 fA)
          have OJ := Z5b aA.out 9 (.bool mA)
          have PJ := Z5a aA.out 0
          have QJ := Z5a aA.out 1
          have RJ := Z5a aA.out 2
          have SJ := Z5a aA.out 3
          have TJ := Z5a aA.out 4
          have UJ := Z5a aA.out 5
          have VJ := Z5a aA.out 6
          have WJ := Z5a aA.out 7
          have XJ := Z5a aA.out 8
          have YJ := Z5a aA.out 9
          go_wp2_with (first | ((with_reducible refine gate_callee (f := 60) rfl ?_); refine goesL_ (some 69) rfl rfl Try.func60 (by kernel_rfl) rfl #[.agg #[.int .i64 cA, .int .i64 dA, .int .i64 eA, .int .i64 nA, .int .i64 jA, .int .i64 gA, .int .i64 iA, .int .i64 kA, .int .i64 fA, .bool mA], .int .i64 4] rfl Z5j ?_; (with_reducible refine (spec_l05End.calls cA dA eA nA jA gA iA kA fA mA 4 NA RA XA bB fB NC eE SG bH oH _ A57.out).mono ?_); rintro e aL ⟨rfl, hb⟩; refine ⟨_, rfl, ?_⟩; have EA := Z5c (blk_below (g := qA) (o := .cells #[.int .i64 cA, .int .i64 dA, .int .i64 eA, .int .i64 nA, .int .i64 jA, .int .i64 gA, .int .i64 iA, .int .i64 kA, .int .i64 fA, .bool mA] 23 (0, 0)) Z5e hb); have FA := Z5c (blk_below (g := oA) (o := .cells #[.int .i64 0, .int .i64 0, .int .i64 0, .int .i64 0, .int .i64 0, .int .i64 0, .int .i64 0, .int .i64 0, .int .i64 0, .bool false] 23 (0, 0)) Z5f hb); have GA := Z5c (below_step Z5d hb); clear aA bA HB; have aA := EA; have bA := FA; have HB := GA; clear EA FA GA; (try clear hb); (try clear hb2); (try clear hk); (try clear hi); have ZJ := Z5b bA.out 0 (.int .i64 0); have aK := Z5b bA.out 1 (.int .i64 0); have bK := Z5b bA.out 2 (.int .i64 0); have cK := Z5b bA.out 3 (.int .i64 0); have dK := Z5b bA.out 4 (.int .i64 0); have eK := Z5b bA.out 5 (.int .i64 0); have fK := Z5b bA.out 6 (.int .i64 0); have gK := Z5b bA.out 7 (.int .i64 0); have hK := Z5b bA.out 8 (.int .i64 0); have iK := Z5b bA.out 9 (.bool false); have jK := Z5a bA.out 0; have kK := Z5a bA.out 1; have lK := Z5a bA.out 2; have mK := Z5a bA.out 3; have nK := Z5a bA.out 4; have oK := Z5a bA.out 5; have pK := Z5a bA.out 6; have qK := Z5a bA.out 7; have rK := Z5a bA.out 8; have sK := Z5a bA.out 9))
          refine bodyPost_ret (results_cell_row rfl _ _ oA 23 #[.int .i64 NA, .int .i64 RA, .int .i64 XA, .int .i64 bB, .int .i64 fB, .int .i64 NC, .int .i64 eE, .int .i64 SG, .int .i64 bH, .bool oH] (0, 0) _ rfl (by (with_reducible repeat (first | refine blk_drewN ?_ _ | refine blk_drew ?_ | refine blk_alloc ?_ _)); refine blk_put (cs := #[.int .i64 NA, .int .i64 RA, .int .i64 XA, .int .i64 bB, .int .i64 fB, .int .i64 NC, .int .i64 eE, .int .i64 SG, .int .i64 bH, .bool false]) ?_ 9 _ rfl; (with_reducible repeat (first | refine blk_drewN ?_ _ | refine blk_drew ?_ | refine blk_alloc ?_ _)); refine blk_put (cs := #[.int .i64 NA, .int .i64 RA, .int .i64 XA, .int .i64 bB, .int .i64 fB, .int .i64 NC, .int .i64 eE, .int .i64 SG, .int .i64 0, .bool false]) ?_ 8 _ rfl; (with_reducible repeat (first | refine blk_drewN ?_ _ | refine blk_drew ?_ | refine blk_alloc ?_ _)); refine blk_put (cs := #[.int .i64 NA, .int .i64 RA, .int .i64 XA, .int .i64 bB, .int .i64 fB, .int .i64 NC, .int .i64 eE, .int .i64 0, .int .i64 0, .bool false]) ?_ 7 _ rfl; (with_reducible repeat (first | refine blk_drewN ?_ _ | refine blk_drew ?_ | refine blk_alloc ?_ _)); refine blk_put (cs := #[.int .i64 NA, .int .i64 RA, .int .i64 XA, .int .i64 bB, .int .i64 fB, .int .i64 NC, .int .i64 0, .int .i64 0, .int .i64 0, .bool false]) ?_ 6 _ rfl; (with_reducible repeat (first | refine blk_drewN ?_ _ | refine blk_drew ?_ | refine blk_alloc ?_ _)); refine blk_put (cs := #[.int .i64 NA, .int .i64 RA, .int .i64 XA, .int .i64 bB, .int .i64 fB, .int .i64 0, .int .i64 0, .int .i64 0, .int .i64 0, .bool false]) ?_ 5 _ rfl; (with_reducible repeat (first | refine blk_drewN ?_ _ | refine blk_drew ?_ | refine blk_alloc ?_ _)); refine blk_put (cs := #[.int .i64 NA, .int .i64 RA, .int .i64 XA, .int .i64 bB, .int .i64 0, .int .i64 0, .int .i64 0, .int .i64 0, .int .i64 0, .bool false]) ?_ 4 _ rfl; (with_reducible repeat (first | refine blk_drewN ?_ _ | refine blk_drew ?_ | refine blk_alloc ?_ _)); refine blk_put (cs := #[.int .i64 NA, .int .i64 RA, .int .i64 XA, .int .i64 0, .int .i64 0, .int .i64 0, .int .i64 0, .int .i64 0, .int .i64 0, .bool false]) ?_ 3 _ rfl; (with_reducible repeat (first | refine blk_drewN ?_ _ | refine blk_drew ?_ | refine blk_alloc ?_ _)); refine blk_put (cs := #[.int .i64 NA, .int .i64 RA, .int .i64 0, .int .i64 0, .int .i64 0, .int .i64 0, .int .i64 0, .int .i64 0, .int .i64 0, .bool false]) ?_ 2 _ rfl; (with_reducible repeat (first | refine blk_drewN ?_ _ | refine blk_drew ?_ | refine blk_alloc ?_ _)); refine blk_put (cs := #[.int .i64 NA, .int .i64 0, .int .i64 0, .int .i64 0, .int .i64 0, .int .i64 0, .int .i64 0, .int .i64 0, .int .i64 0, .bool false]) ?_ 1 _ rfl; (with_reducible repeat (first | refine blk_drewN ?_ _ | refine blk_drew ?_ | refine blk_alloc ?_ _)); refine blk_put (cs := #[.int .i64 0, .int .i64 0, .int .i64 0, .int .i64 0, .int .i64 0, .int .i64 0, .int .i64 0, .int .i64 0, .int .i64 0, .bool false]) ?_ 0 _ rfl; (with_reducible repeat (first | refine blk_drewN ?_ _ | refine blk_drew ?_ | refine blk_alloc ?_ _)); exact bA.out) Try.underlying23 rfl (by kernel_rfl)) rfl ?_
          exact ⟨Z5g, Z5d⟩

end Go.Proofs.Ytjikobdblohphaa.PFnExactLiStep
