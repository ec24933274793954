-- Written by the session's own patched copy of the printer (wip/patch_print.py).
import Derived.Test.YtjikobdblohphaaPFnExactLiStepx0
import Derived.Test.YtjikobdblohphaaPFnExactLiStepx1
import Derived.Test.YtjikobdblohphaaPFnExactLiStepx3
namespace Go.Proofs.Ytjikobdblohphaa.PFnExactLiStep
open Go.RowKit Go.Proofs.YtjikobdblohphaaW.PrintWords Go.Proofs.YtjikobdblohphaaW.PrintLast Go.Proofs.YtjikobdblohphaaW.PrintMore
attribute [local go_sem] max2_int min2_int max_two min_two max_three min_three max_four min_four   -- for this text's walks alone
set_option linter.unusedVariables false
set_option linter.unusedSimpArgs false

theorem Z4b {w : World} {g : Nat} {t : TypeId} {cs : Array Value} (h : w.heap[g]? = some (.cells cs t (0, 0))) (i : Nat) (v : Value) (e : cs[i]? = some v := by rfl) : w.cell? ⟨g, i, none⟩ = some v := (blk_cell h i).trans e
theorem Z4c {p : Prop} (h : p) : Aside0 p := ⟨h⟩
theorem Z4a {w : World} {g : Nat} {t : TypeId} {cs : Array Value} (h : w.heap[g]? = some (.cells cs t (0, 0))) (i : Nat) : w.frozen? ⟨g, i, none⟩ = false := blk_frozen h i
theorem Z4d {p : Prop} (h : p := by repeat (first | (with_reducible first | exact HB.out | apply below_alloc | apply pw_below_drewN | apply below_drew1 | refine below_set ?_ sB.out | refine below_set ?_ RB.out) | exact HB.out)) : p := h
theorem Z4e {p : Prop} (h : p := by (with_reducible repeat (first | refine blk_drewN ?_ _ | refine blk_drew ?_ | refine blk_alloc ?_ _)); exact aA.out) : p := h
theorem Z4f {p : Prop} (h : p := by (with_reducible repeat (first | refine blk_drewN ?_ _ | refine blk_drew ?_ | refine blk_alloc ?_ _)); exact bA.out) : p := h
theorem Z4g {p : Prop} (h : p := by (try simp only [List.map_toArray, List.map_cons, List.map_nil]); first | done | rfl | (simp only [List.length_drop, List.length_take]; rfl)) : p := h
theorem Z4j {p : Prop} (h : p := by repeat (first | (with_reducible first | exact HB.out | apply below_alloc | apply pw_below_drewN | apply below_drew1 | refine below_set ?_ sB.out) | exact HB.out)) : p := h
theorem Z4h {p : Prop} (h : p := by first | rfl | (simp [errW_none, errW_some] <;> rfl) | (simp [*, errW_none, errW_some] <;> rfl)) : p := h
theorem Z4i {p : Prop} (h : p := by repeat (first | (with_reducible first | exact HB.out | apply below_alloc | apply pw_below_drewN | apply below_drew1) | exact HB.out)) : p := h
/-! ### spec_l05First: function 57 -/
def spec_l05First.j0 : Nat → Int → Bool → Int → Int → Int → Int → Int → Int → Int → Int → Int → Bool → Option (Int × Int × Int × Int × Int × Int × Int × Int × Int × Bool)
 | 0, _, _, _, _, _, _, _, _, _, _, _, _ => none
 | k + 1, x0, x5, sA, uA, vA, PA, wA, tA, xA, yA, zA, AA => if x5 = true then ((spec_l05Again.f sA uA vA PA wA tA xA yA zA AA).bind fun qA => (some (qA.1, qA.2.1, qA.2.2.1, qA.2.2.2.1, qA.2.2.2.2.1, qA.2.2.2.2.2.1, qA.2.2.2.2.2.2.1, qA.2.2.2.2.2.2.2.1, qA.2.2.2.2.2.2.2.2.1, qA.2.2.2.2.2.2.2.2.2))) else ((spec_l05There.f x0 tA).bind fun tB => (if tB = true then (some (sA, uA, vA, 1, wA, tA, xA, yA, zA, AA)) else (if sA = 1 then (some (sA, uA, vA, 4, wA, tA, xA, yA, zA, AA)) else ((spec_l05End.f sA uA vA PA wA tA xA yA zA AA 4).bind fun rA => (some (rA.1, rA.2.1, rA.2.2.1, rA.2.2.2.1, rA.2.2.2.2.1, rA.2.2.2.2.2.1, rA.2.2.2.2.2.2.1, rA.2.2.2.2.2.2.2.1, rA.2.2.2.2.2.2.2.2.1, rA.2.2.2.2.2.2.2.2.2))))))
def spec_l05First.f (k : Nat) (a0 : Int) (cA : Int) (eA : Int) (fA : Int) (lA : Int) (gA : Int) (dA : Int) (hA : Int) (iA : Int) (jA : Int) (kA : Bool) : Option (Int × Int × Int × Int × Int × Int × Int × Int × Int × Bool) := if (Int.tmod dA 2) = 1 then (spec_l05First.j0 k a0 (cA != 3) cA eA fA lA gA dA hA iA jA kA) else (spec_l05First.j0 k a0 false cA eA fA lA gA dA hA iA jA kA)
theorem spec_l05First.mono_l : ∀ k, (∀ y0 y1 y2 y3 y4 y5 y6 y7 y8 y9 y10 y11, LeO (spec_l05First.j0 k y0 y1 y2 y3 y4 y5 y6 y7 y8 y9 y10 y11) (spec_l05First.j0 (k + 1) y0 y1 y2 y3 y4 y5 y6 y7 y8 y9 y10 y11))
 | 0 => fun _ _ _ _ _ _ _ _ _ _ _ _ r h => by simp [spec_l05First.j0] at h
 | k + 1 => by
  have ih0 := spec_l05First.mono_l k
  ·intro y0 y1 y2 y3 y4 y5 y6 y7 y8 y9 y10 y11
   unfold spec_l05First.j0
   repeat' first
   | (with_reducible exact ih0 _ _ _ _ _ _ _ _ _ _ _ _)
   | (with_reducible exact LeO.refl _)
   | (with_reducible exact LeO.none _)
   | (with_reducible refine LeO.ite ?_ ?_)
   | (with_reducible refine LeO.bind ?_ (fun _ => ?_))
   | exact ih0 _ _ _ _ _ _ _ _ _ _ _ _
   | exact LeO.none _
   | refine LeO.ite ?_ ?_
   | refine LeO.bind ?_ (fun _ => ?_)
theorem spec_l05First.mono : ∀ a0 a1 a2 a3 a4 a5 a6 a7 a8 a9 a10 k, LeO (spec_l05First.f k a0 a1 a2 a3 a4 a5 a6 a7 a8 a9 a10) (spec_l05First.f (k + 1) a0 a1 a2 a3 a4 a5 a6 a7 a8 a9 a10) := by
 intro a0 a1 a2 a3 a4 a5 a6 a7 a8 a9 a10 k
 have ih0 := spec_l05First.mono_l k
 unfold spec_l05First.f
 repeat' first
   | (with_reducible exact ih0 _ _ _ _ _ _ _ _ _ _ _ _)
   | (with_reducible exact LeO.refl _)
   | (with_reducible exact LeO.none _)
   | (with_reducible refine LeO.ite ?_ ?_)
   | (with_reducible refine LeO.bind ?_ (fun _ => ?_))
   | exact ih0 _ _ _ _ _ _ _ _ _ _ _ _
   | exact LeO.none _
   | refine LeO.ite ?_ ?_
   | refine LeO.bind ?_ (fun _ => ?_)
set_option maxHeartbeats 8000000 in
set_option maxRecDepth 100000 in
theorem spec_l05First.calls (k : Nat) (a0 : Int) (cA : Int) (eA : Int) (fA : Int) (lA : Int) (gA : Int) (dA : Int) (hA : Int) (iA : Int) (jA : Int) (kA : Bool) (r1 : Int) (r2 : Int) (r3 : Int) (r4 : Int) (r5 : Int) (r6 : Int) (r7 : Int) (r8 : Int) (r9 : Int) (r10 : Bool) (w : World) (h : spec_l05First.f k a0 cA eA fA lA gA dA hA iA jA kA = some (r1, r2, r3, r4, r5, r6, r7, r8, r9, r10)) :
  Calls Try.prog 57 #[.int .i64 a0, .agg #[.int .i64 cA, .int .i64 eA, .int .i64 fA, .int .i64 lA, .int .i64 gA, .int .i64 dA, .int .i64 hA, .int .i64 iA, .int .i64 jA, .bool kA]] w fun e w' => e = .returned (.agg #[.int .i64 r1, .int .i64 r2, .int .i64 r3, .int .i64 r4, .int .i64 r5, .int .i64 r6, .int .i64 r7, .int .i64 r8, .int .i64 r9, .bool r10]) ∧ Below w.heap.size w w' := by
 have hu23 := Try.underlying23
 have HB := Z4c (Below.refl w.heap.size w)
 have H : (if (Int.tmod dA 2) = 1 then (spec_l05First.j0 k a0 (cA != 3) cA eA fA lA gA dA hA iA jA kA) else (spec_l05First.j0 k a0 false cA eA fA lA gA dA hA iA jA kA)) = some (r1, r2, r3, r4, r5, r6, r7, r8, r9, r10) := h
 clear h
 have HC3 := Z4c H
 clear H
 go_enter Try.func57, Try.ntmps57
 go_upto_region 1 with (first | ((with_reducible refine gate_dst (N := 3) rfl ?_); refine box_event ?hg (N := 3) ?hd (cs := #[.int .i64 cA, .int .i64 eA, .int .i64 fA, .int .i64 lA, .int .i64 gA, .int .i64 dA, .int .i64 hA, .int .i64 iA, .int .i64 jA, .bool kA]) (t := 23) ?hr ?_; (case hd => rfl); (case hg => rfl); (case hr => first | (go_simp; done) | (go_simp; rfl)); intro pA hg w4 hbox hb; have FA := Z4c (below_step Z4i hb); have GA := Z4c (hbox); have IA := Z4c ((by rw [hg]; exact (below_size Z4i) : w.heap.size ≤ pA)); have SB := Z4c ((by rw [hg]; exact (below_size Z4i) : w.heap.size ≤ pA)); clear HB; have HB := FA; have aA := GA; have kG := IA; have sB := SB; clear FA GA IA SB; clear hb hbox hg) | ((with_reducible refine gate_dst (N := 4) rfl ?_); refine box_event ?hg (N := 4) ?hd (cs := #[.int .i64 0, .int .i64 0, .int .i64 0, .int .i64 0, .int .i64 0, .int .i64 0, .int .i64 0, .int .i64 0, .int .i64 0, .bool false]) (t := 23) ?hr ?_; (case hd => rfl); (case hg => rfl); (case hr => first | (go_simp; done) | (go_simp; rfl)); intro oA hg w5 hbox hb; have FA := Z4c (blk_below (g := pA) (o := .cells #[.int .i64 cA, .int .i64 eA, .int .i64 fA, .int .i64 lA, .int .i64 gA, .int .i64 dA, .int .i64 hA, .int .i64 iA, .int .i64 jA, .bool kA] 23 (0, 0)) Z4e hb); have GA := Z4c (below_step Z4j hb); have IA := Z4c (hbox); have SB := Z4c ((by rw [hg]; exact (below_size Z4j) : w.heap.size ≤ oA)); have lG := Z4c ((by rw [hg]; exact (below_size Z4j) : w.heap.size ≤ oA)); have mG := Z4c ((by rw [hg]; exact Nat.ne_of_lt (blk_lt (g := pA) (o := .cells #[.int .i64 cA, .int .i64 eA, .int .i64 fA, .int .i64 lA, .int .i64 gA, .int .i64 dA, .int .i64 hA, .int .i64 iA, .int .i64 jA, .bool kA] 23 (0, 0)) Z4e) : pA ≠ oA)); have nG := Z4c ((by rw [hg]; exact Nat.ne_of_gt (blk_lt (g := pA) (o := .cells #[.int .i64 cA, .int .i64 eA, .int .i64 fA, .int .i64 lA, .int .i64 gA, .int .i64 dA, .int .i64 hA, .int .i64 iA, .int .i64 jA, .bool kA] 23 (0, 0)) Z4e) : oA ≠ pA)); clear aA HB; have aA := FA; have HB := GA; have bA := IA; have oG := SB; have RB := lG; have nA := mG; have mA := nG; clear FA GA IA SB lG mG nG; clear hb hbox hg))
 (try simp only [Act.put, List.setIfInBounds_toArray, List.set_cons_zero, List.set_cons_succ])
 go_cut [5] (fun v5 wc => ∃ (kq : Nat) (VA : Bool), v5 = .bool VA ∧ Aside0 (spec_l05First.j0 kq a0 VA cA eA fA lA gA dA hA iA jA kA = some (r1, r2, r3, r4, r5, r6, r7, r8, r9, r10)) ∧ Aside0 (kq ≤ k) ∧ Aside0 (wc.heap[pA]? = some (.cells #[.int .i64 cA, .int .i64 eA, .int .i64 fA, .int .i64 lA, .int .i64 gA, .int .i64 dA, .int .i64 hA, .int .i64 iA, .int .i64 jA, .bool kA] 23 (0, 0))) ∧ Aside0 (wc.heap[oA]? = some (.cells #[.int .i64 0, .int .i64 0, .int .i64 0, .int .i64 0, .int .i64 0, .int .i64 0, .int .i64 0, .int .i64 0, .int .i64 0, .bool false] 23 (0, 0))) ∧ Aside0 (Below w.heap.size w wc))
 case first =>
  have H := HC3.out
  clear HC3
  by_cases c6 : (Int.tmod dA 2) = 1
  ·rw [if_pos c6] at H
   have QA : ((Int.tmod dA 2) == 1) = true := beq_iff_eq.mpr c6
   have TB : ((Int.tmod dA 2) != 1) = false := bne_eq_false_iff_eq.mpr c6
   clear c6
   (first | rw [QA] | (simp only [i64_w, i32_w]; rw [QA]) | skip)
   have H' := Z4c H
   clear H
   have xG := nA.out
   have yG := mA.out
   have uB := Z4b aA.out 0 (.int .i64 cA)
   have vB := Z4b aA.out 1 (.int .i64 eA)
   have wB := Z4b aA.out 2 (.int .i64 fA)
   have xB := Z4b aA.out 3 (.int .i64 lA)
   have yB := Z4b aA.out 4 (.int .i64 gA)
   have zB := Z4b aA.out 5 (.int .i64 dA)
   have AB := Z4b aA.out 6 (.int .i64 hA)
   have BB := Z4b aA.out 7 (.int .i64 iA)
   have CB := Z4b aA.out 8 (.int .i64 jA)
   have DB := Z4b aA.out 9 (.bool kA)
   have EB := Z4a aA.out 0
   have FB := Z4a aA.out 1
   have GB := Z4a aA.out 2
   have IB := Z4a aA.out 3
   have JB := Z4a aA.out 4
   have KB := Z4a aA.out 5
   have LB := Z4a aA.out 6
   have MB := Z4a aA.out 7
   have NB := Z4a aA.out 8
   have OB := Z4a aA.out 9
   go_wp2
   go_meet
   case rel => exact ⟨_, ((cA != 3)), (by first | rfl | (simp; done) | (simp [*]; done)), H', ⟨by first | omega | exact Nat.le_refl _⟩, ⟨Z4e⟩, ⟨Z4f⟩, ⟨Z4d⟩⟩
  ·rw [if_neg c6] at H
   have QA : ((Int.tmod dA 2) == 1) = false := beq_eq_false_iff_ne.mpr c6
   have TB : ((Int.tmod dA 2) != 1) = true := bne_iff_ne.mpr c6
   (first | rw [QA] | (simp only [i64_w, i32_w]; rw [QA]) | skip)
   have H' := Z4c H
   clear H
   have zG := nA.out
   have AG := mA.out
   have WA := Z4b aA.out 0 (.int .i64 cA)
   have XA := Z4b aA.out 1 (.int .i64 eA)
   have YA := Z4b aA.out 2 (.int .i64 fA)
   have ZA := Z4b aA.out 3 (.int .i64 lA)
   have aB := Z4b aA.out 4 (.int .i64 gA)
   have bB := Z4b aA.out 5 (.int .i64 dA)
   have cB := Z4b aA.out 6 (.int .i64 hA)
   have dB := Z4b aA.out 7 (.int .i64 iA)
   have eB := Z4b aA.out 8 (.int .i64 jA)
   have fB := Z4b aA.out 9 (.bool kA)
   have gB := Z4a aA.out 0
   have hB := Z4a aA.out 1
   have iB := Z4a aA.out 2
   have jB := Z4a aA.out 3
   have kB := Z4a aA.out 4
   have lB := Z4a aA.out 5
   have mB := Z4a aA.out 6
   have nB := Z4a aA.out 7
   have oB := Z4a aA.out 8
   have pB := Z4a aA.out 9
   go_wp2
   go_meet
   case rel => exact ⟨_, (false), (by first | rfl | (simp; done) | (simp [*]; done)), H', ⟨by first | omega | exact Nat.le_refl _⟩, ⟨Z4e⟩, ⟨Z4f⟩, ⟨Z4d⟩⟩
 case rest =>
  clear HC3
  (try clear p2); (try clear c5); (try clear c6); (try clear QA); (try clear TB); (try clear c7); (try clear c9); (try clear WA); (try clear XA); (try clear YA); (try clear ZA); (try clear aB); (try clear bB); (try clear cB); (try clear dB); (try clear eB); (try clear fB); (try clear uB); (try clear vB); (try clear wB); (try clear xB); (try clear yB); (try clear zB); (try clear AB); (try clear BB); (try clear CB); (try clear DB); (try clear gB); (try clear hB); (try clear iB); (try clear jB); (try clear kB); (try clear lB); (try clear mB); (try clear nB); (try clear oB); (try clear pB); (try clear EB); (try clear FB); (try clear GB); (try clear IB); (try clear JB); (try clear KB); (try clear LB); (try clear MB); (try clear NB); (try clear OB)
  obtain ⟨kq, VA, rfl, HA, HJ2, aA, bA, HB⟩ := hcut
  cases kq with
  | zero => exact absurd HA.out (by simp [spec_l05First.j0])
  | succ kj2 =>
   have H := HA.out
   clear HA
   simp only [spec_l05First.j0] at H
   by_cases c11 : VA = true
   ·subst c11
    rw [if_pos rfl] at H
    replace H := Option.bind_eq_some_iff.mp H
    obtain ⟨⟨BA, DA, JA, LA, NA, RA, TA, qB, PB, UB⟩, A120, H⟩ := H
    (try dsimp only at H)
    have A12 := Z4c A120
    clear A120
    simp only [Option.some.injEq, Prod.mk.injEq] at H
    obtain ⟨rfl, rfl, rfl, rfl, rfl, rfl, rfl, rfl, rfl, rfl⟩ := H
    have pG := nA.out
    have qG := mA.out
    have YB := Z4b aA.out 0 (.int .i64 cA)
    have ZB := Z4b aA.out 1 (.int .i64 eA)
    have aC := Z4b aA.out 2 (.int .i64 fA)
    have bC := Z4b aA.out 3 (.int .i64 lA)
    have cC := Z4b aA.out 4 (.int .i64 gA)
    have dC := Z4b aA.out 5 (.int .i64 dA)
    have eC := Z4b aA.out 6 (.int .i64 hA)
    have fC := Z4b aA.out 7 (.int .i64 iA)
    have gC := Z4b aA.out 8 (.int .i64 jA)
    have hC := Z4b aA.out 9 (.bool kA)
    have iC := Z4a aA.out 0
    have jC := Z4a aA.out 1
    have kC := Z4a aA.out 2
    have lC := Z4a aA.out 3
    have mC := Z4a aA.out 4
    have nC := Z4a aA.out 5
    have oC := Z4a aA.out 6
    have pC := Z4a aA.out 7
    have qC := Z4a aA.out 8
    have rC := Z4a aA.out 9
    go_wp2_with (first | ((with_reducible refine gate_callee (f := 59) rfl ?_); refine goesL_ (some 16) rfl rfl Try.func59 (by kernel_rfl) rfl #[.agg #[.int .i64 cA, .int .i64 eA, .int .i64 fA, .int .i64 lA, .int .i64 gA, .int .i64 dA, .int .i64 hA, .int .i64 iA, .int .i64 jA, .bool kA]] rfl Z4g ?_; (with_reducible refine (spec_l05Again.calls cA eA fA lA gA dA hA iA jA kA BA DA JA LA NA RA TA qB PB UB _ A12.out).mono ?_); rintro e BG ⟨rfl, hb⟩; refine ⟨_, rfl, ?_⟩; have FA := Z4c (blk_below (g := pA) (o := .cells #[.int .i64 cA, .int .i64 eA, .int .i64 fA, .int .i64 lA, .int .i64 gA, .int .i64 dA, .int .i64 hA, .int .i64 iA, .int .i64 jA, .bool kA] 23 (0, 0)) Z4e hb); have GA := Z4c (blk_below (g := oA) (o := .cells #[.int .i64 0, .int .i64 0, .int .i64 0, .int .i64 0, .int .i64 0, .int .i64 0, .int .i64 0, .int .i64 0, .int .i64 0, .bool false] 23 (0, 0)) Z4f hb); have IA := Z4c (below_step Z4d hb); clear aA bA HB; have aA := FA; have bA := GA; have HB := IA; clear FA GA IA; (try clear hb); (try clear hb2); (try clear hk); (try clear hi); have sC := Z4b bA.out 0 (.int .i64 0); have tC := Z4b bA.out 1 (.int .i64 0); have uC := Z4b bA.out 2 (.int .i64 0); have vC := Z4b bA.out 3 (.int .i64 0); have wC := Z4b bA.out 4 (.int .i64 0); have xC := Z4b bA.out 5 (.int .i64 0); have yC := Z4b bA.out 6 (.int .i64 0); have zC := Z4b bA.out 7 (.int .i64 0); have AC := Z4b bA.out 8 (.int .i64 0); have BC := Z4b bA.out 9 (.bool false); have CC := Z4a bA.out 0; have DC := Z4a bA.out 1; have EC := Z4a bA.out 2; have FC := Z4a bA.out 3; have GC := Z4a bA.out 4; have HC := Z4a bA.out 5; have IC := Z4a bA.out 6; have JC := Z4a bA.out 7; have KC := Z4a bA.out 8; have LC := Z4a bA.out 9))
    refine bodyPost_ret (results_cell_row rfl _ _ oA 23 #[.int .i64 BA, .int .i64 DA, .int .i64 JA, .int .i64 LA, .int .i64 NA, .int .i64 RA, .int .i64 TA, .int .i64 qB, .int .i64 PB, .bool UB] (0, 0) _ rfl (by (with_reducible repeat (first | refine blk_drewN ?_ _ | refine blk_drew ?_ | refine blk_alloc ?_ _)); refine blk_put (cs := #[.int .i64 BA, .int .i64 DA, .int .i64 JA, .int .i64 LA, .int .i64 NA, .int .i64 RA, .int .i64 TA, .int .i64 qB, .int .i64 PB, .bool false]) ?_ 9 _ rfl; (with_reducible repeat (first | refine blk_drewN ?_ _ | refine blk_drew ?_ | refine blk_alloc ?_ _)); refine blk_put (cs := #[.int .i64 BA, .int .i64 DA, .int .i64 JA, .int .i64 LA, .int .i64 NA, .int .i64 RA, .int .i64 TA, .int .i64 qB, .int .i64 0, .bool false]) ?_ 8 _ rfl; (with_reducible repeat (first | refine blk_drewN ?_ _ | refine blk_drew ?_ | refine blk_alloc ?_ _)); refine blk_put (cs := #[.int .i64 BA, .int .i64 DA, .int .i64 JA, .int .i64 LA, .int .i64 NA, .int .i64 RA, .int .i64 TA, .int .i64 0, .int .i64 0, .bool false]) ?_ 7 _ rfl; (with_reducible repeat (first | refine blk_drewN ?_ _ | refine blk_drew ?_ | refine blk_alloc ?_ _)); refine blk_put (cs := #[.int .i64 BA, .int .i64 DA, .int .i64 JA, .int .i64 LA, .int .i64 NA, .int .i64 RA, .int .i64 0, .int .i64 0, .int .i64 0, .bool false]) ?_ 6 _ rfl; (with_reducible repeat (first | refine blk_drewN ?_ _ | refine blk_drew ?_ | refine blk_alloc ?_ _)); refine blk_put (cs := #[.int .i64 BA, .int .i64 DA, .int .i64 JA, .int .i64 LA, .int .i64 NA, .int .i64 0, .int .i64 0, .int .i64 0, .int .i64 0, .bool false]) ?_ 5 _ rfl; (with_reducible repeat (first | refine blk_drewN ?_ _ | refine blk_drew ?_ | refine blk_alloc ?_ _)); refine blk_put (cs := #[.int .i64 BA, .int .i64 DA, .int .i64 JA, .int .i64 LA, .int .i64 0, .int .i64 0, .int .i64 0, .int .i64 0, .int .i64 0, .bool false]) ?_ 4 _ rfl; (with_reducible repeat (first | refine blk_drewN ?_ _ | refine blk_drew ?_ | refine blk_alloc ?_ _)); refine blk_put (cs := #[.int .i64 BA, .int .i64 DA, .int .i64 JA, .int .i64 0, .int .i64 0, .int .i64 0, .int .i64 0, .int .i64 0, .int .i64 0, .bool false]) ?_ 3 _ rfl; (with_reducible repeat (first | refine blk_drewN ?_ _ | refine blk_drew ?_ | refine blk_alloc ?_ _)); refine blk_put (cs := #[.int .i64 BA, .int .i64 DA, .int .i64 0, .int .i64 0, .int .i64 0, .int .i64 0, .int .i64 0, .int .i64 0, .int .i64 0, .bool false]) ?_ 2 _ rfl; (with_reducible repeat (first | refine blk_drewN ?_ _ | refine blk_drew ?_ | refine blk_alloc ?_ _)); refine blk_put (cs := #[.int .i64 BA, .int .i64 0, .int .i64 0, .int .i64 0, .int .i64 0, .int .i64 0, .int .i64 0, .int .i64 0, .int .i64 0, .bool false]) ?_ 1 _ rfl; (with_reducible repeat (first | refine blk_drewN ?_ _ | refine blk_drew ?_ | refine blk_alloc ?_ _)); refine blk_put (cs := #[.int .i64 0, .int .i64 0, .int .i64 0, .int .i64 0, .int .i64 0, .int .i64 0, .int .i64 0, .int .i64 0, .int .i64 0, .bool false]) ?_ 0 _ rfl; (with_reducible repeat (first | refine blk_drewN ?_ _ | refine blk_drew ?_ | refine blk_alloc ?_ _)); exact bA.out) Try.underlying23 rfl (by kernel_rfl)) rfl ?_
    exact ⟨Z4h, Z4d⟩
   ·replace c11 := Bool.eq_false_iff.mpr c11
    subst c11
    rw [if_neg (show ¬ (false = true) by decide)] at H
    replace H := Option.bind_eq_some_iff.mp H
    obtain ⟨tB, A170, H⟩ := H
    (try dsimp only at H)
    have A17 := Z4c A170
    clear A170
    by_cases c18 : tB = true
    ·subst c18
     rw [if_pos rfl] at H
     simp only [Option.some.injEq, Prod.mk.injEq] at H
     obtain ⟨rfl, rfl, rfl, rfl, rfl, rfl, rfl, rfl, rfl, rfl⟩ := H
     have rG := nA.out
     have sG := mA.out
     have MC := Z4b aA.out 0 (.int .i64 cA)
     have NC := Z4b aA.out 1 (.int .i64 eA)
     have OC := Z4b aA.out 2 (.int .i64 fA)
     have PC := Z4b aA.out 3 (.int .i64 lA)
     have QC := Z4b aA.out 4 (.int .i64 gA)
     have RC := Z4b aA.out 5 (.int .i64 dA)
     have SC := Z4b aA.out 6 (.int .i64 hA)
     have TC := Z4b aA.out 7 (.int .i64 iA)
     have UC := Z4b aA.out 8 (.int .i64 jA)
     have VC := Z4b aA.out 9 (.bool kA)
     have WC := Z4a aA.out 0
     have XC := Z4a aA.out 1
     have YC := Z4a aA.out 2
     have ZC := Z4a aA.out 3
     have aD := Z4a aA.out 4
     have bD := Z4a aA.out 5
     have cD := Z4a aA.out 6
     have dD := Z4a aA.out 7
     have eD := Z4a aA.out 8
     have fD := Z4a aA.out 9
     go_wp2_with (first | ((with_reducible refine gate_callee (f := 65) rfl ?_); refine goesL_ (some 21) rfl rfl Try.func65 (by kernel_rfl) rfl #[.int .i64 a0, .int .i64 dA] rfl Z4g ?_; (with_reducible refine (spec_l05There.calls a0 dA true _ A17.out).mono ?_); rintro e w' ⟨rfl, ⟨nd, rfl⟩⟩; refine ⟨_, rfl, ?_⟩; (try (rw [drewN_self wc]; generalize hq_ : World.drewN wc _ = wc; have FA : Aside0 (wc.heap[pA]? = some (.cells #[.int .i64 cA, .int .i64 eA, .int .i64 fA, .int .i64 lA, .int .i64 gA, .int .i64 dA, .int .i64 hA, .int .i64 iA, .int .i64 jA, .bool kA] 23 (0, 0))) := ⟨by rw [← hq_]; exact Z4e⟩; have GA : Aside0 (wc.heap[oA]? = some (.cells #[.int .i64 0, .int .i64 0, .int .i64 0, .int .i64 0, .int .i64 0, .int .i64 0, .int .i64 0, .int .i64 0, .int .i64 0, .bool false] 23 (0, 0))) := ⟨by rw [← hq_]; exact Z4f⟩; have IA : Aside0 (Below w.heap.size w wc) := ⟨by rw [← hq_]; exact Z4d⟩; clear aA bA HB hq_; have aA := FA; have bA := GA; have HB := IA; clear FA GA IA)); have gD := Z4b aA.out 0 (.int .i64 cA); have hD := Z4b aA.out 1 (.int .i64 eA); have iD := Z4b aA.out 2 (.int .i64 fA); have jD := Z4b aA.out 3 (.int .i64 lA); have kD := Z4b aA.out 4 (.int .i64 gA); have lD := Z4b aA.out 5 (.int .i64 dA); have mD := Z4b aA.out 6 (.int .i64 hA); have nD := Z4b aA.out 7 (.int .i64 iA); have oD := Z4b aA.out 8 (.int .i64 jA); have pD := Z4b aA.out 9 (.bool kA); have qD := Z4a aA.out 0; have rD := Z4a aA.out 1; have sD := Z4a aA.out 2; have tD := Z4a aA.out 3; have uD := Z4a aA.out 4; have vD := Z4a aA.out 5; have wD := Z4a aA.out 6; have xD := Z4a aA.out 7; have yD := Z4a aA.out 8; have zD := Z4a aA.out 9; have AD := Z4b bA.out 0 (.int .i64 0); have BD := Z4b bA.out 1 (.int .i64 0); have CD := Z4b bA.out 2 (.int .i64 0); have DD := Z4b bA.out 3 (.int .i64 0); have ED := Z4b bA.out 4 (.int .i64 0); have FD := Z4b bA.out 5 (.int .i64 0); have GD := Z4b bA.out 6 (.int .i64 0); have HD := Z4b bA.out 7 (.int .i64 0); have ID := Z4b bA.out 8 (.int .i64 0); have JD := Z4b bA.out 9 (.bool false); have KD := Z4a bA.out 0; have LD := Z4a bA.out 1; have MD := Z4a bA.out 2; have ND := Z4a bA.out 3; have OD := Z4a bA.out 4; have PD := Z4a bA.out 5; have QD := Z4a bA.out 6; have RD := Z4a bA.out 7; have SD := Z4a bA.out 8; have TD := Z4a bA.out 9))
     refine bodyPost_ret (results_cell_row rfl _ _ oA 23 #[.int .i64 cA, .int .i64 eA, .int .i64 fA, .int .i64 1, .int .i64 gA, .int .i64 dA, .int .i64 hA, .int .i64 iA, .int .i64 jA, .bool kA] (0, 0) _ rfl (by (with_reducible repeat (first | refine blk_drewN ?_ _ | refine blk_drew ?_ | refine blk_alloc ?_ _)); refine blk_put (cs := #[.int .i64 cA, .int .i64 eA, .int .i64 fA, .int .i64 1, .int .i64 gA, .int .i64 dA, .int .i64 hA, .int .i64 iA, .int .i64 jA, .bool false]) ?_ 9 _ rfl; (with_reducible repeat (first | refine blk_drewN ?_ _ | refine blk_drew ?_ | refine blk_alloc ?_ _)); refine blk_put (cs := #[.int .i64 cA, .int .i64 eA, .int .i64 fA, .int .i64 1, .int .i64 gA, .int .i64 dA, .int .i64 hA, .int .i64 iA, .int .i64 0, .bool false]) ?_ 8 _ rfl; (with_reducible repeat (first | refine blk_drewN ?_ _ | refine blk_drew ?_ | refine blk_alloc ?_ _)); refine blk_put (cs := #[.int .i64 cA, .int .i64 eA, .int .i64 fA, .int .i64 1, .int .i64 gA, .int .i64 dA, .int .i64 hA, .int .i64 0, .int .i64 0, .bool false]) ?_ 7 _ rfl; (with_reducible repeat (first | refine blk_drewN ?_ _ | refine blk_drew ?_ | refine blk_alloc ?_ _)); refine blk_put (cs := #[.int .i64 cA, .int .i64 eA, .int .i64 fA, .int .i64 1, .int .i64 gA, .int .i64 dA, .int .i64 0, .int .i64 0, .int .i64 0, .bool false]) ?_ 6 _ rfl; (with_reducible repeat (first | refine blk_drewN ?_ _ | refine blk_drew ?_ | refine blk_alloc ?_ _)); refine blk_put (cs := #[.int .i64 cA, .int .i64 eA, .int .i64 fA, .int .i64 1, .int .i64 gA, .int .i64 0, .int .i64 0, .int .i64 0, .int .i64 0, .bool false]) ?_ 5 _ rfl; (with_reducible repeat (first | refine blk_drewN ?_ _ | refine blk_drew ?_ | refine blk_alloc ?_ _)); refine blk_put (cs := #[.int .i64 cA, .int .i64 eA, .int .i64 fA, .int .i64 1, .int .i64 0, .int .i64 0, .int .i64 0, .int .i64 0, .int .i64 0, .bool false]) ?_ 4 _ rfl; (with_reducible repeat (first | refine blk_drewN ?_ _ | refine blk_drew ?_ | refine blk_alloc ?_ _)); refine blk_put (cs := #[.int .i64 cA, .int .i64 eA, .int .i64 fA, .int .i64 0, .int .i64 0, .int .i64 0, .int .i64 0, .int .i64 0, .int .i64 0, .bool false]) ?_ 3 _ rfl; (with_reducible repeat (first | refine blk_drewN ?_ _ | refine blk_drew ?_ | refine blk_alloc ?_ _)); refine blk_put (cs := #[.int .i64 cA, .int .i64 eA, .int .i64 0, .int .i64 0, .int .i64 0, .int .i64 0, .int .i64 0, .int .i64 0, .int .i64 0, .bool false]) ?_ 2 _ rfl; (with_reducible repeat (first | refine blk_drewN ?_ _ | refine blk_drew ?_ | refine blk_alloc ?_ _)); refine blk_put (cs := #[.int .i64 cA, .int .i64 0, .int .i64 0, .int .i64 0, .int .i64 0, .int .i64 0, .int .i64 0, .int .i64 0, .int .i64 0, .bool false]) ?_ 1 _ rfl; (with_reducible repeat (first | refine blk_drewN ?_ _ | refine blk_drew ?_ | refine blk_alloc ?_ _)); refine blk_put (cs := #[.int .i64 0, .int .i64 0, .int .i64 0, .int .i64 0, .int .i64 0, .int .i64 0, .int .i64 0, .int .i64 0, .int .i64 0, .bool false]) ?_ 0 _ rfl; (with_reducible repeat (first | refine blk_drewN ?_ _ | refine blk_drew ?_ | refine blk_alloc ?_ _)); refine blk_far ?_ mA.out _; (with_reducible repeat (first | refine blk_drewN ?_ _ | refine blk_drew ?_ | refine blk_alloc ?_ _)); exact bA.out) Try.underlying23 rfl (by kernel_rfl)) rfl ?_
     exact ⟨Z4h, Z4d⟩
    ·replace c18 := Bool.eq_false_iff.mpr c18
     subst c18
     rw [if_neg (show ¬ (false = true) by decide)] at H
     by_cases c23 : cA = 1
     ·rw [if_pos c23] at H
      have VB : (cA == 1) = true := beq_iff_eq.mpr c23
      have WB : (cA != 1) = false := bne_eq_false_iff_eq.mpr c23
      clear c23
      simp only [Option.some.injEq, Prod.mk.injEq] at H
      obtain ⟨rfl, rfl, rfl, rfl, rfl, rfl, rfl, rfl, rfl, rfl⟩ := H
      have tG := nA.out
      have uG := mA.out
      have UD := Z4b aA.out 0 (.int .i64 cA)
      have VD := Z4b aA.out 1 (.int .i64 eA)
      have WD := Z4b aA.out 2 (.int .i64 fA)
      have XD := Z4b aA.out 3 (.int .i64 lA)
      have YD := Z4b aA.out 4 (.int .i64 gA)
      have ZD := Z4b aA.out 5 (.int .i64 dA)
      have aE := Z4b aA.out 6 (.int .i64 hA)
      have bE := Z4b aA.out 7 (.int .i64 iA)
      have cE := Z4b aA.out 8 (.int .i64 jA)
      have dE := Z4b aA.out 9 (.bool kA)
      have eE := Z4a aA.out 0
      have fE := Z4a aA.out 1
      have gE := Z4a aA.out 2
      have hE := Z4a aA.out 3
      have iE := Z4a aA.out 4
      have jE := Z4a aA.out 5
      have kE := Z4a aA.out 6
      have lE := Z4a aA.out 7
      have mE := Z4a aA.out 8
      have nE := Z4a aA.out 9
      go_wp2_with (first | ((with_reducible refine gate_callee (f := 65) rfl ?_); refine goesL_ (some 21) rfl rfl Try.func65 (by kernel_rfl) rfl #[.int .i64 a0, .int .i64 dA] rfl Z4g ?_; (with_reducible refine (spec_l05There.calls a0 dA false _ A17.out).mono ?_); rintro e w' ⟨rfl, ⟨nd, rfl⟩⟩; refine ⟨_, rfl, ?_⟩; (try (rw [drewN_self wc]; generalize hq_ : World.drewN wc _ = wc; have FA : Aside0 (wc.heap[pA]? = some (.cells #[.int .i64 cA, .int .i64 eA, .int .i64 fA, .int .i64 lA, .int .i64 gA, .int .i64 dA, .int .i64 hA, .int .i64 iA, .int .i64 jA, .bool kA] 23 (0, 0))) := ⟨by rw [← hq_]; exact Z4e⟩; have GA : Aside0 (wc.heap[oA]? = some (.cells #[.int .i64 0, .int .i64 0, .int .i64 0, .int .i64 0, .int .i64 0, .int .i64 0, .int .i64 0, .int .i64 0, .int .i64 0, .bool false] 23 (0, 0))) := ⟨by rw [← hq_]; exact Z4f⟩; have IA : Aside0 (Below w.heap.size w wc) := ⟨by rw [← hq_]; exact Z4d⟩; clear aA bA HB hq_; have aA := FA; have bA := GA; have HB := IA; clear FA GA IA)); have oE := Z4b aA.out 0 (.int .i64 cA); have pE := Z4b aA.out 1 (.int .i64 eA); have qE := Z4b aA.out 2 (.int .i64 fA); have rE := Z4b aA.out 3 (.int .i64 lA); have sE := Z4b aA.out 4 (.int .i64 gA); have tE := Z4b aA.out 5 (.int .i64 dA); have uE := Z4b aA.out 6 (.int .i64 hA); have vE := Z4b aA.out 7 (.int .i64 iA); have wE := Z4b aA.out 8 (.int .i64 jA); have xE := Z4b aA.out 9 (.bool kA); have yE := Z4a aA.out 0; have zE := Z4a aA.out 1; have AE := Z4a aA.out 2; have BE := Z4a aA.out 3; have CE := Z4a aA.out 4; have DE := Z4a aA.out 5; have EE := Z4a aA.out 6; have FE := Z4a aA.out 7; have GE := Z4a aA.out 8; have HE := Z4a aA.out 9; have IE := Z4b bA.out 0 (.int .i64 0); have JE := Z4b bA.out 1 (.int .i64 0); have KE := Z4b bA.out 2 (.int .i64 0); have LE := Z4b bA.out 3 (.int .i64 0); have ME := Z4b bA.out 4 (.int .i64 0); have NE := Z4b bA.out 5 (.int .i64 0); have OE := Z4b bA.out 6 (.int .i64 0); have PE := Z4b bA.out 7 (.int .i64 0); have QE := Z4b bA.out 8 (.int .i64 0); have RE := Z4b bA.out 9 (.bool false); have SE := Z4a bA.out 0; have TE := Z4a bA.out 1; have UE := Z4a bA.out 2; have VE := Z4a bA.out 3; have WE := Z4a bA.out 4; have XE := Z4a bA.out 5; have YE := Z4a bA.out 6; have ZE := Z4a bA.out 7; have aF := Z4a bA.out 8; have bF := Z4a bA.out 9))
      refine bodyPost_ret (results_cell_row rfl _ _ oA 23 #[.int .i64 cA, .int .i64 eA, .int .i64 fA, .int .i64 4, .int .i64 gA, .int .i64 dA, .int .i64 hA, .int .i64 iA, .int .i64 jA, .bool kA] (0, 0) _ rfl (by (with_reducible repeat (first | refine blk_drewN ?_ _ | refine blk_drew ?_ | refine blk_alloc ?_ _)); refine blk_put (cs := #[.int .i64 cA, .int .i64 eA, .int .i64 fA, .int .i64 4, .int .i64 gA, .int .i64 dA, .int .i64 hA, .int .i64 iA, .int .i64 jA, .bool false]) ?_ 9 _ rfl; (with_reducible repeat (first | refine blk_drewN ?_ _ | refine blk_drew ?_ | refine blk_alloc ?_ _)); refine blk_put (cs := #[.int .i64 cA, .int .i64 eA, .int .i64 fA, .int .i64 4, .int .i64 gA, .int .i64 dA, .int .i64 hA, .int .i64 iA, .int .i64 0, .bool false]) ?_ 8 _ rfl; (with_reducible repeat (first | refine blk_drewN ?_ _ | refine blk_drew ?_ | refine blk_alloc ?_ _)); refine blk_put (cs := #[.int .i64 cA, .int .i64 eA, .int .i64 fA, .int .i64 4, .int .i64 gA, .int .i64 dA, .int .i64 hA, .int .i64 0, .int .i64 0, .bool false]) ?_ 7 _ rfl; (with_reducible repeat (first | refine blk_drewN ?_ _ | refine blk_drew ?_ | refine blk_alloc ?_ _)); refine blk_put (cs := #[.int .i64 cA, .int .i64 eA, .int .i64 fA, .int .i64 4, .int .i64 gA, .int .i64 dA, .int .i64 0, .int .i64 0, .int .i64 0, .bool false]) ?_ 6 _ rfl; (with_reducible repeat (first | refine blk_drewN ?_ _ | refine blk_drew ?_ | refine blk_alloc ?_ _)); refine blk_put (cs := #[.int .i64 cA, .int .i64 eA, .int .i64 fA, .int .i64 4, .int .i64 gA, .int .i64 0, .int .i64 0, .int .i64 0, .int .i64 0, .bool false]) ?_ 5 _ rfl; (with_reducible repeat (first | refine blk_drewN ?_ _ | refine blk_drew ?_ | refine blk_alloc ?_ _)); refine blk_put (cs := #[.int .i64 cA, .int .i64 eA, .int .i64 fA, .int .i64 4, .int .i64 0, .int .i64 0, .int .i64 0, .int .i64 0, .int .i64 0, .bool false]) ?_ 4 _ rfl; (with_reducible repeat (first | refine blk_drewN ?_ _ | refine blk_drew ?_ | refine blk_alloc ?_ _)); refine blk_put (cs := #[.int .i64 cA, .int .i64 eA, .int .i64 fA, .int .i64 0, .int .i64 0, .int .i64 0, .int .i64 0, .int .i64 0, .int .i64 0, .bool false]) ?_ 3 _ rfl; (with_reducible repeat (first | refine blk_drewN ?_ _ | refine blk_drew ?_ | refine blk_alloc ?_ _)); refine blk_put (cs := #[.int .i64 cA, .int .i64 eA, .int .i64 0, .int .i64 0, .int .i64 0, .int .i64 0, .int .i64 0, .int .i64 0, .int .i64 0, .bool false]) ?_ 2 _ rfl; (with_reducible repeat (first | refine blk_drewN ?_ _ | refine blk_drew ?_ | refine blk_alloc ?_ _)); refine blk_put (cs := #[.int .i64 cA, .int .i64 0, .int .i64 0, .int .i64 0, .int .i64 0, .int .i64 0, .int .i64 0, .int .i64 0, .int .i64 0, .bool false]) ?_ 1 _ rfl; (with_reducible repeat (first | refine blk_drewN ?_ _ | refine blk_drew ?_ | refine blk_alloc ?_ _)); refine blk_put (cs := #[.int .i64 0, .int .i64 0, .int .i64 0, .int .i64 0, .int .i64 0, .int .i64 0, .int .i64 0, .int .i64 0, .int .i64 0, .bool false]) ?_ 0 _ rfl; (with_reducible repeat (first | refine blk_drewN ?_ _ | refine blk_drew ?_ | refine blk_alloc ?_ _)); refine blk_far ?_ mA.out _; (with_reducible repeat (first | refine blk_drewN ?_ _ | refine blk_drew ?_ | refine blk_alloc ?_ _)); exact bA.out) Try.underlying23 rfl (by kernel_rfl)) rfl ?_
      exact ⟨Z4h, Z4d⟩
     ·rw [if_neg c23] at H
      have VB : (cA == 1) = false := beq_eq_false_iff_ne.mpr c23
      have WB : (cA != 1) = true := bne_iff_ne.mpr c23
      replace H := Option.bind_eq_some_iff.mp H
      obtain ⟨⟨CA, EA, KA, MA, OA, SA, UA, rB, QB, XB⟩, A280, H⟩ := H
      (try dsimp only at H)
      have A28 := Z4c A280
      clear A280
      simp only [Option.some.injEq, Prod.mk.injEq] at H
      obtain ⟨rfl, rfl, rfl, rfl, rfl, rfl, rfl, rfl, rfl, rfl⟩ := H
      have vG := nA.out
      have wG := mA.out
      have cF := Z4b aA.out 0 (.int .i64 cA)
      have dF := Z4b aA.out 1 (.int .i64 eA)
      have eF := Z4b aA.out 2 (.int .i64 fA)
      have fF := Z4b aA.out 3 (.int .i64 lA)
      have gF := Z4b aA.out 4 (.int .i64 gA)
      have hF := Z4b aA.out 5 (.int .i64 dA)
      have iF := Z4b aA.out 6 (.int .i64 hA)
      have jF := Z4b aA.out 7 (.int .i64 iA)
      have kF := Z4b aA.out 8 (.int .i64 jA)
      have lF := Z4b aA.out 9 (.bool kA)
      have mF := Z4a aA.out 0
      have nF := Z4a aA.out 1
      have oF := Z4a aA.out 2
      have pF := Z4a aA.out 3
      have qF := Z4a aA.out 4
      have rF := Z4a aA.out 5
      have sF := Z4a aA.out 6
      have tF := Z4a aA.out 7
      have uF := Z4a aA.out 8
      have vF := Z4a aA.out 9
      go_wp2_with (first | ((with_reducible refine gate_callee (f := 65) rfl ?_); refine goesL_ (some 21) rfl rfl Try.func65 (by kernel_rfl) rfl #[.int .i64 a0, .int .i64 dA] rfl Z4g ?_; (with_reducible refine (spec_l05There.calls a0 dA false _ A17.out).mono ?_); rintro e w' ⟨rfl, ⟨nd, rfl⟩⟩; refine ⟨_, rfl, ?_⟩; (try (rw [drewN_self wc]; generalize hq_ : World.drewN wc _ = wc; have FA : Aside0 (wc.heap[pA]? = some (.cells #[.int .i64 cA, .int .i64 eA, .int .i64 fA, .int .i64 lA, .int .i64 gA, .int .i64 dA, .int .i64 hA, .int .i64 iA, .int .i64 jA, .bool kA] 23 (0, 0))) := ⟨by rw [← hq_]; exact Z4e⟩; have GA : Aside0 (wc.heap[oA]? = some (.cells #[.int .i64 0, .int .i64 0, .int .i64 0, .int .i64 0, .int .i64 0, .int .i64 0, .int .i64 0, .int .i64 0, .int .i64 0, .bool false] 23 (0, 0))) := ⟨by rw [← hq_]; exact Z4f⟩; have IA : Aside0 (Below w.heap.size w wc) := ⟨by rw [← hq_]; exact Z4d⟩; clear aA bA HB hq_; have aA := FA; have bA := GA; have HB := IA; clear FA GA IA)); have wF := Z4b aA.out 0 (.int .i64 cA); have xF := Z4b aA.out 1 (.int .i64 eA); have yF := Z4b aA.out 2 (.int .i64 fA); have zF := Z4b aA.out 3 (.int .i64 lA); have AF := Z4b aA.out 4 (.int .i64 gA); have BF := Z4b aA.out 5 (.int .i64 dA); have CF := Z4b aA.out 6 (.int .i64 hA); have DF := Z4b aA.out 7 (.int .i64 iA); have EF := Z4b aA.out 8 (.int .i64 jA); have FF := Z4b aA.out 9 (.bool kA); have GF := Z4a aA.out 0; have HF := Z4a aA.out 1; have IF := Z4a aA.out 2; have JF := Z4a aA.out 3; have KF := Z4a aA.out 4; have LF := Z4a aA.out 5; have MF := Z4a aA.out 6; have NF := Z4a aA.out 7; have OF := Z4a aA.out 8; have PF := Z4a aA.out 9) | ((with_reducible refine gate_callee (f := 60) rfl ?_); refine goesL_ (some 31) rfl rfl Try.func60 (by kernel_rfl) rfl #[.agg #[.int .i64 cA, .int .i64 eA, .int .i64 fA, .int .i64 lA, .int .i64 gA, .int .i64 dA, .int .i64 hA, .int .i64 iA, .int .i64 jA, .bool kA], .int .i64 4] rfl Z4g ?_; (with_reducible refine (spec_l05End.calls cA eA fA lA gA dA hA iA jA kA 4 CA EA KA MA OA SA UA rB QB XB _ A28.out).mono ?_); rintro e CG ⟨rfl, hb⟩; refine ⟨_, rfl, ?_⟩; have FA := Z4c (blk_below (g := pA) (o := .cells #[.int .i64 cA, .int .i64 eA, .int .i64 fA, .int .i64 lA, .int .i64 gA, .int .i64 dA, .int .i64 hA, .int .i64 iA, .int .i64 jA, .bool kA] 23 (0, 0)) Z4e hb); have GA := Z4c (blk_below (g := oA) (o := .cells #[.int .i64 0, .int .i64 0, .int .i64 0, .int .i64 0, .int .i64 0, .int .i64 0, .int .i64 0, .int .i64 0, .int .i64 0, .bool false] 23 (0, 0)) Z4f hb); have IA := Z4c (below_step Z4d hb); clear aA bA HB; have aA := FA; have bA := GA; have HB := IA; clear FA GA IA; (try clear hb); (try clear hb2); (try clear hk); (try clear hi); have QF := Z4b bA.out 0 (.int .i64 0); have RF := Z4b bA.out 1 (.int .i64 0); have SF := Z4b bA.out 2 (.int .i64 0); have TF := Z4b bA.out 3 (.int .i64 0); have UF := Z4b bA.out 4 (.int .i64 0); have VF := Z4b bA.out 5 (.int .i64 0); have WF := Z4b bA.out 6 (.int .i64 0); have XF := Z4b bA.out 7 (.int .i64 0); have YF := Z4b bA.out 8 (.int .i64 0); have ZF := Z4b bA.out 9 (.bool false); have aG := Z4a bA.out 0; have bG := Z4a bA.out 1; have cG := Z4a bA.out 2; have dG := Z4a bA.out 3; have eG := Z4a bA.out 4; have fG := Z4a bA.out 5; have gG := Z4a bA.out 6; have hG := Z4a bA.out 7; have iG := Z4a bA.out 8; have jG := Z4a bA.out 9))
      refine bodyPost_ret (results_cell_row rfl _ _ oA 23 #[.int .i64 CA, .int .i64 EA, .int .i64 KA, .int .i64 MA, .int .i64 OA, .int .i64 SA, .int .i64 UA, .int .i64 rB, .int .i64 QB, .bool XB] (0, 0) _ rfl (by (with_reducible repeat (first | refine blk_drewN ?_ _ | refine blk_drew ?_ | refine blk_alloc ?_ _)); refine blk_put (cs := #[.int .i64 CA, .int .i64 EA, .int .i64 KA, .int .i64 MA, .int .i64 OA, .int .i64 SA, .int .i64 UA, .int .i64 rB, .int .i64 QB, .bool false]) ?_ 9 _ rfl; (with_reducible repeat (first | refine blk_drewN ?_ _ | refine blk_drew ?_ | refine blk_alloc ?_ _)); refine blk_put (cs := #[.int .i64 CA, .int .i64 EA, .int .i64 KA, .int .i64 MA, .int .i64 OA, .int .i64 SA, .int .i64 UA, .int .i64 rB, .int .i64 0, .bool false]) ?_ 8 _ rfl; (with_reducible repeat (first | refine blk_drewN ?_ _ | refine blk_drew ?_ | refine blk_alloc ?_ _)); refine blk_put (cs := #[.int .i64 CA, .int .i64 EA, .int .i64 KA, .int .i64 MA, .int .i64 OA, .int .i64 SA, .int .i64 UA, .int .i64 0, .int .i64 0, .bool false]) ?_ 7 _ rfl; (with_reducible repeat (first | refine blk_drewN ?_ _ | refine blk_drew ?_ | refine blk_alloc ?_ _)); refine blk_put (cs := #[.int .i64 CA, .int .i64 EA, .int .i64 KA, .int .i64 MA, .int .i64 OA, .int .i64 SA, .int .i64 0, .int .i64 0, .int .i64 0, .bool false]) ?_ 6 _ rfl; (with_reducible repeat (first | refine blk_drewN ?_ _ | refine blk_drew ?_ | refine blk_alloc ?_ _)); refine blk_put (cs := #[.int .i64 CA, .int .i64 EA, .int .i64 KA, .int .i64 MA, .int .i64 OA, .int .i64 0, .int .i64 0, .int .i64 0, .int .i64 0, .bool false]) ?_ 5 _ rfl; (with_reducible repeat (first | refine blk_drewN ?_ _ | refine blk_drew ?_ | refine blk_alloc ?_ _)); refine blk_put (cs := #[.int .i64 CA, .int .i64 EA, .int .i64 KA, .int .i64 MA, .int .i64 0, .int .i64 0, .int .i64 0, .int .i64 0, .int .i64 0, .bool false]) ?_ 4 _ rfl; (with_reducible repeat (first | refine blk_drewN ?_ _ | refine blk_drew ?_ | refine blk_alloc ?_ _)); refine blk_put (cs := #[.int .i64 CA, .int .i64 EA, .int .i64 KA, .int .i64 0, .int .i64 0, .int .i64 0, .int .i64 0, .int .i64 0, .int .i64 0, .bool false]) ?_ 3 _ rfl; (with_reducible repeat (first | refine blk_drewN ?_ _ | refine blk_drew ?_ | refine blk_alloc ?_ _)); refine blk_put (cs := #[.int .i64 CA, .int .i64 EA, .int .i64 0, .int .i64 0, .int .i64 0, .int .i64 0, .int .i64 0, .int .i64 0, .int .i64 0, .bool false]) ?_ 2 _ rfl; (with_reducible repeat (first | refine blk_drewN ?_ _ | refine blk_drew ?_ | refine blk_alloc ?_ _)); refine blk_put (cs := #[.int .i64 CA, .int .i64 0, .int .i64 0, .int .i64 0, .int .i64 0, .int .i64 0, .int .i64 0, .int .i64 0, .int .i64 0, .bool false]) ?_ 1 _ rfl; (with_reducible repeat (first | refine blk_drewN ?_ _ | refine blk_drew ?_ | refine blk_alloc ?_ _)); refine blk_put (cs := #[.int .i64 0, .int .i64 0, .int .i64 0, .int .i64 0, .int .i64 0, .int .i64 0, .int .i64 0, .int .i64 0, .int .i64 0, .bool false]) ?_ 0 _ rfl; (with_reducible repeat (first | refine blk_drewN ?_ _ | refine blk_drew ?_ | refine blk_alloc ?_ _)); exact bA.out) Try.underlying23 rfl (by kernel_rfl)) rfl ?_
      exact ⟨Z4h, Z4d⟩

end Go.Proofs.Ytjikobdblohphaa.PFnExactLiStep
