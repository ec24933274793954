-- Written by the session's own patched copy of the printer (wip/patch_print.py).
import Derived.Test.YtgghglocfdcegaaPFnExactCrewNewx0
import Derived.Test.YtgghglocfdcegaaPFnExactCrewNewx5
import Derived.Test.YtgghglocfdcegaaPFnExactCrewNewx6
namespace Go.Proofs.Ytgghglocfdcegaa.PFnExactCrewNew
open Go.RowKit Go.Proofs.YtgghglocfdcegaaW.PrintWords Go.Proofs.YtgghglocfdcegaaW.PrintLast Go.Proofs.YtgghglocfdcegaaW.PrintMore
attribute [local go_sem] max2_int min2_int max_two min_two max_three min_three max_four min_four   -- for this text's walks alone
set_option linter.unusedVariables false
set_option linter.unusedSimpArgs false

theorem q7_p {P : Program} {ops : Array Oper} {Q : Exit → Act → World → Prop} {md : Region.Mode} {S : World → Prop} {ds : List Nat} (i n : Nat) {oi : Oper} {v : Value} {fuel : Nat} {l : Array Bool} {a : Act} {w : World} (l' : Array Bool) {a' : Act} (h : wpAnyLast P md ops Q S ds fuel l' a' w) (hi : ops[i]? = some oi := by rfl) (hN : oi.dst = some n := by rfl) (hc : anyB md ops l l' i = true := by exact any_of HT_.out (by kernel_rfl)) (hQ : ∀ c a w, Q (.panic c) (a.put oi.dst v) w → Q (.panic c) a w := by exact fun _ _ _ h => h) (hy : Yields P ops oi v a := by refine Or.inl ⟨by rfl, ?_⟩; intro w'; go_simp; with_reducible rfl) (ha : a.put (some n) v = a' := by simp only [Act.put, List.setIfInBounds_toArray, List.set_cons_zero, List.set_cons_succ, i64_w, i32_w]; rfl) : wpAnyLast P md ops Q S ds (fuel + 1) l a w := pure_ (N := some n) l' hi hN hc hQ hy ha h
theorem q7_u {P : Program} {ops : Array Oper} {Q : Exit → Act → World → Prop} {md : Region.Mode} {S : World → Prop} {ds : List Nat} (i n : Nat) {oi : Oper} {fuel : Nat} {l : Array Bool} {a : Act} {w : World} (l' : Array Bool) {a' : Act} (h : wpAnyLast P md ops Q S ds fuel l' a' w) (hi : ops[i]? = some oi := by rfl) (hN : oi.dst = some n := by rfl) (hc : anyB md ops l l' i = true := by exact any_of HT_.out (by kernel_rfl)) (hQ : ∀ c a w, Q (.panic c) (a.put oi.dst undef) w → Q (.panic c) a w := by exact fun _ _ _ h => h) (hy : Yields P ops oi undef a := by exact Or.inr ⟨by rfl, rfl⟩) (ha : a.put (some n) undef = a' := by simp only [Act.put, List.setIfInBounds_toArray, List.set_cons_zero, List.set_cons_succ, i64_w, i32_w]; rfl) : wpAnyLast P md ops Q S ds (fuel + 1) l a w := pure_ (N := some n) l' hi hN hc hQ hy ha h
open Bool renaming true → T, false → F
theorem q7_0 {p : Prop} (h : p := by repeat (first | (with_reducible first | exact HB.out | apply below_alloc | apply pw_below_drewN | apply below_drew1) | exact HB.out)) : p := h
theorem q7_1 {p : Prop} (h : p := by (with_reducible repeat (first | refine blk_drewN ?_ _ | refine blk_drew ?_ | refine blk_alloc ?_ _)); exact aA.out) : p := h
theorem q7_2 {p : Prop} (h : p := by repeat (first | (with_reducible first | exact HB.out | apply below_alloc | apply pw_below_drewN | apply below_drew1 | refine below_set ?_ oB.out) | exact HB.out)) : p := h
theorem q7_3 {p : Prop} (h : p := by repeat (first | (with_reducible first | exact HB.out | apply below_alloc | apply pw_below_drewN | apply below_drew1 | refine below_set ?_ oB.out | refine below_set ?_ FB.out) | exact HB.out)) : p := h
theorem q7_4 {p : Prop} (h : p := by (try simp only [List.map_toArray, List.map_cons, List.map_nil]); first | done | rfl | (simp only [List.length_drop, List.length_take]; rfl)) : p := h
theorem q7_5 {p : Prop} (h : p := by first | rfl | (simp [errW_none, errW_some] <;> rfl) | (simp [*, errW_none, errW_some] <;> rfl)) : p := h
theorem q7_6 {p : Prop} (h : p := by rw [hg]; exact Nat.ne_of_lt (blk_lt (g := cA) (o := .cells #[.int .i64 hA, .int .i64 iA, .slice oA fA.length pA, .slice rA gA.length sA, .int .i64 jA] 29 (0, 0)) q7_1)) : p := h
theorem q7_7 {p : Prop} (h : p := by rw [hg]; exact Nat.ne_of_gt (blk_lt (g := cA) (o := .cells #[.int .i64 hA, .int .i64 iA, .slice oA fA.length pA, .slice rA gA.length sA, .int .i64 jA] 29 (0, 0)) q7_1)) : p := h
theorem q7_8 {p : Prop} (h : p := by repeat (first | (with_reducible first | exact HB.out | apply below_alloc | apply pw_below_drewN | apply below_drew1 | refine below_set ?_ UB.out) | exact HB.out)) : p := h
theorem q7_9 {p : Prop} (h : p := by (with_reducible repeat (first | refine blk_drewN ?_ _ | refine blk_drew ?_ | refine blk_alloc ?_ _)); exact bA.out) : p := h
theorem q7_10 {p : Prop} (h : p := by (with_reducible repeat (first | refine blk_drewN ?_ _ | refine blk_drew ?_ | refine blk_alloc ?_ _)); exact QA.out) : p := h
theorem q7_11 {p : Prop} (h : p := by repeat (first | exact (Kd.C_below OC.out HB.out) | (with_reducible refine Kd.C_alloc ?_ _) | (with_reducible refine Kd.C_drewN ?_ _) | (with_reducible refine Kd.C_drew ?_))) : p := h
theorem q7_12 {p : Prop} (h : p := by repeat (first | exact (Kd.C_below PC.out HB.out) | (with_reducible refine Kd.C_alloc ?_ _) | (with_reducible refine Kd.C_drewN ?_ _) | (with_reducible refine Kd.C_drew ?_))) : p := h
theorem q7_13 {p : Prop} (h : p := by rw [hg]; exact (below_size q7_0)) : p := h
theorem q7_14 {p : Prop} (h : p := by first | (with_reducible assumption) | assumption) : p := h
theorem q7_15 {p : Prop} (h : p := by repeat (first | (with_reducible first | exact HK.out | apply Kept.alloc | apply Kept.drewN | apply Kept.drew) | exact HK.out)) : p := h
theorem q7_16 {p : Prop} (h : p := by repeat (first | exact (Kd.C_below QC.out HB.out) | (with_reducible refine Kd.C_alloc ?_ _) | (with_reducible refine Kd.C_drewN ?_ _) | (with_reducible refine Kd.C_drew ?_))) : p := h
theorem q7_17 {p : Prop} (h : p := by repeat (first | exact (Kd.C_below RC.out HB.out) | (with_reducible refine Kd.C_alloc ?_ _) | (with_reducible refine Kd.C_drewN ?_ _) | (with_reducible refine Kd.C_drew ?_))) : p := h
theorem q7_18 {p : Prop} (h : p := by rw [hg]; exact (below_size q7_2)) : p := h
theorem q7_19 {p : Prop} (h : p := by first | rfl | (simp; done) | (simp [*]; done)) : p := h
/-! ### laws_eqThreadS: function 16 -/
def laws_eqThreadS.l0 : Nat → List (S55) → List (S55) → Int → Option (Bool)
 | 0, _, _, _ => none
 | k + 1, x0, x1, x5 => if x5 < (x0.length : Int) then (if 0 ≤ x5 then (if x5 < (x1.length : Int) then ((laws_eqThread.f k ((rd_T55 x0 x5).f0) ((rd_T55 x0 x5).f1) ((rd_T55 x0 x5).f2) ((rd_T55 x0 x5).f3) ((rd_T55 x1 x5).f0) ((rd_T55 x1 x5).f1) ((rd_T55 x1 x5).f2) ((rd_T55 x1 x5).f3)).bind fun LC => (if LC = true then (laws_eqThreadS.l0 k x0 x1 (wrap64 (x5 + 1))) else (some false))) else (none)) else (none)) else (some true)
def laws_eqThreadS.f (k : Nat) (l0 : List (S55)) (l1 : List (S55)) : Option (Bool) := if (l0.length : Int) = (l1.length : Int) then (laws_eqThreadS.l0 k l0 l1 0) else (some false)
theorem laws_eqThreadS.mono_l : ∀ k, (∀ y0 y1 y2, LeO (laws_eqThreadS.l0 k y0 y1 y2) (laws_eqThreadS.l0 (k + 1) y0 y1 y2))
 | 0 => fun _ _ _ r h => by simp [laws_eqThreadS.l0] at h
 | k + 1 => by
  have ih0 := laws_eqThreadS.mono_l k
  ·intro y0 y1 y2
   unfold laws_eqThreadS.l0
   repeat' first
   | (with_reducible exact ih0 _ _ _)
   | (with_reducible exact laws_eqThread.mono _ _ _ _ _ _ _ _ _)
   | (with_reducible exact LeO.refl _)
   | (with_reducible exact LeO.none _)
   | (with_reducible refine LeO.ite ?_ ?_)
   | (with_reducible refine LeO.bind ?_ (fun _ => ?_))
   | exact ih0 _ _ _
   | exact laws_eqThread.mono _ _ _ _ _ _ _ _ _
   | exact LeO.none _
   | refine LeO.ite ?_ ?_
   | refine LeO.bind ?_ (fun _ => ?_)
theorem laws_eqThreadS.mono : ∀ a0 a1 k, LeO (laws_eqThreadS.f k a0 a1) (laws_eqThreadS.f (k + 1) a0 a1) := by
 intro a0 a1 k
 have ih0 := laws_eqThreadS.mono_l k
 unfold laws_eqThreadS.f
 repeat' first
   | (with_reducible exact ih0 _ _ _)
   | (with_reducible exact laws_eqThread.mono _ _ _ _ _ _ _ _ _)
   | (with_reducible exact LeO.refl _)
   | (with_reducible exact LeO.none _)
   | (with_reducible refine LeO.ite ?_ ?_)
   | (with_reducible refine LeO.bind ?_ (fun _ => ?_))
   | exact ih0 _ _ _
   | exact laws_eqThread.mono _ _ _ _ _ _ _ _ _
   | exact LeO.none _
   | refine LeO.ite ?_ ?_
   | refine LeO.bind ?_ (fun _ => ?_)
def laws_eqThreadS.T6 : Bool × List (List Nat × List Nat) := (true, [([], []), ([], []), ([0, 1], [0, 1]), ([2], [2]), ([], []), ([], []), ([4, 5], [4, 5]), ([6], [6]), ([3, 7], [3, 7]), ([8], [8])])
def laws_eqThreadS.B6 : List Nat := [0, 0, 3, 7, 0, 0, 48, 112, 255, 511]
theorem laws_eqThreadS.tab6 : rtab .any (opsOf Try.f16 6) = laws_eqThreadS.T6 := by kernel_rfl
theorem laws_eqThreadS.bits6 : waitsOk laws_eqThreadS.T6.2 laws_eqThreadS.B6 = true := by kernel_rfl
set_option maxHeartbeats 8000000 in
set_option maxRecDepth 100000 in
theorem laws_eqThreadS.calls (k : Nat) (A0 : Option Addr) (c0 : Nat) (l0 : List (S55)) (A1 : Option Addr) (c1 : Nat) (l1 : List (S55)) (r : Bool) (w : World) (hr0 : Kd.C k55 w A0 l0.length l0) (hc0 : l0.length ≤ c0) (hr1 : Kd.C k55 w A1 l1.length l1) (hc1 : l1.length ≤ c1) (h : laws_eqThreadS.f k l0 l1 = some r) :
  Calls Try.prog 16 #[.slice A0 l0.length c0, .slice A1 l1.length c1] w fun e w' => e = .returned (.bool r) ∧ Below w.heap.size w w' := by
 have hu55 := Try.underlying55
 have HR0 := Aside0.mk hr0
 clear hr0 hc0
 have HR1 := Aside0.mk hr1
 clear hr1 hc1
 have HB := Aside0.mk (Below.refl w.heap.size w)
 have H : (if (l0.length : Int) = (l1.length : Int) then (laws_eqThreadS.l0 k l0 l1 0) else (some false)) = some r := h
 clear h
 by_cases c3 : (l0.length : Int) = (l1.length : Int)
 ·rw [if_pos c3] at H
  have YB : ((l0.length : Int) == (l1.length : Int)) = true := beq_iff_eq.mpr c3
  have pC : ((l0.length : Int) != (l1.length : Int)) = false := bne_eq_false_iff_eq.mpr c3
  have SC : (l0.length == l1.length) = true := by first | simpa using c3 | (simp at c3 ⊢; omega)
  clear c3
  have H' := Aside0.mk H
  clear H
  go_enter Try.func16, Try.ntmps16
  go_wp2
  go_loopg [5] k (fun kq v5 w' => ∃ (eA : Int), v5 = .int .i64 eA ∧ Aside0 (laws_eqThreadS.l0 kq l0 l1 eA = some r) ∧ Aside0 (kq ≤ k) ∧ Aside0 (Below w.heap.size w w'))
  case atStart => exact ⟨(0), q7_19, H', ⟨Nat.le_refl _⟩, ⟨q7_0⟩⟩
  case round =>
   clear H'
   (try clear c1); (try clear p2); (try clear c3); (try clear YB); (try clear pC); (try clear SC)
   obtain ⟨eA, rfl, HA, HK1, HB⟩ := hrel
   cases gk with
   | zero => exact absurd HA.out (by simp [laws_eqThreadS.l0])
   | succ k1 =>
    have H := HA.out
    clear HA
    simp only [laws_eqThreadS.l0] at H
    by_cases c4 : eA < (l0.length : Int)
    ·rw [if_pos c4] at H
     have qC : decide (eA < (l0.length : Int)) = true := decide_eq_true c4
     clear c4
     by_cases c5 : 0 ≤ eA
     ·rw [if_pos c5] at H
      have BH : decide (0 ≤ eA) = true := decide_eq_true c5
      clear c5
      by_cases c6 : eA < (l1.length : Int)
      ·rw [if_pos c6] at H
       have CH : decide (eA < (l1.length : Int)) = true := decide_eq_true c6
       clear c6
       replace H := Option.bind_eq_some_iff.mp H
       obtain ⟨LC, A70, H⟩ := H
       (try dsimp only at H)
       have A7 := Aside0.mk A70
       clear A70
       by_cases c8 : LC = true
       ·subst c8
        rw [if_pos rfl] at H
        have H' := Aside0.mk H
        clear H
        try go_wp2
        have kA := Aside0.mk (below_drew1 HB.out)
        clear HB
        have HB := kA
        clear kA
        have p380 : 0 ≤ (eA : Int) := of_decide_eq_true q7_14
        have q380 : eA < (l0.length : Int) := of_decide_eq_true q7_14
        obtain ⟨ad380, pB, qB, rB, sB, tB, uB, MC, AA, BA, CA, DA, RA, SA, TA, UA, VA, WA⟩ := at_T55 HR0.out eA p380 q380
        have hw380_3 := DA
        have hw380_2 := CA
        have hw380_1 := BA
        have hw380_0 := AA
        cases MC
        replace AA := (HB.out.cell (World.block_lt_of_cell? w _ AA)).trans AA
        replace BA := (HB.out.cell (World.block_lt_of_cell? w _ BA)).trans BA
        replace CA := (HB.out.cell (World.block_lt_of_cell? w _ CA)).trans CA
        replace DA := (HB.out.cell (World.block_lt_of_cell? w _ DA)).trans DA
        have XA := Aside0.mk SA
        have GB := Aside0.mk RA
        clear SA RA
        have YA := Aside0.mk UA
        have IB := Aside0.mk TA
        clear UA TA
        have ZA := Aside0.mk WA
        have JB := Aside0.mk VA
        clear WA VA
        replace p380 := eq_true p380
        replace q380 := eq_true q380
        have p381 : 0 ≤ (eA : Int) := of_decide_eq_true q7_14
        have q381 : eA < (l1.length : Int) := of_decide_eq_true q7_14
        obtain ⟨ad381, vB, wB, xB, yB, zB, AB, NC, EA, FA, GA, IA, aB, bB, cB, dB, eB, fB⟩ := at_T55 HR1.out eA p381 q381
        have hw381_3 := IA
        have hw381_2 := GA
        have hw381_1 := FA
        have hw381_0 := EA
        cases NC
        replace EA := (HB.out.cell (World.block_lt_of_cell? w _ EA)).trans EA
        replace FA := (HB.out.cell (World.block_lt_of_cell? w _ FA)).trans FA
        replace GA := (HB.out.cell (World.block_lt_of_cell? w _ GA)).trans GA
        replace IA := (HB.out.cell (World.block_lt_of_cell? w _ IA)).trans IA
        have gB := Aside0.mk bB
        have KB := Aside0.mk aB
        clear bB aB
        have iB := Aside0.mk dB
        have LB := Aside0.mk cB
        clear dB cB
        have jB := Aside0.mk fB
        have MB := Aside0.mk eB
        clear fB eB
        replace p381 := eq_true p381
        replace q381 := eq_true q381
        refine start_ (n := 10) (S := fun w' => w'.cell? (ad380.add ((eA).toNat * 4)) = some (.slice pB ((rd_T55 l0 eA).f0).length qB) ∧ w'.cell? ⟨(ad380.add ((eA).toNat * 4)).block, (ad380.add ((eA).toNat * 4)).off + 1, none⟩ = some (.int .i64 ((rd_T55 l0 eA).f1)) ∧ w'.cell? ⟨(ad380.add ((eA).toNat * 4)).block, (ad380.add ((eA).toNat * 4)).off + 2, none⟩ = some (.slice rB ((rd_T55 l0 eA).f2).length sB) ∧ w'.cell? ⟨(ad380.add ((eA).toNat * 4)).block, (ad380.add ((eA).toNat * 4)).off + 3, none⟩ = some (.slice tB ((rd_T55 l0 eA).f3).length uB) ∧ w'.cell? (ad381.add ((eA).toNat * 4)) = some (.slice vB ((rd_T55 l1 eA).f0).length wB) ∧ w'.cell? ⟨(ad381.add ((eA).toNat * 4)).block, (ad381.add ((eA).toNat * 4)).off + 1, none⟩ = some (.int .i64 ((rd_T55 l1 eA).f1)) ∧ w'.cell? ⟨(ad381.add ((eA).toNat * 4)).block, (ad381.add ((eA).toNat * 4)).off + 2, none⟩ = some (.slice xB ((rd_T55 l1 eA).f2).length yB) ∧ w'.cell? ⟨(ad381.add ((eA).toNat * 4)).block, (ad381.add ((eA).toNat * 4)).off + 3, none⟩ = some (.slice zB ((rd_T55 l1 eA).f3).length AB)) (ds := []) #[F,F,F,F,F,F,F,F,F,F] (by kernel_rfl) rfl rfl ⟨((HB.out.cell (World.block_lt_of_cell? w _ hw380_0)).trans hw380_0), ((HB.out.cell (World.block_lt_of_cell? w _ hw380_1)).trans hw380_1), ((HB.out.cell (World.block_lt_of_cell? w _ hw380_2)).trans hw380_2), ((HB.out.cell (World.block_lt_of_cell? w _ hw380_3)).trans hw380_3), ((HB.out.cell (World.block_lt_of_cell? w _ hw381_0)).trans hw381_0), ((HB.out.cell (World.block_lt_of_cell? w _ hw381_1)).trans hw381_1), ((HB.out.cell (World.block_lt_of_cell? w _ hw381_2)).trans hw381_2), ((HB.out.cell (World.block_lt_of_cell? w _ hw381_3)).trans hw381_3)⟩ (fun hHeld => ?_); refine with_tabW laws_eqThreadS.tab6 laws_eqThreadS.bits6 (fun HT_ HW_ => ?_)
        generalize wr.drew = w9 at HB XA YA ZA gB iB jB AA BA CA DA EA FA GA IA hHeld ⊢
        refine q7_p 0 17 #[T,F,F,F,F,F,F,F,F,F] ?_
        refine q7_p 1 18 #[T,T,F,F,F,F,F,F,F,F] ?_
        refine q7_p 2 19 #[T,T,T,F,F,F,F,F,F,F] ?_
        refine q7_p 4 21 #[T,T,T,F,T,F,F,F,F,F] ?_
        refine q7_p 5 22 #[T,T,T,F,T,T,F,F,F,F] ?_
        refine q7_p 6 23 #[T,T,T,F,T,T,T,F,F,F] ?_
        refine take_ (i := 3) (N := some 20) (v := ?_) (a' := ?_) #[T,T,T,T,T,T,T,F,F,F] rfl rfl (take_ofW HT_.out HW_.out (by kernel_rfl)) (fun _ _ _ h => h) (Or.inl ⟨by rfl, ?_⟩) hHeld ?_ ?_
        rotate_left
        ·rintro w' ⟨s0, s1, s2, s3, s4, s5, s6, s7⟩
         go_simp
         with_reducible rfl
        rotate_left
        ·simp only [Act.put, List.setIfInBounds_toArray, List.set_cons_zero, List.set_cons_succ, i64_w, i32_w]
         rfl
        refine take_ (i := 7) (N := some 24) (v := ?_) (a' := ?_) #[T,T,T,T,T,T,T,T,F,F] rfl rfl (take_ofW HT_.out HW_.out (by kernel_rfl)) (fun _ _ _ h => h) (Or.inl ⟨by rfl, ?_⟩) hHeld ?_ ?_
        rotate_left
        ·rintro w' ⟨s0, s1, s2, s3, s4, s5, s6, s7⟩
         go_simp
         with_reducible rfl
        rotate_left
        ·simp only [Act.put, List.setIfInBounds_toArray, List.set_cons_zero, List.set_cons_succ, i64_w, i32_w]
         rfl
        refine one_ (i := 8) (N := some 25) #[T,T,T,T,T,T,T,T,T,F] rfl rfl (one_of HT_.out (by kernel_rfl)) (by decide) (fun K hK => ?_)
        refine goes_ Try.func33 (by kernel_rfl) rfl #[.agg #[.slice pB ((rd_T55 l0 eA).f0).length qB, .int .i64 ((rd_T55 l0 eA).f1), .slice rB ((rd_T55 l0 eA).f2).length sB, .slice tB ((rd_T55 l0 eA).f3).length uB], .agg #[.slice vB ((rd_T55 l1 eA).f0).length wB, .int .i64 ((rd_T55 l1 eA).f1), .slice xB ((rd_T55 l1 eA).f2).length yB, .slice zB ((rd_T55 l1 eA).f3).length AB]] (by rfl) rfl rfl q7_4 ?_
        with_reducible refine (laws_eqThread.calls k1 _ _ ((rd_T55 l0 eA).f0) ((rd_T55 l0 eA).f1) _ _ ((rd_T55 l0 eA).f2) _ _ ((rd_T55 l0 eA).f3) _ _ ((rd_T55 l1 eA).f0) ((rd_T55 l1 eA).f1) _ _ ((rd_T55 l1 eA).f2) _ _ ((rd_T55 l1 eA).f3) true _ ?side1 ?side2 ?side3 ?side4 ?side5 ?side6 ?side7 ?side8 ?side9 ?side10 ?side11 ?side12 A7.out).mono ?_
        (case side1 => repeat (first | exact (Kd.C_below XA.out HB.out) | (with_reducible refine Kd.C_alloc ?_ _) | (with_reducible refine Kd.C_drewN ?_ _) | (with_reducible refine Kd.C_drew ?_)))
        (case side2 => exact GB.out)
        (case side3 => repeat (first | exact (Kd.C_below YA.out HB.out) | (with_reducible refine Kd.C_alloc ?_ _) | (with_reducible refine Kd.C_drewN ?_ _) | (with_reducible refine Kd.C_drew ?_)))
        (case side4 => exact IB.out)
        (case side5 => repeat (first | exact (Kd.C_below ZA.out HB.out) | (with_reducible refine Kd.C_alloc ?_ _) | (with_reducible refine Kd.C_drewN ?_ _) | (with_reducible refine Kd.C_drew ?_)))
        (case side6 => exact JB.out)
        (case side7 => repeat (first | exact (Kd.C_below gB.out HB.out) | (with_reducible refine Kd.C_alloc ?_ _) | (with_reducible refine Kd.C_drewN ?_ _) | (with_reducible refine Kd.C_drew ?_)))
        (case side8 => exact KB.out)
        (case side9 => repeat (first | exact (Kd.C_below iB.out HB.out) | (with_reducible refine Kd.C_alloc ?_ _) | (with_reducible refine Kd.C_drewN ?_ _) | (with_reducible refine Kd.C_drew ?_)))
        (case side10 => exact LB.out)
        (case side11 => repeat (first | exact (Kd.C_below jB.out HB.out) | (with_reducible refine Kd.C_alloc ?_ _) | (with_reducible refine Kd.C_drewN ?_ _) | (with_reducible refine Kd.C_drew ?_)))
        (case side12 => exact MB.out)
        rintro e mH ⟨rfl, hb⟩
        refine ⟨_, rfl, ?_⟩
        have kA := Aside0.mk (below_step q7_0 hb)
        clear HB
        have HB := kA
        clear kA
        (try clear hb)
        (try clear hb2)
        (try clear hk)
        (try clear hi)
        refine hK.out _ _ ⟨((HB.out.cell (World.block_lt_of_cell? w _ hw380_0)).trans hw380_0), ((HB.out.cell (World.block_lt_of_cell? w _ hw380_1)).trans hw380_1), ((HB.out.cell (World.block_lt_of_cell? w _ hw380_2)).trans hw380_2), ((HB.out.cell (World.block_lt_of_cell? w _ hw380_3)).trans hw380_3), ((HB.out.cell (World.block_lt_of_cell? w _ hw381_0)).trans hw381_0), ((HB.out.cell (World.block_lt_of_cell? w _ hw381_1)).trans hw381_1), ((HB.out.cell (World.block_lt_of_cell? w _ hw381_2)).trans hw381_2), ((HB.out.cell (World.block_lt_of_cell? w _ hw381_3)).trans hw381_3)⟩ (fun hHeld => ?_)
        clear hK K
        refine norm_ (a' := ?_) ?_ ?_
        rotate_left
        ·show Act.put _ (some 25) _ = _
         simp only [Act.put, List.setIfInBounds_toArray, List.set_cons_zero, List.set_cons_succ, i64_w, i32_w]
         rfl
        refine q7_p 9 26 #[T,T,T,T,T,T,T,T,T,T] ?_
        refine done_ (done_of HT_.out (by kernel_rfl)) ?_
        try go_wp2
        go_roundg k1
        case measure => have := HK1.out; omega
        case rel => exact ⟨(wrap64 (eA + 1)), q7_19, H', ⟨by have := HK1.out; omega⟩, ⟨q7_0⟩⟩
       ·replace c8 := Bool.eq_false_iff.mpr c8
        subst c8
        rw [if_neg (show ¬ (false = true) by decide)] at H
        obtain rfl := Option.some.inj H
        try go_wp2
        have kA := Aside0.mk (below_drew1 HB.out)
        clear HB
        have HB := kA
        clear kA
        have p380 : 0 ≤ (eA : Int) := of_decide_eq_true q7_14
        have q380 : eA < (l0.length : Int) := of_decide_eq_true q7_14
        obtain ⟨ad380, pB, qB, rB, sB, tB, uB, MC, AA, BA, CA, DA, RA, SA, TA, UA, VA, WA⟩ := at_T55 HR0.out eA p380 q380
        have hw380_3 := DA
        have hw380_2 := CA
        have hw380_1 := BA
        have hw380_0 := AA
        cases MC
        replace AA := (HB.out.cell (World.block_lt_of_cell? w _ AA)).trans AA
        replace BA := (HB.out.cell (World.block_lt_of_cell? w _ BA)).trans BA
        replace CA := (HB.out.cell (World.block_lt_of_cell? w _ CA)).trans CA
        replace DA := (HB.out.cell (World.block_lt_of_cell? w _ DA)).trans DA
        have XA := Aside0.mk SA
        have GB := Aside0.mk RA
        clear SA RA
        have YA := Aside0.mk UA
        have IB := Aside0.mk TA
        clear UA TA
        have ZA := Aside0.mk WA
        have JB := Aside0.mk VA
        clear WA VA
        replace p380 := eq_true p380
        replace q380 := eq_true q380
        have p381 : 0 ≤ (eA : Int) := of_decide_eq_true q7_14
        have q381 : eA < (l1.length : Int) := of_decide_eq_true q7_14
        obtain ⟨ad381, vB, wB, xB, yB, zB, AB, NC, EA, FA, GA, IA, aB, bB, cB, dB, eB, fB⟩ := at_T55 HR1.out eA p381 q381
        have hw381_3 := IA
        have hw381_2 := GA
        have hw381_1 := FA
        have hw381_0 := EA
        cases NC
        replace EA := (HB.out.cell (World.block_lt_of_cell? w _ EA)).trans EA
        replace FA := (HB.out.cell (World.block_lt_of_cell? w _ FA)).trans FA
        replace GA := (HB.out.cell (World.block_lt_of_cell? w _ GA)).trans GA
        replace IA := (HB.out.cell (World.block_lt_of_cell? w _ IA)).trans IA
        have gB := Aside0.mk bB
        have KB := Aside0.mk aB
        clear bB aB
        have iB := Aside0.mk dB
        have LB := Aside0.mk cB
        clear dB cB
        have jB := Aside0.mk fB
        have MB := Aside0.mk eB
        clear fB eB
        replace p381 := eq_true p381
        replace q381 := eq_true q381
        refine start_ (n := 10) (S := fun w' => w'.cell? (ad380.add ((eA).toNat * 4)) = some (.slice pB ((rd_T55 l0 eA).f0).length qB) ∧ w'.cell? ⟨(ad380.add ((eA).toNat * 4)).block, (ad380.add ((eA).toNat * 4)).off + 1, none⟩ = some (.int .i64 ((rd_T55 l0 eA).f1)) ∧ w'.cell? ⟨(ad380.add ((eA).toNat * 4)).block, (ad380.add ((eA).toNat * 4)).off + 2, none⟩ = some (.slice rB ((rd_T55 l0 eA).f2).length sB) ∧ w'.cell? ⟨(ad380.add ((eA).toNat * 4)).block, (ad380.add ((eA).toNat * 4)).off + 3, none⟩ = some (.slice tB ((rd_T55 l0 eA).f3).length uB) ∧ w'.cell? (ad381.add ((eA).toNat * 4)) = some (.slice vB ((rd_T55 l1 eA).f0).length wB) ∧ w'.cell? ⟨(ad381.add ((eA).toNat * 4)).block, (ad381.add ((eA).toNat * 4)).off + 1, none⟩ = some (.int .i64 ((rd_T55 l1 eA).f1)) ∧ w'.cell? ⟨(ad381.add ((eA).toNat * 4)).block, (ad381.add ((eA).toNat * 4)).off + 2, none⟩ = some (.slice xB ((rd_T55 l1 eA).f2).length yB) ∧ w'.cell? ⟨(ad381.add ((eA).toNat * 4)).block, (ad381.add ((eA).toNat * 4)).off + 3, none⟩ = some (.slice zB ((rd_T55 l1 eA).f3).length AB)) (ds := []) #[F,F,F,F,F,F,F,F,F,F] (by kernel_rfl) rfl rfl ⟨((HB.out.cell (World.block_lt_of_cell? w _ hw380_0)).trans hw380_0), ((HB.out.cell (World.block_lt_of_cell? w _ hw380_1)).trans hw380_1), ((HB.out.cell (World.block_lt_of_cell? w _ hw380_2)).trans hw380_2), ((HB.out.cell (World.block_lt_of_cell? w _ hw380_3)).trans hw380_3), ((HB.out.cell (World.block_lt_of_cell? w _ hw381_0)).trans hw381_0), ((HB.out.cell (World.block_lt_of_cell? w _ hw381_1)).trans hw381_1), ((HB.out.cell (World.block_lt_of_cell? w _ hw381_2)).trans hw381_2), ((HB.out.cell (World.block_lt_of_cell? w _ hw381_3)).trans hw381_3)⟩ (fun hHeld => ?_); refine with_tabW laws_eqThreadS.tab6 laws_eqThreadS.bits6 (fun HT_ HW_ => ?_)
        generalize wr.drew = VB at HB XA YA ZA gB iB jB AA BA CA DA EA FA GA IA hHeld ⊢
        refine q7_p 0 17 #[T,F,F,F,F,F,F,F,F,F] ?_
        refine q7_p 1 18 #[T,T,F,F,F,F,F,F,F,F] ?_
        refine q7_p 2 19 #[T,T,T,F,F,F,F,F,F,F] ?_
        refine q7_p 4 21 #[T,T,T,F,T,F,F,F,F,F] ?_
        refine q7_p 5 22 #[T,T,T,F,T,T,F,F,F,F] ?_
        refine q7_p 6 23 #[T,T,T,F,T,T,T,F,F,F] ?_
        refine take_ (i := 3) (N := some 20) (v := ?_) (a' := ?_) #[T,T,T,T,T,T,T,F,F,F] rfl rfl (take_ofW HT_.out HW_.out (by kernel_rfl)) (fun _ _ _ h => h) (Or.inl ⟨by rfl, ?_⟩) hHeld ?_ ?_
        rotate_left
        ·rintro w' ⟨s0, s1, s2, s3, s4, s5, s6, s7⟩
         go_simp
         with_reducible rfl
        rotate_left
        ·simp only [Act.put, List.setIfInBounds_toArray, List.set_cons_zero, List.set_cons_succ, i64_w, i32_w]
         rfl
        refine take_ (i := 7) (N := some 24) (v := ?_) (a' := ?_) #[T,T,T,T,T,T,T,T,F,F] rfl rfl (take_ofW HT_.out HW_.out (by kernel_rfl)) (fun _ _ _ h => h) (Or.inl ⟨by rfl, ?_⟩) hHeld ?_ ?_
        rotate_left
        ·rintro w' ⟨s0, s1, s2, s3, s4, s5, s6, s7⟩
         go_simp
         with_reducible rfl
        rotate_left
        ·simp only [Act.put, List.setIfInBounds_toArray, List.set_cons_zero, List.set_cons_succ, i64_w, i32_w]
         rfl
        refine one_ (i := 8) (N := some 25) #[T,T,T,T,T,T,T,T,T,F] rfl rfl (one_of HT_.out (by kernel_rfl)) (by decide) (fun K hK => ?_)
        refine goes_ Try.func33 (by kernel_rfl) rfl #[.agg #[.slice pB ((rd_T55 l0 eA).f0).length qB, .int .i64 ((rd_T55 l0 eA).f1), .slice rB ((rd_T55 l0 eA).f2).length sB, .slice tB ((rd_T55 l0 eA).f3).length uB], .agg #[.slice vB ((rd_T55 l1 eA).f0).length wB, .int .i64 ((rd_T55 l1 eA).f1), .slice xB ((rd_T55 l1 eA).f2).length yB, .slice zB ((rd_T55 l1 eA).f3).length AB]] (by rfl) rfl rfl q7_4 ?_
        with_reducible refine (laws_eqThread.calls k1 _ _ ((rd_T55 l0 eA).f0) ((rd_T55 l0 eA).f1) _ _ ((rd_T55 l0 eA).f2) _ _ ((rd_T55 l0 eA).f3) _ _ ((rd_T55 l1 eA).f0) ((rd_T55 l1 eA).f1) _ _ ((rd_T55 l1 eA).f2) _ _ ((rd_T55 l1 eA).f3) false _ ?side1 ?side2 ?side3 ?side4 ?side5 ?side6 ?side7 ?side8 ?side9 ?side10 ?side11 ?side12 A7.out).mono ?_
        (case side1 => repeat (first | exact (Kd.C_below XA.out HB.out) | (with_reducible refine Kd.C_alloc ?_ _) | (with_reducible refine Kd.C_drewN ?_ _) | (with_reducible refine Kd.C_drew ?_)))
        (case side2 => exact GB.out)
        (case side3 => repeat (first | exact (Kd.C_below YA.out HB.out) | (with_reducible refine Kd.C_alloc ?_ _) | (with_reducible refine Kd.C_drewN ?_ _) | (with_reducible refine Kd.C_drew ?_)))
        (case side4 => exact IB.out)
        (case side5 => repeat (first | exact (Kd.C_below ZA.out HB.out) | (with_reducible refine Kd.C_alloc ?_ _) | (with_reducible refine Kd.C_drewN ?_ _) | (with_reducible refine Kd.C_drew ?_)))
        (case side6 => exact JB.out)
        (case side7 => repeat (first | exact (Kd.C_below gB.out HB.out) | (with_reducible refine Kd.C_alloc ?_ _) | (with_reducible refine Kd.C_drewN ?_ _) | (with_reducible refine Kd.C_drew ?_)))
        (case side8 => exact KB.out)
        (case side9 => repeat (first | exact (Kd.C_below iB.out HB.out) | (with_reducible refine Kd.C_alloc ?_ _) | (with_reducible refine Kd.C_drewN ?_ _) | (with_reducible refine Kd.C_drew ?_)))
        (case side10 => exact LB.out)
        (case side11 => repeat (first | exact (Kd.C_below jB.out HB.out) | (with_reducible refine Kd.C_alloc ?_ _) | (with_reducible refine Kd.C_drewN ?_ _) | (with_reducible refine Kd.C_drew ?_)))
        (case side12 => exact MB.out)
        rintro e JH ⟨rfl, hb⟩
        refine ⟨_, rfl, ?_⟩
        have kA := Aside0.mk (below_step q7_0 hb)
        clear HB
        have HB := kA
        clear kA
        (try clear hb)
        (try clear hb2)
        (try clear hk)
        (try clear hi)
        refine hK.out _ _ ⟨((HB.out.cell (World.block_lt_of_cell? w _ hw380_0)).trans hw380_0), ((HB.out.cell (World.block_lt_of_cell? w _ hw380_1)).trans hw380_1), ((HB.out.cell (World.block_lt_of_cell? w _ hw380_2)).trans hw380_2), ((HB.out.cell (World.block_lt_of_cell? w _ hw380_3)).trans hw380_3), ((HB.out.cell (World.block_lt_of_cell? w _ hw381_0)).trans hw381_0), ((HB.out.cell (World.block_lt_of_cell? w _ hw381_1)).trans hw381_1), ((HB.out.cell (World.block_lt_of_cell? w _ hw381_2)).trans hw381_2), ((HB.out.cell (World.block_lt_of_cell? w _ hw381_3)).trans hw381_3)⟩ (fun hHeld => ?_)
        clear hK K
        refine norm_ (a' := ?_) ?_ ?_
        rotate_left
        ·show Act.put _ (some 25) _ = _
         simp only [Act.put, List.setIfInBounds_toArray, List.set_cons_zero, List.set_cons_succ, i64_w, i32_w]
         rfl
        refine q7_p 9 26 #[T,T,T,T,T,T,T,T,T,T] ?_
        refine done_ (done_of HT_.out (by kernel_rfl)) ?_
        try go_wp2
        go_ret
        exact ⟨q7_5, q7_0⟩
      ·rw [if_neg c6] at H
       exact absurd H (by simp)
     ·rw [if_neg c5] at H
      exact absurd H (by simp)
    ·rw [if_neg c4] at H
     have qC : decide (eA < (l0.length : Int)) = false := decide_eq_false c4
     clear c4
     obtain rfl := Option.some.inj H
     go_wp2
     go_ret
     exact ⟨q7_5, q7_0⟩
 ·rw [if_neg c3] at H
  have YB : ((l0.length : Int) == (l1.length : Int)) = false := beq_eq_false_iff_ne.mpr c3
  have pC : ((l0.length : Int) != (l1.length : Int)) = true := bne_iff_ne.mpr c3
  have SC : (l0.length == l1.length) = false := by first | simpa using c3 | (simp at c3 ⊢; omega)
  obtain rfl := Option.some.inj H
  go_enter Try.func16, Try.ntmps16
  go_wp2
  go_ret
  exact ⟨q7_5, q7_0⟩

/-! ### laws_eqMem: function 52 -/
def laws_eqMem.f (k : Nat) (NA : List Int) (PA : List Int) : Option (Bool) := (laws_eqIntS.f k NA PA).bind fun ZB => (if ZB = true then (some true) else (some false))
theorem laws_eqMem.mono : ∀ a0 a1 k, LeO (laws_eqMem.f k a0 a1) (laws_eqMem.f (k + 1) a0 a1) := by
 intro a0 a1 k
 unfold laws_eqMem.f
 repeat' first
   | (with_reducible exact laws_eqIntS.mono _ _ _)
   | (with_reducible exact LeO.refl _)
   | (with_reducible exact LeO.none _)
   | (with_reducible refine LeO.ite ?_ ?_)
   | (with_reducible refine LeO.bind ?_ (fun _ => ?_))
   | exact laws_eqIntS.mono _ _ _
   | exact LeO.none _
   | refine LeO.ite ?_ ?_
   | refine LeO.bind ?_ (fun _ => ?_)
set_option maxHeartbeats 8000000 in
set_option maxRecDepth 100000 in
theorem laws_eqMem.calls (k : Nat) (kB : Option Addr) (lB : Nat) (NA : List Int) (OB : Option Addr) (PB : Nat) (PA : List Int) (r : Bool) (w : World) (vC : Kd.C (Kd.int .i64) w kB NA.length NA) (wC : NA.length ≤ lB) (xC : Kd.C (Kd.int .i64) w OB PA.length PA) (yC : PA.length ≤ PB) (h : laws_eqMem.f k NA PA = some r) :
  Calls Try.prog 52 #[.agg #[.slice kB NA.length lB], .agg #[.slice OB PA.length PB]] w fun e w' => e = .returned (.bool r) ∧ Below w.heap.size w w' := by
 have hu26 := Try.underlying26
 have zC := Aside0.mk vC
 have AC := Aside0.mk wC
 clear vC wC
 have BC := Aside0.mk xC
 have CC := Aside0.mk yC
 clear xC yC
 have HB := Aside0.mk (Below.refl w.heap.size w)
 have H : ((laws_eqIntS.f k NA PA).bind fun ZB => (if ZB = true then (some true) else (some false))) = some r := h
 clear h
 replace H := Option.bind_eq_some_iff.mp H
 obtain ⟨ZB, A30, H⟩ := H
 (try dsimp only at H)
 have A3 := Aside0.mk A30
 clear A30
 by_cases c4 : ZB = true
 ·subst c4
  rw [if_pos rfl] at H
  obtain rfl := Option.some.inj H
  go_enter Try.func52, Try.ntmps52
  go_wp2_with (first | ((with_reducible refine gate_dst (N := 2) rfl ?_); refine box_event ?hg (N := 2) ?hd (cs := #[.slice kB NA.length lB]) (t := 26) ?hr ?_; (case hd => rfl); (case hg => rfl); (case hr => first | (go_simp; done) | (go_simp; rfl)); intro LA hg w5 hbox hb; have kA := Aside0.mk (below_step q7_0 hb); have tA := Aside0.mk (hbox); have uA := Aside0.mk ((q7_13 : w.heap.size ≤ LA)); have MA := Aside0.mk ((q7_13 : w.heap.size ≤ LA)); clear HB; have HB := kA; have QA := tA; have TC := uA; have UB := MA; clear kA tA uA MA; clear hb hbox hg) | ((with_reducible refine gate_dst (N := 3) rfl ?_); refine box_event ?hg (N := 3) ?hd (cs := #[.slice OB PA.length PB]) (t := 26) ?hr ?_; (case hd => rfl); (case hg => rfl); (case hr => first | (go_simp; done) | (go_simp; rfl)); intro OA hg w6 hbox hb; have kA := Aside0.mk (blk_below (g := LA) (o := .cells #[.slice kB NA.length lB] 26 (0, 0)) q7_10 hb); have tA := Aside0.mk (below_step q7_8 hb); have uA := Aside0.mk (hbox); have MA := Aside0.mk ((by rw [hg]; exact (below_size q7_8) : w.heap.size ≤ OA)); have BB := Aside0.mk ((by rw [hg]; exact (below_size q7_8) : w.heap.size ≤ OA)); have CB := Aside0.mk ((by rw [hg]; exact Nat.ne_of_lt (blk_lt (g := LA) (o := .cells #[.slice kB NA.length lB] 26 (0, 0)) q7_10) : LA ≠ OA)); have DB := Aside0.mk ((by rw [hg]; exact Nat.ne_of_gt (blk_lt (g := LA) (o := .cells #[.slice kB NA.length lB] 26 (0, 0)) q7_10) : OA ≠ LA)); clear QA HB; have QA := kA; have HB := tA; have QB := uA; have UC := MA; have aC := BB; have mB := CB; have nB := DB; clear kA tA uA MA BB CB DB; clear hb hbox hg; have DH := mB.out; have EH := nB.out; have fH : w6.cell? ⟨LA, 0, none⟩ = some (.slice kB NA.length lB) := (blk_cell QA.out 0).trans rfl; have gH := blk_frozen QA.out 0; have hH : w6.cell? ⟨OA, 0, none⟩ = some (.slice OB PA.length PB) := (blk_cell QB.out 0).trans rfl; have iH := blk_frozen QB.out 0) | ((with_reducible refine gate_callee (f := 26) rfl ?_); refine goesL_ (some 9) rfl rfl Try.func26 (by kernel_rfl) rfl #[.slice kB NA.length lB, .slice OB PA.length PB] rfl q7_4 ?_; (with_reducible refine (laws_eqIntS.calls k _ _ NA _ _ PA true _ ?side1 ?side2 ?side3 ?side4 A3.out).mono ?_); (case side1 => repeat (first | exact (Kd.C_below zC.out HB.out) | (with_reducible refine Kd.C_alloc ?_ _) | (with_reducible refine Kd.C_drewN ?_ _) | (with_reducible refine Kd.C_drew ?_))); (case side2 => exact AC.out); (case side3 => repeat (first | exact (Kd.C_below BC.out HB.out) | (with_reducible refine Kd.C_alloc ?_ _) | (with_reducible refine Kd.C_drewN ?_ _) | (with_reducible refine Kd.C_drew ?_))); (case side4 => exact CC.out); rintro e w' ⟨rfl, ⟨nd, rfl⟩⟩; refine ⟨_, rfl, ?_⟩))
  go_ret
  exact ⟨q7_5, by repeat (first | (with_reducible first | exact HB.out | apply below_alloc | apply pw_below_drewN | apply below_drew1 | refine below_set ?_ UB.out | refine below_set ?_ aC.out) | exact HB.out)⟩
 ·replace c4 := Bool.eq_false_iff.mpr c4
  subst c4
  rw [if_neg (show ¬ (false = true) by decide)] at H
  obtain rfl := Option.some.inj H
  go_enter Try.func52, Try.ntmps52
  go_wp2_with (first | ((with_reducible refine gate_dst (N := 2) rfl ?_); refine box_event ?hg (N := 2) ?hd (cs := #[.slice kB NA.length lB]) (t := 26) ?hr ?_; (case hd => rfl); (case hg => rfl); (case hr => first | (go_simp; done) | (go_simp; rfl)); intro LA hg mH hbox hb; have kA := Aside0.mk (below_step q7_0 hb); have tA := Aside0.mk (hbox); have uA := Aside0.mk ((q7_13 : w.heap.size ≤ LA)); have MA := Aside0.mk ((q7_13 : w.heap.size ≤ LA)); clear HB; have HB := kA; have QA := tA; have TC := uA; have UB := MA; clear kA tA uA MA; clear hb hbox hg) | ((with_reducible refine gate_dst (N := 3) rfl ?_); refine box_event ?hg (N := 3) ?hd (cs := #[.slice OB PA.length PB]) (t := 26) ?hr ?_; (case hd => rfl); (case hg => rfl); (case hr => first | (go_simp; done) | (go_simp; rfl)); intro OA hg VB hbox hb; have kA := Aside0.mk (blk_below (g := LA) (o := .cells #[.slice kB NA.length lB] 26 (0, 0)) q7_10 hb); have tA := Aside0.mk (below_step q7_8 hb); have uA := Aside0.mk (hbox); have MA := Aside0.mk ((by rw [hg]; exact (below_size q7_8) : w.heap.size ≤ OA)); have BB := Aside0.mk ((by rw [hg]; exact (below_size q7_8) : w.heap.size ≤ OA)); have CB := Aside0.mk ((by rw [hg]; exact Nat.ne_of_lt (blk_lt (g := LA) (o := .cells #[.slice kB NA.length lB] 26 (0, 0)) q7_10) : LA ≠ OA)); have DB := Aside0.mk ((by rw [hg]; exact Nat.ne_of_gt (blk_lt (g := LA) (o := .cells #[.slice kB NA.length lB] 26 (0, 0)) q7_10) : OA ≠ LA)); clear QA HB; have QA := kA; have HB := tA; have QB := uA; have UC := MA; have aC := BB; have mB := CB; have nB := DB; clear kA tA uA MA BB CB DB; clear hb hbox hg; have VC := mB.out; have WC := nB.out; have rC : VB.cell? ⟨LA, 0, none⟩ = some (.slice kB NA.length lB) := (blk_cell QA.out 0).trans rfl; have sC := blk_frozen QA.out 0; have tC : VB.cell? ⟨OA, 0, none⟩ = some (.slice OB PA.length PB) := (blk_cell QB.out 0).trans rfl; have uC := blk_frozen QB.out 0) | ((with_reducible refine gate_callee (f := 26) rfl ?_); refine goesL_ (some 9) rfl rfl Try.func26 (by kernel_rfl) rfl #[.slice kB NA.length lB, .slice OB PA.length PB] rfl q7_4 ?_; (with_reducible refine (laws_eqIntS.calls k _ _ NA _ _ PA false _ ?side1 ?side2 ?side3 ?side4 A3.out).mono ?_); (case side1 => repeat (first | exact (Kd.C_below zC.out HB.out) | (with_reducible refine Kd.C_alloc ?_ _) | (with_reducible refine Kd.C_drewN ?_ _) | (with_reducible refine Kd.C_drew ?_))); (case side2 => exact AC.out); (case side3 => repeat (first | exact (Kd.C_below BC.out HB.out) | (with_reducible refine Kd.C_alloc ?_ _) | (with_reducible refine Kd.C_drewN ?_ _) | (with_reducible refine Kd.C_drew ?_))); (case side4 => exact CC.out); rintro e w' ⟨rfl, ⟨nd, rfl⟩⟩; refine ⟨_, rfl, ?_⟩))
  go_ret
  exact ⟨q7_5, by repeat (first | (with_reducible first | exact HB.out | apply below_alloc | apply pw_below_drewN | apply below_drew1 | refine below_set ?_ UB.out | refine below_set ?_ aC.out) | exact HB.out)⟩

/-! ### laws_eqCrew: function 15 -/
def laws_eqCrew.f (k : Nat) (hA : Int) (iA : Int) (fA : List Int) (gA : List (S55)) (jA : Int) (vA : Int) (wA : Int) (nA : List Int) (qA : List (S55)) (xA : Int) : Option (Bool) := if hA = vA then (if iA = wA then ((laws_eqMem.f k fA nA).bind fun bC => (if bC = true then ((laws_eqThreadS.f k gA qA).bind fun cC => (if cC = true then (if jA = xA then (some true) else (some false)) else (some false))) else (some false))) else (some false)) else (some false)
theorem laws_eqCrew.mono : ∀ a0 a1 a2 a3 a4 a5 a6 a7 a8 a9 k, LeO (laws_eqCrew.f k a0 a1 a2 a3 a4 a5 a6 a7 a8 a9) (laws_eqCrew.f (k + 1) a0 a1 a2 a3 a4 a5 a6 a7 a8 a9) := by
 intro a0 a1 a2 a3 a4 a5 a6 a7 a8 a9 k
 unfold laws_eqCrew.f
 repeat' first
   | (with_reducible exact laws_eqMem.mono _ _ _)
   | (with_reducible exact laws_eqThreadS.mono _ _ _)
   | (with_reducible exact LeO.refl _)
   | (with_reducible exact LeO.none _)
   | (with_reducible refine LeO.ite ?_ ?_)
   | (with_reducible refine LeO.bind ?_ (fun _ => ?_))
   | exact laws_eqMem.mono _ _ _
   | exact laws_eqThreadS.mono _ _ _
   | exact LeO.none _
   | refine LeO.ite ?_ ?_
   | refine LeO.bind ?_ (fun _ => ?_)
set_option maxHeartbeats 8000000 in
set_option maxRecDepth 100000 in
theorem laws_eqCrew.calls (k : Nat) (hA : Int) (iA : Int) (oA : Option Addr) (pA : Nat) (fA : List Int) (rA : Option Addr) (sA : Nat) (gA : List (S55)) (jA : Int) (vA : Int) (wA : Int) (yA : Option Addr) (zA : Nat) (nA : List Int) (JA : Option Addr) (KA : Nat) (qA : List (S55)) (xA : Int) (r : Bool) (w : World) (DC : Kd.C (Kd.int .i64) w oA fA.length fA) (EC : fA.length ≤ pA) (FC : Kd.C k55 w rA gA.length gA) (GC : gA.length ≤ sA) (HC : Kd.C (Kd.int .i64) w yA nA.length nA) (IC : nA.length ≤ zA) (JC : Kd.C k55 w JA qA.length qA) (KC : qA.length ≤ KA) (h : laws_eqCrew.f k hA iA fA gA jA vA wA nA qA xA = some r) :
  Calls Try.prog 15 #[.agg #[.int .i64 hA, .int .i64 iA, .slice oA fA.length pA, .slice rA gA.length sA, .int .i64 jA], .agg #[.int .i64 vA, .int .i64 wA, .slice yA nA.length zA, .slice JA qA.length KA, .int .i64 xA]] w fun e w' => e = .returned (.bool r) ∧ Below w.heap.size w w' := by
 have hu29 := Try.underlying29
 have hu26 := Try.underlying26
 have OC := Aside0.mk DC
 have WB := Aside0.mk EC
 clear DC EC
 have QC := Aside0.mk FC
 have dC := Aside0.mk GC
 clear FC GC
 have PC := Aside0.mk HC
 have XB := Aside0.mk IC
 clear HC IC
 have RC := Aside0.mk JC
 have eC := Aside0.mk KC
 clear JC KC
 have HB := Aside0.mk (Below.refl w.heap.size w)
 have H : (if hA = vA then (if iA = wA then ((laws_eqMem.f k fA nA).bind fun bC => (if bC = true then ((laws_eqThreadS.f k gA qA).bind fun cC => (if cC = true then (if jA = xA then (some true) else (some false)) else (some false))) else (some false))) else (some false)) else (some false)) = some r := h
 clear h
 by_cases c3 : hA = vA
 ·rw [if_pos c3] at H
  have YB : (hA == vA) = true := beq_iff_eq.mpr c3
  have pC : (hA != vA) = false := bne_eq_false_iff_eq.mpr c3
  clear c3
  by_cases c4 : iA = wA
  ·rw [if_pos c4] at H
   have qC : (iA == wA) = true := beq_iff_eq.mpr c4
   have jH : (iA != wA) = false := bne_eq_false_iff_eq.mpr c4
   clear c4
   replace H := Option.bind_eq_some_iff.mp H
   obtain ⟨bC, A50, H⟩ := H
   (try dsimp only at H)
   have A5 := Aside0.mk A50
   clear A50
   by_cases c6 : bC = true
   ·subst c6
    rw [if_pos rfl] at H
    replace H := Option.bind_eq_some_iff.mp H
    obtain ⟨cC, A70, H⟩ := H
    (try dsimp only at H)
    have A7 := Aside0.mk A70
    clear A70
    by_cases c8 : cC = true
    ·subst c8
     rw [if_pos rfl] at H
     by_cases c9 : jA = xA
     ·rw [if_pos c9] at H
      have kH : (jA == xA) = true := beq_iff_eq.mpr c9
      have lH : (jA != xA) = false := bne_eq_false_iff_eq.mpr c9
      clear c9
      obtain rfl := Option.some.inj H
      go_enter Try.func15, Try.ntmps15
      go_wp2_with (first | ((with_reducible refine gate_dst (N := 2) rfl ?_); refine box_event ?hg (N := 2) ?hd (cs := #[.int .i64 hA, .int .i64 iA, .slice oA fA.length pA, .slice rA gA.length sA, .int .i64 jA]) (t := 29) ?hr ?_; (case hd => rfl); (case hg => rfl); (case hr => first | (go_simp; done) | (go_simp; rfl)); intro cA hg mH hbox hb; have kA := Aside0.mk (below_step q7_0 hb); have tA := Aside0.mk (hbox); have uA := Aside0.mk ((q7_13 : w.heap.size ≤ cA)); have MA := Aside0.mk ((q7_13 : w.heap.size ≤ cA)); clear HB; have HB := kA; have aA := tA; have RB := uA; have oB := MA; clear kA tA uA MA; clear hb hbox hg) | ((with_reducible refine gate_dst (N := 3) rfl ?_); refine box_event ?hg (N := 3) ?hd (cs := #[.int .i64 vA, .int .i64 wA, .slice yA nA.length zA, .slice JA qA.length KA, .int .i64 xA]) (t := 29) ?hr ?_; (case hd => rfl); (case hg => rfl); (case hr => first | (go_simp; done) | (go_simp; rfl)); intro dA hg VB hbox hb; have kA := Aside0.mk (blk_below (g := cA) (o := .cells #[.int .i64 hA, .int .i64 iA, .slice oA fA.length pA, .slice rA gA.length sA, .int .i64 jA] 29 (0, 0)) q7_1 hb); have tA := Aside0.mk (below_step q7_2 hb); have uA := Aside0.mk (hbox); have MA := Aside0.mk ((q7_18 : w.heap.size ≤ dA)); have BB := Aside0.mk ((q7_18 : w.heap.size ≤ dA)); have CB := Aside0.mk ((q7_6 : cA ≠ dA)); have DB := Aside0.mk ((q7_7 : dA ≠ cA)); clear aA HB; have aA := kA; have HB := tA; have bA := uA; have SB := MA; have FB := BB; have lA := CB; have mA := DB; clear kA tA uA MA BB CB DB; clear hb hbox hg; have VC := lA.out; have WC := mA.out; have rC : VB.cell? ⟨cA, 0, none⟩ = some (.int .i64 hA) := (blk_cell aA.out 0).trans rfl; have XC : VB.cell? ⟨cA, 1, none⟩ = some (.int .i64 iA) := (blk_cell aA.out 1).trans rfl; have YC : VB.cell? ⟨cA, 2, none⟩ = some (.slice oA fA.length pA) := (blk_cell aA.out 2).trans rfl; have ZC : VB.cell? ⟨cA, 3, none⟩ = some (.slice rA gA.length sA) := (blk_cell aA.out 3).trans rfl; have aD : VB.cell? ⟨cA, 4, none⟩ = some (.int .i64 jA) := (blk_cell aA.out 4).trans rfl; have sC := blk_frozen aA.out 0; have bD := blk_frozen aA.out 1; have cD := blk_frozen aA.out 2; have dD := blk_frozen aA.out 3; have eD := blk_frozen aA.out 4; have tC : VB.cell? ⟨dA, 0, none⟩ = some (.int .i64 vA) := (blk_cell bA.out 0).trans rfl; have fD : VB.cell? ⟨dA, 1, none⟩ = some (.int .i64 wA) := (blk_cell bA.out 1).trans rfl; have gD : VB.cell? ⟨dA, 2, none⟩ = some (.slice yA nA.length zA) := (blk_cell bA.out 2).trans rfl; have hD : VB.cell? ⟨dA, 3, none⟩ = some (.slice JA qA.length KA) := (blk_cell bA.out 3).trans rfl; have iD : VB.cell? ⟨dA, 4, none⟩ = some (.int .i64 xA) := (blk_cell bA.out 4).trans rfl; have uC := blk_frozen bA.out 0; have jD := blk_frozen bA.out 1; have kD := blk_frozen bA.out 2; have lD := blk_frozen bA.out 3; have mD := blk_frozen bA.out 4) | ((with_reducible refine gate_callee (f := 52) rfl ?_); refine goesL_ (some 19) rfl rfl Try.func52 (by kernel_rfl) rfl #[.agg #[.slice oA fA.length pA], .agg #[.slice yA nA.length zA]] rfl q7_4 ?_; (with_reducible refine (laws_eqMem.calls k _ _ fA _ _ nA true _ ?side1 ?side2 ?side3 ?side4 A5.out).mono ?_); (case side1 => exact q7_11); (case side2 => exact WB.out); (case side3 => exact q7_12); (case side4 => exact XB.out); rintro e fC ⟨rfl, hb⟩; refine ⟨_, rfl, ?_⟩; have kA := Aside0.mk (blk_below (g := cA) (o := .cells #[.int .i64 hA, .int .i64 iA, .slice oA fA.length pA, .slice rA gA.length sA, .int .i64 jA] 29 (0, 0)) q7_1 hb); have tA := Aside0.mk (blk_below (g := dA) (o := .cells #[.int .i64 vA, .int .i64 wA, .slice yA nA.length zA, .slice JA qA.length KA, .int .i64 xA] 29 (0, 0)) q7_9 hb); have uA := Aside0.mk (below_step q7_3 hb); clear aA bA HB; have aA := kA; have bA := tA; have HB := uA; clear kA tA uA; (try clear hb); (try clear hb2); (try clear hk); (try clear hi); have nD : fC.cell? ⟨cA, 0, none⟩ = some (.int .i64 hA) := (blk_cell aA.out 0).trans rfl; have oD : fC.cell? ⟨cA, 1, none⟩ = some (.int .i64 iA) := (blk_cell aA.out 1).trans rfl; have pD : fC.cell? ⟨cA, 2, none⟩ = some (.slice oA fA.length pA) := (blk_cell aA.out 2).trans rfl; have qD : fC.cell? ⟨cA, 3, none⟩ = some (.slice rA gA.length sA) := (blk_cell aA.out 3).trans rfl; have rD : fC.cell? ⟨cA, 4, none⟩ = some (.int .i64 jA) := (blk_cell aA.out 4).trans rfl; have sD := blk_frozen aA.out 0; have tD := blk_frozen aA.out 1; have uD := blk_frozen aA.out 2; have vD := blk_frozen aA.out 3; have wD := blk_frozen aA.out 4; have xD : fC.cell? ⟨dA, 0, none⟩ = some (.int .i64 vA) := (blk_cell bA.out 0).trans rfl; have yD : fC.cell? ⟨dA, 1, none⟩ = some (.int .i64 wA) := (blk_cell bA.out 1).trans rfl; have zD : fC.cell? ⟨dA, 2, none⟩ = some (.slice yA nA.length zA) := (blk_cell bA.out 2).trans rfl; have AD : fC.cell? ⟨dA, 3, none⟩ = some (.slice JA qA.length KA) := (blk_cell bA.out 3).trans rfl; have BD : fC.cell? ⟨dA, 4, none⟩ = some (.int .i64 xA) := (blk_cell bA.out 4).trans rfl; have CD := blk_frozen bA.out 0; have DD := blk_frozen bA.out 1; have ED := blk_frozen bA.out 2; have FD := blk_frozen bA.out 3; have GD := blk_frozen bA.out 4) | ((with_reducible refine gate_callee (f := 16) rfl ?_); refine goesL_ (some 25) rfl rfl Try.func16 (by kernel_rfl) rfl #[.slice rA gA.length sA, .slice JA qA.length KA] rfl q7_4 ?_; (with_reducible refine (laws_eqThreadS.calls k _ _ gA _ _ qA true _ ?side1 ?side2 ?side3 ?side4 A7.out).mono ?_); (case side1 => exact q7_16); (case side2 => exact dC.out); (case side3 => exact q7_17); (case side4 => exact eC.out); rintro e gC ⟨rfl, hb⟩; refine ⟨_, rfl, ?_⟩; have kA := Aside0.mk (blk_below (g := cA) (o := .cells #[.int .i64 hA, .int .i64 iA, .slice oA fA.length pA, .slice rA gA.length sA, .int .i64 jA] 29 (0, 0)) q7_1 hb); have tA := Aside0.mk (blk_below (g := dA) (o := .cells #[.int .i64 vA, .int .i64 wA, .slice yA nA.length zA, .slice JA qA.length KA, .int .i64 xA] 29 (0, 0)) q7_9 hb); have uA := Aside0.mk (below_step q7_3 hb); clear aA bA HB; have aA := kA; have bA := tA; have HB := uA; clear kA tA uA; (try clear hb); (try clear hb2); (try clear hk); (try clear hi); have HD : gC.cell? ⟨cA, 0, none⟩ = some (.int .i64 hA) := (blk_cell aA.out 0).trans rfl; have ID : gC.cell? ⟨cA, 1, none⟩ = some (.int .i64 iA) := (blk_cell aA.out 1).trans rfl; have JD : gC.cell? ⟨cA, 2, none⟩ = some (.slice oA fA.length pA) := (blk_cell aA.out 2).trans rfl; have KD : gC.cell? ⟨cA, 3, none⟩ = some (.slice rA gA.length sA) := (blk_cell aA.out 3).trans rfl; have LD : gC.cell? ⟨cA, 4, none⟩ = some (.int .i64 jA) := (blk_cell aA.out 4).trans rfl; have MD := blk_frozen aA.out 0; have ND := blk_frozen aA.out 1; have OD := blk_frozen aA.out 2; have PD := blk_frozen aA.out 3; have QD := blk_frozen aA.out 4; have RD : gC.cell? ⟨dA, 0, none⟩ = some (.int .i64 vA) := (blk_cell bA.out 0).trans rfl; have SD : gC.cell? ⟨dA, 1, none⟩ = some (.int .i64 wA) := (blk_cell bA.out 1).trans rfl; have TD : gC.cell? ⟨dA, 2, none⟩ = some (.slice yA nA.length zA) := (blk_cell bA.out 2).trans rfl; have UD : gC.cell? ⟨dA, 3, none⟩ = some (.slice JA qA.length KA) := (blk_cell bA.out 3).trans rfl; have VD : gC.cell? ⟨dA, 4, none⟩ = some (.int .i64 xA) := (blk_cell bA.out 4).trans rfl; have WD := blk_frozen bA.out 0; have XD := blk_frozen bA.out 1; have YD := blk_frozen bA.out 2; have ZD := blk_frozen bA.out 3; have aE := blk_frozen bA.out 4))
      go_ret
      exact ⟨q7_5, q7_3⟩
     ·rw [if_neg c9] at H
      have kH : (jA == xA) = false := beq_eq_false_iff_ne.mpr c9
      have lH : (jA != xA) = true := bne_iff_ne.mpr c9
      obtain rfl := Option.some.inj H
      go_enter Try.func15, Try.ntmps15
      go_wp2_with (first | ((with_reducible refine gate_dst (N := 2) rfl ?_); refine box_event ?hg (N := 2) ?hd (cs := #[.int .i64 hA, .int .i64 iA, .slice oA fA.length pA, .slice rA gA.length sA, .int .i64 jA]) (t := 29) ?hr ?_; (case hd => rfl); (case hg => rfl); (case hr => first | (go_simp; done) | (go_simp; rfl)); intro cA hg KH hbox hb; have kA := Aside0.mk (below_step q7_0 hb); have tA := Aside0.mk (hbox); have uA := Aside0.mk ((q7_13 : w.heap.size ≤ cA)); have MA := Aside0.mk ((q7_13 : w.heap.size ≤ cA)); clear HB; have HB := kA; have aA := tA; have RB := uA; have oB := MA; clear kA tA uA MA; clear hb hbox hg) | ((with_reducible refine gate_dst (N := 3) rfl ?_); refine box_event ?hg (N := 3) ?hd (cs := #[.int .i64 vA, .int .i64 wA, .slice yA nA.length zA, .slice JA qA.length KA, .int .i64 xA]) (t := 29) ?hr ?_; (case hd => rfl); (case hg => rfl); (case hr => first | (go_simp; done) | (go_simp; rfl)); intro dA hg hC hbox hb; have kA := Aside0.mk (blk_below (g := cA) (o := .cells #[.int .i64 hA, .int .i64 iA, .slice oA fA.length pA, .slice rA gA.length sA, .int .i64 jA] 29 (0, 0)) q7_1 hb); have tA := Aside0.mk (below_step q7_2 hb); have uA := Aside0.mk (hbox); have MA := Aside0.mk ((q7_18 : w.heap.size ≤ dA)); have BB := Aside0.mk ((q7_18 : w.heap.size ≤ dA)); have CB := Aside0.mk ((q7_6 : cA ≠ dA)); have DB := Aside0.mk ((q7_7 : dA ≠ cA)); clear aA HB; have aA := kA; have HB := tA; have bA := uA; have SB := MA; have FB := BB; have lA := CB; have mA := DB; clear kA tA uA MA BB CB DB; clear hb hbox hg; have nH := lA.out; have oH := mA.out; have bE : hC.cell? ⟨cA, 0, none⟩ = some (.int .i64 hA) := (blk_cell aA.out 0).trans rfl; have cE : hC.cell? ⟨cA, 1, none⟩ = some (.int .i64 iA) := (blk_cell aA.out 1).trans rfl; have dE : hC.cell? ⟨cA, 2, none⟩ = some (.slice oA fA.length pA) := (blk_cell aA.out 2).trans rfl; have eE : hC.cell? ⟨cA, 3, none⟩ = some (.slice rA gA.length sA) := (blk_cell aA.out 3).trans rfl; have fE : hC.cell? ⟨cA, 4, none⟩ = some (.int .i64 jA) := (blk_cell aA.out 4).trans rfl; have gE := blk_frozen aA.out 0; have hE := blk_frozen aA.out 1; have iE := blk_frozen aA.out 2; have jE := blk_frozen aA.out 3; have kE := blk_frozen aA.out 4; have lE : hC.cell? ⟨dA, 0, none⟩ = some (.int .i64 vA) := (blk_cell bA.out 0).trans rfl; have mE : hC.cell? ⟨dA, 1, none⟩ = some (.int .i64 wA) := (blk_cell bA.out 1).trans rfl; have nE : hC.cell? ⟨dA, 2, none⟩ = some (.slice yA nA.length zA) := (blk_cell bA.out 2).trans rfl; have oE : hC.cell? ⟨dA, 3, none⟩ = some (.slice JA qA.length KA) := (blk_cell bA.out 3).trans rfl; have pE : hC.cell? ⟨dA, 4, none⟩ = some (.int .i64 xA) := (blk_cell bA.out 4).trans rfl; have qE := blk_frozen bA.out 0; have rE := blk_frozen bA.out 1; have sE := blk_frozen bA.out 2; have tE := blk_frozen bA.out 3; have uE := blk_frozen bA.out 4) | ((with_reducible refine gate_callee (f := 52) rfl ?_); refine goesL_ (some 19) rfl rfl Try.func52 (by kernel_rfl) rfl #[.agg #[.slice oA fA.length pA], .agg #[.slice yA nA.length zA]] rfl q7_4 ?_; (with_reducible refine (laws_eqMem.calls k _ _ fA _ _ nA true _ ?side1 ?side2 ?side3 ?side4 A5.out).mono ?_); (case side1 => exact q7_11); (case side2 => exact WB.out); (case side3 => exact q7_12); (case side4 => exact XB.out); rintro e iC ⟨rfl, hb⟩; refine ⟨_, rfl, ?_⟩; have kA := Aside0.mk (blk_below (g := cA) (o := .cells #[.int .i64 hA, .int .i64 iA, .slice oA fA.length pA, .slice rA gA.length sA, .int .i64 jA] 29 (0, 0)) q7_1 hb); have tA := Aside0.mk (blk_below (g := dA) (o := .cells #[.int .i64 vA, .int .i64 wA, .slice yA nA.length zA, .slice JA qA.length KA, .int .i64 xA] 29 (0, 0)) q7_9 hb); have uA := Aside0.mk (below_step q7_3 hb); clear aA bA HB; have aA := kA; have bA := tA; have HB := uA; clear kA tA uA; (try clear hb); (try clear hb2); (try clear hk); (try clear hi); have vE : iC.cell? ⟨cA, 0, none⟩ = some (.int .i64 hA) := (blk_cell aA.out 0).trans rfl; have wE : iC.cell? ⟨cA, 1, none⟩ = some (.int .i64 iA) := (blk_cell aA.out 1).trans rfl; have xE : iC.cell? ⟨cA, 2, none⟩ = some (.slice oA fA.length pA) := (blk_cell aA.out 2).trans rfl; have yE : iC.cell? ⟨cA, 3, none⟩ = some (.slice rA gA.length sA) := (blk_cell aA.out 3).trans rfl; have zE : iC.cell? ⟨cA, 4, none⟩ = some (.int .i64 jA) := (blk_cell aA.out 4).trans rfl; have AE := blk_frozen aA.out 0; have BE := blk_frozen aA.out 1; have CE := blk_frozen aA.out 2; have DE := blk_frozen aA.out 3; have EE := blk_frozen aA.out 4; have FE : iC.cell? ⟨dA, 0, none⟩ = some (.int .i64 vA) := (blk_cell bA.out 0).trans rfl; have GE : iC.cell? ⟨dA, 1, none⟩ = some (.int .i64 wA) := (blk_cell bA.out 1).trans rfl; have HE : iC.cell? ⟨dA, 2, none⟩ = some (.slice yA nA.length zA) := (blk_cell bA.out 2).trans rfl; have IE : iC.cell? ⟨dA, 3, none⟩ = some (.slice JA qA.length KA) := (blk_cell bA.out 3).trans rfl; have JE : iC.cell? ⟨dA, 4, none⟩ = some (.int .i64 xA) := (blk_cell bA.out 4).trans rfl; have KE := blk_frozen bA.out 0; have LE := blk_frozen bA.out 1; have ME := blk_frozen bA.out 2; have NE := blk_frozen bA.out 3; have OE := blk_frozen bA.out 4) | ((with_reducible refine gate_callee (f := 16) rfl ?_); refine goesL_ (some 25) rfl rfl Try.func16 (by kernel_rfl) rfl #[.slice rA gA.length sA, .slice JA qA.length KA] rfl q7_4 ?_; (with_reducible refine (laws_eqThreadS.calls k _ _ gA _ _ qA true _ ?side1 ?side2 ?side3 ?side4 A7.out).mono ?_); (case side1 => exact q7_16); (case side2 => exact dC.out); (case side3 => exact q7_17); (case side4 => exact eC.out); rintro e jC ⟨rfl, hb⟩; refine ⟨_, rfl, ?_⟩; have kA := Aside0.mk (blk_below (g := cA) (o := .cells #[.int .i64 hA, .int .i64 iA, .slice oA fA.length pA, .slice rA gA.length sA, .int .i64 jA] 29 (0, 0)) q7_1 hb); have tA := Aside0.mk (blk_below (g := dA) (o := .cells #[.int .i64 vA, .int .i64 wA, .slice yA nA.length zA, .slice JA qA.length KA, .int .i64 xA] 29 (0, 0)) q7_9 hb); have uA := Aside0.mk (below_step q7_3 hb); clear aA bA HB; have aA := kA; have bA := tA; have HB := uA; clear kA tA uA; (try clear hb); (try clear hb2); (try clear hk); (try clear hi); have PE : jC.cell? ⟨cA, 0, none⟩ = some (.int .i64 hA) := (blk_cell aA.out 0).trans rfl; have QE : jC.cell? ⟨cA, 1, none⟩ = some (.int .i64 iA) := (blk_cell aA.out 1).trans rfl; have RE : jC.cell? ⟨cA, 2, none⟩ = some (.slice oA fA.length pA) := (blk_cell aA.out 2).trans rfl; have SE : jC.cell? ⟨cA, 3, none⟩ = some (.slice rA gA.length sA) := (blk_cell aA.out 3).trans rfl; have TE : jC.cell? ⟨cA, 4, none⟩ = some (.int .i64 jA) := (blk_cell aA.out 4).trans rfl; have UE := blk_frozen aA.out 0; have VE := blk_frozen aA.out 1; have WE := blk_frozen aA.out 2; have XE := blk_frozen aA.out 3; have YE := blk_frozen aA.out 4; have ZE : jC.cell? ⟨dA, 0, none⟩ = some (.int .i64 vA) := (blk_cell bA.out 0).trans rfl; have aF : jC.cell? ⟨dA, 1, none⟩ = some (.int .i64 wA) := (blk_cell bA.out 1).trans rfl; have bF : jC.cell? ⟨dA, 2, none⟩ = some (.slice yA nA.length zA) := (blk_cell bA.out 2).trans rfl; have cF : jC.cell? ⟨dA, 3, none⟩ = some (.slice JA qA.length KA) := (blk_cell bA.out 3).trans rfl; have dF : jC.cell? ⟨dA, 4, none⟩ = some (.int .i64 xA) := (blk_cell bA.out 4).trans rfl; have eF := blk_frozen bA.out 0; have fF := blk_frozen bA.out 1; have gF := blk_frozen bA.out 2; have hF := blk_frozen bA.out 3; have iF := blk_frozen bA.out 4))
      go_ret
      exact ⟨q7_5, q7_3⟩
    ·replace c8 := Bool.eq_false_iff.mpr c8
     subst c8
     rw [if_neg (show ¬ (false = true) by decide)] at H
     obtain rfl := Option.some.inj H
     go_enter Try.func15, Try.ntmps15
     go_wp2_with (first | ((with_reducible refine gate_dst (N := 2) rfl ?_); refine box_event ?hg (N := 2) ?hd (cs := #[.int .i64 hA, .int .i64 iA, .slice oA fA.length pA, .slice rA gA.length sA, .int .i64 jA]) (t := 29) ?hr ?_; (case hd => rfl); (case hg => rfl); (case hr => first | (go_simp; done) | (go_simp; rfl)); intro cA hg LH hbox hb; have kA := Aside0.mk (below_step q7_0 hb); have tA := Aside0.mk (hbox); have uA := Aside0.mk ((q7_13 : w.heap.size ≤ cA)); have MA := Aside0.mk ((q7_13 : w.heap.size ≤ cA)); clear HB; have HB := kA; have aA := tA; have RB := uA; have oB := MA; clear kA tA uA MA; clear hb hbox hg) | ((with_reducible refine gate_dst (N := 3) rfl ?_); refine box_event ?hg (N := 3) ?hd (cs := #[.int .i64 vA, .int .i64 wA, .slice yA nA.length zA, .slice JA qA.length KA, .int .i64 xA]) (t := 29) ?hr ?_; (case hd => rfl); (case hg => rfl); (case hr => first | (go_simp; done) | (go_simp; rfl)); intro dA hg kC hbox hb; have kA := Aside0.mk (blk_below (g := cA) (o := .cells #[.int .i64 hA, .int .i64 iA, .slice oA fA.length pA, .slice rA gA.length sA, .int .i64 jA] 29 (0, 0)) q7_1 hb); have tA := Aside0.mk (below_step q7_2 hb); have uA := Aside0.mk (hbox); have MA := Aside0.mk ((q7_18 : w.heap.size ≤ dA)); have BB := Aside0.mk ((q7_18 : w.heap.size ≤ dA)); have CB := Aside0.mk ((q7_6 : cA ≠ dA)); have DB := Aside0.mk ((q7_7 : dA ≠ cA)); clear aA HB; have aA := kA; have HB := tA; have bA := uA; have SB := MA; have FB := BB; have lA := CB; have mA := DB; clear kA tA uA MA BB CB DB; clear hb hbox hg; have pH := lA.out; have qH := mA.out; have jF : kC.cell? ⟨cA, 0, none⟩ = some (.int .i64 hA) := (blk_cell aA.out 0).trans rfl; have kF : kC.cell? ⟨cA, 1, none⟩ = some (.int .i64 iA) := (blk_cell aA.out 1).trans rfl; have lF : kC.cell? ⟨cA, 2, none⟩ = some (.slice oA fA.length pA) := (blk_cell aA.out 2).trans rfl; have mF : kC.cell? ⟨cA, 3, none⟩ = some (.slice rA gA.length sA) := (blk_cell aA.out 3).trans rfl; have nF : kC.cell? ⟨cA, 4, none⟩ = some (.int .i64 jA) := (blk_cell aA.out 4).trans rfl; have oF := blk_frozen aA.out 0; have pF := blk_frozen aA.out 1; have qF := blk_frozen aA.out 2; have rF := blk_frozen aA.out 3; have sF := blk_frozen aA.out 4; have tF : kC.cell? ⟨dA, 0, none⟩ = some (.int .i64 vA) := (blk_cell bA.out 0).trans rfl; have uF : kC.cell? ⟨dA, 1, none⟩ = some (.int .i64 wA) := (blk_cell bA.out 1).trans rfl; have vF : kC.cell? ⟨dA, 2, none⟩ = some (.slice yA nA.length zA) := (blk_cell bA.out 2).trans rfl; have wF : kC.cell? ⟨dA, 3, none⟩ = some (.slice JA qA.length KA) := (blk_cell bA.out 3).trans rfl; have xF : kC.cell? ⟨dA, 4, none⟩ = some (.int .i64 xA) := (blk_cell bA.out 4).trans rfl; have yF := blk_frozen bA.out 0; have zF := blk_frozen bA.out 1; have AF := blk_frozen bA.out 2; have BF := blk_frozen bA.out 3; have CF := blk_frozen bA.out 4) | ((with_reducible refine gate_callee (f := 52) rfl ?_); refine goesL_ (some 19) rfl rfl Try.func52 (by kernel_rfl) rfl #[.agg #[.slice oA fA.length pA], .agg #[.slice yA nA.length zA]] rfl q7_4 ?_; (with_reducible refine (laws_eqMem.calls k _ _ fA _ _ nA true _ ?side1 ?side2 ?side3 ?side4 A5.out).mono ?_); (case side1 => exact q7_11); (case side2 => exact WB.out); (case side3 => exact q7_12); (case side4 => exact XB.out); rintro e lC ⟨rfl, hb⟩; refine ⟨_, rfl, ?_⟩; have kA := Aside0.mk (blk_below (g := cA) (o := .cells #[.int .i64 hA, .int .i64 iA, .slice oA fA.length pA, .slice rA gA.length sA, .int .i64 jA] 29 (0, 0)) q7_1 hb); have tA := Aside0.mk (blk_below (g := dA) (o := .cells #[.int .i64 vA, .int .i64 wA, .slice yA nA.length zA, .slice JA qA.length KA, .int .i64 xA] 29 (0, 0)) q7_9 hb); have uA := Aside0.mk (below_step q7_3 hb); clear aA bA HB; have aA := kA; have bA := tA; have HB := uA; clear kA tA uA; (try clear hb); (try clear hb2); (try clear hk); (try clear hi); have DF : lC.cell? ⟨cA, 0, none⟩ = some (.int .i64 hA) := (blk_cell aA.out 0).trans rfl; have EF : lC.cell? ⟨cA, 1, none⟩ = some (.int .i64 iA) := (blk_cell aA.out 1).trans rfl; have FF : lC.cell? ⟨cA, 2, none⟩ = some (.slice oA fA.length pA) := (blk_cell aA.out 2).trans rfl; have GF : lC.cell? ⟨cA, 3, none⟩ = some (.slice rA gA.length sA) := (blk_cell aA.out 3).trans rfl; have HF : lC.cell? ⟨cA, 4, none⟩ = some (.int .i64 jA) := (blk_cell aA.out 4).trans rfl; have IF := blk_frozen aA.out 0; have JF := blk_frozen aA.out 1; have KF := blk_frozen aA.out 2; have LF := blk_frozen aA.out 3; have MF := blk_frozen aA.out 4; have NF : lC.cell? ⟨dA, 0, none⟩ = some (.int .i64 vA) := (blk_cell bA.out 0).trans rfl; have OF : lC.cell? ⟨dA, 1, none⟩ = some (.int .i64 wA) := (blk_cell bA.out 1).trans rfl; have PF : lC.cell? ⟨dA, 2, none⟩ = some (.slice yA nA.length zA) := (blk_cell bA.out 2).trans rfl; have QF : lC.cell? ⟨dA, 3, none⟩ = some (.slice JA qA.length KA) := (blk_cell bA.out 3).trans rfl; have RF : lC.cell? ⟨dA, 4, none⟩ = some (.int .i64 xA) := (blk_cell bA.out 4).trans rfl; have SF := blk_frozen bA.out 0; have TF := blk_frozen bA.out 1; have UF := blk_frozen bA.out 2; have VF := blk_frozen bA.out 3; have WF := blk_frozen bA.out 4) | ((with_reducible refine gate_callee (f := 16) rfl ?_); refine goesL_ (some 25) rfl rfl Try.func16 (by kernel_rfl) rfl #[.slice rA gA.length sA, .slice JA qA.length KA] rfl q7_4 ?_; (with_reducible refine (laws_eqThreadS.calls k _ _ gA _ _ qA false _ ?side1 ?side2 ?side3 ?side4 A7.out).mono ?_); (case side1 => exact q7_16); (case side2 => exact dC.out); (case side3 => exact q7_17); (case side4 => exact eC.out); rintro e MH ⟨rfl, hb⟩; refine ⟨_, rfl, ?_⟩; have kA := Aside0.mk (blk_below (g := cA) (o := .cells #[.int .i64 hA, .int .i64 iA, .slice oA fA.length pA, .slice rA gA.length sA, .int .i64 jA] 29 (0, 0)) q7_1 hb); have tA := Aside0.mk (blk_below (g := dA) (o := .cells #[.int .i64 vA, .int .i64 wA, .slice yA nA.length zA, .slice JA qA.length KA, .int .i64 xA] 29 (0, 0)) q7_9 hb); have uA := Aside0.mk (below_step q7_3 hb); clear aA bA HB; have aA := kA; have bA := tA; have HB := uA; clear kA tA uA; (try clear hb); (try clear hb2); (try clear hk); (try clear hi)))
     go_ret
     exact ⟨q7_5, q7_3⟩
   ·replace c6 := Bool.eq_false_iff.mpr c6
    subst c6
    rw [if_neg (show ¬ (false = true) by decide)] at H
    obtain rfl := Option.some.inj H
    go_enter Try.func15, Try.ntmps15
    go_wp2_with (first | ((with_reducible refine gate_dst (N := 2) rfl ?_); refine box_event ?hg (N := 2) ?hd (cs := #[.int .i64 hA, .int .i64 iA, .slice oA fA.length pA, .slice rA gA.length sA, .int .i64 jA]) (t := 29) ?hr ?_; (case hd => rfl); (case hg => rfl); (case hr => first | (go_simp; done) | (go_simp; rfl)); intro cA hg NH hbox hb; have kA := Aside0.mk (below_step q7_0 hb); have tA := Aside0.mk (hbox); have uA := Aside0.mk ((q7_13 : w.heap.size ≤ cA)); have MA := Aside0.mk ((q7_13 : w.heap.size ≤ cA)); clear HB; have HB := kA; have aA := tA; have RB := uA; have oB := MA; clear kA tA uA MA; clear hb hbox hg) | ((with_reducible refine gate_dst (N := 3) rfl ?_); refine box_event ?hg (N := 3) ?hd (cs := #[.int .i64 vA, .int .i64 wA, .slice yA nA.length zA, .slice JA qA.length KA, .int .i64 xA]) (t := 29) ?hr ?_; (case hd => rfl); (case hg => rfl); (case hr => first | (go_simp; done) | (go_simp; rfl)); intro dA hg mC hbox hb; have kA := Aside0.mk (blk_below (g := cA) (o := .cells #[.int .i64 hA, .int .i64 iA, .slice oA fA.length pA, .slice rA gA.length sA, .int .i64 jA] 29 (0, 0)) q7_1 hb); have tA := Aside0.mk (below_step q7_2 hb); have uA := Aside0.mk (hbox); have MA := Aside0.mk ((q7_18 : w.heap.size ≤ dA)); have BB := Aside0.mk ((q7_18 : w.heap.size ≤ dA)); have CB := Aside0.mk ((q7_6 : cA ≠ dA)); have DB := Aside0.mk ((q7_7 : dA ≠ cA)); clear aA HB; have aA := kA; have HB := tA; have bA := uA; have SB := MA; have FB := BB; have lA := CB; have mA := DB; clear kA tA uA MA BB CB DB; clear hb hbox hg; have rH := lA.out; have sH := mA.out; have XF : mC.cell? ⟨cA, 0, none⟩ = some (.int .i64 hA) := (blk_cell aA.out 0).trans rfl; have YF : mC.cell? ⟨cA, 1, none⟩ = some (.int .i64 iA) := (blk_cell aA.out 1).trans rfl; have ZF : mC.cell? ⟨cA, 2, none⟩ = some (.slice oA fA.length pA) := (blk_cell aA.out 2).trans rfl; have aG : mC.cell? ⟨cA, 3, none⟩ = some (.slice rA gA.length sA) := (blk_cell aA.out 3).trans rfl; have bG : mC.cell? ⟨cA, 4, none⟩ = some (.int .i64 jA) := (blk_cell aA.out 4).trans rfl; have cG := blk_frozen aA.out 0; have dG := blk_frozen aA.out 1; have eG := blk_frozen aA.out 2; have fG := blk_frozen aA.out 3; have gG := blk_frozen aA.out 4; have hG : mC.cell? ⟨dA, 0, none⟩ = some (.int .i64 vA) := (blk_cell bA.out 0).trans rfl; have iG : mC.cell? ⟨dA, 1, none⟩ = some (.int .i64 wA) := (blk_cell bA.out 1).trans rfl; have jG : mC.cell? ⟨dA, 2, none⟩ = some (.slice yA nA.length zA) := (blk_cell bA.out 2).trans rfl; have kG : mC.cell? ⟨dA, 3, none⟩ = some (.slice JA qA.length KA) := (blk_cell bA.out 3).trans rfl; have lG : mC.cell? ⟨dA, 4, none⟩ = some (.int .i64 xA) := (blk_cell bA.out 4).trans rfl; have mG := blk_frozen bA.out 0; have nG := blk_frozen bA.out 1; have oG := blk_frozen bA.out 2; have pG := blk_frozen bA.out 3; have qG := blk_frozen bA.out 4) | ((with_reducible refine gate_callee (f := 52) rfl ?_); refine goesL_ (some 19) rfl rfl Try.func52 (by kernel_rfl) rfl #[.agg #[.slice oA fA.length pA], .agg #[.slice yA nA.length zA]] rfl q7_4 ?_; (with_reducible refine (laws_eqMem.calls k _ _ fA _ _ nA false _ ?side1 ?side2 ?side3 ?side4 A5.out).mono ?_); (case side1 => exact q7_11); (case side2 => exact WB.out); (case side3 => exact q7_12); (case side4 => exact XB.out); rintro e OH ⟨rfl, hb⟩; refine ⟨_, rfl, ?_⟩; have kA := Aside0.mk (blk_below (g := cA) (o := .cells #[.int .i64 hA, .int .i64 iA, .slice oA fA.length pA, .slice rA gA.length sA, .int .i64 jA] 29 (0, 0)) q7_1 hb); have tA := Aside0.mk (blk_below (g := dA) (o := .cells #[.int .i64 vA, .int .i64 wA, .slice yA nA.length zA, .slice JA qA.length KA, .int .i64 xA] 29 (0, 0)) q7_9 hb); have uA := Aside0.mk (below_step q7_3 hb); clear aA bA HB; have aA := kA; have bA := tA; have HB := uA; clear kA tA uA; (try clear hb); (try clear hb2); (try clear hk); (try clear hi)))
    go_ret
    exact ⟨q7_5, q7_3⟩
  ·rw [if_neg c4] at H
   have qC : (iA == wA) = false := beq_eq_false_iff_ne.mpr c4
   have jH : (iA != wA) = true := bne_iff_ne.mpr c4
   obtain rfl := Option.some.inj H
   go_enter Try.func15, Try.ntmps15
   go_wp2_with (first | ((with_reducible refine gate_dst (N := 2) rfl ?_); refine box_event ?hg (N := 2) ?hd (cs := #[.int .i64 hA, .int .i64 iA, .slice oA fA.length pA, .slice rA gA.length sA, .int .i64 jA]) (t := 29) ?hr ?_; (case hd => rfl); (case hg => rfl); (case hr => first | (go_simp; done) | (go_simp; rfl)); intro cA hg PH hbox hb; have kA := Aside0.mk (below_step q7_0 hb); have tA := Aside0.mk (hbox); have uA := Aside0.mk ((q7_13 : w.heap.size ≤ cA)); have MA := Aside0.mk ((q7_13 : w.heap.size ≤ cA)); clear HB; have HB := kA; have aA := tA; have RB := uA; have oB := MA; clear kA tA uA MA; clear hb hbox hg) | ((with_reducible refine gate_dst (N := 3) rfl ?_); refine box_event ?hg (N := 3) ?hd (cs := #[.int .i64 vA, .int .i64 wA, .slice yA nA.length zA, .slice JA qA.length KA, .int .i64 xA]) (t := 29) ?hr ?_; (case hd => rfl); (case hg => rfl); (case hr => first | (go_simp; done) | (go_simp; rfl)); intro dA hg nC hbox hb; have kA := Aside0.mk (blk_below (g := cA) (o := .cells #[.int .i64 hA, .int .i64 iA, .slice oA fA.length pA, .slice rA gA.length sA, .int .i64 jA] 29 (0, 0)) q7_1 hb); have tA := Aside0.mk (below_step q7_2 hb); have uA := Aside0.mk (hbox); have MA := Aside0.mk ((q7_18 : w.heap.size ≤ dA)); have BB := Aside0.mk ((q7_18 : w.heap.size ≤ dA)); have CB := Aside0.mk ((q7_6 : cA ≠ dA)); have DB := Aside0.mk ((q7_7 : dA ≠ cA)); clear aA HB; have aA := kA; have HB := tA; have bA := uA; have SB := MA; have FB := BB; have lA := CB; have mA := DB; clear kA tA uA MA BB CB DB; clear hb hbox hg; have tH := lA.out; have uH := mA.out; have rG : nC.cell? ⟨cA, 0, none⟩ = some (.int .i64 hA) := (blk_cell aA.out 0).trans rfl; have sG : nC.cell? ⟨cA, 1, none⟩ = some (.int .i64 iA) := (blk_cell aA.out 1).trans rfl; have tG : nC.cell? ⟨cA, 2, none⟩ = some (.slice oA fA.length pA) := (blk_cell aA.out 2).trans rfl; have uG : nC.cell? ⟨cA, 3, none⟩ = some (.slice rA gA.length sA) := (blk_cell aA.out 3).trans rfl; have vG : nC.cell? ⟨cA, 4, none⟩ = some (.int .i64 jA) := (blk_cell aA.out 4).trans rfl; have wG := blk_frozen aA.out 0; have xG := blk_frozen aA.out 1; have yG := blk_frozen aA.out 2; have zG := blk_frozen aA.out 3; have AG := blk_frozen aA.out 4; have BG : nC.cell? ⟨dA, 0, none⟩ = some (.int .i64 vA) := (blk_cell bA.out 0).trans rfl; have CG : nC.cell? ⟨dA, 1, none⟩ = some (.int .i64 wA) := (blk_cell bA.out 1).trans rfl; have DG : nC.cell? ⟨dA, 2, none⟩ = some (.slice yA nA.length zA) := (blk_cell bA.out 2).trans rfl; have EG : nC.cell? ⟨dA, 3, none⟩ = some (.slice JA qA.length KA) := (blk_cell bA.out 3).trans rfl; have FG : nC.cell? ⟨dA, 4, none⟩ = some (.int .i64 xA) := (blk_cell bA.out 4).trans rfl; have GG := blk_frozen bA.out 0; have HG := blk_frozen bA.out 1; have IG := blk_frozen bA.out 2; have JG := blk_frozen bA.out 3; have KG := blk_frozen bA.out 4))
   go_ret
   exact ⟨q7_5, q7_3⟩
 ·rw [if_neg c3] at H
  have YB : (hA == vA) = false := beq_eq_false_iff_ne.mpr c3
  have pC : (hA != vA) = true := bne_iff_ne.mpr c3
  obtain rfl := Option.some.inj H
  go_enter Try.func15, Try.ntmps15
  go_wp2_with (first | ((with_reducible refine gate_dst (N := 2) rfl ?_); refine box_event ?hg (N := 2) ?hd (cs := #[.int .i64 hA, .int .i64 iA, .slice oA fA.length pA, .slice rA gA.length sA, .int .i64 jA]) (t := 29) ?hr ?_; (case hd => rfl); (case hg => rfl); (case hr => first | (go_simp; done) | (go_simp; rfl)); intro cA hg QH hbox hb; have kA := Aside0.mk (below_step q7_0 hb); have tA := Aside0.mk (hbox); have uA := Aside0.mk ((q7_13 : w.heap.size ≤ cA)); have MA := Aside0.mk ((q7_13 : w.heap.size ≤ cA)); clear HB; have HB := kA; have aA := tA; have RB := uA; have oB := MA; clear kA tA uA MA; clear hb hbox hg) | ((with_reducible refine gate_dst (N := 3) rfl ?_); refine box_event ?hg (N := 3) ?hd (cs := #[.int .i64 vA, .int .i64 wA, .slice yA nA.length zA, .slice JA qA.length KA, .int .i64 xA]) (t := 29) ?hr ?_; (case hd => rfl); (case hg => rfl); (case hr => first | (go_simp; done) | (go_simp; rfl)); intro dA hg oC hbox hb; have kA := Aside0.mk (blk_below (g := cA) (o := .cells #[.int .i64 hA, .int .i64 iA, .slice oA fA.length pA, .slice rA gA.length sA, .int .i64 jA] 29 (0, 0)) q7_1 hb); have tA := Aside0.mk (below_step q7_2 hb); have uA := Aside0.mk (hbox); have MA := Aside0.mk ((q7_18 : w.heap.size ≤ dA)); have BB := Aside0.mk ((q7_18 : w.heap.size ≤ dA)); have CB := Aside0.mk ((q7_6 : cA ≠ dA)); have DB := Aside0.mk ((q7_7 : dA ≠ cA)); clear aA HB; have aA := kA; have HB := tA; have bA := uA; have SB := MA; have FB := BB; have lA := CB; have mA := DB; clear kA tA uA MA BB CB DB; clear hb hbox hg; have vH := lA.out; have wH := mA.out; have LG : oC.cell? ⟨cA, 0, none⟩ = some (.int .i64 hA) := (blk_cell aA.out 0).trans rfl; have MG : oC.cell? ⟨cA, 1, none⟩ = some (.int .i64 iA) := (blk_cell aA.out 1).trans rfl; have NG : oC.cell? ⟨cA, 2, none⟩ = some (.slice oA fA.length pA) := (blk_cell aA.out 2).trans rfl; have OG : oC.cell? ⟨cA, 3, none⟩ = some (.slice rA gA.length sA) := (blk_cell aA.out 3).trans rfl; have PG : oC.cell? ⟨cA, 4, none⟩ = some (.int .i64 jA) := (blk_cell aA.out 4).trans rfl; have QG := blk_frozen aA.out 0; have RG := blk_frozen aA.out 1; have SG := blk_frozen aA.out 2; have TG := blk_frozen aA.out 3; have UG := blk_frozen aA.out 4; have VG : oC.cell? ⟨dA, 0, none⟩ = some (.int .i64 vA) := (blk_cell bA.out 0).trans rfl; have WG : oC.cell? ⟨dA, 1, none⟩ = some (.int .i64 wA) := (blk_cell bA.out 1).trans rfl; have XG : oC.cell? ⟨dA, 2, none⟩ = some (.slice yA nA.length zA) := (blk_cell bA.out 2).trans rfl; have YG : oC.cell? ⟨dA, 3, none⟩ = some (.slice JA qA.length KA) := (blk_cell bA.out 3).trans rfl; have ZG : oC.cell? ⟨dA, 4, none⟩ = some (.int .i64 xA) := (blk_cell bA.out 4).trans rfl; have aH := blk_frozen bA.out 0; have bH := blk_frozen bA.out 1; have cH := blk_frozen bA.out 2; have dH := blk_frozen bA.out 3; have eH := blk_frozen bA.out 4))
  go_ret
  exact ⟨q7_5, q7_3⟩

/-! ### laws_markIntS: function 27 -/
def laws_markIntS.l0 : Nat → List Int → Int → Int → Option (Int × List Int)
 | 0, _, _, _ => none
 | k + 1, x0, x1, x5 => if x5 < (x0.length : Int) then (if 0 ≤ x5 then (laws_markIntS.l0 k (x0.set (x5 : Int).toNat x1) (wrap64 (x1 + 1)) (wrap64 (x5 + 1))) else (none)) else (some (x1, x0))
def laws_markIntS.f (k : Nat) (l0 : List Int) (a1 : Int) : Option (Int × List Int) := laws_markIntS.l0 k l0 a1 0
theorem laws_markIntS.mono_l : ∀ k, (∀ y0 y1 y2, LeO (laws_markIntS.l0 k y0 y1 y2) (laws_markIntS.l0 (k + 1) y0 y1 y2))
 | 0 => fun _ _ _ r h => by simp [laws_markIntS.l0] at h
 | k + 1 => by
  have ih0 := laws_markIntS.mono_l k
  ·intro y0 y1 y2
   unfold laws_markIntS.l0
   repeat' first
   | (with_reducible exact ih0 _ _ _)
   | (with_reducible exact LeO.refl _)
   | (with_reducible exact LeO.none _)
   | (with_reducible refine LeO.ite ?_ ?_)
   | (with_reducible refine LeO.bind ?_ (fun _ => ?_))
   | exact ih0 _ _ _
   | exact LeO.none _
   | refine LeO.ite ?_ ?_
   | refine LeO.bind ?_ (fun _ => ?_)
theorem laws_markIntS.mono : ∀ a0 a1 k, LeO (laws_markIntS.f k a0 a1) (laws_markIntS.f (k + 1) a0 a1) := by
 intro a0 a1 k
 have ih0 := laws_markIntS.mono_l k
 unfold laws_markIntS.f
 repeat' first
   | (with_reducible exact ih0 _ _ _)
   | (with_reducible exact LeO.refl _)
   | (with_reducible exact LeO.none _)
   | (with_reducible refine LeO.ite ?_ ?_)
   | (with_reducible refine LeO.bind ?_ (fun _ => ?_))
   | exact ih0 _ _ _
   | exact LeO.none _
   | refine LeO.ite ?_ ?_
   | refine LeO.bind ?_ (fun _ => ?_)
set_option maxHeartbeats 8000000 in
set_option maxRecDepth 100000 in
theorem laws_markIntS.calls (k : Nat) (P0_ : Nat → Prop) (u9000_ : Value) (l0 : List Int) (a1 : Int) (r1 : Int) (r2 : List Int) (w0 w : World) (hB : Below w0.heap.size w0 w) (ho0 : Kd.R (Kd.int .i64) 3 w w0.heap.size P0_ u9000_ l0) (h : laws_markIntS.f k l0 a1 = some (r1, r2)) :
  Calls Try.prog 27 #[u9000_, .int .i64 a1] w fun e w' => e = .returned (.int .i64 r1) ∧ Kd.R (Kd.int .i64) 3 w' w0.heap.size (fun k_ => (P0_ k_ ∨ w.heap.size ≤ k_)) u9000_ r2 ∧ Below w0.heap.size w0 w' ∧ Kept w w' (fun k_ => P0_ k_) := by
 have FH := Aside0.mk (show Kd.R (Kd.int .i64) 3 w w0.heap.size (fun k_ => (P0_ k_ ∨ w.heap.size ≤ k_)) u9000_ l0 from Kd.R_mono ho0 (fun k_ hk => (.inl hk)))
 have HK := Aside0.mk (Kept.refl w (fun k_ => P0_ k_))
 have HW0 := Aside0.mk hB.size
 have HB := Aside0.mk hB
 clear hB
 have H : (laws_markIntS.l0 k l0 a1 0) = some (r1, r2) := h
 clear h
 have H' := Aside0.mk H
 clear H
 go_enter Try.func27, Try.ntmps27
 go_wp2
 go_loopg [1, 5] k (fun kq v1 v5 w' => ∃ (NB : List Int) (TB : Int) (eA : Int), v1 = .int .i64 TB ∧ v5 = .int .i64 eA ∧ Aside0 (laws_markIntS.l0 kq NB TB eA = some (r1, r2)) ∧ Aside0 (kq ≤ k) ∧ Aside0 (Kd.R (Kd.int .i64) 3 w' w0.heap.size (fun k_ => (P0_ k_ ∨ w.heap.size ≤ k_)) u9000_ NB) ∧ Aside0 (Kept w w' (fun k_ => P0_ k_)) ∧ Aside0 (Below w0.heap.size w0 w'))
 case atStart => exact ⟨(l0), (a1), (0), q7_19, q7_19, H', ⟨Nat.le_refl _⟩, ⟨by (with_reducible repeat (first | apply Kd.R_alloc | apply Kd.R_drewN | apply Kd.R_drew)); exact FH.out⟩, ⟨q7_15⟩, ⟨q7_0⟩⟩
 case round =>
  clear H'
  (try clear c2); (try clear p2)
  obtain ⟨NB, TB, eA, rfl, rfl, HA, HK1, EB, HK, HB⟩ := hrel
  cases gk with
  | zero => exact absurd HA.out (by simp [laws_markIntS.l0])
  | succ k1 =>
   have H := HA.out
   clear HA
   simp only [laws_markIntS.l0] at H
   by_cases c3 : eA < (NB.length : Int)
   ·rw [if_pos c3] at H
    have YB : decide (eA < (NB.length : Int)) = true := decide_eq_true c3
    clear c3
    by_cases c4 : 0 ≤ eA
    ·rw [if_pos c4] at H
     have qC : decide (0 ≤ eA) = true := decide_eq_true c4
     clear c4
     obtain ⟨y390, hy390⟩ : ∃ y_ : List Int, y_ = (NB.set (eA : Int).toNat TB) := ⟨_, rfl⟩
     replace H : (laws_markIntS.l0 k1 y390 (wrap64 (TB + 1)) (wrap64 (eA + 1))) = some (r1, r2) := by first | (rw [hy390]; with_reducible exact H) | (have H2_ := (Option.bind_some _ _).symm.trans H; rw [hy390]; with_reducible exact H2_) | (have H2_ := (Option.bind_some _ _).symm.trans H; with_reducible exact H2_) | with_reducible exact H | (rw [hy390]; exact H) | exact H
     have Ny390 := Aside0.mk hy390
     clear hy390
     have H' := Aside0.mk H
     clear H
     obtain ⟨RH, GH, HH⟩ := Kd.R_slice EB.out
     subst HH
     have p5 : 0 ≤ (eA : Int) := of_decide_eq_true q7_14
     have q5 : (eA : Int) < ((NB.length : Int) : Int) := of_decide_eq_true q7_14
     obtain ⟨go5, SH, xH, yH, gl5, cl5, HG5⟩ := Kd.R_form EB.out (by omega)
     (first | cases xH | (injection xH with ea_ en_ ec_; (first | subst ea_ | (injection ea_ with ea_; subst ea_)); subst ec_; clear en_))
     have GB5 := Aside0.mk yH
     have GG5 := Aside0.mk HG5
     clear yH gl5 HG5
     obtain ⟨zH, AH⟩ := Kd.R_celln 0 EB.out (eA : Int) p5 q5
     replace p5 := eq_true p5
     replace q5 := eq_true q5
     have HP7 := Kd.R_putg EB.out (eA : Int) TB
     go_wp2_with (first | ((with_reducible refine gate_store (t := 3) (p := 15) rfl ?_); refine store_event (t := 3) (p := 15) (v := ?vo_w8) (w1 := (wr.setCell ⟨go5, (eA : Int).toNat, none⟩ (.int .i64 TB))) ?hg ?ho ?hn ?hr ?_; (case ho => rfl); (case hg => rfl); (case hn => rfl); (case hr => first | (go_simp; done) | (go_simp; rfl)); intro w8 hw; have hg : wr.grownBy w8 (some go5) := (by rw [hw]; exact HP7.2); have hp_ : Kd.R (Kd.int .i64) 3 w8 w0.heap.size (fun k_ => (P0_ k_ ∨ w.heap.size ≤ k_)) (.slice (some ⟨go5, 0, none⟩) NB.length GH) y390 := (by rw [hw, Ny390.out]; exact HP7.1); clear HP7; have kA := Aside0.mk (hp_); have tA := Aside0.mk ((by rw [hw]; exact below_set (HB.out) GB5.out : Below w0.heap.size w0 w8)); have uA := Aside0.mk (Kept.of_grown (S := (fun k_ => P0_ k_)) hg q7_15 (fun k_ e_ => (EB.out.1 k_ e_))); clear EB HB HK; have EB := kA; have HB := tA; have HK := uA; clear kA tA uA; clear hg hw hp_))
     go_roundg k1
     case measure => have := HK1.out; omega
     case rel => exact ⟨(y390), (wrap64 (TB + 1)), (wrap64 (eA + 1)), q7_19, q7_19, H', ⟨by have := HK1.out; omega⟩, ⟨by (with_reducible repeat (first | apply Kd.R_alloc | apply Kd.R_drewN | apply Kd.R_drew)); exact EB.out⟩, ⟨q7_15⟩, ⟨q7_0⟩⟩
    ·rw [if_neg c4] at H
     exact absurd H (by simp)
   ·rw [if_neg c3] at H
    have YB : decide (eA < (NB.length : Int)) = false := decide_eq_false c3
    clear c3
    simp only [Option.some.injEq, Prod.mk.injEq] at H
    obtain ⟨rfl, rfl⟩ := H
    obtain ⟨TH, UH, IH⟩ := Kd.R_slice EB.out
    subst IH
    go_wp2
    go_ret
    exact ⟨q7_5, by (with_reducible repeat (first | apply Kd.R_alloc | apply Kd.R_drewN | apply Kd.R_drew)); exact EB.out, q7_0, q7_15⟩

end Go.Proofs.Ytgghglocfdcegaa.PFnExactCrewNew
