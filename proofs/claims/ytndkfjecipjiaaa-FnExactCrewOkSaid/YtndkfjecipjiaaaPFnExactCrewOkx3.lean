-- Written by the session's own patched copy of the printer (wip/patch_print.py).
import Derived.Test.YtndkfjecipjiaaaPFnExactCrewOkx0
import Derived.Test.YtndkfjecipjiaaaPFnExactCrewOkx2
namespace Go.Proofs.Ytndkfjecipjiaaa.PFnExactCrewOk
open Go.RowKit Go.Proofs.YtndkfjecipjiaaaW.PrintWords Go.Proofs.YtndkfjecipjiaaaW.PrintLast Go.Proofs.YtndkfjecipjiaaaW.PrintMore
attribute [local go_sem] max2_int min2_int max_two min_two max_three min_three max_four min_four   -- for this text's walks alone
set_option linter.unusedVariables false
set_option linter.unusedSimpArgs false

theorem q3_p {P : Program} {ops : Array Oper} {Q : Exit → Act → World → Prop} {md : Region.Mode} {S : World → Prop} {ds : List Nat} (i n : Nat) {oi : Oper} {v : Value} {fuel : Nat} {l : Array Bool} {a : Act} {w : World} (l' : Array Bool) {a' : Act} (h : wpAnyLast P md ops Q S ds fuel l' a' w) (hi : ops[i]? = some oi := by rfl) (hN : oi.dst = some n := by rfl) (hc : anyB md ops l l' i = true := by exact any_of HT_.out (by kernel_rfl)) (hQ : ∀ c a w, Q (.panic c) (a.put oi.dst v) w → Q (.panic c) a w := by exact fun _ _ _ h => h) (hy : Yields P ops oi v a := by refine Or.inl ⟨by rfl, ?_⟩; intro w'; go_simp; with_reducible rfl) (ha : a.put (some n) v = a' := by simp only [Act.put, List.setIfInBounds_toArray, List.set_cons_zero, List.set_cons_succ, i64_w, i32_w]; rfl) : wpAnyLast P md ops Q S ds (fuel + 1) l a w := pure_ (N := some n) l' hi hN hc hQ hy ha h
theorem q3_u {P : Program} {ops : Array Oper} {Q : Exit → Act → World → Prop} {md : Region.Mode} {S : World → Prop} {ds : List Nat} (i n : Nat) {oi : Oper} {fuel : Nat} {l : Array Bool} {a : Act} {w : World} (l' : Array Bool) {a' : Act} (h : wpAnyLast P md ops Q S ds fuel l' a' w) (hi : ops[i]? = some oi := by rfl) (hN : oi.dst = some n := by rfl) (hc : anyB md ops l l' i = true := by exact any_of HT_.out (by kernel_rfl)) (hQ : ∀ c a w, Q (.panic c) (a.put oi.dst undef) w → Q (.panic c) a w := by exact fun _ _ _ h => h) (hy : Yields P ops oi undef a := by exact Or.inr ⟨by rfl, rfl⟩) (ha : a.put (some n) undef = a' := by simp only [Act.put, List.setIfInBounds_toArray, List.set_cons_zero, List.set_cons_succ, i64_w, i32_w]; rfl) : wpAnyLast P md ops Q S ds (fuel + 1) l a w := pure_ (N := some n) l' hi hN hc hQ hy ha h
open Bool renaming true → T, false → F
theorem q3_0 {p : Prop} (h : p := by repeat (first | (with_reducible first | exact HB.out | apply below_alloc | apply pw_below_drewN | apply below_drew1) | exact HB.out)) : p := h
theorem q3_1 {p : Prop} (h : p := by (with_reducible repeat (first | refine blk_drewN ?_ _ | refine blk_drew ?_ | refine blk_alloc ?_ _)); exact aA.out) : p := h
theorem q3_2 {p : Prop} (h : p := by repeat (first | (with_reducible first | exact HB.out | apply below_alloc | apply pw_below_drewN | apply below_drew1 | refine below_set ?_ tB.out) | exact HB.out)) : p := h
theorem q3_3 {p : Prop} (h : p := by (try simp only [List.map_toArray, List.map_cons, List.map_nil]); first | done | rfl | (simp only [List.length_drop, List.length_take]; rfl)) : p := h
theorem q3_4 {p : Prop} (h : p := by repeat (first | (with_reducible first | exact HB.out | apply below_alloc | apply pw_below_drewN | apply below_drew1 | refine below_set ?_ tB.out | refine below_set ?_ MB.out) | exact HB.out)) : p := h
theorem q3_5 {p : Prop} (h : p := by first | rfl | (simp [errW_none, errW_some] <;> rfl) | (simp [*, errW_none, errW_some] <;> rfl)) : p := h
theorem q3_6 {p : Prop} (h : p := by repeat (first | (with_reducible first | exact HB.out | apply below_alloc | apply pw_below_drewN | apply below_drew1 | refine below_set ?_ hC.out) | exact HB.out)) : p := h
theorem q3_7 {p : Prop} (h : p := by rw [hg]; exact Nat.ne_of_lt (blk_lt (g := cA) (o := .cells #[.int .i64 qA, .int .i64 hA, .slice jA fA.length kA, .slice lA gA.length mA, .int .i64 oA] 29 (0, 0)) q3_1)) : p := h
theorem q3_8 {p : Prop} (h : p := by rw [hg]; exact Nat.ne_of_gt (blk_lt (g := cA) (o := .cells #[.int .i64 qA, .int .i64 hA, .slice jA fA.length kA, .slice lA gA.length mA, .int .i64 oA] 29 (0, 0)) q3_1)) : p := h
theorem q3_9 {p : Prop} (h : p := by repeat (first | exact (Kd.C_below WC.out HB.out) | (with_reducible refine Kd.C_alloc ?_ _) | (with_reducible refine Kd.C_drewN ?_ _) | (with_reducible refine Kd.C_drew ?_))) : p := h
theorem q3_10 {p : Prop} (h : p := by repeat (first | (with_reducible first | exact HB.out | apply below_alloc | apply pw_below_drewN | apply below_drew1 | refine below_set ?_ iC.out) | exact HB.out)) : p := h
theorem q3_11 {p : Prop} (h : p := by rw [hg]; exact (below_size q3_0)) : p := h
theorem q3_12 {p : Prop} (h : p := by (with_reducible repeat (first | refine blk_drewN ?_ _ | refine blk_drew ?_ | refine blk_alloc ?_ _)); exact bA.out) : p := h
theorem q3_13 {p : Prop} (h : p := by (with_reducible repeat (first | refine blk_drewN ?_ _ | refine blk_drew ?_ | refine blk_alloc ?_ _)); exact XA.out) : p := h
theorem q3_14 {p : Prop} (h : p := by repeat (first | exact (Kd.C_below qC.out HB.out) | (with_reducible refine Kd.C_alloc ?_ _) | (with_reducible refine Kd.C_drewN ?_ _) | (with_reducible refine Kd.C_drew ?_))) : p := h
theorem q3_15 {p : Prop} (h : p := by repeat (first | exact (Kd.C_below hD.out HB.out) | (with_reducible refine Kd.C_alloc ?_ _) | (with_reducible refine Kd.C_drewN ?_ _) | (with_reducible refine Kd.C_drew ?_))) : p := h
theorem q3_16 {p : Prop} (h : p := by repeat (first | exact (Kd.C_below jC.out HB.out) | (with_reducible refine Kd.C_alloc ?_ _) | (with_reducible refine Kd.C_drewN ?_ _) | (with_reducible refine Kd.C_drew ?_))) : p := h
theorem q3_17 {p : Prop} (h : p := by repeat (first | exact (Kd.C_below iD.out HB.out) | (with_reducible refine Kd.C_alloc ?_ _) | (with_reducible refine Kd.C_drewN ?_ _) | (with_reducible refine Kd.C_drew ?_))) : p := h
theorem q3_18 {p : Prop} (h : p := by repeat (first | exact (Kd.C_below qC.out q3_6) | (with_reducible refine Kd.C_alloc ?_ _) | (with_reducible refine Kd.C_drewN ?_ _) | (with_reducible refine Kd.C_drew ?_))) : p := h
theorem q3_19 {p : Prop} (h : p := by rw [hg]; exact (below_size q3_2)) : p := h
theorem q3_20 {p : Prop} (h : p := by first | (with_reducible assumption) | assumption) : p := h
theorem q3_21 {p : Prop} (h : p := by kernel_rfl) : p := h
theorem q3_22 {p : Prop} (h : p := by first | rfl | (simp; done) | (simp [*]; done)) : p := h
/-! ### laws_eqThreadS: function 16 -/
def laws_eqThreadS.l0 : Nat → List (S55) → List (S55) → Int → Option (Bool)
 | 0, _, _, _ => none
 | k + 1, x0, x1, x5 => if x5 < (x0.length : Int) then (if 0 ≤ x5 then (if x5 < (x1.length : Int) then ((laws_eqThread.f k ((rd_T55 x0 x5).f0) ((rd_T55 x0 x5).f1) ((rd_T55 x0 x5).f2) ((rd_T55 x0 x5).f3) ((rd_T55 x1 x5).f0) ((rd_T55 x1 x5).f1) ((rd_T55 x1 x5).f2) ((rd_T55 x1 x5).f3)).bind fun EC => (if EC = true then (laws_eqThreadS.l0 k x0 x1 (wrap64 (x5 + 1))) else (some false))) else (none)) else (none)) else (some true)
def laws_eqThreadS.f (k : Nat) (l0 : List (S55)) (l1 : List (S55)) : Option (Bool) := if (l0.length : Int) = (l1.length : Int) then (laws_eqThreadS.l0 k l0 l1 0) else (some false)
theorem laws_eqThreadS.mono_l : ∀ k, (∀ y0 y1 y2, LeO (laws_eqThreadS.l0 k y0 y1 y2) (laws_eqThreadS.l0 (k + 1) y0 y1 y2))
 | 0 => fun _ _ _ r h => by simp [laws_eqThreadS.l0] at h
 | k + 1 => by
  have ih0 := laws_eqThreadS.mono_l k
  ·intro y0 y1 y2
   unfold laws_eqThreadS.l0
   repeat' first
   | (with_reducible exact ih0 _ _ _)
   | (with_reducible exact laws_eqThread.mono _ _ _ _ _ _ _ _ _)
   | (with_reducible exact LeO.refl _)
   | (with_reducible exact LeO.none _)
   | (with_reducible refine LeO.ite ?_ ?_)
   | (with_reducible refine LeO.bind ?_ (fun _ => ?_))
   | exact ih0 _ _ _
   | exact laws_eqThread.mono _ _ _ _ _ _ _ _ _
   | exact LeO.none _
   | refine LeO.ite ?_ ?_
   | refine LeO.bind ?_ (fun _ => ?_)
theorem laws_eqThreadS.mono : ∀ a0 a1 k, LeO (laws_eqThreadS.f k a0 a1) (laws_eqThreadS.f (k + 1) a0 a1) := by
 intro a0 a1 k
 have ih0 := laws_eqThreadS.mono_l k
 unfold laws_eqThreadS.f
 repeat' first
   | (with_reducible exact ih0 _ _ _)
   | (with_reducible exact laws_eqThread.mono _ _ _ _ _ _ _ _ _)
   | (with_reducible exact LeO.refl _)
   | (with_reducible exact LeO.none _)
   | (with_reducible refine LeO.ite ?_ ?_)
   | (with_reducible refine LeO.bind ?_ (fun _ => ?_))
   | exact ih0 _ _ _
   | exact laws_eqThread.mono _ _ _ _ _ _ _ _ _
   | exact LeO.none _
   | refine LeO.ite ?_ ?_
   | refine LeO.bind ?_ (fun _ => ?_)
def laws_eqThreadS.T6 : Bool × List (List Nat × List Nat) := (true, [([], []), ([], []), ([0, 1], [0, 1]), ([2], [2]), ([], []), ([], []), ([4, 5], [4, 5]), ([6], [6]), ([3, 7], [3, 7]), ([8], [8])])
def laws_eqThreadS.B6 : List Nat := [0, 0, 3, 7, 0, 0, 48, 112, 255, 511]
theorem laws_eqThreadS.tab6 : rtab .any (opsOf Try.f16 6) = laws_eqThreadS.T6 := by kernel_rfl
theorem laws_eqThreadS.bits6 : waitsOk laws_eqThreadS.T6.2 laws_eqThreadS.B6 = true := by kernel_rfl
set_option maxHeartbeats 8000000 in
set_option maxRecDepth 100000 in
theorem laws_eqThreadS.calls (k : Nat) (A0 : Option Addr) (c0 : Nat) (l0 : List (S55)) (A1 : Option Addr) (c1 : Nat) (l1 : List (S55)) (r : Bool) (w : World) (hr0 : Kd.C k55 w A0 l0.length l0) (hc0 : l0.length ≤ c0) (hr1 : Kd.C k55 w A1 l1.length l1) (hc1 : l1.length ≤ c1) (h : laws_eqThreadS.f k l0 l1 = some r) :
  Calls Try.prog 16 #[.slice A0 l0.length c0, .slice A1 l1.length c1] w fun e w' => e = .returned (.bool r) ∧ Below w.heap.size w w' := by
 have hu55 := Try.underlying55
 have HR0 := Aside0.mk hr0
 clear hr0 hc0
 have HR1 := Aside0.mk hr1
 clear hr1 hc1
 have HB := Aside0.mk (Below.refl w.heap.size w)
 have H : (if (l0.length : Int) = (l1.length : Int) then (laws_eqThreadS.l0 k l0 l1 0) else (some false)) = some r := h
 clear h
 by_cases c3 : (l0.length : Int) = (l1.length : Int)
 ·rw [if_pos c3] at H
  have UB : ((l0.length : Int) == (l1.length : Int)) = true := beq_iff_eq.mpr c3
  have FC : ((l0.length : Int) != (l1.length : Int)) = false := bne_eq_false_iff_eq.mpr c3
  have jD : (l0.length == l1.length) = true := by first | simpa using c3 | (simp at c3 ⊢; omega)
  clear c3
  have H' := Aside0.mk H
  clear H
  go_enter Try.func16, Try.ntmps16
  go_wp2
  go_loopg [5] k (fun kq v5 w' => ∃ (eA : Int), v5 = .int .i64 eA ∧ Aside0 (laws_eqThreadS.l0 kq l0 l1 eA = some r) ∧ Aside0 (kq ≤ k) ∧ Aside0 (Below w.heap.size w w'))
  case atStart => exact ⟨(0), q3_22, H', ⟨Nat.le_refl _⟩, ⟨q3_0⟩⟩
  case round =>
   clear H'
   (try clear c1); (try clear p2); (try clear c3); (try clear UB); (try clear FC); (try clear jD)
   obtain ⟨eA, rfl, HA, HK1, HB⟩ := hrel
   cases gk with
   | zero => exact absurd HA.out (by simp [laws_eqThreadS.l0])
   | succ k1 =>
    have H := HA.out
    clear HA
    simp only [laws_eqThreadS.l0] at H
    by_cases c4 : eA < (l0.length : Int)
    ·rw [if_pos c4] at H
     have rC : decide (eA < (l0.length : Int)) = true := decide_eq_true c4
     clear c4
     by_cases c5 : 0 ≤ eA
     ·rw [if_pos c5] at H
      have TH : decide (0 ≤ eA) = true := decide_eq_true c5
      clear c5
      by_cases c6 : eA < (l1.length : Int)
      ·rw [if_pos c6] at H
       have UH : decide (eA < (l1.length : Int)) = true := decide_eq_true c6
       clear c6
       replace H := Option.bind_eq_some_iff.mp H
       obtain ⟨EC, A70, H⟩ := H
       replace H : (if EC = true then (laws_eqThreadS.l0 k1 l0 l1 (wrap64 (eA + 1))) else (some false)) = some r := H
       have A7 := Aside0.mk A70
       clear A70
       by_cases c8 : EC = true
       ·subst c8
        have H1 : (laws_eqThreadS.l0 k1 l0 l1 (wrap64 (eA + 1))) = some r := by rw [if_pos rfl] at H; exact H
        clear H
        have H := H1
        clear H1
        have H' := Aside0.mk H
        clear H
        try go_wp2
        have pA := Aside0.mk (below_drew1 HB.out)
        clear HB
        have HB := pA
        clear pA
        have p113 : 0 ≤ (eA : Int) := of_decide_eq_true q3_20
        have q113 : eA < (l0.length : Int) := of_decide_eq_true q3_20
        obtain ⟨ad113, uB, vB, wB, xB, yB, zB, fD, DA, EA, FA, GA, YA, ZA, aB, bB, cB, dB⟩ := at_T55 HR0.out eA p113 q113
        have hw113_3 := GA
        have hw113_2 := FA
        have hw113_1 := EA
        have hw113_0 := DA
        cases fD
        replace DA := (HB.out.cell (World.block_lt_of_cell? w _ DA)).trans DA
        replace EA := (HB.out.cell (World.block_lt_of_cell? w _ EA)).trans EA
        replace FA := (HB.out.cell (World.block_lt_of_cell? w _ FA)).trans FA
        replace GA := (HB.out.cell (World.block_lt_of_cell? w _ GA)).trans GA
        have eB := Aside0.mk ZA
        have OB := Aside0.mk YA
        clear ZA YA
        have fB := Aside0.mk bB
        have PB := Aside0.mk aB
        clear bB aB
        have gB := Aside0.mk dB
        have QB := Aside0.mk cB
        clear dB cB
        replace p113 := eq_true p113
        replace q113 := eq_true q113
        have p114 : 0 ≤ (eA : Int) := of_decide_eq_true q3_20
        have q114 : eA < (l1.length : Int) := of_decide_eq_true q3_20
        obtain ⟨ad114, AB, BB, CB, DB, EB, FB, gD, IA, JA, KA, LA, hB, iB, jB, kB, lB, mB⟩ := at_T55 HR1.out eA p114 q114
        have hw114_3 := LA
        have hw114_2 := KA
        have hw114_1 := JA
        have hw114_0 := IA
        cases gD
        replace IA := (HB.out.cell (World.block_lt_of_cell? w _ IA)).trans IA
        replace JA := (HB.out.cell (World.block_lt_of_cell? w _ JA)).trans JA
        replace KA := (HB.out.cell (World.block_lt_of_cell? w _ KA)).trans KA
        replace LA := (HB.out.cell (World.block_lt_of_cell? w _ LA)).trans LA
        have nB := Aside0.mk iB
        have RB := Aside0.mk hB
        clear iB hB
        have oB := Aside0.mk kB
        have SB := Aside0.mk jB
        clear kB jB
        have pB := Aside0.mk mB
        have TB := Aside0.mk lB
        clear mB lB
        replace p114 := eq_true p114
        replace q114 := eq_true q114
        refine start_ (n := 10) (S := fun w' => w'.cell? (ad113.add ((eA).toNat * 4)) = some (.slice uB ((rd_T55 l0 eA).f0).length vB) ∧ w'.cell? ⟨(ad113.add ((eA).toNat * 4)).block, (ad113.add ((eA).toNat * 4)).off + 1, none⟩ = some (.int .i64 ((rd_T55 l0 eA).f1)) ∧ w'.cell? ⟨(ad113.add ((eA).toNat * 4)).block, (ad113.add ((eA).toNat * 4)).off + 2, none⟩ = some (.slice wB ((rd_T55 l0 eA).f2).length xB) ∧ w'.cell? ⟨(ad113.add ((eA).toNat * 4)).block, (ad113.add ((eA).toNat * 4)).off + 3, none⟩ = some (.slice yB ((rd_T55 l0 eA).f3).length zB) ∧ w'.cell? (ad114.add ((eA).toNat * 4)) = some (.slice AB ((rd_T55 l1 eA).f0).length BB) ∧ w'.cell? ⟨(ad114.add ((eA).toNat * 4)).block, (ad114.add ((eA).toNat * 4)).off + 1, none⟩ = some (.int .i64 ((rd_T55 l1 eA).f1)) ∧ w'.cell? ⟨(ad114.add ((eA).toNat * 4)).block, (ad114.add ((eA).toNat * 4)).off + 2, none⟩ = some (.slice CB ((rd_T55 l1 eA).f2).length DB) ∧ w'.cell? ⟨(ad114.add ((eA).toNat * 4)).block, (ad114.add ((eA).toNat * 4)).off + 3, none⟩ = some (.slice EB ((rd_T55 l1 eA).f3).length FB)) (ds := []) #[F,F,F,F,F,F,F,F,F,F] q3_21 rfl rfl ⟨((HB.out.cell (World.block_lt_of_cell? w _ hw113_0)).trans hw113_0), ((HB.out.cell (World.block_lt_of_cell? w _ hw113_1)).trans hw113_1), ((HB.out.cell (World.block_lt_of_cell? w _ hw113_2)).trans hw113_2), ((HB.out.cell (World.block_lt_of_cell? w _ hw113_3)).trans hw113_3), ((HB.out.cell (World.block_lt_of_cell? w _ hw114_0)).trans hw114_0), ((HB.out.cell (World.block_lt_of_cell? w _ hw114_1)).trans hw114_1), ((HB.out.cell (World.block_lt_of_cell? w _ hw114_2)).trans hw114_2), ((HB.out.cell (World.block_lt_of_cell? w _ hw114_3)).trans hw114_3)⟩ (fun hHeld => ?_); refine with_tabW laws_eqThreadS.tab6 laws_eqThreadS.bits6 (fun HT_ HW_ => ?_)
        generalize wr.drew = w9 at HB eB fB gB nB oB pB DA EA FA GA IA JA KA LA hHeld ⊢
        refine q3_p 0 17 #[T,F,F,F,F,F,F,F,F,F] ?_
        refine q3_p 1 18 #[T,T,F,F,F,F,F,F,F,F] ?_
        refine q3_p 2 19 #[T,T,T,F,F,F,F,F,F,F] ?_
        refine q3_p 4 21 #[T,T,T,F,T,F,F,F,F,F] ?_
        refine q3_p 5 22 #[T,T,T,F,T,T,F,F,F,F] ?_
        refine q3_p 6 23 #[T,T,T,F,T,T,T,F,F,F] ?_
        refine take_ (i := 3) (N := some 20) (v := ?_) (a' := ?_) #[T,T,T,T,T,T,T,F,F,F] rfl rfl (take_ofW HT_.out HW_.out q3_21) (fun _ _ _ h => h) (Or.inl ⟨by rfl, ?_⟩) hHeld ?_ ?_
        rotate_left
        ·rintro w' ⟨s0, s1, s2, s3, s4, s5, s6, s7⟩
         go_simp
         with_reducible rfl
        rotate_left
        ·simp only [Act.put, List.setIfInBounds_toArray, List.set_cons_zero, List.set_cons_succ, i64_w, i32_w]
         rfl
        refine take_ (i := 7) (N := some 24) (v := ?_) (a' := ?_) #[T,T,T,T,T,T,T,T,F,F] rfl rfl (take_ofW HT_.out HW_.out q3_21) (fun _ _ _ h => h) (Or.inl ⟨by rfl, ?_⟩) hHeld ?_ ?_
        rotate_left
        ·rintro w' ⟨s0, s1, s2, s3, s4, s5, s6, s7⟩
         go_simp
         with_reducible rfl
        rotate_left
        ·simp only [Act.put, List.setIfInBounds_toArray, List.set_cons_zero, List.set_cons_succ, i64_w, i32_w]
         rfl
        refine one_ (i := 8) (N := some 25) #[T,T,T,T,T,T,T,T,T,F] rfl rfl (one_of HT_.out q3_21) (by decide) (fun K hK => ?_)
        refine goes_ Try.func33 q3_21 rfl #[.agg #[.slice uB ((rd_T55 l0 eA).f0).length vB, .int .i64 ((rd_T55 l0 eA).f1), .slice wB ((rd_T55 l0 eA).f2).length xB, .slice yB ((rd_T55 l0 eA).f3).length zB], .agg #[.slice AB ((rd_T55 l1 eA).f0).length BB, .int .i64 ((rd_T55 l1 eA).f1), .slice CB ((rd_T55 l1 eA).f2).length DB, .slice EB ((rd_T55 l1 eA).f3).length FB]] (by rfl) rfl rfl q3_3 ?_
        with_reducible refine (laws_eqThread.calls k1 _ _ ((rd_T55 l0 eA).f0) ((rd_T55 l0 eA).f1) _ _ ((rd_T55 l0 eA).f2) _ _ ((rd_T55 l0 eA).f3) _ _ ((rd_T55 l1 eA).f0) ((rd_T55 l1 eA).f1) _ _ ((rd_T55 l1 eA).f2) _ _ ((rd_T55 l1 eA).f3) true _ ?side1 ?side2 ?side3 ?side4 ?side5 ?side6 ?side7 ?side8 ?side9 ?side10 ?side11 ?side12 A7.out).mono ?_
        (case side1 => repeat (first | exact (Kd.C_below eB.out HB.out) | (with_reducible refine Kd.C_alloc ?_ _) | (with_reducible refine Kd.C_drewN ?_ _) | (with_reducible refine Kd.C_drew ?_)))
        (case side2 => exact OB.out)
        (case side3 => repeat (first | exact (Kd.C_below fB.out HB.out) | (with_reducible refine Kd.C_alloc ?_ _) | (with_reducible refine Kd.C_drewN ?_ _) | (with_reducible refine Kd.C_drew ?_)))
        (case side4 => exact PB.out)
        (case side5 => repeat (first | exact (Kd.C_below gB.out HB.out) | (with_reducible refine Kd.C_alloc ?_ _) | (with_reducible refine Kd.C_drewN ?_ _) | (with_reducible refine Kd.C_drew ?_)))
        (case side6 => exact QB.out)
        (case side7 => repeat (first | exact (Kd.C_below nB.out HB.out) | (with_reducible refine Kd.C_alloc ?_ _) | (with_reducible refine Kd.C_drewN ?_ _) | (with_reducible refine Kd.C_drew ?_)))
        (case side8 => exact RB.out)
        (case side9 => repeat (first | exact (Kd.C_below oB.out HB.out) | (with_reducible refine Kd.C_alloc ?_ _) | (with_reducible refine Kd.C_drewN ?_ _) | (with_reducible refine Kd.C_drew ?_)))
        (case side10 => exact SB.out)
        (case side11 => repeat (first | exact (Kd.C_below pB.out HB.out) | (with_reducible refine Kd.C_alloc ?_ _) | (with_reducible refine Kd.C_drewN ?_ _) | (with_reducible refine Kd.C_drew ?_)))
        (case side12 => exact TB.out)
        rintro e IH ⟨rfl, hb⟩
        refine ⟨_, rfl, ?_⟩
        have pA := Aside0.mk (below_step q3_0 hb)
        clear HB
        have HB := pA
        clear pA
        (try clear hb)
        (try clear hb2)
        (try clear hk)
        (try clear hi)
        refine hK.out _ _ ⟨((HB.out.cell (World.block_lt_of_cell? w _ hw113_0)).trans hw113_0), ((HB.out.cell (World.block_lt_of_cell? w _ hw113_1)).trans hw113_1), ((HB.out.cell (World.block_lt_of_cell? w _ hw113_2)).trans hw113_2), ((HB.out.cell (World.block_lt_of_cell? w _ hw113_3)).trans hw113_3), ((HB.out.cell (World.block_lt_of_cell? w _ hw114_0)).trans hw114_0), ((HB.out.cell (World.block_lt_of_cell? w _ hw114_1)).trans hw114_1), ((HB.out.cell (World.block_lt_of_cell? w _ hw114_2)).trans hw114_2), ((HB.out.cell (World.block_lt_of_cell? w _ hw114_3)).trans hw114_3)⟩ (fun hHeld => ?_)
        clear hK K
        refine norm_ (a' := ?_) ?_ ?_
        rotate_left
        ·show Act.put _ (some 25) _ = _
         simp only [Act.put, List.setIfInBounds_toArray, List.set_cons_zero, List.set_cons_succ, i64_w, i32_w]
         rfl
        refine q3_p 9 26 #[T,T,T,T,T,T,T,T,T,T] ?_
        refine done_ (done_of HT_.out q3_21) ?_
        try go_wp2
        go_roundg k1
        case measure => have := HK1.out; omega
        case rel => exact ⟨(wrap64 (eA + 1)), q3_22, H', ⟨by have := HK1.out; omega⟩, ⟨q3_0⟩⟩
       ·replace c8 := Bool.eq_false_iff.mpr c8
        subst c8
        have H1 : (some false) = some r := by rw [if_neg (show ¬ (false = true) by decide)] at H; exact H
        clear H
        have H := H1
        clear H1
        obtain rfl := Option.some.inj H
        try go_wp2
        have pA := Aside0.mk (below_drew1 HB.out)
        clear HB
        have HB := pA
        clear pA
        have p113 : 0 ≤ (eA : Int) := of_decide_eq_true q3_20
        have q113 : eA < (l0.length : Int) := of_decide_eq_true q3_20
        obtain ⟨ad113, uB, vB, wB, xB, yB, zB, fD, DA, EA, FA, GA, YA, ZA, aB, bB, cB, dB⟩ := at_T55 HR0.out eA p113 q113
        have hw113_3 := GA
        have hw113_2 := FA
        have hw113_1 := EA
        have hw113_0 := DA
        cases fD
        replace DA := (HB.out.cell (World.block_lt_of_cell? w _ DA)).trans DA
        replace EA := (HB.out.cell (World.block_lt_of_cell? w _ EA)).trans EA
        replace FA := (HB.out.cell (World.block_lt_of_cell? w _ FA)).trans FA
        replace GA := (HB.out.cell (World.block_lt_of_cell? w _ GA)).trans GA
        have eB := Aside0.mk ZA
        have OB := Aside0.mk YA
        clear ZA YA
        have fB := Aside0.mk bB
        have PB := Aside0.mk aB
        clear bB aB
        have gB := Aside0.mk dB
        have QB := Aside0.mk cB
        clear dB cB
        replace p113 := eq_true p113
        replace q113 := eq_true q113
        have p114 : 0 ≤ (eA : Int) := of_decide_eq_true q3_20
        have q114 : eA < (l1.length : Int) := of_decide_eq_true q3_20
        obtain ⟨ad114, AB, BB, CB, DB, EB, FB, gD, IA, JA, KA, LA, hB, iB, jB, kB, lB, mB⟩ := at_T55 HR1.out eA p114 q114
        have hw114_3 := LA
        have hw114_2 := KA
        have hw114_1 := JA
        have hw114_0 := IA
        cases gD
        replace IA := (HB.out.cell (World.block_lt_of_cell? w _ IA)).trans IA
        replace JA := (HB.out.cell (World.block_lt_of_cell? w _ JA)).trans JA
        replace KA := (HB.out.cell (World.block_lt_of_cell? w _ KA)).trans KA
        replace LA := (HB.out.cell (World.block_lt_of_cell? w _ LA)).trans LA
        have nB := Aside0.mk iB
        have RB := Aside0.mk hB
        clear iB hB
        have oB := Aside0.mk kB
        have SB := Aside0.mk jB
        clear kB jB
        have pB := Aside0.mk mB
        have TB := Aside0.mk lB
        clear mB lB
        replace p114 := eq_true p114
        replace q114 := eq_true q114
        refine start_ (n := 10) (S := fun w' => w'.cell? (ad113.add ((eA).toNat * 4)) = some (.slice uB ((rd_T55 l0 eA).f0).length vB) ∧ w'.cell? ⟨(ad113.add ((eA).toNat * 4)).block, (ad113.add ((eA).toNat * 4)).off + 1, none⟩ = some (.int .i64 ((rd_T55 l0 eA).f1)) ∧ w'.cell? ⟨(ad113.add ((eA).toNat * 4)).block, (ad113.add ((eA).toNat * 4)).off + 2, none⟩ = some (.slice wB ((rd_T55 l0 eA).f2).length xB) ∧ w'.cell? ⟨(ad113.add ((eA).toNat * 4)).block, (ad113.add ((eA).toNat * 4)).off + 3, none⟩ = some (.slice yB ((rd_T55 l0 eA).f3).length zB) ∧ w'.cell? (ad114.add ((eA).toNat * 4)) = some (.slice AB ((rd_T55 l1 eA).f0).length BB) ∧ w'.cell? ⟨(ad114.add ((eA).toNat * 4)).block, (ad114.add ((eA).toNat * 4)).off + 1, none⟩ = some (.int .i64 ((rd_T55 l1 eA).f1)) ∧ w'.cell? ⟨(ad114.add ((eA).toNat * 4)).block, (ad114.add ((eA).toNat * 4)).off + 2, none⟩ = some (.slice CB ((rd_T55 l1 eA).f2).length DB) ∧ w'.cell? ⟨(ad114.add ((eA).toNat * 4)).block, (ad114.add ((eA).toNat * 4)).off + 3, none⟩ = some (.slice EB ((rd_T55 l1 eA).f3).length FB)) (ds := []) #[F,F,F,F,F,F,F,F,F,F] q3_21 rfl rfl ⟨((HB.out.cell (World.block_lt_of_cell? w _ hw113_0)).trans hw113_0), ((HB.out.cell (World.block_lt_of_cell? w _ hw113_1)).trans hw113_1), ((HB.out.cell (World.block_lt_of_cell? w _ hw113_2)).trans hw113_2), ((HB.out.cell (World.block_lt_of_cell? w _ hw113_3)).trans hw113_3), ((HB.out.cell (World.block_lt_of_cell? w _ hw114_0)).trans hw114_0), ((HB.out.cell (World.block_lt_of_cell? w _ hw114_1)).trans hw114_1), ((HB.out.cell (World.block_lt_of_cell? w _ hw114_2)).trans hw114_2), ((HB.out.cell (World.block_lt_of_cell? w _ hw114_3)).trans hw114_3)⟩ (fun hHeld => ?_); refine with_tabW laws_eqThreadS.tab6 laws_eqThreadS.bits6 (fun HT_ HW_ => ?_)
        generalize wr.drew = kC at HB eB fB gB nB oB pB DA EA FA GA IA JA KA LA hHeld ⊢
        refine q3_p 0 17 #[T,F,F,F,F,F,F,F,F,F] ?_
        refine q3_p 1 18 #[T,T,F,F,F,F,F,F,F,F] ?_
        refine q3_p 2 19 #[T,T,T,F,F,F,F,F,F,F] ?_
        refine q3_p 4 21 #[T,T,T,F,T,F,F,F,F,F] ?_
        refine q3_p 5 22 #[T,T,T,F,T,T,F,F,F,F] ?_
        refine q3_p 6 23 #[T,T,T,F,T,T,T,F,F,F] ?_
        refine take_ (i := 3) (N := some 20) (v := ?_) (a' := ?_) #[T,T,T,T,T,T,T,F,F,F] rfl rfl (take_ofW HT_.out HW_.out q3_21) (fun _ _ _ h => h) (Or.inl ⟨by rfl, ?_⟩) hHeld ?_ ?_
        rotate_left
        ·rintro w' ⟨s0, s1, s2, s3, s4, s5, s6, s7⟩
         go_simp
         with_reducible rfl
        rotate_left
        ·simp only [Act.put, List.setIfInBounds_toArray, List.set_cons_zero, List.set_cons_succ, i64_w, i32_w]
         rfl
        refine take_ (i := 7) (N := some 24) (v := ?_) (a' := ?_) #[T,T,T,T,T,T,T,T,F,F] rfl rfl (take_ofW HT_.out HW_.out q3_21) (fun _ _ _ h => h) (Or.inl ⟨by rfl, ?_⟩) hHeld ?_ ?_
        rotate_left
        ·rintro w' ⟨s0, s1, s2, s3, s4, s5, s6, s7⟩
         go_simp
         with_reducible rfl
        rotate_left
        ·simp only [Act.put, List.setIfInBounds_toArray, List.set_cons_zero, List.set_cons_succ, i64_w, i32_w]
         rfl
        refine one_ (i := 8) (N := some 25) #[T,T,T,T,T,T,T,T,T,F] rfl rfl (one_of HT_.out q3_21) (by decide) (fun K hK => ?_)
        refine goes_ Try.func33 q3_21 rfl #[.agg #[.slice uB ((rd_T55 l0 eA).f0).length vB, .int .i64 ((rd_T55 l0 eA).f1), .slice wB ((rd_T55 l0 eA).f2).length xB, .slice yB ((rd_T55 l0 eA).f3).length zB], .agg #[.slice AB ((rd_T55 l1 eA).f0).length BB, .int .i64 ((rd_T55 l1 eA).f1), .slice CB ((rd_T55 l1 eA).f2).length DB, .slice EB ((rd_T55 l1 eA).f3).length FB]] (by rfl) rfl rfl q3_3 ?_
        with_reducible refine (laws_eqThread.calls k1 _ _ ((rd_T55 l0 eA).f0) ((rd_T55 l0 eA).f1) _ _ ((rd_T55 l0 eA).f2) _ _ ((rd_T55 l0 eA).f3) _ _ ((rd_T55 l1 eA).f0) ((rd_T55 l1 eA).f1) _ _ ((rd_T55 l1 eA).f2) _ _ ((rd_T55 l1 eA).f3) false _ ?side1 ?side2 ?side3 ?side4 ?side5 ?side6 ?side7 ?side8 ?side9 ?side10 ?side11 ?side12 A7.out).mono ?_
        (case side1 => repeat (first | exact (Kd.C_below eB.out HB.out) | (with_reducible refine Kd.C_alloc ?_ _) | (with_reducible refine Kd.C_drewN ?_ _) | (with_reducible refine Kd.C_drew ?_)))
        (case side2 => exact OB.out)
        (case side3 => repeat (first | exact (Kd.C_below fB.out HB.out) | (with_reducible refine Kd.C_alloc ?_ _) | (with_reducible refine Kd.C_drewN ?_ _) | (with_reducible refine Kd.C_drew ?_)))
        (case side4 => exact PB.out)
        (case side5 => repeat (first | exact (Kd.C_below gB.out HB.out) | (with_reducible refine Kd.C_alloc ?_ _) | (with_reducible refine Kd.C_drewN ?_ _) | (with_reducible refine Kd.C_drew ?_)))
        (case side6 => exact QB.out)
        (case side7 => repeat (first | exact (Kd.C_below nB.out HB.out) | (with_reducible refine Kd.C_alloc ?_ _) | (with_reducible refine Kd.C_drewN ?_ _) | (with_reducible refine Kd.C_drew ?_)))
        (case side8 => exact RB.out)
        (case side9 => repeat (first | exact (Kd.C_below oB.out HB.out) | (with_reducible refine Kd.C_alloc ?_ _) | (with_reducible refine Kd.C_drewN ?_ _) | (with_reducible refine Kd.C_drew ?_)))
        (case side10 => exact SB.out)
        (case side11 => repeat (first | exact (Kd.C_below pB.out HB.out) | (with_reducible refine Kd.C_alloc ?_ _) | (with_reducible refine Kd.C_drewN ?_ _) | (with_reducible refine Kd.C_drew ?_)))
        (case side12 => exact TB.out)
        rintro e XH ⟨rfl, hb⟩
        refine ⟨_, rfl, ?_⟩
        have pA := Aside0.mk (below_step q3_0 hb)
        clear HB
        have HB := pA
        clear pA
        (try clear hb)
        (try clear hb2)
        (try clear hk)
        (try clear hi)
        refine hK.out _ _ ⟨((HB.out.cell (World.block_lt_of_cell? w _ hw113_0)).trans hw113_0), ((HB.out.cell (World.block_lt_of_cell? w _ hw113_1)).trans hw113_1), ((HB.out.cell (World.block_lt_of_cell? w _ hw113_2)).trans hw113_2), ((HB.out.cell (World.block_lt_of_cell? w _ hw113_3)).trans hw113_3), ((HB.out.cell (World.block_lt_of_cell? w _ hw114_0)).trans hw114_0), ((HB.out.cell (World.block_lt_of_cell? w _ hw114_1)).trans hw114_1), ((HB.out.cell (World.block_lt_of_cell? w _ hw114_2)).trans hw114_2), ((HB.out.cell (World.block_lt_of_cell? w _ hw114_3)).trans hw114_3)⟩ (fun hHeld => ?_)
        clear hK K
        refine norm_ (a' := ?_) ?_ ?_
        rotate_left
        ·show Act.put _ (some 25) _ = _
         simp only [Act.put, List.setIfInBounds_toArray, List.set_cons_zero, List.set_cons_succ, i64_w, i32_w]
         rfl
        refine q3_p 9 26 #[T,T,T,T,T,T,T,T,T,T] ?_
        refine done_ (done_of HT_.out q3_21) ?_
        try go_wp2
        go_ret
        exact ⟨q3_5, q3_0⟩
      ·rw [if_neg c6] at H
       exact absurd H (by simp)
     ·rw [if_neg c5] at H
      exact absurd H (by simp)
    ·rw [if_neg c4] at H
     have rC : decide (eA < (l0.length : Int)) = false := decide_eq_false c4
     clear c4
     obtain rfl := Option.some.inj H
     go_wp2
     go_ret
     exact ⟨q3_5, q3_0⟩
 ·rw [if_neg c3] at H
  have UB : ((l0.length : Int) == (l1.length : Int)) = false := beq_eq_false_iff_ne.mpr c3
  have FC : ((l0.length : Int) != (l1.length : Int)) = true := bne_iff_ne.mpr c3
  have jD : (l0.length == l1.length) = false := by first | simpa using c3 | (simp at c3 ⊢; omega)
  obtain rfl := Option.some.inj H
  go_enter Try.func16, Try.ntmps16
  go_wp2
  go_ret
  exact ⟨q3_5, q3_0⟩

/-! ### laws_eqMem: function 52 -/
def laws_eqMem.f (k : Nat) (nA : List Int) (WA : List Int) : Option (Bool) := (laws_eqIntS.f k nA WA).bind fun oC => (if oC = true then (some true) else (some false))
theorem laws_eqMem.mono : ∀ a0 a1 k, LeO (laws_eqMem.f k a0 a1) (laws_eqMem.f (k + 1) a0 a1) := by
 intro a0 a1 k
 unfold laws_eqMem.f
 repeat' first
   | (with_reducible exact laws_eqIntS.mono _ _ _)
   | (with_reducible exact LeO.refl _)
   | (with_reducible exact LeO.none _)
   | (with_reducible refine LeO.ite ?_ ?_)
   | (with_reducible refine LeO.bind ?_ (fun _ => ?_))
   | exact laws_eqIntS.mono _ _ _
   | exact LeO.none _
   | refine LeO.ite ?_ ?_
   | refine LeO.bind ?_ (fun _ => ?_)
set_option maxHeartbeats 8000000 in
set_option maxRecDepth 100000 in
theorem laws_eqMem.calls (k : Nat) (MA : Option Addr) (NA : Nat) (nA : List Int) (VB : Option Addr) (WB : Nat) (WA : List Int) (r : Bool) (w : World) (XB : Kd.C (Kd.int .i64) w MA nA.length nA) (YB : nA.length ≤ NA) (XC : Kd.C (Kd.int .i64) w VB WA.length WA) (YC : WA.length ≤ WB) (h : laws_eqMem.f k nA WA = some r) :
  Calls Try.prog 52 #[.agg #[.slice MA nA.length NA], .agg #[.slice VB WA.length WB]] w fun e w' => e = .returned (.bool r) ∧ Below w.heap.size w w' := by
 have hu26 := Try.underlying26
 have WC := Aside0.mk XB
 have GB := Aside0.mk YB
 clear XB YB
 have ZC := Aside0.mk XC
 have aD := Aside0.mk YC
 clear XC YC
 have HB := Aside0.mk (Below.refl w.heap.size w)
 have H : ((laws_eqIntS.f k nA WA).bind fun oC => (if oC = true then (some true) else (some false))) = some r := h
 clear h
 replace H := Option.bind_eq_some_iff.mp H
 obtain ⟨oC, A30, H⟩ := H
 replace H : (if oC = true then (some true) else (some false)) = some r := H
 have A3 := Aside0.mk A30
 clear A30
 by_cases c4 : oC = true
 ·subst c4
  have H1 : (some true) = some r := by rw [if_pos rfl] at H; exact H
  clear H
  have H := H1
  clear H1
  obtain rfl := Option.some.inj H
  go_enter Try.func52, Try.ntmps52
  go_wp2_with (first | ((with_reducible refine gate_dst (N := 2) rfl ?_); refine box_event ?hg (N := 2) ?hd (cs := #[.slice MA nA.length NA]) (t := 26) ?hr ?_; (case hd => rfl); (case hg => rfl); (case hr => first | (go_simp; done) | (go_simp; rfl)); intro RA hg w5 hbox hb; have pA := Aside0.mk (below_step q3_0 hb); have wA := Aside0.mk (hbox); have xA := Aside0.mk ((q3_11 : w.heap.size ≤ RA)); have OA := Aside0.mk ((q3_11 : w.heap.size ≤ RA)); clear HB; have HB := pA; have XA := wA; have kD := xA; have iC := OA; clear pA wA xA OA; clear hb hbox hg) | ((with_reducible refine gate_dst (N := 3) rfl ?_); refine box_event ?hg (N := 3) ?hd (cs := #[.slice VB WA.length WB]) (t := 26) ?hr ?_; (case hd => rfl); (case hg => rfl); (case hr => first | (go_simp; done) | (go_simp; rfl)); intro VA hg w6 hbox hb; have pA := Aside0.mk (blk_below (g := RA) (o := .cells #[.slice MA nA.length NA] 26 (0, 0)) q3_13 hb); have wA := Aside0.mk (below_step q3_10 hb); have xA := Aside0.mk (hbox); have OA := Aside0.mk ((by rw [hg]; exact (below_size q3_10) : w.heap.size ≤ VA)); have IB := Aside0.mk ((by rw [hg]; exact (below_size q3_10) : w.heap.size ≤ VA)); have JB := Aside0.mk ((by rw [hg]; exact Nat.ne_of_lt (blk_lt (g := RA) (o := .cells #[.slice MA nA.length NA] 26 (0, 0)) q3_13) : RA ≠ VA)); have KB := Aside0.mk ((by rw [hg]; exact Nat.ne_of_gt (blk_lt (g := RA) (o := .cells #[.slice MA nA.length NA] 26 (0, 0)) q3_13) : VA ≠ RA)); clear XA; clear HB; have XA := pA; have HB := wA; have ZB := xA; have lD := OA; have sC := IB; have qB := JB; have rB := KB; clear pA wA xA OA IB JB KB; clear hb hbox hg; have VH := qB.out; have WH := rB.out; have sH : w6.cell? ⟨RA, 0, none⟩ = some (.slice MA nA.length NA) := (blk_cell XA.out 0).trans rfl; have tH := blk_frozen XA.out 0; have uH : w6.cell? ⟨VA, 0, none⟩ = some (.slice VB WA.length WB) := (blk_cell ZB.out 0).trans rfl; have vH := blk_frozen ZB.out 0) | ((with_reducible refine gate_callee (f := 26) rfl ?_); refine goesL_ (some 9) rfl rfl Try.func26 q3_21 rfl #[.slice MA nA.length NA, .slice VB WA.length WB] rfl q3_3 ?_; (with_reducible refine (laws_eqIntS.calls k _ _ nA _ _ WA true _ ?side1 ?side2 ?side3 ?side4 A3.out).mono ?_); (case side1 => exact q3_9); (case side2 => exact GB.out); (case side3 => repeat (first | exact (Kd.C_below ZC.out HB.out) | (with_reducible refine Kd.C_alloc ?_ _) | (with_reducible refine Kd.C_drewN ?_ _) | (with_reducible refine Kd.C_drew ?_))); (case side4 => exact aD.out); rintro e w' ⟨rfl, ⟨nd, rfl⟩⟩; refine ⟨_, rfl, ?_⟩))
  go_ret
  exact ⟨q3_5, by repeat (first | (with_reducible first | exact HB.out | apply below_alloc | apply pw_below_drewN | apply below_drew1 | refine below_set ?_ iC.out | refine below_set ?_ sC.out) | exact HB.out)⟩
 ·replace c4 := Bool.eq_false_iff.mpr c4
  subst c4
  have H1 : (some false) = some r := by rw [if_neg (show ¬ (false = true) by decide)] at H; exact H
  clear H
  have H := H1
  clear H1
  obtain rfl := Option.some.inj H
  go_enter Try.func52, Try.ntmps52
  go_wp2_with (first | ((with_reducible refine gate_dst (N := 2) rfl ?_); refine box_event ?hg (N := 2) ?hd (cs := #[.slice MA nA.length NA]) (t := 26) ?hr ?_; (case hd => rfl); (case hg => rfl); (case hr => first | (go_simp; done) | (go_simp; rfl)); intro RA hg IH hbox hb; have pA := Aside0.mk (below_step q3_0 hb); have wA := Aside0.mk (hbox); have xA := Aside0.mk ((q3_11 : w.heap.size ≤ RA)); have OA := Aside0.mk ((q3_11 : w.heap.size ≤ RA)); clear HB; have HB := pA; have XA := wA; have kD := xA; have iC := OA; clear pA wA xA OA; clear hb hbox hg) | ((with_reducible refine gate_dst (N := 3) rfl ?_); refine box_event ?hg (N := 3) ?hd (cs := #[.slice VB WA.length WB]) (t := 26) ?hr ?_; (case hd => rfl); (case hg => rfl); (case hr => first | (go_simp; done) | (go_simp; rfl)); intro VA hg kC hbox hb; have pA := Aside0.mk (blk_below (g := RA) (o := .cells #[.slice MA nA.length NA] 26 (0, 0)) q3_13 hb); have wA := Aside0.mk (below_step q3_10 hb); have xA := Aside0.mk (hbox); have OA := Aside0.mk ((by rw [hg]; exact (below_size q3_10) : w.heap.size ≤ VA)); have IB := Aside0.mk ((by rw [hg]; exact (below_size q3_10) : w.heap.size ≤ VA)); have JB := Aside0.mk ((by rw [hg]; exact Nat.ne_of_lt (blk_lt (g := RA) (o := .cells #[.slice MA nA.length NA] 26 (0, 0)) q3_13) : RA ≠ VA)); have KB := Aside0.mk ((by rw [hg]; exact Nat.ne_of_gt (blk_lt (g := RA) (o := .cells #[.slice MA nA.length NA] 26 (0, 0)) q3_13) : VA ≠ RA)); clear XA; clear HB; have XA := pA; have HB := wA; have ZB := xA; have lD := OA; have sC := IB; have qB := JB; have rB := KB; clear pA wA xA OA IB JB KB; clear hb hbox hg; have mD := qB.out; have nD := rB.out; have GC : kC.cell? ⟨RA, 0, none⟩ = some (.slice MA nA.length NA) := (blk_cell XA.out 0).trans rfl; have HC := blk_frozen XA.out 0; have lC : kC.cell? ⟨VA, 0, none⟩ = some (.slice VB WA.length WB) := (blk_cell ZB.out 0).trans rfl; have mC := blk_frozen ZB.out 0) | ((with_reducible refine gate_callee (f := 26) rfl ?_); refine goesL_ (some 9) rfl rfl Try.func26 q3_21 rfl #[.slice MA nA.length NA, .slice VB WA.length WB] rfl q3_3 ?_; (with_reducible refine (laws_eqIntS.calls k _ _ nA _ _ WA false _ ?side1 ?side2 ?side3 ?side4 A3.out).mono ?_); (case side1 => exact q3_9); (case side2 => exact GB.out); (case side3 => repeat (first | exact (Kd.C_below ZC.out HB.out) | (with_reducible refine Kd.C_alloc ?_ _) | (with_reducible refine Kd.C_drewN ?_ _) | (with_reducible refine Kd.C_drew ?_))); (case side4 => exact aD.out); rintro e w' ⟨rfl, ⟨nd, rfl⟩⟩; refine ⟨_, rfl, ?_⟩))
  go_ret
  exact ⟨q3_5, by repeat (first | (with_reducible first | exact HB.out | apply below_alloc | apply pw_below_drewN | apply below_drew1 | refine below_set ?_ iC.out | refine below_set ?_ sC.out) | exact HB.out)⟩

/-! ### laws_eqCrew: function 15 -/
def laws_eqCrew.f (k : Nat) (qA : Int) (hA : Int) (fA : List Int) (gA : List (S55)) (oA : Int) (zA : Int) (AA : Int) (uA : List Int) (vA : List (S55)) (yA : Int) : Option (Bool) := if qA = zA then (if hA = AA then ((laws_eqMem.f k fA uA).bind fun pC => (if pC = true then ((laws_eqThreadS.f k gA vA).bind fun LB => (if LB = true then (if oA = yA then (some true) else (some false)) else (some false))) else (some false))) else (some false)) else (some false)
theorem laws_eqCrew.mono : ∀ a0 a1 a2 a3 a4 a5 a6 a7 a8 a9 k, LeO (laws_eqCrew.f k a0 a1 a2 a3 a4 a5 a6 a7 a8 a9) (laws_eqCrew.f (k + 1) a0 a1 a2 a3 a4 a5 a6 a7 a8 a9) := by
 intro a0 a1 a2 a3 a4 a5 a6 a7 a8 a9 k
 unfold laws_eqCrew.f
 repeat' first
   | (with_reducible exact laws_eqMem.mono _ _ _)
   | (with_reducible exact laws_eqThreadS.mono _ _ _)
   | (with_reducible exact LeO.refl _)
   | (with_reducible exact LeO.none _)
   | (with_reducible refine LeO.ite ?_ ?_)
   | (with_reducible refine LeO.bind ?_ (fun _ => ?_))
   | exact laws_eqMem.mono _ _ _
   | exact laws_eqThreadS.mono _ _ _
   | exact LeO.none _
   | refine LeO.ite ?_ ?_
   | refine LeO.bind ?_ (fun _ => ?_)
set_option maxHeartbeats 8000000 in
set_option maxRecDepth 100000 in
theorem laws_eqCrew.calls (k : Nat) (qA : Int) (hA : Int) (jA : Option Addr) (kA : Nat) (fA : List Int) (lA : Option Addr) (mA : Nat) (gA : List (S55)) (oA : Int) (zA : Int) (AA : Int) (BA : Option Addr) (CA : Nat) (uA : List Int) (PA : Option Addr) (QA : Nat) (vA : List (S55)) (yA : Int) (r : Bool) (w : World) (aC : Kd.C (Kd.int .i64) w jA fA.length fA) (bC : fA.length ≤ kA) (cC : Kd.C k55 w lA gA.length gA) (dC : gA.length ≤ mA) (bD : Kd.C (Kd.int .i64) w BA uA.length uA) (cD : uA.length ≤ CA) (dD : Kd.C k55 w PA vA.length vA) (eD : vA.length ≤ QA) (h : laws_eqCrew.f k qA hA fA gA oA zA AA uA vA yA = some r) :
  Calls Try.prog 15 #[.agg #[.int .i64 qA, .int .i64 hA, .slice jA fA.length kA, .slice lA gA.length mA, .int .i64 oA], .agg #[.int .i64 zA, .int .i64 AA, .slice BA uA.length CA, .slice PA vA.length QA, .int .i64 yA]] w fun e w' => e = .returned (.bool r) ∧ Below w.heap.size w w' := by
 have hu29 := Try.underlying29
 have hu26 := Try.underlying26
 have qC := Aside0.mk aC
 have sB := Aside0.mk bC
 clear aC bC
 have jC := Aside0.mk cC
 have NB := Aside0.mk dC
 clear cC dC
 have hD := Aside0.mk bD
 have nC := Aside0.mk cD
 clear bD cD
 have iD := Aside0.mk dD
 have tC := Aside0.mk eD
 clear dD eD
 have HB := Aside0.mk (Below.refl w.heap.size w)
 have H : (if qA = zA then (if hA = AA then ((laws_eqMem.f k fA uA).bind fun pC => (if pC = true then ((laws_eqThreadS.f k gA vA).bind fun LB => (if LB = true then (if oA = yA then (some true) else (some false)) else (some false))) else (some false))) else (some false)) else (some false)) = some r := h
 clear h
 by_cases c3 : qA = zA
 ·rw [if_pos c3] at H
  have UB : (qA == zA) = true := beq_iff_eq.mpr c3
  have FC : (qA != zA) = false := bne_eq_false_iff_eq.mpr c3
  clear c3
  by_cases c4 : hA = AA
  ·rw [if_pos c4] at H
   have rC : (hA == AA) = true := beq_iff_eq.mpr c4
   have wH : (hA != AA) = false := bne_eq_false_iff_eq.mpr c4
   clear c4
   replace H := Option.bind_eq_some_iff.mp H
   obtain ⟨pC, A50, H⟩ := H
   replace H : (if pC = true then ((laws_eqThreadS.f k gA vA).bind fun LB => (if LB = true then (if oA = yA then (some true) else (some false)) else (some false))) else (some false)) = some r := H
   have A5 := Aside0.mk A50
   clear A50
   by_cases c6 : pC = true
   ·subst c6
    have H1 : ((laws_eqThreadS.f k gA vA).bind fun LB => (if LB = true then (if oA = yA then (some true) else (some false)) else (some false))) = some r := by rw [if_pos rfl] at H; exact H
    clear H
    have H := H1
    clear H1
    replace H := Option.bind_eq_some_iff.mp H
    obtain ⟨LB, A70, H⟩ := H
    replace H : (if LB = true then (if oA = yA then (some true) else (some false)) else (some false)) = some r := H
    have A7 := Aside0.mk A70
    clear A70
    by_cases c8 : LB = true
    ·subst c8
     have H1 : (if oA = yA then (some true) else (some false)) = some r := by rw [if_pos rfl] at H; exact H
     clear H
     have H := H1
     clear H1
     by_cases c9 : oA = yA
     ·rw [if_pos c9] at H
      have xH : (oA == yA) = true := beq_iff_eq.mpr c9
      have yH : (oA != yA) = false := bne_eq_false_iff_eq.mpr c9
      clear c9
      obtain rfl := Option.some.inj H
      go_enter Try.func15, Try.ntmps15
      go_wp2_with (first | ((with_reducible refine gate_dst (N := 2) rfl ?_); refine box_event ?hg (N := 2) ?hd (cs := #[.int .i64 qA, .int .i64 hA, .slice jA fA.length kA, .slice lA gA.length mA, .int .i64 oA]) (t := 29) ?hr ?_; (case hd => rfl); (case hg => rfl); (case hr => first | (go_simp; done) | (go_simp; rfl)); intro cA hg IH hbox hb; have pA := Aside0.mk (below_step q3_0 hb); have wA := Aside0.mk (hbox); have xA := Aside0.mk ((q3_11 : w.heap.size ≤ cA)); have OA := Aside0.mk ((q3_11 : w.heap.size ≤ cA)); clear HB; have HB := pA; have aA := wA; have eC := xA; have tB := OA; clear pA wA xA OA; clear hb hbox hg) | ((with_reducible refine gate_dst (N := 3) rfl ?_); refine box_event ?hg (N := 3) ?hd (cs := #[.int .i64 zA, .int .i64 AA, .slice BA uA.length CA, .slice PA vA.length QA, .int .i64 yA]) (t := 29) ?hr ?_; (case hd => rfl); (case hg => rfl); (case hr => first | (go_simp; done) | (go_simp; rfl)); intro dA hg kC hbox hb; have pA := Aside0.mk (blk_below (g := cA) (o := .cells #[.int .i64 qA, .int .i64 hA, .slice jA fA.length kA, .slice lA gA.length mA, .int .i64 oA] 29 (0, 0)) q3_1 hb); have wA := Aside0.mk (below_step q3_2 hb); have xA := Aside0.mk (hbox); have OA := Aside0.mk ((q3_19 : w.heap.size ≤ dA)); have IB := Aside0.mk ((q3_19 : w.heap.size ≤ dA)); have JB := Aside0.mk ((q3_7 : cA ≠ dA)); have KB := Aside0.mk ((q3_8 : dA ≠ cA)); clear aA; clear HB; have aA := pA; have HB := wA; have bA := xA; have fC := OA; have MB := IB; have rA := JB; have sA := KB; clear pA wA xA OA IB JB KB; clear hb hbox hg; have mD := rA.out; have nD := sA.out; have GC : kC.cell? ⟨cA, 0, none⟩ = some (.int .i64 qA) := (blk_cell aA.out 0).trans rfl; have pD : kC.cell? ⟨cA, 1, none⟩ = some (.int .i64 hA) := (blk_cell aA.out 1).trans rfl; have qD : kC.cell? ⟨cA, 2, none⟩ = some (.slice jA fA.length kA) := (blk_cell aA.out 2).trans rfl; have rD : kC.cell? ⟨cA, 3, none⟩ = some (.slice lA gA.length mA) := (blk_cell aA.out 3).trans rfl; have sD : kC.cell? ⟨cA, 4, none⟩ = some (.int .i64 oA) := (blk_cell aA.out 4).trans rfl; have HC := blk_frozen aA.out 0; have tD := blk_frozen aA.out 1; have uD := blk_frozen aA.out 2; have vD := blk_frozen aA.out 3; have wD := blk_frozen aA.out 4; have lC : kC.cell? ⟨dA, 0, none⟩ = some (.int .i64 zA) := (blk_cell bA.out 0).trans rfl; have IC : kC.cell? ⟨dA, 1, none⟩ = some (.int .i64 AA) := (blk_cell bA.out 1).trans rfl; have JC : kC.cell? ⟨dA, 2, none⟩ = some (.slice BA uA.length CA) := (blk_cell bA.out 2).trans rfl; have KC : kC.cell? ⟨dA, 3, none⟩ = some (.slice PA vA.length QA) := (blk_cell bA.out 3).trans rfl; have xD : kC.cell? ⟨dA, 4, none⟩ = some (.int .i64 yA) := (blk_cell bA.out 4).trans rfl; have mC := blk_frozen bA.out 0; have LC := blk_frozen bA.out 1; have MC := blk_frozen bA.out 2; have NC := blk_frozen bA.out 3; have yD := blk_frozen bA.out 4) | ((with_reducible refine gate_callee (f := 52) rfl ?_); refine goesL_ (some 19) rfl rfl Try.func52 q3_21 rfl #[.agg #[.slice jA fA.length kA], .agg #[.slice BA uA.length CA]] rfl q3_3 ?_; (with_reducible refine (laws_eqMem.calls k _ _ fA _ _ uA true _ ?side1 ?side2 ?side3 ?side4 A5.out).mono ?_); (case side1 => exact q3_14); (case side2 => exact sB.out); (case side3 => exact q3_15); (case side4 => exact nC.out); rintro e gC ⟨rfl, hb⟩; refine ⟨_, rfl, ?_⟩; have pA := Aside0.mk (blk_below (g := cA) (o := .cells #[.int .i64 qA, .int .i64 hA, .slice jA fA.length kA, .slice lA gA.length mA, .int .i64 oA] 29 (0, 0)) q3_1 hb); have wA := Aside0.mk (blk_below (g := dA) (o := .cells #[.int .i64 zA, .int .i64 AA, .slice BA uA.length CA, .slice PA vA.length QA, .int .i64 yA] 29 (0, 0)) q3_12 hb); have xA := Aside0.mk (below_step q3_4 hb); clear aA; clear bA; clear HB; have aA := pA; have bA := wA; have HB := xA; clear pA wA xA; (try clear hb); (try clear hb2); (try clear hk); (try clear hi); have OC : gC.cell? ⟨cA, 0, none⟩ = some (.int .i64 qA) := (blk_cell aA.out 0).trans rfl; have PC : gC.cell? ⟨cA, 1, none⟩ = some (.int .i64 hA) := (blk_cell aA.out 1).trans rfl; have QC : gC.cell? ⟨cA, 2, none⟩ = some (.slice jA fA.length kA) := (blk_cell aA.out 2).trans rfl; have RC : gC.cell? ⟨cA, 3, none⟩ = some (.slice lA gA.length mA) := (blk_cell aA.out 3).trans rfl; have zD : gC.cell? ⟨cA, 4, none⟩ = some (.int .i64 oA) := (blk_cell aA.out 4).trans rfl; have SC := blk_frozen aA.out 0; have TC := blk_frozen aA.out 1; have UC := blk_frozen aA.out 2; have VC := blk_frozen aA.out 3; have AD := blk_frozen aA.out 4; have BD : gC.cell? ⟨dA, 0, none⟩ = some (.int .i64 zA) := (blk_cell bA.out 0).trans rfl; have CD : gC.cell? ⟨dA, 1, none⟩ = some (.int .i64 AA) := (blk_cell bA.out 1).trans rfl; have DD : gC.cell? ⟨dA, 2, none⟩ = some (.slice BA uA.length CA) := (blk_cell bA.out 2).trans rfl; have ED : gC.cell? ⟨dA, 3, none⟩ = some (.slice PA vA.length QA) := (blk_cell bA.out 3).trans rfl; have FD : gC.cell? ⟨dA, 4, none⟩ = some (.int .i64 yA) := (blk_cell bA.out 4).trans rfl; have GD := blk_frozen bA.out 0; have HD := blk_frozen bA.out 1; have ID := blk_frozen bA.out 2; have JD := blk_frozen bA.out 3; have KD := blk_frozen bA.out 4) | ((with_reducible refine gate_callee (f := 16) rfl ?_); refine goesL_ (some 25) rfl rfl Try.func16 q3_21 rfl #[.slice lA gA.length mA, .slice PA vA.length QA] rfl q3_3 ?_; (with_reducible refine (laws_eqThreadS.calls k _ _ gA _ _ vA true _ ?side1 ?side2 ?side3 ?side4 A7.out).mono ?_); (case side1 => exact q3_16); (case side2 => exact NB.out); (case side3 => exact q3_17); (case side4 => exact tC.out); rintro e vC ⟨rfl, hb⟩; refine ⟨_, rfl, ?_⟩; have pA := Aside0.mk (blk_below (g := cA) (o := .cells #[.int .i64 qA, .int .i64 hA, .slice jA fA.length kA, .slice lA gA.length mA, .int .i64 oA] 29 (0, 0)) q3_1 hb); have wA := Aside0.mk (blk_below (g := dA) (o := .cells #[.int .i64 zA, .int .i64 AA, .slice BA uA.length CA, .slice PA vA.length QA, .int .i64 yA] 29 (0, 0)) q3_12 hb); have xA := Aside0.mk (below_step q3_4 hb); clear aA; clear bA; clear HB; have aA := pA; have bA := wA; have HB := xA; clear pA wA xA; (try clear hb); (try clear hb2); (try clear hk); (try clear hi); have LD : vC.cell? ⟨cA, 0, none⟩ = some (.int .i64 qA) := (blk_cell aA.out 0).trans rfl; have MD : vC.cell? ⟨cA, 1, none⟩ = some (.int .i64 hA) := (blk_cell aA.out 1).trans rfl; have ND : vC.cell? ⟨cA, 2, none⟩ = some (.slice jA fA.length kA) := (blk_cell aA.out 2).trans rfl; have OD : vC.cell? ⟨cA, 3, none⟩ = some (.slice lA gA.length mA) := (blk_cell aA.out 3).trans rfl; have PD : vC.cell? ⟨cA, 4, none⟩ = some (.int .i64 oA) := (blk_cell aA.out 4).trans rfl; have QD := blk_frozen aA.out 0; have RD := blk_frozen aA.out 1; have SD := blk_frozen aA.out 2; have TD := blk_frozen aA.out 3; have UD := blk_frozen aA.out 4; have VD : vC.cell? ⟨dA, 0, none⟩ = some (.int .i64 zA) := (blk_cell bA.out 0).trans rfl; have WD : vC.cell? ⟨dA, 1, none⟩ = some (.int .i64 AA) := (blk_cell bA.out 1).trans rfl; have XD : vC.cell? ⟨dA, 2, none⟩ = some (.slice BA uA.length CA) := (blk_cell bA.out 2).trans rfl; have YD : vC.cell? ⟨dA, 3, none⟩ = some (.slice PA vA.length QA) := (blk_cell bA.out 3).trans rfl; have ZD : vC.cell? ⟨dA, 4, none⟩ = some (.int .i64 yA) := (blk_cell bA.out 4).trans rfl; have aE := blk_frozen bA.out 0; have bE := blk_frozen bA.out 1; have cE := blk_frozen bA.out 2; have dE := blk_frozen bA.out 3; have eE := blk_frozen bA.out 4))
      go_ret
      exact ⟨q3_5, q3_4⟩
     ·rw [if_neg c9] at H
      have xH : (oA == yA) = false := beq_eq_false_iff_ne.mpr c9
      have yH : (oA != yA) = true := bne_iff_ne.mpr c9
      obtain rfl := Option.some.inj H
      go_enter Try.func15, Try.ntmps15
      go_wp2_with (first | ((with_reducible refine gate_dst (N := 2) rfl ?_); refine box_event ?hg (N := 2) ?hd (cs := #[.int .i64 qA, .int .i64 hA, .slice jA fA.length kA, .slice lA gA.length mA, .int .i64 oA]) (t := 29) ?hr ?_; (case hd => rfl); (case hg => rfl); (case hr => first | (go_simp; done) | (go_simp; rfl)); intro cA hg YH hbox hb; have pA := Aside0.mk (below_step q3_0 hb); have wA := Aside0.mk (hbox); have xA := Aside0.mk ((q3_11 : w.heap.size ≤ cA)); have OA := Aside0.mk ((q3_11 : w.heap.size ≤ cA)); clear HB; have HB := pA; have aA := wA; have eC := xA; have tB := OA; clear pA wA xA OA; clear hb hbox hg) | ((with_reducible refine gate_dst (N := 3) rfl ?_); refine box_event ?hg (N := 3) ?hd (cs := #[.int .i64 zA, .int .i64 AA, .slice BA uA.length CA, .slice PA vA.length QA, .int .i64 yA]) (t := 29) ?hr ?_; (case hd => rfl); (case hg => rfl); (case hr => first | (go_simp; done) | (go_simp; rfl)); intro dA hg wC hbox hb; have pA := Aside0.mk (blk_below (g := cA) (o := .cells #[.int .i64 qA, .int .i64 hA, .slice jA fA.length kA, .slice lA gA.length mA, .int .i64 oA] 29 (0, 0)) q3_1 hb); have wA := Aside0.mk (below_step q3_2 hb); have xA := Aside0.mk (hbox); have OA := Aside0.mk ((q3_19 : w.heap.size ≤ dA)); have IB := Aside0.mk ((q3_19 : w.heap.size ≤ dA)); have JB := Aside0.mk ((q3_7 : cA ≠ dA)); have KB := Aside0.mk ((q3_8 : dA ≠ cA)); clear aA; clear HB; have aA := pA; have HB := wA; have bA := xA; have fC := OA; have MB := IB; have rA := JB; have sA := KB; clear pA wA xA OA IB JB KB; clear hb hbox hg; have JH := rA.out; have KH := sA.out; have fE : wC.cell? ⟨cA, 0, none⟩ = some (.int .i64 qA) := (blk_cell aA.out 0).trans rfl; have gE : wC.cell? ⟨cA, 1, none⟩ = some (.int .i64 hA) := (blk_cell aA.out 1).trans rfl; have hE : wC.cell? ⟨cA, 2, none⟩ = some (.slice jA fA.length kA) := (blk_cell aA.out 2).trans rfl; have iE : wC.cell? ⟨cA, 3, none⟩ = some (.slice lA gA.length mA) := (blk_cell aA.out 3).trans rfl; have jE : wC.cell? ⟨cA, 4, none⟩ = some (.int .i64 oA) := (blk_cell aA.out 4).trans rfl; have kE := blk_frozen aA.out 0; have lE := blk_frozen aA.out 1; have mE := blk_frozen aA.out 2; have nE := blk_frozen aA.out 3; have oE := blk_frozen aA.out 4; have pE : wC.cell? ⟨dA, 0, none⟩ = some (.int .i64 zA) := (blk_cell bA.out 0).trans rfl; have qE : wC.cell? ⟨dA, 1, none⟩ = some (.int .i64 AA) := (blk_cell bA.out 1).trans rfl; have rE : wC.cell? ⟨dA, 2, none⟩ = some (.slice BA uA.length CA) := (blk_cell bA.out 2).trans rfl; have sE : wC.cell? ⟨dA, 3, none⟩ = some (.slice PA vA.length QA) := (blk_cell bA.out 3).trans rfl; have tE : wC.cell? ⟨dA, 4, none⟩ = some (.int .i64 yA) := (blk_cell bA.out 4).trans rfl; have uE := blk_frozen bA.out 0; have vE := blk_frozen bA.out 1; have wE := blk_frozen bA.out 2; have xE := blk_frozen bA.out 3; have yE := blk_frozen bA.out 4) | ((with_reducible refine gate_callee (f := 52) rfl ?_); refine goesL_ (some 19) rfl rfl Try.func52 q3_21 rfl #[.agg #[.slice jA fA.length kA], .agg #[.slice BA uA.length CA]] rfl q3_3 ?_; (with_reducible refine (laws_eqMem.calls k _ _ fA _ _ uA true _ ?side1 ?side2 ?side3 ?side4 A5.out).mono ?_); (case side1 => exact q3_14); (case side2 => exact sB.out); (case side3 => exact q3_15); (case side4 => exact nC.out); rintro e xC ⟨rfl, hb⟩; refine ⟨_, rfl, ?_⟩; have pA := Aside0.mk (blk_below (g := cA) (o := .cells #[.int .i64 qA, .int .i64 hA, .slice jA fA.length kA, .slice lA gA.length mA, .int .i64 oA] 29 (0, 0)) q3_1 hb); have wA := Aside0.mk (blk_below (g := dA) (o := .cells #[.int .i64 zA, .int .i64 AA, .slice BA uA.length CA, .slice PA vA.length QA, .int .i64 yA] 29 (0, 0)) q3_12 hb); have xA := Aside0.mk (below_step q3_4 hb); clear aA; clear bA; clear HB; have aA := pA; have bA := wA; have HB := xA; clear pA wA xA; (try clear hb); (try clear hb2); (try clear hk); (try clear hi); have zE : xC.cell? ⟨cA, 0, none⟩ = some (.int .i64 qA) := (blk_cell aA.out 0).trans rfl; have AE : xC.cell? ⟨cA, 1, none⟩ = some (.int .i64 hA) := (blk_cell aA.out 1).trans rfl; have BE : xC.cell? ⟨cA, 2, none⟩ = some (.slice jA fA.length kA) := (blk_cell aA.out 2).trans rfl; have CE : xC.cell? ⟨cA, 3, none⟩ = some (.slice lA gA.length mA) := (blk_cell aA.out 3).trans rfl; have DE : xC.cell? ⟨cA, 4, none⟩ = some (.int .i64 oA) := (blk_cell aA.out 4).trans rfl; have EE := blk_frozen aA.out 0; have FE := blk_frozen aA.out 1; have GE := blk_frozen aA.out 2; have HE := blk_frozen aA.out 3; have IE := blk_frozen aA.out 4; have JE : xC.cell? ⟨dA, 0, none⟩ = some (.int .i64 zA) := (blk_cell bA.out 0).trans rfl; have KE : xC.cell? ⟨dA, 1, none⟩ = some (.int .i64 AA) := (blk_cell bA.out 1).trans rfl; have LE : xC.cell? ⟨dA, 2, none⟩ = some (.slice BA uA.length CA) := (blk_cell bA.out 2).trans rfl; have ME : xC.cell? ⟨dA, 3, none⟩ = some (.slice PA vA.length QA) := (blk_cell bA.out 3).trans rfl; have NE : xC.cell? ⟨dA, 4, none⟩ = some (.int .i64 yA) := (blk_cell bA.out 4).trans rfl; have OE := blk_frozen bA.out 0; have PE := blk_frozen bA.out 1; have QE := blk_frozen bA.out 2; have RE := blk_frozen bA.out 3; have SE := blk_frozen bA.out 4) | ((with_reducible refine gate_callee (f := 16) rfl ?_); refine goesL_ (some 25) rfl rfl Try.func16 q3_21 rfl #[.slice lA gA.length mA, .slice PA vA.length QA] rfl q3_3 ?_; (with_reducible refine (laws_eqThreadS.calls k _ _ gA _ _ vA true _ ?side1 ?side2 ?side3 ?side4 A7.out).mono ?_); (case side1 => exact q3_16); (case side2 => exact NB.out); (case side3 => exact q3_17); (case side4 => exact tC.out); rintro e yC ⟨rfl, hb⟩; refine ⟨_, rfl, ?_⟩; have pA := Aside0.mk (blk_below (g := cA) (o := .cells #[.int .i64 qA, .int .i64 hA, .slice jA fA.length kA, .slice lA gA.length mA, .int .i64 oA] 29 (0, 0)) q3_1 hb); have wA := Aside0.mk (blk_below (g := dA) (o := .cells #[.int .i64 zA, .int .i64 AA, .slice BA uA.length CA, .slice PA vA.length QA, .int .i64 yA] 29 (0, 0)) q3_12 hb); have xA := Aside0.mk (below_step q3_4 hb); clear aA; clear bA; clear HB; have aA := pA; have bA := wA; have HB := xA; clear pA wA xA; (try clear hb); (try clear hb2); (try clear hk); (try clear hi); have TE : yC.cell? ⟨cA, 0, none⟩ = some (.int .i64 qA) := (blk_cell aA.out 0).trans rfl; have UE : yC.cell? ⟨cA, 1, none⟩ = some (.int .i64 hA) := (blk_cell aA.out 1).trans rfl; have VE : yC.cell? ⟨cA, 2, none⟩ = some (.slice jA fA.length kA) := (blk_cell aA.out 2).trans rfl; have WE : yC.cell? ⟨cA, 3, none⟩ = some (.slice lA gA.length mA) := (blk_cell aA.out 3).trans rfl; have XE : yC.cell? ⟨cA, 4, none⟩ = some (.int .i64 oA) := (blk_cell aA.out 4).trans rfl; have YE := blk_frozen aA.out 0; have ZE := blk_frozen aA.out 1; have aF := blk_frozen aA.out 2; have bF := blk_frozen aA.out 3; have cF := blk_frozen aA.out 4; have dF : yC.cell? ⟨dA, 0, none⟩ = some (.int .i64 zA) := (blk_cell bA.out 0).trans rfl; have eF : yC.cell? ⟨dA, 1, none⟩ = some (.int .i64 AA) := (blk_cell bA.out 1).trans rfl; have fF : yC.cell? ⟨dA, 2, none⟩ = some (.slice BA uA.length CA) := (blk_cell bA.out 2).trans rfl; have gF : yC.cell? ⟨dA, 3, none⟩ = some (.slice PA vA.length QA) := (blk_cell bA.out 3).trans rfl; have hF : yC.cell? ⟨dA, 4, none⟩ = some (.int .i64 yA) := (blk_cell bA.out 4).trans rfl; have iF := blk_frozen bA.out 0; have jF := blk_frozen bA.out 1; have kF := blk_frozen bA.out 2; have lF := blk_frozen bA.out 3; have mF := blk_frozen bA.out 4))
      go_ret
      exact ⟨q3_5, q3_4⟩
    ·replace c8 := Bool.eq_false_iff.mpr c8
     subst c8
     have H1 : (some false) = some r := by rw [if_neg (show ¬ (false = true) by decide)] at H; exact H
     clear H
     have H := H1
     clear H1
     obtain rfl := Option.some.inj H
     go_enter Try.func15, Try.ntmps15
     go_wp2_with (first | ((with_reducible refine gate_dst (N := 2) rfl ?_); refine box_event ?hg (N := 2) ?hd (cs := #[.int .i64 qA, .int .i64 hA, .slice jA fA.length kA, .slice lA gA.length mA, .int .i64 oA]) (t := 29) ?hr ?_; (case hd => rfl); (case hg => rfl); (case hr => first | (go_simp; done) | (go_simp; rfl)); intro cA hg ZH hbox hb; have pA := Aside0.mk (below_step q3_0 hb); have wA := Aside0.mk (hbox); have xA := Aside0.mk ((q3_11 : w.heap.size ≤ cA)); have OA := Aside0.mk ((q3_11 : w.heap.size ≤ cA)); clear HB; have HB := pA; have aA := wA; have eC := xA; have tB := OA; clear pA wA xA OA; clear hb hbox hg) | ((with_reducible refine gate_dst (N := 3) rfl ?_); refine box_event ?hg (N := 3) ?hd (cs := #[.int .i64 zA, .int .i64 AA, .slice BA uA.length CA, .slice PA vA.length QA, .int .i64 yA]) (t := 29) ?hr ?_; (case hd => rfl); (case hg => rfl); (case hr => first | (go_simp; done) | (go_simp; rfl)); intro dA hg zC hbox hb; have pA := Aside0.mk (blk_below (g := cA) (o := .cells #[.int .i64 qA, .int .i64 hA, .slice jA fA.length kA, .slice lA gA.length mA, .int .i64 oA] 29 (0, 0)) q3_1 hb); have wA := Aside0.mk (below_step q3_2 hb); have xA := Aside0.mk (hbox); have OA := Aside0.mk ((q3_19 : w.heap.size ≤ dA)); have IB := Aside0.mk ((q3_19 : w.heap.size ≤ dA)); have JB := Aside0.mk ((q3_7 : cA ≠ dA)); have KB := Aside0.mk ((q3_8 : dA ≠ cA)); clear aA; clear HB; have aA := pA; have HB := wA; have bA := xA; have fC := OA; have MB := IB; have rA := JB; have sA := KB; clear pA wA xA OA IB JB KB; clear hb hbox hg; have LH := rA.out; have MH := sA.out; have nF : zC.cell? ⟨cA, 0, none⟩ = some (.int .i64 qA) := (blk_cell aA.out 0).trans rfl; have oF : zC.cell? ⟨cA, 1, none⟩ = some (.int .i64 hA) := (blk_cell aA.out 1).trans rfl; have pF : zC.cell? ⟨cA, 2, none⟩ = some (.slice jA fA.length kA) := (blk_cell aA.out 2).trans rfl; have qF : zC.cell? ⟨cA, 3, none⟩ = some (.slice lA gA.length mA) := (blk_cell aA.out 3).trans rfl; have rF : zC.cell? ⟨cA, 4, none⟩ = some (.int .i64 oA) := (blk_cell aA.out 4).trans rfl; have sF := blk_frozen aA.out 0; have tF := blk_frozen aA.out 1; have uF := blk_frozen aA.out 2; have vF := blk_frozen aA.out 3; have wF := blk_frozen aA.out 4; have xF : zC.cell? ⟨dA, 0, none⟩ = some (.int .i64 zA) := (blk_cell bA.out 0).trans rfl; have yF : zC.cell? ⟨dA, 1, none⟩ = some (.int .i64 AA) := (blk_cell bA.out 1).trans rfl; have zF : zC.cell? ⟨dA, 2, none⟩ = some (.slice BA uA.length CA) := (blk_cell bA.out 2).trans rfl; have AF : zC.cell? ⟨dA, 3, none⟩ = some (.slice PA vA.length QA) := (blk_cell bA.out 3).trans rfl; have BF : zC.cell? ⟨dA, 4, none⟩ = some (.int .i64 yA) := (blk_cell bA.out 4).trans rfl; have CF := blk_frozen bA.out 0; have DF := blk_frozen bA.out 1; have EF := blk_frozen bA.out 2; have FF := blk_frozen bA.out 3; have GF := blk_frozen bA.out 4) | ((with_reducible refine gate_callee (f := 52) rfl ?_); refine goesL_ (some 19) rfl rfl Try.func52 q3_21 rfl #[.agg #[.slice jA fA.length kA], .agg #[.slice BA uA.length CA]] rfl q3_3 ?_; (with_reducible refine (laws_eqMem.calls k _ _ fA _ _ uA true _ ?side1 ?side2 ?side3 ?side4 A5.out).mono ?_); (case side1 => exact q3_14); (case side2 => exact sB.out); (case side3 => exact q3_15); (case side4 => exact nC.out); rintro e AC ⟨rfl, hb⟩; refine ⟨_, rfl, ?_⟩; have pA := Aside0.mk (blk_below (g := cA) (o := .cells #[.int .i64 qA, .int .i64 hA, .slice jA fA.length kA, .slice lA gA.length mA, .int .i64 oA] 29 (0, 0)) q3_1 hb); have wA := Aside0.mk (blk_below (g := dA) (o := .cells #[.int .i64 zA, .int .i64 AA, .slice BA uA.length CA, .slice PA vA.length QA, .int .i64 yA] 29 (0, 0)) q3_12 hb); have xA := Aside0.mk (below_step q3_4 hb); clear aA; clear bA; clear HB; have aA := pA; have bA := wA; have HB := xA; clear pA wA xA; (try clear hb); (try clear hb2); (try clear hk); (try clear hi); have HF : AC.cell? ⟨cA, 0, none⟩ = some (.int .i64 qA) := (blk_cell aA.out 0).trans rfl; have IF : AC.cell? ⟨cA, 1, none⟩ = some (.int .i64 hA) := (blk_cell aA.out 1).trans rfl; have JF : AC.cell? ⟨cA, 2, none⟩ = some (.slice jA fA.length kA) := (blk_cell aA.out 2).trans rfl; have KF : AC.cell? ⟨cA, 3, none⟩ = some (.slice lA gA.length mA) := (blk_cell aA.out 3).trans rfl; have LF : AC.cell? ⟨cA, 4, none⟩ = some (.int .i64 oA) := (blk_cell aA.out 4).trans rfl; have MF := blk_frozen aA.out 0; have NF := blk_frozen aA.out 1; have OF := blk_frozen aA.out 2; have PF := blk_frozen aA.out 3; have QF := blk_frozen aA.out 4; have RF : AC.cell? ⟨dA, 0, none⟩ = some (.int .i64 zA) := (blk_cell bA.out 0).trans rfl; have SF : AC.cell? ⟨dA, 1, none⟩ = some (.int .i64 AA) := (blk_cell bA.out 1).trans rfl; have TF : AC.cell? ⟨dA, 2, none⟩ = some (.slice BA uA.length CA) := (blk_cell bA.out 2).trans rfl; have UF : AC.cell? ⟨dA, 3, none⟩ = some (.slice PA vA.length QA) := (blk_cell bA.out 3).trans rfl; have VF : AC.cell? ⟨dA, 4, none⟩ = some (.int .i64 yA) := (blk_cell bA.out 4).trans rfl; have WF := blk_frozen bA.out 0; have XF := blk_frozen bA.out 1; have YF := blk_frozen bA.out 2; have ZF := blk_frozen bA.out 3; have aG := blk_frozen bA.out 4) | ((with_reducible refine gate_callee (f := 16) rfl ?_); refine goesL_ (some 25) rfl rfl Try.func16 q3_21 rfl #[.slice lA gA.length mA, .slice PA vA.length QA] rfl q3_3 ?_; (with_reducible refine (laws_eqThreadS.calls k _ _ gA _ _ vA false _ ?side1 ?side2 ?side3 ?side4 A7.out).mono ?_); (case side1 => exact q3_16); (case side2 => exact NB.out); (case side3 => exact q3_17); (case side4 => exact tC.out); rintro e aI ⟨rfl, hb⟩; refine ⟨_, rfl, ?_⟩; have pA := Aside0.mk (blk_below (g := cA) (o := .cells #[.int .i64 qA, .int .i64 hA, .slice jA fA.length kA, .slice lA gA.length mA, .int .i64 oA] 29 (0, 0)) q3_1 hb); have wA := Aside0.mk (blk_below (g := dA) (o := .cells #[.int .i64 zA, .int .i64 AA, .slice BA uA.length CA, .slice PA vA.length QA, .int .i64 yA] 29 (0, 0)) q3_12 hb); have xA := Aside0.mk (below_step q3_4 hb); clear aA; clear bA; clear HB; have aA := pA; have bA := wA; have HB := xA; clear pA wA xA; (try clear hb); (try clear hb2); (try clear hk); (try clear hi)))
     go_ret
     exact ⟨q3_5, q3_4⟩
   ·replace c6 := Bool.eq_false_iff.mpr c6
    subst c6
    have H1 : (some false) = some r := by rw [if_neg (show ¬ (false = true) by decide)] at H; exact H
    clear H
    have H := H1
    clear H1
    obtain rfl := Option.some.inj H
    go_enter Try.func15, Try.ntmps15
    go_wp2_with (first | ((with_reducible refine gate_dst (N := 2) rfl ?_); refine box_event ?hg (N := 2) ?hd (cs := #[.int .i64 qA, .int .i64 hA, .slice jA fA.length kA, .slice lA gA.length mA, .int .i64 oA]) (t := 29) ?hr ?_; (case hd => rfl); (case hg => rfl); (case hr => first | (go_simp; done) | (go_simp; rfl)); intro cA hg bI hbox hb; have pA := Aside0.mk (below_step q3_0 hb); have wA := Aside0.mk (hbox); have xA := Aside0.mk ((q3_11 : w.heap.size ≤ cA)); have OA := Aside0.mk ((q3_11 : w.heap.size ≤ cA)); clear HB; have HB := pA; have aA := wA; have eC := xA; have tB := OA; clear pA wA xA OA; clear hb hbox hg) | ((with_reducible refine gate_dst (N := 3) rfl ?_); refine box_event ?hg (N := 3) ?hd (cs := #[.int .i64 zA, .int .i64 AA, .slice BA uA.length CA, .slice PA vA.length QA, .int .i64 yA]) (t := 29) ?hr ?_; (case hd => rfl); (case hg => rfl); (case hr => first | (go_simp; done) | (go_simp; rfl)); intro dA hg BC hbox hb; have pA := Aside0.mk (blk_below (g := cA) (o := .cells #[.int .i64 qA, .int .i64 hA, .slice jA fA.length kA, .slice lA gA.length mA, .int .i64 oA] 29 (0, 0)) q3_1 hb); have wA := Aside0.mk (below_step q3_2 hb); have xA := Aside0.mk (hbox); have OA := Aside0.mk ((q3_19 : w.heap.size ≤ dA)); have IB := Aside0.mk ((q3_19 : w.heap.size ≤ dA)); have JB := Aside0.mk ((q3_7 : cA ≠ dA)); have KB := Aside0.mk ((q3_8 : dA ≠ cA)); clear aA; clear HB; have aA := pA; have HB := wA; have bA := xA; have fC := OA; have MB := IB; have rA := JB; have sA := KB; clear pA wA xA OA IB JB KB; clear hb hbox hg; have NH := rA.out; have OH := sA.out; have bG : BC.cell? ⟨cA, 0, none⟩ = some (.int .i64 qA) := (blk_cell aA.out 0).trans rfl; have cG : BC.cell? ⟨cA, 1, none⟩ = some (.int .i64 hA) := (blk_cell aA.out 1).trans rfl; have dG : BC.cell? ⟨cA, 2, none⟩ = some (.slice jA fA.length kA) := (blk_cell aA.out 2).trans rfl; have eG : BC.cell? ⟨cA, 3, none⟩ = some (.slice lA gA.length mA) := (blk_cell aA.out 3).trans rfl; have fG : BC.cell? ⟨cA, 4, none⟩ = some (.int .i64 oA) := (blk_cell aA.out 4).trans rfl; have gG := blk_frozen aA.out 0; have hG := blk_frozen aA.out 1; have iG := blk_frozen aA.out 2; have jG := blk_frozen aA.out 3; have kG := blk_frozen aA.out 4; have lG : BC.cell? ⟨dA, 0, none⟩ = some (.int .i64 zA) := (blk_cell bA.out 0).trans rfl; have mG : BC.cell? ⟨dA, 1, none⟩ = some (.int .i64 AA) := (blk_cell bA.out 1).trans rfl; have nG : BC.cell? ⟨dA, 2, none⟩ = some (.slice BA uA.length CA) := (blk_cell bA.out 2).trans rfl; have oG : BC.cell? ⟨dA, 3, none⟩ = some (.slice PA vA.length QA) := (blk_cell bA.out 3).trans rfl; have pG : BC.cell? ⟨dA, 4, none⟩ = some (.int .i64 yA) := (blk_cell bA.out 4).trans rfl; have qG := blk_frozen bA.out 0; have rG := blk_frozen bA.out 1; have sG := blk_frozen bA.out 2; have tG := blk_frozen bA.out 3; have uG := blk_frozen bA.out 4) | ((with_reducible refine gate_callee (f := 52) rfl ?_); refine goesL_ (some 19) rfl rfl Try.func52 q3_21 rfl #[.agg #[.slice jA fA.length kA], .agg #[.slice BA uA.length CA]] rfl q3_3 ?_; (with_reducible refine (laws_eqMem.calls k _ _ fA _ _ uA false _ ?side1 ?side2 ?side3 ?side4 A5.out).mono ?_); (case side1 => exact q3_14); (case side2 => exact sB.out); (case side3 => exact q3_15); (case side4 => exact nC.out); rintro e cI ⟨rfl, hb⟩; refine ⟨_, rfl, ?_⟩; have pA := Aside0.mk (blk_below (g := cA) (o := .cells #[.int .i64 qA, .int .i64 hA, .slice jA fA.length kA, .slice lA gA.length mA, .int .i64 oA] 29 (0, 0)) q3_1 hb); have wA := Aside0.mk (blk_below (g := dA) (o := .cells #[.int .i64 zA, .int .i64 AA, .slice BA uA.length CA, .slice PA vA.length QA, .int .i64 yA] 29 (0, 0)) q3_12 hb); have xA := Aside0.mk (below_step q3_4 hb); clear aA; clear bA; clear HB; have aA := pA; have bA := wA; have HB := xA; clear pA wA xA; (try clear hb); (try clear hb2); (try clear hk); (try clear hi)))
    go_ret
    exact ⟨q3_5, q3_4⟩
  ·rw [if_neg c4] at H
   have rC : (hA == AA) = false := beq_eq_false_iff_ne.mpr c4
   have wH : (hA != AA) = true := bne_iff_ne.mpr c4
   obtain rfl := Option.some.inj H
   go_enter Try.func15, Try.ntmps15
   go_wp2_with (first | ((with_reducible refine gate_dst (N := 2) rfl ?_); refine box_event ?hg (N := 2) ?hd (cs := #[.int .i64 qA, .int .i64 hA, .slice jA fA.length kA, .slice lA gA.length mA, .int .i64 oA]) (t := 29) ?hr ?_; (case hd => rfl); (case hg => rfl); (case hr => first | (go_simp; done) | (go_simp; rfl)); intro cA hg dI hbox hb; have pA := Aside0.mk (below_step q3_0 hb); have wA := Aside0.mk (hbox); have xA := Aside0.mk ((q3_11 : w.heap.size ≤ cA)); have OA := Aside0.mk ((q3_11 : w.heap.size ≤ cA)); clear HB; have HB := pA; have aA := wA; have eC := xA; have tB := OA; clear pA wA xA OA; clear hb hbox hg) | ((with_reducible refine gate_dst (N := 3) rfl ?_); refine box_event ?hg (N := 3) ?hd (cs := #[.int .i64 zA, .int .i64 AA, .slice BA uA.length CA, .slice PA vA.length QA, .int .i64 yA]) (t := 29) ?hr ?_; (case hd => rfl); (case hg => rfl); (case hr => first | (go_simp; done) | (go_simp; rfl)); intro dA hg CC hbox hb; have pA := Aside0.mk (blk_below (g := cA) (o := .cells #[.int .i64 qA, .int .i64 hA, .slice jA fA.length kA, .slice lA gA.length mA, .int .i64 oA] 29 (0, 0)) q3_1 hb); have wA := Aside0.mk (below_step q3_2 hb); have xA := Aside0.mk (hbox); have OA := Aside0.mk ((q3_19 : w.heap.size ≤ dA)); have IB := Aside0.mk ((q3_19 : w.heap.size ≤ dA)); have JB := Aside0.mk ((q3_7 : cA ≠ dA)); have KB := Aside0.mk ((q3_8 : dA ≠ cA)); clear aA; clear HB; have aA := pA; have HB := wA; have bA := xA; have fC := OA; have MB := IB; have rA := JB; have sA := KB; clear pA wA xA OA IB JB KB; clear hb hbox hg; have PH := rA.out; have QH := sA.out; have vG : CC.cell? ⟨cA, 0, none⟩ = some (.int .i64 qA) := (blk_cell aA.out 0).trans rfl; have wG : CC.cell? ⟨cA, 1, none⟩ = some (.int .i64 hA) := (blk_cell aA.out 1).trans rfl; have xG : CC.cell? ⟨cA, 2, none⟩ = some (.slice jA fA.length kA) := (blk_cell aA.out 2).trans rfl; have yG : CC.cell? ⟨cA, 3, none⟩ = some (.slice lA gA.length mA) := (blk_cell aA.out 3).trans rfl; have zG : CC.cell? ⟨cA, 4, none⟩ = some (.int .i64 oA) := (blk_cell aA.out 4).trans rfl; have AG := blk_frozen aA.out 0; have BG := blk_frozen aA.out 1; have CG := blk_frozen aA.out 2; have DG := blk_frozen aA.out 3; have EG := blk_frozen aA.out 4; have FG : CC.cell? ⟨dA, 0, none⟩ = some (.int .i64 zA) := (blk_cell bA.out 0).trans rfl; have GG : CC.cell? ⟨dA, 1, none⟩ = some (.int .i64 AA) := (blk_cell bA.out 1).trans rfl; have HG : CC.cell? ⟨dA, 2, none⟩ = some (.slice BA uA.length CA) := (blk_cell bA.out 2).trans rfl; have IG : CC.cell? ⟨dA, 3, none⟩ = some (.slice PA vA.length QA) := (blk_cell bA.out 3).trans rfl; have JG : CC.cell? ⟨dA, 4, none⟩ = some (.int .i64 yA) := (blk_cell bA.out 4).trans rfl; have KG := blk_frozen bA.out 0; have LG := blk_frozen bA.out 1; have MG := blk_frozen bA.out 2; have NG := blk_frozen bA.out 3; have OG := blk_frozen bA.out 4))
   go_ret
   exact ⟨q3_5, q3_4⟩
 ·rw [if_neg c3] at H
  have UB : (qA == zA) = false := beq_eq_false_iff_ne.mpr c3
  have FC : (qA != zA) = true := bne_iff_ne.mpr c3
  obtain rfl := Option.some.inj H
  go_enter Try.func15, Try.ntmps15
  go_wp2_with (first | ((with_reducible refine gate_dst (N := 2) rfl ?_); refine box_event ?hg (N := 2) ?hd (cs := #[.int .i64 qA, .int .i64 hA, .slice jA fA.length kA, .slice lA gA.length mA, .int .i64 oA]) (t := 29) ?hr ?_; (case hd => rfl); (case hg => rfl); (case hr => first | (go_simp; done) | (go_simp; rfl)); intro cA hg eI hbox hb; have pA := Aside0.mk (below_step q3_0 hb); have wA := Aside0.mk (hbox); have xA := Aside0.mk ((q3_11 : w.heap.size ≤ cA)); have OA := Aside0.mk ((q3_11 : w.heap.size ≤ cA)); clear HB; have HB := pA; have aA := wA; have eC := xA; have tB := OA; clear pA wA xA OA; clear hb hbox hg) | ((with_reducible refine gate_dst (N := 3) rfl ?_); refine box_event ?hg (N := 3) ?hd (cs := #[.int .i64 zA, .int .i64 AA, .slice BA uA.length CA, .slice PA vA.length QA, .int .i64 yA]) (t := 29) ?hr ?_; (case hd => rfl); (case hg => rfl); (case hr => first | (go_simp; done) | (go_simp; rfl)); intro dA hg DC hbox hb; have pA := Aside0.mk (blk_below (g := cA) (o := .cells #[.int .i64 qA, .int .i64 hA, .slice jA fA.length kA, .slice lA gA.length mA, .int .i64 oA] 29 (0, 0)) q3_1 hb); have wA := Aside0.mk (below_step q3_2 hb); have xA := Aside0.mk (hbox); have OA := Aside0.mk ((q3_19 : w.heap.size ≤ dA)); have IB := Aside0.mk ((q3_19 : w.heap.size ≤ dA)); have JB := Aside0.mk ((q3_7 : cA ≠ dA)); have KB := Aside0.mk ((q3_8 : dA ≠ cA)); clear aA; clear HB; have aA := pA; have HB := wA; have bA := xA; have fC := OA; have MB := IB; have rA := JB; have sA := KB; clear pA wA xA OA IB JB KB; clear hb hbox hg; have RH := rA.out; have SH := sA.out; have PG : DC.cell? ⟨cA, 0, none⟩ = some (.int .i64 qA) := (blk_cell aA.out 0).trans rfl; have QG : DC.cell? ⟨cA, 1, none⟩ = some (.int .i64 hA) := (blk_cell aA.out 1).trans rfl; have RG : DC.cell? ⟨cA, 2, none⟩ = some (.slice jA fA.length kA) := (blk_cell aA.out 2).trans rfl; have SG : DC.cell? ⟨cA, 3, none⟩ = some (.slice lA gA.length mA) := (blk_cell aA.out 3).trans rfl; have TG : DC.cell? ⟨cA, 4, none⟩ = some (.int .i64 oA) := (blk_cell aA.out 4).trans rfl; have UG := blk_frozen aA.out 0; have VG := blk_frozen aA.out 1; have WG := blk_frozen aA.out 2; have XG := blk_frozen aA.out 3; have YG := blk_frozen aA.out 4; have ZG : DC.cell? ⟨dA, 0, none⟩ = some (.int .i64 zA) := (blk_cell bA.out 0).trans rfl; have aH : DC.cell? ⟨dA, 1, none⟩ = some (.int .i64 AA) := (blk_cell bA.out 1).trans rfl; have bH : DC.cell? ⟨dA, 2, none⟩ = some (.slice BA uA.length CA) := (blk_cell bA.out 2).trans rfl; have cH : DC.cell? ⟨dA, 3, none⟩ = some (.slice PA vA.length QA) := (blk_cell bA.out 3).trans rfl; have dH : DC.cell? ⟨dA, 4, none⟩ = some (.int .i64 yA) := (blk_cell bA.out 4).trans rfl; have eH := blk_frozen bA.out 0; have fH := blk_frozen bA.out 1; have gH := blk_frozen bA.out 2; have hH := blk_frozen bA.out 3; have iH := blk_frozen bA.out 4))
  go_ret
  exact ⟨q3_5, q3_4⟩

/-! ### laws_szCallS: function 64 -/
def laws_szCallS.f (l0 : List (S106)) (a1 : Int) : Option (Int) := if (wrap64 (a1 - (l0.length : Int))) < 0 then (some (-1)) else (some (wrap64 (a1 - (l0.length : Int))))
set_option maxHeartbeats 8000000 in
set_option maxRecDepth 100000 in
theorem laws_szCallS.calls (A0 : Option Addr) (c0 : Nat) (l0 : List (S106)) (a1 : Int) (r : Int) (w : World) (hr0 : Kd.C k106 w A0 l0.length l0) (hc0 : l0.length ≤ c0) (h : laws_szCallS.f l0 a1 = some r) :
  Calls Try.prog 64 #[.slice A0 l0.length c0, .int .i64 a1] w fun e w' => e = .returned (.int .i64 r) ∧ Drawn0 w w' := by
 clear hr0 hc0
 have H : (if (wrap64 (a1 - (l0.length : Int))) < 0 then (some (-1)) else (some (wrap64 (a1 - (l0.length : Int))))) = some r := h
 clear h
 by_cases c3 : (wrap64 (a1 - (l0.length : Int))) < 0
 ·rw [if_pos c3] at H
  have UB : decide ((wrap64 (a1 - (l0.length : Int))) < 0) = true := decide_eq_true c3
  clear c3
  obtain rfl := Option.some.inj H
  go_enter Try.func64, Try.ntmps64
  go_wp2
  go_ret
  exact ⟨q3_22, by repeat (first | exact Drawn0.refl _ | apply Drawn0.step)⟩
 ·rw [if_neg c3] at H
  have UB : decide ((wrap64 (a1 - (l0.length : Int))) < 0) = false := decide_eq_false c3
  clear c3
  obtain rfl := Option.some.inj H
  go_enter Try.func64, Try.ntmps64
  go_wp2
  go_ret
  exact ⟨q3_22, by repeat (first | exact Drawn0.refl _ | apply Drawn0.step)⟩

/-! ### laws_szIntS: function 65 -/
def laws_szIntS.f (l0 : List Int) (a1 : Int) : Option (Int) := if (wrap64 (a1 - (l0.length : Int))) < 0 then (some (-1)) else (some (wrap64 (a1 - (l0.length : Int))))
set_option maxHeartbeats 8000000 in
set_option maxRecDepth 100000 in
theorem laws_szIntS.calls (A0 : Option Addr) (c0 : Nat) (l0 : List Int) (a1 : Int) (r : Int) (w : World) (hr0 : Kd.C (Kd.int .i64) w A0 l0.length l0) (hc0 : l0.length ≤ c0) (h : laws_szIntS.f l0 a1 = some r) :
  Calls Try.prog 65 #[.slice A0 l0.length c0, .int .i64 a1] w fun e w' => e = .returned (.int .i64 r) ∧ Drawn0 w w' := by
 clear hr0 hc0
 have H : (if (wrap64 (a1 - (l0.length : Int))) < 0 then (some (-1)) else (some (wrap64 (a1 - (l0.length : Int))))) = some r := h
 clear h
 by_cases c3 : (wrap64 (a1 - (l0.length : Int))) < 0
 ·rw [if_pos c3] at H
  have UB : decide ((wrap64 (a1 - (l0.length : Int))) < 0) = true := decide_eq_true c3
  clear c3
  obtain rfl := Option.some.inj H
  go_enter Try.func65, Try.ntmps65
  go_wp2
  go_ret
  exact ⟨q3_22, by repeat (first | exact Drawn0.refl _ | apply Drawn0.step)⟩
 ·rw [if_neg c3] at H
  have UB : decide ((wrap64 (a1 - (l0.length : Int))) < 0) = false := decide_eq_false c3
  clear c3
  obtain rfl := Option.some.inj H
  go_enter Try.func65, Try.ntmps65
  go_wp2
  go_ret
  exact ⟨q3_22, by repeat (first | exact Drawn0.refl _ | apply Drawn0.step)⟩

/-! ### laws_szThread: function 29 -/
def laws_szThread.f (nA : List (S106)) (hA : Int) (fA : List Int) (gA : List Int) (a1 : Int) : Option (Int) := (laws_szCallS.f nA a1).bind fun SA => (if SA < 0 then (some (-1)) else ((laws_szIntS.f fA SA).bind fun TA => (if TA < 0 then (some (-1)) else ((laws_szIntS.f gA TA).bind fun UA => (if UA < 0 then (some (-1)) else (some UA))))))
set_option maxHeartbeats 8000000 in
set_option maxRecDepth 100000 in
theorem laws_szThread.calls (MA : Option Addr) (NA : Nat) (nA : List (S106)) (hA : Int) (jA : Option Addr) (kA : Nat) (fA : List Int) (lA : Option Addr) (mA : Nat) (gA : List Int) (a1 : Int) (r : Int) (w : World) (XB : Kd.C k106 w MA nA.length nA) (YB : nA.length ≤ NA) (aC : Kd.C (Kd.int .i64) w jA fA.length fA) (bC : fA.length ≤ kA) (cC : Kd.C (Kd.int .i64) w lA gA.length gA) (dC : gA.length ≤ mA) (h : laws_szThread.f nA hA fA gA a1 = some r) :
  Calls Try.prog 29 #[.agg #[.slice MA nA.length NA, .int .i64 hA, .slice jA fA.length kA, .slice lA gA.length mA], .int .i64 a1] w fun e w' => e = .returned (.int .i64 r) ∧ Below w.heap.size w w' := by
 have hu50 := Try.underlying50
 have WC := Aside0.mk XB
 have GB := Aside0.mk YB
 clear XB YB
 have qC := Aside0.mk aC
 have sB := Aside0.mk bC
 clear aC bC
 have jC := Aside0.mk cC
 have NB := Aside0.mk dC
 clear cC dC
 have HB := Aside0.mk (Below.refl w.heap.size w)
 have H : ((laws_szCallS.f nA a1).bind fun SA => (if SA < 0 then (some (-1)) else ((laws_szIntS.f fA SA).bind fun TA => (if TA < 0 then (some (-1)) else ((laws_szIntS.f gA TA).bind fun UA => (if UA < 0 then (some (-1)) else (some UA))))))) = some r := h
 clear h
 replace H := Option.bind_eq_some_iff.mp H
 obtain ⟨SA, A30, H⟩ := H
 replace H : (if SA < 0 then (some (-1)) else ((laws_szIntS.f fA SA).bind fun TA => (if TA < 0 then (some (-1)) else ((laws_szIntS.f gA TA).bind fun UA => (if UA < 0 then (some (-1)) else (some UA)))))) = some r := H
 have A3 := Aside0.mk A30
 clear A30
 by_cases c4 : SA < 0
 ·rw [if_pos c4] at H
  have rC : decide (SA < 0) = true := decide_eq_true c4
  clear c4
  obtain rfl := Option.some.inj H
  go_enter Try.func29, Try.ntmps29
  go_wp2_with (first | ((with_reducible refine gate_dst (N := 2) rfl ?_); refine box_event ?hg (N := 2) ?hd (cs := #[.slice MA nA.length NA, .int .i64 hA, .slice jA fA.length kA, .slice lA gA.length mA]) (t := 50) ?hr ?_; (case hd => rfl); (case hg => rfl); (case hr => first | (go_simp; done) | (go_simp; rfl)); intro tA hg w5 hbox hb; have pA := Aside0.mk (below_step q3_0 hb); have wA := Aside0.mk (hbox); have xA := Aside0.mk ((q3_11 : w.heap.size ≤ tA)); have OA := Aside0.mk ((q3_11 : w.heap.size ≤ tA)); clear HB; have HB := pA; have iA := wA; have uC := xA; have hC := OA; clear pA wA xA OA; clear hb hbox hg; have zH : w5.cell? ⟨tA, 0, none⟩ = some (.slice MA nA.length NA) := (blk_cell iA.out 0).trans rfl; have AH : w5.cell? ⟨tA, 1, none⟩ = some (.int .i64 hA) := (blk_cell iA.out 1).trans rfl; have BH : w5.cell? ⟨tA, 2, none⟩ = some (.slice jA fA.length kA) := (blk_cell iA.out 2).trans rfl; have CH : w5.cell? ⟨tA, 3, none⟩ = some (.slice lA gA.length mA) := (blk_cell iA.out 3).trans rfl; have DH := blk_frozen iA.out 0; have EH := blk_frozen iA.out 1; have FH := blk_frozen iA.out 2; have GH := blk_frozen iA.out 3) | ((with_reducible refine gate_callee (f := 64) rfl ?_); refine goesL_ (some 8) rfl rfl Try.func64 q3_21 rfl #[.slice MA nA.length NA, .int .i64 a1] rfl q3_3 ?_; (with_reducible refine (laws_szCallS.calls _ _ nA a1 SA _ ?side1 ?side2 A3.out).mono ?_); (case side1 => exact q3_9); (case side2 => exact GB.out); rintro e w' ⟨rfl, ⟨nd, rfl⟩⟩; refine ⟨_, rfl, ?_⟩))
  go_ret
  exact ⟨q3_5, q3_6⟩
 ·rw [if_neg c4] at H
  have rC : decide (SA < 0) = false := decide_eq_false c4
  clear c4
  replace H := Option.bind_eq_some_iff.mp H
  obtain ⟨TA, A70, H⟩ := H
  replace H : (if TA < 0 then (some (-1)) else ((laws_szIntS.f gA TA).bind fun UA => (if UA < 0 then (some (-1)) else (some UA)))) = some r := H
  have A7 := Aside0.mk A70
  clear A70
  by_cases c8 : TA < 0
  ·rw [if_pos c8] at H
   have HH : decide (TA < 0) = true := decide_eq_true c8
   clear c8
   obtain rfl := Option.some.inj H
   go_enter Try.func29, Try.ntmps29
   go_wp2_with (first | ((with_reducible refine gate_dst (N := 2) rfl ?_); refine box_event ?hg (N := 2) ?hd (cs := #[.slice MA nA.length NA, .int .i64 hA, .slice jA fA.length kA, .slice lA gA.length mA]) (t := 50) ?hr ?_; (case hd => rfl); (case hg => rfl); (case hr => first | (go_simp; done) | (go_simp; rfl)); intro tA hg w9 hbox hb; have pA := Aside0.mk (below_step q3_0 hb); have wA := Aside0.mk (hbox); have xA := Aside0.mk ((q3_11 : w.heap.size ≤ tA)); have OA := Aside0.mk ((q3_11 : w.heap.size ≤ tA)); clear HB; have HB := pA; have iA := wA; have uC := xA; have hC := OA; clear pA wA xA OA; clear hb hbox hg; have jH : w9.cell? ⟨tA, 0, none⟩ = some (.slice MA nA.length NA) := (blk_cell iA.out 0).trans rfl; have kH : w9.cell? ⟨tA, 1, none⟩ = some (.int .i64 hA) := (blk_cell iA.out 1).trans rfl; have lH : w9.cell? ⟨tA, 2, none⟩ = some (.slice jA fA.length kA) := (blk_cell iA.out 2).trans rfl; have mH : w9.cell? ⟨tA, 3, none⟩ = some (.slice lA gA.length mA) := (blk_cell iA.out 3).trans rfl; have nH := blk_frozen iA.out 0; have oH := blk_frozen iA.out 1; have pH := blk_frozen iA.out 2; have qH := blk_frozen iA.out 3) | ((with_reducible refine gate_callee (f := 64) rfl ?_); refine goesL_ (some 8) rfl rfl Try.func64 q3_21 rfl #[.slice MA nA.length NA, .int .i64 a1] rfl q3_3 ?_; (with_reducible refine (laws_szCallS.calls _ _ nA a1 SA _ ?side1 ?side2 A3.out).mono ?_); (case side1 => exact q3_9); (case side2 => exact GB.out); rintro e w' ⟨rfl, ⟨nd, rfl⟩⟩; refine ⟨_, rfl, ?_⟩) | ((with_reducible refine gate_callee (f := 65) rfl ?_); refine goesL_ (some 14) rfl rfl Try.func65 q3_21 rfl #[.slice jA fA.length kA, .int .i64 SA] rfl q3_3 ?_; (with_reducible refine (laws_szIntS.calls _ _ fA SA TA _ ?side1 ?side2 A7.out).mono ?_); (case side1 => exact q3_18); (case side2 => exact sB.out); rintro e w' ⟨rfl, ⟨nd, rfl⟩⟩; refine ⟨_, rfl, ?_⟩))
   go_ret
   exact ⟨q3_5, q3_6⟩
  ·rw [if_neg c8] at H
   have HH : decide (TA < 0) = false := decide_eq_false c8
   clear c8
   replace H := Option.bind_eq_some_iff.mp H
   obtain ⟨UA, A110, H⟩ := H
   replace H : (if UA < 0 then (some (-1)) else (some UA)) = some r := H
   have A11 := Aside0.mk A110
   clear A110
   by_cases c12 : UA < 0
   ·rw [if_pos c12] at H
    have oD : decide (UA < 0) = true := decide_eq_true c12
    clear c12
    obtain rfl := Option.some.inj H
    go_enter Try.func29, Try.ntmps29
    go_wp2_with (first | ((with_reducible refine gate_dst (N := 2) rfl ?_); refine box_event ?hg (N := 2) ?hd (cs := #[.slice MA nA.length NA, .int .i64 hA, .slice jA fA.length kA, .slice lA gA.length mA]) (t := 50) ?hr ?_; (case hd => rfl); (case hg => rfl); (case hr => first | (go_simp; done) | (go_simp; rfl)); intro tA hg rH hbox hb; have pA := Aside0.mk (below_step q3_0 hb); have wA := Aside0.mk (hbox); have xA := Aside0.mk ((q3_11 : w.heap.size ≤ tA)); have OA := Aside0.mk ((q3_11 : w.heap.size ≤ tA)); clear HB; have HB := pA; have iA := wA; have uC := xA; have hC := OA; clear pA wA xA OA; clear hb hbox hg; have lC : rH.cell? ⟨tA, 0, none⟩ = some (.slice MA nA.length NA) := (blk_cell iA.out 0).trans rfl; have IC : rH.cell? ⟨tA, 1, none⟩ = some (.int .i64 hA) := (blk_cell iA.out 1).trans rfl; have JC : rH.cell? ⟨tA, 2, none⟩ = some (.slice jA fA.length kA) := (blk_cell iA.out 2).trans rfl; have KC : rH.cell? ⟨tA, 3, none⟩ = some (.slice lA gA.length mA) := (blk_cell iA.out 3).trans rfl; have mC := blk_frozen iA.out 0; have LC := blk_frozen iA.out 1; have MC := blk_frozen iA.out 2; have NC := blk_frozen iA.out 3) | ((with_reducible refine gate_callee (f := 64) rfl ?_); refine goesL_ (some 8) rfl rfl Try.func64 q3_21 rfl #[.slice MA nA.length NA, .int .i64 a1] rfl q3_3 ?_; (with_reducible refine (laws_szCallS.calls _ _ nA a1 SA _ ?side1 ?side2 A3.out).mono ?_); (case side1 => exact q3_9); (case side2 => exact GB.out); rintro e w' ⟨rfl, ⟨nd, rfl⟩⟩; refine ⟨_, rfl, ?_⟩) | ((with_reducible refine gate_callee (f := 65) rfl ?_); refine goesL_ (some 14) rfl rfl Try.func65 q3_21 rfl #[.slice jA fA.length kA, .int .i64 SA] rfl q3_3 ?_; (with_reducible refine (laws_szIntS.calls _ _ fA SA TA _ ?side1 ?side2 A7.out).mono ?_); (case side1 => exact q3_18); (case side2 => exact sB.out); rintro e w' ⟨rfl, ⟨nd, rfl⟩⟩; refine ⟨_, rfl, ?_⟩) | ((with_reducible refine gate_callee (f := 65) rfl ?_); refine goesL_ (some 20) rfl rfl Try.func65 q3_21 rfl #[.slice lA gA.length mA, .int .i64 TA] rfl q3_3 ?_; (with_reducible refine (laws_szIntS.calls _ _ gA TA UA _ ?side1 ?side2 A11.out).mono ?_); (case side1 => repeat (first | exact (Kd.C_below jC.out q3_6) | (with_reducible refine Kd.C_alloc ?_ _) | (with_reducible refine Kd.C_drewN ?_ _) | (with_reducible refine Kd.C_drew ?_))); (case side2 => exact NB.out); rintro e w' ⟨rfl, ⟨nd, rfl⟩⟩; refine ⟨_, rfl, ?_⟩))
    go_ret
    exact ⟨q3_5, q3_6⟩
   ·rw [if_neg c12] at H
    have oD : decide (UA < 0) = false := decide_eq_false c12
    clear c12
    obtain rfl := Option.some.inj H
    go_enter Try.func29, Try.ntmps29
    go_wp2_with (first | ((with_reducible refine gate_dst (N := 2) rfl ?_); refine box_event ?hg (N := 2) ?hd (cs := #[.slice MA nA.length NA, .int .i64 hA, .slice jA fA.length kA, .slice lA gA.length mA]) (t := 50) ?hr ?_; (case hd => rfl); (case hg => rfl); (case hr => first | (go_simp; done) | (go_simp; rfl)); intro tA hg gC hbox hb; have pA := Aside0.mk (below_step q3_0 hb); have wA := Aside0.mk (hbox); have xA := Aside0.mk ((q3_11 : w.heap.size ≤ tA)); have OA := Aside0.mk ((q3_11 : w.heap.size ≤ tA)); clear HB; have HB := pA; have iA := wA; have uC := xA; have hC := OA; clear pA wA xA OA; clear hb hbox hg; have OC : gC.cell? ⟨tA, 0, none⟩ = some (.slice MA nA.length NA) := (blk_cell iA.out 0).trans rfl; have PC : gC.cell? ⟨tA, 1, none⟩ = some (.int .i64 hA) := (blk_cell iA.out 1).trans rfl; have QC : gC.cell? ⟨tA, 2, none⟩ = some (.slice jA fA.length kA) := (blk_cell iA.out 2).trans rfl; have RC : gC.cell? ⟨tA, 3, none⟩ = some (.slice lA gA.length mA) := (blk_cell iA.out 3).trans rfl; have SC := blk_frozen iA.out 0; have TC := blk_frozen iA.out 1; have UC := blk_frozen iA.out 2; have VC := blk_frozen iA.out 3) | ((with_reducible refine gate_callee (f := 64) rfl ?_); refine goesL_ (some 8) rfl rfl Try.func64 q3_21 rfl #[.slice MA nA.length NA, .int .i64 a1] rfl q3_3 ?_; (with_reducible refine (laws_szCallS.calls _ _ nA a1 SA _ ?side1 ?side2 A3.out).mono ?_); (case side1 => exact q3_9); (case side2 => exact GB.out); rintro e w' ⟨rfl, ⟨nd, rfl⟩⟩; refine ⟨_, rfl, ?_⟩) | ((with_reducible refine gate_callee (f := 65) rfl ?_); refine goesL_ (some 14) rfl rfl Try.func65 q3_21 rfl #[.slice jA fA.length kA, .int .i64 SA] rfl q3_3 ?_; (with_reducible refine (laws_szIntS.calls _ _ fA SA TA _ ?side1 ?side2 A7.out).mono ?_); (case side1 => exact q3_18); (case side2 => exact sB.out); rintro e w' ⟨rfl, ⟨nd, rfl⟩⟩; refine ⟨_, rfl, ?_⟩) | ((with_reducible refine gate_callee (f := 65) rfl ?_); refine goesL_ (some 20) rfl rfl Try.func65 q3_21 rfl #[.slice lA gA.length mA, .int .i64 TA] rfl q3_3 ?_; (with_reducible refine (laws_szIntS.calls _ _ gA TA UA _ ?side1 ?side2 A11.out).mono ?_); (case side1 => repeat (first | exact (Kd.C_below jC.out q3_6) | (with_reducible refine Kd.C_alloc ?_ _) | (with_reducible refine Kd.C_drewN ?_ _) | (with_reducible refine Kd.C_drew ?_))); (case side2 => exact NB.out); rintro e w' ⟨rfl, ⟨nd, rfl⟩⟩; refine ⟨_, rfl, ?_⟩))
    go_ret
    exact ⟨q3_5, q3_6⟩

end Go.Proofs.Ytndkfjecipjiaaa.PFnExactCrewOk
